/- Plain law of links. -/
set_option linter.unusedVariables false
set_option linter.unusedSimpArgs false
namespace Mg
abbrev Bs:=List UInt8

/-- begins a text with another one? -/
def pre (p l : Bs) : Bool:=l.take p.length == p
def isLet (c : UInt8) : Bool:=(97≤c && c≤122) || (65≤c && c≤90)
def isDig (c : UInt8) : Bool:=48≤c && c≤57
def schTail (c : UInt8) : Bool:=isDig c || c == 43 || c == 45 || c == 46
def schAt (i : Nat) (c : UInt8) : Bool:=isLet c || (decide (0 < i) && schTail c)
def schFrom : Nat→Bs→Nat
 | _,[]=>0
 | i,c :: t=>if c == 58 then i else if schAt i c then schFrom (i + 1) t else 0
def schOf (s : Bs) : Nat:=schFrom 0 s

theorem schFrom_at (s : Bs) : ∀ k,schFrom k s = 0 ∨ ∃ j,schFrom k s = k + j∧s[j]? = some 58:=by
 induction s with
 | nil=>intro k;exact .inl rfl
 | cons c t ih =>
  intro k
  unfold schFrom
  by_cases h : c == 58
  ·rw [if_pos h]
   exact .inr ⟨0,rfl,by simpa using h⟩
  ·rw [if_neg h]
   by_cases ha : schAt k c = true
   ·rw [if_pos ha]
    rcases ih (k + 1) with h0 | ⟨j,hj,hs⟩
    ·exact .inl h0
    ·exact .inr ⟨j + 1,by rw [hj];omega,by simpa using hs⟩
   ·rw [if_neg ha]
    exact .inl rfl
theorem schOf_at (s : Bs) (h : schOf s ≠ 0) : s[schOf s]? = some 58:=by
 rcases schFrom_at s 0 with h0 | ⟨j,hj,hs⟩
 ·exact absurd h0 h
 ·unfold schOf;rw [hj,Nat.zero_add];exact hs
/-! The program's scheme: the first of ':/?#'. -/
def isStop (c : UInt8) : Bool:=c == 58 || c == 47 || c == 63 || c == 35
def allAt : Nat→Nat→Bs→Bool
 | 0,_,_=>true
 | _ + 1,_,[]=>true
 | n + 1,i,c :: t=>schAt i c && allAt n (i + 1) t
theorem schAt_stop (i : Nat) (c : UInt8) (h : isStop c = true) : schAt i c = false:=by
 unfold isStop at h
 simp only [Bool.or_eq_true,beq_iff_eq] at h
 rcases h with ((h | h) | h) | h <;> subst h <;> cases i <;> simp [schAt,isLet,schTail,isDig] <;> decide
theorem schFrom_eq (s : Bs) : ∀ k,schFrom k s = if s[s.findIdx isStop]? = some 58∧allAt (s.findIdx isStop) k s = true then k + s.findIdx isStop else 0:=by
 induction s with
 | nil=>intro k;simp [schFrom]
 | cons c t ih =>
  intro k
  unfold schFrom
  by_cases h : isStop c = true
  ·rw [List.findIdx_cons]
   simp only [h,cond_true,List.getElem?_cons_zero]
   by_cases h58 : c = 58
   ·simp [h58,allAt]
   ·simp [h58,schAt_stop k c h]
  ·rw [List.findIdx_cons]
   simp only [h,cond_false,List.getElem?_cons_succ,allAt]
   have h58 : ¬ c = 58:=by intro e;subst e;simp [isStop] at h
   rw [ih (k + 1)]
   by_cases ha : schAt k c = true
   ·simp only [h58,ha,beq_iff_eq,if_true,if_false,Bool.true_and,Nat.add_assoc,Nat.add_comm 1]
   ·simp [h58,ha]
theorem schOf_eq (s : Bs) : schOf s = if s[s.findIdx isStop]? = some 58∧allAt (s.findIdx isStop) 0 s = true then s.findIdx isStop else 0:=by
 have:=schFrom_eq s 0
 simpa [schOf] using this
/-- a link in parts. -/
structure U where
 (sch au pa qu fr : Bs)
 (hs ha hq hf : Bool)
 deriving DecidableEq

def nilU : U:=⟨[],[],[],[],[],false,false,false,false⟩

def stopA (c : UInt8) : Bool:=c == 47 || c == 63 || c == 35
def stopP (c : UInt8) : Bool:=c == 63 || c == 35
def stopQ (c : UInt8) : Bool:=c == 35
def upto (p : UInt8→Bool) (s : Bs) : Bs:=s.takeWhile (fun c=>!p c)
def past (p : UInt8→Bool) (s : Bs) : Bs:=s.dropWhile (fun c=>!p c)
theorem past_head (p : UInt8→Bool) (s : Bs) : past p s = [] ∨ ∃ c t,past p s = c :: t∧p c = true:=by
 unfold past
 induction s with
 | nil=>simp
 | cons c t ih =>
  rw [List.dropWhile_cons]
  by_cases h : p c = true
  ·simp [h]
  ·simpa [h] using ih

/-- what begins with a byte, without it. -/
def isAt (c : UInt8) : Bs→Bool | d :: _=>d == c | []=>false
def sl2 (s : Bs) : Bool:=s.take 2 == [47,47]

def afterSch (s : Bs) : Bs:=if schOf s = 0 then s else s.drop (schOf s + 1)
def afterAu (r : Bs) : Bs:=if sl2 r then past stopA (r.drop 2) else r
def afterQu (r : Bs) : Bs:=if isAt 63 r then past stopQ r.tail else r
def split (s : Bs) : U :=
 let r1:=afterSch s
 let r2:=afterAu r1
 let r3:=past stopP r2
 let r4:=afterQu r3
 {sch:=if schOf s = 0 then [] else s.take (schOf s),hs:=decide (schOf s ≠ 0),
  au:=if sl2 r1 then upto stopA (r1.drop 2) else [],ha:=sl2 r1,
  pa:=upto stopP r2,
  qu:=if isAt 63 r3 then upto stopQ r3.tail else [],hq:=isAt 63 r3,
  fr:=r4.tail,hf:=isAt 35 r4 }

def join (u : U) : Bs :=
 (if u.hs then u.sch++[58] else [])++(if u.ha then [47,47]++u.au else [])++u.pa++(if u.hq then [63]++u.qu else [])++(if u.hf then [35]++u.fr else [])

theorem r4_form (r : Bs) : (∀ c t,r = c :: t→stopP c = true)→afterQu r = [] ∨ isAt 35 (afterQu r) = true:=by
 intro h
 unfold afterQu
 by_cases h63 : isAt 63 r = true
 ·rw [if_pos h63]
  rcases past_head stopQ r.tail with h0 | ⟨c,t,e,hc⟩
  ·exact .inl h0
  ·right;rw [e];simpa [isAt,stopQ] using hc
 ·rw [if_neg h63]
  cases r with
  | nil=>exact .inl rfl
  | cons c t =>
   right
   have:=h c t rfl
   simp only [stopP,Bool.or_eq_true,beq_iff_eq] at this
   rcases this with e | e
   ·subst e;exact absurd rfl h63
   ·subst e;rfl

/-! Dots. -/
/-- one step: whether the last part goes, what is left, what comes. -/
def dmove (i : Bs) : Bool × Bs × Bs :=
 if i.take 3 = [46,46,47] then (false,i.drop 3,[])
 else if i.take 2 = [46,47] then (false,i.drop 2,[])
 else if i.take 3 = [47,46,47] then (false,i.drop 2,[])
 else if i = [47,46] then (false,[47],[])
 else if i.take 4 = [47,46,46,47] then (true,i.drop 3,[])
 else if i = [47,46,46] then (true,[47],[])
 else if i = [46] ∨ i = [46,46] then (false,[],[])
 else (false,i.tail.dropWhile (· != 47),i.take 1++i.tail.takeWhile (· != 47))
/-- out of a path, all from its last slash on. -/
def bk (o : Bs) : Bs:=(o.reverse.dropWhile (· != 47)).tail.reverse
def dotsN : Nat→Bs→Bs→Bs
 | 0,_,o=>o
 | n + 1,i,o=>if i = [] then o else dotsN n (dmove i).2.1 ((if (dmove i).1 then bk o else o)++(dmove i).2.2)
def dots (s : Bs) : Bs:=dotsN s.length s []

theorem dmove_less (i : Bs) (h : i ≠ []) : (dmove i).2.1.length < i.length:=by
 have hl : 0 < i.length:=List.length_pos_iff.2 h
 unfold dmove
 split
 ·simp only [List.length_drop];omega
 split
 ·simp only [List.length_drop];omega
 split
 ·simp only [List.length_drop];omega
 split
 ·rename_i e;subst e;simp
 split
 ·simp only [List.length_drop];omega
 split
 ·rename_i e;subst e;simp
 split
 ·simpa using hl
 ·have:=(List.dropWhile_suffix (l:=i.tail) (fun c : UInt8=>c != 47)).length_le
  simp at this
  show (i.tail.dropWhile (fun c : UInt8=>c != 47)).length < _
  omega
theorem dotsN_fuel (n : Nat) : ∀ m i o,i.length≤n→i.length≤m→dotsN n i o = dotsN m i o:=by
 induction n with
 | zero =>
  intro m i o h _
  have : i = []:=List.eq_nil_of_length_eq_zero (by omega)
  subst this
  cases m <;> simp [dotsN]
 | succ n ih =>
  intro m i o h hm
  by_cases hi : i = []
  ·subst hi;cases m <;> simp [dotsN]
  ·have:=dmove_less i hi
   cases m with
   | zero=>exfalso;exact hi (List.eq_nil_of_length_eq_zero (by omega))
   | succ m =>
    simp only [dotsN,hi,if_false]
    exact ih m _ _ (by omega) (by omega)
def dotsO (i o : Bs) : Bs:=dotsN i.length i o
theorem dotsO_nil (o : Bs) : dotsO [] o = o:=rfl
theorem dotsO_step (i o : Bs) (h : i ≠ []) : dotsO i o = dotsO (dmove i).2.1 ((if (dmove i).1 then bk o else o)++(dmove i).2.2):=by
 have hl:=dmove_less i h
 unfold dotsO
 obtain ⟨n,hn⟩ : ∃ n,i.length = n + 1:=⟨i.length - 1,by omega⟩
 rw [hn]
 simp only [dotsN,h,if_false]
 exact dotsN_fuel _ _ _ _ (by omega) (Nat.le_refl _)
/-- induction over a path's steps. -/
theorem dots_ind (Q : Bs→Bs→Prop) (h0 : ∀ o,Q [] o) (h1 : ∀ i o,i ≠ []→Q (dmove i).2.1 ((if (dmove i).1 then bk o else o)++(dmove i).2.2)→Q i o) : ∀ i o,Q i o:=by
 have : ∀ n i o,i.length≤n→Q i o:=by
  intro n
  induction n with
  | zero =>
   intro i o h
   have : i = []:=List.eq_nil_of_length_eq_zero (by omega)
   subst this;exact h0 o
  | succ n ih =>
   intro i o h
   by_cases hi : i = []
   ·subst hi;exact h0 o
   ·have:=dmove_less i hi
    exact h1 i o hi (ih _ _ (by omega))
 exact fun i o=>this _ i o (Nat.le_refl _)

theorem bk_len (o : Bs) : (bk o).length≤o.length:=by
 unfold bk
 have:=(List.dropWhile_suffix (l:=o.reverse) (fun c : UInt8=>c != 47)).length_le
 simp at this ⊢
 omega
theorem dmove_len (i : Bs) (_h : i ≠ []) : (dmove i).2.1.length + (dmove i).2.2.length≤i.length:=by
 have e : (i.tail.takeWhile (fun c : UInt8=>c != 47)).length + (i.tail.dropWhile (fun c : UInt8=>c != 47)).length = i.tail.length:=by
  rw [← List.length_append,List.takeWhile_append_dropWhile]
 have ht : i.tail.length = i.length - 1:=List.length_tail
 have hp : 0 < i.length:=List.length_pos_iff.2 _h
 unfold dmove
 split
 ·simp
 split
 ·simp
 split
 ·simp
 split
 ·rename_i e;subst e;simp
 split
 ·simp
 split
 ·rename_i e;subst e;simp
 split
 ·simp
 ·simp only [List.length_append,List.length_take]
  omega
theorem dotsO_len : ∀ i o,(dotsO i o).length≤i.length + o.length:=by
 refine dots_ind (fun i o=>(dotsO i o).length≤i.length + o.length) (fun o=>by simp [dotsO_nil]) ?_
 intro i o hi h
 rw [dotsO_step i o hi]
 refine Nat.le_trans h ?_
 have h1:=dmove_len i hi
 have h2:=bk_len o
 rw [List.length_append]
 split <;> omega
theorem dots_len (s : Bs) : (dots s).length≤s.length:=by
 have:=dotsO_len s []
 simpa [dots,dotsO] using this

/-! Parts: a slash stands at a part's head alone. -/
def okPart (p : Bs) : Prop:=p ≠ []∧(47 : UInt8) ∉ p.tail
def slashed (p : Bs) : Prop:=∃ t,p = 47 :: t
/-- all parts are such, all but the first begin with a slash. -/
def okParts : List Bs→Prop
 | []=>True
 | p :: ps=>okPart p∧∀ q ∈ ps,okPart q∧slashed q
theorem okParts_snoc (o : List Bs) (p : Bs) (h : okParts o) (hp : okPart p) (hs : o ≠ []→slashed p) : okParts (o++[p]):=by
 cases o with
 | nil=>exact ⟨hp,by simp⟩
 | cons a t =>
  refine ⟨h.1,fun q hq=>?_⟩
  rcases List.mem_append.1 hq with h1 | h1
  ·exact h.2 q h1
  ·have : q = p:=by simpa using h1
   subst this;exact ⟨hp,hs (by simp)⟩
theorem okParts_dropLast (o : List Bs) (h : okParts o) : okParts o.dropLast:=by
 cases o with
 | nil=>exact h
 | cons a t =>
  cases t with
  | nil=>trivial
  | cons b t=>exact ⟨h.1,fun q hq=>h.2 q ((List.dropLast_sublist _).subset hq)⟩
theorem dropWhile_no (l r : Bs) (h : (47 : UInt8) ∉ l) : (l++r).dropWhile (· != 47) = r.dropWhile (· != 47):=by
 induction l with
 | nil=>rfl
 | cons c t ih =>
  have hc : c ≠ 47:=fun e=>h (by simp [e])
  have ht : (47 : UInt8) ∉ t:=fun e=>h (by simp [e])
  simp [hc,ih ht]
theorem bk_snoc (o p : Bs) (hp : okPart p) (hs : o = [] ∨ slashed p) : bk (o++p) = o:=by
 obtain ⟨hne,hno⟩:=hp
 match p,hne with
 | c :: t,_ =>
  have ht : (47 : UInt8) ∉ t.reverse:=by simpa using hno
  unfold bk
  rw [show o++c :: t = o++[c]++t from by simp,List.reverse_append,dropWhile_no _ _ ht,List.reverse_append]
  by_cases hc : c = 47
  ·subst hc
   simp
  ·rcases hs with rfl | ⟨u,hu⟩
   ·simp [hc]
   ·injection hu with hu _;exact absurd hu hc
theorem bk_parts (o : List Bs) (h : okParts o) : bk o.flatten = o.dropLast.flatten:=by
 rcases List.eq_nil_or_concat o with rfl | ⟨l,p,rfl⟩
 ·rfl
 ·simp only [List.concat_eq_append] at h ⊢
  rw [List.dropLast_concat,List.flatten_append]
  simp only [List.flatten_cons,List.flatten_nil,List.append_nil]
  cases l with
  | nil=>exact bk_snoc _ _ h.1 (.inl rfl)
  | cons a t =>
   have:=h.2 p (by simp)
   exact bk_snoc _ _ this.1 (.inr this.2)

/-- the program's: part by part. -/
def dpart (i : Bs) (o : List Bs) : List Bs:=(if (dmove i).1 then o.dropLast else o)++(if (dmove i).2.2 = [] then [] else [(dmove i).2.2])
theorem takeWhile_not_mem (l : Bs) : (47 : UInt8) ∉ l.takeWhile (· != 47):=by
 induction l with
 | nil=>simp
 | cons c t ih =>
  rw [List.takeWhile_cons]
  by_cases hc : c = 47
  ·simp [hc]
  ·simp only [bne_iff_ne,ne_eq,hc,not_false_eq_true,if_true,List.mem_cons,not_or]
   exact ⟨fun e=>hc e.symm,ih⟩
theorem dropWhile_head (l : Bs) : l.dropWhile (· != 47) = [] ∨ slashed (l.dropWhile (· != 47)):=by
 induction l with
 | nil=>exact .inl rfl
 | cons c t ih =>
  rw [List.dropWhile_cons]
  by_cases hc : c = 47
  ·right;simp [hc,slashed]
  ·simpa [hc] using ih
/-- what a step leaves, and what comes. -/
theorem dmove_parts (i : Bs) (hi : i ≠ []) : ((dmove i).2.2 = [] ∨ okPart (dmove i).2.2∧(dmove i).1 = false∧((slashed i→slashed (dmove i).2.2)))∧((slashed i ∨ (dmove i).2.2 ≠ [])→(dmove i).2.1 = [] ∨ slashed (dmove i).2.1)∧((dmove i).1 = true→slashed i):=by
 obtain ⟨c,t,rfl⟩:=List.exists_cons_of_ne_nil hi
 unfold dmove
 split
 ·rename_i e
  refine ⟨.inl rfl,?_,by simp⟩
  rintro (⟨u,hu⟩ | h)
  ·injection hu with hu _;subst hu;simp at e
  ·exact absurd rfl h
 split
 ·rename_i e
  refine ⟨.inl rfl,?_,by simp⟩
  rintro (⟨u,hu⟩ | h)
  ·injection hu with hu _;subst hu;simp at e
  ·exact absurd rfl h
 split
 ·rename_i e
  refine ⟨.inl rfl,fun _=>.inr ?_,by simp⟩
  match t,e with
  | [a,b],e=>simp at e;simp [e,slashed]
  | a :: b :: d :: t,e=>simp at e;simp [e,slashed]
 split
 ·exact ⟨.inl rfl,fun _=>.inr ⟨[],rfl⟩,by simp⟩
 split
 ·rename_i e
  refine ⟨.inl rfl,fun _=>.inr ?_,fun _=>?_⟩
  ·match t,e with
   | [a,b,d],e=>simp at e;simp [e,slashed]
   | a :: b :: d :: f :: t,e=>simp at e;simp [e,slashed]
  ·simp at e;exact ⟨t,by rw [e.1]⟩
 split
 ·rename_i e
  exact ⟨.inl rfl,fun _=>.inr ⟨[],rfl⟩,fun _=>by rw [e];exact ⟨_,rfl⟩⟩
 split
 ·exact ⟨.inl rfl,fun _=>.inl rfl,by simp⟩
 ·refine ⟨.inr ⟨⟨by simp,?_⟩,rfl,?_⟩,fun _=>dropWhile_head _,by simp⟩
  ·simpa using takeWhile_not_mem t
  ·rintro ⟨u,hu⟩;injection hu with hu _;subst hu;exact ⟨_,rfl⟩

theorem dpart_ok (i : Bs) (o : List Bs) (hi : i ≠ []) (ho : okParts o) (hs : o ≠ []→slashed i) :
  (dpart i o).flatten = (if (dmove i).1 then bk o.flatten else o.flatten)++(dmove i).2.2∧okParts (dpart i o)∧(dpart i o ≠ []→(dmove i).2.1 = [] ∨ slashed (dmove i).2.1):=by
 obtain ⟨h1,h2,h3⟩:=dmove_parts i hi
 unfold dpart
 refine ⟨?_,?_,?_⟩
 ·rw [List.flatten_append]
  have e : (if (dmove i).2.2 = [] then [] else [(dmove i).2.2]).flatten = (dmove i).2.2:=by
   by_cases h0 : (dmove i).2.2 = [] <;> simp [h0]
  rw [e]
  by_cases hb : (dmove i).1 = true
  ·simp only [hb,if_true]
   rw [bk_parts o ho]
  ·simp only [hb]
   rfl
 ·rcases h1 with h1 | ⟨hp,hb,hsl⟩
  ·simp only [h1,if_true,List.append_nil]
   split
   ·exact okParts_dropLast o ho
   ·exact ho
  ·simp only [hb,hp.1,if_false]
   exact okParts_snoc o _ ho hp (fun h=>hsl (hs h))
 ·intro hne
  by_cases h0 : (dmove i).2.2 = []
  ·simp only [h0,if_true,List.append_nil] at hne
   apply h2
   left
   by_cases hb : (dmove i).1 = true
   ·exact h3 hb
   ·simp only [hb] at hne;exact hs hne
  ·exact h2 (.inr h0)

/-! A path without dots has none to lose. -/
def dotless (p : Bs) : Prop:=p ≠ [46]∧p ≠ [46,46]∧p ≠ [47,46]∧p ≠ [47,46,46]
/-! Resolve. -/
def mergeP (b u : U) : Bs:=if b.ha && b.pa.isEmpty then 47 :: u.pa else (b.pa.reverse.dropWhile (· != 47)).reverse++u.pa
/-- a link in the light of a base. -/
def resU (b u : U) : U :=
 if u.hs then { u with pa:=dots u.pa }
 else if u.ha then { u with sch:=b.sch,hs:=true,pa:=dots u.pa }
 else if u.pa = [] then { u with sch:=b.sch,hs:=true,au:=b.au,ha:=b.ha,pa:=dots b.pa,qu:=if u.hq then u.qu else b.qu,hq:=if u.hq then true else b.hq }
 else { u with sch:=b.sch,hs:=true,au:=b.au,ha:=b.ha,pa:=dots (if isAt 47 u.pa then u.pa else mergeP b u) }
def joinOk (u : U) : Bool:=split (join u) == u
def res (base s : Bs) : Option Bs :=
 let t:=resU (split base) (split s)
 if joinOk t then some (join t) else none

/-! Safe. -/
def low (c : UInt8) : UInt8:=if 65≤c && c≤90 then c + 32 else c
def fold (s : Bs) : Bs:=s.map low
def safeWord (w : Bs) : Bool:=w == [104,116,116,112] || w == [104,116,116,112,115] || w == [109,97,105,108,116,111]
def isSafe (s : Bs) : Bool:=let t:=s.filter (fun c=>decide (32 < c));safeWord (fold (t.take (schOf t)))

theorem all256 (p : UInt8→Prop) [DecidablePred p] (h : (List.range 256).all (fun n=>decide (p (UInt8.ofNat n))) = true) : ∀ c,p c:=by
 intro c
 have hc:=List.all_eq_true.1 h c.toNat (by have:=c.toNat_lt;simp;omega)
 simpa using hc
theorem low_nat (c : UInt8) : (low c).toNat = if 65≤c.toNat∧c.toNat≤90 then c.toNat + 32 else c.toNat:=all256 (fun c=>(low c).toNat = if 65≤c.toNat∧c.toNat≤90 then c.toNat + 32 else c.toNat) (by decide +kernel) c
theorem low_let (c : UInt8) : isLet (low c) = isLet c:=all256 (fun c=>isLet (low c) = isLet c) (by decide +kernel) c
theorem low_tail (c : UInt8) : schTail (low c) = schTail c:=all256 (fun c=>schTail (low c) = schTail c) (by decide +kernel) c
theorem low_58 (c : UInt8) : (low c == 58) = (c == 58):=all256 (fun c=>(low c == 58) = (c == 58)) (by decide +kernel) c
theorem schFrom_fold (s : Bs) : ∀ k,schFrom k (fold s) = schFrom k s:=by
 induction s with
 | nil=>intro k;rfl
 | cons c t ih =>
  intro k
  show schFrom k (low c :: fold t) = _
  unfold schFrom
  simp only [schAt,low_58,low_let,low_tail,ih]
  rfl
theorem schOf_fold (s : Bs) : schOf (fold s) = schOf s:=schFrom_fold s 0
theorem isSafe_fold (s : Bs) : isSafe s = let t:=fold (s.filter (fun c=>decide (32 < c)));safeWord (t.take (schOf t)):=by
 simp only [isSafe,schOf_fold]
 simp only [fold,List.map_take]
/-! In the walk's own forms: of numbers. -/
theorem isLet_iff (c : UInt8) : isLet c = true ↔ (97≤(c.toNat : Int)∧(c.toNat : Int)≤122) ∨ (65≤(c.toNat : Int)∧(c.toNat : Int)≤90):=all256 (fun c=>isLet c = true ↔ (97≤(c.toNat : Int)∧(c.toNat : Int)≤122) ∨ (65≤(c.toNat : Int)∧(c.toNat : Int)≤90)) (by decide +kernel) c
theorem tail_iff (c : UInt8) : schTail c = true ↔ (48≤(c.toNat : Int)∧(c.toNat : Int)≤57) ∨ (c.toNat : Int) = 43 ∨ (c.toNat : Int) = 45 ∨ (c.toNat : Int) = 46:=all256 (fun c=>schTail c = true ↔ (48≤(c.toNat : Int)∧(c.toNat : Int)≤57) ∨ (c.toNat : Int) = 43 ∨ (c.toNat : Int) = 45 ∨ (c.toNat : Int) = 46) (by decide +kernel) c
end Mg

/- The plain law of markup: signs, tokens, trees, what is clean. No program in sight, no condition. -/
namespace Mk
abbrev Bs := List UInt8

/-! Signs that are told. -/
def esc (c : UInt8) : Bs := if c = 38 then [38, 97, 109, 112, 59] else if c = 60 then [38, 108, 116, 59] else if c = 62 then [38, 103, 116, 59] else if c = 34 then [38, 113, 117, 111, 116, 59] else [c]
def put (s : Bs) : Bs := s.flatMap esc
/-- a digit's value, of any base up to 36. -/
def dig36 (n : Nat) : Nat := if 48 ≤ n ∧ n ≤ 57 then n - 48 else if 97 ≤ n ∧ n ≤ 122 then n - 87 else if 65 ≤ n ∧ n ≤ 90 then n - 55 else 99
def isDig (b : Nat) (c : UInt8) : Bool := decide (dig36 c.toNat < b)
def value (b : Nat) (l : Bs) : Nat := l.foldl (fun n c => n * b + dig36 c.toNat) 0
def scalar (n : Nat) : Bool := decide (0 < n) && decide (n ≤ 1114111) && (decide (n < 55296) || decide (57343 < n))
def utf8 (n : Nat) : Bs :=
  if n < 128 then [UInt8.ofNat n]
  else if n < 2048 then [UInt8.ofNat (192 + n / 64), UInt8.ofNat (128 + n % 64)]
  else if n < 65536 then [UInt8.ofNat (224 + n / 4096), UInt8.ofNat (128 + n / 64 % 64), UInt8.ofNat (128 + n % 64)]
  else [UInt8.ofNat (240 + n / 262144), UInt8.ofNat (128 + n / 4096 % 64), UInt8.ofNat (128 + n / 64 % 64), UInt8.ofNat (128 + n % 64)]
/-- what is told by name, and by how many bytes. -/
def named (s : Bs) : Option (UInt8 × Nat) :=
  if Mg.pre [38, 97, 109, 112, 59] s then some (38, 5)
  else if Mg.pre [38, 108, 116, 59] s then some (60, 4)
  else if Mg.pre [38, 103, 116, 59] s then some (62, 4)
  else if Mg.pre [38, 113, 117, 111, 116, 59] s then some (34, 6)
  else if Mg.pre [38, 97, 112, 111, 115, 59] s then some (39, 6)
  else none
/-- the code point behind so many bytes of a base. -/
def numAt (b most ahead : Nat) (s : Bs) : Option (Nat × Nat) :=
  let r := s.drop ahead
  let ds := r.takeWhile (isDig b)
  if ds.length = 0 ∨ most < ds.length then none
  else if Mg.isAt 59 (r.drop ds.length) then some (value b ds, ahead + ds.length + 1) else none
def numbered (s : Bs) : Option (Nat × Nat) :=
  if Mg.pre [38, 35, 120] s then numAt 16 6 3 s
  else if Mg.pre [38, 35] s then numAt 10 7 2 s
  else none
/-- a sign at the beginning of a text, how many bytes tell it (0: none do), and whether it is as it is told. -/
def sign (s : Bs) : Bs × Nat × Bool :=
  match named s with
  | some (c, n) => ([c], n, true)
  | none =>
    match numbered s with
    | none => ([38], 0, false)
    | some (p, n) => if scalar p then (utf8 p, n, true) else ([239, 191, 189], n, false)
def takeN : Nat → Bs → Bs × Bool
  | 0, _ => ([], true)
  | _ + 1, [] => ([], true)
  | n + 1, c :: t =>
    if c = 38 then
      let x := sign (c :: t)
      let r := takeN n ((c :: t).drop (max 1 x.2.1))
      (x.1 ++ r.1, x.2.2 && r.2)
    else
      let r := takeN n t
      (c :: r.1, r.2)
def take (s : Bs) : Bs × Bool := takeN s.length s

/-! Tokens. -/
def white (c : UInt8) : Bool := c == 9 || c == 10 || c == 12 || c == 13 || c == 32
def small (c : UInt8) : Bool := 97 ≤ c && c ≤ 122
def nameAll : Bool → Bs → Bool
  | _, [] => true
  | first, c :: t => (small c || (!first && (Mg.isDig c || c == 45))) && nameAll false t
def isName (s : Bs) : Bool := decide (s ≠ []) && decide (s.length ≤ 20) && nameAll true s

structure At where
  n : Bs
  v : Bs
  deriving DecidableEq
structure Tok where
  kind : Int
  name : Bs
  ats : List At
  text : Bs
  deriving DecidableEq

def hasAt (l : List At) (n : Bs) : Bool := l.any (fun a => a.n == n)
/-- a value behind a =; none: it has no end. -/
def valueOf (r : Bs) : Option (Bs × Bs) :=
  match r.dropWhile white with
  | [] => some ([], [])
  | q :: t =>
    if q = 34 ∨ q = 39 then
      match t.dropWhile (· != q) with
      | [] => none
      | _ :: u => some (t.takeWhile (· != q), u)
    else some ((q :: t).takeWhile (fun c => !white c && c != 62), (q :: t).dropWhile (fun c => !white c && c != 62))
def atStop (c : UInt8) : Bool := !white c && c != 47 && c != 62 && c != 61
/-- attributes up to a >; none: it does not come. -/
def attrsN : Nat → Bs → List At → Option (List At × Bs)
  | 0, _, _ => none
  | n + 1, r, out =>
    match r.dropWhile (fun c => white c || c == 47) with
    | [] => none
    | c :: t =>
      if c = 62 then some (out, t)
      else
        let nm := Mg.fold (c :: t.takeWhile atStop)
        let r3 := (t.dropWhile atStop).dropWhile white
        match (if Mg.isAt 61 r3 then (valueOf r3.tail).map (fun x => ((take x.1).1, x.2)) else some ([], r3)) with
        | none => none
        | some (v, r4) => attrsN n r4 (if isName nm && !hasAt out nm then out ++ [⟨nm, v⟩] else out)
def attrsOf (r : Bs) : Option (List At × Bs) := attrsN (r.length + 1) r []
/-- behind the first place of a text. -/
def behind (p : Bs) : Bs → Option Bs
  | [] => if p = [] then some [] else none
  | c :: t => if Mg.pre p (c :: t) then some ((c :: t).drop p.length) else behind p t
def tagStop (c : UInt8) : Bool := !white c && c != 47 && c != 62
/-- what stands at a <: a tag, or what is passed; and what is left. none: it has no end. -/
inductive Here where
  | text : Here
  | stop : Here
  | gone (rest : Bs) : Here
  | tag (t : Tok) (rest : Bs) : Here
def letAt (l : Bs) : Bool := match l with | c :: _ => Mg.isLet c | [] => false
def openAt (r : Bs) : Here :=
  let nm := Mg.fold (r.takeWhile tagStop)
  match attrsOf (r.dropWhile tagStop) with
  | none => .stop
  | some (l, rest) => if isName nm then .tag ⟨2, nm, l, []⟩ rest else .gone rest
def closeAt (r : Bs) : Here :=
  let nm := Mg.fold (r.takeWhile tagStop)
  match behind [62] (r.dropWhile tagStop) with
  | none => .stop
  | some rest => if isName nm then .tag ⟨3, nm, [], []⟩ rest else .gone rest
def passAt (p r : Bs) : Here := match behind p r with | none => .stop | some rest => .gone rest
def hereAt (r : Bs) : Here :=
  if letAt r.tail then openAt r.tail
  else if Mg.pre [60, 47] r && letAt (r.drop 2) then closeAt (r.drop 2)
  else if Mg.pre [60, 33, 45, 45] r then passAt [45, 45, 62] (r.drop 2)
  else if Mg.pre [60, 33] r || Mg.pre [60, 63] r || Mg.pre [60, 47] r then passAt [62] r
  else .text
def flush (text : Bs) (out : List Tok) : List Tok := let t := (take text).1; if t = [] then out else out ++ [⟨1, [], [], t⟩]
def toksN : Nat → Bs → Bs → List Tok → List Tok
  | 0, _, text, out => flush text out
  | _ + 1, [], text, out => flush text out
  | n + 1, c :: t, text, out =>
    if c = 60 then
      match hereAt (c :: t) with
      | .text => toksN n t (text ++ [60]) out
      | .stop => flush (text ++ c :: t) out
      | .gone rest => toksN n rest text out
      | .tag k rest => toksN n rest [] (flush text out ++ [k])
    else toksN n t (text ++ [c]) out
def toks (s : Bs) : List Tok := toksN s.length s [] []

/-! Trees: a forest is empty, or a node, with what is in it, and what is behind it. -/
inductive Fo where
  | nil : Fo
  | node (name : Bs) (ats : List At) (text : Bs) (kids rest : Fo) : Fo
  deriving DecidableEq
namespace Fo
def len : Fo → Nat | nil => 0 | node _ _ _ _ r => r.len + 1
def app : Fo → Fo → Fo | nil, g => g | node n a t k r, g => node n a t k (r.app g)
/-- a node behind others; texts side by side are one. -/
def snoc (n : Bs) (a : List At) (t : Bs) (k : Fo) : Fo → Fo
  | nil => node n a t k nil
  | node n' a' t' k' nil => if n = [] ∧ n' = [] then node n' a' (t' ++ t) k' nil else node n' a' t' k' (node n a t k nil)
  | node n' a' t' k' (node m b u j r) => node n' a' t' k' (snoc n a t k (node m b u j r))
/-- all of some behind others. -/
def joins (f : Fo) : Fo → Fo
  | nil => f
  | node n a t k r => joins (snoc n a t k f) r
end Fo

def emptyB (n : Bs) : Bool := n == [98, 114] || n == [104, 114] || n == [105, 109, 103]
def listB (n : Bs) : Bool := n == [117, 108] || n == [111, 108]
def wallB (n : Bs) : Bool := listB n || n == [108, 105] || n == [98, 108, 111, 99, 107, 113, 117, 111, 116, 101]
def blockB (n : Bs) : Bool := wallB n || n == [112] || n == [104, 114]
/-- of names, the innermost one last, how many stand ahead of the innermost of a name, with none within it that stops. -/
def aboveR (x : Bs) (q : Bs → Bool) : List Bs → Option Nat
  | [] => none
  | n :: r => if n = x then some r.length else if q n then none else aboveR x q r
def above (x : Bs) (q : Bs → Bool) (l : List Bs) : Option Nat := aboveR x q l.reverse
def cutTo (l : List Bs) : Option Nat → List Bs | none => l | some k => l.take k
def stays (l : List Bs) (n : Bs) : Nat :=
  let l1 := if blockB n then cutTo l (above [112] wallB l) else l
  let l2 := if n == [108, 105] then cutTo l1 (above [108, 105] listB l1) else l1
  l2.length

/-- an element that is open: its name, its attributes, what is in it so far. -/
structure Op where
  name : Bs
  ats : List At
  kids : Fo
/-- what is built: the outermost nodes; what is open, the outermost first. -/
structure Bld where
  root : Fo
  open_ : List Op
namespace Bld
def putIn (b : Bld) (n : Bs) (a : List At) (t : Bs) (k : Fo) : Bld :=
  match b.open_.reverse with
  | [] => { b with root := Fo.snoc n a t k b.root }
  | o :: r => { b with open_ := (({ o with kids := Fo.snoc n a t k o.kids } : Op) :: r).reverse }
def pop (b : Bld) : Bld :=
  match b.open_.reverse with
  | [] => b
  | o :: r => Bld.putIn { b with open_ := r.reverse } o.name o.ats [] o.kids
def closeN : Nat → Bld → Bld | 0, b => b | n + 1, b => closeN n b.pop
def close (b : Bld) (many : Nat) : Bld := closeN (b.open_.length - many) b
def names (b : Bld) : List Bs := b.open_.map (·.name)
def token (b : Bld) (t : Tok) : Bld :=
  if t.kind = 1 then b.putIn [] [] t.text .nil
  else if t.kind = 2 then
    let c := b.close (stays b.names t.name)
    if c.open_.length = 8 then c
    else if emptyB t.name then c.putIn t.name t.ats [] .nil
    else { c with open_ := c.open_ ++ [⟨t.name, t.ats, .nil⟩] }
  else if t.kind = 3 then
    match above t.name (fun _ => false) b.names with
    | none => b
    | some i => b.close i
  else b
end Bld
def build (l : List Tok) : Fo := ((l.foldl Bld.token ⟨.nil, []⟩).close 0).root

/-- how many nodes, and how deep; nodes deeper than most are not gone through. -/
def sizeF : Nat → Fo → Nat × Nat
  | _, .nil => (0, 0)
  | most, .node n _ _ k r =>
    let x := sizeF most r
    if n = [] then (x.1 + 1, x.2)
    else match most with
      | 0 => (x.1 + 1, max 1 x.2)
      | m + 1 => let y := sizeF m k; (x.1 + 1 + y.1, max (max 1 (y.2 + 1)) x.2)
def checkAts (q : Bs → Bool) : List At → List At → Int
  | _, [] => 0
  | seen, a :: r => if !q a.n then 1 else if hasAt seen a.n then 6 else checkAts q (seen ++ [a]) r
def nodeE (names : List Bs) (n : Bs) (a : List At) (t : Bs) (k : Fo) : Int :=
  if n = [] then (if t = [] ∨ a ≠ [] ∨ k ≠ .nil then 1 else 0)
  else if t ≠ [] ∨ !isName n ∨ (emptyB n ∧ k ≠ .nil) then 1
  else if checkAts isName [] a ≠ 0 then checkAts isName [] a
  else if stays names n < names.length then 4 else 0
/-- what is wrong with a forest that stands in names; prev: does a text stand ahead of it? -/
def checkF : Fo → List Bs → Bool → Int
  | .nil, _, _ => 0
  | .node n a t k r, names, prev =>
    if nodeE names n a t k ≠ 0 then nodeE names n a t k
    else if n = [] ∧ prev then 4
    else if checkF k (names ++ [n]) false ≠ 0 then checkF k (names ++ [n]) false
    else checkF r names (decide (n = []))
def checkT (f : Fo) : Int := if 3000 < (sizeF 8 f).1 ∨ 8 < (sizeF 8 f).2 then 2 else checkF f [] false
def flat : Fo → List Tok
  | .nil => []
  | .node n a t k r =>
    if n = [] then ⟨1, [], [], t⟩ :: flat r
    else ⟨2, n, a, []⟩ :: ((if emptyB n then [] else flat k ++ [⟨3, n, [], []⟩]) ++ flat r)
def written (l : List At) : Bs := l.flatMap (fun a => [32] ++ a.n ++ [61, 34] ++ put a.v ++ [34])
def tokBytes (t : Tok) : Bs :=
  if t.kind = 1 then put t.text
  else if t.kind = 2 then [60] ++ t.name ++ written t.ats ++ [62]
  else if t.kind = 3 then [60, 47] ++ t.name ++ [62]
  else []
def bytes (l : List Tok) : Bs := l.flatMap tokBytes

/-! What is clean. -/
def light (base s : Bs) : Bs :=
  if 3000 < base.length ∨ 3000 < s.length ∨ Mg.schOf base = 0 then s
  else match Mg.res base s with | none => s | some t => t
def okNames : List Bs := [[97], [98], [105], [101, 109], [115, 116, 114, 111, 110, 103], [112], [98, 114], [104, 114], [117, 108], [111, 108], [108, 105], [98, 108, 111, 99, 107, 113, 117, 111, 116, 101], [99, 111, 100, 101], [105, 109, 103]]
def allowedB (n : Bs) : Bool := okNames.contains n
def goneB (n : Bs) : Bool := n == [115, 99, 114, 105, 112, 116] || n == [115, 116, 121, 108, 101] || n == [116, 101, 109, 112, 108, 97, 116, 101]
def linkB (n : Bs) : Bool := n == [104, 114, 101, 102] || n == [115, 114, 99]
def mayB (e n : Bs) : Bool :=
  if e = [97] then n == [104, 114, 101, 102] || n == [116, 105, 116, 108, 101]
  else if e = [105, 109, 103] then n == [115, 114, 99] || n == [97, 108, 116]
  else false
def goodLink (s : Bs) : Bool := Mg.isSafe s && decide (s.length ≤ 3000)
def cleanAt (base e : Bs) (a : At) : List At :=
  if !mayB e a.n then []
  else if linkB a.n then (if goodLink (light base a.v) then [⟨a.n, light base a.v⟩] else [])
  else [a]
def cleanAts (base e : Bs) (l : List At) : List At := l.flatMap (cleanAt base e)
/-- what stays of a forest, behind what has stayed. -/
def cleanOn (base : Bs) : Fo → Fo → Fo
  | out, .nil => out
  | out, .node n a t k r =>
    cleanOn base
      (if n = [] then Fo.snoc n a t k out
       else if goneB n then out
       else
         let kids := cleanOn base .nil k
         if !allowedB n then Fo.joins out kids
         else
           let l := cleanAts base n a
           if n = [105, 109, 103] ∧ hasAt l [115, 114, 99] = false then out
           else Fo.snoc n l [] kids out) r
def clean (base : Bs) (f : Fo) : Fo := cleanOn base .nil f
def badAts (e : Bs) (l : List At) : Bool := l.any (fun a => !mayB e a.n || (linkB a.n && !goodLink a.v))
def safeF : Fo → Bool
  | .nil => true
  | .node n a _ k r => !((decide (n ≠ []) && (!allowedB n || badAts n a || (decide (n = [105, 109, 103]) && !hasAt a [115, 114, 99]))) || !safeF k) && safeF r
def html (base s : Bs) : Bs := bytes (flat (clean base (build (toks s))))

/-! The law: all text stays. -/
end Mk

/- The plain law of CleanText: of a forest that is right all text stays, but what is in elements that go. No program in sight. -/
namespace Mk
namespace Fo
/-- what a check makes sure of: texts hold nothing, elements have no text of their own, empty elements hold nothing. -/
def right : Fo→Prop
 | nil=>True
 | node n _ t k r=>(n = []→k = nil)∧(n ≠ []→t = [])∧(emptyB n = true→k = nil)∧right k∧right r
end Fo
open Fo

theorem check_right : ∀ f names prev,checkF f names prev = 0→right f:=by
 intro f
 induction f with
 | nil=>intro _ _ _;trivial
 | node n a t k r ihk ihr =>
  intro names prev h
  unfold checkF at h
  by_cases h1 : nodeE names n a t k ≠ 0
  ·rw [if_pos h1] at h;exact absurd h h1
  rw [if_neg h1] at h
  by_cases h2 : n = []∧prev
  ·rw [if_pos h2] at h;cases h
  rw [if_neg h2] at h
  by_cases h3 : checkF k (names++[n]) false ≠ 0
  ·rw [if_pos h3] at h;exact absurd h h3
  rw [if_neg h3] at h
  have hk:=ihk _ _ (by simpa using h3)
  have hr:=ihr _ _ h
  have h1' : nodeE names n a t k = 0:=by simpa using h1
  unfold nodeE at h1'
  by_cases hn : n = []
  ·rw [if_pos hn] at h1'
   by_cases hq : t = [] ∨ a ≠ [] ∨ k ≠ nil
   ·rw [if_pos hq] at h1';cases h1'
   ·refine ⟨fun _=>?_,fun h=>absurd hn h,fun he=>?_,hk,hr⟩
    ·exact Classical.byContradiction fun hc=>hq (.inr (.inr hc))
    ·rw [hn] at he;exact absurd he (by decide)
  ·rw [if_neg hn] at h1'
   by_cases hq : t ≠ [] ∨ !isName n ∨ (emptyB n∧k ≠ nil)
   ·rw [if_pos hq] at h1';cases h1'
   ·refine ⟨fun h=>absurd h hn,fun _=>?_,fun he=>?_,hk,hr⟩
    ·exact Classical.byContradiction fun hc=>hq (.inl hc)
    ·exact Classical.byContradiction fun hc=>hq (.inr (.inr ⟨he,hc⟩))
end Mk

/- The plain law of trees: what is clean is right, and cleaned again it is the same; a right tree built of its own tokens is the same; what is built is right. No program in sight. -/
namespace Mk
open Fo
namespace Fo
def depth : Fo→Nat | nil=>0 | node n _ _ k r=>if n = [] then r.depth else max (k.depth + 1) r.depth
def count : Fo→Nat | nil=>0 | node _ _ _ k r=>k.count + r.count + 1
def endsT : Fo→Bool | nil=>false | node n _ _ _ nil=>decide (n = []) | node _ _ _ _ (node m b u j r)=>endsT (node m b u j r)
theorem app_nil : ∀ f : Fo,f.app nil = f
 | nil=>rfl
 | node n a t k r=>by show node n a t k (r.app nil) = _;rw [app_nil r]
theorem app_assoc : ∀ f g h : Fo,(f.app g).app h = f.app (g.app h)
 | nil,_,_=>rfl
 | node n a t k r,g,h=>by show node n a t k ((r.app g).app h) = node n a t k (r.app (g.app h));rw [app_assoc r g h]
theorem snoc_app (n : Bs) (a : List At) (t : Bs) (k : Fo) : ∀ f : Fo,¬(n = []∧endsT f = true)→snoc n a t k f = f.app (node n a t k nil)
 | nil,_=>rfl
 | node n' a' t' k' nil,h=>by
  have h2 : ¬(n = []∧n' = []):=fun e=>h ⟨e.1,by simp [endsT,e.2]⟩
  unfold snoc
  rw [if_neg h2]
  rfl
 | node n' a' t' k' (node m b u j r),h=>by
  have h2:=snoc_app n a t k (node m b u j r) h
  show node n' a' t' k' (snoc n a t k (node m b u j r)) = node n' a' t' k' _
  rw [h2]
theorem ends_app (n : Bs) (a : List At) (t : Bs) (k : Fo) : ∀ f : Fo,endsT (f.app (node n a t k nil)) = decide (n = [])
 | nil=>rfl
 | node n' a' t' k' nil=>rfl
 | node n' a' t' k' (node m b u j r)=>ends_app n a t k (node m b u j r)
end Fo
/-! How many nodes, and how deep. -/
theorem node_depth {n : Bs} {a : List At} {t : Bs} {k r : Fo} {D : Nat} (h : (node n a t k r).depth≤D) : (n ≠ []→k.depth + 1≤D)∧r.depth≤D:=by
 by_cases hn : n = []
 ·simp only [depth,hn,if_true] at h
  exact ⟨fun q=>absurd hn q,h⟩
 ·simp only [depth,hn,if_false] at h
  exact ⟨fun _=>by omega,by omega⟩
/-! What is right. -/
theorem checkF_node (n : Bs) (a : List At) (t : Bs) (k r : Fo) (names : List Bs) (prev : Bool) : checkF (node n a t k r) names prev = 0 ↔ nodeE names n a t k = 0∧¬(n = []∧prev = true)∧checkF k (names++[n]) false = 0∧checkF r names (decide (n = [])) = 0:=by
 rw [checkF]
 by_cases h1 : nodeE names n a t k = 0
 ·rw [if_neg (by simpa using h1)]
  by_cases h2 : n = []∧prev = true
  ·rw [if_pos h2]
   exact ⟨fun h=>(by cases h),fun h=>absurd h2 h.2.1⟩
  ·rw [if_neg h2]
   by_cases h3 : checkF k (names++[n]) false = 0
   ·rw [if_neg (by simpa using h3)]
    exact ⟨fun h=>⟨h1,h2,h3,h⟩,fun h=>h.2.2.2⟩
   ·rw [if_pos h3]
    exact ⟨fun h=>absurd h h3,fun h=>absurd h.2.2.1 h3⟩
 ·rw [if_pos h1]
  exact ⟨fun h=>absurd h h1,fun h=>absurd h.1 h1⟩
theorem nodeE_text (names : List Bs) (a : List At) (t : Bs) (k : Fo) : nodeE names [] a t k = 0 ↔ t ≠ []∧a = []∧k = nil:=by
 unfold nodeE
 rw [if_pos rfl]
 by_cases h : t = [] ∨ a ≠ [] ∨ k ≠ nil
 ·rw [if_pos h]
  refine ⟨fun e=>(by cases e),fun e=>?_⟩
  rcases h with h | h | h
  ·exact absurd h e.1
  ·exact absurd e.2.1 h
  ·exact absurd e.2.2 h
 ·rw [if_neg h]
  refine ⟨fun _=>⟨fun e=>h (.inl e),Classical.byContradiction fun e=>h (.inr (.inl e)),Classical.byContradiction fun e=>h (.inr (.inr e))⟩,fun _=>rfl⟩
theorem nodeE_el (names : List Bs) (n : Bs) (hn : n ≠ []) (a : List At) (t : Bs) (k : Fo) : nodeE names n a t k = 0 ↔ t = []∧isName n = true∧(emptyB n = true→k = nil)∧checkAts isName [] a = 0∧names.length≤stays names n:=by
 unfold nodeE
 rw [if_neg hn]
 by_cases h : t ≠ [] ∨ (!isName n) = true ∨ (emptyB n = true∧k ≠ nil)
 ·rw [if_pos h]
  refine ⟨fun e=>(by cases e),fun e=>?_⟩
  rcases h with h | h | h
  ·exact absurd e.1 h
  ·rw [e.2.1] at h;cases h
  ·exact absurd (e.2.2.1 h.1) h.2
 ·rw [if_neg h]
  have f1 : t = []:=Classical.byContradiction fun e=>h (.inl e)
  have f2 : isName n = true:=by
   cases q : isName n with
   | true=>rfl
   | false=>exact absurd (.inr (.inl (by rw [q];rfl))) h
  have f3 : emptyB n = true→k = nil:=fun q=>Classical.byContradiction fun e=>h (.inr (.inr ⟨q,e⟩))
  by_cases h4 : checkAts isName [] a = 0
  ·rw [if_neg (by simpa using h4)]
   by_cases h5 : stays names n < names.length
   ·rw [if_pos h5]
    exact ⟨fun e=>(by cases e),fun e=>absurd h5 (Nat.not_lt.2 e.2.2.2.2)⟩
   ·rw [if_neg h5]
    exact ⟨fun _=>⟨f1,f2,f3,h4,Nat.not_lt.1 h5⟩,fun _=>rfl⟩
  ·rw [if_pos h4]
   exact ⟨fun e=>absurd e h4,fun e=>absurd e.2.2.2.1 h4⟩
/-- names ahead of the innermost of a name. -/
def findR (x : Bs) (q : Bs→Bool) : List Bs→Option (List Bs)
 | []=>none
 | n :: r=>if n = x then some r else if q n then none else findR x q r
theorem aboveR_find (x : Bs) (q : Bs→Bool) : ∀ l,aboveR x q l = (findR x q l).map List.length
 | []=>rfl
 | n :: r=>by
  unfold aboveR findR
  by_cases h : n = x
  ·rw [if_pos h,if_pos h];rfl
  ·rw [if_neg h,if_neg h]
   by_cases h2 : q n = true
   ·rw [if_pos h2,if_pos h2];rfl
   ·rw [if_neg h2,if_neg h2];exact aboveR_find x q r
theorem findR_suf (x : Bs) (q : Bs→Bool) : ∀ l r,findR x q l = some r→∃ m,l = m++x :: r
 | [],_,h=>by cases h
 | n :: l,r,h=>by
  unfold findR at h
  by_cases h1 : n = x
  ·rw [if_pos h1] at h
   injection h with h
   exact ⟨[],by rw [h1,h];rfl⟩
  ·rw [if_neg h1] at h
   by_cases h2 : q n = true
   ·rw [if_pos h2] at h;cases h
   ·rw [if_neg h2] at h
    obtain ⟨m,e⟩:=findR_suf x q l r h
    exact ⟨n :: m,by rw [e];rfl⟩
theorem cutTo_find (x : Bs) (q : Bs→Bool) (l : List Bs) : cutTo l.reverse (above x q l.reverse) = ((findR x q l).getD l).reverse:=by
 unfold above
 rw [List.reverse_reverse,aboveR_find]
 cases h : findR x q l with
 | none=>rfl
 | some r =>
  obtain ⟨m,e⟩:=findR_suf x q l r h
  show l.reverse.take r.length = r.reverse
  rw [e]
  simp
def li : Bs:=[108,105]
def staysR (l : List Bs) (n : Bs) : List Bs :=
 let l1:=if blockB n then (findR [112] wallB l).getD l else l
 if n == li then (findR li listB l1).getD l1 else l1
theorem stays_R (l : List Bs) (n : Bs) : stays l.reverse n = (staysR l n).length:=by
 unfold stays staysR
 simp only
 have e : (if blockB n = true then cutTo l.reverse (above [112] wallB l.reverse) else l.reverse) = (if blockB n = true then (findR [112] wallB l).getD l else l).reverse:=by
  by_cases h : blockB n = true
  ·rw [if_pos h,if_pos h,cutTo_find]
  ·rw [if_neg h,if_neg h]
 rw [e]
 generalize (if blockB n = true then (findR [112] wallB l).getD l else l) = l1
 show (if (n == li) = true then cutTo l1.reverse (above li listB l1.reverse) else l1.reverse).length = _
 by_cases h : (n == li) = true
 ·rw [if_pos h,if_pos h,cutTo_find,List.length_reverse]
 ·rw [if_neg h,if_neg h,List.length_reverse]
theorem find_len (x : Bs) (q : Bs→Bool) (l : List Bs) : ((findR x q l).getD l).length≤l.length∧(findR x q l ≠ none→((findR x q l).getD l).length < l.length):=by
 cases h : findR x q l with
 | none=>exact ⟨Nat.le_refl _,fun q=>absurd rfl q⟩
 | some r =>
  obtain ⟨m,e⟩:=findR_suf x q l r h
  have : r.length < l.length:=by rw [e];simp;omega
  exact ⟨Nat.le_of_lt this,fun _=>this⟩
theorem checkAts_cons (seen : List At) (a : At) (r : List At) : checkAts isName seen (a :: r) = 0 ↔ isName a.n = true∧hasAt seen a.n = false∧checkAts isName (seen++[a]) r = 0:=by
 rw [checkAts]
 cases h1 : isName a.n with
 | false=>simp
 | true =>
  cases h2 : hasAt seen a.n with
  | true=>simp
  | false=>simp
/-! What is clean stays so. -/
theorem light_nil (v : Bs) : light [] v = v:=by
 unfold light
 rw [if_pos (.inr (.inr (by decide)))]
/-- what a base leaves as it is. -/
def Stable (base : Bs) : Fo→Prop
 | nil=>True
 | node n a t k r=>(n ≠ []→goneB n = false∧allowedB n = true∧t = []∧cleanAts base n a = a∧¬(n = [105,109,103]∧hasAt a [115,114,99] = false))∧Stable base k∧Stable base r
theorem stable_same (b : Bs) : ∀ (f : Fo) (names : List Bs) (out : Fo),Stable b f→right f→checkF f names (endsT out) = 0→cleanOn b out f = out.app f:=by
 intro f
 induction f with
 | nil=>intro _ out _ _ _;exact (app_nil out).symm
 | node n a t k r ihk ihr =>
  intro names out hs hf hc
  obtain ⟨g1,g2,g3⟩:=hs
  obtain ⟨r1,r2,r3,r4,r5⟩:=hf
  obtain ⟨c1,c2,c3,c4⟩:=(checkF_node ..).1 hc
  have hsn : snoc n a t k out = out.app (node n a t k nil):=snoc_app n a t k out c2
  have hend : cleanOn b (snoc n a t k out) r = out.app (node n a t k r):=by
   rw [hsn,ihr names _ g3 r5 (by rw [ends_app];exact c4),app_assoc]
   rfl
  unfold cleanOn
  by_cases hn : n = []
  ·rw [if_pos hn]
   exact hend
  ·rw [if_neg hn]
   obtain ⟨q1,q2,q3,q4,q5⟩:=g1 hn
   rw [if_neg (by simp [q1])]
   have hk : cleanOn b nil k = k:=ihk (names++[n]) nil g2 r4 c3
   simp only [hk,q4]
   rw [if_neg (by simp [q2]),if_neg q5]
   rw [q3] at hend
   rw [q3]
   exact hend
/-! What is clean is safe. -/
end Mk

/- The plain law of the builder: what is built is right; a right tree built of its own tokens is the same. No program in sight. -/
namespace Mk
open Fo
namespace Bld
def R (root : Fo) (ops : List Op) : Bld:=⟨root,ops.reverse⟩
def rs (root : Fo) (ops : List Op) (g : Fo) : Fo:=match ops with | []=>g | _ :: _=>root
def os (ops : List Op) (g : Fo) : List Op:=match ops with | []=>[] | o :: r=>{ o with kids:=g } :: r
def cur (root : Fo) (ops : List Op) : Fo:=match ops with | []=>root | o :: _=>o.kids
def nmOf (ops : List Op) : List Bs:=(ops.map (·.name)).reverse
theorem cur_set (root : Fo) (ops : List Op) (g : Fo) : cur (rs root ops g) (os ops g) = g:=by cases ops <;> rfl
theorem nm_set (ops : List Op) (g : Fo) : nmOf (os ops g) = nmOf ops:=by cases ops <;> rfl
theorem len_set (ops : List Op) (g : Fo) : (os ops g).length = ops.length:=by cases ops <;> rfl
theorem rs_set (root : Fo) (ops : List Op) (g h : Fo) : rs (rs root ops g) (os ops g) h = rs root ops h:=by cases ops <;> rfl
theorem os_set (ops : List Op) (g h : Fo) : os (os ops g) h = os ops h:=by cases ops <;> rfl
theorem putIn_R (root : Fo) (ops : List Op) (n : Bs) (a : List At) (t : Bs) (k : Fo) : (R root ops).putIn n a t k = R (rs root ops (snoc n a t k (cur root ops))) (os ops (snoc n a t k (cur root ops))):=by
 cases ops with
 | nil=>rfl
 | cons o r=>simp [putIn,R,rs,os,cur]
theorem pop_R (root : Fo) (o : Op) (r : List Op) : (R root (o :: r)).pop = (R root r).putIn o.name o.ats [] o.kids:=by simp [pop,R]
theorem names_R (root : Fo) (ops : List Op) : (R root ops).names = nmOf ops:=by simp [names,R,nmOf]
theorem open_R (root : Fo) (ops : List Op) : (R root ops).open_.length = ops.length:=by simp [R]
theorem nm_len (ops : List Op) : (nmOf ops).length = ops.length:=by simp [nmOf]
theorem nm_cons (o : Op) (r : List Op) : nmOf (o :: r) = nmOf r++[o.name]:=by simp [nmOf]
theorem push_R (root : Fo) (ops : List Op) (o : Op) : ({ R root ops with open_:=(R root ops).open_++[o] } : Bld) = R root (o :: ops):=by simp [R]
/-- a right tree, told by its tokens, stands behind what is there. -/
theorem fold_flat : ∀ (f root : Fo) (ops : List Op),checkF f (nmOf ops) (endsT (cur root ops)) = 0→ops.length + f.depth≤8→(flat f).foldl token (R root ops) = R (rs root ops ((cur root ops).app f)) (os ops ((cur root ops).app f)):=by
 intro f
 induction f with
 | nil =>
  intro root ops _ _
  rw [Fo.app_nil]
  cases ops <;> rfl
 | node n a t k r ihk ihr =>
  intro root ops hc hd
  obtain ⟨c1,c2,c3,c4⟩:=(checkF_node ..).1 hc
  have hsn : snoc n a t k (cur root ops) = (cur root ops).app (node n a t k nil):=snoc_app n a t k _ c2
  have hd2:=node_depth (D:=8 - ops.length) (n:=n) (a:=a) (t:=t) (k:=k) (r:=r) (by omega)
  obtain ⟨d1,d2⟩:=hd2
  have hd3 : n ≠ []→ops.length < 8:=fun q=>by have:=d1 q;omega
  have hrest : (flat r).foldl token ((R root ops).putIn n a t k) = R (rs root ops ((cur root ops).app (node n a t k r))) (os ops ((cur root ops).app (node n a t k r))):=by
   rw [putIn_R,hsn]
   have h:=ihr (rs root ops ((cur root ops).app (node n a t k nil))) (os ops ((cur root ops).app (node n a t k nil)))
   rw [cur_set,nm_set,len_set,rs_set,os_set,ends_app,Fo.app_assoc] at h
   refine h c4 ?_
   by_cases hn : n = []
   ·simp only [Fo.depth,hn,if_true] at hd
    exact hd
   ·have:=hd3 hn
    omega
  by_cases hn : n = []
  ·subst hn
   obtain ⟨q1,q2,q3⟩:=(nodeE_text ..).1 c1
   subst q2
   subst q3
   exact hrest
  ·obtain ⟨e1,e2,e3,e4,e5⟩:=(nodeE_el _ _ hn _ _ _).1 c1
   subst e1
   have hop:=d1 hn
   have hs : stays (nmOf ops) n = ops.length:=by
    have h1 : stays (nmOf ops) n≤(nmOf ops).length:=by
     have:=stays_R (ops.map (·.name)) n
     rw [show nmOf ops = (ops.map (·.name)).reverse from rfl,this,List.length_reverse]
     unfold staysR
     simp only
     have hl : ∀ l1 : List Bs,(if (n == li) = true then (findR li listB l1).getD l1 else l1).length≤l1.length:=fun l1=>by
      split
      ·exact (find_len ..).1
      ·exact Nat.le_refl _
     refine Nat.le_trans (hl _) ?_
     split
     ·exact (find_len ..).1
     ·exact Nat.le_refl _
    rw [nm_len] at h1 e5
    exact Nat.le_antisymm h1 e5
   have hclose : (R root ops).close (stays (R root ops).names n) = R root ops:=by
    unfold close
    rw [names_R,hs,open_R,Nat.sub_self]
    rfl
   have h8 : ¬ (R root ops).open_.length = 8:=by rw [open_R];have:=hd3 hn;omega
   have hopen : (R root ops).token ⟨2,n,a,[]⟩ = if emptyB n = true then (R root ops).putIn n a [] nil else R root (⟨n,a,nil⟩ :: ops):=by
    unfold token
    rw [if_neg (by simp),if_pos (by simp)]
    simp only [hclose]
    rw [if_neg h8,push_R]
   have hflat : flat (node n a [] k r) = ⟨2,n,a,[]⟩ :: ((if emptyB n = true then [] else flat k++[⟨3,n,[],[]⟩])++flat r):=by
    rw [flat,if_neg hn]
   rw [hflat,List.foldl_cons,hopen]
   by_cases he : emptyB n = true
   ·rw [if_pos he,if_pos he,List.nil_append]
    rw [e3 he] at hrest ⊢
    exact hrest
   ·rw [if_neg he,if_neg he,List.foldl_append,List.foldl_append]
    have hk:=ihk root (⟨n,a,nil⟩ :: ops) (by rw [nm_cons];exact c3) (by simp only [List.length_cons];omega)
    have e6 : (nil : Fo).app k = k:=rfl
    rw [hk]
    show (flat r).foldl token (([⟨3,n,[],[]⟩] : List Tok).foldl token (R root (⟨n,a,(nil : Fo).app k⟩ :: ops))) = _
    rw [e6]
    have hcl : (([⟨3,n,[],[]⟩] : List Tok).foldl token (R root (⟨n,a,k⟩ :: ops))) = (R root ops).putIn n a [] k:=by
     show (R root (⟨n,a,k⟩ :: ops)).token ⟨3,n,[],[]⟩ = _
     unfold token
     rw [if_neg (by simp),if_neg (by simp),if_pos (by simp)]
     have ha : above n (fun _=>false) (R root (⟨n,a,k⟩ :: ops)).names = some ops.length:=by
      rw [names_R]
      unfold above nmOf
      rw [List.reverse_reverse,List.map_cons]
      unfold aboveR
      rw [if_pos rfl,List.length_map]
     simp only [ha]
     unfold close
     rw [open_R,List.length_cons,Nat.add_sub_cancel_left]
     exact pop_R root ⟨n,a,k⟩ ops
    rw [hcl]
    exact hrest
theorem build_flat (f : Fo) (hc : checkF f [] false = 0) (hd : f.depth≤8) : build (flat f) = f:=by
 unfold build
 have h:=fold_flat f nil [] hc (by simpa using hd)
 have e : (⟨nil,[]⟩ : Bld) = R nil []:=rfl
 rw [e,h]
 rfl
/-! What is built is right. -/
def TokOk (t : Tok) : Prop:=(t.kind = 1∧t.name = []∧t.ats = []∧t.text ≠ []) ∨ (t.kind = 2∧isName t.name = true∧checkAts isName [] t.ats = 0∧t.text = []) ∨ (t.kind = 3∧isName t.name = true∧t.ats = []∧t.text = [])
end Bld
end Mk
