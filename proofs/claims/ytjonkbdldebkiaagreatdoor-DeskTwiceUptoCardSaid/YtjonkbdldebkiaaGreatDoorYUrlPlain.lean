/- Plain law of links. -/
set_option linter.unusedVariables false
set_option linter.unusedSimpArgs false
namespace Mg
abbrev Bs:=List UInt8

def pre (p l:Bs):Bool:=l.take p.length == p
theorem j6n (p l:Bs) (h:l.length < p.length):pre p l=false:=by
 unfold pre;rw[beq_eq_false_iff_ne];intro e;have:=congrArg List.length e;rw[List.length_take] at this;omega
def isLet (c:UInt8):Bool:=(97≤c && c≤122) || (65≤c && c≤90)
def z04 (c:UInt8):Bool:=48≤c && c≤57
def z6p (c:UInt8):Bool:=z04 c || c == 43 || c == 45 || c == 46
def q00 (i:Nat) (c:UInt8):Bool:=isLet c || (decide (0 < i) && z6p c)
def z2x:Nat→Bs→Nat
 | _,[]=>0
 | i,c :: t=>if c == 58 then i else if q00 i c then z2x (i + 1) t else 0
def z1u (s:Bs):Nat:=z2x 0 s

theorem j2v (s:Bs):∀ k,z2x k s=0∨∃ j,z2x k s=k + j∧s[j]? = some 58:=by
 induction s with
 | nil=>intro k;exact .inl rfl
 | cons c t ih =>
  intro k;unfold z2x
  by_cases h:c == 58
  ·rw[if_pos h]
   exact .inr ⟨0,rfl,by simpa using h⟩
  ·rw[if_neg h]
   by_cases ha:q00 k c=true
   ·rw[if_pos ha]
    rcases ih (k + 1) with h0 | ⟨j,hj,hs⟩
    ·exact .inl h0
    ·exact .inr ⟨j + 1,by rw[hj];omega,by simpa using hs⟩
   ·rw[if_neg ha]
    exact .inl rfl
theorem j04 (s:Bs) (h:z1u s ≠ 0):s[z1u s]? = some 58:=by
 rcases j2v s 0 with h0 | ⟨j,hj,hs⟩
 ·exact absurd h0 h
 ·unfold z1u;rw[hj,Nat.zero_add];exact hs
def z2a (c:UInt8):Bool:=c == 58 || c == 47 || c == 63 || c == 35
def z9y:Nat→Nat→Bs→Bool
 | 0,_,_=>true
 | _ + 1,_,[]=>true
 | n + 1,i,c :: t=>q00 i c && z9y n (i + 1) t
theorem j2u (i:Nat) (c:UInt8) (h:z2a c=true):q00 i c=false:=by
 unfold z2a at h;simp only [Bool.or_eq_true,beq_iff_eq] at h
 rcases h with ((h | h) | h) | h <;> subst h <;> cases i <;> simp[q00,isLet,z6p,z04] <;> decide
theorem j2w (s:Bs):∀ k,z2x k s=if s[s.findIdx z2a]? = some 58∧z9y (s.findIdx z2a) k s=true then k + s.findIdx z2a else 0:=by
 induction s with
 | nil=>intro k;simp[z2x]
 | cons c t ih =>
  intro k;unfold z2x
  by_cases h:z2a c=true
  ·rw[List.findIdx_cons]
   simp only [h,cond_true,List.getElem?_cons_zero]
   by_cases h58:c=58
   ·simp[h58,z9y]
   ·simp[h58,j2u k c h]
  ·rw[List.findIdx_cons]
   simp only [h,cond_false,List.getElem?_cons_succ,z9y];have h58:¬ c=58:=by intro e;subst e;simp[z2a] at h
   rw[ih (k + 1)]
   by_cases ha:q00 k c=true
   ·simp only [h58,ha,beq_iff_eq,if_true,if_false,Bool.true_and,Nat.add_assoc,Nat.add_comm 1]
   ·simp[h58,ha]
theorem schOf_eq (s:Bs):z1u s=if s[s.findIdx z2a]? = some 58∧z9y (s.findIdx z2a) 0 s=true then s.findIdx z2a else 0:=by
 have:=j2w s 0
 simpa [z1u] using this
structure U where
 (sch au pa qu fr:Bs)
 (hs ha hq hf:Bool)
 deriving DecidableEq

def nilU:U:=⟨[],[],[],[],[],false,false,false,false⟩

def q5b (c:UInt8):Bool:=c == 47 || c == 63 || c == 35
def z4a (c:UInt8):Bool:=c == 63 || c == 35
def q1j (c:UInt8):Bool:=c == 35
def upto (p:UInt8→Bool) (s:Bs):Bs:=s.takeWhile (fun c=>!p c)
def past (p:UInt8→Bool) (s:Bs):Bs:=s.dropWhile (fun c=>!p c)
theorem q6r (p:UInt8→Bool) (s:Bs):past p s=[]∨∃ c t,past p s=c :: t∧p c=true:=by
 unfold past
 induction s with
 | nil=>simp
 | cons c t ih =>
  rw[List.dropWhile_cons]
  by_cases h:p c=true
  ·simp[h]
  ·simpa [h] using ih

def isAt (c:UInt8):Bs→Bool | d :: _=>d == c | []=>false
def sl2 (s:Bs):Bool:=s.take 2 == [47,47]

def z0z (s:Bs):Bs:=if z1u s=0 then s else s.drop (z1u s + 1)
def z3l (r:Bs):Bs:=if sl2 r then past q5b (r.drop 2) else r
def z2h (r:Bs):Bs:=if isAt 63 r then past q1j r.tail else r
def split (s:Bs):U :=
 let r1:=z0z s
 let r2:=z3l r1
 let r3:=past z4a r2
 let r4:=z2h r3
 {sch:=if z1u s=0 then [] else s.take (z1u s),hs:=decide (z1u s ≠ 0),
  au:=if sl2 r1 then upto q5b (r1.drop 2) else [],ha:=sl2 r1,
  pa:=upto z4a r2,
  qu:=if isAt 63 r3 then upto q1j r3.tail else [],hq:=isAt 63 r3,
  fr:=r4.tail,hf:=isAt 35 r4 }

def join (u:U):Bs :=
 (if u.hs then u.sch++[58] else [])++(if u.ha then [47,47]++u.au else [])++u.pa++(if u.hq then [63]++u.qu else [])++(if u.hf then [35]++u.fr else [])

theorem r4_form (r:Bs):(∀ c t,r=c :: t→z4a c=true)→z2h r=[]∨isAt 35 (z2h r)=true:=by
 intro h;unfold z2h
 by_cases h63:isAt 63 r=true
 ·rw[if_pos h63]
  rcases q6r q1j r.tail with h0 | ⟨c,t,e,hc⟩
  ·exact .inl h0
  ·right;rw[e];simpa [isAt,q1j] using hc
 ·rw[if_neg h63]
  cases r with
  | nil=>exact .inl rfl
  | cons c t =>
   right
   have:=h c t rfl;simp only [z4a,Bool.or_eq_true,beq_iff_eq] at this
   rcases this with e | e
   ·subst e;exact absurd rfl h63
   ·subst e;rfl

def z0a (i:Bs):Bool × Bs × Bs :=
 if i.take 3=[46,46,47] then (false,i.drop 3,[])
 else if i.take 2=[46,47] then (false,i.drop 2,[])
 else if i.take 3=[47,46,47] then (false,i.drop 2,[])
 else if i=[47,46] then (false,[47],[])
 else if i.take 4=[47,46,46,47] then (true,i.drop 3,[])
 else if i=[47,46,46] then (true,[47],[])
 else if i=[46]∨i=[46,46] then (false,[],[])
 else (false,i.tail.dropWhile (· != 47),i.take 1++i.tail.takeWhile (· != 47))
def bk (o:Bs):Bs:=(o.reverse.dropWhile (· != 47)).tail.reverse
def q48:Nat→Bs→Bs→Bs
 | 0,_,o=>o
 | n + 1,i,o=>if i=[] then o else q48 n (z0a i).2.1 ((if (z0a i).1 then bk o else o)++(z0a i).2.2)
def dots (s:Bs):Bs:=q48 s.length s []

theorem z6w (i:Bs) (h:i ≠ []):(z0a i).2.1.length < i.length:=by
 have hl:0 < i.length:=List.length_pos_iff.2 h;unfold z0a
 split
 ·simp only [List.length_drop];omega
 split
 ·simp only [List.length_drop];omega
 split
 ·simp only [List.length_drop];omega
 split
 ·rename_i e;subst e;simp
 split
 ·simp only [List.length_drop];omega
 split
 ·rename_i e;subst e;simp
 split
 ·simpa using hl
 ·have:=(List.dropWhile_suffix (l:=i.tail) (fun c:UInt8=>c != 47)).length_le
  simp at this;show (i.tail.dropWhile (fun c:UInt8=>c != 47)).length < _;omega
theorem j1s (n:Nat):∀ m i o,i.length≤n→i.length≤m→q48 n i o=q48 m i o:=by
 induction n with
 | zero =>
  intro m i o h _;have:i=[]:=List.eq_nil_of_length_eq_zero (by omega);subst this
  cases m <;> simp[q48]
 | succ n ih =>
  intro m i o h hm
  by_cases hi:i=[]
  ·subst hi;cases m <;> simp[q48]
  ·have:=z6w i hi
   cases m with
   | zero=>exfalso;exact hi (List.eq_nil_of_length_eq_zero (by omega))
   | succ m =>
    simp only [q48,hi,if_false];exact ih m _ _ (by omega) (by omega)
def q49 (i o:Bs):Bs:=q48 i.length i o
theorem j5d (o:Bs):q49 [] o=o:=rfl
theorem q2u (i o:Bs) (h:i ≠ []):q49 i o=q49 (z0a i).2.1 ((if (z0a i).1 then bk o else o)++(z0a i).2.2):=by
 have hl:=z6w i h;unfold q49;obtain⟨n,hn⟩:∃ n,i.length=n + 1:=⟨i.length - 1,by omega⟩;rw[hn];simp only [q48,h,if_false];exact j1s _ _ _ _ (by omega) (Nat.le_refl _)
theorem dots_ind (Q:Bs→Bs→Prop) (h0:∀ o,Q [] o) (h1:∀ i o,i ≠ []→Q (z0a i).2.1 ((if (z0a i).1 then bk o else o)++(z0a i).2.2)→Q i o):∀ i o,Q i o:=by
 have:∀ n i o,i.length≤n→Q i o:=by
  intro n
  induction n with
  | zero =>
   intro i o h;have:i=[]:=List.eq_nil_of_length_eq_zero (by omega);subst this;exact h0 o
  | succ n ih =>
   intro i o h
   by_cases hi:i=[]
   ·subst hi;exact h0 o
   ·have:=z6w i hi
    exact h1 i o hi (ih _ _ (by omega))
 exact fun i o=>this _ i o (Nat.le_refl _)

theorem bk_len (o:Bs):(bk o).length≤o.length:=by
 unfold bk;have:=(List.dropWhile_suffix (l:=o.reverse) (fun c:UInt8=>c != 47)).length_le;simp at this ⊢;omega
theorem j5a (i:Bs) (_h:i ≠ []):(z0a i).2.1.length + (z0a i).2.2.length≤i.length:=by
 have e:(i.tail.takeWhile (fun c:UInt8=>c != 47)).length + (i.tail.dropWhile (fun c:UInt8=>c != 47)).length=i.tail.length:=by
  rw[← List.length_append,List.takeWhile_append_dropWhile]
 have ht:i.tail.length=i.length - 1:=List.length_tail;have hp:0 < i.length:=List.length_pos_iff.2 _h;unfold z0a
 split
 ·simp
 split
 ·simp
 split
 ·simp
 split
 ·rename_i e;subst e;simp
 split
 ·simp
 split
 ·rename_i e;subst e;simp
 split
 ·simp
 ·simp only [List.length_append,List.length_take]
  omega
theorem j5c:∀ i o,(q49 i o).length≤i.length + o.length:=by
 refine dots_ind (fun i o=>(q49 i o).length≤i.length + o.length) (fun o=>by simp[j5d]) ?_;intro i o hi h;rw[q2u i o hi];refine Nat.le_trans h ?_;have h1:=j5a i hi;have h2:=bk_len o;rw[List.length_append]
 split <;> omega
theorem q4a (s:Bs):(dots s).length≤s.length:=by
 have:=j5c s []
 simpa [dots,q49] using this

def q6m (p:Bs):Prop:=p ≠ []∧(47:UInt8) ∉ p.tail
def z1i (p:Bs):Prop:=∃ t,p=47 :: t
def z6m:List Bs→Prop
 | []=>True
 | p :: ps=>q6m p∧∀ q ∈ ps,q6m q∧z1i q
theorem q6n (o:List Bs) (p:Bs) (h:z6m o) (hp:q6m p) (hs:o ≠ []→z1i p):z6m (o++[p]):=by
 cases o with
 | nil=>exact⟨hp,by simp⟩
 | cons a t =>
  refine⟨h.1,fun q hq=>?_⟩
  rcases List.mem_append.1 hq with h1 | h1
  ·exact h.2 q h1
  ·have:q=p:=by simpa using h1
   subst this;exact⟨hp,hs (by simp)⟩
theorem z9z (o:List Bs) (h:z6m o):z6m o.dropLast:=by
 cases o with
 | nil=>exact h
 | cons a t =>
  cases t with
  | nil=>trivial
  | cons b t=>exact⟨h.1,fun q hq=>h.2 q ((List.dropLast_sublist _).subset hq)⟩
theorem z9p (l r:Bs) (h:(47:UInt8) ∉ l):(l++r).dropWhile (· != 47)=r.dropWhile (· != 47):=by
 induction l with
 | nil=>rfl
 | cons c t ih =>
  have hc:c ≠ 47:=fun e=>h (by simp[e])
  have ht:(47:UInt8) ∉ t:=fun e=>h (by simp[e])
  simp[hc,ih ht]
theorem j4o (o p:Bs) (hp:q6m p) (hs:o=[]∨z1i p):bk (o++p)=o:=by
 obtain⟨hne,hno⟩:=hp
 match p,hne with
 | c :: t,_ =>
  have ht:(47:UInt8) ∉ t.reverse:=by simpa using hno
  unfold bk;rw[show o++c :: t=o++[c]++t from by simp,List.reverse_append,z9p _ _ ht,List.reverse_append]
  by_cases hc:c=47
  ·subst hc
   simp
  ·rcases hs with rfl | ⟨u,hu⟩
   ·simp[hc]
   ·injection hu with hu _;exact absurd hu hc
theorem bk_parts (o:List Bs) (h:z6m o):bk o.flatten=o.dropLast.flatten:=by
 rcases List.eq_nil_or_concat o with rfl | ⟨l,p,rfl⟩
 ·rfl
 ·simp only [List.concat_eq_append] at h ⊢
  rw[List.dropLast_concat,List.flatten_append];simp only [List.flatten_cons,List.flatten_nil,List.append_nil]
  cases l with
  | nil=>exact j4o _ _ h.1 (.inl rfl)
  | cons a t =>
   have:=h.2 p (by simp);exact j4o _ _ this.1 (.inr this.2)

def z8f (i:Bs) (o:List Bs):List Bs:=(if (z0a i).1 then o.dropLast else o)++(if (z0a i).2.2=[] then [] else [(z0a i).2.2])
theorem z9h (l:Bs):(47:UInt8) ∉ l.takeWhile (· != 47):=by
 induction l with
 | nil=>simp
 | cons c t ih =>
  rw[List.takeWhile_cons]
  by_cases hc:c=47
  ·simp[hc]
  ·simp only [bne_iff_ne,ne_eq,hc,not_false_eq_true,if_true,List.mem_cons,not_or]
   exact⟨fun e=>hc e.symm,ih⟩
theorem q1y (l:Bs):l.dropWhile (· != 47)=[]∨z1i (l.dropWhile (· != 47)):=by
 induction l with
 | nil=>exact .inl rfl
 | cons c t ih =>
  rw[List.dropWhile_cons]
  by_cases hc:c=47
  ·right;simp[hc,z1i]
  ·simpa [hc] using ih
theorem q7x (i:Bs) (hi:i ≠ []):((z0a i).2.2=[]∨q6m (z0a i).2.2∧(z0a i).1=false∧((z1i i→z1i (z0a i).2.2)))∧((z1i i∨(z0a i).2.2 ≠ [])→(z0a i).2.1=[]∨z1i (z0a i).2.1)∧((z0a i).1=true→z1i i):=by
 obtain⟨c,t,rfl⟩:=List.exists_cons_of_ne_nil hi;unfold z0a
 split
 ·rename_i e
  refine⟨.inl rfl,?_,by simp⟩;rintro (⟨u,hu⟩ | h)
  ·injection hu with hu _;subst hu;simp at e
  ·exact absurd rfl h
 split
 ·rename_i e
  refine⟨.inl rfl,?_,by simp⟩;rintro (⟨u,hu⟩ | h)
  ·injection hu with hu _;subst hu;simp at e
  ·exact absurd rfl h
 split
 ·rename_i e
  refine⟨.inl rfl,fun _=>.inr ?_,by simp⟩
  match t,e with
  | [a,b],e=>simp at e;simp[e,z1i]
  | a :: b :: d :: t,e=>simp at e;simp[e,z1i]
 split
 ·exact⟨.inl rfl,fun _=>.inr ⟨[],rfl⟩,by simp⟩
 split
 ·rename_i e
  refine⟨.inl rfl,fun _=>.inr ?_,fun _=>?_⟩
  ·match t,e with
   | [a,b,d],e=>simp at e;simp[e,z1i]
   | a :: b :: d :: f :: t,e=>simp at e;simp[e,z1i]
  ·simp at e;exact⟨t,by rw[e.1]⟩
 split
 ·rename_i e
  exact⟨.inl rfl,fun _=>.inr ⟨[],rfl⟩,fun _=>by rw[e];exact⟨_,rfl⟩⟩
 split
 ·exact⟨.inl rfl,fun _=>.inl rfl,by simp⟩
 ·refine⟨.inr ⟨⟨by simp,?_⟩,rfl,?_⟩,fun _=>q1y _,by simp⟩
  ·simpa using z9h t
  ·rintro ⟨u,hu⟩;injection hu with hu _;subst hu;exact⟨_,rfl⟩

theorem dpart_ok (i:Bs) (o:List Bs) (hi:i ≠ []) (ho:z6m o) (hs:o ≠ []→z1i i) :
  (z8f i o).flatten=(if (z0a i).1 then bk o.flatten else o.flatten)++(z0a i).2.2∧z6m (z8f i o)∧(z8f i o ≠ []→(z0a i).2.1=[]∨z1i (z0a i).2.1):=by
 obtain⟨h1,h2,h3⟩:=q7x i hi;unfold z8f;refine⟨?_,?_,?_⟩
 ·rw[List.flatten_append]
  have e:(if (z0a i).2.2=[] then [] else [(z0a i).2.2]).flatten=(z0a i).2.2:=by
   by_cases h0:(z0a i).2.2=[] <;> simp[h0]
  rw[e]
  by_cases hb:(z0a i).1=true
  ·simp only [hb,if_true]
   rw[bk_parts o ho]
  ·simp only [hb]
   rfl
 ·rcases h1 with h1 | ⟨hp,hb,hsl⟩
  ·simp only [h1,if_true,List.append_nil]
   split
   ·exact z9z o ho
   ·exact ho
  ·simp only [hb,hp.1,if_false]
   exact q6n o _ ho hp (fun h=>hsl (hs h))
 ·intro hne
  by_cases h0:(z0a i).2.2=[]
  ·simp only [h0,if_true,List.append_nil] at hne
   apply h2
   left
   by_cases hb:(z0a i).1=true
   ·exact h3 hb
   ·simp only [hb] at hne;exact hs hne
  ·exact h2 (.inr h0)

def j5b (p:Bs):Prop:=p ≠ [46]∧p ≠ [46,46]∧p ≠ [47,46]∧p ≠ [47,46,46]
def z7p (b u:U):Bs:=if b.ha && b.pa.isEmpty then 47 :: u.pa else (b.pa.reverse.dropWhile (· != 47)).reverse++u.pa
def resU (b u:U):U :=
 if u.hs then { u with pa:=dots u.pa }
 else if u.ha then { u with sch:=b.sch,hs:=true,pa:=dots u.pa }
 else if u.pa=[] then { u with sch:=b.sch,hs:=true,au:=b.au,ha:=b.ha,pa:=dots b.pa,qu:=if u.hq then u.qu else b.qu,hq:=if u.hq then true else b.hq }
 else { u with sch:=b.sch,hs:=true,au:=b.au,ha:=b.ha,pa:=dots (if isAt 47 u.pa then u.pa else z7p b u) }
def q36 (u:U):Bool:=split (join u) == u
def res (base s:Bs):Option Bs :=
 let t:=resU (split base) (split s)
 if q36 t then some (join t) else none

def low (c:UInt8):UInt8:=if 65≤c && c≤90 then c + 32 else c
def fold (s:Bs):Bs:=s.map low
def q57 (w:Bs):Bool:=w == [104,116,116,112] || w == [104,116,116,112,115] || w == [109,97,105,108,116,111]
def isSafe (s:Bs):Bool:=let t:=s.filter (fun c=>decide (32 < c));q57 (fold (t.take (z1u t)))

theorem z0x (p:UInt8→Prop) [DecidablePred p] (h:(List.range 256).all (fun n=>decide (p (UInt8.ofNat n)))=true):∀ c,p c:=by
 intro c;have hc:=List.all_eq_true.1 h c.toNat (by have:=c.toNat_lt;simp;omega)
 simpa using hc
theorem j6d (c:UInt8):(low c).toNat=if 65≤c.toNat∧c.toNat≤90 then c.toNat + 32 else c.toNat:=z0x (fun c=>(low c).toNat=if 65≤c.toNat∧c.toNat≤90 then c.toNat + 32 else c.toNat) (by decide +kernel) c
theorem j6c (c:UInt8):isLet (low c)=isLet c:=z0x (fun c=>isLet (low c)=isLet c) (by decide +kernel) c
theorem q9t (c:UInt8):z6p (low c)=z6p c:=z0x (fun c=>z6p (low c)=z6p c) (by decide +kernel) c
theorem low_58 (c:UInt8):(low c == 58)=(c == 58):=z0x (fun c=>(low c == 58)=(c == 58)) (by decide +kernel) c
theorem q70 (s:Bs):∀ k,z2x k (fold s)=z2x k s:=by
 induction s with
 | nil=>intro k;rfl
 | cons c t ih =>
  intro k;show z2x k (low c :: fold t)=_;unfold z2x;simp only [q00,low_58,j6c,q9t,ih];rfl
theorem j2x (s:Bs):z1u (fold s)=z1u s:=q70 s 0
theorem q84 (s:Bs):isSafe s=let t:=fold (s.filter (fun c=>decide (32 < c)));q57 (t.take (z1u t)):=by
 simp only [isSafe,j2x];simp only [fold,List.map_take]
theorem q68 (c:UInt8):isLet c=true↔(97≤(c.toNat:Int)∧(c.toNat:Int)≤122)∨(65≤(c.toNat:Int)∧(c.toNat:Int)≤90):=z0x (fun c=>isLet c=true↔(97≤(c.toNat:Int)∧(c.toNat:Int)≤122)∨(65≤(c.toNat:Int)∧(c.toNat:Int)≤90)) (by decide +kernel) c
theorem q5d (c:UInt8):z6p c=true↔(48≤(c.toNat:Int)∧(c.toNat:Int)≤57)∨(c.toNat:Int)=43∨(c.toNat:Int)=45∨(c.toNat:Int)=46:=z0x (fun c=>z6p c=true↔(48≤(c.toNat:Int)∧(c.toNat:Int)≤57)∨(c.toNat:Int)=43∨(c.toNat:Int)=45∨(c.toNat:Int)=46) (by decide +kernel) c
end Mg
namespace Mk
abbrev Bs := List UInt8

def esc (c:UInt8):Bs := if c=38 then [38, 97, 109, 112, 59] else if c=60 then [38, 108, 116, 59] else if c=62 then [38, 103, 116, 59] else if c=34 then [38, 113, 117, 111, 116, 59] else [c]
def put (s:Bs):Bs := s.flatMap esc
def z6i (n:Nat):Nat := if 48 ≤ n ∧ n ≤ 57 then n - 48 else if 97 ≤ n ∧ n ≤ 122 then n - 87 else if 65 ≤ n ∧ n ≤ 90 then n - 55 else 99
def z04 (b:Nat) (c:UInt8):Bool := decide (z6i c.toNat < b)
def value (b:Nat) (l:Bs):Nat := l.foldl (fun n c => n * b + z6i c.toNat) 0
def scalar (n:Nat):Bool := decide (0 < n) && decide (n ≤ 1114111) && (decide (n < 55296) || decide (57343 < n))
def utf8 (n:Nat):Bs :=
  if n < 128 then [UInt8.ofNat n]
  else if n < 2048 then [UInt8.ofNat (192 + n / 64), UInt8.ofNat (128 + n % 64)]
  else if n < 65536 then [UInt8.ofNat (224 + n / 4096), UInt8.ofNat (128 + n / 64 % 64), UInt8.ofNat (128 + n % 64)]
  else [UInt8.ofNat (240 + n / 262144), UInt8.ofNat (128 + n / 4096 % 64), UInt8.ofNat (128 + n / 64 % 64), UInt8.ofNat (128 + n % 64)]
def named (s:Bs):Option (UInt8 × Nat) :=
  if Mg.pre [38, 97, 109, 112, 59] s then some (38, 5)
  else if Mg.pre [38, 108, 116, 59] s then some (60, 4)
  else if Mg.pre [38, 103, 116, 59] s then some (62, 4)
  else if Mg.pre [38, 113, 117, 111, 116, 59] s then some (34, 6)
  else if Mg.pre [38, 97, 112, 111, 115, 59] s then some (39, 6)
  else none
def numAt (b most ahead:Nat) (s:Bs):Option (Nat × Nat) :=
  let r := s.drop ahead
  let ds := r.takeWhile (z04 b)
  if ds.length=0∨most < ds.length then none
  else if Mg.isAt 59 (r.drop ds.length) then some (value b ds, ahead + ds.length + 1) else none
def numbered (s:Bs):Option (Nat × Nat) :=
  if Mg.pre [38, 35, 120] s then numAt 16 6 3 s
  else if Mg.pre [38, 35] s then numAt 10 7 2 s
  else none
def sign (s:Bs):Bs × Nat × Bool :=
  match named s with
  | some (c, n) => ([c], n, true)
  | none =>
    match numbered s with
    | none => ([38], 0, false)
    | some (p, n) => if scalar p then (utf8 p, n, true) else ([239, 191, 189], n, false)
def takeN:Nat → Bs → Bs × Bool
  | 0, _ => ([], true)
  | _ + 1, [] => ([], true)
  | n + 1, c :: t =>
    if c=38 then
      let x := sign (c :: t)
      let r := takeN n ((c :: t).drop (max 1 x.2.1))
      (x.1 ++ r.1, x.2.2 && r.2)
    else
      let r := takeN n t
      (c :: r.1, r.2)
def take (s:Bs):Bs × Bool := takeN s.length s

def white (c:UInt8):Bool := c == 9 || c == 10 || c == 12 || c == 13 || c == 32
def small (c:UInt8):Bool := 97 ≤ c && c ≤ 122
def z5p:Bool → Bs → Bool
  | _, [] => true
  | first, c :: t => (small c || (!first && (Mg.z04 c || c == 45))) && z5p false t
def isName (s:Bs):Bool := decide (s ≠ []) && decide (s.length ≤ 20) && z5p true s

structure At where
  n:Bs
  v:Bs
  deriving DecidableEq
structure Tok where
  kind:Int
  name:Bs
  ats:List At
  text:Bs
  deriving DecidableEq

def z4m (l:List At) (n:Bs):Bool := l.any (fun a => a.n == n)
def valueOf (r:Bs):Option (Bs × Bs) :=
  match r.dropWhile white with
  | [] => some ([], [])
  | q :: t =>
    if q=34∨q=39 then
      match t.dropWhile (· != q) with
      | [] => none
      | _ :: u => some (t.takeWhile (· != q), u)
    else some ((q :: t).takeWhile (fun c => !white c && c != 62), (q :: t).dropWhile (fun c => !white c && c != 62))
def z0j (c:UInt8):Bool := !white c && c != 47 && c != 62 && c != 61
def z0o:Nat → Bs → List At → Option (List At × Bs)
  | 0, _, _ => none
  | n + 1, r, out =>
    match r.dropWhile (fun c => white c || c == 47) with
    | [] => none
    | c :: t =>
      if c=62 then some (out, t)
      else
        let nm := Mg.fold (c :: t.takeWhile z0j)
        let r3 := (t.dropWhile z0j).dropWhile white
        match (if Mg.isAt 61 r3 then (valueOf r3.tail).map (fun x => ((take x.1).1, x.2)) else some ([], r3)) with
        | none => none
        | some (v, r4) => z0o n r4 (if isName nm && !z4m out nm then out ++ [⟨nm, v⟩] else out)
def z5i (r:Bs):Option (List At × Bs) := z0o (r.length + 1) r []
def behind (p:Bs):Bs → Option Bs
  | [] => if p=[] then some [] else none
  | c :: t => if Mg.pre p (c :: t) then some ((c :: t).drop p.length) else behind p t
def V9 (c:UInt8):Bool := !white c && c != 47 && c != 62
inductive Here where
  | text:Here
  | stop:Here
  | gone (rest:Bs):Here
  | tag (t:Tok) (rest:Bs):Here
def q6b (l:Bs):Bool := match l with | c :: _ => Mg.isLet c | [] => false
def z6n (r:Bs):Here :=
  let nm := Mg.fold (r.takeWhile V9)
  match z5i (r.dropWhile V9) with
  | none => .stop
  | some (l, rest) => if isName nm then .tag ⟨2, nm, l, []⟩ rest else .gone rest
def z3q (r:Bs):Here :=
  let nm := Mg.fold (r.takeWhile V9)
  match behind [62] (r.dropWhile V9) with
  | none => .stop
  | some rest => if isName nm then .tag ⟨3, nm, [], []⟩ rest else .gone rest
def z1v (p r:Bs):Here := match behind p r with | none => .stop | some rest => .gone rest
def hereAt (r:Bs):Here :=
  if q6b r.tail then z6n r.tail
  else if Mg.pre [60, 47] r && q6b (r.drop 2) then z3q (r.drop 2)
  else if Mg.pre [60, 33, 45, 45] r then z1v [45, 45, 62] (r.drop 2)
  else if Mg.pre [60, 33] r || Mg.pre [60, 63] r || Mg.pre [60, 47] r then z1v [62] r
  else .text
def flush (text:Bs) (out:List Tok):List Tok := let t := (take text).1; if t=[] then out else out ++ [⟨1, [], [], t⟩]
def z5a:Nat → Bs → Bs → List Tok → List Tok
  | 0, _, text, out => flush text out
  | _ + 1, [], text, out => flush text out
  | n + 1, c :: t, text, out =>
    if c=60 then
      match hereAt (c :: t) with
      | .text => z5a n t (text ++ [60]) out
      | .stop => flush (text ++ c :: t) out
      | .gone rest => z5a n rest text out
      | .tag k rest => z5a n rest [] (flush text out ++ [k])
    else z5a n t (text ++ [c]) out
def toks (s:Bs):List Tok := z5a s.length s [] []

inductive Fo where
  | nil:Fo
  | node (name:Bs) (ats:List At) (text:Bs) (kids rest:Fo):Fo
  deriving DecidableEq
namespace Fo
def len:Fo → Nat | nil => 0 | node _ _ _ _ r => r.len + 1
def app:Fo → Fo → Fo | nil, g => g | node n a t k r, g => node n a t k (r.app g)
def snoc (n:Bs) (a:List At) (t:Bs) (k:Fo):Fo → Fo
  | nil => node n a t k nil
  | node n' a' t' k' nil => if n=[] ∧ n'=[] then node n' a' (t' ++ t) k' nil else node n' a' t' k' (node n a t k nil)
  | node n' a' t' k' (node m b u j r) => node n' a' t' k' (snoc n a t k (node m b u j r))
def joins (f:Fo):Fo → Fo
  | nil => f
  | node n a t k r => joins (snoc n a t k f) r
end Fo

def z4f (n:Bs):Bool := n == [98, 114] || n == [104, 114] || n == [105, 109, 103]
def q26 (n:Bs):Bool := n == [117, 108] || n == [111, 108]
def q1r (n:Bs):Bool := q26 n || n == [108, 105] || n == [98, 108, 111, 99, 107, 113, 117, 111, 116, 101]
def q2j (n:Bs):Bool := q1r n || n == [112] || n == [104, 114]
def q5n (x:Bs) (q:Bs → Bool):List Bs → Option Nat
  | [] => none
  | n :: r => if n=x then some r.length else if q n then none else q5n x q r
def above (x:Bs) (q:Bs → Bool) (l:List Bs):Option Nat := q5n x q l.reverse
def q1x (l:List Bs):Option Nat → List Bs | none => l | some k => l.take k
def stays (l:List Bs) (n:Bs):Nat :=
  let l1 := if q2j n then q1x l (above [112] q1r l) else l
  let l2 := if n == [108, 105] then q1x l1 (above [108, 105] q26 l1) else l1
  l2.length

structure Op where
  name:Bs
  ats:List At
  kids:Fo
structure Bld where
  root:Fo
  open_:List Op
namespace Bld
def z7y (b:Bld) (n:Bs) (a:List At) (t:Bs) (k:Fo):Bld :=
  match b.open_.reverse with
  | [] => { b with root := Fo.snoc n a t k b.root }
  | o :: r => { b with open_ := (({ o with kids := Fo.snoc n a t k o.kids }:Op) :: r).reverse }
def pop (b:Bld):Bld :=
  match b.open_.reverse with
  | [] => b
  | o :: r => Bld.z7y { b with open_ := r.reverse } o.name o.ats [] o.kids
def z4q:Nat → Bld → Bld | 0, b => b | n + 1, b => z4q n b.pop
def close (b:Bld) (many:Nat):Bld := z4q (b.open_.length - many) b
def names (b:Bld):List Bs := b.open_.map (·.name)
def token (b:Bld) (t:Tok):Bld :=
  if t.kind=1 then b.z7y [] [] t.text .nil
  else if t.kind=2 then
    let c := b.close (stays b.names t.name)
    if c.open_.length=8 then c
    else if z4f t.name then c.z7y t.name t.ats [] .nil
    else { c with open_ := c.open_ ++ [⟨t.name, t.ats, .nil⟩] }
  else if t.kind=3 then
    match above t.name (fun _ => false) b.names with
    | none => b
    | some i => b.close i
  else b
end Bld
def build (l:List Tok):Fo := ((l.foldl Bld.token ⟨.nil, []⟩).close 0).root

def z14 (q:Bs → Bool):List At → List At → Int
  | _, [] => 0
  | seen, a :: r => if !q a.n then 1 else if z4m seen a.n then 6 else z14 q (seen ++ [a]) r
def flat:Fo → List Tok
  | .nil => []
  | .node n a t k r =>
    if n=[] then ⟨1, [], [], t⟩ :: flat r
    else ⟨2, n, a, []⟩ :: ((if z4f n then [] else flat k ++ [⟨3, n, [], []⟩]) ++ flat r)
def written (l:List At):Bs := l.flatMap (fun a => [32] ++ a.n ++ [61, 34] ++ put a.v ++ [34])
def z1s (t:Tok):Bs :=
  if t.kind=1 then put t.text
  else if t.kind=2 then [60] ++ t.name ++ written t.ats ++ [62]
  else if t.kind=3 then [60, 47] ++ t.name ++ [62]
  else []
def bytes (l:List Tok):Bs := l.flatMap z1s

def light (base s:Bs):Bs :=
  if 3000 < base.length∨3000 < s.length∨Mg.z1u base=0 then s
  else match Mg.res base s with | none => s | some t => t
def z9b:List Bs := [[97], [98], [105], [101, 109], [115, 116, 114, 111, 110, 103], [112], [98, 114], [104, 114], [117, 108], [111, 108], [108, 105], [98, 108, 111, 99, 107, 113, 117, 111, 116, 101], [99, 111, 100, 101], [105, 109, 103]]
def z1j (n:Bs):Bool := z9b.contains n
def q82 (n:Bs):Bool := n == [115, 99, 114, 105, 112, 116] || n == [115, 116, 121, 108, 101] || n == [116, 101, 109, 112, 108, 97, 116, 101]
def q19 (n:Bs):Bool := n == [104, 114, 101, 102] || n == [115, 114, 99]
def mayB (e n:Bs):Bool :=
  if e=[97] then n == [104, 114, 101, 102] || n == [116, 105, 116, 108, 101]
  else if e=[105, 109, 103] then n == [115, 114, 99] || n == [97, 108, 116]
  else false
def z1k (s:Bs):Bool := Mg.isSafe s && decide (s.length ≤ 3000)
def z3p (base e:Bs) (a:At):List At :=
  if !mayB e a.n then []
  else if q19 a.n then (if z1k (light base a.v) then [⟨a.n, light base a.v⟩] else [])
  else [a]
def Z5 (base e:Bs) (l:List At):List At := l.flatMap (z3p base e)
def X8 (base:Bs):Fo → Fo → Fo
  | out, .nil => out
  | out, .node n a t k r =>
    X8 base
      (if n=[] then Fo.snoc n a t k out
       else if q82 n then out
       else
         let kids := X8 base .nil k
         if !z1j n then Fo.joins out kids
         else
           let l := Z5 base n a
           if n=[105, 109, 103] ∧ z4m l [115, 114, 99]=false then out
           else Fo.snoc n l [] kids out) r
def clean (base:Bs) (f:Fo):Fo := X8 base .nil f
def q5s (e:Bs) (l:List At):Bool := l.any (fun a => !mayB e a.n || (q19 a.n && !z1k a.v))
def z8r:Fo → Bool
  | .nil => true
  | .node n a _ k r => !((decide (n ≠ []) && (!z1j n || q5s n a || (decide (n=[105, 109, 103]) && !z4m a [115, 114, 99]))) || !z8r k) && z8r r
def html (base s:Bs):Bs := bytes (flat (clean base (build (toks s))))

end Mk
namespace Mk
namespace Fo
def right:Fo→Prop
 | nil=>True
 | node n _ t k r=>(n=[]→k=nil)∧(n ≠ []→t=[])∧(z4f n=true→k=nil)∧right k∧right r
end Fo
open Fo

end Mk
namespace Mk
open Fo
namespace Fo
def depth:Fo→Nat | nil=>0 | node n _ _ k r=>if n=[] then r.depth else max (k.depth + 1) r.depth
def count:Fo→Nat | nil=>0 | node _ _ _ k r=>k.count + r.count + 1
def endsT:Fo→Bool | nil=>false | node n _ _ _ nil=>decide (n=[]) | node _ _ _ _ (node m b u j r)=>endsT (node m b u j r)
theorem j07 (n:Bs) (a:List At) (t:Bs) (k:Fo):∀ f:Fo,¬(n=[]∧endsT f=true)→snoc n a t k f=f.app (node n a t k nil)
 | nil,_=>rfl
 | node n' a' t' k' nil,h=>by
  have h2:¬(n=[]∧n'=[]):=fun e=>h ⟨e.1,by simp[endsT,e.2]⟩
  unfold snoc;rw[if_neg h2];rfl
 | node n' a' t' k' (node m b u j r),h=>by
  have h2:=j07 n a t k (node m b u j r) h;show node n' a' t' k' (snoc n a t k (node m b u j r))=node n' a' t' k' _;rw[h2]
end Fo
def li:Bs:=[108,105]
namespace Bld
def R (root:Fo) (ops:List Op):Bld:=⟨root,ops.reverse⟩
def rs (root:Fo) (ops:List Op) (g:Fo):Fo:=match ops with | []=>g | _ :: _=>root
def os (ops:List Op) (g:Fo):List Op:=match ops with | []=>[] | o :: r=>{ o with kids:=g } :: r
def cur (root:Fo) (ops:List Op):Fo:=match ops with | []=>root | o :: _=>o.kids
end Bld
end Mk
namespace Mk
open Bld
theorem q7f (a:At) (l:List At):written (a :: l)=32 :: (a.n++(61 :: 34 :: (put a.v++(34 :: written l)))):=by
 unfold written;rw[List.flatMap_cons];simp
end Mk
namespace Mk
open Fo
structure Ln where
 ti:Bs
 li:Bs
 dt:Bs
 wo:Bs
end Mk
namespace Fd
abbrev Bs:=List UInt8
def lpB (y:Int):Bool:=decide (y % 4=0∧¬ y % 100=0∨y % 400=0)
def lp (y:Int):Int:=if lpB y then 1 else 0
theorem lp_01 (y:Int):0≤lp y∧lp y≤1:=by unfold lp;split <;> omega
def ahead (y:Int):Int:=if y=0 then 0 else 365 * (y - 1 + 1) + (y - 1) / 4 - (y - 1) / 100 + (y - 1) / 400 + 1
def long (y m:Int):Int:=if m=2 then 28 + lp y else if m=4∨m=6∨m=9∨m=11 then 30 else 31
def rest (y m:Int):Int :=
 if m=1 then 365 + lp y else if m=2 then 334 + lp y else if m=3 then 306 else if m=4 then 275 else if m=5 then 245 else if m=6 then 214 else if m=7 then 184
 else if m=8 then 153 else if m=9 then 122 else if m=10 then 92 else if m=11 then 61 else if m=12 then 31 else 0
theorem j6b (y m:Int):28≤long y m∧long y m≤31:=by
 have:=lp_01 y;unfold long
 split
 ·omega
 split <;> omega
structure En where
 id:Bs
 ti:Bs
 li:Bs
 at_:Int
 ht:Bs
 deriving DecidableEq
def q1h (s:Bs):Bool:=decide (s.length≤3000) && (Mk.z8r (Mk.build (Mk.toks s)) && (Mk.bytes (Mk.flat (Mk.build (Mk.toks s))) == s))
def z03 (x:En):Int :=
 if x.id=[] then 1
 else if 60 < x.id.length∨3000 < x.ti.length∨3000 < x.li.length∨3000 < x.ht.length then 2
 else if x.at_ < 0∨4102444799 < x.at_ then 3
 else if (x.li ≠ []∧Mg.isSafe x.li=false)∨q1h x.ht=false then 4 else 0
def cmpB:Bs→Bs→Int
 | [],[]=>0
 | [],_ :: _=>-1
 | _ :: _,[]=>1
 | a :: s,b :: t=>if a=b then cmpB s t else if a < b then -1 else 1
theorem z6g:∀ a b:Bs,cmpB a b=0↔a=b
 | [],[]=>⟨fun _=>rfl,fun _=>rfl⟩
 | [],b :: t=>⟨fun h=>by simp[cmpB] at h,fun h=>by cases h⟩
 | a :: s,[]=>⟨fun h=>by simp[cmpB] at h,fun h=>by cases h⟩
 | a :: s,b :: t=>by
  rw[cmpB]
  by_cases h:a=b
  ·rw[if_pos h,z6g s t,h]
   constructor
   ·intro e;rw[e]
   ·intro e;injection e
  ·rw[if_neg h]
   constructor
   ·intro e;split at e <;> cases e
   ·intro e;injection e with e1 _;exact absurd e1 h
theorem z6f:∀ a b:Bs,cmpB b a = - cmpB a b
 | [],[]=>rfl
 | [],b :: t=>rfl
 | a :: s,[]=>rfl
 | a :: s,b :: t=>by
  rw[cmpB,cmpB]
  by_cases h:a=b
  ·rw[if_pos h,if_pos h.symm,z6f s t]
  ·rw[if_neg h,if_neg (fun e=>h e.symm)]
   by_cases h2:a < b
   ·rw[if_pos h2,if_neg (fun q=>by have:=UInt8.lt_asymm h2;exact this q)]
    rfl
   ·have h3:b < a:=by
     rcases UInt8.lt_or_lt_of_ne h with q | q
     ·exact absurd q h2
     ·exact q
    rw[if_neg h2,if_pos h3]
theorem z4r:∀ a b c:Bs,cmpB a b < 0→cmpB b c < 0→cmpB a c < 0
 | [],[],c,h,_=>by simp[cmpB] at h
 | [],b :: t,[],_,h=>by simp[cmpB] at h
 | [],b :: t,c :: u,_,_=>by simp[cmpB]
 | a :: s,[],c,h,_=>by simp[cmpB] at h
 | a :: s,b :: t,[],_,h=>by simp[cmpB] at h
 | a :: s,b :: t,c :: u,h1,h2=>by
  rw[cmpB] at h1 h2 ⊢
  by_cases e1:a=b
  ·subst e1
   rw[if_pos rfl] at h1
   by_cases e2:a=c
   ·subst e2
    rw[if_pos rfl] at h2 ⊢;exact z4r s t u h1 h2
   ·rw[if_neg e2] at h2 ⊢
    exact h2
  ·rw[if_neg e1] at h1
   have l1:a < b:=by
    by_cases q:a < b
    ·exact q
    ·rw[if_neg q] at h1;omega
   by_cases e2:b=c
   ·subst e2
    rw[if_neg e1,if_pos l1];omega
   ·rw[if_neg e2] at h2
    have l2:b < c:=by
     by_cases q:b < c
     ·exact q
     ·rw[if_neg q] at h2;omega
    have l3:a < c:=UInt8.lt_trans l1 l2;rw[if_neg (fun e=>by rw[e] at l3;exact UInt8.lt_irrefl _ l3),if_pos l3];omega
def ordE (a b:En):Int:=if a.at_=b.at_ then cmpB a.id b.id else b.at_ - a.at_
theorem q6q (a b:En):(ordE a b < 0↔0 < ordE b a)∧(ordE a b=0↔ordE b a=0):=by
 unfold ordE
 by_cases h:a.at_=b.at_
 ·rw[if_pos h,if_pos h.symm,z6f a.id b.id]
  omega
 ·rw[if_neg h,if_neg (fun e=>h e.symm)]
  omega
theorem z9c (a b c:En) (h1:ordE a b < 0) (h2:ordE b c < 0):ordE a c < 0:=by
 unfold ordE at *
 by_cases e1:a.at_=b.at_
 ·rw[if_pos e1] at h1
  by_cases e2:b.at_=c.at_
  ·rw[if_pos e2] at h2
   rw[if_pos (e1.trans e2)];exact z4r _ _ _ h1 h2
  ·rw[if_neg e2] at h2
   rw[if_neg (fun e=>e2 (e1.symm.trans e))];omega
 ·rw[if_neg e1] at h1
  by_cases e2:b.at_=c.at_
  ·rw[if_pos e2] at h2
   rw[if_neg (fun e=>e1 (e.trans e2.symm))];omega
  ·rw[if_neg e2] at h2
   rw[if_neg (by omega)];omega
theorem ordE_ne (a b:En) (h:a.id ≠ b.id):ordE a b ≠ 0:=by
 unfold ordE
 by_cases e:a.at_=b.at_
 ·rw[if_pos e];exact fun q=>h ((z6g _ _).1 q)
 ·rw[if_neg e];omega
def z0r:List En→List En→Int
 | _,[]=>0
 | seen,x :: r =>
  if z03 x ≠ 0 then z03 x
  else if (seen.any fun y=>y.id == x.id)=true then 6
  else match seen.getLast? with
   | none=>z0r (seen++[x]) r
   | some y=>if 0≤ordE y x then 4 else z0r (seen++[x]) r
def z08:Option Bs→List Bs→Int
 | _,[]=>0
 | p,s :: r=>if s=[] then 1 else if 60 < s.length then 2 else match p with
  | none=>z08 (some s) r
  | some q=>if cmpB s q≤0 then 4 else z08 (some s) r
theorem z6e (p:Option Bs) (s:Bs) (r:List Bs):z08 p (s :: r)=if s=[] then 1 else if 60 < s.length then 2 else match p with
  | none=>z08 (some s) r
  | some q=>if cmpB s q≤0 then 4 else z08 (some s) r:=by cases p <;> rfl
structure Sh where
 es:List En
 rd:List Bs
 deriving DecidableEq
def z0e (s:Sh):Int:=if 20 < s.es.length∨40 < s.rd.length then 2 else if z0r [] s.es ≠ 0 then z0r [] s.es else z08 none s.rd
def z1e (l:List En):Prop:=(∀ x ∈ l,z03 x=0)∧l.Pairwise (fun a b=>a.id ≠ b.id)∧l.Pairwise (fun a b=>ordE a b < 0)
def z81 (l:List Bs):Prop:=(∀ s ∈ l,s ≠ []∧s.length≤60)∧l.Pairwise (fun a b=>cmpB a b < 0)
def z8x (s:Sh):Prop:=s.es.length≤20∧s.rd.length≤40∧z1e s.es∧z81 s.rd
theorem z1e.nil:z1e []:=⟨fun _ h=>(by cases h),List.Pairwise.nil,List.Pairwise.nil⟩
theorem j6u {α:Type _} {R:α→α→Prop} (l:List α) (x:α) (h:l.Pairwise R) (hx:∀ y ∈ l,R y x):(l++[x]).Pairwise R:=by
 rw[List.pairwise_append];exact⟨h,List.pairwise_singleton _ _,fun a ha b hb=>by rw[List.mem_singleton.1 hb];exact hx a ha⟩
theorem last_all (l:List En) (x y:En) (h:l.Pairwise (fun a b=>ordE a b < 0)) (hy:l.getLast? = some y) (hyx:ordE y x < 0):∀ z ∈ l,ordE z x < 0:=by
 intro z hz;have hne:l ≠ []:=by rintro rfl;cases hz
 rw[List.getLast?_eq_some_getLast hne] at hy;injection hy with hy;have e:l=l.dropLast++[y]:=by rw[← hy];exact(List.dropLast_concat_getLast hne).symm
 rw[e] at h hz
 rcases List.mem_append.1 hz with q | q
 ·have:=(List.pairwise_append.1 h).2.2 z q y (List.mem_singleton.2 rfl)
  exact z9c _ _ _ this hyx
 ·rw[List.mem_singleton.1 q];exact hyx
theorem z8c:∀ (l seen:List En),z1e seen→z0r seen l=0→z1e (seen++l)
 | [],seen,h,_=>by rw[List.append_nil];exact h
 | x :: r,seen,h,hc=>by
  rw[z0r] at hc
  by_cases h1:z03 x ≠ 0
  ·rw[if_pos h1] at hc;exact absurd hc h1
  rw[if_neg h1] at hc;have h1:z03 x=0:=by omega
  by_cases h2:(seen.any fun y=>y.id == x.id)=true
  ·rw[if_pos h2] at hc;cases hc
  rw[if_neg h2] at hc;have hid:∀ y ∈ seen,y.id ≠ x.id:=fun y hy e=>h2 (by rw[List.any_eq_true];exact⟨y,hy,by rw[e];exact beq_self_eq_true _⟩)
  have step:(∀ y ∈ seen,ordE y x < 0)→z0r (seen++[x]) r=0→z1e (seen++x :: r):=fun ho hcc=>by
   have hr:z1e (seen++[x]):=⟨fun y hy=>by
    rcases List.mem_append.1 hy with q | q
    ·exact h.1 y q
    ·rw[List.mem_singleton.1 q];exact h1,j6u _ _ h.2.1 hid,j6u _ _ h.2.2 ho⟩
   have:=z8c r (seen++[x]) hr hcc;rw[List.append_assoc] at this;exact this
  cases hl:seen.getLast? with
  | none =>
   rw[hl] at hc;have hs:seen=[]:=List.getLast?_eq_none_iff.1 hl;exact step (fun y hy=>by rw[hs] at hy;cases hy) hc
  | some y =>
   rw[hl] at hc;simp only at hc
   by_cases h3:0≤ordE y x
   ·rw[if_pos h3] at hc;cases hc
   rw[if_neg h3] at hc;exact step (last_all seen x y h.2.2 hl (by omega)) hc
theorem z5s:∀ (l seen:List En),z1e (seen++l)→z0r seen l=0
 | [],seen,_=>rfl
 | x :: r,seen,h=>by
  have hx:x ∈ seen++x :: r:=List.mem_append.2 (.inr (List.mem_cons_self ..));have hid:=(List.pairwise_append.1 h.2.1).2.2;have ho:=(List.pairwise_append.1 h.2.2).2.2;have hr:z1e ((seen++[x])++r):=by rw[List.append_assoc];exact h
  rw[z0r,if_neg (by rw[h.1 x hx];simp),if_neg]
  ·cases hl:seen.getLast? with
   | none=>exact z5s r _ hr
   | some y =>
    simp only;have hy:y ∈ seen:=List.mem_of_getLast? hl;have:=ho y hy x (List.mem_cons_self ..);rw[if_neg (by omega)];exact z5s r _ hr
  ·intro q
   rw[List.any_eq_true] at q;obtain⟨y,hy,e⟩:=q;exact hid y hy x (List.mem_cons_self ..) (beq_iff_eq.1 e)
theorem z5j:∀ (l:List Bs) (p:Option Bs),z08 p l=0→z81 l∧∀ q,p=some q→∀ s ∈ l,cmpB q s < 0
 | [],p,_=>⟨⟨fun _ h=>(by cases h),List.Pairwise.nil⟩,fun _ _ _ h=>(by cases h)⟩
 | s :: r,p,h=>by
  rw[z6e] at h
  by_cases h1:s=[]
  ·rw[if_pos h1] at h;cases h
  rw[if_neg h1] at h
  by_cases h2:60 < s.length
  ·rw[if_pos h2] at h;cases h
  rw[if_neg h2] at h;have key:z08 (some s) r=0→z81 (s :: r):=fun hh=>by
   obtain⟨a,b⟩:=z5j r (some s) hh;exact⟨fun x hx=>by
    rcases List.mem_cons.1 hx with q | q
    ·rw[q];exact⟨h1,by omega⟩
    ·exact a.1 x q,List.pairwise_cons.2 ⟨fun x hx=>b s rfl x hx,a.2⟩⟩
  cases p with
  | none=>exact⟨key h,fun q e=>by cases e⟩
  | some q =>
   simp only at h
   by_cases h3:cmpB s q≤0
   ·rw[if_pos h3] at h;cases h
   rw[if_neg h3] at h;have hqs:cmpB q s < 0:=by have:=z6f q s;omega
   refine⟨key h,fun q' e x hx=>?_⟩;injection e with e;subst e
   rcases List.mem_cons.1 hx with q2 | q2
   ·rw[q2];exact hqs
   ·exact z4r _ _ _ hqs ((z5j r (some s) h).2 s rfl x q2)
theorem z8q:∀ (l:List Bs) (p:Option Bs),z81 l→(∀ q,p=some q→∀ s ∈ l,cmpB q s < 0)→z08 p l=0
 | [],p,_,_=>rfl
 | s :: r,p,h,hp=>by
  obtain⟨h1,h2⟩:=h.1 s (List.mem_cons_self ..);obtain⟨h3,h4⟩:=List.pairwise_cons.1 h.2;have hr:z08 (some s) r=0:=z8q r (some s) ⟨fun x hx=>h.1 x (List.mem_cons_of_mem _ hx),h4⟩ (fun q e x hx=>by injection e with e;subst e;exact h3 x hx);rw[z6e,if_neg h1,if_neg (by omega)]
  cases p with
  | none=>exact hr
  | some q =>
   simp only;have:=hp q rfl s (List.mem_cons_self ..);have h5:=z6f q s;rw[if_neg (by omega)];exact hr
theorem z01 (s:Sh):z0e s=0↔z8x s:=by
 unfold z0e z8x;constructor
 ·intro h
  by_cases h1:20 < s.es.length∨40 < s.rd.length
  ·rw[if_pos h1] at h;cases h
  rw[if_neg h1] at h
  by_cases h2:z0r [] s.es ≠ 0
  ·rw[if_pos h2] at h;exact absurd h h2
  rw[if_neg h2] at h;have:=z8c s.es [] z1e.nil (by omega);rw[List.nil_append] at this;exact⟨by omega,by omega,this,(z5j s.rd none h).1⟩
 ·rintro ⟨h1,h2,h3,h4⟩
  have e:=z5s s.es [] (by rw[List.nil_append];exact h3);rw[if_neg (by omega),e,if_neg (by simp)];exact z8q s.rd none h4 (fun q e=>by cases e)
def insE:List En→En→List En
 | [],x=>[x]
 | y :: r,x=>if ordE y x < 0 then y :: insE r x else x :: y :: r
theorem q0a:∀ (l:List En) (x y:En),y ∈ insE l x↔y=x∨y ∈ l
 | [],x,y=>by simp[insE]
 | z :: r,x,y=>by
  rw[insE]
  split
  ·rw[List.mem_cons,q0a r x y,List.mem_cons]
   constructor
   ·rintro (h | h | h)
    ·exact .inr (.inl h)
    ·exact .inl h
    ·exact .inr (.inr h)
   ·rintro (h | h | h)
    ·exact .inr (.inl h)
    ·exact .inl h
    ·exact .inr (.inr h)
  ·rw[List.mem_cons]
theorem q4m:∀ (l:List En) (x:En),(insE l x).length=l.length + 1
 | [],x=>rfl
 | z :: r,x=>by
  rw[insE]
  split
  ·rw[List.length_cons,q4m r x];rfl
  ·rfl
theorem q34 (l:List En) (x:En) (h:z1e l) (hx:z03 x=0) (hid:∀ y ∈ l,y.id ≠ x.id):z1e (insE l x):=by
 refine⟨fun y hy=>?_,?_,?_⟩
 ·rcases (q0a l x y).1 hy with q | q
  ·rw[q];exact hx
  ·exact h.1 y q
 ·have h2:=h.2.1
  clear h hx
  induction l with
  | nil=>exact List.pairwise_singleton _ _
  | cons z r ih =>
   obtain⟨a,b⟩:=List.pairwise_cons.1 h2;rw[insE]
   split
   ·refine List.pairwise_cons.2 ⟨fun y hy=>?_,ih (fun y hy=>hid y (List.mem_cons_of_mem _ hy)) b⟩
    rcases (q0a r x y).1 hy with q | q
    ·rw[q];exact hid z (List.mem_cons_self ..)
    ·exact a y q
   ·exact List.pairwise_cons.2 ⟨fun y hy=>(hid y hy).symm,h2⟩
 ·have h3:=h.2.2
  clear h hx
  induction l with
  | nil=>exact List.pairwise_singleton _ _
  | cons z r ih =>
   obtain⟨a,b⟩:=List.pairwise_cons.1 h3;rw[insE]
   split
   ·rename_i hz
    refine List.pairwise_cons.2 ⟨fun y hy=>?_,ih (fun y hy=>hid y (List.mem_cons_of_mem _ hy)) b⟩
    rcases (q0a r x y).1 hy with q | q
    ·rw[q];exact hz
    ·exact a y q
   ·rename_i hz
    have hne:=ordE_ne z x (hid z (List.mem_cons_self ..));have hxz:ordE x z < 0:=by
     have h1:=q6q x z;have h2:=q6q z x;omega
    refine List.pairwise_cons.2 ⟨fun y hy=>?_,h3⟩
    rcases List.mem_cons.1 hy with q | q
    ·rw[q];exact hxz
    ·exact z9c _ _ _ hxz (a y q)
def putE (l:List En) (x:En):List En :=
 match l.find? (fun y=>y.id == x.id) with
 | none=>insE l x
 | some y=>if x.at_ < y.at_ then l else insE (l.eraseP (fun y=>y.id == x.id)) x
theorem q61:∀ (l:List En) (i:Bs),l.Pairwise (fun a b=>a.id ≠ b.id)→∀ y ∈ l.eraseP (fun y=>y.id == i),y.id ≠ i
 | [],_,_,y,hy=>by cases hy
 | z :: r,i,h,y,hy=>by
  obtain⟨a,b⟩:=List.pairwise_cons.1 h
  by_cases q:(z.id == i)=true
  ·rw[List.eraseP_cons_of_pos (by exact q)] at hy
   rw[← beq_iff_eq.1 q];exact(a y hy).symm
  ·rw[List.eraseP_cons_of_neg (by exact q)] at hy
   rcases List.mem_cons.1 hy with e | e
   ·rw[e];exact fun q2=>q (beq_iff_eq.2 q2)
   ·exact q61 r i b y e
theorem z1e.sub {l m:List En} (h:z1e l) (hs:m.Sublist l):z1e m:=⟨fun x hx=>h.1 x (hs.subset hx),h.2.1.sublist hs,h.2.2.sublist hs⟩
theorem j2p (l:List En) (x:En) (h:z1e l) (hx:z03 x=0):z1e (putE l x):=by
 unfold putE
 cases hf:l.find? (fun y=>y.id == x.id) with
 | none =>
  refine q34 l x h hx (fun y hy e=>?_);have:=List.find?_eq_none.1 hf y hy;exact this (beq_iff_eq.2 e)
 | some y =>
  simp only
  split
  ·exact h
  ·exact q34 _ x (h.sub (List.eraseP_sublist ..)) hx (q61 l x.id h.2.1)
def z7i (l xs:List En):List En:=(xs.foldl putE l).take 20
theorem z7x:∀ (xs l:List En),z1e l→(∀ x ∈ xs,z03 x=0)→z1e (xs.foldl putE l)
 | [],_,h,_=>h
 | x :: r,l,h,hx=>z7x r (putE l x) (j2p l x h (hx x (List.mem_cons_self ..))) (fun y hy=>hx y (List.mem_cons_of_mem _ hy))
theorem q8n (l xs:List En) (h:z1e l) (hx:∀ x ∈ xs,z03 x=0):z1e (z7i l xs)∧(z7i l xs).length≤20 :=
 ⟨(z7x xs l h hx).sub (List.take_sublist ..),by unfold z7i;rw[List.length_take];omega⟩
def insB:List Bs→Bs→List Bs
 | [],x=>[x]
 | y :: r,x=>if cmpB y x < 0 then y :: insB r x else x :: y :: r
theorem q4l:∀ (l:List Bs) (x y:Bs),y ∈ insB l x↔y=x∨y ∈ l
 | [],x,y=>by simp[insB]
 | z :: r,x,y=>by
  rw[insB]
  split
  ·rw[List.mem_cons,q4l r x y,List.mem_cons]
   constructor
   ·rintro (h | h | h)
    ·exact .inr (.inl h)
    ·exact .inl h
    ·exact .inr (.inr h)
   ·rintro (h | h | h)
    ·exact .inr (.inl h)
    ·exact .inl h
    ·exact .inr (.inr h)
  ·rw[List.mem_cons]
theorem j1y (l:List Bs) (x:Bs) (h:z81 l) (hx:x ≠ []∧x.length≤60) (hn:x ∉ l):z81 (insB l x):=by
 refine⟨fun y hy=>?_,?_⟩
 ·rcases (q4l l x y).1 hy with q | q
  ·rw[q];exact hx
  ·exact h.1 y q
 ·have h3:=h.2
  clear h hx
  induction l with
  | nil=>exact List.pairwise_singleton _ _
  | cons z r ih =>
   obtain⟨a,b⟩:=List.pairwise_cons.1 h3;rw[insB]
   split
   ·rename_i hz
    refine List.pairwise_cons.2 ⟨fun y hy=>?_,ih (fun q=>hn (List.mem_cons_of_mem _ q)) b⟩
    rcases (q4l r x y).1 hy with q | q
    ·rw[q];exact hz
    ·exact a y q
   ·rename_i hz
    have hne:cmpB z x ≠ 0:=fun q=>hn (by rw[(z6g z x).1 q];exact List.mem_cons_self ..)
    have hxz:cmpB x z < 0:=by have:=z6f z x;omega
    refine List.pairwise_cons.2 ⟨fun y hy=>?_,h3⟩
    rcases List.mem_cons.1 hy with q | q
    ·rw[q];exact hxz
    ·exact z4r _ _ _ hxz (a y q)
theorem z81.sub {l m:List Bs} (h:z81 l) (hs:m.Sublist l):z81 m:=⟨fun x hx=>h.1 x (hs.subset hx),h.2.sublist hs⟩
end Fd
