/- Plain law of links. -/
set_option linter.unusedVariables false
set_option linter.unusedSimpArgs false
namespace Mg
abbrev Bs:=List UInt8

def pre (p l:Bs):Bool:=l.take p.length == p
theorem j6n (p l:Bs) (h:l.length < p.length):pre p l=false:=by
 unfold pre;rw[beq_eq_false_iff_ne];intro e;have:=congrArg List.length e;rw[List.length_take] at this;omega
def isLet (c:UInt8):Bool:=(97≤c && c≤122) || (65≤c && c≤90)
def z04 (c:UInt8):Bool:=48≤c && c≤57
def z6p (c:UInt8):Bool:=z04 c || c == 43 || c == 45 || c == 46
def q00 (i:Nat) (c:UInt8):Bool:=isLet c || (decide (0 < i) && z6p c)
def z2x:Nat→Bs→Nat
 | _,[]=>0
 | i,c :: t=>if c == 58 then i else if q00 i c then z2x (i + 1) t else 0
def z1u (s:Bs):Nat:=z2x 0 s

theorem j2v (s:Bs):∀ k,z2x k s=0∨∃ j,z2x k s=k + j∧s[j]? = some 58:=by
 induction s with
 | nil=>intro k;exact .inl rfl
 | cons c t ih =>
  intro k;unfold z2x
  by_cases h:c == 58
  ·rw[if_pos h]
   exact .inr ⟨0,rfl,by simpa using h⟩
  ·rw[if_neg h]
   by_cases ha:q00 k c=true
   ·rw[if_pos ha]
    rcases ih (k + 1) with h0 | ⟨j,hj,hs⟩
    ·exact .inl h0
    ·exact .inr ⟨j + 1,by rw[hj];omega,by simpa using hs⟩
   ·rw[if_neg ha]
    exact .inl rfl
theorem j04 (s:Bs) (h:z1u s ≠ 0):s[z1u s]? = some 58:=by
 rcases j2v s 0 with h0 | ⟨j,hj,hs⟩
 ·exact absurd h0 h
 ·unfold z1u;rw[hj,Nat.zero_add];exact hs
def z2a (c:UInt8):Bool:=c == 58 || c == 47 || c == 63 || c == 35
def z9y:Nat→Nat→Bs→Bool
 | 0,_,_=>true
 | _ + 1,_,[]=>true
 | n + 1,i,c :: t=>q00 i c && z9y n (i + 1) t
theorem j2u (i:Nat) (c:UInt8) (h:z2a c=true):q00 i c=false:=by
 unfold z2a at h;simp only [Bool.or_eq_true,beq_iff_eq] at h
 rcases h with ((h | h) | h) | h <;> subst h <;> cases i <;> simp[q00,isLet,z6p,z04] <;> decide
theorem j2w (s:Bs):∀ k,z2x k s=if s[s.findIdx z2a]? = some 58∧z9y (s.findIdx z2a) k s=true then k + s.findIdx z2a else 0:=by
 induction s with
 | nil=>intro k;simp[z2x]
 | cons c t ih =>
  intro k;unfold z2x
  by_cases h:z2a c=true
  ·rw[List.findIdx_cons]
   simp only [h,cond_true,List.getElem?_cons_zero]
   by_cases h58:c=58
   ·simp[h58,z9y]
   ·simp[h58,j2u k c h]
  ·rw[List.findIdx_cons]
   simp only [h,cond_false,List.getElem?_cons_succ,z9y];have h58:¬ c=58:=by intro e;subst e;simp[z2a] at h
   rw[ih (k + 1)]
   by_cases ha:q00 k c=true
   ·simp only [h58,ha,beq_iff_eq,if_true,if_false,Bool.true_and,Nat.add_assoc,Nat.add_comm 1]
   ·simp[h58,ha]
theorem schOf_eq (s:Bs):z1u s=if s[s.findIdx z2a]? = some 58∧z9y (s.findIdx z2a) 0 s=true then s.findIdx z2a else 0:=by
 have:=j2w s 0
 simpa [z1u] using this
structure U where
 (sch au pa qu fr:Bs)
 (hs ha hq hf:Bool)
 deriving DecidableEq

def nilU:U:=⟨[],[],[],[],[],false,false,false,false⟩

def q5b (c:UInt8):Bool:=c == 47 || c == 63 || c == 35
def z4a (c:UInt8):Bool:=c == 63 || c == 35
def q1j (c:UInt8):Bool:=c == 35
def upto (p:UInt8→Bool) (s:Bs):Bs:=s.takeWhile (fun c=>!p c)
def past (p:UInt8→Bool) (s:Bs):Bs:=s.dropWhile (fun c=>!p c)
theorem q6r (p:UInt8→Bool) (s:Bs):past p s=[]∨∃ c t,past p s=c :: t∧p c=true:=by
 unfold past
 induction s with
 | nil=>simp
 | cons c t ih =>
  rw[List.dropWhile_cons]
  by_cases h:p c=true
  ·simp[h]
  ·simpa [h] using ih

def isAt (c:UInt8):Bs→Bool | d :: _=>d == c | []=>false
def sl2 (s:Bs):Bool:=s.take 2 == [47,47]

def z0z (s:Bs):Bs:=if z1u s=0 then s else s.drop (z1u s + 1)
def z3l (r:Bs):Bs:=if sl2 r then past q5b (r.drop 2) else r
def z2h (r:Bs):Bs:=if isAt 63 r then past q1j r.tail else r
def split (s:Bs):U :=
 let r1:=z0z s
 let r2:=z3l r1
 let r3:=past z4a r2
 let r4:=z2h r3
 {sch:=if z1u s=0 then [] else s.take (z1u s),hs:=decide (z1u s ≠ 0),
  au:=if sl2 r1 then upto q5b (r1.drop 2) else [],ha:=sl2 r1,
  pa:=upto z4a r2,
  qu:=if isAt 63 r3 then upto q1j r3.tail else [],hq:=isAt 63 r3,
  fr:=r4.tail,hf:=isAt 35 r4 }

def join (u:U):Bs :=
 (if u.hs then u.sch++[58] else [])++(if u.ha then [47,47]++u.au else [])++u.pa++(if u.hq then [63]++u.qu else [])++(if u.hf then [35]++u.fr else [])

theorem r4_form (r:Bs):(∀ c t,r=c :: t→z4a c=true)→z2h r=[]∨isAt 35 (z2h r)=true:=by
 intro h;unfold z2h
 by_cases h63:isAt 63 r=true
 ·rw[if_pos h63]
  rcases q6r q1j r.tail with h0 | ⟨c,t,e,hc⟩
  ·exact .inl h0
  ·right;rw[e];simpa [isAt,q1j] using hc
 ·rw[if_neg h63]
  cases r with
  | nil=>exact .inl rfl
  | cons c t =>
   right
   have:=h c t rfl;simp only [z4a,Bool.or_eq_true,beq_iff_eq] at this
   rcases this with e | e
   ·subst e;exact absurd rfl h63
   ·subst e;rfl

def z0a (i:Bs):Bool × Bs × Bs :=
 if i.take 3=[46,46,47] then (false,i.drop 3,[])
 else if i.take 2=[46,47] then (false,i.drop 2,[])
 else if i.take 3=[47,46,47] then (false,i.drop 2,[])
 else if i=[47,46] then (false,[47],[])
 else if i.take 4=[47,46,46,47] then (true,i.drop 3,[])
 else if i=[47,46,46] then (true,[47],[])
 else if i=[46]∨i=[46,46] then (false,[],[])
 else (false,i.tail.dropWhile (· != 47),i.take 1++i.tail.takeWhile (· != 47))
def bk (o:Bs):Bs:=(o.reverse.dropWhile (· != 47)).tail.reverse
def q48:Nat→Bs→Bs→Bs
 | 0,_,o=>o
 | n + 1,i,o=>if i=[] then o else q48 n (z0a i).2.1 ((if (z0a i).1 then bk o else o)++(z0a i).2.2)
def dots (s:Bs):Bs:=q48 s.length s []

theorem z6w (i:Bs) (h:i ≠ []):(z0a i).2.1.length < i.length:=by
 have hl:0 < i.length:=List.length_pos_iff.2 h;unfold z0a
 split
 ·simp only [List.length_drop];omega
 split
 ·simp only [List.length_drop];omega
 split
 ·simp only [List.length_drop];omega
 split
 ·rename_i e;subst e;simp
 split
 ·simp only [List.length_drop];omega
 split
 ·rename_i e;subst e;simp
 split
 ·simpa using hl
 ·have:=(List.dropWhile_suffix (l:=i.tail) (fun c:UInt8=>c != 47)).length_le
  simp at this;show (i.tail.dropWhile (fun c:UInt8=>c != 47)).length < _;omega
theorem j1s (n:Nat):∀ m i o,i.length≤n→i.length≤m→q48 n i o=q48 m i o:=by
 induction n with
 | zero =>
  intro m i o h _;have:i=[]:=List.eq_nil_of_length_eq_zero (by omega);subst this
  cases m <;> simp[q48]
 | succ n ih =>
  intro m i o h hm
  by_cases hi:i=[]
  ·subst hi;cases m <;> simp[q48]
  ·have:=z6w i hi
   cases m with
   | zero=>exfalso;exact hi (List.eq_nil_of_length_eq_zero (by omega))
   | succ m =>
    simp only [q48,hi,if_false];exact ih m _ _ (by omega) (by omega)
def q49 (i o:Bs):Bs:=q48 i.length i o
theorem j5d (o:Bs):q49 [] o=o:=rfl
theorem q2u (i o:Bs) (h:i ≠ []):q49 i o=q49 (z0a i).2.1 ((if (z0a i).1 then bk o else o)++(z0a i).2.2):=by
 have hl:=z6w i h;unfold q49;obtain⟨n,hn⟩:∃ n,i.length=n + 1:=⟨i.length - 1,by omega⟩;rw[hn];simp only [q48,h,if_false];exact j1s _ _ _ _ (by omega) (Nat.le_refl _)
theorem dots_ind (Q:Bs→Bs→Prop) (h0:∀ o,Q [] o) (h1:∀ i o,i ≠ []→Q (z0a i).2.1 ((if (z0a i).1 then bk o else o)++(z0a i).2.2)→Q i o):∀ i o,Q i o:=by
 have:∀ n i o,i.length≤n→Q i o:=by
  intro n
  induction n with
  | zero =>
   intro i o h;have:i=[]:=List.eq_nil_of_length_eq_zero (by omega);subst this;exact h0 o
  | succ n ih =>
   intro i o h
   by_cases hi:i=[]
   ·subst hi;exact h0 o
   ·have:=z6w i hi
    exact h1 i o hi (ih _ _ (by omega))
 exact fun i o=>this _ i o (Nat.le_refl _)

theorem bk_len (o:Bs):(bk o).length≤o.length:=by
 unfold bk;have:=(List.dropWhile_suffix (l:=o.reverse) (fun c:UInt8=>c != 47)).length_le;simp at this ⊢;omega
theorem j5a (i:Bs) (_h:i ≠ []):(z0a i).2.1.length + (z0a i).2.2.length≤i.length:=by
 have e:(i.tail.takeWhile (fun c:UInt8=>c != 47)).length + (i.tail.dropWhile (fun c:UInt8=>c != 47)).length=i.tail.length:=by
  rw[← List.length_append,List.takeWhile_append_dropWhile]
 have ht:i.tail.length=i.length - 1:=List.length_tail;have hp:0 < i.length:=List.length_pos_iff.2 _h;unfold z0a
 split
 ·simp
 split
 ·simp
 split
 ·simp
 split
 ·rename_i e;subst e;simp
 split
 ·simp
 split
 ·rename_i e;subst e;simp
 split
 ·simp
 ·simp only [List.length_append,List.length_take]
  omega
theorem j5c:∀ i o,(q49 i o).length≤i.length + o.length:=by
 refine dots_ind (fun i o=>(q49 i o).length≤i.length + o.length) (fun o=>by simp[j5d]) ?_;intro i o hi h;rw[q2u i o hi];refine Nat.le_trans h ?_;have h1:=j5a i hi;have h2:=bk_len o;rw[List.length_append]
 split <;> omega
theorem q4a (s:Bs):(dots s).length≤s.length:=by
 have:=j5c s []
 simpa [dots,q49] using this

def q6m (p:Bs):Prop:=p ≠ []∧(47:UInt8) ∉ p.tail
def z1i (p:Bs):Prop:=∃ t,p=47 :: t
def z6m:List Bs→Prop
 | []=>True
 | p :: ps=>q6m p∧∀ q ∈ ps,q6m q∧z1i q
theorem q6n (o:List Bs) (p:Bs) (h:z6m o) (hp:q6m p) (hs:o ≠ []→z1i p):z6m (o++[p]):=by
 cases o with
 | nil=>exact⟨hp,by simp⟩
 | cons a t =>
  refine⟨h.1,fun q hq=>?_⟩
  rcases List.mem_append.1 hq with h1 | h1
  ·exact h.2 q h1
  ·have:q=p:=by simpa using h1
   subst this;exact⟨hp,hs (by simp)⟩
theorem z9z (o:List Bs) (h:z6m o):z6m o.dropLast:=by
 cases o with
 | nil=>exact h
 | cons a t =>
  cases t with
  | nil=>trivial
  | cons b t=>exact⟨h.1,fun q hq=>h.2 q ((List.dropLast_sublist _).subset hq)⟩
theorem z9p (l r:Bs) (h:(47:UInt8) ∉ l):(l++r).dropWhile (· != 47)=r.dropWhile (· != 47):=by
 induction l with
 | nil=>rfl
 | cons c t ih =>
  have hc:c ≠ 47:=fun e=>h (by simp[e])
  have ht:(47:UInt8) ∉ t:=fun e=>h (by simp[e])
  simp[hc,ih ht]
theorem j4o (o p:Bs) (hp:q6m p) (hs:o=[]∨z1i p):bk (o++p)=o:=by
 obtain⟨hne,hno⟩:=hp
 match p,hne with
 | c :: t,_ =>
  have ht:(47:UInt8) ∉ t.reverse:=by simpa using hno
  unfold bk;rw[show o++c :: t=o++[c]++t from by simp,List.reverse_append,z9p _ _ ht,List.reverse_append]
  by_cases hc:c=47
  ·subst hc
   simp
  ·rcases hs with rfl | ⟨u,hu⟩
   ·simp[hc]
   ·injection hu with hu _;exact absurd hu hc
theorem bk_parts (o:List Bs) (h:z6m o):bk o.flatten=o.dropLast.flatten:=by
 rcases List.eq_nil_or_concat o with rfl | ⟨l,p,rfl⟩
 ·rfl
 ·simp only [List.concat_eq_append] at h ⊢
  rw[List.dropLast_concat,List.flatten_append];simp only [List.flatten_cons,List.flatten_nil,List.append_nil]
  cases l with
  | nil=>exact j4o _ _ h.1 (.inl rfl)
  | cons a t =>
   have:=h.2 p (by simp);exact j4o _ _ this.1 (.inr this.2)

def z8f (i:Bs) (o:List Bs):List Bs:=(if (z0a i).1 then o.dropLast else o)++(if (z0a i).2.2=[] then [] else [(z0a i).2.2])
theorem z9h (l:Bs):(47:UInt8) ∉ l.takeWhile (· != 47):=by
 induction l with
 | nil=>simp
 | cons c t ih =>
  rw[List.takeWhile_cons]
  by_cases hc:c=47
  ·simp[hc]
  ·simp only [bne_iff_ne,ne_eq,hc,not_false_eq_true,if_true,List.mem_cons,not_or]
   exact⟨fun e=>hc e.symm,ih⟩
theorem q1y (l:Bs):l.dropWhile (· != 47)=[]∨z1i (l.dropWhile (· != 47)):=by
 induction l with
 | nil=>exact .inl rfl
 | cons c t ih =>
  rw[List.dropWhile_cons]
  by_cases hc:c=47
  ·right;simp[hc,z1i]
  ·simpa [hc] using ih
theorem q7x (i:Bs) (hi:i ≠ []):((z0a i).2.2=[]∨q6m (z0a i).2.2∧(z0a i).1=false∧((z1i i→z1i (z0a i).2.2)))∧((z1i i∨(z0a i).2.2 ≠ [])→(z0a i).2.1=[]∨z1i (z0a i).2.1)∧((z0a i).1=true→z1i i):=by
 obtain⟨c,t,rfl⟩:=List.exists_cons_of_ne_nil hi;unfold z0a
 split
 ·rename_i e
  refine⟨.inl rfl,?_,by simp⟩;rintro (⟨u,hu⟩ | h)
  ·injection hu with hu _;subst hu;simp at e
  ·exact absurd rfl h
 split
 ·rename_i e
  refine⟨.inl rfl,?_,by simp⟩;rintro (⟨u,hu⟩ | h)
  ·injection hu with hu _;subst hu;simp at e
  ·exact absurd rfl h
 split
 ·rename_i e
  refine⟨.inl rfl,fun _=>.inr ?_,by simp⟩
  match t,e with
  | [a,b],e=>simp at e;simp[e,z1i]
  | a :: b :: d :: t,e=>simp at e;simp[e,z1i]
 split
 ·exact⟨.inl rfl,fun _=>.inr ⟨[],rfl⟩,by simp⟩
 split
 ·rename_i e
  refine⟨.inl rfl,fun _=>.inr ?_,fun _=>?_⟩
  ·match t,e with
   | [a,b,d],e=>simp at e;simp[e,z1i]
   | a :: b :: d :: f :: t,e=>simp at e;simp[e,z1i]
  ·simp at e;exact⟨t,by rw[e.1]⟩
 split
 ·rename_i e
  exact⟨.inl rfl,fun _=>.inr ⟨[],rfl⟩,fun _=>by rw[e];exact⟨_,rfl⟩⟩
 split
 ·exact⟨.inl rfl,fun _=>.inl rfl,by simp⟩
 ·refine⟨.inr ⟨⟨by simp,?_⟩,rfl,?_⟩,fun _=>q1y _,by simp⟩
  ·simpa using z9h t
  ·rintro ⟨u,hu⟩;injection hu with hu _;subst hu;exact⟨_,rfl⟩

theorem dpart_ok (i:Bs) (o:List Bs) (hi:i ≠ []) (ho:z6m o) (hs:o ≠ []→z1i i) :
  (z8f i o).flatten=(if (z0a i).1 then bk o.flatten else o.flatten)++(z0a i).2.2∧z6m (z8f i o)∧(z8f i o ≠ []→(z0a i).2.1=[]∨z1i (z0a i).2.1):=by
 obtain⟨h1,h2,h3⟩:=q7x i hi;unfold z8f;refine⟨?_,?_,?_⟩
 ·rw[List.flatten_append]
  have e:(if (z0a i).2.2=[] then [] else [(z0a i).2.2]).flatten=(z0a i).2.2:=by
   by_cases h0:(z0a i).2.2=[] <;> simp[h0]
  rw[e]
  by_cases hb:(z0a i).1=true
  ·simp only [hb,if_true]
   rw[bk_parts o ho]
  ·simp only [hb]
   rfl
 ·rcases h1 with h1 | ⟨hp,hb,hsl⟩
  ·simp only [h1,if_true,List.append_nil]
   split
   ·exact z9z o ho
   ·exact ho
  ·simp only [hb,hp.1,if_false]
   exact q6n o _ ho hp (fun h=>hsl (hs h))
 ·intro hne
  by_cases h0:(z0a i).2.2=[]
  ·simp only [h0,if_true,List.append_nil] at hne
   apply h2
   left
   by_cases hb:(z0a i).1=true
   ·exact h3 hb
   ·simp only [hb] at hne;exact hs hne
  ·exact h2 (.inr h0)

def j5b (p:Bs):Prop:=p ≠ [46]∧p ≠ [46,46]∧p ≠ [47,46]∧p ≠ [47,46,46]
def z7p (b u:U):Bs:=if b.ha && b.pa.isEmpty then 47 :: u.pa else (b.pa.reverse.dropWhile (· != 47)).reverse++u.pa
def resU (b u:U):U :=
 if u.hs then { u with pa:=dots u.pa }
 else if u.ha then { u with sch:=b.sch,hs:=true,pa:=dots u.pa }
 else if u.pa=[] then { u with sch:=b.sch,hs:=true,au:=b.au,ha:=b.ha,pa:=dots b.pa,qu:=if u.hq then u.qu else b.qu,hq:=if u.hq then true else b.hq }
 else { u with sch:=b.sch,hs:=true,au:=b.au,ha:=b.ha,pa:=dots (if isAt 47 u.pa then u.pa else z7p b u) }
def q36 (u:U):Bool:=split (join u) == u
def res (base s:Bs):Option Bs :=
 let t:=resU (split base) (split s)
 if q36 t then some (join t) else none

def low (c:UInt8):UInt8:=if 65≤c && c≤90 then c + 32 else c
def fold (s:Bs):Bs:=s.map low
def q57 (w:Bs):Bool:=w == [104,116,116,112] || w == [104,116,116,112,115] || w == [109,97,105,108,116,111]
def isSafe (s:Bs):Bool:=let t:=s.filter (fun c=>decide (32 < c));q57 (fold (t.take (z1u t)))

theorem z0x (p:UInt8→Prop) [DecidablePred p] (h:(List.range 256).all (fun n=>decide (p (UInt8.ofNat n)))=true):∀ c,p c:=by
 intro c;have hc:=List.all_eq_true.1 h c.toNat (by have:=c.toNat_lt;simp;omega)
 simpa using hc
theorem j6d (c:UInt8):(low c).toNat=if 65≤c.toNat∧c.toNat≤90 then c.toNat + 32 else c.toNat:=z0x (fun c=>(low c).toNat=if 65≤c.toNat∧c.toNat≤90 then c.toNat + 32 else c.toNat) (by decide +kernel) c
theorem j6c (c:UInt8):isLet (low c)=isLet c:=z0x (fun c=>isLet (low c)=isLet c) (by decide +kernel) c
theorem q9t (c:UInt8):z6p (low c)=z6p c:=z0x (fun c=>z6p (low c)=z6p c) (by decide +kernel) c
theorem low_58 (c:UInt8):(low c == 58)=(c == 58):=z0x (fun c=>(low c == 58)=(c == 58)) (by decide +kernel) c
theorem q70 (s:Bs):∀ k,z2x k (fold s)=z2x k s:=by
 induction s with
 | nil=>intro k;rfl
 | cons c t ih =>
  intro k;show z2x k (low c :: fold t)=_;unfold z2x;simp only [q00,low_58,j6c,q9t,ih];rfl
theorem j2x (s:Bs):z1u (fold s)=z1u s:=q70 s 0
theorem q84 (s:Bs):isSafe s=let t:=fold (s.filter (fun c=>decide (32 < c)));q57 (t.take (z1u t)):=by
 simp only [isSafe,j2x];simp only [fold,List.map_take]
theorem q68 (c:UInt8):isLet c=true↔(97≤(c.toNat:Int)∧(c.toNat:Int)≤122)∨(65≤(c.toNat:Int)∧(c.toNat:Int)≤90):=z0x (fun c=>isLet c=true↔(97≤(c.toNat:Int)∧(c.toNat:Int)≤122)∨(65≤(c.toNat:Int)∧(c.toNat:Int)≤90)) (by decide +kernel) c
theorem q5d (c:UInt8):z6p c=true↔(48≤(c.toNat:Int)∧(c.toNat:Int)≤57)∨(c.toNat:Int)=43∨(c.toNat:Int)=45∨(c.toNat:Int)=46:=z0x (fun c=>z6p c=true↔(48≤(c.toNat:Int)∧(c.toNat:Int)≤57)∨(c.toNat:Int)=43∨(c.toNat:Int)=45∨(c.toNat:Int)=46) (by decide +kernel) c
end Mg
namespace Mk
abbrev Bs := List UInt8

def esc (c:UInt8):Bs := if c=38 then [38, 97, 109, 112, 59] else if c=60 then [38, 108, 116, 59] else if c=62 then [38, 103, 116, 59] else if c=34 then [38, 113, 117, 111, 116, 59] else [c]
def put (s:Bs):Bs := s.flatMap esc
def z6i (n:Nat):Nat := if 48 ≤ n ∧ n ≤ 57 then n - 48 else if 97 ≤ n ∧ n ≤ 122 then n - 87 else if 65 ≤ n ∧ n ≤ 90 then n - 55 else 99
def z04 (b:Nat) (c:UInt8):Bool := decide (z6i c.toNat < b)
def value (b:Nat) (l:Bs):Nat := l.foldl (fun n c => n * b + z6i c.toNat) 0
def scalar (n:Nat):Bool := decide (0 < n) && decide (n ≤ 1114111) && (decide (n < 55296) || decide (57343 < n))
def utf8 (n:Nat):Bs :=
  if n < 128 then [UInt8.ofNat n]
  else if n < 2048 then [UInt8.ofNat (192 + n / 64), UInt8.ofNat (128 + n % 64)]
  else if n < 65536 then [UInt8.ofNat (224 + n / 4096), UInt8.ofNat (128 + n / 64 % 64), UInt8.ofNat (128 + n % 64)]
  else [UInt8.ofNat (240 + n / 262144), UInt8.ofNat (128 + n / 4096 % 64), UInt8.ofNat (128 + n / 64 % 64), UInt8.ofNat (128 + n % 64)]
def named (s:Bs):Option (UInt8 × Nat) :=
  if Mg.pre [38, 97, 109, 112, 59] s then some (38, 5)
  else if Mg.pre [38, 108, 116, 59] s then some (60, 4)
  else if Mg.pre [38, 103, 116, 59] s then some (62, 4)
  else if Mg.pre [38, 113, 117, 111, 116, 59] s then some (34, 6)
  else if Mg.pre [38, 97, 112, 111, 115, 59] s then some (39, 6)
  else none
def numAt (b most ahead:Nat) (s:Bs):Option (Nat × Nat) :=
  let r := s.drop ahead
  let ds := r.takeWhile (z04 b)
  if ds.length=0∨most < ds.length then none
  else if Mg.isAt 59 (r.drop ds.length) then some (value b ds, ahead + ds.length + 1) else none
def numbered (s:Bs):Option (Nat × Nat) :=
  if Mg.pre [38, 35, 120] s then numAt 16 6 3 s
  else if Mg.pre [38, 35] s then numAt 10 7 2 s
  else none
def sign (s:Bs):Bs × Nat × Bool :=
  match named s with
  | some (c, n) => ([c], n, true)
  | none =>
    match numbered s with
    | none => ([38], 0, false)
    | some (p, n) => if scalar p then (utf8 p, n, true) else ([239, 191, 189], n, false)
def takeN:Nat → Bs → Bs × Bool
  | 0, _ => ([], true)
  | _ + 1, [] => ([], true)
  | n + 1, c :: t =>
    if c=38 then
      let x := sign (c :: t)
      let r := takeN n ((c :: t).drop (max 1 x.2.1))
      (x.1 ++ r.1, x.2.2 && r.2)
    else
      let r := takeN n t
      (c :: r.1, r.2)
def take (s:Bs):Bs × Bool := takeN s.length s

def white (c:UInt8):Bool := c == 9 || c == 10 || c == 12 || c == 13 || c == 32
def small (c:UInt8):Bool := 97 ≤ c && c ≤ 122
def z5p:Bool → Bs → Bool
  | _, [] => true
  | first, c :: t => (small c || (!first && (Mg.z04 c || c == 45))) && z5p false t
def isName (s:Bs):Bool := decide (s ≠ []) && decide (s.length ≤ 20) && z5p true s

structure At where
  n:Bs
  v:Bs
  deriving DecidableEq
structure Tok where
  kind:Int
  name:Bs
  ats:List At
  text:Bs
  deriving DecidableEq

def z4m (l:List At) (n:Bs):Bool := l.any (fun a => a.n == n)
def valueOf (r:Bs):Option (Bs × Bs) :=
  match r.dropWhile white with
  | [] => some ([], [])
  | q :: t =>
    if q=34∨q=39 then
      match t.dropWhile (· != q) with
      | [] => none
      | _ :: u => some (t.takeWhile (· != q), u)
    else some ((q :: t).takeWhile (fun c => !white c && c != 62), (q :: t).dropWhile (fun c => !white c && c != 62))
def z0j (c:UInt8):Bool := !white c && c != 47 && c != 62 && c != 61
def z0o:Nat → Bs → List At → Option (List At × Bs)
  | 0, _, _ => none
  | n + 1, r, out =>
    match r.dropWhile (fun c => white c || c == 47) with
    | [] => none
    | c :: t =>
      if c=62 then some (out, t)
      else
        let nm := Mg.fold (c :: t.takeWhile z0j)
        let r3 := (t.dropWhile z0j).dropWhile white
        match (if Mg.isAt 61 r3 then (valueOf r3.tail).map (fun x => ((take x.1).1, x.2)) else some ([], r3)) with
        | none => none
        | some (v, r4) => z0o n r4 (if isName nm && !z4m out nm then out ++ [⟨nm, v⟩] else out)
def z5i (r:Bs):Option (List At × Bs) := z0o (r.length + 1) r []
def behind (p:Bs):Bs → Option Bs
  | [] => if p=[] then some [] else none
  | c :: t => if Mg.pre p (c :: t) then some ((c :: t).drop p.length) else behind p t
def V9 (c:UInt8):Bool := !white c && c != 47 && c != 62
inductive Here where
  | text:Here
  | stop:Here
  | gone (rest:Bs):Here
  | tag (t:Tok) (rest:Bs):Here
def q6b (l:Bs):Bool := match l with | c :: _ => Mg.isLet c | [] => false
def z6n (r:Bs):Here :=
  let nm := Mg.fold (r.takeWhile V9)
  match z5i (r.dropWhile V9) with
  | none => .stop
  | some (l, rest) => if isName nm then .tag ⟨2, nm, l, []⟩ rest else .gone rest
def z3q (r:Bs):Here :=
  let nm := Mg.fold (r.takeWhile V9)
  match behind [62] (r.dropWhile V9) with
  | none => .stop
  | some rest => if isName nm then .tag ⟨3, nm, [], []⟩ rest else .gone rest
def z1v (p r:Bs):Here := match behind p r with | none => .stop | some rest => .gone rest
def hereAt (r:Bs):Here :=
  if q6b r.tail then z6n r.tail
  else if Mg.pre [60, 47] r && q6b (r.drop 2) then z3q (r.drop 2)
  else if Mg.pre [60, 33, 45, 45] r then z1v [45, 45, 62] (r.drop 2)
  else if Mg.pre [60, 33] r || Mg.pre [60, 63] r || Mg.pre [60, 47] r then z1v [62] r
  else .text
def flush (text:Bs) (out:List Tok):List Tok := let t := (take text).1; if t=[] then out else out ++ [⟨1, [], [], t⟩]
def z5a:Nat → Bs → Bs → List Tok → List Tok
  | 0, _, text, out => flush text out
  | _ + 1, [], text, out => flush text out
  | n + 1, c :: t, text, out =>
    if c=60 then
      match hereAt (c :: t) with
      | .text => z5a n t (text ++ [60]) out
      | .stop => flush (text ++ c :: t) out
      | .gone rest => z5a n rest text out
      | .tag k rest => z5a n rest [] (flush text out ++ [k])
    else z5a n t (text ++ [c]) out
def toks (s:Bs):List Tok := z5a s.length s [] []

inductive Fo where
  | nil:Fo
  | node (name:Bs) (ats:List At) (text:Bs) (kids rest:Fo):Fo
  deriving DecidableEq
namespace Fo
def len:Fo → Nat | nil => 0 | node _ _ _ _ r => r.len + 1
def app:Fo → Fo → Fo | nil, g => g | node n a t k r, g => node n a t k (r.app g)
def snoc (n:Bs) (a:List At) (t:Bs) (k:Fo):Fo → Fo
  | nil => node n a t k nil
  | node n' a' t' k' nil => if n=[] ∧ n'=[] then node n' a' (t' ++ t) k' nil else node n' a' t' k' (node n a t k nil)
  | node n' a' t' k' (node m b u j r) => node n' a' t' k' (snoc n a t k (node m b u j r))
def joins (f:Fo):Fo → Fo
  | nil => f
  | node n a t k r => joins (snoc n a t k f) r
end Fo

def z4f (n:Bs):Bool := n == [98, 114] || n == [104, 114] || n == [105, 109, 103]
def q26 (n:Bs):Bool := n == [117, 108] || n == [111, 108]
def q1r (n:Bs):Bool := q26 n || n == [108, 105] || n == [98, 108, 111, 99, 107, 113, 117, 111, 116, 101]
def q2j (n:Bs):Bool := q1r n || n == [112] || n == [104, 114]
def q5n (x:Bs) (q:Bs → Bool):List Bs → Option Nat
  | [] => none
  | n :: r => if n=x then some r.length else if q n then none else q5n x q r
def above (x:Bs) (q:Bs → Bool) (l:List Bs):Option Nat := q5n x q l.reverse
def q1x (l:List Bs):Option Nat → List Bs | none => l | some k => l.take k
def stays (l:List Bs) (n:Bs):Nat :=
  let l1 := if q2j n then q1x l (above [112] q1r l) else l
  let l2 := if n == [108, 105] then q1x l1 (above [108, 105] q26 l1) else l1
  l2.length

structure Op where
  name:Bs
  ats:List At
  kids:Fo
structure Bld where
  root:Fo
  open_:List Op
namespace Bld
def z7y (b:Bld) (n:Bs) (a:List At) (t:Bs) (k:Fo):Bld :=
  match b.open_.reverse with
  | [] => { b with root := Fo.snoc n a t k b.root }
  | o :: r => { b with open_ := (({ o with kids := Fo.snoc n a t k o.kids }:Op) :: r).reverse }
def pop (b:Bld):Bld :=
  match b.open_.reverse with
  | [] => b
  | o :: r => Bld.z7y { b with open_ := r.reverse } o.name o.ats [] o.kids
def z4q:Nat → Bld → Bld | 0, b => b | n + 1, b => z4q n b.pop
def close (b:Bld) (many:Nat):Bld := z4q (b.open_.length - many) b
def names (b:Bld):List Bs := b.open_.map (·.name)
def token (b:Bld) (t:Tok):Bld :=
  if t.kind=1 then b.z7y [] [] t.text .nil
  else if t.kind=2 then
    let c := b.close (stays b.names t.name)
    if c.open_.length=8 then c
    else if z4f t.name then c.z7y t.name t.ats [] .nil
    else { c with open_ := c.open_ ++ [⟨t.name, t.ats, .nil⟩] }
  else if t.kind=3 then
    match above t.name (fun _ => false) b.names with
    | none => b
    | some i => b.close i
  else b
end Bld
def build (l:List Tok):Fo := ((l.foldl Bld.token ⟨.nil, []⟩).close 0).root

def Q9:Nat → Fo → Nat × Nat
  | _, .nil => (0, 0)
  | most, .node n _ _ k r =>
    let x := Q9 most r
    if n=[] then (x.1 + 1, x.2)
    else match most with
      | 0 => (x.1 + 1, max 1 x.2)
      | m + 1 => let y := Q9 m k; (x.1 + 1 + y.1, max (max 1 (y.2 + 1)) x.2)
def z14 (q:Bs → Bool):List At → List At → Int
  | _, [] => 0
  | seen, a :: r => if !q a.n then 1 else if z4m seen a.n then 6 else z14 q (seen ++ [a]) r
def z4h (names:List Bs) (n:Bs) (a:List At) (t:Bs) (k:Fo):Int :=
  if n=[] then (if t=[]∨a ≠ []∨k ≠ .nil then 1 else 0)
  else if t ≠ []∨!isName n∨(z4f n ∧ k ≠ .nil) then 1
  else if z14 isName [] a ≠ 0 then z14 isName [] a
  else if stays names n < names.length then 4 else 0
def X3:Fo → List Bs → Bool → Int
  | .nil, _, _ => 0
  | .node n a t k r, names, prev =>
    if z4h names n a t k ≠ 0 then z4h names n a t k
    else if n=[] ∧ prev then 4
    else if X3 k (names ++ [n]) false ≠ 0 then X3 k (names ++ [n]) false
    else X3 r names (decide (n=[]))
def flat:Fo → List Tok
  | .nil => []
  | .node n a t k r =>
    if n=[] then ⟨1, [], [], t⟩ :: flat r
    else ⟨2, n, a, []⟩ :: ((if z4f n then [] else flat k ++ [⟨3, n, [], []⟩]) ++ flat r)
def written (l:List At):Bs := l.flatMap (fun a => [32] ++ a.n ++ [61, 34] ++ put a.v ++ [34])
def z1s (t:Tok):Bs :=
  if t.kind=1 then put t.text
  else if t.kind=2 then [60] ++ t.name ++ written t.ats ++ [62]
  else if t.kind=3 then [60, 47] ++ t.name ++ [62]
  else []
def bytes (l:List Tok):Bs := l.flatMap z1s

def light (base s:Bs):Bs :=
  if 3000 < base.length∨3000 < s.length∨Mg.z1u base=0 then s
  else match Mg.res base s with | none => s | some t => t
def z9b:List Bs := [[97], [98], [105], [101, 109], [115, 116, 114, 111, 110, 103], [112], [98, 114], [104, 114], [117, 108], [111, 108], [108, 105], [98, 108, 111, 99, 107, 113, 117, 111, 116, 101], [99, 111, 100, 101], [105, 109, 103]]
def z1j (n:Bs):Bool := z9b.contains n
def q82 (n:Bs):Bool := n == [115, 99, 114, 105, 112, 116] || n == [115, 116, 121, 108, 101] || n == [116, 101, 109, 112, 108, 97, 116, 101]
def q19 (n:Bs):Bool := n == [104, 114, 101, 102] || n == [115, 114, 99]
def mayB (e n:Bs):Bool :=
  if e=[97] then n == [104, 114, 101, 102] || n == [116, 105, 116, 108, 101]
  else if e=[105, 109, 103] then n == [115, 114, 99] || n == [97, 108, 116]
  else false
def z1k (s:Bs):Bool := Mg.isSafe s && decide (s.length ≤ 3000)
def z3p (base e:Bs) (a:At):List At :=
  if !mayB e a.n then []
  else if q19 a.n then (if z1k (light base a.v) then [⟨a.n, light base a.v⟩] else [])
  else [a]
def Y4 (base e:Bs) (l:List At):List At := l.flatMap (z3p base e)
def Z5 (base:Bs):Fo → Fo → Fo
  | out, .nil => out
  | out, .node n a t k r =>
    Z5 base
      (if n=[] then Fo.snoc n a t k out
       else if q82 n then out
       else
         let kids := Z5 base .nil k
         if !z1j n then Fo.joins out kids
         else
           let l := Y4 base n a
           if n=[105, 109, 103] ∧ z4m l [115, 114, 99]=false then out
           else Fo.snoc n l [] kids out) r
def clean (base:Bs) (f:Fo):Fo := Z5 base .nil f
def q5s (e:Bs) (l:List At):Bool := l.any (fun a => !mayB e a.n || (q19 a.n && !z1k a.v))
def z8r:Fo → Bool
  | .nil => true
  | .node n a _ k r => !((decide (n ≠ []) && (!z1j n || q5s n a || (decide (n=[105, 109, 103]) && !z4m a [115, 114, 99]))) || !z8r k) && z8r r
def html (base s:Bs):Bs := bytes (flat (clean base (build (toks s))))

end Mk
namespace Mk
namespace Fo
def right:Fo→Prop
 | nil=>True
 | node n _ t k r=>(n=[]→k=nil)∧(n ≠ []→t=[])∧(z4f n=true→k=nil)∧right k∧right r
end Fo
open Fo

theorem z9c:∀ f names prev,X3 f names prev=0→right f:=by
 intro f
 induction f with
 | nil=>intro _ _ _;trivial
 | node n a t k r ihk ihr =>
  intro names prev h;unfold X3 at h
  by_cases h1:z4h names n a t k ≠ 0
  ·rw[if_pos h1] at h;exact absurd h h1
  rw[if_neg h1] at h
  by_cases h2:n=[]∧prev
  ·rw[if_pos h2] at h;cases h
  rw[if_neg h2] at h
  by_cases h3:X3 k (names++[n]) false ≠ 0
  ·rw[if_pos h3] at h;exact absurd h h3
  rw[if_neg h3] at h;have hk:=ihk _ _ (by simpa using h3);have hr:=ihr _ _ h;have h1':z4h names n a t k=0:=by simpa using h1
  unfold z4h at h1'
  by_cases hn:n=[]
  ·rw[if_pos hn] at h1'
   by_cases hq:t=[]∨a ≠ []∨k ≠ nil
   ·rw[if_pos hq] at h1';cases h1'
   ·refine⟨fun _=>?_,fun h=>absurd hn h,fun he=>?_,hk,hr⟩
    ·exact Classical.byContradiction fun hc=>hq (.inr (.inr hc))
    ·rw[hn] at he;exact absurd he (by decide)
  ·rw[if_neg hn] at h1'
   by_cases hq:t ≠ []∨!isName n∨(z4f n∧k ≠ nil)
   ·rw[if_pos hq] at h1';cases h1'
   ·refine⟨fun h=>absurd h hn,fun _=>?_,fun he=>?_,hk,hr⟩
    ·exact Classical.byContradiction fun hc=>hq (.inl hc)
    ·exact Classical.byContradiction fun hc=>hq (.inr (.inr ⟨he,hc⟩))
end Mk
namespace Mk
open Fo
namespace Fo
def depth:Fo→Nat | nil=>0 | node n _ _ k r=>if n=[] then r.depth else max (k.depth + 1) r.depth
def count:Fo→Nat | nil=>0 | node _ _ _ k r=>k.count + r.count + 1
def j1i:Fo→Bool | nil=>false | node n _ _ _ nil=>decide (n=[]) | node _ _ _ _ (node m b u j r)=>j1i (node m b u j r)
theorem q61:∀ f:Fo,f.app nil=f
 | nil=>rfl
 | node n a t k r=>by show node n a t k (r.app nil)=_;rw[q61 r]
theorem z4x:∀ f g h:Fo,(f.app g).app h=f.app (g.app h)
 | nil,_,_=>rfl
 | node n a t k r,g,h=>by show node n a t k ((r.app g).app h)=node n a t k (r.app (g.app h));rw[z4x r g h]
theorem j07 (n:Bs) (a:List At) (t:Bs) (k:Fo):∀ f:Fo,¬(n=[]∧j1i f=true)→snoc n a t k f=f.app (node n a t k nil)
 | nil,_=>rfl
 | node n' a' t' k' nil,h=>by
  have h2:¬(n=[]∧n'=[]):=fun e=>h ⟨e.1,by simp[j1i,e.2]⟩
  unfold snoc;rw[if_neg h2];rfl
 | node n' a' t' k' (node m b u j r),h=>by
  have h2:=j07 n a t k (node m b u j r) h;show node n' a' t' k' (snoc n a t k (node m b u j r))=node n' a' t' k' _;rw[h2]
theorem z8h (n:Bs) (a:List At) (t:Bs) (k:Fo):∀ f:Fo,j1i (f.app (node n a t k nil))=decide (n=[])
 | nil=>rfl
 | node n' a' t' k' nil=>rfl
 | node n' a' t' k' (node m b u j r)=>z8h n a t k (node m b u j r)
end Fo
theorem z3f (n:Bs) (a:List At) (t:Bs) (k:Fo) (D:Nat) (hk:n ≠ []→k.depth + 1≤D):∀ f:Fo,f.depth≤D→(snoc n a t k f).depth≤D
 | nil,_=>by
  by_cases hn:n=[]
  ·simp[snoc,depth,hn]
  ·have:=hk hn
   simp only [snoc,depth,hn,if_false];omega
 | node n' a' t' k' nil,h=>by
  unfold snoc
  by_cases hn':n'=[]
  ·by_cases hn:n=[]
   ·simp[hn,hn',depth]
   ·have:=hk hn
    simp only [hn,hn',false_and,if_false,depth,if_true];omega
  ·simp only [hn',and_false,if_false,depth] at h ⊢
   by_cases hn:n=[]
   ·simp only [hn,if_true]
    exact h
   ·have:=hk hn
    simp only [hn,if_false];omega
 | node n' a' t' k' (node m b u j r),h=>by
  show depth (node n' a' t' k' (snoc n a t k (node m b u j r)))≤D
  by_cases hn':n'=[]
  ·have e:∀ x,depth (node n' a' t' k' x)=x.depth:=fun x=>by simp[depth,hn']
   rw[e] at h ⊢;exact z3f n a t k D hk _ h
  ·have e:∀ x,depth (node n' a' t' k' x)=max (k'.depth + 1) x.depth:=fun x=>by simp[depth,hn']
   rw[e] at h ⊢;have:=z3f n a t k D hk (node m b u j r) (by omega);omega
theorem Y3 (n:Bs) (a:List At) (t:Bs) (k r:Fo) (names:List Bs) (prev:Bool):X3 (node n a t k r) names prev=0↔z4h names n a t k=0∧¬(n=[]∧prev=true)∧X3 k (names++[n]) false=0∧X3 r names (decide (n=[]))=0:=by
 rw[X3]
 by_cases h1:z4h names n a t k=0
 ·rw[if_neg (by simpa using h1)]
  by_cases h2:n=[]∧prev=true
  ·rw[if_pos h2]
   exact⟨fun h=>(by cases h),fun h=>absurd h2 h.2.1⟩
  ·rw[if_neg h2]
   by_cases h3:X3 k (names++[n]) false=0
   ·rw[if_neg (by simpa using h3)]
    exact⟨fun h=>⟨h1,h2,h3,h⟩,fun h=>h.2.2.2⟩
   ·rw[if_pos h3]
    exact⟨fun h=>absurd h h3,fun h=>absurd h.2.2.1 h3⟩
 ·rw[if_pos h1]
  exact⟨fun h=>absurd h h1,fun h=>absurd h.1 h1⟩
theorem z6r (names:List Bs) (a:List At) (t:Bs) (k:Fo):z4h names [] a t k=0↔t ≠ []∧a=[]∧k=nil:=by
 unfold z4h;rw[if_pos rfl]
 by_cases h:t=[]∨a ≠ []∨k ≠ nil
 ·rw[if_pos h]
  refine⟨fun e=>(by cases e),fun e=>?_⟩
  rcases h with h | h | h
  ·exact absurd h e.1
  ·exact absurd e.2.1 h
  ·exact absurd e.2.2 h
 ·rw[if_neg h]
  refine⟨fun _=>⟨fun e=>h (.inl e),Classical.byContradiction fun e=>h (.inr (.inl e)),Classical.byContradiction fun e=>h (.inr (.inr e))⟩,fun _=>rfl⟩
theorem q9b (names:List Bs) (n:Bs) (hn:n ≠ []) (a:List At) (t:Bs) (k:Fo):z4h names n a t k=0↔t=[]∧isName n=true∧(z4f n=true→k=nil)∧z14 isName [] a=0∧names.length≤stays names n:=by
 unfold z4h;rw[if_neg hn]
 by_cases h:t ≠ []∨(!isName n)=true∨(z4f n=true∧k ≠ nil)
 ·rw[if_pos h]
  refine⟨fun e=>(by cases e),fun e=>?_⟩
  rcases h with h | h | h
  ·exact absurd e.1 h
  ·rw[e.2.1] at h;cases h
  ·exact absurd (e.2.2.1 h.1) h.2
 ·rw[if_neg h]
  have f1:t=[]:=Classical.byContradiction fun e=>h (.inl e)
  have f2:isName n=true:=by
   cases q:isName n with
   | true=>rfl
   | false=>exact absurd (.inr (.inl (by rw[q];rfl))) h
  have f3:z4f n=true→k=nil:=fun q=>Classical.byContradiction fun e=>h (.inr (.inr ⟨q,e⟩))
  by_cases h4:z14 isName [] a=0
  ·rw[if_neg (by simpa using h4)]
   by_cases h5:stays names n < names.length
   ·rw[if_pos h5]
    exact⟨fun e=>(by cases e),fun e=>absurd h5 (Nat.not_lt.2 e.2.2.2.2)⟩
   ·rw[if_neg h5]
    exact⟨fun _=>⟨f1,f2,f3,h4,Nat.not_lt.1 h5⟩,fun _=>rfl⟩
  ·rw[if_pos h4]
   exact⟨fun e=>absurd e h4,fun e=>absurd e.2.2.2.1 h4⟩
theorem z7i (names:List Bs) (n:Bs) (a:List At) (t:Bs) (k:Fo) (hn:z4h names n a t k=0) (hk:X3 k (names++[n]) false=0):∀ (f:Fo) (prev:Bool),X3 f names prev=0→(f=nil→¬(n=[]∧prev=true))→X3 (snoc n a t k f) names prev=0
 | nil,prev,_,h2=>(Y3 n a t k nil names prev).2 ⟨hn,h2 rfl,hk,rfl⟩
 | node n' a' t' k' nil,prev,h,_=>by
  obtain⟨g1,g2,g3,g4⟩:=(Y3 ..).1 h;unfold snoc
  split
  ·rename_i e
   obtain⟨e1,e2⟩:=e;subst e2;obtain⟨q1,q2,q3⟩:=(z6r ..).1 g1;exact(Y3 ..).2 ⟨(z6r ..).2 ⟨by simp[q1],q2,q3⟩,g2,g3,rfl⟩
  ·rename_i e
   refine(Y3 ..).2 ⟨g1,g2,g3,(Y3 ..).2 ⟨hn,fun q=>e ⟨q.1,by simpa using q.2⟩,hk,rfl⟩⟩
 | node n' a' t' k' (node m b u j r),prev,h,_=>by
  obtain⟨g1,g2,g3,g4⟩:=(Y3 ..).1 h;exact(Y3 ..).2 ⟨g1,g2,g3,z7i names n a t k hn hk (node m b u j r) _ g4 (fun e=>by cases e)⟩
def z08 (x:Bs) (q:Bs→Bool):List Bs→Option (List Bs)
 | []=>none
 | n :: r=>if n=x then some r else if q n then none else z08 x q r
theorem z96 (x:Bs) (q:Bs→Bool):∀ l,q5n x q l=(z08 x q l).map List.length
 | []=>rfl
 | n :: r=>by
  unfold q5n z08
  by_cases h:n=x
  ·rw[if_pos h,if_pos h];rfl
  ·rw[if_neg h,if_neg h]
   by_cases h2:q n=true
   ·rw[if_pos h2,if_pos h2];rfl
   ·rw[if_neg h2,if_neg h2];exact z96 x q r
theorem z9s (x:Bs) (q:Bs→Bool):∀ l r,z08 x q l=some r→∃ m,l=m++x :: r
 | [],_,h=>by cases h
 | n :: l,r,h=>by
  unfold z08 at h
  by_cases h1:n=x
  ·rw[if_pos h1] at h
   injection h with h;exact⟨[],by rw[h1,h];rfl⟩
  ·rw[if_neg h1] at h
   by_cases h2:q n=true
   ·rw[if_pos h2] at h;cases h
   ·rw[if_neg h2] at h
    obtain⟨m,e⟩:=z9s x q l r h;exact⟨n :: m,by rw[e];rfl⟩
theorem q2g (x:Bs) (q:Bs→Bool) (l:List Bs):q1x l.reverse (above x q l.reverse)=((z08 x q l).getD l).reverse:=by
 unfold above;rw[List.reverse_reverse,z96]
 cases h:z08 x q l with
 | none=>rfl
 | some r =>
  obtain⟨m,e⟩:=z9s x q l r h;show l.reverse.take r.length=r.reverse;rw[e];simp
def li:Bs:=[108,105]
def z0v (l:List Bs) (n:Bs):List Bs :=
 let l1:=if q2j n then (z08 [112] q1r l).getD l else l
 if n == li then (z08 li q26 l1).getD l1 else l1
theorem j7h (l:List Bs) (n:Bs):stays l.reverse n=(z0v l n).length:=by
 unfold stays z0v;simp only;have e:(if q2j n=true then q1x l.reverse (above [112] q1r l.reverse) else l.reverse)=(if q2j n=true then (z08 [112] q1r l).getD l else l).reverse:=by
  by_cases h:q2j n=true
  ·rw[if_pos h,if_pos h,q2g]
  ·rw[if_neg h,if_neg h]
 rw[e];generalize (if q2j n=true then (z08 [112] q1r l).getD l else l)=l1;show (if (n == li)=true then q1x l1.reverse (above li q26 l1.reverse) else l1.reverse).length=_
 by_cases h:(n == li)=true
 ·rw[if_pos h,if_pos h,q2g,List.length_reverse]
 ·rw[if_neg h,if_neg h,List.length_reverse]
def Fine (l:List Bs) (n:Bs):Prop:=(q2j n=true→z08 [112] q1r l=none)∧(n=li→z08 li q26 l=none)
theorem j1o {l:List Bs} {n:Bs} (h:Fine l n):z0v l n=l:=by
 unfold z0v;have e:(if q2j n=true then (z08 [112] q1r l).getD l else l)=l:=by
  by_cases q:q2j n=true
  ·rw[if_pos q,h.1 q];rfl
  ·rw[if_neg q]
 simp only [e]
 by_cases q:(n == li)=true
 ·rw[if_pos q,h.2 (by simpa using q)];rfl
 ·rw[if_neg q]
theorem z1h (seen:List At) (a:At) (r:List At):z14 isName seen (a :: r)=0↔isName a.n=true∧z4m seen a.n=false∧z14 isName (seen++[a]) r=0:=by
 rw[z14]
 cases h1:isName a.n with
 | false=>simp
 | true =>
  cases h2:z4m seen a.n with
  | true=>simp
  | false=>simp
theorem q4l (v:Bs):light [] v=v:=by
 unfold light;rw[if_pos (.inr (.inr (by decide)))]
def Stable (base:Bs):Fo→Prop
 | nil=>True
 | node n a t k r=>(n ≠ []→q82 n=false∧z1j n=true∧t=[]∧Y4 base n a=a∧¬(n=[105,109,103]∧z4m a [115,114,99]=false))∧Stable base k∧Stable base r
theorem q77 (b:Bs):∀ (f:Fo) (names:List Bs) (out:Fo),Stable b f→right f→X3 f names (j1i out)=0→Z5 b out f=out.app f:=by
 intro f
 induction f with
 | nil=>intro _ out _ _ _;exact(q61 out).symm
 | node n a t k r ihk ihr =>
  intro names out hs hf hc;obtain⟨g1,g2,g3⟩:=hs;obtain⟨r1,r2,r3,r4,r5⟩:=hf;obtain⟨c1,c2,c3,c4⟩:=(Y3 ..).1 hc;have hsn:snoc n a t k out=out.app (node n a t k nil):=j07 n a t k out c2;have hend:Z5 b (snoc n a t k out) r=out.app (node n a t k r):=by
   rw[hsn,ihr names _ g3 r5 (by rw[z8h];exact c4),z4x];rfl
  unfold Z5
  by_cases hn:n=[]
  ·rw[if_pos hn]
   exact hend
  ·rw[if_neg hn]
   obtain⟨q1,q2,q3,q4,q5⟩:=g1 hn;rw[if_neg (by simp[q1])];have hk:Z5 b nil k=k:=ihk (names++[n]) nil g2 r4 c3;simp only [hk,q4];rw[if_neg (by simp[q2]),if_neg q5];rw[q3] at hend;rw[q3];exact hend
namespace Bld
def R (root:Fo) (ops:List Op):Bld:=⟨root,ops.reverse⟩
def rs (root:Fo) (ops:List Op) (g:Fo):Fo:=match ops with | []=>g | _ :: _=>root
def os (ops:List Op) (g:Fo):List Op:=match ops with | []=>[] | o :: r=>{ o with kids:=g } :: r
def cur (root:Fo) (ops:List Op):Fo:=match ops with | []=>root | o :: _=>o.kids
def nmOf (ops:List Op):List Bs:=(ops.map (·.name)).reverse
theorem q6q (ops:List Op) (g:Fo):(os ops g).length=ops.length:=by cases ops <;> rfl
theorem q74 (root:Fo) (ops:List Op) (n:Bs) (a:List At) (t:Bs) (k:Fo):(R root ops).z7y n a t k=R (rs root ops (snoc n a t k (cur root ops))) (os ops (snoc n a t k (cur root ops))):=by
 cases ops with
 | nil=>rfl
 | cons o r=>simp[z7y,R,rs,os,cur]
theorem pop_R (root:Fo) (o:Op) (r:List Op):(R root (o :: r)).pop=(R root r).z7y o.name o.ats [] o.kids:=by simp[pop,R]
theorem names_R (root:Fo) (ops:List Op):(R root ops).names=nmOf ops:=by simp[names,R,nmOf]
theorem q9n (root:Fo) (ops:List Op):(R root ops).open_.length=ops.length:=by simp[R]
theorem nm_cons (o:Op) (r:List Op):nmOf (o :: r)=nmOf r++[o.name]:=by simp[nmOf]
theorem push_R (root:Fo) (ops:List Op) (o:Op):({ R root ops with open_:=(R root ops).open_++[o] }:Bld)=R root (o :: ops):=by simp[R]
def j05:List Op→Prop
 | []=>True
 | o :: r=>(o.name ≠ []∧z4f o.name=false∧isName o.name=true∧z14 isName [] o.ats=0∧Fine (r.map (·.name)) o.name)∧X3 o.kids (nmOf r++[o.name]) false=0∧r.length + 1 + o.kids.depth≤8∧j05 r
def BOk (root:Fo) (ops:List Op):Prop:=X3 root [] false=0∧root.depth≤8∧j05 ops
theorem j5t {ops:List Op} {n:Bs} (h:Fine (ops.map (·.name)) n):(nmOf ops).length≤stays (nmOf ops) n:=by
 unfold nmOf;rw[j7h,j1o h,List.length_reverse];exact Nat.le_refl _
theorem q3i (root:Fo) (ops:List Op) (n:Bs) (a:List At) (t:Bs) (k:Fo) (h:BOk root ops) (hn:z4h (nmOf ops) n a t k=0) (hk:X3 k (nmOf ops++[n]) false=0) (hd:n ≠ []→ops.length + 1 + k.depth≤8) :
  BOk (rs root ops (snoc n a t k (cur root ops))) (os ops (snoc n a t k (cur root ops))):=by
 obtain⟨h1,h2,h3⟩:=h
 cases ops with
 | nil =>
  refine⟨z7i [] n a t k hn hk root false h1 (fun _ q=>by cases q.2),z3f n a t k 8 (fun q=>?_) root h2,trivial⟩;have:=hd q;simp at this;omega
 | cons o r =>
  obtain⟨q1,q2,q3,q4⟩:=h3;rw[nm_cons] at hn hk;refine⟨h1,h2,q1,z7i _ n a t k hn hk o.kids false q2 (fun _ q=>by cases q.2),?_,q4⟩;have:=z3f n a t k (8 - (r.length + 1)) (fun q=>by have:=hd q;simp only [List.length_cons] at this;omega) o.kids (by omega);show r.length + 1 + (snoc n a t k o.kids).depth≤8;omega
theorem pop_ok (root:Fo) (o:Op) (r:List Op) (h:BOk root (o :: r)):BOk (rs root r (snoc o.name o.ats [] o.kids (cur root r))) (os r (snoc o.name o.ats [] o.kids (cur root r))):=by
 obtain⟨h1,h2,⟨q1,q2,q3,q4,q5⟩,p2,p3,p4⟩:=h;refine q3i root r o.name o.ats [] o.kids ⟨h1,h2,p4⟩ ((q9b _ _ q1 _ _ _).2 ⟨rfl,q3,fun e=>absurd e (by simp[q2]),q4,j5t q5⟩) p2 (fun _=>p3)
theorem z5j:∀ (m:Nat) (root:Fo) (ops:List Op),BOk root ops→m≤ops.length→∃ root' ops',z4q m (R root ops)=R root' ops'∧BOk root' ops'∧ops'.map (·.name)=(ops.map (·.name)).drop m
 | 0,root,ops,h,_=>⟨root,ops,rfl,h,rfl⟩
 | m + 1,root,[],h,hm=>by simp at hm
 | m + 1,root,o :: r,h,hm=>by
  obtain⟨root',ops',e,h',q⟩:=z5j m _ _ (pop_ok root o r h) (by rw[q6q];simpa using hm);refine⟨root',ops',?_,h',?_⟩
  ·show z4q m (R root (o :: r)).pop=_
   rw[pop_R,q74];exact e
  ·rw[q]
   cases r <;> rfl
theorem q0a (x:Bs) (q:Bs→Bool):∀ (ops:List Op) (r:List Bs),j05 ops→z08 x q (ops.map (·.name))=some r→Fine r x∧∃ ops',j05 ops'∧ops'.map (·.name)=r
 | [],_,_,h=>by cases h
 | o :: l,r,ho,h=>by
  obtain⟨q1,q2,q3,q4⟩:=ho;rw[List.map_cons] at h;unfold z08 at h
  by_cases e:o.name=x
  ·rw[if_pos e] at h
   injection h with h;subst h;rw[← e];exact⟨q1.2.2.2.2,l,q4,rfl⟩
  ·rw[if_neg e] at h
   by_cases e2:q o.name=true
   ·rw[if_pos e2] at h;cases h
   ·rw[if_neg e2] at h
    exact q0a x q l r q4 h
theorem j8e (ops:List Op) (n:Bs) (h:j05 ops):Fine (z0v (ops.map (·.name)) n) n:=by
 by_cases hb:q2j n=true
 ·unfold z0v
  simp only [hb,if_true];have key:z08 [112] q1r ((z08 [112] q1r (ops.map (·.name))).getD (ops.map (·.name)))=none∧∃ ops',j05 ops'∧ops'.map (·.name)=(z08 [112] q1r (ops.map (·.name))).getD (ops.map (·.name)):=by
   cases hf:z08 [112] q1r (ops.map (·.name)) with
   | none=>exact⟨hf,ops,h,rfl⟩
   | some r =>
    obtain⟨f1,f2⟩:=q0a _ _ ops r h hf;exact⟨f1.1 (by decide),f2⟩
  obtain⟨k1,ops',k2,k3⟩:=key;rw[← k3] at k1 ⊢
  by_cases hl:n=li
  ·rw[if_pos (by simpa using hl)]
   cases hf:z08 li q26 (ops'.map (·.name)) with
   | none=>exact⟨fun _=>k1,fun _=>hf⟩
   | some r =>
    obtain⟨f1,_⟩:=q0a _ _ ops' r k2 hf;rw[hl];exact f1
  ·rw[if_neg (by simpa using hl)]
   exact⟨fun _=>k1,fun q=>absurd q hl⟩
 ·exact⟨fun q=>absurd q hb,fun q=>absurd (by rw[q];decide) hb⟩
theorem q7j (l:List Bs) (n:Bs):z0v l n=l.drop (l.length - (z0v l n).length):=by
 have hd:∀ (x:Bs) (q:Bs→Bool) (l:List Bs),∃ m,l=m++(z08 x q l).getD l:=fun x q l=>by
  cases h:z08 x q l with
  | none=>exact⟨[],rfl⟩
  | some r =>
   obtain⟨m,e⟩:=z9s x q l r h;exact⟨m++[x],by rw[e];simp⟩
 have h1:∃ m,l=m++(if q2j n=true then (z08 [112] q1r l).getD l else l):=by
  split
  ·exact hd _ _ l
  ·exact⟨[],rfl⟩
 have h2:∃ m,l=m++z0v l n:=by
  obtain⟨m,e⟩:=h1;unfold z0v;simp only;generalize (if q2j n=true then (z08 [112] q1r l).getD l else l)=l1 at e ⊢
  split
  ·obtain⟨m2,e2⟩:=hd li q26 l1
   exact⟨m++m2,by rw[List.append_assoc,← e2];exact e⟩
  ·exact⟨m,e⟩
 obtain⟨m,e⟩:=h2;have:l.length - (z0v l n).length=m.length:=by
  have:=congrArg List.length e;simp at this;omega
 rw[this]
 conv=>rhs;rw[e]
 simp
def q34 (t:Tok):Prop:=(t.kind=1∧t.name=[]∧t.ats=[]∧t.text ≠ [])∨(t.kind=2∧isName t.name=true∧z14 isName [] t.ats=0∧t.text=[])∨(t.kind=3∧isName t.name=true∧t.ats=[]∧t.text=[])
theorem name_ne {n:Bs} (h:isName n=true):n ≠ []:=by
 rintro rfl;exact absurd h (by decide)
theorem token_ok (root:Fo) (ops:List Op) (t:Tok) (h:BOk root ops) (hl:ops.length≤8) (ht:q34 t):∃ root' ops',(R root ops).token t=R root' ops'∧BOk root' ops'∧ops'.length≤8:=by
 rcases ht with ⟨k,_,_,hx⟩ | ⟨k,hn,ha,_⟩ | ⟨k,hn,_,_⟩
 ·unfold token
  rw[if_pos k,q74];exact⟨_,_,rfl,q3i root ops [] [] t.text nil h ((z6r ..).2 ⟨hx,rfl,rfl⟩) rfl (fun q=>absurd rfl q),by rw[q6q];exact hl⟩
 ·unfold token
  rw[if_neg (by rw[k];decide),if_pos k];have hne:=name_ne hn;have hsl:stays (nmOf ops) t.name=(z0v (ops.map (·.name)) t.name).length:=j7h _ _;have hdrop:=q7j (ops.map (·.name)) t.name;rw[List.length_map] at hdrop;obtain⟨root',ops',e,h',q⟩:=z5j (ops.length - (z0v (ops.map (·.name)) t.name).length) root ops h (Nat.sub_le _ _);have hf:=j8e ops t.name h.2.2;rw[hdrop,← q] at hf;have hcl:(R root ops).close (stays (R root ops).names t.name)=R root' ops':=by
   unfold close;rw[names_R,q9n,hsl];exact e
  simp only [hcl,q9n];have hl':ops'.length≤8:=by
   have:=congrArg List.length q;simp at this;omega
  by_cases h8:ops'.length=8
  ·rw[if_pos h8]
   exact⟨root',ops',rfl,h',hl'⟩
  rw[if_neg h8]
  by_cases he:z4f t.name=true
  ·rw[if_pos he,q74]
   refine⟨_,_,rfl,q3i root' ops' t.name t.ats [] nil h' ((q9b _ _ hne _ _ _).2 ⟨rfl,hn,fun _=>rfl,ha,j5t hf⟩) rfl (fun _=>?_),by rw[q6q];exact hl'⟩;have:(nil:Fo).depth=0:=rfl;omega
  ·rw[if_neg he]
   have e2:=push_R root' ops' ⟨t.name,t.ats,nil⟩;rw[e2];refine⟨root',_,rfl,⟨h'.1,h'.2.1,⟨hne,by simpa using he,hn,ha,hf⟩,rfl,?_,h'.2.2⟩,?_⟩
   ·have:(nil:Fo).depth=0:=rfl
    show ops'.length + 1 + (nil:Fo).depth≤8;omega
   ·simp only [List.length_cons]
    omega
 ·unfold token
  rw[if_neg (by rw[k];decide),if_neg (by rw[k];decide),if_pos k]
  cases ha:above t.name (fun _=>false) (R root ops).names with
  | none=>exact⟨root,ops,rfl,h,hl⟩
  | some i =>
   simp only;unfold close;obtain⟨root',ops',e,h',q⟩:=z5j (ops.length - i) root ops h (Nat.sub_le _ _);rw[q9n];refine⟨root',ops',e,h',?_⟩;have:=congrArg List.length q;simp at this;omega
theorem j6i:∀ (l:List Tok) (root:Fo) (ops:List Op),(∀ t ∈ l,q34 t)→BOk root ops→ops.length≤8→∃ root' ops',l.foldl token (R root ops)=R root' ops'∧BOk root' ops'
 | [],root,ops,_,h,_=>⟨root,ops,rfl,h⟩
 | t :: l,root,ops,ht,h,hl=>by
  obtain⟨root',ops',e,h',hl'⟩:=token_ok root ops t h hl (ht t (by simp));rw[List.foldl_cons,e];exact j6i l root' ops' (fun x q=>ht x (by simp[q])) h' hl'
theorem build_ok (l:List Tok) (h:∀ t ∈ l,q34 t):X3 (build l) [] false=0∧(build l).depth≤8:=by
 obtain⟨root',ops',e,h'⟩:=j6i l nil [] h ⟨rfl,Nat.zero_le _,trivial⟩ (Nat.zero_le _);obtain⟨root2,ops2,e2,h2,_⟩:=z5j ops'.length root' ops' h' (Nat.le_refl _);have e3:build l=root2:=by
  unfold build;show ((l.foldl token (R nil [])).close 0).root=root2;rw[e];unfold close;rw[q9n,Nat.sub_zero,e2];rfl
 rw[e3];exact⟨h2.1,h2.2.1⟩
end Bld
end Mk
namespace Mk
open Bld
theorem q3l:∀ (n:Nat) (r:Bs) (out l:List At) (rest:Bs),z14 isName [] out=0→z0o n r out=some (l,rest)→z14 isName [] l=0
 | 0,_,_,_,_,_,h=>by cases h
 | n + 1,r,out,l,rest,ho,h=>by
  unfold z0o at h
  split at h
  ·cases h
  ·split at h
   ·injection h with h
    injection h with h1 h2;rw[← h1];exact ho
   ·simp only at h
    split at h
    ·cases h
    ·rename_i c t _ _ v r4 _
     refine q3l n r4 _ l rest ?_ h
     split
     ·rename_i hq
      obtain⟨q1,q2⟩:=Bool.and_eq_true_iff.1 hq;have key:∀ (m seen:List At) (a:At),z14 isName seen m=0→isName a.n=true→z4m (seen++m) a.n=false→z14 isName seen (m++[a])=0:=by
       intro m
       induction m with
       | nil=>intro seen a _ p1 p2;exact(z1h ..).2 ⟨p1,by simpa using p2,rfl⟩
       | cons b m ih =>
        intro seen a p0 p1 p2;obtain⟨b1,b2,b3⟩:=(z1h ..).1 p0;exact(z1h ..).2 ⟨b1,b2,ih (seen++[b]) a b3 p1 (by rw[List.append_assoc];exact p2)⟩
      exact key out [] _ ho q1 (by simpa using q2)
     ·exact ho
theorem z8o (text:Bs) (out:List Tok) (h:∀ t ∈ out,q34 t):∀ t ∈ flush text out,q34 t:=by
 unfold flush;simp only
 split
 ·exact h
 ·rename_i hn
  intro t ht
  rcases List.mem_append.1 ht with q | q
  ·exact h t q
  ·rw[List.mem_singleton.1 q]
   exact .inl ⟨rfl,rfl,rfl,hn⟩
theorem j6l (r:Bs) (t:Tok) (rest:Bs) (h:hereAt r=.tag t rest):q34 t:=by
 unfold hereAt at h
 split at h
 ·unfold z6n at h
  simp only at h
  split at h
  ·cases h
  ·rename_i l rest' ha
   split at h
   ·rename_i hn
    injection h with h1 h2;rw[← h1];exact .inr (.inl ⟨rfl,hn,q3l _ _ [] l rest' rfl ha,rfl⟩)
   ·cases h
 ·split at h
  ·unfold z3q at h
   simp only at h
   split at h
   ·cases h
   ·split at h
    ·rename_i hn
     injection h with h1 h2;rw[← h1];exact .inr (.inr ⟨rfl,hn,rfl,rfl⟩)
    ·cases h
  ·split at h
   ·unfold z1v at h
    split at h <;> cases h
   ·split at h
    ·unfold z1v at h
     split at h <;> cases h
    ·cases h
theorem z5s:∀ (n:Nat) (r text:Bs) (out:List Tok),(∀ t ∈ out,q34 t)→∀ t ∈ z5a n r text out,q34 t
 | 0,r,text,out,h=>by
  have e:z5a 0 r text out=flush text out:=by unfold z5a;rfl
  rw[e];exact z8o text out h
 | n + 1,[],text,out,h=>by
  have e:z5a (n + 1) [] text out=flush text out:=by unfold z5a;rfl
  rw[e];exact z8o text out h
 | n + 1,c :: t,text,out,h=>by
  unfold z5a
  split
  ·split
   ·exact z5s n _ _ out h
   ·exact z8o _ out h
   ·exact z5s n _ _ out h
   ·rename_i k rest hk
    refine z5s n _ _ _ (fun x q=>?_)
    rcases List.mem_append.1 q with q | q
    ·exact z8o text out h x q
    ·rw[List.mem_singleton.1 q]
     exact j6l _ k rest hk
  ·exact z5s n _ _ out h
theorem toks_ok (s:Bs):∀ t ∈ toks s,q34 t:=z5s _ _ _ _ (fun _ q=>by cases q)
theorem z0w:∀ (t:Bs) (n:Nat),(put t).length≤n→takeN n (put t)=(t,true)
 | [],n,_=>by cases n <;> rfl
 | c :: t,n,h=>by
  have e:put (c :: t)=esc c++put t:=rfl;rw[e,List.length_append] at h;rw[e]
  by_cases h1:c=38
  ·subst h1
   have e1:esc 38=[38,97,109,112,59]:=rfl;rw[e1] at h ⊢
   cases n with
   | zero=>simp at h
   | succ n =>
    have ih:=z0w t n (by simp at h;omega);have hs:sign ([38,97,109,112,59]++put t)=([38],5,true):=by simp[sign,named,Mg.pre]
    show takeN (n + 1) (38 :: ([97,109,112,59]++put t))=_;rw[takeN,if_pos rfl];have hs':sign (38 :: ([97,109,112,59]++put t))=([38],5,true):=hs;simp only [hs'];show ([38]++(takeN n (put t)).1,true && (takeN n (put t)).2)=_;rw[ih];rfl
  by_cases h2:c=60
  ·subst h2
   have e1:esc 60=[38,108,116,59]:=rfl;rw[e1] at h ⊢
   cases n with
   | zero=>simp at h
   | succ n =>
    have ih:=z0w t n (by simp at h;omega);have hs:sign (38 :: ([108,116,59]++put t))=([60],4,true):=by simp[sign,named,Mg.pre]
    show takeN (n + 1) (38 :: ([108,116,59]++put t))=_;rw[takeN,if_pos rfl];simp only [hs];show ([60]++(takeN n (put t)).1,true && (takeN n (put t)).2)=_;rw[ih];rfl
  by_cases h3:c=62
  ·subst h3
   have e1:esc 62=[38,103,116,59]:=rfl;rw[e1] at h ⊢
   cases n with
   | zero=>simp at h
   | succ n =>
    have ih:=z0w t n (by simp at h;omega);have hs:sign (38 :: ([103,116,59]++put t))=([62],4,true):=by simp[sign,named,Mg.pre]
    show takeN (n + 1) (38 :: ([103,116,59]++put t))=_;rw[takeN,if_pos rfl];simp only [hs];show ([62]++(takeN n (put t)).1,true && (takeN n (put t)).2)=_;rw[ih];rfl
  by_cases h4:c=34
  ·subst h4
   have e1:esc 34=[38,113,117,111,116,59]:=rfl;rw[e1] at h ⊢
   cases n with
   | zero=>simp at h
   | succ n =>
    have ih:=z0w t n (by simp at h;omega);have hs:sign (38 :: ([113,117,111,116,59]++put t))=([34],6,true):=by simp[sign,named,Mg.pre]
    show takeN (n + 1) (38 :: ([113,117,111,116,59]++put t))=_;rw[takeN,if_pos rfl];simp only [hs];show ([34]++(takeN n (put t)).1,true && (takeN n (put t)).2)=_;rw[ih];rfl
  ·have e1:esc c=[c]:=by unfold esc;rw[if_neg h1,if_neg h2,if_neg h3,if_neg h4]
   rw[e1] at h ⊢
   cases n with
   | zero=>simp at h
   | succ n =>
    have ih:=z0w t n (by simp at h;omega);show takeN (n + 1) (c :: put t)=_;rw[takeN,if_neg h1];simp only [ih]
theorem q3k (t:Bs):take (put t)=(t,true):=z0w t _ (Nat.le_refl _)
theorem put_mem (t:Bs):∀ x ∈ put t,x ≠ 34∧x ≠ 60:=by
 intro x hx;obtain⟨c,_,hc⟩:=List.mem_flatMap.1 hx;clear hx;unfold esc at hc
 split at hc
 ·revert x;decide
 ·split at hc
  ·revert x;decide
  ·split at hc
   ·revert x;decide
   ·split at hc
    ·revert x;decide
    ·rename_i h1 h2 h3 h4
     rw[List.mem_singleton.1 hc];exact⟨h4,h2⟩
theorem q7f (a:At) (l:List At):written (a :: l)=32 :: (a.n++(61 :: 34 :: (put a.v++(34 :: written l)))):=by
 unfold written;rw[List.flatMap_cons];simp
theorem z4s:∀ l:List At,l.length≤(written l).length
 | []=>Nat.zero_le _
 | a :: l=>by
  have:=z4s l;rw[q7f];simp;omega
end Mk
namespace Mk
open Fo
structure Ln where
 ti:Bs
 li:Bs
 dt:Bs
 wo:Bs
end Mk
namespace Fd
abbrev Bs:=List UInt8
def lpB (y:Int):Bool:=decide (y % 4=0∧¬ y % 100=0∨y % 400=0)
def lp (y:Int):Int:=if lpB y then 1 else 0
theorem lp_01 (y:Int):0≤lp y∧lp y≤1:=by unfold lp;split <;> omega
def ahead (y:Int):Int:=if y=0 then 0 else 365 * (y - 1 + 1) + (y - 1) / 4 - (y - 1) / 100 + (y - 1) / 400 + 1
theorem j02 (y:Int) (h:1≤y):ahead (y + 1) - ahead y=365 + lp y:=by
 unfold ahead lp lpB;rw[if_neg (by omega),if_neg (by omega)]
 by_cases q:y % 4=0∧¬ y % 100=0∨y % 400=0
 ·rw[if_pos (decide_eq_true q)];omega
 ·rw[if_neg (by rw[decide_eq_false q];simp)];omega
def long (y m:Int):Int:=if m=2 then 28 + lp y else if m=4∨m=6∨m=9∨m=11 then 30 else 31
def rest (y m:Int):Int :=
 if m=1 then 365 + lp y else if m=2 then 334 + lp y else if m=3 then 306 else if m=4 then 275 else if m=5 then 245 else if m=6 then 214 else if m=7 then 184
 else if m=8 then 153 else if m=9 then 122 else if m=10 then 92 else if m=11 then 61 else if m=12 then 31 else 0
theorem rest_step (y m:Int) (h1:1≤m) (h2:m≤12):rest y m=long y m + rest y (m + 1):=by
 have h:m=1∨m=2∨m=3∨m=4∨m=5∨m=6∨m=7∨m=8∨m=9∨m=10∨m=11∨m=12:=by omega
 rcases h with rfl | rfl | rfl | rfl | rfl | rfl | rfl | rfl | rfl | rfl | rfl | rfl <;> (unfold rest long;simp;try omega)
theorem j6b (y m:Int):28≤long y m∧long y m≤31:=by
 have:=lp_01 y;unfold long
 split
 ·omega
 split <;> omega
def yrs:Nat→Int→Int→Int × Int
 | 0,y,d=>(y,d)
 | n + 1,y,d=>if 365 + lp y≤d then yrs n (y + 1) (d - (365 + lp y)) else (y,d)
def mths:Nat→Int→Int→Int→Int × Int
 | 0,_,m,d=>(m,d)
 | n + 1,y,m,d=>if long y m≤d then mths n y (m + 1) (d - long y m) else (m,d)
theorem j8h:∀ (n:Nat) (y d:Int),d < 365 * n→0≤d→0≤(yrs n y d).2∧(yrs n y d).2 < 365 + lp (yrs n y d).1∧y≤(yrs n y d).1∧(yrs n y d).1≤y + n
 | 0,y,d,h,h0=>by simp at h;omega
 | n + 1,y,d,h,h0=>by
  have:=lp_01 y;rw[yrs]
  split
  ·obtain⟨a,b,c,e⟩:=j8h n (y + 1) (d - (365 + lp y)) (by omega) (by omega)
   exact⟨a,b,by omega,by omega⟩
  ·exact⟨h0,by simp only;omega,by simp only;omega,by simp only;omega⟩
theorem q7y:∀ (n:Nat) (y d:Int),1≤y→ahead (yrs n y d).1 + (yrs n y d).2=ahead y + d
 | 0,y,d,_=>rfl
 | n + 1,y,d,h=>by
  have h2:=j02 y h;rw[yrs]
  split
  ·rw[q7y n (y + 1) _ (by omega)];omega
  ·rfl
theorem q8n:∀ (n:Nat) (y m d:Int),1≤m→m + n=13→0≤d→d < rest y m→1≤(mths n y m d).1∧(mths n y m d).1≤12∧0≤(mths n y m d).2∧(mths n y m d).2 < long y (mths n y m d).1
 | 0,y,m,d,h1,h2,h3,h4=>by
  have:m=13:=by omega
  rw[this] at h4;have e:rest y 13=0:=rfl;omega
 | n + 1,y,m,d,h1,h2,h3,h4=>by
  have hr:=rest_step y m h1 (by omega);rw[mths]
  split
  ·exact q8n n y (m + 1) _ (by omega) (by omega) (by omega) (by omega)
  ·exact⟨h1,by simp only;omega,h3,by simp only;omega⟩
def digs:Nat→Nat→Bs
 | 0,_=>[]
 | k + 1,n=>digs k (n / 10)++[UInt8.ofNat (48 + n % 10)]
def Y2 (at_:Int):Int:=(yrs 200 1970 (at_ / 86400)).1
def dayOf (at_:Int):Int:=(yrs 200 1970 (at_ / 86400)).2
def z5r (at_:Int):Int:=(mths 12 (Y2 at_) 1 (dayOf at_)).1
def z3t (at_:Int):Int:=(mths 12 (Y2 at_) 1 (dayOf at_)).2
def Y5 (at_:Int):Bs :=
 digs 4 (Y2 at_).toNat++[45]++digs 2 (z5r at_).toNat++[45]++digs 2 (z3t at_ + 1).toNat++[84]++digs 2 (at_ % 86400 / 3600).toNat++[58]++digs 2 (at_ % 86400 / 60 % 60).toNat++[58]++digs 2 (at_ % 86400 % 60).toNat++[90]
theorem z7m (at_:Int) (h0:0≤at_) (h1:at_≤4102444799):1970≤Y2 at_∧Y2 at_≤2099∧0≤dayOf at_∧dayOf at_ < 365 + lp (Y2 at_):=by
 obtain⟨a,b,c,e⟩:=j8h 200 1970 (at_ / 86400) (by omega) (by omega);have hs:=q7y 200 1970 (at_ / 86400) (by omega);unfold Y2 dayOf;refine⟨c,?_,a,b⟩;generalize (yrs 200 1970 (at_ / 86400)).1=y at *;generalize (yrs 200 1970 (at_ / 86400)).2=d at *;unfold ahead at hs;rw[if_neg (by omega),if_neg (by omega)] at hs;omega
theorem q1i (at_:Int) (h0:0≤at_) (h1:at_≤4102444799):1≤z5r at_∧z5r at_≤12∧0≤z3t at_∧z3t at_ < long (Y2 at_) (z5r at_):=by
 obtain⟨_,_,a,b⟩:=z7m at_ h0 h1
 exact q8n 12 (Y2 at_) 1 (dayOf at_) (by omega) (by omega) a (by show _ < 365 + lp _;omega)
theorem z0r:∀ (k n:Nat),(digs k n).length=k
 | 0,_=>rfl
 | k + 1,n=>by rw[digs,List.length_append,z0r k];rfl
theorem date_len (at_:Int):(Y5 at_).length=20:=by
 unfold Y5;simp[z0r]
structure En where
 id:Bs
 ti:Bs
 li:Bs
 at_:Int
 ht:Bs
 deriving DecidableEq
def q1h (s:Bs):Bool:=decide (s.length≤3000) && (Mk.z8r (Mk.build (Mk.toks s)) && (Mk.bytes (Mk.flat (Mk.build (Mk.toks s))) == s))
def z03 (x:En):Int :=
 if x.id=[] then 1
 else if 60 < x.id.length∨3000 < x.ti.length∨3000 < x.li.length∨3000 < x.ht.length then 2
 else if x.at_ < 0∨4102444799 < x.at_ then 3
 else if (x.li ≠ []∧Mg.isSafe x.li=false)∨q1h x.ht=false then 4 else 0
def cmpB:Bs→Bs→Int
 | [],[]=>0
 | [],_ :: _=>-1
 | _ :: _,[]=>1
 | a :: s,b :: t=>if a=b then cmpB s t else if a < b then -1 else 1
def ordE (a b:En):Int:=if a.at_=b.at_ then cmpB a.id b.id else b.at_ - a.at_
structure Sh where
 es:List En
 rd:List Bs
 deriving DecidableEq
def z1e (l:List En):Prop:=(∀ x ∈ l,z03 x=0)∧l.Pairwise (fun a b=>a.id ≠ b.id)∧l.Pairwise (fun a b=>ordE a b < 0)
def z81 (l:List Bs):Prop:=(∀ s ∈ l,s ≠ []∧s.length≤60)∧l.Pairwise (fun a b=>cmpB a b < 0)
theorem z1e.nil:z1e []:=⟨fun _ h=>(by cases h),List.Pairwise.nil,List.Pairwise.nil⟩
theorem z1e.sub {l m:List En} (h:z1e l) (hs:m.Sublist l):z1e m:=⟨fun x hx=>h.1 x (hs.subset hx),h.2.1.sublist hs,h.2.2.sublist hs⟩
theorem z81.sub {l m:List Bs} (h:z81 l) (hs:m.Sublist l):z81 m:=⟨fun x hx=>h.1 x (hs.subset hx),h.2.sublist hs⟩
end Fd
