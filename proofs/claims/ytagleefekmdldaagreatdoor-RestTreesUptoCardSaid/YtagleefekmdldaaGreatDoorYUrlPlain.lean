/- Plain law of links. -/
set_option linter.unusedVariables false
set_option linter.unusedSimpArgs false
namespace Mg
abbrev Bs:=List UInt8

def pre (p l:Bs):Bool:=l.take p.length == p
theorem q1p (p l:Bs) (h:l.length < p.length):pre p l=false:=by
 unfold pre;rw[beq_eq_false_iff_ne];intro e;have:=congrArg List.length e;rw[List.length_take] at this;omega
def isLet (c:UInt8):Bool:=(97≤c && c≤122) || (65≤c && c≤90)
def Y4 (c:UInt8):Bool:=48≤c && c≤57
def z5x (c:UInt8):Bool:=Y4 c || c == 43 || c == 45 || c == 46
def z9u (i:Nat) (c:UInt8):Bool:=isLet c || (decide (0 < i) && z5x c)
def z2p:Nat→Bs→Nat
 | _,[]=>0
 | i,c :: t=>if c == 58 then i else if z9u i c then z2p (i + 1) t else 0
def z1j (s:Bs):Nat:=z2p 0 s

theorem j2k (s:Bs):∀ k,z2p k s=0∨∃ j,z2p k s=k + j∧s[j]? = some 58:=by
 induction s with
 | nil=>intro k;exact .inl rfl
 | cons c t ih =>
  intro k;unfold z2p
  by_cases h:c == 58
  ·rw[if_pos h]
   exact .inr ⟨0,rfl,by simpa using h⟩
  ·rw[if_neg h]
   by_cases ha:z9u k c=true
   ·rw[if_pos ha]
    rcases ih (k + 1) with h0 | ⟨j,hj,hs⟩
    ·exact .inl h0
    ·exact .inr ⟨j + 1,by rw[hj];omega,by simpa using hs⟩
   ·rw[if_neg ha]
    exact .inl rfl
theorem q9q (s:Bs) (h:z1j s ≠ 0):s[z1j s]? = some 58:=by
 rcases j2k s 0 with h0 | ⟨j,hj,hs⟩
 ·exact absurd h0 h
 ·unfold z1j;rw[hj,Nat.zero_add];exact hs
def z1p (c:UInt8):Bool:=c == 58 || c == 47 || c == 63 || c == 35
def z9r:Nat→Nat→Bs→Bool
 | 0,_,_=>true
 | _ + 1,_,[]=>true
 | n + 1,i,c :: t=>z9u i c && z9r n (i + 1) t
theorem j2j (i:Nat) (c:UInt8) (h:z1p c=true):z9u i c=false:=by
 unfold z1p at h;simp only [Bool.or_eq_true,beq_iff_eq] at h
 rcases h with ((h | h) | h) | h <;> subst h <;> cases i <;> simp[z9u,isLet,z5x,Y4] <;> decide
theorem j2l (s:Bs):∀ k,z2p k s=if s[s.findIdx z1p]? = some 58∧z9r (s.findIdx z1p) k s=true then k + s.findIdx z1p else 0:=by
 induction s with
 | nil=>intro k;simp[z2p]
 | cons c t ih =>
  intro k;unfold z2p
  by_cases h:z1p c=true
  ·rw[List.findIdx_cons]
   simp only [h,cond_true,List.getElem?_cons_zero]
   by_cases h58:c=58
   ·simp[h58,z9r]
   ·simp[h58,j2j k c h]
  ·rw[List.findIdx_cons]
   simp only [h,cond_false,List.getElem?_cons_succ,z9r];have h58:¬ c=58:=by intro e;subst e;simp[z1p] at h
   rw[ih (k + 1)]
   by_cases ha:z9u k c=true
   ·simp only [h58,ha,beq_iff_eq,if_true,if_false,Bool.true_and,Nat.add_assoc,Nat.add_comm 1]
   ·simp[h58,ha]
theorem schOf_eq (s:Bs):z1j s=if s[s.findIdx z1p]? = some 58∧z9r (s.findIdx z1p) 0 s=true then s.findIdx z1p else 0:=by
 have:=j2l s 0
 simpa [z1j] using this
structure U where
 (sch au pa qu fr:Bs)
 (hs ha hq hf:Bool)
 deriving DecidableEq

def nilU:U:=⟨[],[],[],[],[],false,false,false,false⟩

def q4u (c:UInt8):Bool:=c == 47 || c == 63 || c == 35
def z3j (c:UInt8):Bool:=c == 63 || c == 35
def q1u (c:UInt8):Bool:=c == 35
def upto (p:UInt8→Bool) (s:Bs):Bs:=s.takeWhile (fun c=>!p c)
def past (p:UInt8→Bool) (s:Bs):Bs:=s.dropWhile (fun c=>!p c)
theorem q6e (p:UInt8→Bool) (s:Bs):past p s=[]∨∃ c t,past p s=c :: t∧p c=true:=by
 unfold past
 induction s with
 | nil=>simp
 | cons c t ih =>
  rw[List.dropWhile_cons]
  by_cases h:p c=true
  ·simp[h]
  ·simpa [h] using ih

def isAt (c:UInt8):Bs→Bool | d :: _=>d == c | []=>false
def sl2 (s:Bs):Bool:=s.take 2 == [47,47]

def z0q (s:Bs):Bs:=if z1j s=0 then s else s.drop (z1j s + 1)
def z2z (r:Bs):Bs:=if sl2 r then past q4u (r.drop 2) else r
def z1w (r:Bs):Bs:=if isAt 63 r then past q1u r.tail else r
def split (s:Bs):U :=
 let r1:=z0q s
 let r2:=z2z r1
 let r3:=past z3j r2
 let r4:=z1w r3
 {sch:=if z1j s=0 then [] else s.take (z1j s),hs:=decide (z1j s ≠ 0),
  au:=if sl2 r1 then upto q4u (r1.drop 2) else [],ha:=sl2 r1,
  pa:=upto z3j r2,
  qu:=if isAt 63 r3 then upto q1u r3.tail else [],hq:=isAt 63 r3,
  fr:=r4.tail,hf:=isAt 35 r4 }

def join (u:U):Bs :=
 (if u.hs then u.sch++[58] else [])++(if u.ha then [47,47]++u.au else [])++u.pa++(if u.hq then [63]++u.qu else [])++(if u.hf then [35]++u.fr else [])

theorem r4_form (r:Bs):(∀ c t,r=c :: t→z3j c=true)→z1w r=[]∨isAt 35 (z1w r)=true:=by
 intro h;unfold z1w
 by_cases h63:isAt 63 r=true
 ·rw[if_pos h63]
  rcases q6e q1u r.tail with h0 | ⟨c,t,e,hc⟩
  ·exact .inl h0
  ·right;rw[e];simpa [isAt,q1u] using hc
 ·rw[if_neg h63]
  cases r with
  | nil=>exact .inl rfl
  | cons c t =>
   right
   have:=h c t rfl;simp only [z3j,Bool.or_eq_true,beq_iff_eq] at this
   rcases this with e | e
   ·subst e;exact absurd rfl h63
   ·subst e;rfl

def V8 (i:Bs):Bool × Bs × Bs :=
 if i.take 3=[46,46,47] then (false,i.drop 3,[])
 else if i.take 2=[46,47] then (false,i.drop 2,[])
 else if i.take 3=[47,46,47] then (false,i.drop 2,[])
 else if i=[47,46] then (false,[47],[])
 else if i.take 4=[47,46,46,47] then (true,i.drop 3,[])
 else if i=[47,46,46] then (true,[47],[])
 else if i=[46]∨i=[46,46] then (false,[],[])
 else (false,i.tail.dropWhile (· != 47),i.take 1++i.tail.takeWhile (· != 47))
def bk (o:Bs):Bs:=(o.reverse.dropWhile (· != 47)).tail.reverse
def q40:Nat→Bs→Bs→Bs
 | 0,_,o=>o
 | n + 1,i,o=>if i=[] then o else q40 n (V8 i).2.1 ((if (V8 i).1 then bk o else o)++(V8 i).2.2)
def dots (s:Bs):Bs:=q40 s.length s []

theorem z6c (i:Bs) (h:i ≠ []):(V8 i).2.1.length < i.length:=by
 have hl:0 < i.length:=List.length_pos_iff.2 h;unfold V8
 split
 ·simp only [List.length_drop];omega
 split
 ·simp only [List.length_drop];omega
 split
 ·simp only [List.length_drop];omega
 split
 ·rename_i e;subst e;simp
 split
 ·simp only [List.length_drop];omega
 split
 ·rename_i e;subst e;simp
 split
 ·simpa using hl
 ·have:=(List.dropWhile_suffix (l:=i.tail) (fun c:UInt8=>c != 47)).length_le
  simp at this;show (i.tail.dropWhile (fun c:UInt8=>c != 47)).length < _;omega
theorem j1b (n:Nat):∀ m i o,i.length≤n→i.length≤m→q40 n i o=q40 m i o:=by
 induction n with
 | zero =>
  intro m i o h _;have:i=[]:=List.eq_nil_of_length_eq_zero (by omega);subst this
  cases m <;> simp[q40]
 | succ n ih =>
  intro m i o h hm
  by_cases hi:i=[]
  ·subst hi;cases m <;> simp[q40]
  ·have:=z6c i hi
   cases m with
   | zero=>exfalso;exact hi (List.eq_nil_of_length_eq_zero (by omega))
   | succ m =>
    simp only [q40,hi,if_false];exact ih m _ _ (by omega) (by omega)
def q41 (i o:Bs):Bs:=q40 i.length i o
theorem j4g (o:Bs):q41 [] o=o:=rfl
theorem q2t (i o:Bs) (h:i ≠ []):q41 i o=q41 (V8 i).2.1 ((if (V8 i).1 then bk o else o)++(V8 i).2.2):=by
 have hl:=z6c i h;unfold q41;obtain⟨n,hn⟩:∃ n,i.length=n + 1:=⟨i.length - 1,by omega⟩;rw[hn];simp only [q40,h,if_false];exact j1b _ _ _ _ (by omega) (Nat.le_refl _)
theorem dots_ind (Q:Bs→Bs→Prop) (h0:∀ o,Q [] o) (h1:∀ i o,i ≠ []→Q (V8 i).2.1 ((if (V8 i).1 then bk o else o)++(V8 i).2.2)→Q i o):∀ i o,Q i o:=by
 have:∀ n i o,i.length≤n→Q i o:=by
  intro n
  induction n with
  | zero =>
   intro i o h;have:i=[]:=List.eq_nil_of_length_eq_zero (by omega);subst this;exact h0 o
  | succ n ih =>
   intro i o h
   by_cases hi:i=[]
   ·subst hi;exact h0 o
   ·have:=z6c i hi
    exact h1 i o hi (ih _ _ (by omega))
 exact fun i o=>this _ i o (Nat.le_refl _)

theorem bk_len (o:Bs):(bk o).length≤o.length:=by
 unfold bk;have:=(List.dropWhile_suffix (l:=o.reverse) (fun c:UInt8=>c != 47)).length_le;simp at this ⊢;omega
theorem j4c (i:Bs) (_h:i ≠ []):(V8 i).2.1.length + (V8 i).2.2.length≤i.length:=by
 have e:(i.tail.takeWhile (fun c:UInt8=>c != 47)).length + (i.tail.dropWhile (fun c:UInt8=>c != 47)).length=i.tail.length:=by
  rw[← List.length_append,List.takeWhile_append_dropWhile]
 have ht:i.tail.length=i.length - 1:=List.length_tail;have hp:0 < i.length:=List.length_pos_iff.2 _h;unfold V8
 split
 ·simp
 split
 ·simp
 split
 ·simp
 split
 ·rename_i e;subst e;simp
 split
 ·simp
 split
 ·rename_i e;subst e;simp
 split
 ·simp
 ·simp only [List.length_append,List.length_take]
  omega
theorem j4f:∀ i o,(q41 i o).length≤i.length + o.length:=by
 refine dots_ind (fun i o=>(q41 i o).length≤i.length + o.length) (fun o=>by simp[j4g]) ?_;intro i o hi h;rw[q2t i o hi];refine Nat.le_trans h ?_;have h1:=j4c i hi;have h2:=bk_len o;rw[List.length_append]
 split <;> omega
theorem q42 (s:Bs):(dots s).length≤s.length:=by
 have:=j4f s []
 simpa [dots,q41] using this

def q6a (p:Bs):Prop:=p ≠ []∧(47:UInt8) ∉ p.tail
def z15 (p:Bs):Prop:=∃ t,p=47 :: t
def z5u:List Bs→Prop
 | []=>True
 | p :: ps=>q6a p∧∀ q ∈ ps,q6a q∧z15 q
theorem q6b (o:List Bs) (p:Bs) (h:z5u o) (hp:q6a p) (hs:o ≠ []→z15 p):z5u (o++[p]):=by
 cases o with
 | nil=>exact⟨hp,by simp⟩
 | cons a t =>
  refine⟨h.1,fun q hq=>?_⟩
  rcases List.mem_append.1 hq with h1 | h1
  ·exact h.2 q h1
  ·have:q=p:=by simpa using h1
   subst this;exact⟨hp,hs (by simp)⟩
theorem z9t (o:List Bs) (h:z5u o):z5u o.dropLast:=by
 cases o with
 | nil=>exact h
 | cons a t =>
  cases t with
  | nil=>trivial
  | cons b t=>exact⟨h.1,fun q hq=>h.2 q ((List.dropLast_sublist _).subset hq)⟩
theorem z9d (l r:Bs) (h:(47:UInt8) ∉ l):(l++r).dropWhile (· != 47)=r.dropWhile (· != 47):=by
 induction l with
 | nil=>rfl
 | cons c t ih =>
  have hc:c ≠ 47:=fun e=>h (by simp[e])
  have ht:(47:UInt8) ∉ t:=fun e=>h (by simp[e])
  simp[hc,ih ht]
theorem j3t (o p:Bs) (hp:q6a p) (hs:o=[]∨z15 p):bk (o++p)=o:=by
 obtain⟨hne,hno⟩:=hp
 match p,hne with
 | c :: t,_ =>
  have ht:(47:UInt8) ∉ t.reverse:=by simpa using hno
  unfold bk;rw[show o++c :: t=o++[c]++t from by simp,List.reverse_append,z9d _ _ ht,List.reverse_append]
  by_cases hc:c=47
  ·subst hc
   simp
  ·rcases hs with rfl | ⟨u,hu⟩
   ·simp[hc]
   ·injection hu with hu _;exact absurd hu hc
theorem bk_parts (o:List Bs) (h:z5u o):bk o.flatten=o.dropLast.flatten:=by
 rcases List.eq_nil_or_concat o with rfl | ⟨l,p,rfl⟩
 ·rfl
 ·simp only [List.concat_eq_append] at h ⊢
  rw[List.dropLast_concat,List.flatten_append];simp only [List.flatten_cons,List.flatten_nil,List.append_nil]
  cases l with
  | nil=>exact j3t _ _ h.1 (.inl rfl)
  | cons a t =>
   have:=h.2 p (by simp);exact j3t _ _ this.1 (.inr this.2)

def z7q (i:Bs) (o:List Bs):List Bs:=(if (V8 i).1 then o.dropLast else o)++(if (V8 i).2.2=[] then [] else [(V8 i).2.2])
theorem z8z (l:Bs):(47:UInt8) ∉ l.takeWhile (· != 47):=by
 induction l with
 | nil=>simp
 | cons c t ih =>
  rw[List.takeWhile_cons]
  by_cases hc:c=47
  ·simp[hc]
  ·simp only [bne_iff_ne,ne_eq,hc,not_false_eq_true,if_true,List.mem_cons,not_or]
   exact⟨fun e=>hc e.symm,ih⟩
theorem q29 (l:Bs):l.dropWhile (· != 47)=[]∨z15 (l.dropWhile (· != 47)):=by
 induction l with
 | nil=>exact .inl rfl
 | cons c t ih =>
  rw[List.dropWhile_cons]
  by_cases hc:c=47
  ·right;simp[hc,z15]
  ·simpa [hc] using ih
theorem q7o (i:Bs) (hi:i ≠ []):((V8 i).2.2=[]∨q6a (V8 i).2.2∧(V8 i).1=false∧((z15 i→z15 (V8 i).2.2)))∧((z15 i∨(V8 i).2.2 ≠ [])→(V8 i).2.1=[]∨z15 (V8 i).2.1)∧((V8 i).1=true→z15 i):=by
 obtain⟨c,t,rfl⟩:=List.exists_cons_of_ne_nil hi;unfold V8
 split
 ·rename_i e
  refine⟨.inl rfl,?_,by simp⟩;rintro (⟨u,hu⟩ | h)
  ·injection hu with hu _;subst hu;simp at e
  ·exact absurd rfl h
 split
 ·rename_i e
  refine⟨.inl rfl,?_,by simp⟩;rintro (⟨u,hu⟩ | h)
  ·injection hu with hu _;subst hu;simp at e
  ·exact absurd rfl h
 split
 ·rename_i e
  refine⟨.inl rfl,fun _=>.inr ?_,by simp⟩
  match t,e with
  | [a,b],e=>simp at e;simp[e,z15]
  | a :: b :: d :: t,e=>simp at e;simp[e,z15]
 split
 ·exact⟨.inl rfl,fun _=>.inr ⟨[],rfl⟩,by simp⟩
 split
 ·rename_i e
  refine⟨.inl rfl,fun _=>.inr ?_,fun _=>?_⟩
  ·match t,e with
   | [a,b,d],e=>simp at e;simp[e,z15]
   | a :: b :: d :: f :: t,e=>simp at e;simp[e,z15]
  ·simp at e;exact⟨t,by rw[e.1]⟩
 split
 ·rename_i e
  exact⟨.inl rfl,fun _=>.inr ⟨[],rfl⟩,fun _=>by rw[e];exact⟨_,rfl⟩⟩
 split
 ·exact⟨.inl rfl,fun _=>.inl rfl,by simp⟩
 ·refine⟨.inr ⟨⟨by simp,?_⟩,rfl,?_⟩,fun _=>q29 _,by simp⟩
  ·simpa using z8z t
  ·rintro ⟨u,hu⟩;injection hu with hu _;subst hu;exact⟨_,rfl⟩

theorem dpart_ok (i:Bs) (o:List Bs) (hi:i ≠ []) (ho:z5u o) (hs:o ≠ []→z15 i) :
  (z7q i o).flatten=(if (V8 i).1 then bk o.flatten else o.flatten)++(V8 i).2.2∧z5u (z7q i o)∧(z7q i o ≠ []→(V8 i).2.1=[]∨z15 (V8 i).2.1):=by
 obtain⟨h1,h2,h3⟩:=q7o i hi;unfold z7q;refine⟨?_,?_,?_⟩
 ·rw[List.flatten_append]
  have e:(if (V8 i).2.2=[] then [] else [(V8 i).2.2]).flatten=(V8 i).2.2:=by
   by_cases h0:(V8 i).2.2=[] <;> simp[h0]
  rw[e]
  by_cases hb:(V8 i).1=true
  ·simp only [hb,if_true]
   rw[bk_parts o ho]
  ·simp only [hb]
   rfl
 ·rcases h1 with h1 | ⟨hp,hb,hsl⟩
  ·simp only [h1,if_true,List.append_nil]
   split
   ·exact z9t o ho
   ·exact ho
  ·simp only [hb,hp.1,if_false]
   exact q6b o _ ho hp (fun h=>hsl (hs h))
 ·intro hne
  by_cases h0:(V8 i).2.2=[]
  ·simp only [h0,if_true,List.append_nil] at hne
   apply h2
   left
   by_cases hb:(V8 i).1=true
   ·exact h3 hb
   ·simp only [hb] at hne;exact hs hne
  ·exact h2 (.inr h0)

def j4e (p:Bs):Prop:=p ≠ [46]∧p ≠ [46,46]∧p ≠ [47,46]∧p ≠ [47,46,46]
def z6t (b u:U):Bs:=if b.ha && b.pa.isEmpty then 47 :: u.pa else (b.pa.reverse.dropWhile (· != 47)).reverse++u.pa
def resU (b u:U):U :=
 if u.hs then { u with pa:=dots u.pa }
 else if u.ha then { u with sch:=b.sch,hs:=true,pa:=dots u.pa }
 else if u.pa=[] then { u with sch:=b.sch,hs:=true,au:=b.au,ha:=b.ha,pa:=dots b.pa,qu:=if u.hq then u.qu else b.qu,hq:=if u.hq then true else b.hq }
 else { u with sch:=b.sch,hs:=true,au:=b.au,ha:=b.ha,pa:=dots (if isAt 47 u.pa then u.pa else z6t b u) }
def q33 (u:U):Bool:=split (join u) == u
def res (base s:Bs):Option Bs :=
 let t:=resU (split base) (split s)
 if q33 t then some (join t) else none

def low (c:UInt8):UInt8:=if 65≤c && c≤90 then c + 32 else c
def fold (s:Bs):Bs:=s.map low
def q4s (w:Bs):Bool:=w == [104,116,116,112] || w == [104,116,116,112,115] || w == [109,97,105,108,116,111]
def isSafe (s:Bs):Bool:=let t:=s.filter (fun c=>decide (32 < c));q4s (fold (t.take (z1j t)))

theorem z0h (p:UInt8→Prop) [DecidablePred p] (h:(List.range 256).all (fun n=>decide (p (UInt8.ofNat n)))=true):∀ c,p c:=by
 intro c;have hc:=List.all_eq_true.1 h c.toNat (by have:=c.toNat_lt;simp;omega)
 simpa using hc
theorem q7x (c:UInt8):(low c).toNat=if 65≤c.toNat∧c.toNat≤90 then c.toNat + 32 else c.toNat:=z0h (fun c=>(low c).toNat=if 65≤c.toNat∧c.toNat≤90 then c.toNat + 32 else c.toNat) (by decide +kernel) c
theorem j5f (c:UInt8):isLet (low c)=isLet c:=z0h (fun c=>isLet (low c)=isLet c) (by decide +kernel) c
theorem q9a (c:UInt8):z5x (low c)=z5x c:=z0h (fun c=>z5x (low c)=z5x c) (by decide +kernel) c
theorem low_58 (c:UInt8):(low c == 58)=(c == 58):=z0h (fun c=>(low c == 58)=(c == 58)) (by decide +kernel) c
theorem q6r (s:Bs):∀ k,z2p k (fold s)=z2p k s:=by
 induction s with
 | nil=>intro k;rfl
 | cons c t ih =>
  intro k;show z2p k (low c :: fold t)=_;unfold z2p;simp only [z9u,low_58,j5f,q9a,ih];rfl
theorem j2m (s:Bs):z1j (fold s)=z1j s:=q6r s 0
theorem q7t (s:Bs):isSafe s=let t:=fold (s.filter (fun c=>decide (32 < c)));q4s (t.take (z1j t)):=by
 simp only [isSafe,j2m];simp only [fold,List.map_take]
theorem q1g (c:UInt8):isLet c=true↔(97≤(c.toNat:Int)∧(c.toNat:Int)≤122)∨(65≤(c.toNat:Int)∧(c.toNat:Int)≤90):=z0h (fun c=>isLet c=true↔(97≤(c.toNat:Int)∧(c.toNat:Int)≤122)∨(65≤(c.toNat:Int)∧(c.toNat:Int)≤90)) (by decide +kernel) c
theorem q4w (c:UInt8):z5x c=true↔(48≤(c.toNat:Int)∧(c.toNat:Int)≤57)∨(c.toNat:Int)=43∨(c.toNat:Int)=45∨(c.toNat:Int)=46:=z0h (fun c=>z5x c=true↔(48≤(c.toNat:Int)∧(c.toNat:Int)≤57)∨(c.toNat:Int)=43∨(c.toNat:Int)=45∨(c.toNat:Int)=46) (by decide +kernel) c
end Mg
namespace Mk
abbrev Bs := List UInt8

def esc (c:UInt8):Bs := if c=38 then [38, 97, 109, 112, 59] else if c=60 then [38, 108, 116, 59] else if c=62 then [38, 103, 116, 59] else if c=34 then [38, 113, 117, 111, 116, 59] else [c]
def put (s:Bs):Bs := s.flatMap esc
def z1i (n:Nat):Nat := if 48 ≤ n ∧ n ≤ 57 then n - 48 else if 97 ≤ n ∧ n ≤ 122 then n - 87 else if 65 ≤ n ∧ n ≤ 90 then n - 55 else 99
def Y4 (b:Nat) (c:UInt8):Bool := decide (z1i c.toNat < b)
def value (b:Nat) (l:Bs):Nat := l.foldl (fun n c => n * b + z1i c.toNat) 0
def scalar (n:Nat):Bool := decide (0 < n) && decide (n ≤ 1114111) && (decide (n < 55296) || decide (57343 < n))
def utf8 (n:Nat):Bs :=
  if n < 128 then [UInt8.ofNat n]
  else if n < 2048 then [UInt8.ofNat (192 + n / 64), UInt8.ofNat (128 + n % 64)]
  else if n < 65536 then [UInt8.ofNat (224 + n / 4096), UInt8.ofNat (128 + n / 64 % 64), UInt8.ofNat (128 + n % 64)]
  else [UInt8.ofNat (240 + n / 262144), UInt8.ofNat (128 + n / 4096 % 64), UInt8.ofNat (128 + n / 64 % 64), UInt8.ofNat (128 + n % 64)]
def named (s:Bs):Option (UInt8 × Nat) :=
  if Mg.pre [38, 97, 109, 112, 59] s then some (38, 5)
  else if Mg.pre [38, 108, 116, 59] s then some (60, 4)
  else if Mg.pre [38, 103, 116, 59] s then some (62, 4)
  else if Mg.pre [38, 113, 117, 111, 116, 59] s then some (34, 6)
  else if Mg.pre [38, 97, 112, 111, 115, 59] s then some (39, 6)
  else none
def numAt (b most ahead:Nat) (s:Bs):Option (Nat × Nat) :=
  let r := s.drop ahead
  let ds := r.takeWhile (Y4 b)
  if ds.length=0∨most < ds.length then none
  else if Mg.isAt 59 (r.drop ds.length) then some (value b ds, ahead + ds.length + 1) else none
def numbered (s:Bs):Option (Nat × Nat) :=
  if Mg.pre [38, 35, 120] s then numAt 16 6 3 s
  else if Mg.pre [38, 35] s then numAt 10 7 2 s
  else none
def sign (s:Bs):Bs × Nat × Bool :=
  match named s with
  | some (c, n) => ([c], n, true)
  | none =>
    match numbered s with
    | none => ([38], 0, false)
    | some (p, n) => if scalar p then (utf8 p, n, true) else ([239, 191, 189], n, false)
def takeN:Nat → Bs → Bs × Bool
  | 0, _ => ([], true)
  | _ + 1, [] => ([], true)
  | n + 1, c :: t =>
    if c=38 then
      let x := sign (c :: t)
      let r := takeN n ((c :: t).drop (max 1 x.2.1))
      (x.1 ++ r.1, x.2.2 && r.2)
    else
      let r := takeN n t
      (c :: r.1, r.2)
def take (s:Bs):Bs × Bool := takeN s.length s

def white (c:UInt8):Bool := c == 9 || c == 10 || c == 12 || c == 13 || c == 32
def small (c:UInt8):Bool := 97 ≤ c && c ≤ 122
def z0o:Bool → Bs → Bool
  | _, [] => true
  | first, c :: t => (small c || (!first && (Mg.Y4 c || c == 45))) && z0o false t
def isName (s:Bs):Bool := decide (s ≠ []) && decide (s.length ≤ 20) && z0o true s

structure At where
  n:Bs
  v:Bs
  deriving DecidableEq
structure Tok where
  kind:Int
  name:Bs
  ats:List At
  text:Bs
  deriving DecidableEq

def z1d (l:List At) (n:Bs):Bool := l.any (fun a => a.n == n)
def valueOf (r:Bs):Option (Bs × Bs) :=
  match r.dropWhile white with
  | [] => some ([], [])
  | q :: t =>
    if q=34∨q=39 then
      match t.dropWhile (· != q) with
      | [] => none
      | _ :: u => some (t.takeWhile (· != q), u)
    else some ((q :: t).takeWhile (fun c => !white c && c != 62), (q :: t).dropWhile (fun c => !white c && c != 62))
def Y6 (c:UInt8):Bool := !white c && c != 47 && c != 62 && c != 61
def z01:Nat → Bs → List At → Option (List At × Bs)
  | 0, _, _ => none
  | n + 1, r, out =>
    match r.dropWhile (fun c => white c || c == 47) with
    | [] => none
    | c :: t =>
      if c=62 then some (out, t)
      else
        let nm := Mg.fold (c :: t.takeWhile Y6)
        let r3 := (t.dropWhile Y6).dropWhile white
        match (if Mg.isAt 61 r3 then (valueOf r3.tail).map (fun x => ((take x.1).1, x.2)) else some ([], r3)) with
        | none => none
        | some (v, r4) => z01 n r4 (if isName nm && !z1d out nm then out ++ [⟨nm, v⟩] else out)
def z1c (r:Bs):Option (List At × Bs) := z01 (r.length + 1) r []
def behind (p:Bs):Bs → Option Bs
  | [] => if p=[] then some [] else none
  | c :: t => if Mg.pre p (c :: t) then some ((c :: t).drop p.length) else behind p t
def Q7 (c:UInt8):Bool := !white c && c != 47 && c != 62
inductive Here where
  | text:Here
  | stop:Here
  | gone (rest:Bs):Here
  | tag (t:Tok) (rest:Bs):Here
def z1y (l:Bs):Bool := match l with | c :: _ => Mg.isLet c | [] => false
def z2i (r:Bs):Here :=
  let nm := Mg.fold (r.takeWhile Q7)
  match z1c (r.dropWhile Q7) with
  | none => .stop
  | some (l, rest) => if isName nm then .tag ⟨2, nm, l, []⟩ rest else .gone rest
def z0y (r:Bs):Here :=
  let nm := Mg.fold (r.takeWhile Q7)
  match behind [62] (r.dropWhile Q7) with
  | none => .stop
  | some rest => if isName nm then .tag ⟨3, nm, [], []⟩ rest else .gone rest
def z0l (p r:Bs):Here := match behind p r with | none => .stop | some rest => .gone rest
def hereAt (r:Bs):Here :=
  if z1y r.tail then z2i r.tail
  else if Mg.pre [60, 47] r && z1y (r.drop 2) then z0y (r.drop 2)
  else if Mg.pre [60, 33, 45, 45] r then z0l [45, 45, 62] (r.drop 2)
  else if Mg.pre [60, 33] r || Mg.pre [60, 63] r || Mg.pre [60, 47] r then z0l [62] r
  else .text
def flush (text:Bs) (out:List Tok):List Tok := let t := (take text).1; if t=[] then out else out ++ [⟨1, [], [], t⟩]
def z0a:Nat → Bs → Bs → List Tok → List Tok
  | 0, _, text, out => flush text out
  | _ + 1, [], text, out => flush text out
  | n + 1, c :: t, text, out =>
    if c=60 then
      match hereAt (c :: t) with
      | .text => z0a n t (text ++ [60]) out
      | .stop => flush (text ++ c :: t) out
      | .gone rest => z0a n rest text out
      | .tag k rest => z0a n rest [] (flush text out ++ [k])
    else z0a n t (text ++ [c]) out
def toks (s:Bs):List Tok := z0a s.length s [] []

inductive Fo where
  | nil:Fo
  | node (name:Bs) (ats:List At) (text:Bs) (kids rest:Fo):Fo
  deriving DecidableEq
namespace Fo
def len:Fo → Nat | nil => 0 | node _ _ _ _ r => r.len + 1
def app:Fo → Fo → Fo | nil, g => g | node n a t k r, g => node n a t k (r.app g)
def snoc (n:Bs) (a:List At) (t:Bs) (k:Fo):Fo → Fo
  | nil => node n a t k nil
  | node n' a' t' k' nil => if n=[] ∧ n'=[] then node n' a' (t' ++ t) k' nil else node n' a' t' k' (node n a t k nil)
  | node n' a' t' k' (node m b u j r) => node n' a' t' k' (snoc n a t k (node m b u j r))
def joins (f:Fo):Fo → Fo
  | nil => f
  | node n a t k r => joins (snoc n a t k f) r
end Fo

def z0n (n:Bs):Bool := n == [98, 114] || n == [104, 114] || n == [105, 109, 103]
def z8o (n:Bs):Bool := n == [117, 108] || n == [111, 108]
def z7i (n:Bs):Bool := z8o n || n == [108, 105] || n == [98, 108, 111, 99, 107, 113, 117, 111, 116, 101]
def z5o (n:Bs):Bool := z7i n || n == [112] || n == [104, 114]
def z96 (x:Bs) (q:Bs → Bool):List Bs → Option Nat
  | [] => none
  | n :: r => if n=x then some r.length else if q n then none else z96 x q r
def above (x:Bs) (q:Bs → Bool) (l:List Bs):Option Nat := z96 x q l.reverse
def z8l (l:List Bs):Option Nat → List Bs | none => l | some k => l.take k
def stays (l:List Bs) (n:Bs):Nat :=
  let l1 := if z5o n then z8l l (above [112] z7i l) else l
  let l2 := if n == [108, 105] then z8l l1 (above [108, 105] z8o l1) else l1
  l2.length

structure Op where
  name:Bs
  ats:List At
  kids:Fo
structure Bld where
  root:Fo
  open_:List Op
namespace Bld
def z3u (b:Bld) (n:Bs) (a:List At) (t:Bs) (k:Fo):Bld :=
  match b.open_.reverse with
  | [] => { b with root := Fo.snoc n a t k b.root }
  | o :: r => { b with open_ := (({ o with kids := Fo.snoc n a t k o.kids }:Op) :: r).reverse }
def pop (b:Bld):Bld :=
  match b.open_.reverse with
  | [] => b
  | o :: r => Bld.z3u { b with open_ := r.reverse } o.name o.ats [] o.kids
def z3z:Nat → Bld → Bld | 0, b => b | n + 1, b => z3z n b.pop
def close (b:Bld) (many:Nat):Bld := z3z (b.open_.length - many) b
def names (b:Bld):List Bs := b.open_.map (·.name)
def token (b:Bld) (t:Tok):Bld :=
  if t.kind=1 then b.z3u [] [] t.text .nil
  else if t.kind=2 then
    let c := b.close (stays b.names t.name)
    if c.open_.length=8 then c
    else if z0n t.name then c.z3u t.name t.ats [] .nil
    else { c with open_ := c.open_ ++ [⟨t.name, t.ats, .nil⟩] }
  else if t.kind=3 then
    match above t.name (fun _ => false) b.names with
    | none => b
    | some i => b.close i
  else b
end Bld
def build (l:List Tok):Fo := ((l.foldl Bld.token ⟨.nil, []⟩).close 0).root

def z0i:Nat → Fo → Nat × Nat
  | _, .nil => (0, 0)
  | most, .node n _ _ k r =>
    let x := z0i most r
    if n=[] then (x.1 + 1, x.2)
    else match most with
      | 0 => (x.1 + 1, max 1 x.2)
      | m + 1 => let y := z0i m k; (x.1 + 1 + y.1, max (max 1 (y.2 + 1)) x.2)
def J3 (q:Bs → Bool):List At → List At → Int
  | _, [] => 0
  | seen, a :: r => if !q a.n then 1 else if z1d seen a.n then 6 else J3 q (seen ++ [a]) r
def z0p (names:List Bs) (n:Bs) (a:List At) (t:Bs) (k:Fo):Int :=
  if n=[] then (if t=[]∨a ≠ []∨k ≠ .nil then 1 else 0)
  else if t ≠ []∨!isName n∨(z0n n ∧ k ≠ .nil) then 1
  else if J3 isName [] a ≠ 0 then J3 isName [] a
  else if stays names n < names.length then 4 else 0
def Y2:Fo → List Bs → Bool → Int
  | .nil, _, _ => 0
  | .node n a t k r, names, prev =>
    if z0p names n a t k ≠ 0 then z0p names n a t k
    else if n=[] ∧ prev then 4
    else if Y2 k (names ++ [n]) false ≠ 0 then Y2 k (names ++ [n]) false
    else Y2 r names (decide (n=[]))
def z2h (f:Fo):Int := if 3000 < (z0i 8 f).1∨8 < (z0i 8 f).2 then 2 else Y2 f [] false
def flat:Fo → List Tok
  | .nil => []
  | .node n a t k r =>
    if n=[] then ⟨1, [], [], t⟩ :: flat r
    else ⟨2, n, a, []⟩ :: ((if z0n n then [] else flat k ++ [⟨3, n, [], []⟩]) ++ flat r)
def written (l:List At):Bs := l.flatMap (fun a => [32] ++ a.n ++ [61, 34] ++ put a.v ++ [34])
def X3 (t:Tok):Bs :=
  if t.kind=1 then put t.text
  else if t.kind=2 then [60] ++ t.name ++ written t.ats ++ [62]
  else if t.kind=3 then [60, 47] ++ t.name ++ [62]
  else []
def bytes (l:List Tok):Bs := l.flatMap X3

def light (base s:Bs):Bs :=
  if 3000 < base.length∨3000 < s.length∨Mg.z1j base=0 then s
  else match Mg.res base s with | none => s | some t => t
def z8s:List Bs := [[97], [98], [105], [101, 109], [115, 116, 114, 111, 110, 103], [112], [98, 114], [104, 114], [117, 108], [111, 108], [108, 105], [98, 108, 111, 99, 107, 113, 117, 111, 116, 101], [99, 111, 100, 101], [105, 109, 103]]
def z0u (n:Bs):Bool := z8s.contains n
def q5s (n:Bs):Bool := n == [115, 99, 114, 105, 112, 116] || n == [115, 116, 121, 108, 101] || n == [116, 101, 109, 112, 108, 97, 116, 101]
def z9s (n:Bs):Bool := n == [104, 114, 101, 102] || n == [115, 114, 99]
def mayB (e n:Bs):Bool :=
  if e=[97] then n == [104, 114, 101, 102] || n == [116, 105, 116, 108, 101]
  else if e=[105, 109, 103] then n == [115, 114, 99] || n == [97, 108, 116]
  else false
def z07 (s:Bs):Bool := Mg.isSafe s && decide (s.length ≤ 3000)
def z2m (base e:Bs) (a:At):List At :=
  if !mayB e a.n then []
  else if z9s a.n then (if z07 (light base a.v) then [⟨a.n, light base a.v⟩] else [])
  else [a]
def Q5 (base e:Bs) (l:List At):List At := l.flatMap (z2m base e)
def Y3 (base:Bs):Fo → Fo → Fo
  | out, .nil => out
  | out, .node n a t k r =>
    Y3 base
      (if n=[] then Fo.snoc n a t k out
       else if q5s n then out
       else
         let kids := Y3 base .nil k
         if !z0u n then Fo.joins out kids
         else
           let l := Q5 base n a
           if n=[105, 109, 103] ∧ z1d l [115, 114, 99]=false then out
           else Fo.snoc n l [] kids out) r
def clean (base:Bs) (f:Fo):Fo := Y3 base .nil f
def q5i (e:Bs) (l:List At):Bool := l.any (fun a => !mayB e a.n || (z9s a.n && !z07 a.v))
def z88:Fo → Bool
  | .nil => true
  | .node n a _ k r => !((decide (n ≠ []) && (!z0u n || q5i n a || (decide (n=[105, 109, 103]) && !z1d a [115, 114, 99]))) || !z88 k) && z88 r
def html (base s:Bs):Bs := bytes (flat (clean base (build (toks s))))

end Mk
