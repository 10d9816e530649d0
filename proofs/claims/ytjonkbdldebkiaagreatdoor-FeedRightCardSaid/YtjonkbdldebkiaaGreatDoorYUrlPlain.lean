/- Plain law of links. -/
set_option linter.unusedVariables false
set_option linter.unusedSimpArgs false
namespace Mg
abbrev Bs:=List UInt8

def pre (p l:Bs):Bool:=l.take p.length == p
theorem j9u (p l:Bs) (h:l.length < p.length):pre p l=false:=by
 unfold pre;rw[beq_eq_false_iff_ne];intro e;have:=congrArg List.length e;rw[List.length_take] at this;omega
def isLet (c:UInt8):Bool:=(97≤c && c≤122) || (65≤c && c≤90)
def V7 (c:UInt8):Bool:=48≤c && c≤57
def z7d (c:UInt8):Bool:=V7 c || c == 43 || c == 45 || c == 46
def q17 (i:Nat) (c:UInt8):Bool:=isLet c || (decide (0 < i) && z7d c)
def z3e:Nat→Bs→Nat
 | _,[]=>0
 | i,c :: t=>if c == 58 then i else if q17 i c then z3e (i + 1) t else 0
def z0n (s:Bs):Nat:=z3e 0 s

theorem j5p (s:Bs):∀ k,z3e k s=0∨∃ j,z3e k s=k + j∧s[j]? = some 58:=by
 induction s with
 | nil=>intro k;exact .inl rfl
 | cons c t ih =>
  intro k;unfold z3e
  by_cases h:c == 58
  ·rw[if_pos h]
   exact .inr ⟨0,rfl,by simpa using h⟩
  ·rw[if_neg h]
   by_cases ha:q17 k c=true
   ·rw[if_pos ha]
    rcases ih (k + 1) with h0 | ⟨j,hj,hs⟩
    ·exact .inl h0
    ·exact .inr ⟨j + 1,by rw[hj];omega,by simpa using hs⟩
   ·rw[if_neg ha]
    exact .inl rfl
theorem q6h (s:Bs) (h:z0n s ≠ 0):s[z0n s]? = some 58:=by
 rcases j5p s 0 with h0 | ⟨j,hj,hs⟩
 ·exact absurd h0 h
 ·unfold z0n;rw[hj,Nat.zero_add];exact hs
theorem y0b (s:Bs) (h:z0n s ≠ 0):s=s.take (z0n s)++58 :: s.drop (z0n s + 1):=by
 have hs:=q6h s h;obtain⟨hl,hg⟩:=List.getElem?_eq_some_iff.1 hs
 conv=>lhs;rw[← List.take_append_drop (z0n s) s]
 rw[List.drop_eq_getElem_cons hl,hg]

def z1x (c:UInt8):Bool:=c == 58 || c == 47 || c == 63 || c == 35
def q14:Nat→Nat→Bs→Bool
 | 0,_,_=>true
 | _ + 1,_,[]=>true
 | n + 1,i,c :: t=>q17 i c && q14 n (i + 1) t
theorem j5o (i:Nat) (c:UInt8) (h:z1x c=true):q17 i c=false:=by
 unfold z1x at h;simp only [Bool.or_eq_true,beq_iff_eq] at h
 rcases h with ((h | h) | h) | h <;> subst h <;> cases i <;> simp[q17,isLet,z7d,V7] <;> decide
theorem j5q (s:Bs):∀ k,z3e k s=if s[s.findIdx z1x]? = some 58∧q14 (s.findIdx z1x) k s=true then k + s.findIdx z1x else 0:=by
 induction s with
 | nil=>intro k;simp[z3e]
 | cons c t ih =>
  intro k;unfold z3e
  by_cases h:z1x c=true
  ·rw[List.findIdx_cons]
   simp only [h,cond_true,List.getElem?_cons_zero]
   by_cases h58:c=58
   ·simp[h58,q14]
   ·simp[h58,j5o k c h]
  ·rw[List.findIdx_cons]
   simp only [h,cond_false,List.getElem?_cons_succ,q14];have h58:¬ c=58:=by intro e;subst e;simp[z1x] at h
   rw[ih (k + 1)]
   by_cases ha:q17 k c=true
   ·simp only [h58,ha,beq_iff_eq,if_true,if_false,Bool.true_and,Nat.add_assoc,Nat.add_comm 1]
   ·simp[h58,ha]
theorem schOf_eq (s:Bs):z0n s=if s[s.findIdx z1x]? = some 58∧q14 (s.findIdx z1x) 0 s=true then s.findIdx z1x else 0:=by
 have:=j5q s 0
 simpa [z0n] using this
structure U where
 (sch au pa qu fr:Bs)
 (hs ha hq hf:Bool)
 deriving DecidableEq

def nilU:U:=⟨[],[],[],[],[],false,false,false,false⟩

def q39 (c:UInt8):Bool:=c == 47 || c == 63 || c == 35
def z1t (c:UInt8):Bool:=c == 63 || c == 35
def q0c (c:UInt8):Bool:=c == 35
def upto (p:UInt8→Bool) (s:Bs):Bs:=s.takeWhile (fun c=>!p c)
def past (p:UInt8→Bool) (s:Bs):Bs:=s.dropWhile (fun c=>!p c)
theorem q3c (p:UInt8→Bool) (s:Bs):upto p s++past p s=s:=List.takeWhile_append_dropWhile
theorem q2y (p:UInt8→Bool) (s:Bs):past p s=[]∨∃ c t,past p s=c :: t∧p c=true:=by
 unfold past
 induction s with
 | nil=>simp
 | cons c t ih =>
  rw[List.dropWhile_cons]
  by_cases h:p c=true
  ·simp[h]
  ·simpa [h] using ih

def isAt (c:UInt8):Bs→Bool | d :: _=>d == c | []=>false
def sl2 (s:Bs):Bool:=s.take 2 == [47,47]

def X0 (s:Bs):Bs:=if z0n s=0 then s else s.drop (z0n s + 1)
def z0m (r:Bs):Bs:=if sl2 r then past q39 (r.drop 2) else r
def z1a (r:Bs):Bs:=if isAt 63 r then past q0c r.tail else r
def split (s:Bs):U :=
 let r1:=X0 s
 let r2:=z0m r1
 let r3:=past z1t r2
 let r4:=z1a r3
 {sch:=if z0n s=0 then [] else s.take (z0n s),hs:=decide (z0n s ≠ 0),
  au:=if sl2 r1 then upto q39 (r1.drop 2) else [],ha:=sl2 r1,
  pa:=upto z1t r2,
  qu:=if isAt 63 r3 then upto q0c r3.tail else [],hq:=isAt 63 r3,
  fr:=r4.tail,hf:=isAt 35 r4 }

def join (u:U):Bs :=
 (if u.hs then u.sch++[58] else [])++(if u.ha then [47,47]++u.au else [])++u.pa++(if u.hq then [63]++u.qu else [])++(if u.hf then [35]++u.fr else [])

theorem sl2_cut (r:Bs) (h:sl2 r=true):r=[47,47]++r.drop 2:=by
 have:r.take 2=[47,47]:=by simpa [sl2] using h
 conv=>lhs;rw[← List.take_append_drop 2 r,this]
theorem j1v (c:UInt8) (r:Bs) (h:isAt c r=true):r=[c]++r.tail:=by
 cases r with
 | nil=>cases h
 | cons d t =>
  have:d=c:=by simpa [isAt] using h
  subst this;rfl

theorem y03 (r:Bs):(∀ c t,r=c :: t→z1t c=true)→z1a r=[]∨isAt 35 (z1a r)=true:=by
 intro h;unfold z1a
 by_cases h63:isAt 63 r=true
 ·rw[if_pos h63]
  rcases q2y q0c r.tail with h0 | ⟨c,t,e,hc⟩
  ·exact .inl h0
  ·right;rw[e];simpa [isAt,q0c] using hc
 ·rw[if_neg h63]
  cases r with
  | nil=>exact .inl rfl
  | cons c t =>
   right
   have:=h c t rfl;simp only [z1t,Bool.or_eq_true,beq_iff_eq] at this
   rcases this with e | e
   ·subst e;exact absurd rfl h63
   ·subst e;rfl

theorem q4e (s:Bs):join (split s)=s:=by
 have e1:(if z0n s=0 then [] else s.take (z0n s)++[58])++X0 s=s:=by
  unfold X0
  by_cases h:z0n s=0
  ·simp[h]
  ·rw[if_neg h,if_neg h]
   conv=>rhs;rw[y0b s h]
   simp
 have e2:∀ r,(if sl2 r then [47,47]++upto q39 (r.drop 2) else [])++z0m r=r:=by
  intro r;unfold z0m
  by_cases h:sl2 r=true
  ·rw[if_pos h,if_pos h,List.append_assoc,q3c];exact(sl2_cut r h).symm
  ·rw[if_neg h,if_neg h];rfl
 have e3:∀ r,(if isAt 63 r then [63]++upto q0c r.tail else [])++z1a r=r:=by
  intro r;unfold z1a
  by_cases h:isAt 63 r=true
  ·rw[if_pos h,if_pos h,List.append_assoc,q3c];exact(j1v 63 r h).symm
  ·rw[if_neg h,if_neg h];rfl
 have e4:∀ r:Bs,(r=[]∨isAt 35 r=true)→(if isAt 35 r then [35]++r.tail else [])=r:=by
  rintro r (rfl | h)
  ·rfl
  ·rw[if_pos h];exact(j1v 35 r h).symm
 have h4:=y03 (past z1t (z0m (X0 s))) (by
  intro c t e
  rcases q2y z1t (z0m (X0 s)) with h0 | ⟨c',t',e',hc⟩
  ·rw[h0] at e;cases e
  ·rw[e'] at e;injection e with e _;subst e;exact hc)
 have j:join (split s)=(if z0n s=0 then [] else s.take (z0n s)++[58])++((if sl2 (X0 s) then [47,47]++upto q39 ((X0 s).drop 2) else [])++(upto z1t (z0m (X0 s))++((if isAt 63 (past z1t (z0m (X0 s))) then [63]++upto q0c (past z1t (z0m (X0 s))).tail else [])++(if isAt 35 (z1a (past z1t (z0m (X0 s)))) then [35]++(z1a (past z1t (z0m (X0 s)))).tail else [])))):=by
  unfold join split
  by_cases h:z0n s=0 <;> by_cases h2:sl2 (X0 s)=true <;> by_cases h3:isAt 63 (past z1t (z0m (X0 s)))=true <;> simp[h,h2,h3]
 rw[j,e4 _ h4,e3,q3c,e2,e1]

def X9 (i:Bs):Bool × Bs × Bs :=
 if i.take 3=[46,46,47] then (false,i.drop 3,[])
 else if i.take 2=[46,47] then (false,i.drop 2,[])
 else if i.take 3=[47,46,47] then (false,i.drop 2,[])
 else if i=[47,46] then (false,[47],[])
 else if i.take 4=[47,46,46,47] then (true,i.drop 3,[])
 else if i=[47,46,46] then (true,[47],[])
 else if i=[46]∨i=[46,46] then (false,[],[])
 else (false,i.tail.dropWhile (· != 47),i.take 1++i.tail.takeWhile (· != 47))
def bk (o:Bs):Bs:=(o.reverse.dropWhile (· != 47)).tail.reverse
def q2f:Nat→Bs→Bs→Bs
 | 0,_,o=>o
 | n + 1,i,o=>if i=[] then o else q2f n (X9 i).2.1 ((if (X9 i).1 then bk o else o)++(X9 i).2.2)
def dots (s:Bs):Bs:=q2f s.length s []

theorem z7i (i:Bs) (h:i ≠ []):(X9 i).2.1.length < i.length:=by
 have hl:0 < i.length:=List.length_pos_iff.2 h;unfold X9
 split
 ·simp only [List.length_drop];omega
 split
 ·simp only [List.length_drop];omega
 split
 ·simp only [List.length_drop];omega
 split
 ·rename_i e;subst e;simp
 split
 ·simp only [List.length_drop];omega
 split
 ·rename_i e;subst e;simp
 split
 ·simpa using hl
 ·have:=(List.dropWhile_suffix (l:=i.tail) (fun c:UInt8=>c != 47)).length_le
  simp at this;show (i.tail.dropWhile (fun c:UInt8=>c != 47)).length < _;omega
theorem j4k (n:Nat):∀ m i o,i.length≤n→i.length≤m→q2f n i o=q2f m i o:=by
 induction n with
 | zero =>
  intro m i o h _;have:i=[]:=List.eq_nil_of_length_eq_zero (by omega);subst this
  cases m <;> simp[q2f]
 | succ n ih =>
  intro m i o h hm
  by_cases hi:i=[]
  ·subst hi;cases m <;> simp[q2f]
  ·have:=z7i i hi
   cases m with
   | zero=>exfalso;exact hi (List.eq_nil_of_length_eq_zero (by omega))
   | succ m =>
    simp only [q2f,hi,if_false];exact ih m _ _ (by omega) (by omega)
def q2g (i o:Bs):Bs:=q2f i.length i o
theorem q7e (o:Bs):q2g [] o=o:=rfl
theorem z9y (i o:Bs) (h:i ≠ []):q2g i o=q2g (X9 i).2.1 ((if (X9 i).1 then bk o else o)++(X9 i).2.2):=by
 have hl:=z7i i h;unfold q2g;obtain⟨n,hn⟩:∃ n,i.length=n + 1:=⟨i.length - 1,by omega⟩;rw[hn];simp only [q2f,h,if_false];exact j4k _ _ _ _ (by omega) (Nat.le_refl _)
theorem dots_ind (Q:Bs→Bs→Prop) (h0:∀ o,Q [] o) (h1:∀ i o,i ≠ []→Q (X9 i).2.1 ((if (X9 i).1 then bk o else o)++(X9 i).2.2)→Q i o):∀ i o,Q i o:=by
 have:∀ n i o,i.length≤n→Q i o:=by
  intro n
  induction n with
  | zero =>
   intro i o h;have:i=[]:=List.eq_nil_of_length_eq_zero (by omega);subst this;exact h0 o
  | succ n ih =>
   intro i o h
   by_cases hi:i=[]
   ·subst hi;exact h0 o
   ·have:=z7i i hi
    exact h1 i o hi (ih _ _ (by omega))
 exact fun i o=>this _ i o (Nat.le_refl _)

theorem bk_len (o:Bs):(bk o).length≤o.length:=by
 unfold bk;have:=(List.dropWhile_suffix (l:=o.reverse) (fun c:UInt8=>c != 47)).length_le;simp at this ⊢;omega
theorem j7z (i:Bs) (_h:i ≠ []):(X9 i).2.1.length + (X9 i).2.2.length≤i.length:=by
 have e:(i.tail.takeWhile (fun c:UInt8=>c != 47)).length + (i.tail.dropWhile (fun c:UInt8=>c != 47)).length=i.tail.length:=by
  rw[← List.length_append,List.takeWhile_append_dropWhile]
 have ht:i.tail.length=i.length - 1:=List.length_tail;have hp:0 < i.length:=List.length_pos_iff.2 _h;unfold X9
 split
 ·simp
 split
 ·simp
 split
 ·simp
 split
 ·rename_i e;subst e;simp
 split
 ·simp
 split
 ·rename_i e;subst e;simp
 split
 ·simp
 ·simp only [List.length_append,List.length_take]
  omega
theorem j8a:∀ i o,(q2g i o).length≤i.length + o.length:=by
 refine dots_ind (fun i o=>(q2g i o).length≤i.length + o.length) (fun o=>by simp[q7e]) ?_;intro i o hi h;rw[z9y i o hi];refine Nat.le_trans h ?_;have h1:=j7z i hi;have h2:=bk_len o;rw[List.length_append]
 split <;> omega
theorem q5i (s:Bs):(dots s).length≤s.length:=by
 have:=j8a s []
 simpa [dots,q2g] using this

def q4j (p:Bs):Prop:=p ≠ []∧(47:UInt8) ∉ p.tail
def z0o (p:Bs):Prop:=∃ t,p=47 :: t
def z2k:List Bs→Prop
 | []=>True
 | p :: ps=>q4j p∧∀ q ∈ ps,q4j q∧z0o q
theorem q86 (o:List Bs) (p:Bs) (h:z2k o) (hp:q4j p) (hs:o ≠ []→z0o p):z2k (o++[p]):=by
 cases o with
 | nil=>exact⟨hp,by simp⟩
 | cons a t =>
  refine⟨h.1,fun q hq=>?_⟩
  rcases List.mem_append.1 hq with h1 | h1
  ·exact h.2 q h1
  ·have:q=p:=by simpa using h1
   subst this;exact⟨hp,hs (by simp)⟩
theorem q15 (o:List Bs) (h:z2k o):z2k o.dropLast:=by
 cases o with
 | nil=>exact h
 | cons a t =>
  cases t with
  | nil=>trivial
  | cons b t=>exact⟨h.1,fun q hq=>h.2 q ((List.dropLast_sublist _).subset hq)⟩
theorem z6x (l r:Bs) (h:(47:UInt8) ∉ l):(l++r).dropWhile (· != 47)=r.dropWhile (· != 47):=by
 induction l with
 | nil=>rfl
 | cons c t ih =>
  have hc:c ≠ 47:=fun e=>h (by simp[e])
  have ht:(47:UInt8) ∉ t:=fun e=>h (by simp[e])
  simp[hc,ih ht]
theorem q8s (l r:Bs) (h:(47:UInt8) ∉ l):(l++r).takeWhile (· != 47)=l++r.takeWhile (· != 47):=by
 induction l with
 | nil=>rfl
 | cons c t ih =>
  have hc:c ≠ 47:=fun e=>h (by simp[e])
  have ht:(47:UInt8) ∉ t:=fun e=>h (by simp[e])
  simp[hc,ih ht]
theorem j7j (o p:Bs) (hp:q4j p) (hs:o=[]∨z0o p):bk (o++p)=o:=by
 obtain⟨hne,hno⟩:=hp
 match p,hne with
 | c :: t,_ =>
  have ht:(47:UInt8) ∉ t.reverse:=by simpa using hno
  unfold bk;rw[show o++c :: t=o++[c]++t from by simp,List.reverse_append,z6x _ _ ht,List.reverse_append]
  by_cases hc:c=47
  ·subst hc
   simp
  ·rcases hs with rfl | ⟨u,hu⟩
   ·simp[hc]
   ·injection hu with hu _;exact absurd hu hc
theorem bk_parts (o:List Bs) (h:z2k o):bk o.flatten=o.dropLast.flatten:=by
 rcases List.eq_nil_or_concat o with rfl | ⟨l,p,rfl⟩
 ·rfl
 ·simp only [List.concat_eq_append] at h ⊢
  rw[List.dropLast_concat,List.flatten_append];simp only [List.flatten_cons,List.flatten_nil,List.append_nil]
  cases l with
  | nil=>exact j7j _ _ h.1 (.inl rfl)
  | cons a t =>
   have:=h.2 p (by simp);exact j7j _ _ this.1 (.inr this.2)

def z6w (i:Bs) (o:List Bs):List Bs:=(if (X9 i).1 then o.dropLast else o)++(if (X9 i).2.2=[] then [] else [(X9 i).2.2])
def q31:Nat→Bs→List Bs→List Bs
 | 0,_,o=>o
 | n + 1,i,o=>if i=[] then o else q31 n (X9 i).2.1 (z6w i o)

theorem q0e (l:Bs):(47:UInt8) ∉ l.takeWhile (· != 47):=by
 induction l with
 | nil=>simp
 | cons c t ih =>
  rw[List.takeWhile_cons]
  by_cases hc:c=47
  ·simp[hc]
  ·simp only [bne_iff_ne,ne_eq,hc,not_false_eq_true,if_true,List.mem_cons,not_or]
   exact⟨fun e=>hc e.symm,ih⟩
theorem z7z (l:Bs):l.dropWhile (· != 47)=[]∨z0o (l.dropWhile (· != 47)):=by
 induction l with
 | nil=>exact .inl rfl
 | cons c t ih =>
  rw[List.dropWhile_cons]
  by_cases hc:c=47
  ·right;simp[hc,z0o]
  ·simpa [hc] using ih
theorem q9s (i:Bs) (hi:i ≠ []):((X9 i).2.2=[]∨q4j (X9 i).2.2∧(X9 i).1=false∧((z0o i→z0o (X9 i).2.2)))∧((z0o i∨(X9 i).2.2 ≠ [])→(X9 i).2.1=[]∨z0o (X9 i).2.1)∧((X9 i).1=true→z0o i):=by
 obtain⟨c,t,rfl⟩:=List.exists_cons_of_ne_nil hi;unfold X9
 split
 ·rename_i e
  refine⟨.inl rfl,?_,by simp⟩;rintro (⟨u,hu⟩ | h)
  ·injection hu with hu _;subst hu;simp at e
  ·exact absurd rfl h
 split
 ·rename_i e
  refine⟨.inl rfl,?_,by simp⟩;rintro (⟨u,hu⟩ | h)
  ·injection hu with hu _;subst hu;simp at e
  ·exact absurd rfl h
 split
 ·rename_i e
  refine⟨.inl rfl,fun _=>.inr ?_,by simp⟩
  match t,e with
  | [a,b],e=>simp at e;simp[e,z0o]
  | a :: b :: d :: t,e=>simp at e;simp[e,z0o]
 split
 ·exact⟨.inl rfl,fun _=>.inr ⟨[],rfl⟩,by simp⟩
 split
 ·rename_i e
  refine⟨.inl rfl,fun _=>.inr ?_,fun _=>?_⟩
  ·match t,e with
   | [a,b,d],e=>simp at e;simp[e,z0o]
   | a :: b :: d :: f :: t,e=>simp at e;simp[e,z0o]
  ·simp at e;exact⟨t,by rw[e.1]⟩
 split
 ·rename_i e
  exact⟨.inl rfl,fun _=>.inr ⟨[],rfl⟩,fun _=>by rw[e];exact⟨_,rfl⟩⟩
 split
 ·exact⟨.inl rfl,fun _=>.inl rfl,by simp⟩
 ·refine⟨.inr ⟨⟨by simp,?_⟩,rfl,?_⟩,fun _=>z7z _,by simp⟩
  ·simpa using q0e t
  ·rintro ⟨u,hu⟩;injection hu with hu _;subst hu;exact⟨_,rfl⟩

theorem q5k (i:Bs) (o:List Bs) (hi:i ≠ []) (ho:z2k o) (hs:o ≠ []→z0o i) :
  (z6w i o).flatten=(if (X9 i).1 then bk o.flatten else o.flatten)++(X9 i).2.2∧z2k (z6w i o)∧(z6w i o ≠ []→(X9 i).2.1=[]∨z0o (X9 i).2.1):=by
 obtain⟨h1,h2,h3⟩:=q9s i hi;unfold z6w;refine⟨?_,?_,?_⟩
 ·rw[List.flatten_append]
  have e:(if (X9 i).2.2=[] then [] else [(X9 i).2.2]).flatten=(X9 i).2.2:=by
   by_cases h0:(X9 i).2.2=[] <;> simp[h0]
  rw[e]
  by_cases hb:(X9 i).1=true
  ·simp only [hb,if_true]
   rw[bk_parts o ho]
  ·simp only [hb]
   rfl
 ·rcases h1 with h1 | ⟨hp,hb,hsl⟩
  ·simp only [h1,if_true,List.append_nil]
   split
   ·exact q15 o ho
   ·exact ho
  ·simp only [hb,hp.1,if_false]
   exact q86 o _ ho hp (fun h=>hsl (hs h))
 ·intro hne
  by_cases h0:(X9 i).2.2=[]
  ·simp only [h0,if_true,List.append_nil] at hne
   apply h2
   left
   by_cases hb:(X9 i).1=true
   ·exact h3 hb
   ·simp only [hb] at hne;exact hs hne
  ·exact h2 (.inr h0)

theorem j9s (n:Nat):∀ i o,z2k o→(o ≠ []→i=[]∨z0o i)→(q31 n i o).flatten=q2f n i o.flatten:=by
 induction n with
 | zero=>intro i o _ _;rfl
 | succ n ih =>
  intro i o ho hs;unfold q31 q2f
  by_cases hi:i=[]
  ·simp[hi]
  ·simp only [hi,if_false]
   obtain⟨h1,h2,h3⟩:=q5k i o hi ho (fun h=>(hs h).resolve_left hi);rw[ih _ _ h2 h3,h1]
theorem pdots_eq (s:Bs):(q31 s.length s []).flatten=dots s:=j9s _ _ _ trivial (fun h=>absurd rfl h)

def z5w (p:Bs):Prop:=p ≠ [46]∧p ≠ [46,46]∧p ≠ [47,46]∧p ≠ [47,46,46]
theorem q5h (i:Bs) (h:(X9 i).2.2 ≠ []) (hi:i ≠ []):z5w (X9 i).2.2:=by
 obtain⟨c,t,rfl⟩:=List.exists_cons_of_ne_nil hi;revert h;unfold X9
 split
 ·simp
 split
 ·simp
 split
 ·simp
 split
 ·simp
 split
 ·simp
 split
 ·simp
 split
 ·simp
 ·rename_i a1 a2 a3 a4 a5 a6 a7
  intro _;simp only [List.take_succ_cons,List.take_zero,List.tail_cons,List.cons_append,List.nil_append];have e:t.takeWhile (fun c:UInt8=>c != 47)++t.dropWhile (fun c:UInt8=>c != 47)=t:=List.takeWhile_append_dropWhile;have hd:=z7z t;generalize t.takeWhile (fun c:UInt8=>c != 47)=p at e ⊢;generalize t.dropWhile (fun c:UInt8=>c != 47)=r at e hd;subst e;refine⟨?_,?_,?_,?_⟩
  ·intro e
   injection e with e1 e2;subst e1;subst e2
   rcases hd with rfl | ⟨u,rfl⟩
   ·exact a7 (.inl rfl)
   ·exact a2 (by simp)
  ·intro e
   injection e with e1 e2;subst e1;subst e2
   rcases hd with rfl | ⟨u,rfl⟩
   ·exact a7 (.inr rfl)
   ·exact a1 (by simp)
  ·intro e
   injection e with e1 e2;subst e1;subst e2
   rcases hd with rfl | ⟨u,rfl⟩
   ·exact a4 rfl
   ·exact a3 (by simp)
  ·intro e
   injection e with e1 e2;subst e1;subst e2
   rcases hd with rfl | ⟨u,rfl⟩
   ·exact a6 rfl
   ·exact a5 (by simp)
theorem j4j (p r:Bs) (hp:q4j p) (hd:z5w p) (hr:r=[]∨z0o r):X9 (p++r)=(false,r,p):=by
 obtain⟨hne,hno⟩:=hp;obtain⟨c,t,rfl⟩:=List.exists_cons_of_ne_nil hne;have hno':(47:UInt8) ∉ t:=by simpa using hno
 have hdw:r.dropWhile (fun c:UInt8=>c != 47)=r:=by
  rcases hr with rfl | ⟨u,rfl⟩
  ·rfl
  ·simp
 have htw:r.takeWhile (fun c:UInt8=>c != 47)=[]:=by
  rcases hr with rfl | ⟨u,rfl⟩
  ·rfl
  ·simp
 obtain⟨d1,d2,d3,d4⟩:=hd;have last:(false,((c :: t)++r).tail.dropWhile (fun c:UInt8=>c != 47),((c :: t)++r).take 1++((c :: t)++r).tail.takeWhile (fun c:UInt8=>c != 47))=(false,r,c :: t):=by
  simp only [List.cons_append,List.tail_cons,List.take_succ_cons,List.take_zero,z6x t r hno',q8s t r hno',hdw,htw,List.append_nil,List.nil_append]
 rw[← last];unfold X9
 rcases hr with rfl | ⟨u,rfl⟩
 ·match t,hno' with
  | [],_=>simp_all
  | [a],h=>(simp_all;(repeat' (split;· exfalso;simp_all));rfl)
  | [a,b],h=>(simp_all;(repeat' (split;· exfalso;simp_all));rfl)
  | a :: b :: d :: t,h=>(simp_all;(repeat' (split;· exfalso;simp_all));rfl)
 ·match t,hno' with
  | [],_=>simp_all
  | [a],h=>(simp_all;(repeat' (split;· exfalso;simp_all));rfl)
  | [a,b],h=>(simp_all;(repeat' (split;· exfalso;simp_all));rfl)
  | a :: b :: d :: t,h=>(simp_all;(repeat' (split;· exfalso;simp_all));rfl)

theorem q5j (i:Bs) (o:List Bs) (hi:i ≠ []) (h:∀ p ∈ o,z5w p):∀ p ∈ z6w i o,z5w p:=by
 intro p hp;unfold z6w at hp
 rcases List.mem_append.1 hp with h1 | h1
 ·split at h1
  ·exact h p ((List.dropLast_sublist _).subset h1)
  ·exact h p h1
 ·split at h1
  ·cases h1
  ·rename_i h0
   have:p=(X9 i).2.2:=by simpa using h1
   subst this;exact q5h i h0 hi
theorem j0g (n:Nat):∀ i o,z2k o→(o ≠ []→i=[]∨z0o i)→(∀ p ∈ o,z5w p)→z2k (q31 n i o)∧∀ p ∈ q31 n i o,z5w p:=by
 induction n with
 | zero=>intro i o ho _ hd;exact⟨ho,hd⟩
 | succ n ih =>
  intro i o ho hs hd;unfold q31
  by_cases hi:i=[]
  ·simp only [hi,if_true];exact⟨ho,hd⟩
  ·simp only [hi,if_false]
   obtain⟨h1,h2,h3⟩:=q5k i o hi ho (fun h=>(hs h).resolve_left hi);exact ih _ _ h2 h3 (q5j i o hi hd)
theorem j4l:∀ (l:List Bs) (acc:Bs),z2k l→(∀ p ∈ l,z5w p)→q2g l.flatten acc=acc++l.flatten:=by
 intro l
 induction l with
 | nil=>intro acc _ _;simp[q7e]
 | cons p ps ih =>
  intro acc h hd;have hr:ps.flatten=[]∨z0o ps.flatten:=by
   cases ps with
   | nil=>exact .inl rfl
   | cons q qs =>
    obtain⟨u,hu⟩:=(h.2 q (by simp)).2;exact .inr ⟨u++qs.flatten,by simp[hu]⟩
  have hp:=j4j p ps.flatten h.1 (hd p (by simp)) hr;have hne:p++ps.flatten ≠ []:=by
   have:=h.1.1;simp[this]
  rw[List.flatten_cons,z9y _ _ hne,hp];have hps:z2k ps:=by
   cases ps with
   | nil=>trivial
   | cons q qs=>exact⟨(h.2 q (by simp)).1,fun r hr=>h.2 r (by simp[hr])⟩
  simp only [Bool.false_eq_true,if_false];rw[ih _ hps (fun q hq=>hd q (by simp[hq])),List.append_assoc]
theorem z95 (s:Bs):dots (dots s)=dots s:=by
 have h:=pdots_eq s;obtain⟨h1,h2⟩:=j0g s.length s [] trivial (fun h=>absurd rfl h) (by simp);rw[← h];show q2g _ []=_;rw[j4l _ _ h1 h2];rfl

def z88 (b u:U):Bs:=if b.ha && b.pa.isEmpty then 47 :: u.pa else (b.pa.reverse.dropWhile (· != 47)).reverse++u.pa
def resU (b u:U):U :=
 if u.hs then { u with pa:=dots u.pa }
 else if u.ha then { u with sch:=b.sch,hs:=true,pa:=dots u.pa }
 else if u.pa=[] then { u with sch:=b.sch,hs:=true,au:=b.au,ha:=b.ha,pa:=dots b.pa,qu:=if u.hq then u.qu else b.qu,hq:=if u.hq then true else b.hq }
 else { u with sch:=b.sch,hs:=true,au:=b.au,ha:=b.ha,pa:=dots (if isAt 47 u.pa then u.pa else z88 b u) }
def z9c (u:U):Bool:=split (join u) == u
def res (base s:Bs):Option Bs :=
 let t:=resU (split base) (split s)
 if z9c t then some (join t) else none

theorem resU_hs (b u:U):(resU b u).hs=true:=by
 unfold resU
 split
 ·assumption
 split
 ·rfl
 split <;> rfl
theorem resU_pa (b u:U):dots (resU b u).pa=(resU b u).pa:=by
 unfold resU
 split
 ·exact z95 _
 split
 ·exact z95 _
 split
 ·exact z95 _
 ·exact z95 _
theorem y08 (base s r:Bs) (h:res base s=some r):(split r).hs=true∧res base r=some r:=by
 unfold res at h;simp only at h
 split at h
 ·rename_i hj
  injection h with h;have hsp:split r=resU (split base) (split s):=by rw[← h];simpa [z9c] using hj
  have hs:(split r).hs=true:=by rw[hsp];exact resU_hs _ _
  refine⟨hs,?_⟩;have e:resU (split base) (split r)=split r:=by
   rw[resU,if_pos hs,hsp,resU_pa]
  unfold res;simp only [e];rw[if_pos]
  ·rw[q4e]
  ·simp[z9c,q4e]
 ·cases h
def low (c:UInt8):UInt8:=if 65≤c && c≤90 then c + 32 else c
def fold (s:Bs):Bs:=s.map low
def q6g (w:Bs):Bool:=w == [104,116,116,112] || w == [104,116,116,112,115] || w == [109,97,105,108,116,111]
def isSafe (s:Bs):Bool:=let t:=s.filter (fun c=>decide (32 < c));q6g (fold (t.take (z0n t)))

theorem z0i (p:UInt8→Prop) [DecidablePred p] (h:(List.range 256).all (fun n=>decide (p (UInt8.ofNat n)))=true):∀ c,p c:=by
 intro c;have hc:=List.all_eq_true.1 h c.toNat (by have:=c.toNat_lt;simp;omega)
 simpa using hc
theorem j9j (c:UInt8):(low c).toNat=if 65≤c.toNat∧c.toNat≤90 then c.toNat + 32 else c.toNat:=z0i (fun c=>(low c).toNat=if 65≤c.toNat∧c.toNat≤90 then c.toNat + 32 else c.toNat) (by decide +kernel) c
theorem j9i (c:UInt8):isLet (low c)=isLet c:=z0i (fun c=>isLet (low c)=isLet c) (by decide +kernel) c
theorem j1y (c:UInt8):z7d (low c)=z7d c:=z0i (fun c=>z7d (low c)=z7d c) (by decide +kernel) c
theorem low_58 (c:UInt8):(low c == 58)=(c == 58):=z0i (fun c=>(low c == 58)=(c == 58)) (by decide +kernel) c
theorem q8m (s:Bs):∀ k,z3e k (fold s)=z3e k s:=by
 induction s with
 | nil=>intro k;rfl
 | cons c t ih =>
  intro k;show z3e k (low c :: fold t)=_;unfold z3e;simp only [q17,low_58,j9i,j1y,ih];rfl
theorem j5r (s:Bs):z0n (fold s)=z0n s:=q8m s 0
theorem q9y (s:Bs):isSafe s=let t:=fold (s.filter (fun c=>decide (32 < c)));q6g (t.take (z0n t)):=by
 simp only [isSafe,j5r];simp only [fold,List.map_take]
theorem q7r (c:UInt8):isLet c=true↔(97≤(c.toNat:Int)∧(c.toNat:Int)≤122)∨(65≤(c.toNat:Int)∧(c.toNat:Int)≤90):=z0i (fun c=>isLet c=true↔(97≤(c.toNat:Int)∧(c.toNat:Int)≤122)∨(65≤(c.toNat:Int)∧(c.toNat:Int)≤90)) (by decide +kernel) c
theorem q6m (c:UInt8):z7d c=true↔(48≤(c.toNat:Int)∧(c.toNat:Int)≤57)∨(c.toNat:Int)=43∨(c.toNat:Int)=45∨(c.toNat:Int)=46:=z0i (fun c=>z7d c=true↔(48≤(c.toNat:Int)∧(c.toNat:Int)≤57)∨(c.toNat:Int)=43∨(c.toNat:Int)=45∨(c.toNat:Int)=46) (by decide +kernel) c
end Mg
namespace Mk
abbrev Bs := List UInt8

def esc (c:UInt8):Bs := if c=38 then [38, 97, 109, 112, 59] else if c=60 then [38, 108, 116, 59] else if c=62 then [38, 103, 116, 59] else if c=34 then [38, 113, 117, 111, 116, 59] else [c]
def put (s:Bs):Bs := s.flatMap esc
def z6v (n:Nat):Nat := if 48 ≤ n ∧ n ≤ 57 then n - 48 else if 97 ≤ n ∧ n ≤ 122 then n - 87 else if 65 ≤ n ∧ n ≤ 90 then n - 55 else 99
def V7 (b:Nat) (c:UInt8):Bool := decide (z6v c.toNat < b)
def value (b:Nat) (l:Bs):Nat := l.foldl (fun n c => n * b + z6v c.toNat) 0
def scalar (n:Nat):Bool := decide (0 < n) && decide (n ≤ 1114111) && (decide (n < 55296) || decide (57343 < n))
def utf8 (n:Nat):Bs :=
  if n < 128 then [UInt8.ofNat n]
  else if n < 2048 then [UInt8.ofNat (192 + n / 64), UInt8.ofNat (128 + n % 64)]
  else if n < 65536 then [UInt8.ofNat (224 + n / 4096), UInt8.ofNat (128 + n / 64 % 64), UInt8.ofNat (128 + n % 64)]
  else [UInt8.ofNat (240 + n / 262144), UInt8.ofNat (128 + n / 4096 % 64), UInt8.ofNat (128 + n / 64 % 64), UInt8.ofNat (128 + n % 64)]
def named (s:Bs):Option (UInt8 × Nat) :=
  if Mg.pre [38, 97, 109, 112, 59] s then some (38, 5)
  else if Mg.pre [38, 108, 116, 59] s then some (60, 4)
  else if Mg.pre [38, 103, 116, 59] s then some (62, 4)
  else if Mg.pre [38, 113, 117, 111, 116, 59] s then some (34, 6)
  else if Mg.pre [38, 97, 112, 111, 115, 59] s then some (39, 6)
  else none
def numAt (b most ahead:Nat) (s:Bs):Option (Nat × Nat) :=
  let r := s.drop ahead
  let ds := r.takeWhile (V7 b)
  if ds.length=0∨most < ds.length then none
  else if Mg.isAt 59 (r.drop ds.length) then some (value b ds, ahead + ds.length + 1) else none
def numbered (s:Bs):Option (Nat × Nat) :=
  if Mg.pre [38, 35, 120] s then numAt 16 6 3 s
  else if Mg.pre [38, 35] s then numAt 10 7 2 s
  else none
def sign (s:Bs):Bs × Nat × Bool :=
  match named s with
  | some (c, n) => ([c], n, true)
  | none =>
    match numbered s with
    | none => ([38], 0, false)
    | some (p, n) => if scalar p then (utf8 p, n, true) else ([239, 191, 189], n, false)
def takeN:Nat → Bs → Bs × Bool
  | 0, _ => ([], true)
  | _ + 1, [] => ([], true)
  | n + 1, c :: t =>
    if c=38 then
      let x := sign (c :: t)
      let r := takeN n ((c :: t).drop (max 1 x.2.1))
      (x.1 ++ r.1, x.2.2 && r.2)
    else
      let r := takeN n t
      (c :: r.1, r.2)
def take (s:Bs):Bs × Bool := takeN s.length s

def white (c:UInt8):Bool := c == 9 || c == 10 || c == 12 || c == 13 || c == 32
def small (c:UInt8):Bool := 97 ≤ c && c ≤ 122
def z3c:Bool → Bs → Bool
  | _, [] => true
  | first, c :: t => (small c || (!first && (Mg.V7 c || c == 45))) && z3c false t
def isName (s:Bs):Bool := decide (s ≠ []) && decide (s.length ≤ 20) && z3c true s

structure At where
  n:Bs
  v:Bs
  deriving DecidableEq
structure Tok where
  kind:Int
  name:Bs
  ats:List At
  text:Bs
  deriving DecidableEq

def z0x (l:List At) (n:Bs):Bool := l.any (fun a => a.n == n)
def valueOf (r:Bs):Option (Bs × Bs) :=
  match r.dropWhile white with
  | [] => some ([], [])
  | q :: t =>
    if q=34∨q=39 then
      match t.dropWhile (· != q) with
      | [] => none
      | _ :: u => some (t.takeWhile (· != q), u)
    else some ((q :: t).takeWhile (fun c => !white c && c != 62), (q :: t).dropWhile (fun c => !white c && c != 62))
def z01 (c:UInt8):Bool := !white c && c != 47 && c != 62 && c != 61
def z06:Nat → Bs → List At → Option (List At × Bs)
  | 0, _, _ => none
  | n + 1, r, out =>
    match r.dropWhile (fun c => white c || c == 47) with
    | [] => none
    | c :: t =>
      if c=62 then some (out, t)
      else
        let nm := Mg.fold (c :: t.takeWhile z01)
        let r3 := (t.dropWhile z01).dropWhile white
        match (if Mg.isAt 61 r3 then (valueOf r3.tail).map (fun x => ((take x.1).1, x.2)) else some ([], r3)) with
        | none => none
        | some (v, r4) => z06 n r4 (if isName nm && !z0x out nm then out ++ [⟨nm, v⟩] else out)
def z3p (r:Bs):Option (List At × Bs) := z06 (r.length + 1) r []
def behind (p:Bs):Bs → Option Bs
  | [] => if p=[] then some [] else none
  | c :: t => if Mg.pre p (c :: t) then some ((c :: t).drop p.length) else behind p t
def Y3 (c:UInt8):Bool := !white c && c != 47 && c != 62
inductive Here where
  | text:Here
  | stop:Here
  | gone (rest:Bs):Here
  | tag (t:Tok) (rest:Bs):Here
def q04 (l:Bs):Bool := match l with | c :: _ => Mg.isLet c | [] => false
def z5c (r:Bs):Here :=
  let nm := Mg.fold (r.takeWhile Y3)
  match z3p (r.dropWhile Y3) with
  | none => .stop
  | some (l, rest) => if isName nm then .tag ⟨2, nm, l, []⟩ rest else .gone rest
def z2g (r:Bs):Here :=
  let nm := Mg.fold (r.takeWhile Y3)
  match behind [62] (r.dropWhile Y3) with
  | none => .stop
  | some rest => if isName nm then .tag ⟨3, nm, [], []⟩ rest else .gone rest
def z1g (p r:Bs):Here := match behind p r with | none => .stop | some rest => .gone rest
def hereAt (r:Bs):Here :=
  if q04 r.tail then z5c r.tail
  else if Mg.pre [60, 47] r && q04 (r.drop 2) then z2g (r.drop 2)
  else if Mg.pre [60, 33, 45, 45] r then z1g [45, 45, 62] (r.drop 2)
  else if Mg.pre [60, 33] r || Mg.pre [60, 63] r || Mg.pre [60, 47] r then z1g [62] r
  else .text
def flush (text:Bs) (out:List Tok):List Tok := let t := (take text).1; if t=[] then out else out ++ [⟨1, [], [], t⟩]
def z0p:Nat → Bs → Bs → List Tok → List Tok
  | 0, _, text, out => flush text out
  | _ + 1, [], text, out => flush text out
  | n + 1, c :: t, text, out =>
    if c=60 then
      match hereAt (c :: t) with
      | .text => z0p n t (text ++ [60]) out
      | .stop => flush (text ++ c :: t) out
      | .gone rest => z0p n rest text out
      | .tag k rest => z0p n rest [] (flush text out ++ [k])
    else z0p n t (text ++ [c]) out
def toks (s:Bs):List Tok := z0p s.length s [] []

inductive Fo where
  | nil:Fo
  | node (name:Bs) (ats:List At) (text:Bs) (kids rest:Fo):Fo
  deriving DecidableEq
namespace Fo
def len:Fo → Nat | nil => 0 | node _ _ _ _ r => r.len + 1
def app:Fo → Fo → Fo | nil, g => g | node n a t k r, g => node n a t k (r.app g)
def snoc (n:Bs) (a:List At) (t:Bs) (k:Fo):Fo → Fo
  | nil => node n a t k nil
  | node n' a' t' k' nil => if n=[] ∧ n'=[] then node n' a' (t' ++ t) k' nil else node n' a' t' k' (node n a t k nil)
  | node n' a' t' k' (node m b u j r) => node n' a' t' k' (snoc n a t k (node m b u j r))
def joins (f:Fo):Fo → Fo
  | nil => f
  | node n a t k r => joins (snoc n a t k f) r
end Fo

def z09 (n:Bs):Bool := n == [98, 114] || n == [104, 114] || n == [105, 109, 103]
def z4r (n:Bs):Bool := n == [117, 108] || n == [111, 108]
def z1i (n:Bs):Bool := z4r n || n == [108, 105] || n == [98, 108, 111, 99, 107, 113, 117, 111, 116, 101]
def z1p (n:Bs):Bool := z1i n || n == [112] || n == [104, 114]
def q0h (x:Bs) (q:Bs → Bool):List Bs → Option Nat
  | [] => none
  | n :: r => if n=x then some r.length else if q n then none else q0h x q r
def above (x:Bs) (q:Bs → Bool) (l:List Bs):Option Nat := q0h x q l.reverse
def z9w (l:List Bs):Option Nat → List Bs | none => l | some k => l.take k
def stays (l:List Bs) (n:Bs):Nat :=
  let l1 := if z1p n then z9w l (above [112] z1i l) else l
  let l2 := if n == [108, 105] then z9w l1 (above [108, 105] z4r l1) else l1
  l2.length

structure Op where
  name:Bs
  ats:List At
  kids:Fo
structure Bld where
  root:Fo
  open_:List Op
namespace Bld
def z3v (b:Bld) (n:Bs) (a:List At) (t:Bs) (k:Fo):Bld :=
  match b.open_.reverse with
  | [] => { b with root := Fo.snoc n a t k b.root }
  | o :: r => { b with open_ := (({ o with kids := Fo.snoc n a t k o.kids }:Op) :: r).reverse }
def pop (b:Bld):Bld :=
  match b.open_.reverse with
  | [] => b
  | o :: r => Bld.z3v { b with open_ := r.reverse } o.name o.ats [] o.kids
def z2c:Nat → Bld → Bld | 0, b => b | n + 1, b => z2c n b.pop
def close (b:Bld) (many:Nat):Bld := z2c (b.open_.length - many) b
def names (b:Bld):List Bs := b.open_.map (·.name)
def token (b:Bld) (t:Tok):Bld :=
  if t.kind=1 then b.z3v [] [] t.text .nil
  else if t.kind=2 then
    let c := b.close (stays b.names t.name)
    if c.open_.length=8 then c
    else if z09 t.name then c.z3v t.name t.ats [] .nil
    else { c with open_ := c.open_ ++ [⟨t.name, t.ats, .nil⟩] }
  else if t.kind=3 then
    match above t.name (fun _ => false) b.names with
    | none => b
    | some i => b.close i
  else b
end Bld
def build (l:List Tok):Fo := ((l.foldl Bld.token ⟨.nil, []⟩).close 0).root

def z0u:Nat → Fo → Nat × Nat
  | _, .nil => (0, 0)
  | most, .node n _ _ k r =>
    let x := z0u most r
    if n=[] then (x.1 + 1, x.2)
    else match most with
      | 0 => (x.1 + 1, max 1 x.2)
      | m + 1 => let y := z0u m k; (x.1 + 1 + y.1, max (max 1 (y.2 + 1)) x.2)
def Q9 (q:Bs → Bool):List At → List At → Int
  | _, [] => 0
  | seen, a :: r => if !q a.n then 1 else if z0x seen a.n then 6 else Q9 q (seen ++ [a]) r
def z0t (names:List Bs) (n:Bs) (a:List At) (t:Bs) (k:Fo):Int :=
  if n=[] then (if t=[]∨a ≠ []∨k ≠ .nil then 1 else 0)
  else if t ≠ []∨!isName n∨(z09 n ∧ k ≠ .nil) then 1
  else if Q9 isName [] a ≠ 0 then Q9 isName [] a
  else if stays names n < names.length then 4 else 0
def Q8:Fo → List Bs → Bool → Int
  | .nil, _, _ => 0
  | .node n a t k r, names, prev =>
    if z0t names n a t k ≠ 0 then z0t names n a t k
    else if n=[] ∧ prev then 4
    else if Q8 k (names ++ [n]) false ≠ 0 then Q8 k (names ++ [n]) false
    else Q8 r names (decide (n=[]))
def z4x (f:Fo):Int := if 3000 < (z0u 8 f).1∨8 < (z0u 8 f).2 then 2 else Q8 f [] false
def flat:Fo → List Tok
  | .nil => []
  | .node n a t k r =>
    if n=[] then ⟨1, [], [], t⟩ :: flat r
    else ⟨2, n, a, []⟩ :: ((if z09 n then [] else flat k ++ [⟨3, n, [], []⟩]) ++ flat r)
def written (l:List At):Bs := l.flatMap (fun a => [32] ++ a.n ++ [61, 34] ++ put a.v ++ [34])
def X6 (t:Tok):Bs :=
  if t.kind=1 then put t.text
  else if t.kind=2 then [60] ++ t.name ++ written t.ats ++ [62]
  else if t.kind=3 then [60, 47] ++ t.name ++ [62]
  else []
def bytes (l:List Tok):Bs := l.flatMap X6

def light (base s:Bs):Bs :=
  if 3000 < base.length∨3000 < s.length∨Mg.z0n base=0 then s
  else match Mg.res base s with | none => s | some t => t
def z8o:List Bs := [[97], [98], [105], [101, 109], [115, 116, 114, 111, 110, 103], [112], [98, 114], [104, 114], [117, 108], [111, 108], [108, 105], [98, 108, 111, 99, 107, 113, 117, 111, 116, 101], [99, 111, 100, 101], [105, 109, 103]]
def X3 (n:Bs):Bool := z8o.contains n
def z8m (n:Bs):Bool := n == [115, 99, 114, 105, 112, 116] || n == [115, 116, 121, 108, 101] || n == [116, 101, 109, 112, 108, 97, 116, 101]
def z6b (n:Bs):Bool := n == [104, 114, 101, 102] || n == [115, 114, 99]
def mayB (e n:Bs):Bool :=
  if e=[97] then n == [104, 114, 101, 102] || n == [116, 105, 116, 108, 101]
  else if e=[105, 109, 103] then n == [115, 114, 99] || n == [97, 108, 116]
  else false
def V3 (s:Bs):Bool := Mg.isSafe s && decide (s.length ≤ 3000)
def V9 (base e:Bs) (a:At):List At :=
  if !mayB e a.n then []
  else if z6b a.n then (if V3 (light base a.v) then [⟨a.n, light base a.v⟩] else [])
  else [a]
def Z5 (base e:Bs) (l:List At):List At := l.flatMap (V9 base e)
def Q7 (base:Bs):Fo → Fo → Fo
  | out, .nil => out
  | out, .node n a t k r =>
    Q7 base
      (if n=[] then Fo.snoc n a t k out
       else if z8m n then out
       else
         let kids := Q7 base .nil k
         if !X3 n then Fo.joins out kids
         else
           let l := Z5 base n a
           if n=[105, 109, 103] ∧ z0x l [115, 114, 99]=false then out
           else Fo.snoc n l [] kids out) r
def clean (base:Bs) (f:Fo):Fo := Q7 base .nil f
def z4v (e:Bs) (l:List At):Bool := l.any (fun a => !mayB e a.n || (z6b a.n && !V3 a.v))
def z2t:Fo → Bool
  | .nil => true
  | .node n a _ k r => !((decide (n ≠ []) && (!X3 n || z4v n a || (decide (n=[105, 109, 103]) && !z0x a [115, 114, 99]))) || !z2t k) && z2t r
def html (base s:Bs):Bs := bytes (flat (clean base (build (toks s))))

end Mk
