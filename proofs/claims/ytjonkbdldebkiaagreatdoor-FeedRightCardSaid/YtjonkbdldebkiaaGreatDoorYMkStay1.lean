/- The plain law of trees: what is clean is right, and cleaned again it is the same; a right tree built of its own tokens is the same; what is built is right. No program in sight. -/
import Derived.Test.YtjonkbdldebkiaaGreatDoorYMkTree2
set_option linter.unusedVariables false
set_option linter.unusedSimpArgs false
namespace Mk
open Fo
namespace Fo
def depth:Fo→Nat | nil=>0 | node n _ _ k r=>if n=[] then r.depth else max (k.depth + 1) r.depth
def count:Fo→Nat | nil=>0 | node _ _ _ k r=>k.count + r.count + 1
def j4n:Fo→Bool | nil=>false | node n _ _ _ nil=>decide (n=[]) | node _ _ _ _ (node m b u j r)=>j4n (node m b u j r)
theorem q97:∀ f:Fo,f.app nil=f
 | nil=>rfl
 | node n a t k r=>by show node n a t k (r.app nil)=_;rw[q97 r]
theorem q1q:∀ f g h:Fo,(f.app g).app h=f.app (g.app h)
 | nil,_,_=>rfl
 | node n a t k r,g,h=>by show node n a t k ((r.app g).app h)=node n a t k (r.app (g.app h));rw[q1q r g h]
theorem z9i (n:Bs) (a:List At) (t:Bs) (k:Fo):∀ f:Fo,¬(n=[]∧j4n f=true)→snoc n a t k f=f.app (node n a t k nil)
 | nil,_=>rfl
 | node n' a' t' k' nil,h=>by
  have h2:¬(n=[]∧n'=[]):=fun e=>h ⟨e.1,by simp[j4n,e.2]⟩
  unfold snoc;rw[if_neg h2];rfl
 | node n' a' t' k' (node m b u j r),h=>by
  have h2:=z9i n a t k (node m b u j r) h;show node n' a' t' k' (snoc n a t k (node m b u j r))=node n' a' t' k' _;rw[h2]
theorem q5r (n:Bs) (a:List At) (t:Bs) (k:Fo):∀ f:Fo,j4n (f.app (node n a t k nil))=decide (n=[])
 | nil=>rfl
 | node n' a' t' k' nil=>rfl
 | node n' a' t' k' (node m b u j r)=>q5r n a t k (node m b u j r)
end Fo
theorem size_to:∀ (f:Fo) (m:Nat),right f→f.depth≤m→z0u m f=(f.count,f.depth):=by
 intro f
 induction f with
 | nil=>intro m _ _;cases m <;> rfl
 | node n a t k r ihk ihr =>
  intro m h hd;obtain⟨g1,g2,g3,g4,g5⟩:=h
  by_cases hn:n=[]
  ·have hk:=g1 hn
   subst hk;simp only [depth,hn,if_true] at hd;have q:=ihr m g5 hd
   cases m <;> simp[z0u,hn,q,count,depth]
  ·simp only [depth,hn,if_false] at hd
   cases m with
   | zero=>omega
   | succ m =>
    have q:=ihr (m + 1) g5 (by omega);have q2:=ihk m g4 (by omega);simp only [z0u,hn,if_false,q,q2,count,depth]
    congr 1
    omega
theorem z5f (n:Bs) (a:List At) (t:Bs) (k:Fo):∀ f:Fo,(snoc n a t k f).count≤f.count + k.count + 1
 | nil=>by simp[snoc,count]
 | node n' a' t' k' nil=>by
  unfold snoc
  split
  ·simp[count];omega
  ·simp[count];omega
 | node n' a' t' k' (node m b u j r)=>by
  have:=z5f n a t k (node m b u j r);show k'.count + (snoc n a t k (node m b u j r)).count + 1≤k'.count + (node m b u j r).count + 1 + k.count + 1;omega
theorem z2l (n:Bs) (a:List At) (t:Bs) (k:Fo) (D:Nat) (hk:n ≠ []→k.depth + 1≤D):∀ f:Fo,f.depth≤D→(snoc n a t k f).depth≤D
 | nil,_=>by
  by_cases hn:n=[]
  ·simp[snoc,depth,hn]
  ·have:=hk hn
   simp only [snoc,depth,hn,if_false];omega
 | node n' a' t' k' nil,h=>by
  unfold snoc
  by_cases hn':n'=[]
  ·by_cases hn:n=[]
   ·simp[hn,hn',depth]
   ·have:=hk hn
    simp only [hn,hn',false_and,if_false,depth,if_true];omega
  ·simp only [hn',and_false,if_false,depth] at h ⊢
   by_cases hn:n=[]
   ·simp only [hn,if_true]
    exact h
   ·have:=hk hn
    simp only [hn,if_false];omega
 | node n' a' t' k' (node m b u j r),h=>by
  show depth (node n' a' t' k' (snoc n a t k (node m b u j r)))≤D
  by_cases hn':n'=[]
  ·have e:∀ x,depth (node n' a' t' k' x)=x.depth:=fun x=>by simp[depth,hn']
   rw[e] at h ⊢;exact z2l n a t k D hk _ h
  ·have e:∀ x,depth (node n' a' t' k' x)=max (k'.depth + 1) x.depth:=fun x=>by simp[depth,hn']
   rw[e] at h ⊢;have:=z2l n a t k D hk (node m b u j r) (by omega);omega
theorem z2j {n:Bs} {a:List At} {t:Bs} {k r:Fo} {D:Nat} (h:(node n a t k r).depth≤D):(n ≠ []→k.depth + 1≤D)∧r.depth≤D:=by
 by_cases hn:n=[]
 ·simp only [depth,hn,if_true] at h
  exact⟨fun q=>absurd hn q,h⟩
 ·simp only [depth,hn,if_false] at h
  exact⟨fun _=>by omega,by omega⟩
theorem j02 (D:Nat):∀ g f:Fo,f.depth≤D→g.depth≤D→(joins f g).depth≤D:=by
 intro g
 induction g with
 | nil=>intro f h _;exact h
 | node n a t k r _ ih =>
  intro f h1 h2;obtain⟨q1,q2⟩:=z2j h2;exact ih _ (z2l n a t k D q1 f h1) q2
theorem j01:∀ g f:Fo,(joins f g).count≤f.count + g.count:=by
 intro g
 induction g with
 | nil=>intro f;exact Nat.le_refl _
 | node n a t k r _ ih =>
  intro f;have h1:=ih (snoc n a t k f);have h2:=z5f n a t k f;show (joins (snoc n a t k f) r).count≤f.count + (k.count + r.count + 1);omega
theorem q7a (base:Bs) (D:Nat):∀ f out:Fo,(Q7 base out f).count≤out.count + f.count∧(out.depth≤D→f.depth≤D→(Q7 base out f).depth≤D):=by
 intro f
 induction f generalizing D with
 | nil=>intro out;exact⟨Nat.le_refl _,fun h _=>h⟩
 | node n a t k r ihk ihr =>
  intro out;unfold Q7
  by_cases hn:n=[]
  ·rw[if_pos hn]
   obtain⟨r1,r2⟩:=ihr D (snoc n a t k out);have:=z5f n a t k out;refine⟨by simp only [count];omega,fun h1 h2=>?_⟩;obtain⟨q1,q2⟩:=z2j h2;exact r2 (z2l n a t k D q1 out h1) q2
  rw[if_neg hn]
  by_cases hg:z8m n=true
  ·rw[if_pos hg]
   obtain⟨r1,r2⟩:=ihr D out;exact⟨by simp only [count];omega,fun h1 h2=>r2 h1 (z2j h2).2⟩
  rw[if_neg hg];simp only;obtain⟨k1,_⟩:=ihk 0 nil
  by_cases hal:X3 n=true
  ·rw[if_neg (by simp[hal])]
   by_cases hi:n=[105,109,103]∧z0x (Z5 base n a) [115,114,99]=false
   ·rw[if_pos hi]
    obtain⟨r1,r2⟩:=ihr D out;exact⟨by simp only [count];omega,fun h1 h2=>r2 h1 (z2j h2).2⟩
   ·rw[if_neg hi]
    obtain⟨r1,r2⟩:=ihr D (snoc n (Z5 base n a) [] (Q7 base nil k) out);have:=z5f n (Z5 base n a) [] (Q7 base nil k) out;refine⟨by simp only [count] at k1 ⊢;omega,fun h1 h2=>?_⟩;obtain⟨q1,q2⟩:=z2j h2;refine r2 (z2l n _ [] _ D (fun h=>?_) out h1) q2;have q3:=q1 h;have:=(ihk (D - 1) nil).2 (Nat.zero_le _) (by omega);omega
  ·rw[if_pos (by simpa using hal)]
   obtain⟨r1,r2⟩:=ihr D (joins out (Q7 base nil k));have:=j01 (Q7 base nil k) out;refine⟨by simp only [count] at k1 ⊢;omega,fun h1 h2=>?_⟩;obtain⟨q1,q2⟩:=z2j h2;exact r2 (j02 D _ out h1 ((ihk D nil).2 (Nat.zero_le _) (by have:=q1 hn;omega))) q2
theorem V5 (n:Bs) (a:List At) (t:Bs) (k r:Fo) (names:List Bs) (prev:Bool):Q8 (node n a t k r) names prev=0↔z0t names n a t k=0∧¬(n=[]∧prev=true)∧Q8 k (names++[n]) false=0∧Q8 r names (decide (n=[]))=0:=by
 rw[Q8]
 by_cases h1:z0t names n a t k=0
 ·rw[if_neg (by simpa using h1)]
  by_cases h2:n=[]∧prev=true
  ·rw[if_pos h2]
   exact⟨fun h=>(by cases h),fun h=>absurd h2 h.2.1⟩
  ·rw[if_neg h2]
   by_cases h3:Q8 k (names++[n]) false=0
   ·rw[if_neg (by simpa using h3)]
    exact⟨fun h=>⟨h1,h2,h3,h⟩,fun h=>h.2.2.2⟩
   ·rw[if_pos h3]
    exact⟨fun h=>absurd h h3,fun h=>absurd h.2.2.1 h3⟩
 ·rw[if_pos h1]
  exact⟨fun h=>absurd h h1,fun h=>absurd h.1 h1⟩
theorem z1q (names:List Bs) (a:List At) (t:Bs) (k:Fo):z0t names [] a t k=0↔t ≠ []∧a=[]∧k=nil:=by
 unfold z0t;rw[if_pos rfl]
 by_cases h:t=[]∨a ≠ []∨k ≠ nil
 ·rw[if_pos h]
  refine⟨fun e=>(by cases e),fun e=>?_⟩
  rcases h with h | h | h
  ·exact absurd h e.1
  ·exact absurd e.2.1 h
  ·exact absurd e.2.2 h
 ·rw[if_neg h]
  refine⟨fun _=>⟨fun e=>h (.inl e),Classical.byContradiction fun e=>h (.inr (.inl e)),Classical.byContradiction fun e=>h (.inr (.inr e))⟩,fun _=>rfl⟩
theorem z7o (names:List Bs) (n:Bs) (hn:n ≠ []) (a:List At) (t:Bs) (k:Fo):z0t names n a t k=0↔t=[]∧isName n=true∧(z09 n=true→k=nil)∧Q9 isName [] a=0∧names.length≤stays names n:=by
 unfold z0t;rw[if_neg hn]
 by_cases h:t ≠ []∨(!isName n)=true∨(z09 n=true∧k ≠ nil)
 ·rw[if_pos h]
  refine⟨fun e=>(by cases e),fun e=>?_⟩
  rcases h with h | h | h
  ·exact absurd e.1 h
  ·rw[e.2.1] at h;cases h
  ·exact absurd (e.2.2.1 h.1) h.2
 ·rw[if_neg h]
  have f1:t=[]:=Classical.byContradiction fun e=>h (.inl e)
  have f2:isName n=true:=by
   cases q:isName n with
   | true=>rfl
   | false=>exact absurd (.inr (.inl (by rw[q];rfl))) h
  have f3:z09 n=true→k=nil:=fun q=>Classical.byContradiction fun e=>h (.inr (.inr ⟨q,e⟩))
  by_cases h4:Q9 isName [] a=0
  ·rw[if_neg (by simpa using h4)]
   by_cases h5:stays names n < names.length
   ·rw[if_pos h5]
    exact⟨fun e=>(by cases e),fun e=>absurd h5 (Nat.not_lt.2 e.2.2.2.2)⟩
   ·rw[if_neg h5]
    exact⟨fun _=>⟨f1,f2,f3,h4,Nat.not_lt.1 h5⟩,fun _=>rfl⟩
  ·rw[if_pos h4]
   exact⟨fun e=>absurd e h4,fun e=>absurd e.2.2.2.1 h4⟩
theorem z3l (names:List Bs) (n:Bs) (a:List At) (t:Bs) (k:Fo) (hn:z0t names n a t k=0) (hk:Q8 k (names++[n]) false=0):∀ (f:Fo) (prev:Bool),Q8 f names prev=0→(f=nil→¬(n=[]∧prev=true))→Q8 (snoc n a t k f) names prev=0
 | nil,prev,_,h2=>(V5 n a t k nil names prev).2 ⟨hn,h2 rfl,hk,rfl⟩
 | node n' a' t' k' nil,prev,h,_=>by
  obtain⟨g1,g2,g3,g4⟩:=(V5 ..).1 h;unfold snoc
  split
  ·rename_i e
   obtain⟨e1,e2⟩:=e;subst e2;obtain⟨q1,q2,q3⟩:=(z1q ..).1 g1;exact(V5 ..).2 ⟨(z1q ..).2 ⟨by simp[q1],q2,q3⟩,g2,g3,rfl⟩
  ·rename_i e
   refine(V5 ..).2 ⟨g1,g2,g3,(V5 ..).2 ⟨hn,fun q=>e ⟨q.1,by simpa using q.2⟩,hk,rfl⟩⟩
 | node n' a' t' k' (node m b u j r),prev,h,_=>by
  obtain⟨g1,g2,g3,g4⟩:=(V5 ..).1 h;exact(V5 ..).2 ⟨g1,g2,g3,z3l names n a t k hn hk (node m b u j r) _ g4 (fun e=>by cases e)⟩
theorem j00 (names:List Bs):∀ (g:Fo) (p:Bool) (f:Fo),Q8 f names false=0→Q8 g names p=0→Q8 (joins f g) names false=0:=by
 intro g
 induction g with
 | nil=>intro p f h _;exact h
 | node n a t k r _ ih =>
  intro p f h1 h2;obtain⟨g1,g2,g3,g4⟩:=(V5 ..).1 h2;exact ih _ _ (z3l names n a t k g1 g3 f false h1 (fun _ q=>by cases q.2)) g4
def z0e (x:Bs) (q:Bs→Bool):List Bs→Option (List Bs)
 | []=>none
 | n :: r=>if n=x then some r else if q n then none else z0e x q r
theorem z8h (x:Bs) (q:Bs→Bool):∀ l,q0h x q l=(z0e x q l).map List.length
 | []=>rfl
 | n :: r=>by
  unfold q0h z0e
  by_cases h:n=x
  ·rw[if_pos h,if_pos h];rfl
  ·rw[if_neg h,if_neg h]
   by_cases h2:q n=true
   ·rw[if_pos h2,if_pos h2];rfl
   ·rw[if_neg h2,if_neg h2];exact z8h x q r
theorem z6y (x:Bs) (q:Bs→Bool):∀ l r,z0e x q l=some r→∃ m,l=m++x :: r
 | [],_,h=>by cases h
 | n :: l,r,h=>by
  unfold z0e at h
  by_cases h1:n=x
  ·rw[if_pos h1] at h
   injection h with h;exact⟨[],by rw[h1,h];rfl⟩
  ·rw[if_neg h1] at h
   by_cases h2:q n=true
   ·rw[if_pos h2] at h;cases h
   ·rw[if_neg h2] at h
    obtain⟨m,e⟩:=z6y x q l r h;exact⟨n :: m,by rw[e];rfl⟩
theorem q45 (x:Bs) (q:Bs→Bool) (l:List Bs):z9w l.reverse (above x q l.reverse)=((z0e x q l).getD l).reverse:=by
 unfold above;rw[List.reverse_reverse,z8h]
 cases h:z0e x q l with
 | none=>rfl
 | some r =>
  obtain⟨m,e⟩:=z6y x q l r h;show l.reverse.take r.length=r.reverse;rw[e];simp
def li:Bs:=[108,105]
def z0q (l:List Bs) (n:Bs):List Bs :=
 let l1:=if z1p n then (z0e [112] z1i l).getD l else l
 if n == li then (z0e li z4r l1).getD l1 else l1
theorem z6i (l:List Bs) (n:Bs):stays l.reverse n=(z0q l n).length:=by
 unfold stays z0q;simp only;have e:(if z1p n=true then z9w l.reverse (above [112] z1i l.reverse) else l.reverse)=(if z1p n=true then (z0e [112] z1i l).getD l else l).reverse:=by
  by_cases h:z1p n=true
  ·rw[if_pos h,if_pos h,q45]
  ·rw[if_neg h,if_neg h]
 rw[e];generalize (if z1p n=true then (z0e [112] z1i l).getD l else l)=l1;show (if (n == li)=true then z9w l1.reverse (above li z4r l1.reverse) else l1.reverse).length=_
 by_cases h:(n == li)=true
 ·rw[if_pos h,if_pos h,q45,List.length_reverse]
 ·rw[if_neg h,if_neg h,List.length_reverse]
def Fine (l:List Bs) (n:Bs):Prop:=(z1p n=true→z0e [112] z1i l=none)∧(n=li→z0e li z4r l=none)
theorem q00 {l:List Bs} {n:Bs} (h:Fine l n):z0q l n=l:=by
 unfold z0q;have e:(if z1p n=true then (z0e [112] z1i l).getD l else l)=l:=by
  by_cases q:z1p n=true
  ·rw[if_pos q,h.1 q];rfl
  ·rw[if_neg q]
 simp only [e]
 by_cases q:(n == li)=true
 ·rw[if_pos q,h.2 (by simpa using q)];rfl
 ·rw[if_neg q]
theorem z97 (x:Bs) (q:Bs→Bool) (l:List Bs):((z0e x q l).getD l).length≤l.length∧(z0e x q l ≠ none→((z0e x q l).getD l).length < l.length):=by
 cases h:z0e x q l with
 | none=>exact⟨Nat.le_refl _,fun q=>absurd rfl q⟩
 | some r =>
  obtain⟨m,e⟩:=z6y x q l r h;have:r.length < l.length:=by rw[e];simp;omega
  exact⟨Nat.le_of_lt this,fun _=>this⟩
theorem q4u {l:List Bs} {n:Bs} (h:l.length≤(z0q l n).length):Fine l n:=by
 have hl:∀ l1:List Bs,(if (n == li)=true then (z0e li z4r l1).getD l1 else l1).length≤l1.length:=fun l1=>by
  split
  ·exact(z97 ..).1
  ·exact Nat.le_refl _
 have h1:z1p n=true→z0e [112] z1i l=none:=fun q=>Classical.byContradiction fun c=>by
  have f:=(z97 [112] z1i l).2 c;unfold z0q at h;simp only [q,if_true] at h;have:=hl ((z0e [112] z1i l).getD l);omega
 refine⟨h1,fun q=>Classical.byContradiction fun c=>?_⟩;have hb:z1p n=true:=by rw[q];decide
 have f:=(z97 li z4r l).2 c;unfold z0q at h;simp only [hb,if_true,h1 hb,Option.getD_none] at h;rw[if_pos (by simpa using q)] at h;omega
theorem z4g (x:Bs) (q p:Bs→Bool) (h1:p x=true) (h2:∀ n,q n=true→p n=true):∀ l,z0e x q l=none→z0e x q (l.filter p)=none
 | [],_=>rfl
 | n :: r,h=>by
  unfold z0e at h
  by_cases e:n=x
  ·rw[if_pos e] at h;cases h
  rw[if_neg e] at h
  by_cases e2:q n=true
  ·rw[List.filter_cons_of_pos (h2 n e2)]
   unfold z0e;rw[if_neg e,if_pos e2]
  ·rw[if_neg e2] at h
   by_cases e3:p n=true
   ·rw[List.filter_cons_of_pos e3]
    unfold z0e;rw[if_neg e,if_neg e2];exact z4g x q p h1 h2 r h
   ·rw[List.filter_cons_of_neg e3]
    exact z4g x q p h1 h2 r h
theorem j9g (n:Bs) (h:z4r n=true):X3 n=true:=by
 unfold z4r at h
 rcases Bool.or_eq_true_iff.1 h with q | q <;> · rw[eq_of_beq q];decide
theorem wall_ok (n:Bs) (h:z1i n=true):X3 n=true:=by
 unfold z1i at h
 rcases Bool.or_eq_true_iff.1 h with q | q
 ·rcases Bool.or_eq_true_iff.1 q with q | q
  ·exact j9g n q
  ·rw[eq_of_beq q];decide
 ·rw[eq_of_beq q];decide
def thin (l:List Bs):List Bs:=l.filter X3
theorem j8q {l:List Bs} {n:Bs} (h:Fine l n):Fine (thin l) n:=⟨fun q=>z4g _ _ _ (by decide) wall_ok l (h.1 q),fun q=>z4g _ _ _ (by decide) j9g l (h.2 q)⟩
theorem j5y (l:List Bs) (n:Bs) (h:l.length≤stays l n):(thin l).length≤stays (thin l) n:=by
 have e:l=l.reverse.reverse:=by simp
 have e2:thin l=(thin l.reverse).reverse:=by unfold thin;rw[List.filter_reverse,List.reverse_reverse]
 rw[e,z6i,List.length_reverse] at h;have hf:=j8q (q4u (l:=l.reverse) (n:=n) (by simpa using h));rw[e2,z6i,q00 hf,List.length_reverse];exact Nat.le_refl _
theorem q7p (l:List At) (a:At) (n:Bs):z0x (l++[a]) n=(z0x l n || a.n == n):=by simp[z0x]
theorem z1e (seen:List At) (a:At) (r:List At):Q9 isName seen (a :: r)=0↔isName a.n=true∧z0x seen a.n=false∧Q9 isName (seen++[a]) r=0:=by
 rw[Q9]
 cases h1:isName a.n with
 | false=>simp
 | true =>
  cases h2:z0x seen a.n with
  | true=>simp
  | false=>simp
theorem q9p (base e:Bs) (a:At):V9 base e a=[]∨∃ v,V9 base e a=[⟨a.n,v⟩]:=by
 unfold V9
 split
 ·exact .inl rfl
 ·split
  ·split
   ·exact .inr ⟨_,rfl⟩
   ·exact .inl rfl
  ·exact .inr ⟨a.v,rfl⟩
theorem z4m (base e:Bs):∀ (l seen seen':List At),(∀ n,z0x seen' n=true→z0x seen n=true)→Q9 isName seen l=0→Q9 isName seen' (l.flatMap (V9 base e))=0
 | [],_,_,_,_=>rfl
 | a :: r,seen,seen',hs,h=>by
  obtain⟨h1,h2,h3⟩:=(z1e ..).1 h;rw[List.flatMap_cons]
  rcases q9p base e a with q | ⟨v,q⟩
  ·rw[q,List.nil_append]
   exact z4m base e r (seen++[a]) seen' (fun n hn=>by rw[q7p,hs n hn];rfl) h3
  ·rw[q]
   show Q9 isName seen' (⟨a.n,v⟩ :: r.flatMap (V9 base e))=0;refine(z1e ..).2 ⟨h1,?_,?_⟩
   ·cases q2:z0x seen' a.n with
    | false=>rfl
    | true=>rw[hs _ q2] at h2;cases h2
   ·refine z4m base e r (seen++[a]) _ (fun n hn=>?_) h3
    rw[q7p] at hn ⊢
    rcases Bool.or_eq_true_iff.1 hn with q2 | q2
    ·rw[hs n q2];rfl
    ·rw[show (a.n == n)=true from q2,Bool.or_true]
theorem thin_app (l:List Bs) (n:Bs):thin (l++[n])=if X3 n=true then thin l++[n] else thin l:=by
 unfold thin;rw[List.filter_append]
 by_cases h:X3 n=true
 ·rw[if_pos h];simp[h]
 ·rw[if_neg h];simp[h]
theorem q5f (base:Bs):∀ (f:Fo) (names:List Bs) (prev:Bool) (out:Fo),Q8 f names prev=0→Q8 out (thin names) false=0→Q8 (Q7 base out f) (thin names) false=0:=by
 intro f
 induction f with
 | nil=>intro _ _ out _ h;exact h
 | node n a t k r ihk ihr =>
  intro names prev out h ho;obtain⟨g1,g2,g3,g4⟩:=(V5 ..).1 h;unfold Q7
  by_cases hn:n=[]
  ·rw[if_pos hn]
   subst hn;obtain⟨q1,q2,q3⟩:=(z1q ..).1 g1;subst q3;exact ihr names _ _ g4 (z3l (thin names) [] a t nil ((z1q ..).2 ⟨q1,q2,rfl⟩) rfl out false ho (fun _ q=>by cases q.2))
  rw[if_neg hn]
  by_cases hg:z8m n=true
  ·rw[if_pos hg]
   exact ihr names _ _ g4 ho
  rw[if_neg hg];simp only;obtain⟨e1,e2,e3,e4,e5⟩:=(z7o _ _ hn _ _ _).1 g1;have hk:=ihk (names++[n]) false nil g3 rfl;rw[thin_app] at hk
  by_cases hal:X3 n=true
  ·rw[if_neg (by simp[hal])]
   rw[if_pos hal] at hk
   by_cases hi:n=[105,109,103]∧z0x (Z5 base n a) [115,114,99]=false
   ·rw[if_pos hi]
    exact ihr names _ _ g4 ho
   ·rw[if_neg hi]
    refine ihr names _ _ g4 (z3l (thin names) n _ [] _ ((z7o _ _ hn _ _ _).2 ⟨rfl,e2,fun q=>by rw[e3 q];rfl,z4m base n a [] [] (fun _ q=>q) e4,j5y names n e5⟩) hk out false ho (fun _ q=>hn q.1))
  ·rw[if_pos (by simpa using hal)]
   rw[if_neg hal] at hk;exact ihr names _ _ g4 (j00 _ _ _ out ho hk)
theorem z8l (base:Bs) (f:Fo) (h:Q8 f [] false=0):Q8 (clean base f) [] false=0:=q5f base f [] false nil h rfl
theorem q9r (base:Bs) (f:Fo) (D:Nat) (h:f.depth≤D):(clean base f).depth≤D:=(q7a base D f nil).2 (Nat.zero_le _) h
theorem j05 (base v:Bs):light base (light base v)=light base v:=by
 have q:∀ x,light base x=if 3000 < base.length∨3000 < x.length∨Mg.z0n base=0 then x else match Mg.res base x with | none=>x | some t=>t:=fun _=>rfl
 by_cases h:3000 < base.length∨3000 < v.length∨Mg.z0n base=0
 ·have e:light base v=v:=by rw[q,if_pos h]
  rw[e,e]
 ·cases h2:Mg.res base v with
  | none =>
   have e:light base v=v:=by rw[q,if_neg h,h2]
   rw[e,e]
  | some t =>
   have e:light base v=t:=by rw[q,if_neg h,h2]
   rw[e,q]
   split
   ·rfl
   ·rw[(Mg.y08 base v t h2).2]
theorem q7w (v:Bs):light [] v=v:=by
 unfold light;rw[if_pos (.inr (.inr (by decide)))]
theorem z7x (b base e:Bs) (h:∀ v,light b (light base v)=light base v):∀ l:List At,Z5 b e (Z5 base e l)=Z5 base e l
 | []=>rfl
 | a :: r=>by
  have ih:=z7x b base e h r;have e1:∀ x,Z5 x e (a :: r)=V9 x e a++Z5 x e r:=fun _=>List.flatMap_cons ..
  have e2:Z5 b e (V9 base e a)=V9 base e a:=by
   unfold V9
   split
   ·rfl
   ·rename_i hm
    split
    ·rename_i hl
     split
     ·rename_i hg
      show V9 b e ⟨a.n,light base a.v⟩++[]=_;unfold V9;rw[if_neg hm,if_pos hl];simp only [h];rw[if_pos hg];rfl
     ·rfl
    ·rename_i hl
     show V9 b e a++[]=_;unfold V9;rw[if_neg hm,if_neg hl];rfl
  have e3:∀ x y:List At,Z5 b e (x++y)=Z5 b e x++Z5 b e y:=fun x y=>List.flatMap_append ..
  rw[e1,e3,e2,ih]
def Stable (base:Bs):Fo→Prop
 | nil=>True
 | node n a t k r=>(n ≠ []→z8m n=false∧X3 n=true∧t=[]∧Z5 base n a=a∧¬(n=[105,109,103]∧z0x a [115,114,99]=false))∧Stable base k∧Stable base r
theorem z6g (b n:Bs) (a:List At) (t:Bs) (k:Fo) (h:n ≠ []→z8m n=false∧X3 n=true∧t=[]∧Z5 b n a=a∧¬(n=[105,109,103]∧z0x a [115,114,99]=false)) (hk:Stable b k):∀ f,Stable b f→Stable b (snoc n a t k f)
 | nil,_=>⟨h,hk,trivial⟩
 | node n' a' t' k' nil,hf=>by
  obtain⟨g1,g2,g3⟩:=hf;unfold snoc
  split
  ·rename_i e
   exact⟨fun q=>absurd e.2 q,g2,trivial⟩
  ·exact⟨g1,g2,h,hk,trivial⟩
 | node n' a' t' k' (node m c u j r),hf=>by
  obtain⟨g1,g2,g3⟩:=hf;exact⟨g1,g2,z6g b n a t k h hk (node m c u j r) g3⟩
theorem q7t (b:Bs):∀ g f,Stable b f→Stable b g→Stable b (joins f g):=by
 intro g
 induction g with
 | nil=>intro f h _;exact h
 | node n a t k r _ ih =>
  intro f h1 h2;obtain⟨g1,g2,g3⟩:=h2;exact ih _ (z6g b n a t k g1 g2 f h1) g3
theorem q3i (b base:Bs) (h:∀ v,light b (light base v)=light base v):∀ (f out:Fo),right f→Stable b out→Stable b (Q7 base out f):=by
 intro f
 induction f with
 | nil=>intro out _ ho;exact ho
 | node n a t k r ihk ihr =>
  intro out hf ho;obtain⟨g1,g2,g3,g4,g5⟩:=hf;have hk:=ihk nil g4 trivial;unfold Q7
  by_cases hn:n=[]
  ·rw[if_pos hn]
   rw[g1 hn];exact ihr _ g5 (z6g b n a t nil (fun q=>absurd hn q) trivial out ho)
  rw[if_neg hn]
  by_cases hg:z8m n=true
  ·rw[if_pos hg]
   exact ihr _ g5 ho
  rw[if_neg hg];simp only
  by_cases hal:X3 n=true
  ·rw[if_neg (by simp[hal])]
   by_cases hi:n=[105,109,103]∧z0x (Z5 base n a) [115,114,99]=false
   ·rw[if_pos hi]
    exact ihr _ g5 ho
   ·rw[if_neg hi]
    exact ihr _ g5 (z6g b n _ [] _ (fun _=>⟨by simpa using hg,hal,rfl,z7x b base n h a,hi⟩) hk out ho)
  ·rw[if_pos (by simpa using hal)]
   exact ihr _ g5 (q7t b _ out ho hk)
theorem q38 (b:Bs):∀ (f:Fo) (names:List Bs) (out:Fo),Stable b f→right f→Q8 f names (j4n out)=0→Q7 b out f=out.app f:=by
 intro f
 induction f with
 | nil=>intro _ out _ _ _;exact(q97 out).symm
 | node n a t k r ihk ihr =>
  intro names out hs hf hc;obtain⟨g1,g2,g3⟩:=hs;obtain⟨r1,r2,r3,r4,r5⟩:=hf;obtain⟨c1,c2,c3,c4⟩:=(V5 ..).1 hc;have hsn:snoc n a t k out=out.app (node n a t k nil):=z9i n a t k out c2;have hend:Q7 b (snoc n a t k out) r=out.app (node n a t k r):=by
   rw[hsn,ihr names _ g3 r5 (by rw[q5r];exact c4),q1q];rfl
  unfold Q7
  by_cases hn:n=[]
  ·rw[if_pos hn]
   exact hend
  ·rw[if_neg hn]
   obtain⟨q1,q2,q3,q4,q5⟩:=g1 hn;rw[if_neg (by simp[q1])];have hk:Q7 b nil k=k:=ihk (names++[n]) nil g2 r4 c3;simp only [hk,q4];rw[if_neg (by simp[q2]),if_neg q5];rw[q3] at hend;rw[q3];exact hend
theorem q76 (base e:Bs):∀ l:List At,z4v e (Z5 base e l)=false
 | []=>rfl
 | a :: r=>by
  have ih:=q76 base e r;have e1:Z5 base e (a :: r)=V9 base e a++Z5 base e r:=List.flatMap_cons ..;have e2:z4v e (V9 base e a)=false:=by
   unfold V9
   split
   ·rfl
   ·rename_i hm
    have hm':mayB e a.n=true:=by simpa using hm
    split
    ·rename_i hl
     split
     ·rename_i hg
      simp[z4v,hm',hl,hg]
     ·rfl
    ·rename_i hl
     have hl':z6b a.n=false:=by simpa using hl
     simp[z4v,hm',hl']
  rw[e1];unfold z4v at e2 ih ⊢;rw[List.any_append,e2,ih];rfl
theorem z8s (b:Bs):∀ f,Stable b f→z2t f=true
 | nil,_=>rfl
 | node n a t k r,h=>by
  obtain⟨g1,g2,g3⟩:=h;have hk:=z8s b k g2;have hr:=z8s b r g3;unfold z2t;rw[hk,hr]
  by_cases hn:n=[]
  ·simp[hn]
  ·obtain⟨q1,q2,q3,q4,q5⟩:=g1 hn
   have hb:=q76 b n a;rw[q4] at hb;have h5:(decide (n=[105,109,103]) && !z0x a [115,114,99])=false:=by
    by_cases e:n=[105,109,103]
    ·cases e2:z0x a [115,114,99] with
     | true=>simp
     | false=>exact absurd ⟨e,e2⟩ q5
    ·simp[e]
   rw[q2,hb,h5];simp
theorem q42 (base:Bs) (f:Fo) (hf:right f):z2t (clean base f)=true:=z8s base _ (q3i base base (j05 base) f nil hf trivial)
namespace Bld
def R (root:Fo) (ops:List Op):Bld:=⟨root,ops.reverse⟩
def rs (root:Fo) (ops:List Op) (g:Fo):Fo:=match ops with | []=>g | _ :: _=>root
def os (ops:List Op) (g:Fo):List Op:=match ops with | []=>[] | o :: r=>{ o with kids:=g } :: r
def cur (root:Fo) (ops:List Op):Fo:=match ops with | []=>root | o :: _=>o.kids
def nmOf (ops:List Op):List Bs:=(ops.map (·.name)).reverse
theorem j7v (root:Fo) (ops:List Op) (g:Fo):cur (rs root ops g) (os ops g)=g:=by cases ops <;> rfl
theorem nm_set (ops:List Op) (g:Fo):nmOf (os ops g)=nmOf ops:=by cases ops <;> rfl
theorem z4q (ops:List Op) (g:Fo):(os ops g).length=ops.length:=by cases ops <;> rfl
theorem rs_set (root:Fo) (ops:List Op) (g h:Fo):rs (rs root ops g) (os ops g) h=rs root ops h:=by cases ops <;> rfl
theorem os_set (ops:List Op) (g h:Fo):os (os ops g) h=os ops h:=by cases ops <;> rfl
theorem z3d (root:Fo) (ops:List Op) (n:Bs) (a:List At) (t:Bs) (k:Fo):(R root ops).z3v n a t k=R (rs root ops (snoc n a t k (cur root ops))) (os ops (snoc n a t k (cur root ops))):=by
 cases ops with
 | nil=>rfl
 | cons o r=>simp[z3v,R,rs,os,cur]
theorem pop_R (root:Fo) (o:Op) (r:List Op):(R root (o :: r)).pop=(R root r).z3v o.name o.ats [] o.kids:=by simp[pop,R]
theorem q06 (root:Fo) (ops:List Op):(R root ops).names=nmOf ops:=by simp[names,R,nmOf]
theorem z6m (root:Fo) (ops:List Op):(R root ops).open_.length=ops.length:=by simp[R]
theorem z7b (ops:List Op):(nmOf ops).length=ops.length:=by simp[nmOf]
theorem j0a (o:Op) (r:List Op):nmOf (o :: r)=nmOf r++[o.name]:=by simp[nmOf]
theorem j9y (root:Fo) (ops:List Op) (o:Op):({ R root ops with open_:=(R root ops).open_++[o] }:Bld)=R root (o :: ops):=by simp[R]
theorem j8t:∀ (f root:Fo) (ops:List Op),Q8 f (nmOf ops) (j4n (cur root ops))=0→ops.length + f.depth≤8→(flat f).foldl token (R root ops)=R (rs root ops ((cur root ops).app f)) (os ops ((cur root ops).app f)):=by
 intro f
 induction f with
 | nil =>
  intro root ops _ _;rw[Fo.q97]
  cases ops <;> rfl
 | node n a t k r ihk ihr =>
  intro root ops hc hd;obtain⟨c1,c2,c3,c4⟩:=(V5 ..).1 hc;have hsn:snoc n a t k (cur root ops)=(cur root ops).app (node n a t k nil):=z9i n a t k _ c2;have hd2:=z2j (D:=8 - ops.length) (n:=n) (a:=a) (t:=t) (k:=k) (r:=r) (by omega);obtain⟨d1,d2⟩:=hd2;have hd3:n ≠ []→ops.length < 8:=fun q=>by have:=d1 q;omega
  have hrest:(flat r).foldl token ((R root ops).z3v n a t k)=R (rs root ops ((cur root ops).app (node n a t k r))) (os ops ((cur root ops).app (node n a t k r))):=by
   rw[z3d,hsn];have h:=ihr (rs root ops ((cur root ops).app (node n a t k nil))) (os ops ((cur root ops).app (node n a t k nil)));rw[j7v,nm_set,z4q,rs_set,os_set,q5r,Fo.q1q] at h;refine h c4 ?_
   by_cases hn:n=[]
   ·simp only [Fo.depth,hn,if_true] at hd
    exact hd
   ·have:=hd3 hn
    omega
  by_cases hn:n=[]
  ·subst hn
   obtain⟨q1,q2,q3⟩:=(z1q ..).1 c1;subst q2;subst q3;exact hrest
  ·obtain⟨e1,e2,e3,e4,e5⟩:=(z7o _ _ hn _ _ _).1 c1
   subst e1;have hop:=d1 hn;have hs:stays (nmOf ops) n=ops.length:=by
    have h1:stays (nmOf ops) n≤(nmOf ops).length:=by
     have:=z6i (ops.map (·.name)) n;rw[show nmOf ops=(ops.map (·.name)).reverse from rfl,this,List.length_reverse];unfold z0q;simp only;have hl:∀ l1:List Bs,(if (n == li)=true then (z0e li z4r l1).getD l1 else l1).length≤l1.length:=fun l1=>by
      split
      ·exact(z97 ..).1
      ·exact Nat.le_refl _
     refine Nat.le_trans (hl _) ?_
     split
     ·exact(z97 ..).1
     ·exact Nat.le_refl _
    rw[z7b] at h1 e5;exact Nat.le_antisymm h1 e5
   have hclose:(R root ops).close (stays (R root ops).names n)=R root ops:=by
    unfold close;rw[q06,hs,z6m,Nat.sub_self];rfl
   have h8:¬ (R root ops).open_.length=8:=by rw[z6m];have:=hd3 hn;omega
   have hopen:(R root ops).token ⟨2,n,a,[]⟩=if z09 n=true then (R root ops).z3v n a [] nil else R root (⟨n,a,nil⟩ :: ops):=by
    unfold token;rw[if_neg (by simp),if_pos (by simp)];simp only [hclose];rw[if_neg h8,j9y]
   have hflat:flat (node n a [] k r)=⟨2,n,a,[]⟩ :: ((if z09 n=true then [] else flat k++[⟨3,n,[],[]⟩])++flat r):=by
    rw[flat,if_neg hn]
   rw[hflat,List.foldl_cons,hopen]
   by_cases he:z09 n=true
   ·rw[if_pos he,if_pos he,List.nil_append]
    rw[e3 he] at hrest ⊢;exact hrest
   ·rw[if_neg he,if_neg he,List.foldl_append,List.foldl_append]
    have hk:=ihk root (⟨n,a,nil⟩ :: ops) (by rw[j0a];exact c3) (by simp only [List.length_cons];omega);have e6:(nil:Fo).app k=k:=rfl;rw[hk];show (flat r).foldl token (([⟨3,n,[],[]⟩]:List Tok).foldl token (R root (⟨n,a,(nil:Fo).app k⟩ :: ops)))=_;rw[e6];have hcl:(([⟨3,n,[],[]⟩]:List Tok).foldl token (R root (⟨n,a,k⟩ :: ops)))=(R root ops).z3v n a [] k:=by
     show (R root (⟨n,a,k⟩ :: ops)).token ⟨3,n,[],[]⟩=_;unfold token;rw[if_neg (by simp),if_neg (by simp),if_pos (by simp)];have ha:above n (fun _=>false) (R root (⟨n,a,k⟩ :: ops)).names=some ops.length:=by
      rw[q06];unfold above nmOf;rw[List.reverse_reverse,List.map_cons];unfold q0h;rw[if_pos rfl,List.length_map]
     simp only [ha];unfold close;rw[z6m,List.length_cons,Nat.add_sub_cancel_left];exact pop_R root ⟨n,a,k⟩ ops
    rw[hcl];exact hrest
theorem q3x (f:Fo) (hc:Q8 f [] false=0) (hd:f.depth≤8):build (flat f)=f:=by
 unfold build;have h:=j8t f nil [] hc (by simpa using hd);have e:(⟨nil,[]⟩:Bld)=R nil []:=rfl;rw[e,h];rfl
def j3c:List Op→Prop
 | []=>True
 | o :: r=>(o.name ≠ []∧z09 o.name=false∧isName o.name=true∧Q9 isName [] o.ats=0∧Fine (r.map (·.name)) o.name)∧Q8 o.kids (nmOf r++[o.name]) false=0∧r.length + 1 + o.kids.depth≤8∧j3c r
def BOk (root:Fo) (ops:List Op):Prop:=Q8 root [] false=0∧root.depth≤8∧j3c ops
theorem j8p {ops:List Op} {n:Bs} (h:Fine (ops.map (·.name)) n):(nmOf ops).length≤stays (nmOf ops) n:=by
 unfold nmOf;rw[z6i,q00 h,List.length_reverse];exact Nat.le_refl _
theorem q6a (root:Fo) (ops:List Op) (n:Bs) (a:List At) (t:Bs) (k:Fo) (h:BOk root ops) (hn:z0t (nmOf ops) n a t k=0) (hk:Q8 k (nmOf ops++[n]) false=0) (hd:n ≠ []→ops.length + 1 + k.depth≤8) :
  BOk (rs root ops (snoc n a t k (cur root ops))) (os ops (snoc n a t k (cur root ops))):=by
 obtain⟨h1,h2,h3⟩:=h
 cases ops with
 | nil =>
  refine⟨z3l [] n a t k hn hk root false h1 (fun _ q=>by cases q.2),z2l n a t k 8 (fun q=>?_) root h2,trivial⟩;have:=hd q;simp at this;omega
 | cons o r =>
  obtain⟨q1,q2,q3,q4⟩:=h3;rw[j0a] at hn hk;refine⟨h1,h2,q1,z3l _ n a t k hn hk o.kids false q2 (fun _ q=>by cases q.2),?_,q4⟩;have:=z2l n a t k (8 - (r.length + 1)) (fun q=>by have:=hd q;simp only [List.length_cons] at this;omega) o.kids (by omega);show r.length + 1 + (snoc n a t k o.kids).depth≤8;omega
theorem pop_ok (root:Fo) (o:Op) (r:List Op) (h:BOk root (o :: r)):BOk (rs root r (snoc o.name o.ats [] o.kids (cur root r))) (os r (snoc o.name o.ats [] o.kids (cur root r))):=by
 obtain⟨h1,h2,⟨q1,q2,q3,q4,q5⟩,p2,p3,p4⟩:=h;refine q6a root r o.name o.ats [] o.kids ⟨h1,h2,p4⟩ ((z7o _ _ q1 _ _ _).2 ⟨rfl,q3,fun e=>absurd e (by simp[q2]),q4,j8p q5⟩) p2 (fun _=>p3)
theorem z92:∀ (m:Nat) (root:Fo) (ops:List Op),BOk root ops→m≤ops.length→∃ root' ops',z2c m (R root ops)=R root' ops'∧BOk root' ops'∧ops'.map (·.name)=(ops.map (·.name)).drop m
 | 0,root,ops,h,_=>⟨root,ops,rfl,h,rfl⟩
 | m + 1,root,[],h,hm=>by simp at hm
 | m + 1,root,o :: r,h,hm=>by
  obtain⟨root',ops',e,h',q⟩:=z92 m _ _ (pop_ok root o r h) (by rw[z4q];simpa using hm);refine⟨root',ops',?_,h',?_⟩
  ·show z2c m (R root (o :: r)).pop=_
   rw[pop_R,z3d];exact e
  ·rw[q]
   cases r <;> rfl
theorem q2l (x:Bs) (q:Bs→Bool):∀ (ops:List Op) (r:List Bs),j3c ops→z0e x q (ops.map (·.name))=some r→Fine r x∧∃ ops',j3c ops'∧ops'.map (·.name)=r
 | [],_,_,h=>by cases h
 | o :: l,r,ho,h=>by
  obtain⟨q1,q2,q3,q4⟩:=ho;rw[List.map_cons] at h;unfold z0e at h
  by_cases e:o.name=x
  ·rw[if_pos e] at h
   injection h with h;subst h;rw[← e];exact⟨q1.2.2.2.2,l,q4,rfl⟩
  ·rw[if_neg e] at h
   by_cases e2:q o.name=true
   ·rw[if_pos e2] at h;cases h
   ·rw[if_neg e2] at h
    exact q2l x q l r q4 h
theorem y0e (ops:List Op) (n:Bs) (h:j3c ops):Fine (z0q (ops.map (·.name)) n) n:=by
 by_cases hb:z1p n=true
 ·unfold z0q
  simp only [hb,if_true];have key:z0e [112] z1i ((z0e [112] z1i (ops.map (·.name))).getD (ops.map (·.name)))=none∧∃ ops',j3c ops'∧ops'.map (·.name)=(z0e [112] z1i (ops.map (·.name))).getD (ops.map (·.name)):=by
   cases hf:z0e [112] z1i (ops.map (·.name)) with
   | none=>exact⟨hf,ops,h,rfl⟩
   | some r =>
    obtain⟨f1,f2⟩:=q2l _ _ ops r h hf;exact⟨f1.1 (by decide),f2⟩
  obtain⟨k1,ops',k2,k3⟩:=key;rw[← k3] at k1 ⊢
  by_cases hl:n=li
  ·rw[if_pos (by simpa using hl)]
   cases hf:z0e li z4r (ops'.map (·.name)) with
   | none=>exact⟨fun _=>k1,fun _=>hf⟩
   | some r =>
    obtain⟨f1,_⟩:=q2l _ _ ops' r k2 hf;rw[hl];exact f1
  ·rw[if_neg (by simpa using hl)]
   exact⟨fun _=>k1,fun q=>absurd q hl⟩
 ·exact⟨fun q=>absurd q hb,fun q=>absurd (by rw[q];decide) hb⟩
theorem z8t (l:List Bs) (n:Bs):z0q l n=l.drop (l.length - (z0q l n).length):=by
 have hd:∀ (x:Bs) (q:Bs→Bool) (l:List Bs),∃ m,l=m++(z0e x q l).getD l:=fun x q l=>by
  cases h:z0e x q l with
  | none=>exact⟨[],rfl⟩
  | some r =>
   obtain⟨m,e⟩:=z6y x q l r h;exact⟨m++[x],by rw[e];simp⟩
 have h1:∃ m,l=m++(if z1p n=true then (z0e [112] z1i l).getD l else l):=by
  split
  ·exact hd _ _ l
  ·exact⟨[],rfl⟩
 have h2:∃ m,l=m++z0q l n:=by
  obtain⟨m,e⟩:=h1;unfold z0q;simp only;generalize (if z1p n=true then (z0e [112] z1i l).getD l else l)=l1 at e ⊢
  split
  ·obtain⟨m2,e2⟩:=hd li z4r l1
   exact⟨m++m2,by rw[List.append_assoc,← e2];exact e⟩
  ·exact⟨m,e⟩
 obtain⟨m,e⟩:=h2;have:l.length - (z0q l n).length=m.length:=by
  have:=congrArg List.length e;simp at this;omega
 rw[this]
 conv=>rhs;rw[e]
 simp
def z3m (t:Tok):Prop:=(t.kind=1∧t.name=[]∧t.ats=[]∧t.text ≠ [])∨(t.kind=2∧isName t.name=true∧Q9 isName [] t.ats=0∧t.text=[])∨(t.kind=3∧isName t.name=true∧t.ats=[]∧t.text=[])
theorem j9p {n:Bs} (h:isName n=true):n ≠ []:=by
 rintro rfl;exact absurd h (by decide)
theorem token_ok (root:Fo) (ops:List Op) (t:Tok) (h:BOk root ops) (hl:ops.length≤8) (ht:z3m t):∃ root' ops',(R root ops).token t=R root' ops'∧BOk root' ops'∧ops'.length≤8:=by
 rcases ht with ⟨k,_,_,hx⟩ | ⟨k,hn,ha,_⟩ | ⟨k,hn,_,_⟩
 ·unfold token
  rw[if_pos k,z3d];exact⟨_,_,rfl,q6a root ops [] [] t.text nil h ((z1q ..).2 ⟨hx,rfl,rfl⟩) rfl (fun q=>absurd rfl q),by rw[z4q];exact hl⟩
 ·unfold token
  rw[if_neg (by rw[k];decide),if_pos k];have hne:=j9p hn;have hsl:stays (nmOf ops) t.name=(z0q (ops.map (·.name)) t.name).length:=z6i _ _;have hdrop:=z8t (ops.map (·.name)) t.name;rw[List.length_map] at hdrop;obtain⟨root',ops',e,h',q⟩:=z92 (ops.length - (z0q (ops.map (·.name)) t.name).length) root ops h (Nat.sub_le _ _);have hf:=y0e ops t.name h.2.2;rw[hdrop,← q] at hf;have hcl:(R root ops).close (stays (R root ops).names t.name)=R root' ops':=by
   unfold close;rw[q06,z6m,hsl];exact e
  simp only [hcl,z6m];have hl':ops'.length≤8:=by
   have:=congrArg List.length q;simp at this;omega
  by_cases h8:ops'.length=8
  ·rw[if_pos h8]
   exact⟨root',ops',rfl,h',hl'⟩
  rw[if_neg h8]
  by_cases he:z09 t.name=true
  ·rw[if_pos he,z3d]
   refine⟨_,_,rfl,q6a root' ops' t.name t.ats [] nil h' ((z7o _ _ hne _ _ _).2 ⟨rfl,hn,fun _=>rfl,ha,j8p hf⟩) rfl (fun _=>?_),by rw[z4q];exact hl'⟩;have:(nil:Fo).depth=0:=rfl;omega
  ·rw[if_neg he]
   have e2:=j9y root' ops' ⟨t.name,t.ats,nil⟩;rw[e2];refine⟨root',_,rfl,⟨h'.1,h'.2.1,⟨hne,by simpa using he,hn,ha,hf⟩,rfl,?_,h'.2.2⟩,?_⟩
   ·have:(nil:Fo).depth=0:=rfl
    show ops'.length + 1 + (nil:Fo).depth≤8;omega
   ·simp only [List.length_cons]
    omega
 ·unfold token
  rw[if_neg (by rw[k];decide),if_neg (by rw[k];decide),if_pos k]
  cases ha:above t.name (fun _=>false) (R root ops).names with
  | none=>exact⟨root,ops,rfl,h,hl⟩
  | some i =>
   simp only;unfold close;obtain⟨root',ops',e,h',q⟩:=z92 (ops.length - i) root ops h (Nat.sub_le _ _);rw[z6m];refine⟨root',ops',e,h',?_⟩;have:=congrArg List.length q;simp at this;omega
theorem j8u:∀ (l:List Tok) (root:Fo) (ops:List Op),(∀ t ∈ l,z3m t)→BOk root ops→ops.length≤8→∃ root' ops',l.foldl token (R root ops)=R root' ops'∧BOk root' ops'
 | [],root,ops,_,h,_=>⟨root,ops,rfl,h⟩
 | t :: l,root,ops,ht,h,hl=>by
  obtain⟨root',ops',e,h',hl'⟩:=token_ok root ops t h hl (ht t (by simp));rw[List.foldl_cons,e];exact j8u l root' ops' (fun x q=>ht x (by simp[q])) h' hl'
theorem q1f (l:List Tok) (h:∀ t ∈ l,z3m t):Q8 (build l) [] false=0∧(build l).depth≤8:=by
 obtain⟨root',ops',e,h'⟩:=j8u l nil [] h ⟨rfl,Nat.zero_le _,trivial⟩ (Nat.zero_le _);obtain⟨root2,ops2,e2,h2,_⟩:=z92 ops'.length root' ops' h' (Nat.le_refl _);have e3:build l=root2:=by
  unfold build;show ((l.foldl token (R nil [])).close 0).root=root2;rw[e];unfold close;rw[z6m,Nat.sub_zero,e2];rfl
 rw[e3];exact⟨h2.1,h2.2.1⟩
end Bld
end Mk
