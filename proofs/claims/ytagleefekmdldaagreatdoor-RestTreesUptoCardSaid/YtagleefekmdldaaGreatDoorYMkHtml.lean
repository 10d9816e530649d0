/- Contracts of the program's Markup and Html. Conditions on what is built; Told answers at every text and value that stays. -/
import Derived.Test.YtagleefekmdldaaGreatDoorYMkByt1
import Derived.Test.YtagleefekmdldaaGreatDoorYMkFlat1
import Derived.Test.YtagleefekmdldaaGreatDoorYMkClean4
import Derived.Test.YtagleefekmdldaaGreatDoorYMkTok7
import Derived.Test.YtagleefekmdldaaGreatDoorYUrlPlain
set_option linter.unusedVariables false
set_option linter.unusedSimpArgs false
set_option maxHeartbeats 4000000
set_option maxRecDepth 100000
namespace Mk
structure Fits (base s:Bs):Prop where
 len:s.length≤3000
 toks:Bld.tokB (toks s)≤549755813000
 built:(build (Mk.toks s)).bulk≤1048576
 out:(clean base (build (Mk.toks s))).bulk≤549755813888
 bytes:(html base s).length≤1099511627776
end Mk
namespace Go.Proofs.YtagleefekmdldaaGreatDoor
open Go.Proofs.Tryz Go.RowKit
theorem j3y (base s:List UInt8) (w:World) (hg:Gl w) (hf:Mk.Fits base s) (hT:∀ t ∈ Mk.flat (Mk.clean base (Mk.build (Mk.toks s))),z7l t) :
  Calls prog 49 #[.string (st base),.string (st s)] w fun e w'=>e=.returned (.string (st (Mk.html base s)))∧Below w.heap.size w w':=by
 have HA:=Ld (mk_All (st s) w hg (by have:=hf.len;rw[y9];omega));have HF:=Ld hf;have HT:=Ld hT;have HE:Hid (Mk.bytes (Mk.flat (Mk.clean base (Mk.build (Mk.toks s))))=Mk.html base s):=rfl;clear hf hT;go_enter func49,ntmps49;go_wp2_with fail;refine HA.out.mono ?_;rintro e w1 ⟨v1,rfl,hv1,hb1⟩;have B1:=Ld hb1;have HO:=Ld (tr_Of (Mk.toks s) v1 _ w1 hv1 (fun b q=>q.2) HF.out.toks);clear hv1 hb1 HA;go_wp2_with fail;refine HO.out.mono ?_;rintro e w2 ⟨v2,rfl,hv2,hb2⟩;have B2:=Ld (B1.out.trans (hb2.mono B1.out.size));have HC:=Ld (cl_Of base (Mk.build (Mk.toks s)) v2 _ w2 (Nat.le_trans HF.out.built (by decide)) hv2 (fun b q=>q.2));clear hv2 HO;go_wp2_with fail;refine HC.out.mono ?_;rintro e w3 ⟨v3,rfl,hv3,hb3⟩;have B3:=Ld (B2.out.trans (hb3.mono B2.out.size));have HK:=Ld (q70 ((Mk.clean base (Mk.build (Mk.toks s))).bulk + 1) (Mk.clean base (Mk.build (Mk.toks s))) (Nat.lt_succ_self _) HF.out.out v3 _ w3 hv3 (fun b q=>q.elim (fun q=>Nat.lt_of_lt_of_le q.2 hb3.size) (fun q=>q.2)));clear hv3 hb3 hb2 HC;go_wp2_with fail;refine HK.out.mono ?_;rintro e w4 ⟨v4,xs4,rfl,hv4,_,hb4⟩;have B4:=Ld (B3.out.trans (hb4.mono B3.out.size));have HB:=Ld (q9v (Mk.flat (Mk.clean base (Mk.build (Mk.toks s)))) v4 _ w4 hv4.toksV (fun b q=>q.2) HT.out HF.out.bytes);clear hv4 hb4 HK;go_wp2_with fail;refine HB.out.mono ?_;rintro e w5 ⟨rfl,hb5⟩;have B5:=Ld (B4.out.trans (hb5.mono B4.out.size));clear hb5 HB;go_wp2_with fail;go_ret;exact⟨by rw[← HE.out];rfl,B5.out⟩
theorem cl_Html (base s:List UInt8) (w:World) (hg:Gl w) (hb:base.length≤3000) (hf:Mk.Fits base s) (hT:∀ t ∈ Mk.flat (Mk.clean base (Mk.build (Mk.toks s))),z7l t) :
  Calls prog 25 #[.string (st base),.string (st s)] w fun e w'=>e=.returned (.tuple #[.string (st (Mk.html base s)),.int .i64 0])∧Below w.heap.size w w':=by
 have HM:=Ld (j3y base s w hg hf hT);have h1:¬ 3000 < (st base).size:=by rw[y9];omega
 have h2:¬ 3000 < (st s).size:=by have:=hf.len;rw[y9];omega
 clear hf hT;go_enter func25,ntmps25;go_wp2_with fail;refine HM.out.mono ?_;rintro e w1 ⟨rfl,hb1⟩;have B1:=Ld hb1;clear hb1 HM;go_wp2_with fail;go_ret2;exact⟨rfl,B1.out⟩
end Go.Proofs.YtagleefekmdldaaGreatDoor
namespace Mk
namespace Fo
def right:Fo→Prop
 | nil=>True
 | node n _ t k r=>(n=[]→k=nil)∧(n ≠ []→t=[])∧(z0n n=true→k=nil)∧right k∧right r
end Fo
open Fo

theorem q7n:∀ f names prev,Y2 f names prev=0→right f:=by
 intro f
 induction f with
 | nil=>intro _ _ _;trivial
 | node n a t k r ihk ihr =>
  intro names prev h;unfold Y2 at h
  by_cases h1:z0p names n a t k ≠ 0
  ·rw[if_pos h1] at h;exact absurd h h1
  rw[if_neg h1] at h
  by_cases h2:n=[]∧prev
  ·rw[if_pos h2] at h;cases h
  rw[if_neg h2] at h
  by_cases h3:Y2 k (names++[n]) false ≠ 0
  ·rw[if_pos h3] at h;exact absurd h h3
  rw[if_neg h3] at h;have hk:=ihk _ _ (by simpa using h3);have hr:=ihr _ _ h;have h1':z0p names n a t k=0:=by simpa using h1
  unfold z0p at h1'
  by_cases hn:n=[]
  ·rw[if_pos hn] at h1'
   by_cases hq:t=[]∨a ≠ []∨k ≠ nil
   ·rw[if_pos hq] at h1';cases h1'
   ·refine⟨fun _=>?_,fun h=>absurd hn h,fun he=>?_,hk,hr⟩
    ·exact Classical.byContradiction fun hc=>hq (.inr (.inr hc))
    ·rw[hn] at he;exact absurd he (by decide)
  ·rw[if_neg hn] at h1'
   by_cases hq:t ≠ []∨!isName n∨(z0n n∧k ≠ nil)
   ·rw[if_pos hq] at h1';cases h1'
   ·refine⟨fun h=>absurd h hn,fun _=>?_,fun he=>?_,hk,hr⟩
    ·exact Classical.byContradiction fun hc=>hq (.inl hc)
    ·exact Classical.byContradiction fun hc=>hq (.inr (.inr ⟨he,hc⟩))
end Mk
namespace Mk
open Fo
namespace Fo
def depth:Fo→Nat | nil=>0 | node n _ _ k r=>if n=[] then r.depth else max (k.depth + 1) r.depth
def count:Fo→Nat | nil=>0 | node _ _ _ k r=>k.count + r.count + 1
def j1d:Fo→Bool | nil=>false | node n _ _ _ nil=>decide (n=[]) | node _ _ _ _ (node m b u j r)=>j1d (node m b u j r)
theorem q77:∀ f:Fo,f.app nil=f
 | nil=>rfl
 | node n a t k r=>by show node n a t k (r.app nil)=_;rw[q77 r]
theorem q0g:∀ f g h:Fo,(f.app g).app h=f.app (g.app h)
 | nil,_,_=>rfl
 | node n a t k r,g,h=>by show node n a t k ((r.app g).app h)=node n a t k (r.app (g.app h));rw[q0g r g h]
theorem q08 (n:Bs) (a:List At) (t:Bs) (k:Fo):∀ f:Fo,¬(n=[]∧j1d f=true)→snoc n a t k f=f.app (node n a t k nil)
 | nil,_=>rfl
 | node n' a' t' k' nil,h=>by
  have h2:¬(n=[]∧n'=[]):=fun e=>h ⟨e.1,by simp[j1d,e.2]⟩
  unfold snoc;rw[if_neg h2];rfl
 | node n' a' t' k' (node m b u j r),h=>by
  have h2:=q08 n a t k (node m b u j r) h;show node n' a' t' k' (snoc n a t k (node m b u j r))=node n' a' t' k' _;rw[h2]
theorem q46 (n:Bs) (a:List At) (t:Bs) (k:Fo):∀ f:Fo,j1d (f.app (node n a t k nil))=decide (n=[])
 | nil=>rfl
 | node n' a' t' k' nil=>rfl
 | node n' a' t' k' (node m b u j r)=>q46 n a t k (node m b u j r)
end Fo
theorem j1w {n:Bs} {a:List At} {t:Bs} {k r:Fo} {D:Nat} (h:(node n a t k r).depth≤D):(n ≠ []→k.depth + 1≤D)∧r.depth≤D:=by
 by_cases hn:n=[]
 ·simp only [depth,hn,if_true] at h
  exact⟨fun q=>absurd hn q,h⟩
 ·simp only [depth,hn,if_false] at h
  exact⟨fun _=>by omega,by omega⟩
theorem z3a (n:Bs) (a:List At) (t:Bs) (k r:Fo) (names:List Bs) (prev:Bool):Y2 (node n a t k r) names prev=0↔z0p names n a t k=0∧¬(n=[]∧prev=true)∧Y2 k (names++[n]) false=0∧Y2 r names (decide (n=[]))=0:=by
 rw[Y2]
 by_cases h1:z0p names n a t k=0
 ·rw[if_neg (by simpa using h1)]
  by_cases h2:n=[]∧prev=true
  ·rw[if_pos h2]
   exact⟨fun h=>(by cases h),fun h=>absurd h2 h.2.1⟩
  ·rw[if_neg h2]
   by_cases h3:Y2 k (names++[n]) false=0
   ·rw[if_neg (by simpa using h3)]
    exact⟨fun h=>⟨h1,h2,h3,h⟩,fun h=>h.2.2.2⟩
   ·rw[if_pos h3]
    exact⟨fun h=>absurd h h3,fun h=>absurd h.2.2.1 h3⟩
 ·rw[if_pos h1]
  exact⟨fun h=>absurd h h1,fun h=>absurd h.1 h1⟩
theorem q39 (names:List Bs) (a:List At) (t:Bs) (k:Fo):z0p names [] a t k=0↔t ≠ []∧a=[]∧k=nil:=by
 unfold z0p;rw[if_pos rfl]
 by_cases h:t=[]∨a ≠ []∨k ≠ nil
 ·rw[if_pos h]
  refine⟨fun e=>(by cases e),fun e=>?_⟩
  rcases h with h | h | h
  ·exact absurd h e.1
  ·exact absurd e.2.1 h
  ·exact absurd e.2.2 h
 ·rw[if_neg h]
  refine⟨fun _=>⟨fun e=>h (.inl e),Classical.byContradiction fun e=>h (.inr (.inl e)),Classical.byContradiction fun e=>h (.inr (.inr e))⟩,fun _=>rfl⟩
theorem q9d (names:List Bs) (n:Bs) (hn:n ≠ []) (a:List At) (t:Bs) (k:Fo):z0p names n a t k=0↔t=[]∧isName n=true∧(z0n n=true→k=nil)∧J3 isName [] a=0∧names.length≤stays names n:=by
 unfold z0p;rw[if_neg hn]
 by_cases h:t ≠ []∨(!isName n)=true∨(z0n n=true∧k ≠ nil)
 ·rw[if_pos h]
  refine⟨fun e=>(by cases e),fun e=>?_⟩
  rcases h with h | h | h
  ·exact absurd e.1 h
  ·rw[e.2.1] at h;cases h
  ·exact absurd (e.2.2.1 h.1) h.2
 ·rw[if_neg h]
  have f1:t=[]:=Classical.byContradiction fun e=>h (.inl e)
  have f2:isName n=true:=by
   cases q:isName n with
   | true=>rfl
   | false=>exact absurd (.inr (.inl (by rw[q];rfl))) h
  have f3:z0n n=true→k=nil:=fun q=>Classical.byContradiction fun e=>h (.inr (.inr ⟨q,e⟩))
  by_cases h4:J3 isName [] a=0
  ·rw[if_neg (by simpa using h4)]
   by_cases h5:stays names n < names.length
   ·rw[if_pos h5]
    exact⟨fun e=>(by cases e),fun e=>absurd h5 (Nat.not_lt.2 e.2.2.2.2)⟩
   ·rw[if_neg h5]
    exact⟨fun _=>⟨f1,f2,f3,h4,Nat.not_lt.1 h5⟩,fun _=>rfl⟩
  ·rw[if_pos h4]
   exact⟨fun e=>absurd e h4,fun e=>absurd e.2.2.2.1 h4⟩
def z6o (x:Bs) (q:Bs→Bool):List Bs→Option (List Bs)
 | []=>none
 | n :: r=>if n=x then some r else if q n then none else z6o x q r
theorem q0f (x:Bs) (q:Bs→Bool):∀ l,z96 x q l=(z6o x q l).map List.length
 | []=>rfl
 | n :: r=>by
  unfold z96 z6o
  by_cases h:n=x
  ·rw[if_pos h,if_pos h];rfl
  ·rw[if_neg h,if_neg h]
   by_cases h2:q n=true
   ·rw[if_pos h2,if_pos h2];rfl
   ·rw[if_neg h2,if_neg h2];exact q0f x q r
theorem q1b (x:Bs) (q:Bs→Bool):∀ l r,z6o x q l=some r→∃ m,l=m++x :: r
 | [],_,h=>by cases h
 | n :: l,r,h=>by
  unfold z6o at h
  by_cases h1:n=x
  ·rw[if_pos h1] at h
   injection h with h;exact⟨[],by rw[h1,h];rfl⟩
  ·rw[if_neg h1] at h
   by_cases h2:q n=true
   ·rw[if_pos h2] at h;cases h
   ·rw[if_neg h2] at h
    obtain⟨m,e⟩:=q1b x q l r h;exact⟨n :: m,by rw[e];rfl⟩
theorem q2q (x:Bs) (q:Bs→Bool) (l:List Bs):z8l l.reverse (above x q l.reverse)=((z6o x q l).getD l).reverse:=by
 unfold above;rw[List.reverse_reverse,q0f]
 cases h:z6o x q l with
 | none=>rfl
 | some r =>
  obtain⟨m,e⟩:=q1b x q l r h;show l.reverse.take r.length=r.reverse;rw[e];simp
def li:Bs:=[108,105]
def j6k (l:List Bs) (n:Bs):List Bs :=
 let l1:=if z5o n then (z6o [112] z7i l).getD l else l
 if n == li then (z6o li z8o l1).getD l1 else l1
theorem stays_R (l:List Bs) (n:Bs):stays l.reverse n=(j6k l n).length:=by
 unfold stays j6k;simp only;have e:(if z5o n=true then z8l l.reverse (above [112] z7i l.reverse) else l.reverse)=(if z5o n=true then (z6o [112] z7i l).getD l else l).reverse:=by
  by_cases h:z5o n=true
  ·rw[if_pos h,if_pos h,q2q]
  ·rw[if_neg h,if_neg h]
 rw[e];generalize (if z5o n=true then (z6o [112] z7i l).getD l else l)=l1;show (if (n == li)=true then z8l l1.reverse (above li z8o l1.reverse) else l1.reverse).length=_
 by_cases h:(n == li)=true
 ·rw[if_pos h,if_pos h,q2q,List.length_reverse]
 ·rw[if_neg h,if_neg h,List.length_reverse]
theorem q95 (x:Bs) (q:Bs→Bool) (l:List Bs):((z6o x q l).getD l).length≤l.length∧(z6o x q l ≠ none→((z6o x q l).getD l).length < l.length):=by
 cases h:z6o x q l with
 | none=>exact⟨Nat.le_refl _,fun q=>absurd rfl q⟩
 | some r =>
  obtain⟨m,e⟩:=q1b x q l r h;have:r.length < l.length:=by rw[e];simp;omega
  exact⟨Nat.le_of_lt this,fun _=>this⟩
theorem z2u (seen:List At) (a:At) (r:List At):J3 isName seen (a :: r)=0↔isName a.n=true∧z1d seen a.n=false∧J3 isName (seen++[a]) r=0:=by
 rw[J3]
 cases h1:isName a.n with
 | false=>simp
 | true =>
  cases h2:z1d seen a.n with
  | true=>simp
  | false=>simp
theorem j5e (v:Bs):light [] v=v:=by
 unfold light;rw[if_pos (.inr (.inr (by decide)))]
def Stable (base:Bs):Fo→Prop
 | nil=>True
 | node n a t k r=>(n ≠ []→q5s n=false∧z0u n=true∧t=[]∧Q5 base n a=a∧¬(n=[105,109,103]∧z1d a [115,114,99]=false))∧Stable base k∧Stable base r
theorem q8l (b:Bs):∀ (f:Fo) (names:List Bs) (out:Fo),Stable b f→right f→Y2 f names (j1d out)=0→Y3 b out f=out.app f:=by
 intro f
 induction f with
 | nil=>intro _ out _ _ _;exact(q77 out).symm
 | node n a t k r ihk ihr =>
  intro names out hs hf hc;obtain⟨g1,g2,g3⟩:=hs;obtain⟨r1,r2,r3,r4,r5⟩:=hf;obtain⟨c1,c2,c3,c4⟩:=(z3a ..).1 hc;have hsn:snoc n a t k out=out.app (node n a t k nil):=q08 n a t k out c2;have hend:Y3 b (snoc n a t k out) r=out.app (node n a t k r):=by
   rw[hsn,ihr names _ g3 r5 (by rw[q46];exact c4),q0g];rfl
  unfold Y3
  by_cases hn:n=[]
  ·rw[if_pos hn]
   exact hend
  ·rw[if_neg hn]
   obtain⟨q1,q2,q3,q4,q5⟩:=g1 hn;rw[if_neg (by simp[q1])];have hk:Y3 b nil k=k:=ihk (names++[n]) nil g2 r4 c3;simp only [hk,q4];rw[if_neg (by simp[q2]),if_neg q5];rw[q3] at hend;rw[q3];exact hend
namespace Bld
def R (root:Fo) (ops:List Op):Bld:=⟨root,ops.reverse⟩
def rs (root:Fo) (ops:List Op) (g:Fo):Fo:=match ops with | []=>g | _ :: _=>root
def os (ops:List Op) (g:Fo):List Op:=match ops with | []=>[] | o :: r=>{ o with kids:=g } :: r
def cur (root:Fo) (ops:List Op):Fo:=match ops with | []=>root | o :: _=>o.kids
def nmOf (ops:List Op):List Bs:=(ops.map (·.name)).reverse
theorem cur_set (root:Fo) (ops:List Op) (g:Fo):cur (rs root ops g) (os ops g)=g:=by cases ops <;> rfl
theorem nm_set (ops:List Op) (g:Fo):nmOf (os ops g)=nmOf ops:=by cases ops <;> rfl
theorem len_set (ops:List Op) (g:Fo):(os ops g).length=ops.length:=by cases ops <;> rfl
theorem rs_set (root:Fo) (ops:List Op) (g h:Fo):rs (rs root ops g) (os ops g) h=rs root ops h:=by cases ops <;> rfl
theorem os_set (ops:List Op) (g h:Fo):os (os ops g) h=os ops h:=by cases ops <;> rfl
theorem putIn_R (root:Fo) (ops:List Op) (n:Bs) (a:List At) (t:Bs) (k:Fo):(R root ops).z3u n a t k=R (rs root ops (snoc n a t k (cur root ops))) (os ops (snoc n a t k (cur root ops))):=by
 cases ops with
 | nil=>rfl
 | cons o r=>simp[z3u,R,rs,os,cur]
theorem pop_R (root:Fo) (o:Op) (r:List Op):(R root (o :: r)).pop=(R root r).z3u o.name o.ats [] o.kids:=by simp[pop,R]
theorem j5k (root:Fo) (ops:List Op):(R root ops).names=nmOf ops:=by simp[names,R,nmOf]
theorem j5o (root:Fo) (ops:List Op):(R root ops).open_.length=ops.length:=by simp[R]
theorem nm_len (ops:List Op):(nmOf ops).length=ops.length:=by simp[nmOf]
theorem nm_cons (o:Op) (r:List Op):nmOf (o :: r)=nmOf r++[o.name]:=by simp[nmOf]
theorem push_R (root:Fo) (ops:List Op) (o:Op):({ R root ops with open_:=(R root ops).open_++[o] }:Bld)=R root (o :: ops):=by simp[R]
theorem j4t:∀ (f root:Fo) (ops:List Op),Y2 f (nmOf ops) (j1d (cur root ops))=0→ops.length + f.depth≤8→(flat f).foldl token (R root ops)=R (rs root ops ((cur root ops).app f)) (os ops ((cur root ops).app f)):=by
 intro f
 induction f with
 | nil =>
  intro root ops _ _;rw[Fo.q77]
  cases ops <;> rfl
 | node n a t k r ihk ihr =>
  intro root ops hc hd;obtain⟨c1,c2,c3,c4⟩:=(z3a ..).1 hc;have hsn:snoc n a t k (cur root ops)=(cur root ops).app (node n a t k nil):=q08 n a t k _ c2;have hd2:=j1w (D:=8 - ops.length) (n:=n) (a:=a) (t:=t) (k:=k) (r:=r) (by omega);obtain⟨d1,d2⟩:=hd2;have hd3:n ≠ []→ops.length < 8:=fun q=>by have:=d1 q;omega
  have hrest:(flat r).foldl token ((R root ops).z3u n a t k)=R (rs root ops ((cur root ops).app (node n a t k r))) (os ops ((cur root ops).app (node n a t k r))):=by
   rw[putIn_R,hsn];have h:=ihr (rs root ops ((cur root ops).app (node n a t k nil))) (os ops ((cur root ops).app (node n a t k nil)));rw[cur_set,nm_set,len_set,rs_set,os_set,q46,Fo.q0g] at h;refine h c4 ?_
   by_cases hn:n=[]
   ·simp only [Fo.depth,hn,if_true] at hd
    exact hd
   ·have:=hd3 hn
    omega
  by_cases hn:n=[]
  ·subst hn
   obtain⟨q1,q2,q3⟩:=(q39 ..).1 c1;subst q2;subst q3;exact hrest
  ·obtain⟨e1,e2,e3,e4,e5⟩:=(q9d _ _ hn _ _ _).1 c1
   subst e1;have hop:=d1 hn;have hs:stays (nmOf ops) n=ops.length:=by
    have h1:stays (nmOf ops) n≤(nmOf ops).length:=by
     have:=stays_R (ops.map (·.name)) n;rw[show nmOf ops=(ops.map (·.name)).reverse from rfl,this,List.length_reverse];unfold j6k;simp only;have hl:∀ l1:List Bs,(if (n == li)=true then (z6o li z8o l1).getD l1 else l1).length≤l1.length:=fun l1=>by
      split
      ·exact(q95 ..).1
      ·exact Nat.le_refl _
     refine Nat.le_trans (hl _) ?_
     split
     ·exact(q95 ..).1
     ·exact Nat.le_refl _
    rw[nm_len] at h1 e5;exact Nat.le_antisymm h1 e5
   have hclose:(R root ops).close (stays (R root ops).names n)=R root ops:=by
    unfold close;rw[j5k,hs,j5o,Nat.sub_self];rfl
   have h8:¬ (R root ops).open_.length=8:=by rw[j5o];have:=hd3 hn;omega
   have hopen:(R root ops).token ⟨2,n,a,[]⟩=if z0n n=true then (R root ops).z3u n a [] nil else R root (⟨n,a,nil⟩ :: ops):=by
    unfold token;rw[if_neg (by simp),if_pos (by simp)];simp only [hclose];rw[if_neg h8,push_R]
   have hflat:flat (node n a [] k r)=⟨2,n,a,[]⟩ :: ((if z0n n=true then [] else flat k++[⟨3,n,[],[]⟩])++flat r):=by
    rw[flat,if_neg hn]
   rw[hflat,List.foldl_cons,hopen]
   by_cases he:z0n n=true
   ·rw[if_pos he,if_pos he,List.nil_append]
    rw[e3 he] at hrest ⊢;exact hrest
   ·rw[if_neg he,if_neg he,List.foldl_append,List.foldl_append]
    have hk:=ihk root (⟨n,a,nil⟩ :: ops) (by rw[nm_cons];exact c3) (by simp only [List.length_cons];omega);have e6:(nil:Fo).app k=k:=rfl;rw[hk];show (flat r).foldl token (([⟨3,n,[],[]⟩]:List Tok).foldl token (R root (⟨n,a,(nil:Fo).app k⟩ :: ops)))=_;rw[e6];have hcl:(([⟨3,n,[],[]⟩]:List Tok).foldl token (R root (⟨n,a,k⟩ :: ops)))=(R root ops).z3u n a [] k:=by
     show (R root (⟨n,a,k⟩ :: ops)).token ⟨3,n,[],[]⟩=_;unfold token;rw[if_neg (by simp),if_neg (by simp),if_pos (by simp)];have ha:above n (fun _=>false) (R root (⟨n,a,k⟩ :: ops)).names=some ops.length:=by
      rw[j5k];unfold above nmOf;rw[List.reverse_reverse,List.map_cons];unfold z96;rw[if_pos rfl,List.length_map]
     simp only [ha];unfold close;rw[j5o,List.length_cons,Nat.add_sub_cancel_left];exact pop_R root ⟨n,a,k⟩ ops
    rw[hcl];exact hrest
theorem j0n (f:Fo) (hc:Y2 f [] false=0) (hd:f.depth≤8):build (flat f)=f:=by
 unfold build;have h:=j4t f nil [] hc (by simpa using hd);have e:(⟨nil,[]⟩:Bld)=R nil []:=rfl;rw[e,h];rfl
def z6n (t:Tok):Prop:=(t.kind=1∧t.name=[]∧t.ats=[]∧t.text ≠ [])∨(t.kind=2∧isName t.name=true∧J3 isName [] t.ats=0∧t.text=[])∨(t.kind=3∧isName t.name=true∧t.ats=[]∧t.text=[])
end Bld
end Mk
namespace Mk
open Bld
theorem q5g:∀ (n:Nat) (r:Bs) (out l:List At) (rest:Bs),J3 isName [] out=0→z01 n r out=some (l,rest)→J3 isName [] l=0
 | 0,_,_,_,_,_,h=>by cases h
 | n + 1,r,out,l,rest,ho,h=>by
  unfold z01 at h
  split at h
  ·cases h
  ·split at h
   ·injection h with h
    injection h with h1 h2;rw[← h1];exact ho
   ·simp only at h
    split at h
    ·cases h
    ·rename_i c t _ _ v r4 _
     refine q5g n r4 _ l rest ?_ h
     split
     ·rename_i hq
      obtain⟨q1,q2⟩:=Bool.and_eq_true_iff.1 hq;have key:∀ (m seen:List At) (a:At),J3 isName seen m=0→isName a.n=true→z1d (seen++m) a.n=false→J3 isName seen (m++[a])=0:=by
       intro m
       induction m with
       | nil=>intro seen a _ p1 p2;exact(z2u ..).2 ⟨p1,by simpa using p2,rfl⟩
       | cons b m ih =>
        intro seen a p0 p1 p2;obtain⟨b1,b2,b3⟩:=(z2u ..).1 p0;exact(z2u ..).2 ⟨b1,b2,ih (seen++[b]) a b3 p1 (by rw[List.append_assoc];exact p2)⟩
      exact key out [] _ ho q1 (by simpa using q2)
     ·exact ho
theorem q04 (text:Bs) (out:List Tok) (h:∀ t ∈ out,z6n t):∀ t ∈ flush text out,z6n t:=by
 unfold flush;simp only
 split
 ·exact h
 ·rename_i hn
  intro t ht
  rcases List.mem_append.1 ht with q | q
  ·exact h t q
  ·rw[List.mem_singleton.1 q]
   exact .inl ⟨rfl,rfl,rfl,hn⟩
theorem j4x (r:Bs) (t:Tok) (rest:Bs) (h:hereAt r=.tag t rest):z6n t:=by
 unfold hereAt at h
 split at h
 ·unfold z2i at h
  simp only at h
  split at h
  ·cases h
  ·rename_i l rest' ha
   split at h
   ·rename_i hn
    injection h with h1 h2;rw[← h1];exact .inr (.inl ⟨rfl,hn,q5g _ _ [] l rest' rfl ha,rfl⟩)
   ·cases h
 ·split at h
  ·unfold z0y at h
   simp only at h
   split at h
   ·cases h
   ·split at h
    ·rename_i hn
     injection h with h1 h2;rw[← h1];exact .inr (.inr ⟨rfl,hn,rfl,rfl⟩)
    ·cases h
  ·split at h
   ·unfold z0l at h
    split at h <;> cases h
   ·split at h
    ·unfold z0l at h
     split at h <;> cases h
    ·cases h
theorem z8a:∀ (n:Nat) (r text:Bs) (out:List Tok),(∀ t ∈ out,z6n t)→∀ t ∈ z0a n r text out,z6n t
 | 0,r,text,out,h=>by
  have e:z0a 0 r text out=flush text out:=by unfold z0a;rfl
  rw[e];exact q04 text out h
 | n + 1,[],text,out,h=>by
  have e:z0a (n + 1) [] text out=flush text out:=by unfold z0a;rfl
  rw[e];exact q04 text out h
 | n + 1,c :: t,text,out,h=>by
  unfold z0a
  split
  ·split
   ·exact z8a n _ _ out h
   ·exact q04 _ out h
   ·exact z8a n _ _ out h
   ·rename_i k rest hk
    refine z8a n _ _ _ (fun x q=>?_)
    rcases List.mem_append.1 q with q | q
    ·exact q04 text out h x q
    ·rw[List.mem_singleton.1 q]
     exact j4x _ k rest hk
  ·exact z8a n _ _ out h
theorem q8r (s:Bs):∀ t ∈ toks s,z6n t:=z8a _ _ _ _ (fun _ q=>by cases q)
theorem z4h:∀ (t:Bs) (n:Nat),(put t).length≤n→takeN n (put t)=(t,true)
 | [],n,_=>by cases n <;> rfl
 | c :: t,n,h=>by
  have e:put (c :: t)=esc c++put t:=rfl;rw[e,List.length_append] at h;rw[e]
  by_cases h1:c=38
  ·subst h1
   have e1:esc 38=[38,97,109,112,59]:=rfl;rw[e1] at h ⊢
   cases n with
   | zero=>simp at h
   | succ n =>
    have ih:=z4h t n (by simp at h;omega);have hs:sign ([38,97,109,112,59]++put t)=([38],5,true):=by simp[sign,named,Mg.pre]
    show takeN (n + 1) (38 :: ([97,109,112,59]++put t))=_;rw[takeN,if_pos rfl];have hs':sign (38 :: ([97,109,112,59]++put t))=([38],5,true):=hs;simp only [hs'];show ([38]++(takeN n (put t)).1,true && (takeN n (put t)).2)=_;rw[ih];rfl
  by_cases h2:c=60
  ·subst h2
   have e1:esc 60=[38,108,116,59]:=rfl;rw[e1] at h ⊢
   cases n with
   | zero=>simp at h
   | succ n =>
    have ih:=z4h t n (by simp at h;omega);have hs:sign (38 :: ([108,116,59]++put t))=([60],4,true):=by simp[sign,named,Mg.pre]
    show takeN (n + 1) (38 :: ([108,116,59]++put t))=_;rw[takeN,if_pos rfl];simp only [hs];show ([60]++(takeN n (put t)).1,true && (takeN n (put t)).2)=_;rw[ih];rfl
  by_cases h3:c=62
  ·subst h3
   have e1:esc 62=[38,103,116,59]:=rfl;rw[e1] at h ⊢
   cases n with
   | zero=>simp at h
   | succ n =>
    have ih:=z4h t n (by simp at h;omega);have hs:sign (38 :: ([103,116,59]++put t))=([62],4,true):=by simp[sign,named,Mg.pre]
    show takeN (n + 1) (38 :: ([103,116,59]++put t))=_;rw[takeN,if_pos rfl];simp only [hs];show ([62]++(takeN n (put t)).1,true && (takeN n (put t)).2)=_;rw[ih];rfl
  by_cases h4:c=34
  ·subst h4
   have e1:esc 34=[38,113,117,111,116,59]:=rfl;rw[e1] at h ⊢
   cases n with
   | zero=>simp at h
   | succ n =>
    have ih:=z4h t n (by simp at h;omega);have hs:sign (38 :: ([113,117,111,116,59]++put t))=([34],6,true):=by simp[sign,named,Mg.pre]
    show takeN (n + 1) (38 :: ([113,117,111,116,59]++put t))=_;rw[takeN,if_pos rfl];simp only [hs];show ([34]++(takeN n (put t)).1,true && (takeN n (put t)).2)=_;rw[ih];rfl
  ·have e1:esc c=[c]:=by unfold esc;rw[if_neg h1,if_neg h2,if_neg h3,if_neg h4]
   rw[e1] at h ⊢
   cases n with
   | zero=>simp at h
   | succ n =>
    have ih:=z4h t n (by simp at h;omega);show takeN (n + 1) (c :: put t)=_;rw[takeN,if_neg h1];simp only [ih]
theorem q9t (t:Bs):take (put t)=(t,true):=z4h t _ (Nat.le_refl _)
theorem put_mem (t:Bs):∀ x ∈ put t,x ≠ 34∧x ≠ 60:=by
 intro x hx;obtain⟨c,_,hc⟩:=List.mem_flatMap.1 hx;clear hx;unfold esc at hc
 split at hc
 ·revert x;decide
 ·split at hc
  ·revert x;decide
  ·split at hc
   ·revert x;decide
   ·split at hc
    ·revert x;decide
    ·rename_i h1 h2 h3 h4
     rw[List.mem_singleton.1 hc];exact⟨h4,h2⟩
def nameB (x:UInt8):Bool:=small x || Mg.Y4 x || x == 45
theorem z4e:∀ x,nameB x=true→Q7 x=true∧Y6 x=true∧Mg.low x=x∧(white x || x == 47)=false∧x ≠ 62:=Mg.z0h (fun x=>nameB x=true→Q7 x=true∧Y6 x=true∧Mg.low x=x∧(white x || x == 47)=false∧x ≠ 62) (by decide)
theorem q6v:∀ x,small x=true→Mg.isLet x=true∧nameB x=true∧x ≠ 47∧x ≠ 33∧x ≠ 63:=Mg.z0h (fun x=>small x=true→Mg.isLet x=true∧nameB x=true∧x ≠ 47∧x ≠ 33∧x ≠ 63) (by decide)
theorem q1l:∀ (l:Bs) (b:Bool),z0o b l=true→∀ x ∈ l,nameB x=true
 | [],_,_,_,h=>by cases h
 | c :: t,b,h,x,hx=>by
  unfold z0o at h;obtain⟨h1,h2⟩:=Bool.and_eq_true_iff.1 h
  rcases List.mem_cons.1 hx with q | q
  ·rw[q]
   unfold nameB
   rcases Bool.or_eq_true_iff.1 h1 with p | p
   ·rw[p];rfl
   ·rw[Bool.or_assoc,(Bool.and_eq_true_iff.1 p).2,Bool.or_true]
  ·exact q1l t false h2 x q
theorem z8q {n:Bs} (h:isName n=true):∃ c t,n=c :: t∧small c=true∧∀ x ∈ n,nameB x=true:=by
 unfold isName at h;obtain⟨h1,h2⟩:=Bool.and_eq_true_iff.1 h
 cases n with
 | nil=>simp at h1
 | cons c t =>
  refine⟨c,t,rfl,?_,q1l _ _ h2⟩;unfold z0o at h2;have:=(Bool.and_eq_true_iff.1 h2).1
  simpa using this
theorem q1m {n:Bs} (h:∀ x ∈ n,nameB x=true):Mg.fold n=n:=by
 unfold Mg.fold;rw[List.map_congr_left (fun x q=>(z4e x (h x q)).2.2.1),List.map_id']
theorem z2k (a:At) (l:List At):written (a :: l)=32 :: (a.n++(61 :: 34 :: (put a.v++(34 :: written l)))):=by
 unfold written;rw[List.flatMap_cons];simp
theorem q2k:∀ (l:List At) (n:Nat) (out:List At) (R:Bs),J3 isName out l=0→l.length + 1≤n→z01 n (written l++62 :: R) out=some (out++l,R)
 | [],n,out,R,_,hn=>by
  cases n with
  | zero=>omega
  | succ n =>
   show z01 (n + 1) (62 :: R) out=_;unfold z01;have e:(62 :: R).dropWhile (fun c=>white c || c == 47)=62 :: R:=List.dropWhile_cons_of_neg (by decide);rw[e];simp
 | a :: l,n,out,R,h,hn=>by
  obtain⟨h1,h2,h3⟩:=(z2u ..).1 h;obtain⟨c,t,hc,hs,hb⟩:=z8q h1
  cases n with
  | zero=>omega
  | succ n =>
   have ih:=q2k l n (out++[a]) R h3 (by simp at hn;omega);rw[z2k,hc];have hbc:=hb c (by rw[hc];simp);have hbt:∀ x ∈ t,nameB x=true:=fun x q=>hb x (by rw[hc];simp[q])
   obtain⟨y1,y2,y3,y4,y5⟩:=z4e c hbc;have e1:((32 :: (c :: t++(61 :: 34 :: (put a.v++(34 :: written l)))))++62 :: R).dropWhile (fun c=>white c || c == 47)=c :: (t++(61 :: 34 :: (put a.v++(34 :: (written l++62 :: R))))):=by
    simp only [List.cons_append,List.append_assoc];rw[List.dropWhile_cons_of_pos (by decide),List.dropWhile_cons_of_neg (by simp[y4])]
   unfold z01;rw[e1];simp only;rw[if_neg y5];have e2:(t++(61 :: 34 :: (put a.v++(34 :: (written l++62 :: R))))).takeWhile Y6=t:=by
    rw[List.takeWhile_append_of_pos (fun x q=>(z4e x (hbt x q)).2.1),List.takeWhile_cons_of_neg (by decide),List.append_nil]
   have e3:(t++(61 :: 34 :: (put a.v++(34 :: (written l++62 :: R))))).dropWhile Y6=61 :: 34 :: (put a.v++(34 :: (written l++62 :: R))):=by
    rw[List.dropWhile_append_of_pos (fun x q=>(z4e x (hbt x q)).2.1),List.dropWhile_cons_of_neg (by decide)]
   have e4:(61 :: 34 :: (put a.v++(34 :: (written l++62 :: R)))).dropWhile white=61 :: 34 :: (put a.v++(34 :: (written l++62 :: R))):=List.dropWhile_cons_of_neg (by decide);rw[e2,e3,e4];have e5:Mg.fold (c :: t)=a.n:=by rw[← hc];exact q1m hb
   have e6:valueOf (34 :: (put a.v++(34 :: (written l++62 :: R))))=some (put a.v,written l++62 :: R):=by
    unfold valueOf;rw[List.dropWhile_cons_of_neg (by decide)];simp only;rw[if_pos (.inl trivial)];have q1:∀ x ∈ put a.v,(x != 34)=true:=fun x q=>by simpa using (put_mem a.v x q).1
    rw[List.dropWhile_append_of_pos q1,List.takeWhile_append_of_pos q1,List.dropWhile_cons_of_neg (by decide),List.takeWhile_cons_of_neg (by decide),List.append_nil]
   have e7:Mg.isAt 61 (61 :: 34 :: (put a.v++(34 :: (written l++62 :: R))))=true:=by simp[Mg.isAt]
   rw[e5,e7,if_pos rfl,List.tail_cons,e6];simp only [Option.map_some,q9t];rw[if_pos (by rw[h1,h2];rfl)];rw[ih,List.append_assoc];rfl
theorem z7j:∀ l:List At,l.length≤(written l).length
 | []=>Nat.zero_le _
 | a :: l=>by
  have:=z7j l;rw[z2k];simp;omega
theorem q7g (l:List At) (R:Bs) (h:J3 isName [] l=0):z1c (written l++62 :: R)=some (l,R):=by
 unfold z1c;have:=z7j l;rw[q2k l _ [] R h (by simp;omega),List.nil_append]
theorem q58 (l:List At) (R:Bs):∃ y r,written l++62 :: R=y :: r∧Q7 y=false:=by
 cases l with
 | nil=>exact⟨62,R,rfl,by decide⟩
 | cons a l=>rw[z2k];exact⟨32,_,rfl,by decide⟩
theorem j4y (n:Bs) (l:List At) (R:Bs) (hn:isName n=true) (hl:J3 isName [] l=0):hereAt (60 :: (n++(written l++62 :: R)))=.tag ⟨2,n,l,[]⟩ R:=by
 obtain⟨c,t,hc,hs,hb⟩:=z8q hn;obtain⟨y,r,hy,hyt⟩:=q58 l R;have e0:z1y (60 :: (n++(written l++62 :: R))).tail=true:=by rw[hc];exact(q6v c hs).1
 unfold hereAt;rw[if_pos e0,List.tail_cons];unfold z2i;have p1:∀ x ∈ n,Q7 x=true:=fun x q=>(z4e x (hb x q)).1
 have e1:(n++(written l++62 :: R)).takeWhile Q7=n:=by
  rw[hy,List.takeWhile_append_of_pos p1,List.takeWhile_cons_of_neg (by simp[hyt]),List.append_nil]
 have e2:(n++(written l++62 :: R)).dropWhile Q7=written l++62 :: R:=by
  rw[List.dropWhile_append_of_pos p1,hy,List.dropWhile_cons_of_neg (by simp[hyt])]
 simp only [e1,e2,q7g l R hl,q1m hb,hn,if_true]
theorem j1j (n:Bs) (R:Bs) (hn:isName n=true):hereAt (60 :: 47 :: (n++62 :: R))=.tag ⟨3,n,[],[]⟩ R:=by
 obtain⟨c,t,hc,hs,hb⟩:=z8q hn;have e0:z1y (60 :: 47 :: (n++62 :: R)).tail=false:=by
  show Mg.isLet 47=false;decide
 have e9:(Mg.pre [60,47] (60 :: 47 :: (n++62 :: R)) && z1y ((60 :: 47 :: (n++62 :: R)).drop 2))=true:=by
  have:z1y (n++62 :: R)=true:=by rw[hc];exact(q6v c hs).1
  show (Mg.pre [60,47] (60 :: 47 :: (n++62 :: R)) && z1y (n++62 :: R))=true;rw[this];rfl
 unfold hereAt;rw[if_neg (by rw[e0];decide),if_pos e9];unfold z0y;have p1:∀ x ∈ n,Q7 x=true:=fun x q=>(z4e x (hb x q)).1
 have e1:(n++62 :: R).takeWhile Q7=n:=by
  rw[List.takeWhile_append_of_pos p1,List.takeWhile_cons_of_neg (by decide),List.append_nil]
 have e2:(n++62 :: R).dropWhile Q7=62 :: R:=by
  rw[List.dropWhile_append_of_pos p1,List.dropWhile_cons_of_neg (by decide)]
 have e3:behind [62] (62 :: R)=some R:=by unfold behind;simp[Mg.pre]
 have e4:(60 :: 47 :: (n++62 :: R)).drop 2=n++62 :: R:=rfl;simp only [e4,e1,e2,e3,q1m hb,hn,if_true]
theorem q3o:∀ (l:Bs) (n:Nat) (text:Bs) (out:List Tok) (R:Bs),(∀ x ∈ l,x ≠ 60)→l.length≤n→z0a n (l++R) text out=z0a (n - l.length) R (text++l) out
 | [],n,text,out,R,_,_=>by simp
 | c :: l,n,text,out,R,h,hn=>by
  cases n with
  | zero=>simp at hn
  | succ n =>
   show z0a (n + 1) (c :: (l++R)) text out=_;rw[z0a,if_neg (h c (by simp)),q3o l n (text++[c]) out R (fun x q=>h x (by simp[q])) (by simpa using hn)];simp
def Adj:Bool→List Tok→Prop
 | _,[]=>True
 | p,t :: r=>(t.kind=1→p=false)∧Adj (decide (t.kind=1)) r
theorem Adj.weak:∀ {l:List Tok},Adj true l→∀ p,Adj p l
 | [],_,_=>trivial
 | _ :: _,h,_=>⟨fun q=>(by cases h.1 q),h.2⟩
theorem j4s (t:Bs) (out:List Tok) (h:t ≠ []):flush (put t) out=out++[⟨1,[],[],t⟩]:=by
 unfold flush;simp only [q9t];rw[if_neg h]
theorem z7t (out:List Tok):flush [] out=out:=by
 have e:(take []).1=[]:=rfl;unfold flush;simp[e]
theorem q6k:∀ (L:List Tok) (p:Bool) (text:Bs) (out:List Tok) (n:Nat),(∀ t ∈ L,z6n t)→Adj p L→(p=false→text=[])→(bytes L).length≤n→z0a n (bytes L) text out=flush text out++L
 | [],p,text,out,n,_,_,_,_=>by
  have e:z0a n [] text out=flush text out:=by cases n <;> (unfold z0a;rfl)
  show z0a n [] text out=_;rw[e,List.append_nil]
 | t :: L,p,text,out,n,hL,ha,hp,hn=>by
  have hb:bytes (t :: L)=X3 t++bytes L:=rfl;have ih:=fun p' text' out' n' h1 h2 h3=>q6k L p' text' out' n' (fun x q=>hL x (by simp[q])) h1 h2 h3
  obtain⟨a1,a2⟩:=ha;rw[hb,List.length_append] at hn
  rcases hL t (by simp) with ⟨k,k1,k2,k3⟩ | ⟨k,k1,k2,k3⟩ | ⟨k,k1,k2,k3⟩
  ·have ht:t=⟨1,[],[],t.text⟩:=by cases t;simp_all
   have e1:X3 t=put t.text:=by unfold X3;rw[if_pos k]
   have htx:=hp (a1 k);subst htx;rw[e1] at hn;rw[hb,e1,q3o _ _ _ _ _ (fun x q=>(put_mem _ x q).2) (by omega),List.nil_append];rw[ih true (put t.text) out _ (by rw[show decide (t.kind=1)=true by simpa using k] at a2;exact a2) (fun q=>by cases q) (by omega),j4s _ _ k3,z7t,List.append_assoc];rw[← ht];rfl
  ·have ht:t=⟨2,t.name,t.ats,[]⟩:=by cases t;simp_all
   have e1:X3 t=[60]++t.name++written t.ats++[62]:=by unfold X3;rw[if_neg (by rw[k];decide),if_pos k]
   have e2:X3 t++bytes L=60 :: (t.name++(written t.ats++62 :: bytes L)):=by rw[e1];simp
   have e3:(X3 t).length ≥ 1:=by rw[e1];simp
   cases n with
   | zero=>omega
   | succ n =>
    rw[hb,e2,z0a,if_pos rfl,j4y _ _ _ k1 k2];simp only;rw[← ht,ih false [] _ n (by rw[show decide (t.kind=1)=false by simp[k]] at a2;exact a2) (fun _=>rfl) (by omega),z7t,List.append_assoc];rfl
  ·have ht:t=⟨3,t.name,[],[]⟩:=by cases t;simp_all
   have e1:X3 t=[60,47]++t.name++[62]:=by unfold X3;rw[if_neg (by rw[k];decide),if_neg (by rw[k];decide),if_pos k]
   have e2:X3 t++bytes L=60 :: 47 :: (t.name++62 :: bytes L):=by rw[e1];simp
   have e3:(X3 t).length ≥ 1:=by rw[e1];simp
   cases n with
   | zero=>omega
   | succ n =>
    rw[hb,e2,z0a,if_pos rfl,j1j _ _ k1];simp only;rw[← ht,ih false [] _ n (by rw[show decide (t.kind=1)=false by simp[k]] at a2;exact a2) (fun _=>rfl) (by omega),z7t,List.append_assoc];rfl
theorem j2w (L:List Tok) (h:∀ t ∈ L,z6n t) (ha:Adj false L):toks (bytes L)=L:=by
 unfold toks;rw[q6k L false [] [] _ h ha (fun _=>rfl) (Nat.le_refl _),z7t,List.nil_append]
theorem flat_ok:∀ (f:Fo) (names:List Bs) (prev:Bool),Y2 f names prev=0→(∀ t ∈ flat f,z6n t)∧∀ m,Adj true m→Adj prev (flat f++m):=by
 intro f
 induction f with
 | nil=>intro _ prev _;exact⟨fun _ q=>(by cases q),fun m h=>h.weak prev⟩
 | node n a t k r ihk ihr =>
  intro names prev h;obtain⟨g1,g2,g3,g4⟩:=(z3a ..).1 h;obtain⟨r1,r2⟩:=ihr names _ g4
  by_cases hn:n=[]
  ·subst hn
   obtain⟨q1,q2,q3⟩:=(q39 ..).1 g1;have e:flat (.node [] a t k r)=⟨1,[],[],t⟩ :: flat r:=by rw[flat,if_pos rfl]
   rw[e];refine⟨fun x q=>?_,fun m hm=>?_⟩
   ·rcases List.mem_cons.1 q with q | q
    ·rw[q];exact .inl ⟨rfl,rfl,rfl,q1⟩
    ·exact r1 x q
   ·exact⟨fun _=>by cases prev with | false=>rfl | true=>exact absurd ⟨rfl,rfl⟩ g2,r2 m hm⟩
  ·obtain⟨e1,e2,e3,e4,e5⟩:=(q9d _ _ hn _ _ _).1 g1
   obtain⟨k1,k2⟩:=ihk _ false g3;have e:flat (.node n a t k r)=⟨2,n,a,[]⟩ :: ((if z0n n=true then [] else flat k++[⟨3,n,[],[]⟩])++flat r):=by rw[flat,if_neg hn]
   rw[show decide (n=[])=false by simp[hn]] at r2;rw[e];refine⟨fun x q=>?_,fun m hm=>?_⟩
   ·rcases List.mem_cons.1 q with q | q
    ·rw[q];exact .inr (.inl ⟨rfl,e2,e4,rfl⟩)
    ·rcases List.mem_append.1 q with q | q
     ·split at q
      ·cases q
      ·rcases List.mem_append.1 q with q | q
       ·exact k1 x q
       ·rw[List.mem_singleton.1 q];exact .inr (.inr ⟨rfl,e2,rfl,rfl⟩)
     ·exact r1 x q
   ·refine⟨fun q=>(by cases q),?_⟩
    show Adj false (((if z0n n=true then [] else flat k++[⟨3,n,[],[]⟩])++flat r)++m)
    split
    ·exact r2 m hm
    ·rw[List.append_assoc,List.append_assoc]
     exact k2 _ ⟨fun q=>(by cases q),r2 m hm⟩
theorem j6c (f:Fo) (hc:Y2 f [] false=0):toks (bytes (flat f))=flat f:=by
 obtain⟨h1,h2⟩:=flat_ok f [] false hc;have:=h2 [] trivial;rw[List.append_nil] at this;exact j2w _ h1 this
theorem sign_len (s:Bs):(sign s).1.length≤4:=by
 unfold sign
 split
 ·simp
 ·split
  ·simp
  ·split
   ·exact j03 _
   ·simp
theorem q1v:∀ (n:Nat) (s:Bs),(takeN n s).1.length≤4 * s.length
 | 0,s=>by unfold takeN;exact Nat.zero_le _
 | n + 1,[]=>by unfold takeN;exact Nat.zero_le _
 | n + 1,c :: t=>by
  unfold takeN
  split
  ·have h1:=sign_len (c :: t)
   have h2:=q1v n ((c :: t).drop (max 1 (sign (c :: t)).2.1));rw[List.length_drop] at h2;simp only [List.length_append];simp only [List.length_cons] at h2 ⊢;omega
  ·have h2:=q1v n t
   simp only [List.length_cons];omega
theorem take_len (s:Bs):(take s).1.length≤4 * s.length:=q1v _ s
theorem q71 (p:UInt8→Bool) (l:Bs):(l.takeWhile p).length + (l.dropWhile p).length=l.length:=by
 rw[← List.length_append,List.takeWhile_append_dropWhile]
theorem q8t {r v r':Bs} (h:valueOf r=some (v,r')):v.length + r'.length≤r.length:=by
 unfold valueOf at h
 split at h
 ·injection h with h
  injection h with h1 h2;rw[← h1,← h2];exact Nat.zero_le _
 ·rename_i q t heq
  have hl:=q71 white r;rw[heq,List.length_cons] at hl
  split at h
  ·split at h
   ·cases h
   ·rename_i _ _ y u heq2
    injection h with h;injection h with h1 h2;have hl2:=q71 (fun x=>x != q) t;rw[heq2,List.length_cons] at hl2;rw[← h1,← h2];omega
  ·injection h with h
   injection h with h1 h2;have hl2:=q71 (fun c=>!white c && c != 62) (q :: t);rw[h1,h2,List.length_cons] at hl2;omega
theorem q3v (l:List At) (a:At):Fo.atB (l++[a])=Fo.atB l + (1 + a.n.length + a.v.length):=by simp[Fo.atB]
theorem q0l:∀ (n:Nat) (r:Bs) (out l:List At) (rest:Bs),z01 n r out=some (l,rest)→Fo.atB l + 8 * rest.length≤Fo.atB out + 8 * r.length
 | 0,_,_,_,_,h=>by cases h
 | n + 1,r,out,l,rest,h=>by
  unfold z01 at h
  split at h
  ·cases h
  ·rename_i c t heq
   have hl:=q71 (fun c=>white c || c == 47) r;rw[heq,List.length_cons] at hl
   split at h
   ·injection h with h
    injection h with h1 h2;rw[← h1,← h2];omega
   ·simp only at h
    split at h
    ·cases h
    ·rename_i v r4 hm
     have ih:=q0l n r4 _ l rest h;have l2:=q71 Y6 t;have l3:=q71 white (t.dropWhile Y6);have lf:(Mg.fold (c :: t.takeWhile Y6)).length=(t.takeWhile Y6).length + 1:=by unfold Mg.fold;simp
     have lv:v.length + 4 * r4.length≤4 * ((t.dropWhile Y6).dropWhile white).length:=by
      generalize (t.dropWhile Y6).dropWhile white=r3 at hm
      split at hm
      ·cases hv:valueOf r3.tail with
       | none=>rw[hv] at hm;cases hm
       | some x =>
        rw[hv] at hm;injection hm with hm;injection hm with m1 m2;obtain⟨x1,x2⟩:=x;have k1:=q8t hv;have k2:=take_len x1;have k3:r3.tail.length≤r3.length:=by rw[List.length_tail];omega
        simp only at m1 m2;rw[← m1,← m2];omega
      ·injection hm with hm
       injection hm with m1 m2;rw[← m1,← m2];simp
     have ho:Fo.atB (if (isName (Mg.fold (c :: t.takeWhile Y6)) && !z1d out (Mg.fold (c :: t.takeWhile Y6)))=true then out++[⟨Mg.fold (c :: t.takeWhile Y6),v⟩] else out)≤Fo.atB out + (1 + (Mg.fold (c :: t.takeWhile Y6)).length + v.length):=by
      split
      ·rw[q3v]
       exact Lr
      ·omega
     omega
theorem z8g (p:Bs):∀ (r rest:Bs),behind p r=some rest→rest.length≤r.length
 | [],rest,h=>by
  unfold behind at h
  split at h
  ·injection h with h
   rw[← h];exact Lr
  ·cases h
 | c :: t,rest,h=>by
  unfold behind at h
  split at h
  ·injection h with h
   rw[← h,List.length_drop];omega
  ·have:=z8g p t rest h
   rw[List.length_cons];omega
theorem q96 (l:Bs):(Mg.fold l).length=l.length:=by unfold Mg.fold;simp
theorem q7q (c:UInt8) (tl:Bs):(∀ rest,hereAt (c :: tl)=.gone rest→rest.length≤tl.length + 1)∧∀ k rest,hereAt (c :: tl)=.tag k rest→2 + k.name.length + k.text.length + Fo.atB k.ats + 8 * rest.length≤8 * (tl.length + 1):=by
 have hp:∀ p r,r.length≤tl.length + 1→(∀ rest,z0l p r=.gone rest→rest.length≤tl.length + 1)∧∀ k rest,z0l p r=.tag k rest→2 + k.name.length + k.text.length + Fo.atB k.ats + 8 * rest.length≤8 * (tl.length + 1):=by
  intro p r hr;unfold z0l
  split
  ·exact⟨fun _ h=>(by cases h),fun _ _ h=>by cases h⟩
  ·rename_i rest' hb
   refine⟨fun rest h=>?_,fun _ _ h=>by cases h⟩;injection h with h;have:=z8g p _ _ hb;rw[← h];omega
 unfold hereAt
 split
 ·unfold z2i
  rw[List.tail_cons];have hl:=q71 Q7 tl;have hf:=q96 (tl.takeWhile Q7);simp only
  split
  ·exact⟨fun _ h=>(by cases h),fun _ _ h=>by cases h⟩
  ·rename_i l rest' ha
   have hb:=q0l _ _ [] l rest' ha;have e0:Fo.atB []=0:=rfl
   split
   ·refine⟨fun _ h=>(by cases h),fun k rest h=>?_⟩
    injection h with h1 h2;rw[← h1,← h2];simp only [List.length_nil];omega
   ·refine⟨fun rest h=>?_,fun _ _ h=>by cases h⟩
    injection h with h;rw[← h];omega
 ·split
  ·unfold z0y
   have hl:=q71 Q7 ((c :: tl).drop 2);have hd:((c :: tl).drop 2).length≤tl.length:=by rw[List.length_drop,List.length_cons];omega
   have hf:=q96 (((c :: tl).drop 2).takeWhile Q7);simp only
   split
   ·exact⟨fun _ h=>(by cases h),fun _ _ h=>by cases h⟩
   ·rename_i rest' hb
    have hb2:=z8g _ _ _ hb
    split
    ·refine⟨fun _ h=>(by cases h),fun k rest h=>?_⟩
     injection h with h1 h2;have e0:Fo.atB []=0:=rfl;rw[← h1,← h2];simp only [List.length_nil];omega
    ·refine⟨fun rest h=>?_,fun _ _ h=>by cases h⟩
     injection h with h;rw[← h];omega
  ·split
   ·exact hp _ _ (by rw[List.length_drop,List.length_cons];omega)
   ·split
    ·exact hp _ _ (by rw[List.length_cons];omega)
    ·exact⟨fun _ h=>(by cases h),fun _ _ h=>by cases h⟩
theorem q9x (l m:List Tok):tokB (l++m)=tokB l + tokB m:=by simp[tokB]
theorem z6f (text:Bs) (out:List Tok):tokB (flush text out)≤tokB out + 8 * text.length:=by
 have h:=take_len text;unfold flush;simp only
 split
 ·omega
 ·rename_i hn
  have:(take text).1.length ≠ 0:=fun e=>hn (List.eq_nil_of_length_eq_zero e)
  have e0:Fo.atB []=0:=rfl;have e1:tokB []=0:=rfl;rw[q9x,z5y,e1];simp only [List.length_nil,e0];omega
theorem z4j:∀ (n:Nat) (r text:Bs) (out:List Tok),tokB (z0a n r text out)≤tokB out + 8 * (text.length + r.length)
 | 0,r,text,out=>by
  have e:z0a 0 r text out=flush text out:=by unfold z0a;rfl
  have:=z6f text out;rw[e];omega
 | n + 1,[],text,out=>by
  have e:z0a (n + 1) [] text out=flush text out:=by unfold z0a;rfl
  have:=z6f text out;rw[e];omega
 | n + 1,c :: t,text,out=>by
  unfold z0a;rw[List.length_cons]
  split
  ·obtain⟨b1,b2⟩:=q7q c t
   split
   ·have:=z4j n t (text++[60]) out
    rw[List.length_append,List.length_singleton] at this;omega
   ·have:=z6f (text++c :: t) out
    rw[List.length_append,List.length_cons] at this;omega
   ·rename_i rest hh
    have:=z4j n rest text out;have:=b1 rest hh;omega
   ·rename_i k rest hh
    have h1:=z4j n rest [] (flush text out++[k]);have h2:=b2 k rest hh;have h3:=z6f text out;have e1:tokB []=0:=rfl;rw[q9x,z5y,e1,List.length_nil] at h1;omega
  ·have:=z4j n t (text++[c]) out
   rw[List.length_append,List.length_singleton] at this;omega
theorem j6t (s:Bs):tokB (toks s)≤8 * s.length:=by
 have:=z4j s.length s [] [];have e1:tokB []=0:=rfl;rw[e1,List.length_nil] at this;show tokB (z0a s.length s [] [])≤_;omega
theorem j5y (t:Bs):(put t).length≤6 * t.length:=by
 induction t with
 | nil=>exact Nat.zero_le _
 | cons c t ih =>
  have h:(esc c).length≤6:=by
   unfold esc
   repeat' split
   all_goals simp
  have e:put (c :: t)=esc c++put t:=rfl;rw[e,List.length_append,List.length_cons];omega
end Mk
namespace Mk
def z2q (n:Bs) (a:List At) (k:Fo):Bool:=(decide (n ≠ []) && (!z0u n || q5i n a || (decide (n=[105,109,103]) && !z1d a [115,114,99]))) || !z88 k
theorem j6h (n:Bs) (a:List At) (t:Bs) (k r:Fo):z88 (.node n a t k r)=(!z2q n a k && z88 r):=rfl
theorem atB_val {a:At} {l:List At} (h:a ∈ l):a.v.length≤Fo.atB l:=by
 have:=q0k h;omega
def z6p:Fo→Bool | .nil=>false | .node n a _ k r=>z2q n a k || z6p r
theorem q9p:∀ f:Fo,z88 f = !z6p f
 | .nil=>rfl
 | .node n a t k r=>by
  rw[j6h,q9p r];show _ = !(z2q n a k || z6p r)
  cases z2q n a k <;> rfl
end Mk
namespace Go.Proofs.YtagleefekmdldaaGreatDoor
open Go.Proofs.Tryz Go.RowKit
theorem asks_bad (P:Nat) (n:List UInt8) (l:List Mk.At) (w:World) (hP:P < w.heap.size) (hc:w.cell? ⟨P,0,none⟩=some (.string (st n))) (hv:∀ a ∈ l,a.v.length≤33554432):j0b 77 #[.pointer (some ⟨P,0,none⟩)] (fun a=>!Mk.mayB n a.n || (Mk.z9s a.n && !Mk.z07 a.v)) l w:=by
 intro w1 hb a ha;have hva:=hv a ha;have c0:w1.cell? ⟨P,0,none⟩=some (.string (st n)):=(hb.cell (p:=⟨P,0,none⟩) hP).trans hc;have hP1:P < w1.heap.size:=Nat.lt_of_lt_of_le hP hb.size;have hal:=(Below.refl w1.heap.size w1).alloc (Lr) (.cells #[.string (st a.n),.string (st a.v)] 73);have PB:=Ld (Blk.new w1 73 #[.string (st a.n),.string (st a.v)]);have c1:(w1.alloc (.cells #[.string (st a.n),.string (st a.v)] 73)).cell? ⟨P,0,none⟩=some (.string (st n)):=(hal.cell (p:=⟨P,0,none⟩) hP1).trans c0;have HA:=Ld (j3z n a (w1.alloc (.cells #[.string (st a.n),.string (st a.v)] 73)));have HL:=Ld (fun W=>j4a a.n W);have HI:=Ld (fun W=>url_Is (st a.v) W (by rw[y9];omega));have hlen:(st a.v).size=a.v.length:=y9 _;have HAL:=Ld hal;clear hal hc hv hva c0;unfold atV at HA;unfold atV;go_enter func77,ntmps77;go_wp2_with fail;refine HA.out.mono ?_;rintro e w2 ⟨rfl,hb2⟩;have HB2:=Ld (HAL.out.trans (hb2.mono HAL.out.size));have PB2:=Ld (Blk.below PB.out hb2 (Blk.lt PB.out));clear hb2 HA PB HAL c1;obtain⟨bm,hbm⟩:∃ b,Mk.mayB n a.n=b:=⟨_,rfl⟩;have HBM:=Ld hbm;rw[hbm];clear hbm
 cases bm with
 | false =>
  go_wp2_with fail;go_ret;exact⟨Z8 (by rw[HBM.out];rfl),HB2.out⟩
 | true =>
  have p0:w2.cell? ⟨w1.heap.size,0,none⟩=some (.string (st a.n)):=Blk.cell PB2.out 0;have p1:w2.cell? ⟨w1.heap.size,1,none⟩=some (.string (st a.v)):=Blk.cell PB2.out 1;obtain⟨bl,hbl⟩:∃ b,Mk.z9s a.n=b:=⟨_,rfl⟩;rw[hbl] at HL;have HBN:=Ld hbl;clear hbl;go_wp2_with fail;refine(HL.out _).mono ?_;rintro e w3 ⟨rfl,hw3⟩;subst w3
  cases bl with
  | false =>
   go_wp2_with fail;go_ret;exact⟨Z8 (by rw[HBM.out,HBN.out];rfl),HB2.out⟩
  | true =>
   go_wp2_with fail;refine(HI.out _).mono ?_;rintro e w4 ⟨rfl,hb4⟩;have p4:w4.cell? ⟨w1.heap.size,1,none⟩=some (.string (st a.v)):=(hb4.cell (p:=⟨w1.heap.size,1,none⟩) (Blk.lt PB2.out)).trans p1;have HB4:=Ld (HB2.out.trans (hb4.mono HB2.out.size));rw[show (st a.v).data.toList=a.v from rfl];have hgl:Mk.z07 a.v=(Mg.isSafe a.v && decide (a.v.length≤3000)):=rfl;obtain⟨bs,hbs⟩:∃ b,Mg.isSafe a.v=b:=⟨_,rfl⟩;rw[hbs] at hgl ⊢;clear hbs HB2 hb4 HI HL PB2 p0 p1
   cases bs with
   | false =>
    have HG:=Ld hgl;clear hgl;go_wp2_with fail;go_ret;exact⟨Z8 (by rw[HBM.out,HBN.out,HG.out];rfl),HB4.out⟩
   | true =>
    by_cases hl:3000 < a.v.length
    ·have HG:Hid (Mk.z07 a.v=false):=by show _=_;rw[hgl];simp;omega
     clear hgl;go_wp2_with fail;go_ret;exact⟨Z8 (by rw[HBM.out,HBN.out,HG.out];first | rfl | simp;omega),HB4.out⟩
    ·have HG:Hid (Mk.z07 a.v=true):=by show _=_;rw[hgl];simp;omega
     clear hgl;go_wp2_with fail;go_ret;exact⟨Z8 (by rw[HBM.out,HBN.out,HG.out];first | rfl | simp;omega),HB4.out⟩
theorem eg_bad (args:Array Value) (w:World):(callFunc 77 args).run prog w=.ok (.enter 77 args) w:=Z7 func77 (by kernel_rfl) rfl _ _
end Go.Proofs.YtagleefekmdldaaGreatDoor
