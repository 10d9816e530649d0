/- What the strict reader's method attrs holds in memory. No program in sight. -/
import Derived.Test.YtjonkbdldebkiaaGreatDoorYWxC
import Derived.Deep.RegionHeld3
import Derived.Deep.QuietTactic
import Derived.Test.YtjonkbdldebkiaaGreatDoorYMkClean4
import Derived.Test.YtjonkbdldebkiaaGreatDoorYWeA
set_option linter.unusedVariables false
set_option linter.unusedSimpArgs false
set_option maxHeartbeats 8000000
set_option maxRecDepth 100000
namespace Go.Proofs.YtjonkbdldebkiaaGreatDoor
open Go.RowKit
structure AtI (w wx:World) (R:Nat) (s:ByteArray) (j:Nat) (o:Value) (out:List Mk.At):Prop where
 rl:R < w.heap.size
 x:Xr wx R s j
 ap:Ap (fun b=>b=R) w wx
 ow:wx.ownsRow w.heap.size 56 2 o out.length (J3 out)
structure AtJ (w wx:World) (R:Nat) (s:ByteArray) (j:Nat) (o:Value) (out:List Mk.At) (P:Nat) (nm v:List UInt8):Prop where
 i:AtI w wx R s j o out
 pl:w.heap.size≤P
 po:o.ownBlock ≠ some P
 pb:Blk wx P 56 #[.string (st nm),.string (st v)]
section
variable {w wx wy : World} {R : Nat} {s : ByteArray} {j j' : Nat} {o : Value} {out : List Mk.At} {P : Nat} {nm v : List UInt8}
theorem AtI.not (h:AtI w wx R s j o out):∀ g,w.heap.size≤g→¬ (fun b=>b=R) g:=by
 intro g hg e;have e:g=R:=e;have:=h.rl;omega
theorem AtI.moved (h:AtI w wx R s j o out) (hm:Moved R wx wy) (hx:Xr wy R s j'):AtI w wy R s j' o out:=⟨h.rl,hx,h.ap.trans hm.ap,z2d h.ow hm.ap h.not⟩
theorem AtI.below (h:AtI w wx R s j o out) (hb:Below wx.heap.size wx wy):AtI w wy R s j o out :=
 ⟨h.rl,(hb.block R (Blk.lt h.x)).trans h.x,h.ap.trans (Ap.of_below hb),z2d h.ow (Ap.of_below (S:=fun b=>b=R) hb) h.not⟩
theorem AtI.drewN (h:AtI w wx R s j o out) (n:Nat):AtI w (wx.drewN n) R s j o out:=h.moved ((Moved.refl R wx).drewN n) (h.x.drewN n)
theorem AtI.gl (h:AtI w wx R s j o out) (hg:Gl w) (hR:4 < R):Gl wx:=hg.ap h.ap (by intro e;have e:0=R:=e;omega) (by intro e;have e:4=R:=e;omega)
theorem AtI.new (h:AtI w wx R s j o out) (nm:List UInt8):AtJ w (wx.alloc (.cells #[.string (st nm),.string ⟨#[]⟩] 56)) R s j o out wx.heap.size nm [] :=
 ⟨h.below ((Below.refl _ wx).alloc (Nat.le_refl _) _),h.ap.size,fun e=>absurd (h.ow.lt _ e).2 (Nat.lt_irrefl _),Blk.new wx _ _⟩
theorem AtJ.ne (h:AtJ w wx R s j o out P nm v):P ≠ R:=by
 have h1:=h.i.rl;have h2:=h.pl;omega
theorem AtJ.moved (h:AtJ w wx R s j o out P nm v) (hm:Moved R wx wy) (hx:Xr wy R s j'):AtJ w wy R s j' o out P nm v:=⟨h.i.moved hm hx,h.pl,h.po,hm.blk h.pb h.ne⟩
theorem AtJ.below (h:AtJ w wx R s j o out P nm v) (hb:Below wx.heap.size wx wy):AtJ w wy R s j o out P nm v:=⟨h.i.below hb,h.pl,h.po,(hb.block P (Blk.lt h.pb)).trans h.pb⟩
theorem AtJ.drewN (h:AtJ w wx R s j o out P nm v) (n:Nat):AtJ w (wx.drewN n) R s j o out P nm v:=h.moved ((Moved.refl R wx).drewN n) (h.i.x.drewN n)
theorem AtJ.set_ (h:AtJ w wx R s j o out P nm v) (v':List UInt8):AtJ w (wx.setCell ⟨P,1,none⟩ (.string (st v'))) R s j o out P nm v' :=
 ⟨⟨h.i.rl,Blk.far h.i.x (p:=⟨P,1,none⟩) (fun e=>h.ne e.symm) _,h.i.ap.setNew (p:=⟨P,1,none⟩) h.pl _,ownsRow_setCell_other h.i.ow (a:=⟨P,1,none⟩) h.po _⟩,h.pl,h.po,Blk.set_ h.pb 1 _⟩
theorem AtJ.pushed (h:AtJ w wx R s j o out P nm v) {cs:Array Value} {T:TypeId} {v':Value} {wz:World}
  (hown:wz.ownsRow w.heap.size 56 2 v' (out.length + 1) (J3 out++[.string (st nm),.string (st v)])) (hgr:(wx.alloc (.cells cs T)).grownBy wz o.ownBlock):AtI w wz R s j v' (out++[⟨nm,v⟩]):=by
 refine⟨h.i.rl,?_,(h.i.ap.alloc (.cells cs T)).grown hgr (fun k hk e=>absurd hk (by have:=(h.i.ow.lt k e).1;omega)),?_⟩
 ·exact(hgr.block R (by have:=Blk.lt h.i.x;simp;omega) (fun e=>h.i.not R (h.i.ow.lt R e.symm).1 rfl)).trans (Blk.alloc h.i.x _)
 ·rw[List.length_append,show J3 (out++[(⟨nm,v⟩:Mk.At)])=J3 out++[.string (st nm),.string (st v)] by simp[J3]]
  exact hown
end
section
variable {w w' : World} {R : Nat} {s : ByteArray} {k : Nat}
def q2u (j j1:Nat) (l:List UInt8):Bool:=decide (j < j1) && (match l with | []=>false | c :: _=>Fd.z1y true c)
theorem j6r {w0:World} {j:Nat} {o:Value} {out:List Mk.At} {P:Nat} {nm v:List UInt8} (p:List UInt8) (h:AtJ w0 w R s j o out P nm v) (hk:j≤s.size) (hs:s.size≤100000) :
  Calls Tryz.prog 216 #[.pointer (some ⟨R,0,none⟩),.string (st p)] w fun e w'=>e=.returned (.bool (Mg.pre p (s.data.toList.drop j)))∧AtJ w0 w' R s j o out P nm v:=by
 refine(z5m p h.i.x hk (by omega)).mono ?_;rintro e w1 ⟨rfl,n,hw⟩;subst hw;exact⟨rfl,h.drewN n⟩
theorem j2z {w0:World} {j:Nat} {o:Value} {out:List Mk.At} {P:Nat} {nm v:List UInt8} (p:List UInt8) (h:AtJ w0 w R s j o out P nm v) (hk:j≤s.size) (hs:s.size≤100000) :
  Calls Tryz.prog 213 #[.pointer (some ⟨R,0,none⟩),.string (st p)] w fun e w'=>(Fd.z0b p (s.data.toList.drop j)=.ok () (s.data.toList.drop (j + p.length))∧j + p.length≤s.size∧e=.returned (.tuple #[])∧AtJ w0 w' R s (j + p.length) o out P nm v)∨(Fd.z0b p (s.data.toList.drop j)=.er 1∧e=GaveX 1∧AtJ w0 w' R s j o out P nm v):=by
 refine(y0y p h.i.x hk (by omega)).mono ?_;rintro e w1 (⟨h1,h2,h3,h4,h5⟩ | ⟨h1,h2,n,h3⟩)
 ·exact .inl ⟨by rw[Fd.z0b,if_pos h1,List.drop_drop],h2,h3,h.moved h5 h4⟩
 ·subst h3
  exact .inr ⟨by rw[Fd.z0b,if_neg (by rw[h1];simp)],h2,h.drewN n⟩
theorem q94 {w0:World} {j:Nat} {o:Value} {out:List Mk.At} {P:Nat} {nm v:List UInt8} (h:AtJ w0 w R s j o out P nm v) (hk:j≤s.size) (hs:s.size≤100000) :
  Calls Tryz.prog 211 #[.pointer (some ⟨R,0,none⟩)] w fun e w'=>∃ j1,j≤j1∧j1≤s.size∧s.data.toList.drop j1=Fd.X4 (s.data.toList.drop j)∧e=.returned (.int .i64 ((j1:Int) - j))∧AtJ w0 w' R s j1 o out P nm v:=by
 refine(q1o h.i.x hk (by omega)).mono ?_;rintro e w1 ⟨j1,h1,h2,h3,h4,h5,h6⟩;exact⟨j1,h1,h2,h4,h3,h.moved h6 h5⟩
theorem xr_toA {w0:World} {j:Nat} {o:Value} {out:List Mk.At} {P:Nat} {nm v:List UInt8} (p:List UInt8) (hp:p ≠ []) (hpl:p.length≤3) (hg:Gl w0) (hR:4 < R) (h:AtJ w0 w R s j o out P nm v) (hk:j≤s.size) (hs:s.size≤100000) :
  Calls Tryz.prog 251 #[.pointer (some ⟨R,0,none⟩),.string (st p)] w fun e w'=>(Fd.toX p (s.data.toList.drop j)=.er 1∧e=GaveX 1∧AtJ w0 w' R s j o out P nm v)∨∃ a j1,Fd.toX p (s.data.toList.drop j)=.ok a (s.data.toList.drop j1)∧e=.returned (.string (st a))∧a.length≤s.size∧j < j1∧j1≤s.size∧AtJ w0 w' R s j1 o out P nm v:=by
 refine(xr_to p (h.i.gl hg hR) h.i.x hk (by omega) hp hpl).mono ?_;rintro e w1 (⟨h1,h2,n,h3⟩ | ⟨a,j1,h1,h2,h3,h4,h5,h6⟩)
 ·subst h3
  exact .inl ⟨by rw[Fd.toX,h1],h2,h.drewN n⟩
 ·have ht:Fd.toX p (s.data.toList.drop j)=.ok a (s.data.toList.drop j1):=by rw[Fd.toX,h1]
  have:=Fd.q0v hp ht;rw[List.length_drop,List.length_drop,bs_len] at this;exact .inr ⟨a,j1,ht,h2,by omega,h3,h4,h.moved h6 h5⟩
theorem xm_toldA {w0:World} {j:Nat} {o:Value} {out:List Mk.At} {P:Nat} {nm v:List UInt8} (x:List UInt8) (hx:x.length≤100000) (hg:Gl w0) (hR:4 < R) (h:AtJ w0 w R s j o out P nm v) :
  Calls Tryz.prog 253 #[.string (st x)] w fun e w'=>AtJ w0 w' R s j o out P nm v∧(((Mk.take x).2=true∧e=.returned (.string (st (Mk.take x).1)))∨((Mk.take x).2=false∧e=GaveX 1)):=by
 refine(j1f x w (by omega) (h.i.gl hg hR)).mono ?_;rintro e w1 ⟨h1,h2⟩;exact⟨h.below h1,h2⟩
theorem j4d (x:List UInt8):Lib.contains x [60]=x.contains 60:=by
 unfold Lib.contains
 induction x with
 | nil=>rfl
 | cons c t ih =>
  unfold Lib.index;have hge:=Lib.index_ge t [60]
  by_cases hc:c=60
  ·subst hc;rfl
  ·have h1:([60]:List UInt8).isPrefixOf (c :: t)=false:=by
    rw[Bool.eq_false_iff];intro q;simp[List.isPrefixOf] at q;exact hc q.symm
   rw[h1];rw[List.contains_cons,← ih,show ((60:UInt8) == c)=false from beq_eq_false_iff_ne.2 (fun e=>hc e.symm),Bool.false_or];simp only [Bool.false_eq_true,if_false]
   by_cases h2:Lib.index t [60] = -1
   ·simp[h2]
   ·have h3:(Lib.index t [60] == -1)=false:=beq_eq_false_iff_ne.2 h2
    rw[h3];simp only [Bool.false_eq_true,if_false];rw[Bool.eq_iff_iff];simp;omega
end
end Go.Proofs.YtjonkbdldebkiaaGreatDoor
namespace Go
section
variable {P : Program} {Q : Exit→Act→World→Prop} {a : Act} {w : World} {o0 o1 : Oper} {l : List Oper}
theorem z3y {id:Nat} (hm:P.follows .mixedOrders=true) (hs:Region.noSelect (o0 :: o1 :: l).toArray=true)
  (h0:Region.ready .any (o0 :: o1 :: l).toArray (Array.replicate (o0 :: o1 :: l).toArray.size false)=[0])
  (h1:Region.ready .any (o0 :: o1 :: l).toArray ((Array.replicate (o0 :: o1 :: l).toArray.size false).setIfInBounds 0 true)=[1])
  (hB:Region.lexFrom .any (o0 :: o1 :: l).toArray l.length 2 (((Array.replicate (o0 :: o1 :: l).toArray.size false).setIfInBounds 0 true).setIfInBounds 1 true)=true)
  (g0:o0.guard=none) (g1:o1.guard=none)
  (h:o0.wp P a w.drew (fun a0 w0=>o1.wp P a0 w0 (fun a1 w1=>wpQuiet P (o0 :: o1 :: l).toArray (fun w'=>∃ n,w'=w1.drewN n) (fun a'=>∀ w',(∃ n,w'=w1.drewN n)→Q .normal a' w') l a1) Q) Q) :
  (Code.region id (o0 :: o1 :: l).toArray true).wp P Q a w:=by
 refine wp_region_any hm ?_;have hsz:(o0 :: o1 :: l).toArray.size=l.length + 1 + 1:=by simp
 have wn:∀ (o:Oper) (ts:Nat→Option Bool),o.guard=none→Region.wanted o ts=true:=by
  intro o ts hg;unfold Region.wanted;rw[hg]
 show wpAny P .any (o0 :: o1 :: l).toArray Q (o0 :: o1 :: l).toArray.size _ a w.drew;have main:∀ listed:Array Bool,listed=Array.replicate (o0 :: o1 :: l).toArray.size false→wpAny P .any (o0 :: o1 :: l).toArray Q (l.length + 1 + 1) listed a w.drew:=by
  intro listed hl;subst hl;refine⟨fun e=>by rw[h0] at e;(cases e),fun i hi=>?_⟩;rw[h0] at hi;have hi:i=0:=by simpa using hi
  subst hi;unfold wpOp;have e0:(o0 :: o1 :: l).toArray[0]? = some o0:=rfl;rw[e0];simp only;rw[if_pos (wn o0 _ g0)];refine .inl (Oper.wp_mono (fun a0 w0 hh=>?_) h);refine⟨fun e=>by rw[h1] at e;(cases e),fun i hi=>?_⟩;rw[h1] at hi;have hi:i=1:=by simpa using hi
  subst hi;unfold wpOp;have e1:(o0 :: o1 :: l).toArray[1]? = some o1:=rfl;rw[e1];simp only;rw[if_pos (wn o1 _ g1)];refine .inl (Oper.wp_mono (fun a1 w1 hh=>?_) hh);refine wpAny_of_quiet (C:=fun w'=>∃ n,w'=w1.drewN n) (Q:=fun a'=>∀ w',(∃ n,w'=w1.drewN n)→Q .normal a' w') (fun _ w' hw' h=>h w' hw') _ _ _ _ ⟨0,rfl⟩ ?_;exact wpAnyQ_lex hs l 2 _ _ (fun j=>by simp[Nat.add_comm 2 j]) hB hh
 rw[hsz];exact main _ (by rw[hsz])
end
end Go
namespace Fd
open Mk
def z6o (s:Bs):UInt8:=if Mg.pre [39] s=true then 39 else 34
theorem attrX_t {s:Bs} {e:Int} (h:V8 s=.er e):z4l s=.er e:=by rw[z4l,h]
theorem attrX_n {s nm r:Bs} {e:Int} (h:V8 s=.ok nm r) (h2:z0b [61] (X4 r)=.er e):z4l s=.er e:=by rw[z4l,h];simp only;rw[h2]
theorem attrX_v {s nm r z:Bs} {u:Unit} (h:V8 s=.ok nm r) (h2:z0b [61] (X4 r)=.ok u z):z4l s=match z3h (X4 z) with | .er e=>.er e | .ok v y=>.ok ⟨nm,v⟩ y:=by rw[z4l,h];simp only;rw[h2];rfl
theorem valueX_n {s:Bs} {e:Int} (h:z0b [z6o s] s=.er e):z3h s=.er e:=by
 unfold z6o at h;unfold z3h;simp only;rw[h]
theorem valueX_t {s r:Bs} {u:Unit} {e:Int} (h:z0b [z6o s] s=.ok u r) (h2:toX [z6o s] r=.er e):z3h s=.er e:=by
 unfold z6o at h h2;unfold z3h;simp only;rw[h];simp only;rw[h2]
theorem valueX_c {s r v z:Bs} {u:Unit} (h:z0b [z6o s] s=.ok u r) (h2:toX [z6o s] r=.ok v z):z3h s=if v.contains 60 then .er 1 else if (Mk.take v).2 then .ok (Mk.take v).1 z else .er 1:=by
 unfold z6o at h h2;unfold z3h;simp only;rw[h];simp only;rw[h2]
end Fd
namespace Go.Proofs.YtjonkbdldebkiaaGreatDoor
open Go.RowKit
section
variable {w w' : World} {R : Nat} {s : ByteArray} {k : Nat}
theorem xr_attrs (hg:Gl w) (hR:4 < R) (h:Xr w R s k) (hk:k≤s.size) (hs:s.size≤100000) :
  Calls Tryz.prog 215 #[.pointer (some ⟨R,0,none⟩)] w fun e w' =>
   (∃ er,Fd.z2a (s.data.toList.drop k)=.er er∧e=GaveX er∧Ap (fun b=>b=R) w w') ∨
   ∃ l j v,Fd.z2a (s.data.toList.drop k)=.ok l (s.data.toList.drop j)∧e=.returned v∧k≤j∧j≤s.size∧Mk.Fo.atB l≤5 * j∧AtI w w' R s j v l:=by
 have HG:=Lib.hid hg;have HX:=Lib.hid h;clear hg h;go_enter Tryz.func215,Tryz.ntmps215;go_wp2_with fail
 go_loopg [3] s.size (fun g o wx=>∃ j out,k≤j∧j≤s.size∧s.size≤j + g∧Mk.Fo.atB out≤5 * j∧Hid (Fd.z2a (s.data.toList.drop k)=Fd.z4d (s.data.toList.drop j) out)∧Hid (AtI w wx R s j o out))
 case atStart=>exact⟨k,[],Nat.le_refl _,hk,by omega,Nat.zero_le _,rfl,⟨Blk.lt HX.out,HX.out,Ap.refl _ _,World.ownsRow_nil _ _ _ _⟩⟩
 case round =>
  obtain⟨j,out,hkj,hjs,hfu,hab,HA,I⟩:=hrel;obtain⟨j1,hjj1,hjs1,hd1⟩:=skip_at s j hjs;have HD1:=Lib.hid hd1;have HW:=Lib.hid (j6u (w:=wr.drew) (Blk.drew I.out.x) hjs (by omega) hjs1 hd1);clear hd1;obtain⟨b,hb⟩:∃ b,q2u j j1 (s.data.toList.drop j1)=b:=⟨_,rfl⟩;have HB:=Lib.hid hb;clear hb;go_upto_region 2 with fail
  go_cut [33] (fun x wx=>x=.bool b∧Hid (AtI w wx R s j1 u3 out))
  case first =>
   as_aux_lemma =>
   have HC0:Hid (wr.drew.cell? ⟨R,0,none⟩=some (.string s)):=(I.out.drewN 1).x.c0
   by_cases hlt:j < j1
   ·have hp:(0:Int) < (j1:Int) - j:=by omega
    by_cases hlt1:j1 < s.size
    ·have hdr:=z02 s j1 hlt1
     have hb:Fd.z1y true s[j1]=b:=by
      have:=HB.out;unfold q2u at this;rw[hdr,decide_eq_true hlt] at this;exact this
     have HT:=Lib.hid (fun W=>z4k s[j1] true W);rw[hb] at HT;have hj1:(j1:Int) < s.size:=by omega
     clear hb hdr;refine z3y (by kernel_rfl) (by kernel_rfl) (by kernel_rfl) (by kernel_rfl) (by kernel_rfl) rfl rfl ?_;go_wp2_with fail;refine HW.out.mono ?_;rintro e w7 ⟨rfl,X7,MV7⟩;have d0:=X7.c0;have d1:=X7.c1;have I7:=Lib.hid ((I.out.drewN 1).moved MV7 X7);clear X7 MV7
     dsimp only
     repeat (quiet_step ((go_at_call 218;exact Calls.quiet_of_same (HT.out _))))
     with_reducible refine wpQuiet_nil ?_
     intro nq
     all_goals
      go_wp2_with fail;go_meet
      case rel=>exact⟨rfl,I7.out.drewN nq⟩
    ·have hb:false=b:=by
      have:=HB.out;unfold q2u at this;rw[List.drop_of_length_le (by rw[bs_len];omega),Bool.and_false] at this;exact this
     subst hb;have hj1:¬ (j1:Int) < s.size:=by omega
     refine z3y (by kernel_rfl) (by kernel_rfl) (by kernel_rfl) (by kernel_rfl) (by kernel_rfl) rfl rfl ?_;go_wp2_with fail;refine HW.out.mono ?_;rintro e w7 ⟨rfl,X7,MV7⟩;have d0:=X7.c0;have d1:=X7.c1;have I7:=Lib.hid ((I.out.drewN 1).moved MV7 X7);clear X7 MV7
     dsimp only
     repeat (with_reducible refine wpQuiet_step (fun K hK=>?_);go_simp;with_reducible refine hK _ ?_;clear hK K)
     with_reducible refine wpQuiet_nil ?_
     intro nq
     all_goals
      go_wp2_with fail;go_meet
      case rel=>exact⟨rfl,I7.out.drewN nq⟩
   ·have hb:false=b:=by
     have:=HB.out;unfold q2u at this;rw[decide_eq_false hlt,Bool.false_and] at this;exact this
    subst hb;have hp:¬ (0:Int) < (j1:Int) - j:=by omega
    refine z3y (by kernel_rfl) (by kernel_rfl) (by kernel_rfl) (by kernel_rfl) (by kernel_rfl) rfl rfl ?_;go_wp2_with fail;refine HW.out.mono ?_;rintro e w7 ⟨rfl,X7,MV7⟩;have d0:=X7.c0;have d1:=X7.c1;have I7:=Lib.hid ((I.out.drewN 1).moved MV7 X7);clear X7 MV7
    dsimp only
    repeat (with_reducible refine wpQuiet_step (fun K hK=>?_);go_simp;with_reducible refine hK _ ?_;clear hK K)
    with_reducible refine wpQuiet_nil ?_
    intro nq
    all_goals
     go_wp2_with fail;go_meet
     case rel=>exact⟨rfl,I7.out.drewN nq⟩
  case rest =>
   as_aux_lemma =>
   obtain⟨rfl,I1⟩:=hcut;clear I HW;have hlen:(Fd.X4 (s.data.toList.drop j)).length < (s.data.toList.drop j).length↔j < j1:=by
    rw[← HD1.out,List.length_drop,List.length_drop,bs_len];omega
   have HLEN:=Lib.hid hlen;clear hlen
   cases b with
   | false =>
    have HE:Hid (Fd.z2a (s.data.toList.drop k)=.ok out (s.data.toList.drop j1)):=by
     show _=_;rw[HA.out]
     by_cases hlt:j < j1
     ·have hl:=HLEN.out.2 hlt
      by_cases hlt1:j1 < s.size
      ·have hdr:=z02 s j1 hlt1
       have hb:=HB.out;unfold q2u at hb;rw[hdr,decide_eq_true hlt,Bool.true_and] at hb;rw[hdr];exact Fd.j3n hl (by rw[← HD1.out,hdr]) hb
      ·have hn:s.data.toList.drop j1=[]:=List.drop_of_length_le (by rw[bs_len];omega)
       rw[hn];exact Fd.j3o hl (by rw[← HD1.out,hn])
     ·have hje:j=j1:=by omega
      subst hje;exact Fd.j7f (fun q=>hlt (HLEN.out.1 q))
    go_wp2_with fail;go_ret;exact .inr ⟨out,j1,_,HE.out,rfl,by omega,hjs1,by omega,I1.out⟩
   | true =>
    have hlt:j < j1:=by
     have:=HB.out;unfold q2u at this;rw[Bool.and_eq_true,decide_eq_true_iff] at this;exact this.1
    have HC:Hid (∃ c t,s.data.toList.drop j1=c :: t∧Fd.z1y true c=true):=by
     have:=HB.out;unfold q2u at this;rw[Bool.and_eq_true] at this
     cases hd:s.data.toList.drop j1 with
     | nil=>rw[hd] at this;exact absurd this.2 (by simp)
     | cons c t=>rw[hd] at this;exact⟨c,t,rfl,this.2⟩
    have HER:Hid (∀ er,Fd.z4l (s.data.toList.drop j1)=.er er→Fd.z2a (s.data.toList.drop k)=.er er):=by
     intro er he;obtain⟨c,t,h1,h2⟩:=HC.out;rw[HA.out];exact Fd.j7e (HLEN.out.2 hlt) (by rw[← HD1.out,h1]) h2 (by rw[← h1];exact he)
    have HOK:Hid (∀ (a:Mk.At) (r:List UInt8),Fd.z4l (s.data.toList.drop j1)=.ok a r→Fd.z2a (s.data.toList.drop k)=if Mk.Q9 Fd.z03 [] (out++[a]) ≠ 0 then .er 6 else Fd.z4d r (out++[a])):=by
     intro a r he;obtain⟨c,t,h1,h2⟩:=HC.out;rw[HA.out]
     by_cases hc:Mk.Q9 Fd.z03 [] (out++[a])=0
     ·rw[if_neg (fun q=>q hc)]
      exact Fd.q9e (HLEN.out.2 hlt) (by rw[← HD1.out,h1]) h2 (by rw[← h1];exact he) hc
     ·rw[if_pos hc]
      exact Fd.j3m (HLEN.out.2 hlt) (by rw[← HD1.out,h1]) h2 (by rw[← h1];exact he) hc
    clear HA HB HD1 HLEN HC;have HT:=Lib.hid (q6y I1.out.x hjs1 (by omega));go_wp2_with fail;refine HT.out.mono ?_;rintro e w2 (⟨ht,rfl,hm⟩ | ⟨nm,j2,ht,rfl,hj2,hjs2,hx,hm,hit⟩)
    ·have AP:=Lib.hid (I1.out.ap.trans hm.ap)
     have HE:=Lib.hid (HER.out 1 (Fd.attrX_t ht));clear hm ht HT;go_wp2_with fail;exact⟨rfl,.inl ⟨1,HE.out,rfl,AP.out⟩⟩
    have HTI:=Lib.hid ht;have HIT:=Lib.hid hit;have I2:=Lib.hid (I1.out.moved hm hx);have J2:=Lib.hid (I2.out.new nm);clear hm hx hit HT I1 ht;obtain⟨P,hP⟩:∃ P,P=w2.heap.size:=⟨_,rfl⟩;rw[← hP] at J2;go_upto_region 4 with fail;rw[← hP];generalize w2.alloc (.cells #[.string (st nm),.string ⟨#[]⟩] 56)=w3 at J2 ⊢;clear hP I2;have HW3:=Lib.hid (q94 J2.out hjs2 hs);go_wp2_with fail;refine HW3.out.mono ?_;rintro e w4 ⟨j3,hj3,hjs3,hd3,rfl,hJ4⟩;have J4:=Lib.hid hJ4;have HD3:=Lib.hid hd3;clear hJ4 hd3 HW3 J2;have HN4:=Lib.hid (j2z [61] J4.out hjs3 hs);go_wp2_with fail;refine HN4.out.mono ?_;rintro e w5 (⟨hn,hjs4,rfl,hJ5⟩ | ⟨hn,rfl,hJ5⟩)
    case inr =>
     have AP:=Lib.hid hJ5.i.ap;have HE:=Lib.hid (HER.out 1 (Fd.attrX_n HTI.out (by rw[← HD3.out];exact hn)));clear hn hJ5 HN4;go_wp2_with fail;exact⟨rfl,.inl ⟨1,HE.out,rfl,AP.out⟩⟩
    have HAV:Hid (Fd.z4l (s.data.toList.drop j1)=match Fd.z3h (Fd.X4 (s.data.toList.drop (j3 + 1))) with | .er e=>.er e | .ok v y=>.ok ⟨nm,v⟩ y):=Fd.attrX_v HTI.out (by rw[← HD3.out];exact hn);have J5:=Lib.hid hJ5;have J5:Hid (AtJ w w5 R s (j3 + 1) u3 out P nm []):=J5;clear hn hJ5 HN4 HTI HD3 J4;have hjs4:j3 + 1≤s.size:=hjs4;have HW5:=Lib.hid (q94 J5.out hjs4 hs);go_wp2_with fail;refine HW5.out.mono ?_;rintro e w6 ⟨j5,hj5,hjs5,hd5,rfl,hJ6⟩;have J6:=Lib.hid hJ6;rw[← hd5] at HAV;clear hJ6 hd5 HW5 J5;have HB6:=Lib.hid (j6r [39] J6.out hjs5 hs);go_wp2_with fail;refine HB6.out.mono ?_;rintro e w7 ⟨rfl,hJ7⟩;have J7:=Lib.hid hJ7;clear hJ7 HB6 J6;go_upto_if 44 with fail
    go_cut [5] (fun x wx=>x=.string (st [Fd.z6o (s.data.toList.drop j5)])∧w7=wx)
    case first =>
     as_aux_lemma =>
     obtain⟨bq,hbq⟩:∃ bq,Mg.pre [39] (s.data.toList.drop j5)=bq:=⟨_,rfl⟩;have HQ:Hid (Fd.z6o (s.data.toList.drop j5)=if bq=true then 39 else 34):=by show _=_;rw[Fd.z6o,hbq]
     rw[hbq];clear hbq
     cases bq with
     | true =>
      go_wp2_with fail;go_meet
      case rel=>exact⟨by rw[HQ.out];rfl,rfl⟩
     | false =>
      go_wp2_with fail;go_meet
      case rel=>exact⟨by rw[HQ.out];rfl,rfl⟩
    case rest =>
     as_aux_lemma =>
     obtain⟨rfl,hw⟩:=hcut;subst hw;have HVN:=Lib.hid (fun er h=>Fd.valueX_n (s:=s.data.toList.drop j5) (e:=er) h);have HVT:=Lib.hid (fun r er h h2=>Fd.valueX_t (s:=s.data.toList.drop j5) (u:=()) (r:=r) (e:=er) h h2);have HVC:=Lib.hid (fun r v z h h2=>Fd.valueX_c (s:=s.data.toList.drop j5) (u:=()) (r:=r) (v:=v) (z:=z) h h2);generalize Fd.z6o (s.data.toList.drop j5)=q at HVN HVT HVC ⊢;have HN7:=Lib.hid (j2z [q] J7.out hjs5 hs);go_wp2_with fail;refine HN7.out.mono ?_;rintro e w8 (⟨hn,hjs6,rfl,hJ8⟩ | ⟨hn,rfl,hJ8⟩)
     case inr =>
      have AP:=Lib.hid hJ8.i.ap;have HE:=Lib.hid (HER.out 1 (by rw[HAV.out,HVN.out 1 hn]));clear hn hJ8 HN7;go_wp2_with fail;exact⟨rfl,.inl ⟨1,HE.out,rfl,AP.out⟩⟩
     have J8:=Lib.hid hJ8;have HN:=Lib.hid hn;have hjs6:j5 + 1≤s.size:=hjs6;have J8:Hid (AtJ w w8 R s (j5 + 1) u3 out P nm []):=J8;have HN:Hid (Fd.z0b [q] (s.data.toList.drop j5)=.ok () (s.data.toList.drop (j5 + 1))):=HN;clear hn hJ8 HN7 J7;have HT8:=Lib.hid (xr_toA [q] (by simp) (by simp) HG.out hR J8.out hjs6 hs);go_wp2_with fail;refine HT8.out.mono ?_;rintro e w9 (⟨ht,rfl,hJ9⟩ | ⟨a,j7,ht,rfl,hal,hj7,hjs7,hJ9⟩)
     ·have AP:=Lib.hid hJ9.i.ap
      have HE:=Lib.hid (HER.out 1 (by rw[HAV.out,HVT.out _ 1 HN.out ht]));clear ht hJ9 HT8;go_wp2_with fail;exact⟨rfl,.inl ⟨1,HE.out,rfl,AP.out⟩⟩
     have HV:Hid (Fd.z3h (s.data.toList.drop j5)=if a.contains 60 then .er 1 else if (Mk.take a).2 then .ok (Mk.take a).1 (s.data.toList.drop j7) else .er 1):=HVC.out _ _ _ HN.out ht;have J9:=Lib.hid hJ9;clear ht hJ9 HT8 J8 HN HVN HVT HVC;have hcc:∀ W:World,Gl W→Calls Tryz.prog 252 #[.string (st a),.string (st [60])] W fun e w'=>e=.returned (.bool (a.contains 60))∧w'=W:=by
      intro W hW;obtain⟨m,hm⟩:=hW.ml;have:=Tryz.strings_Contains (st a) (st [60]) m W (by rw[y9];omega) hm;rw[z0y,z0y,j4d] at this;exact this
     have HCC:=Lib.hid (hcc w9 (J9.out.i.gl HG.out hR));clear hcc;obtain⟨bc,hbc⟩:∃ bc,a.contains 60=bc:=⟨_,rfl⟩;rw[hbc] at HCC HV;clear hbc
     cases bc with
     | true =>
      have HE:=Lib.hid (HER.out 1 (by rw[HAV.out,HV.out];rfl));go_wp2_with fail;refine HCC.out.mono ?_;rintro e w10 ⟨rfl,hw10⟩;subst w10;go_wp2_with fail;refine(z3z 1 _).mono ?_;rintro e w10 ⟨rfl,hw10⟩;subst w10;go_wp2_with fail;exact⟨rfl,.inl ⟨1,HE.out,rfl,J9.out.i.ap⟩⟩
     | false =>
      go_wp2_with fail;refine HCC.out.mono ?_;rintro e w10 ⟨rfl,hw10⟩;subst w10;have HTO:=Lib.hid (xm_toldA a (by omega) HG.out hR J9.out);clear HCC;go_wp2_with fail;refine HTO.out.mono ?_;rintro e w10 ⟨hJ10,⟨hk2,rfl⟩ | ⟨hk2,rfl⟩⟩
      case inr =>
       have AP:=Lib.hid hJ10.i.ap;have HE:=Lib.hid (HER.out 1 (by rw[HAV.out,HV.out,hk2];rfl));clear hk2 hJ10 HTO;go_wp2_with fail;exact⟨rfl,.inl ⟨1,HE.out,rfl,AP.out⟩⟩
      have HAX:Hid (Fd.z4l (s.data.toList.drop j1)=.ok ⟨nm,(Mk.take a).1⟩ (s.data.toList.drop j7)):=by show _=_;rw[HAV.out,HV.out,hk2];rfl
      have J10:=Lib.hid hJ10;have HOK2:=Lib.hid (HOK.out _ _ HAX.out);have hbk:=Fd.q3t HAX.out;rw[List.length_drop,List.length_drop,bs_len] at hbk;generalize (Mk.take a).1=va at J10 HOK2 hbk ⊢;have hbk2:Mk.Fo.atB (out++[⟨nm,va⟩])≤5 * j7:=by
       rw[Mk.q5b];have hbk':1 + nm.length + va.length + 5 * (s.size - j7)≤5 * (s.size - j1):=hbk;show Mk.Fo.atB out + (1 + nm.length + va.length)≤_;omega
      have hol:out.length + 1≤5 * j7:=by
       have:=Mk.z1u (out++[(⟨nm,va⟩:Mk.At)]);rw[List.length_append,List.length_singleton] at this;omega
      clear hk2 hJ10 HTO HAX HOK HER HAV HV J9 hbk;have J11:=Lib.hid (J10.out.set_ va);have p1:=Blk.frozen J10.out.pb 1;have p2:w10.cell? ⟨P,1,none⟩=some (.string ⟨#[]⟩):=Blk.cell J10.out.pb 1;go_upto_region 15 with fail;generalize w10.setCell ⟨P,1,none⟩ (.string (st va))=w11 at J11 ⊢;clear p1 p2 J10;have d0:w11.cell? ⟨P,0,none⟩=some (.string (st nm)):=Blk.cell J11.out.pb 0;have d1:w11.cell? ⟨P,1,none⟩=some (.string (st va)):=Blk.cell J11.out.pb 1;have ow:=Lib.hid ((J11.out.below ((Below.refl _ w11).alloc (Nat.le_refl _) (.cells #[.string (st nm),.string (st va)] 56))).i.ow);have hbase:w.heap.size≤(w11.alloc (.cells #[.string (st nm),.string (st va)] 56)).heap.size:=Nat.le_trans J11.out.i.ap.size (by simp);obtain⟨i0,hi,hz0,hz1,hz2⟩:=info_parts Tryz.infoAttr;go_wp2_with (at_builtin;refine wpList_append_own _ rfl _ _ 50 rfl w.heap.size 56 i0 (.agg #[.string ⟨#[]⟩,.string ⟨#[]⟩]) 2 32 Tryz.underlying50 hi hz0 hz1 hz2 rfl (by decide) _ _ _ rfl ow.out ⟨w11.heap.size,0,none⟩ 1 1 [.string (st nm),.string (st va)] rfl rfl (z07 _ _ _) (by intro u hu;simp at hu;rcases hu with rfl | rfl <;> rfl) (by unfold maxLen;omega) (by omega) hbase ?_);intro v' w12 hown' hgrow _;have I12:=Lib.hid (J11.out.pushed hown' hgrow);clear hown' hgrow J11 ow d0 d1 hbase;have hat:=j9n (out++[⟨nm,va⟩]) v' (fun b=>w.heap.size≤b∧b < w12.heap.size) w12 (AtsV.of_own I12.out.ow (fun g hg'=>I12.out.ow.lt g hg')) (fun b hb=>hb.2) (by omega);generalize Mk.Q9 Fd.z03 [] (out++[⟨nm,va⟩])=ck at hat HOK2;have HAT:=Lib.hid hat
      clear hat
      go_wp2_with fail;refine HAT.out.mono ?_;rintro e w13 ⟨rfl,hb13⟩;have I13:=Lib.hid (I12.out.below hb13);clear hb13 HAT I12
      by_cases hck:ck=0
      ·subst hck
       rw[if_neg (fun q=>q rfl)] at HOK2;obtain⟨g',rfl⟩:∃ g',gk=g' + 1:=⟨gk - 1,by omega⟩;go_wp2_with fail
       go_roundg g'
       case measure=>omega
       case rel=>exact⟨j7,_,by omega,hjs7,by omega,hbk2,HOK2,I13⟩
      ·have hcb:(ck == 0)=false:=beq_eq_false_iff_ne.2 hck
       rw[if_pos hck] at HOK2;clear hck;go_wp2_with fail;refine(z3z 6 _).mono ?_;rintro e w14 ⟨rfl,hw14⟩;subst w14;go_wp2_with fail;exact⟨rfl,.inl ⟨6,HOK2.out,rfl,I13.out.ap⟩⟩
end
end Go.Proofs.YtjonkbdldebkiaaGreatDoor
namespace Fd
open Mk
theorem j9t (c:UInt8) (t:Bs):Mg.pre [60] (c :: t)=(c == 60):=by
 unfold Mg.pre;rw[Bool.eq_iff_iff];simp
theorem j6z:∀ l:Bs,(z05 [60] l=none∧Go.Lib.indexByte l 60 = -1)∨∃ i:Nat,Go.Lib.indexByte l 60=i∧i < l.length∧z05 [60] l=some (l.take i,l.drop (i + 1))
 | []=>.inl ⟨rfl,rfl⟩
 | c :: t=>by
  unfold z05 Go.Lib.indexByte;rw[j9t]
  cases h:c == 60 with
  | true=>exact .inr ⟨0,by first | rfl | simp,by simp,by simp⟩
  | false =>
   have hge:=Go.Lib.indexByte_ge t 60
   rcases j6z t with ⟨h1,h2⟩ | ⟨i,h1,h2,h3⟩
   ·refine .inl ⟨by simp[h1],by simp[h2]⟩
   ·refine .inr ⟨i + 1,?_,by simp;omega,by simp[h3]⟩
    rw[h1];simp <;> omega
end Fd
namespace Go.Proofs.YtjonkbdldebkiaaGreatDoor
open Go.RowKit
theorem y0t (f:Mk.Fo) (t:List UInt8) (v:Value) (B:Nat) (K:Nat→Prop) (xs:List Value) (w:World) (hF:OwnF w B K v f xs) (hB:B≤w.heap.size) (hl:f.bulk + t.length≤1099511627776) :
  Calls Tryz.prog 255 #[v,.string (st t)] w fun e w'=>∃ v' xs',e=.returned v'∧OwnF w' B K v' (Fd.q0f f t) xs'∧Ap (fun b=>v.ownBlock=some b) w w'∧q2o w v v':=by
 have hst:∀ l:List UInt8,(st l).toList=l:=fun l=>Lib.toList_data _
 have HTX:Hid (Fd.q0f f t=if t=[] then f else Mk.Fo.snoc [] [] t .nil f):=rfl;obtain⟨ao0,cap0,hu0⟩:=Y1 hF.own;subst hu0;have HF:=Lib.hid hF;generalize Fd.q0f f t=out at HTX ⊢;clear hF
 rcases z5y t with ⟨e1,e2⟩ | ⟨e1,e2⟩
 ·rw[if_pos e1] at HTX
  clear e1;go_enter Tryz.func255,Tryz.ntmps255;go_wp2_with fail;go_ret;exact⟨_,_,rfl,by rw[HTX.out];exact HF.out,Ap.refl _ _,.inl rfl⟩
 rw[if_neg e1] at HTX;clear e1;have hfl:=Mk.Fo.z0k f;have htl:=Mk.Fo.z7m f;go_enter Tryz.func255,Tryz.ntmps255;go_upto_region 4 with fail
 go_cut [21] (fun b wx=>b=.bool (f.merges [])∧w=wx)
 case first =>
  as_aux_lemma =>
  by_cases hf0:f=.nil
  ·have HM:Hid (f.merges []=false):=by show _=_;rw[hf0,Mk.Fo.z4z]
   have hl0:¬ 0 < f.len:=by rw[hf0];simp[Mk.Fo.len]
   clear hf0;go_wp2_with fail;go_meet
   case rel=>exact⟨by rw[HM.out],rfl⟩
  ·obtain⟨g0,capz,hz,d1,d2,df⟩:=HF.out.last hf0
   injection hz with z1 z2 z3;subst z1;subst z3;have hl0:0 < f.len:=z1o f hf0;obtain⟨j,hj⟩:∃ j,j=f.len - 1:=⟨_,rfl⟩;rw[← hj] at d1;have hj1:(f.len:Int) - 1=j:=by omega
   have hj2:(j:Int) < f.len:=by omega
   have hj3:(0:Int)≤j:=by omega
   have hbl:f.z6q=[]∨f.z6q.isEmpty=false:=by
    cases f.z6q with
    | nil=>exact .inl rfl
    | cons _ _=>exact .inr rfl
   have HF0:=Lib.hid hf0;clear hj d2 df hf0
   rcases hbl with h1 | h1
   ·have HM:Hid (f.merges []=true):=(Mk.Fo.Y9 _ _).2 ⟨rfl,HF0.out,h1⟩
    have he1:f.z6q.isEmpty=true:=by rw[h1];rfl
    clear h1;go_wp2_with fail;go_meet
    case rel=>exact⟨by rw[HM.out],rfl⟩
   ·have HM:Hid (f.merges []=false):=by
     show _=_;rw[Bool.eq_false_iff];intro q;rw[((Mk.Fo.Y9 _ _).1 q).2.2] at h1;cases h1
    go_wp2_with fail;go_meet
    case rel=>exact⟨by rw[HM.out],rfl⟩
 case rest =>
  as_aux_lemma =>
  obtain⟨rfl,hw⟩:=hcut;subst hw;obtain⟨mb,hmb⟩:∃ mb,f.merges []=mb:=⟨_,rfl⟩;rw[hmb];have HMB:=Lib.hid hmb;clear hmb
  cases mb with
  | true =>
   have hq:=(Mk.Fo.Y9 _ _).1 HMB.out;obtain⟨g0,capz,hz,d1,d2,df⟩:=HF.out.last hq.2.1;injection hz with z1 z2 z3;subst z1;subst z3;have hl0:0 < f.len:=z1o f hq.2.1;have OFM:=Lib.hid (HF.out.merged [] t .nil HMB.out (g:=g0) rfl);obtain⟨j,hj⟩:∃ j,j=f.len - 1:=⟨_,rfl⟩;rw[← hj] at d1 d2 OFM;have hj1:(f.len:Int) - 1=j:=by omega
   have hj2:(j:Int) < f.len:=by omega
   have hj3:(0:Int)≤j:=by omega
   have df2:=df (j * 4 + 2);have q1:¬ 9223372036854775807 < (st f.lastT).size + (st t).size:=by rw[y9,y9];omega
   clear hj hq df;go_wp2_with fail;rw[show st f.lastT++st t=st (f.lastT++t) from z3n (st f.lastT) (st t)];have OFM2:Hid (OwnF (w.setCell ⟨g0,j * 4 + 2,none⟩ (.string (st (f.lastT++t)))) B K (.slice (some ⟨g0,0,none⟩) f.len cap0) (Mk.Fo.snoc [] [] t .nil f) (xs.set (4 * j + 2) (.string (st (f.lastT++t))))):=by
    have:=OFM.out;rw[Nat.mul_comm 4 j] at this;rw[Nat.mul_comm 4 j];exact this
   go_ret;exact⟨_,rfl,⟨_,by rw[HTX.out];exact OFM2.out⟩,(Ap.refl (fun b=>(Value.slice (some ⟨g0,0,none⟩) f.len cap0).ownBlock=some b) w).setCell (p:=⟨g0,j * 4 + 2,none⟩) rfl _,.inl rfl⟩
  | false =>
   obtain⟨i0,hi,hz0,hz1,hz2⟩:=info_parts Tryz.infoNode;have ow10:=z04 HF.out.own ((Ap.refl (fun _=>False) w).alloc (.cells #[.string ⟨#[]⟩,.slice none 0 0,.string (st t),.slice none 0 0] 53)) (fun _ _ q=>q);have hal2:=(Below.refl w.heap.size w).alloc (Nat.le_refl _) (.cells #[.string ⟨#[]⟩,.slice none 0 0,.string (st t),.slice none 0 0] 53);have hlf:f.len≤1099511627776:=by omega
   go_wp2_with (at_builtin;refine Y2 rfl _ _ 51 rfl B 53 i0 (.agg #[.string ⟨#[]⟩,.slice none 0 0,.string ⟨#[]⟩,.slice none 0 0]) 4 80 Tryz.underlying51 hi hz0 hz1 hz2 rfl (by decide) _ _ _ rfl ow10 ⟨w.heap.size,0,none⟩ 1 1 [.string ⟨#[]⟩,.slice none 0 0,.string (st t),.slice none 0 0] rfl rfl (z07 _ _ _) (by intro u hu;simp at hu;rcases hu with rfl | rfl | rfl | rfl <;> rfl) (by decide) (by unfold maxLen;omega) (by omega) (by simp;omega) ?_);intro v' w2 hown' hgrow hfresh;have hfr2:v'.ownBlock=(Value.slice ao0 f.len cap0).ownBlock∨v'.ownBlock=some (w.alloc (.cells #[.string ⟨#[]⟩,.slice none 0 0,.string (st t),.slice none 0 0] 53)).heap.size:=hfresh.imp id (fun e=>by rw[e];simp);have OFP:=Lib.hid (HF.out.pushed (n:=[]) (a:=[]) (t:=t) (k:=.nil) (ao:=none) (cap:=0) (AtsV.nil w K) (.inl rfl:z2e w K none []) (Nat.zero_le _) rfl HMB.out hal2 hown' hgrow hfr2);have APP:Hid (Ap (fun b=>(Value.slice ao0 f.len cap0).ownBlock=some b) w w2) :=
    ((Ap.refl _ w).alloc (.cells #[.string ⟨#[]⟩,.slice none 0 0,.string (st t),.slice none 0 0] 53)).grown hgrow (fun b hb e=>e)
   have FRP:Hid (q2o w (Value.slice ao0 f.len cap0) v'):=by
    rcases hfr2 with e | e
    ·exact .inl e
    ·exact .inr ⟨_,e,by simp⟩
   clear hown' hgrow hfresh hfr2 ow10 hal2;go_wp2_with fail;go_ret;exact⟨_,_,rfl,by rw[HTX.out];exact OFP.out,APP.out,FRP.out⟩
section
variable {w w' : World} {R : Nat} {s : ByteArray} {k : Nat}
theorem j6x (s:ByteArray) (w:World):Calls Tryz.prog 230 #[.string s,.int .u8 60] w fun e w'=>e=.returned (.int .i64 (Lib.indexByte s.data.toList 60))∧w'=w :=
 (Tryz.strings_IndexByte s 60 w).mono fun e w' ⟨he,hw⟩=>⟨he,hw⟩
theorem xr_plain (hg:Gl w) (hR:4 < R) (h:Xr w R s k) (hk:k≤s.size) (hs:s.size≤100000) :
  Calls Tryz.prog 256 #[.pointer (some ⟨R,0,none⟩)] w fun e w' =>
   (Fd.z05 [60] (s.data.toList.drop k)=none∧e=GaveX 1∧Ap (fun b=>b=R) w w')∨∃ a y,Fd.z05 [60] (s.data.toList.drop k)=some (a,y)∧e=.returned (.string (st a))∧k + a.length≤s.size∧Xr w' R s (k + a.length)∧Moved R w w':=by
 have c0:=h.c0;have c1:=h.c1;have f1:=h.fz 1;have HX:=Lib.hid h;have HG:=Lib.hid hg;have hk1:(k:Int)≤s.size:=by omega
 have hd:(s.extract k s.size).data.toList=s.data.toList.drop k:=by rw[Z9,z0y,List.take_of_length_le (by rw[List.length_drop,bs_len];omega)]
 have hc:=fun W=>j6x (s.extract k s.size) W
 rw[hd] at hc;have hz:(s.data.toList.drop k).length=s.size - k:=by rw[List.length_drop,bs_len]
 have hx0:s.extract k s.size=st (s.data.toList.drop k):=by rw[Z9,List.take_of_length_le (by rw[hz];omega)]
 have HTO:=Lib.hid (fun (W:World) (hW:Gl W)=>j1f (s.data.toList.drop k) W (by rw[hz];omega) hW);have H60:=Lib.hid (Fd.j6z (s.data.toList.drop k));have HZ:=Lib.hid hz;have HX0:=Lib.hid hx0;generalize Lib.indexByte (s.data.toList.drop k) 60=ix at hc H60;have HC:=Lib.hid hc;clear hc hd h hg hz hx0
 rcases H60.out with ⟨h1,h2⟩ | ⟨i,h1,h2,h3⟩
 ·subst h2
  have HE:=Lib.hid h1;clear h1 H60;go_enter Tryz.func256,Tryz.ntmps256;go_wp2_with fail
  go_quiet ((go_at_call 230;exact Calls.quiet_of_same (HC.out _)))
  go_wp2_with fail;have X1:=Lib.hid (HX.out.drewN nq);have AP1:=Lib.hid ((Ap.refl (fun b=>b=R) w).drewN nq);have GL1:=Lib.hid (HG.out.drewN nq);generalize w.drewN nq=w1 at X1 AP1 GL1 ⊢;have HRW:=Lib.hid (Blk.lt X1.out);have HCC:Hid ((w1.drew.cell? ⟨R,0,none⟩=some (.string s)∧w1.drew.cell? ⟨R,1,none⟩=some (.int .i64 k))∧∀ W,Below w1.heap.size w1.drew W→(W.cell? ⟨R,0,none⟩=some (.string s)∧W.cell? ⟨R,1,none⟩=some (.int .i64 k))) :=
   ⟨⟨Xr.c0 (Blk.drew X1.out),Xr.c1 (Blk.drew X1.out)⟩,fun W hW=>⟨Xr.c0 (Blk.below (Blk.drew X1.out) hW HRW.out),Xr.c1 (Blk.below (Blk.drew X1.out) hW HRW.out)⟩⟩
  have hto:=HTO.out w1.drew GL1.out.drew;rw[← HX0.out] at hto;clear HTO HC GL1 c0 c1 f1;obtain⟨bt,hbt⟩:∃ bt,(Mk.take (s.data.toList.drop k)).2=bt:=⟨_,rfl⟩;rw[hbt] at hto;clear hbt
  cases bt with
  | false =>
   have HT3:Hid (Calls Tryz.prog 253 #[.string (s.extract k s.size)] w1.drew fun e w'=>e=GaveX 1∧Below w1.heap.size w1.drew w'):=hto.mono (by
    rintro e w' ⟨h1,⟨h2,_⟩ | ⟨_,h3⟩⟩
    ·cases h2
    ·exact⟨h3,h1⟩)
   clear hto;go_upto_region 3 with fail;refine wp_region_held_drew (S:=fun w'=>w'.cell? ⟨R,0,none⟩=some (.string s)∧w'.cell? ⟨R,1,none⟩=some (.int .i64 k)) (by kernel_rfl) HCC.out.1 (fun hHeld=>?_);refine wpAnyH_take (i:=0) rfl (by kernel_rfl) (by kernel_rfl) (by kernel_rfl) (fun _ _ _ h=>h) (Or.inl ⟨by rfl,by (intro w hSw;(try dsimp only at hSw);go_simp;try with_reducible rfl)⟩) (by assumption) ?_
   (try simp only [Act.put,List.setIfInBounds_toArray,List.set_cons_zero,List.set_cons_succ])
   refine wpAnyH_take (i:=1) rfl (by kernel_rfl) (by kernel_rfl) (by kernel_rfl) (fun _ _ _ h=>h) (Or.inl ⟨by rfl,by (intro w hSw;(try dsimp only at hSw);go_simp;try with_reducible rfl)⟩) (by assumption) ?_
   (try simp only [Act.put,List.setIfInBounds_toArray,List.set_cons_zero,List.set_cons_succ])
   refine wpAnyH_take (i:=2) rfl (by kernel_rfl) (by kernel_rfl) (by kernel_rfl) (fun _ _ _ h=>h) (Or.inl ⟨by rfl,by (intro w hSw;(try dsimp only at hSw);go_simp;try with_reducible rfl)⟩) (by assumption) ?_
   (try simp only [Act.put,List.setIfInBounds_toArray,List.set_cons_zero,List.set_cons_succ])
   refine wpAnyH_take (i:=3) rfl (by kernel_rfl) (by kernel_rfl) (by kernel_rfl) (fun _ _ _ h=>h) (Or.inl ⟨by rfl,by (intro w hSw;(try dsimp only at hSw);go_simp;try with_reducible rfl)⟩) (by assumption) ?_
   (try simp only [Act.put,List.setIfInBounds_toArray,List.set_cons_zero,List.set_cons_succ])
   refine wpAnyH_take (i:=4) rfl (by kernel_rfl) (by kernel_rfl) (by kernel_rfl) (fun _ _ _ h=>h) (Or.inl ⟨by rfl,by (intro w hSw;(try dsimp only at hSw);go_simp;try with_reducible rfl)⟩) (by assumption) ?_
   (try simp only [Act.put,List.setIfInBounds_toArray,List.set_cons_zero,List.set_cons_succ])
   refine wpAnyH_take (i:=5) rfl (by kernel_rfl) (by kernel_rfl) (by kernel_rfl) (fun _ _ _ h=>h) (Or.inl ⟨by rfl,by (intro w hSw;(try dsimp only at hSw);go_simp;try with_reducible rfl)⟩) (by assumption) ?_
   (try simp only [Act.put,List.setIfInBounds_toArray,List.set_cons_zero,List.set_cons_succ])
   refine wpAnyH_take (i:=6) rfl (by kernel_rfl) (by kernel_rfl) (by kernel_rfl) (fun _ _ _ h=>h) (Or.inl ⟨by rfl,by (intro w hSw;(try dsimp only at hSw);go_simp;try with_reducible rfl)⟩) (by assumption) ?_
   (try simp only [Act.put,List.setIfInBounds_toArray,List.set_cons_zero,List.set_cons_succ])
   refine wpAnyH_take (i:=7) rfl (by kernel_rfl) (by kernel_rfl) (by kernel_rfl) (fun _ _ _ h=>h) (Or.inl ⟨by rfl,by (intro w hSw;(try dsimp only at hSw);go_simp;try with_reducible rfl)⟩) (by assumption) ?_
   (try simp only [Act.put,List.setIfInBounds_toArray,List.set_cons_zero,List.set_cons_succ])
   refine wpAnyH_take (i:=8) rfl (by kernel_rfl) (by kernel_rfl) (by kernel_rfl) (fun _ _ _ h=>h) (Or.inl ⟨by rfl,by (intro w hSw;(try dsimp only at hSw);go_simp;try with_reducible rfl)⟩) (by assumption) ?_
   (try simp only [Act.put,List.setIfInBounds_toArray,List.set_cons_zero,List.set_cons_succ])
   refine wpAnyH_ready (rs:=[9]) (by kernel_rfl) (by simp) ?_;refine AllReadyH.cons rfl (fun K hK=>?_) AllReadyH.nil
   go_simp
   refine HT3.out.mono ?_;rintro e w3 ⟨rfl,hb3⟩;exact⟨rfl,.inl ⟨HE.out,rfl,AP1.out.drew.trans (Ap.of_below hb3)⟩⟩
  | true =>
   have HT3:Hid (Calls Tryz.prog 253 #[.string (s.extract k s.size)] w1.drew fun e w'=>(∃ v,e=.returned v)∧Below w1.heap.size w1.drew w'):=hto.mono (by
    rintro e w' ⟨h1,⟨_,h2⟩ | ⟨h3,_⟩⟩
    ·exact⟨⟨_,h2⟩,h1⟩
    ·cases h3)
   clear hto
   go_region_held3 (fun w'=>w'.cell? ⟨R,0,none⟩=some (.string s)∧w'.cell? ⟨R,1,none⟩=some (.int .i64 k)) (first
    | exact HCC.out.1
    | exact HCC.out.2 _ hb3) (first | (go_at_call 253;refine HT3.out.mono ?_;rintro e w3 ⟨⟨v3,rfl⟩,hb3⟩))
   all_goals
    go_wp2_with fail;refine(z3z 1 _).mono ?_;rintro e w4 ⟨rfl,hw4⟩;subst w4;go_wp2_with fail;exact⟨rfl,.inl ⟨HE.out,rfl,AP1.out.drew.trans (Ap.of_below hb3)⟩⟩
 ·subst h1
  rw[HZ.out] at h2;have HE:=Lib.hid h3;have hi1:(k:Int) + i≤s.size:=by omega
  have hi2:(i:Int)≤s.size:=by omega
  have hwi:IntKind.i64.wrap ((k:Int) + i)=(k:Int) + i:=by rw[IntKind.wrap_i64];omega
  have hx:s.extract k (k + i)=st ((s.data.toList.drop k).take i):=by rw[Z9,Nat.add_sub_cancel_left]
  have HXX:=Lib.hid hx;have HLE:Hid (((s.data.toList.drop k).take i).length=i):=by show _=_;rw[List.length_take,HZ.out];omega
  clear h3 H60 hx;go_enter Tryz.func256,Tryz.ntmps256;go_wp2_with fail
  go_quiet ((go_at_call 230;exact Calls.quiet_of_same (HC.out _)))
  go_wp2_with fail
  go_quiet (fail)
  go_wp2_with fail;rw[HXX.out];go_ret;refine .inr ⟨_,_,HE.out,by rfl,by rw[HLE.out];omega,?_,((Moved.refl R w).drewN _).setCell 1 _⟩;rw[HLE.out,show ((k:Int) + (i:Int))=((k + i:Nat):Int) by omega];exact(HX.out.drewN _).at_ _
end
end Go.Proofs.YtjonkbdldebkiaaGreatDoor
namespace Fd
open Mk
theorem q4b {deep:Int} {s r:Bs} {x:El} (h:z5x deep s=.ok x r):1 + x.name.length + Fo.atB x.ats + Fo.bulk x.kids + 5 * r.length≤5 * s.length:=q49 _ _ _ _ _ h
theorem j4u {n:Bs} (h:z03 n=true):n ≠ []:=by
 unfold z03 at h;rw[Bool.and_eq_true,Bool.and_eq_true,decide_eq_true_iff] at h;exact h.1.2
theorem y0m {s:Bs} {e:Int} (h:V8 s=.er e):e=1:=by
 unfold V8 at h
 split at h
 ·cases h
 ·injection h with h;exact h.symm
theorem elem_n {deep:Int} {s:Bs} {e:Int} (h:z0b [60] s=.er e):z5x deep s=.er e:=by rw[q1h,h]
theorem elem_t {deep:Int} {s r:Bs} {u:Unit} {e:Int} (h:z0b [60] s=.ok u r) (h2:V8 r=.er e):z5x deep s=.er e:=by rw[q1h,h];simp only;rw[h2]
theorem elem_d {deep:Int} {s r nm z:Bs} {u:Unit} (h:z0b [60] s=.ok u r) (h2:V8 r=.ok nm z) (h3:8 < deep):z5x deep s=.er 2:=by rw[q1h,h];simp only;rw[h2];simp only;rw[if_pos h3]
def q5q (deep:Int) (nm z:Bs):Rs El :=
 match z2a z with
 | .er e=>.er e
 | .ok l z =>
  if Mg.pre [47,62] z then .ok ⟨nm,l,.nil⟩ (z.drop 2)
  else match z0b [62] z with
   | .er e=>.er e
   | .ok _ y =>
    match z0h deep y .nil with
    | .er e=>.er e
    | .ok k x =>
     match V8 x with
     | .er e=>.er e
     | .ok nm2 v=>if nm2 ≠ nm then .er 4 else
      match z0b [62] (X4 v) with
      | .er e=>.er e
      | .ok _ o=>.ok ⟨nm,l,k⟩ o
theorem elem_y {deep:Int} {s r nm z:Bs} {u:Unit} (h:z0b [60] s=.ok u r) (h2:V8 r=.ok nm z) (h3:¬ 8 < deep):z5x deep s=q5q deep nm z:=by
 rw[q1h,h];simp only;rw[h2];simp only;rw[if_neg h3];rfl
theorem elemY_a {deep:Int} {nm z:Bs} {e:Int} (h:z2a z=.er e):q5q deep nm z=.er e:=by rw[q5q,h]
theorem elemY_c {deep:Int} {nm z y:Bs} {l:List At} (h:z2a z=.ok l y) (h2:Mg.pre [47,62] y=true):q5q deep nm z=.ok ⟨nm,l,.nil⟩ (y.drop 2):=by rw[q5q,h];simp only;rw[if_pos h2]
theorem elemY_n {deep:Int} {nm z y:Bs} {l:List At} {e:Int} (h:z2a z=.ok l y) (h2:Mg.pre [47,62] y=false) (h3:z0b [62] y=.er e):q5q deep nm z=.er e:=by
 rw[q5q,h];simp only;rw[if_neg (by rw[h2];simp),h3]
def q3k (deep:Int) (nm:Bs) (l:List At) (y:Bs):Rs El :=
 match z0h deep y .nil with
 | .er e=>.er e
 | .ok k x =>
  match V8 x with
  | .er e=>.er e
  | .ok nm2 v=>if nm2 ≠ nm then .er 4 else
   match z0b [62] (X4 v) with
   | .er e=>.er e
   | .ok _ o=>.ok ⟨nm,l,k⟩ o
theorem elemY_z {deep:Int} {nm z y x:Bs} {l:List At} {u:Unit} (h:z2a z=.ok l y) (h2:Mg.pre [47,62] y=false) (h3:z0b [62] y=.ok u x):q5q deep nm z=q3k deep nm l x:=by
 rw[q5q,h];simp only;rw[if_neg (by rw[h2];simp),h3];rfl
theorem elemZ_k {deep:Int} {nm y:Bs} {l:List At} {e:Int} (h:z0h deep y .nil=.er e):q3k deep nm l y=.er e:=by rw[q3k,h]
theorem elemZ_t {deep:Int} {nm y x:Bs} {l:List At} {k:Fo} {e:Int} (h:z0h deep y .nil=.ok k x) (h2:V8 x=.er e):q3k deep nm l y=.er e:=by rw[q3k,h];simp only;rw[h2]
theorem elemZ_s {deep:Int} {nm y x nm2 v:Bs} {l:List At} {k:Fo} (h:z0h deep y .nil=.ok k x) (h2:V8 x=.ok nm2 v) (h3:nm2 ≠ nm):q3k deep nm l y=.er 4:=by rw[q3k,h];simp only;rw[h2];simp only;rw[if_pos h3]
theorem elemZ_e {deep:Int} {nm y x v:Bs} {l:List At} {k:Fo} (h:z0h deep y .nil=.ok k x) (h2:V8 x=.ok nm v):q3k deep nm l y=match z0b [62] (X4 v) with | .er e=>.er e | .ok _ o=>.ok ⟨nm,l,k⟩ o:=by
 rw[q3k,h];simp only;rw[h2];simp only;rw[if_neg (fun q=>q rfl)]
end Fd
namespace Go.Proofs.YtjonkbdldebkiaaGreatDoor
open Go.RowKit
def Nw (w w':World) (b:Nat):Prop:=w.heap.size≤b∧b < w'.heap.size
def j6v:Array Value:=#[.string ⟨#[]⟩,.slice none 0 0,.string ⟨#[]⟩,.slice none 0 0]
structure ElI (w wx:World) (R:Nat) (s:ByteArray) (j C N:Nat) (nm:List UInt8) (va:Value) (l:List Mk.At) (vk:Value) (f:Mk.Fo) (K:Nat→Prop):Prop where
 rl:R < w.heap.size
 x:Xr wx R s j
 ap:Ap (fun b=>b=R) w wx
 cl:w.heap.size≤C
 nl:w.heap.size≤N
 cn:C ≠ N
 cb:Blk wx C 53 j6v
 nb:Blk wx N 53 #[.string (st nm),va,.string ⟨#[]⟩,vk]
 kk:∀ b,K b→w.heap.size≤b∧b < wx.heap.size∧b ≠ C∧b ≠ N
 ats:AtsV wx K va l
 fo:FoV wx K vk f
section
variable {w wx wy : World} {R : Nat} {s : ByteArray} {j j' C N : Nat} {nm : List UInt8} {va vk : Value} {l : List Mk.At} {f : Mk.Fo} {K : Nat→Prop}
theorem ElI.ap2 (h:ElI w wx R s j C N nm va l vk f K) (ha:Ap (fun b=>b=R) wx wy) (hx:Xr wy R s j'):ElI w wy R s j' C N nm va l vk f K:=by
 have hr:=h.rl;have hc:=h.cl;have hn:=h.nl;have kp:∀ b,K b→K b∧wy.heap[b]? = wx.heap[b]?:=fun b hb=>⟨hb,ha.block b (h.kk b hb).2.1 (fun e=>by have:=(h.kk b hb).1;have e:b=R:=e;omega)⟩
 exact⟨h.rl,hx,h.ap.trans ha,h.cl,h.nl,h.cn,h.cb.ap ha (fun e=>by have e:C=R:=e;omega),h.nb.ap ha (fun e=>by have e:N=R:=e;omega),fun b hb=>⟨(h.kk b hb).1,Nat.lt_of_lt_of_le (h.kk b hb).2.1 ha.size,(h.kk b hb).2.2⟩,h.ats.frame kp,h.fo.frame kp⟩
theorem ElI.moved (h:ElI w wx R s j C N nm va l vk f K) (hm:Moved R wx wy) (hx:Xr wy R s j'):ElI w wy R s j' C N nm va l vk f K:=h.ap2 hm.ap hx
theorem ElI.drewN (h:ElI w wx R s j C N nm va l vk f K) (n:Nat):ElI w (wx.drewN n) R s j C N nm va l vk f K:=h.moved ((Moved.refl R wx).drewN n) (h.x.drewN n)
theorem ElI.gl (h:ElI w wx R s j C N nm va l vk f K) (hg:Gl w) (hR:4 < R):Gl wx:=hg.ap h.ap (by intro e;have e:0=R:=e;omega) (by intro e;have e:4=R:=e;omega)
theorem q1l {K:Nat→Prop} {w:World} {g i:Nat} {v:Value} (h:∀ b,K b→b ≠ g):∀ b,K b→K b∧(w.setCell ⟨g,i,none⟩ v).heap[b]? = w.heap[b]?:=fun b hb=>⟨hb,Below.heap_setCell w ⟨g,i,none⟩ v b (h b hb)⟩
theorem ElI.begin_ (h0:Xr wx R s j) (hr:R < w.heap.size) (hap:Ap (fun b=>b=R) w wx) (hcl:w.heap.size≤C) (hcb:Blk wx C 53 j6v) (nm:List UInt8):ElI w (wx.alloc (.cells #[.string (st nm),.slice none 0 0,.string ⟨#[]⟩,.slice none 0 0] 53)) R s j C wx.heap.size nm (.slice none 0 0) [] (.slice none 0 0) .nil (fun _=>False) :=
 ⟨hr,Blk.alloc h0 _,hap.alloc _,hcl,hap.size,fun e=>by have:=hcb.lt;omega,hcb.alloc _,Blk.new wx _ _,fun _ q=>q.elim,AtsV.nil _ _,⟨none,0,[],rfl,.inl rfl,rfl,Nat.zero_le _⟩⟩
theorem ElI.setAts (h:ElI w wx R s j C N nm va l vk f K) {v:Value} {la:List Mk.At} (ha:AtI wx wy R s j' v la):ElI w (wy.setCell ⟨N,1,none⟩ v) R s j' C N nm v la vk f (fun b=>K b∨Nw wx wy b):=by
 have h1:=h.ap2 ha.ap ha.x;have hr:=h.rl;have hn:=h.nl;have hnl:=h.nb.lt;have hcl:=h.cb.lt;have hsz:=ha.ap.size;have kne:∀ b,(K b∨Nw wx wy b)→b ≠ N:=by
  rintro b (q | q)
  ·exact(h.kk b q).2.2.2
  ·intro e;subst e;have:=q.1;omega
 refine⟨hr,Blk.far h1.x (p:=⟨N,1,none⟩) (fun e=>by have e:R=N:=e;omega) _,h1.ap.setNew (p:=⟨N,1,none⟩) hn _,h.cl,hn,h.cn,Blk.far h1.cb (p:=⟨N,1,none⟩) h.cn _,Blk.set_ h1.nb 1 _,?_,?_,?_⟩
 ·rintro b (q | q)
  ·obtain⟨a1,a2,a3⟩:=h1.kk b q
   exact⟨a1,by simpa [World.setCell] using a2,a3⟩
  ·exact⟨Nat.le_trans h.ap.size q.1,by have:=q.2;simpa [World.setCell] using this,fun e=>by subst e;have:=q.1;omega,kne b (.inr q)⟩
 ·have:AtsV wy (fun b=>K b∨Nw wx wy b) v la:=AtsV.of_own ha.ow (fun g hg=>.inr ⟨(ha.ow.lt g hg).1,(ha.ow.lt g hg).2⟩)
  exact this.frame (q1l kne)
 ·have:FoV wy (fun b=>K b∨Nw wx wy b) vk f:=h1.fo.frame (fun b hb=>⟨.inl hb,rfl⟩)
  exact this.frame (q1l kne)
theorem ElI.setKids (h:ElI w wx R s j C N nm va l vk f K) {v:Value} {g:Mk.Fo} (hx:Xr wy R s j') (ha:Ap (fun b=>b=R) wx wy) (hf:FoV wy (Nw wx wy) v g):ElI w (wy.setCell ⟨N,3,none⟩ v) R s j' C N nm va l v g (fun b=>K b∨Nw wx wy b):=by
 have h1:=h.ap2 ha hx;have hr:=h.rl;have hn:=h.nl;have hnl:=h.nb.lt;have hcl:=h.cb.lt;have hsz:=ha.size;have kne:∀ b,(K b∨Nw wx wy b)→b ≠ N:=by
  rintro b (q | q)
  ·exact(h.kk b q).2.2.2
  ·intro e;subst e;have:=q.1;omega
 refine⟨hr,Blk.far h1.x (p:=⟨N,3,none⟩) (fun e=>by have e:R=N:=e;omega) _,h1.ap.setNew (p:=⟨N,3,none⟩) hn _,h.cl,hn,h.cn,Blk.far h1.cb (p:=⟨N,3,none⟩) h.cn _,Blk.set_ h1.nb 3 _,?_,?_,?_⟩
 ·rintro b (q | q)
  ·obtain⟨a1,a2,a3⟩:=h1.kk b q
   exact⟨a1,by simpa [World.setCell] using a2,a3⟩
  ·exact⟨Nat.le_trans h.ap.size q.1,by have:=q.2;simpa [World.setCell] using this,fun e=>by subst e;have:=q.1;omega,kne b (.inr q)⟩
 ·have:AtsV wy (fun b=>K b∨Nw wx wy b) va l:=h1.ats.frame (fun b hb=>⟨.inl hb,rfl⟩)
  exact this.frame (q1l kne)
 ·have:FoV wy (fun b=>K b∨Nw wx wy b) v g:=hf.frame (fun b hb=>⟨.inr hb,rfl⟩)
  exact this.frame (q1l kne)
def ansW (wx:World) (C:Nat) (a b c d:Value):World:=(((wx.setCell ⟨C,0,none⟩ a).setCell ⟨C,1,none⟩ b).setCell ⟨C,2,none⟩ c).setCell ⟨C,3,none⟩ d
theorem ElI.ans (h:ElI w wx R s j C N nm va l vk f K):Blk (ansW wx C (.string (st nm)) va (.string ⟨#[]⟩) vk) C 53 #[.string (st nm),va,.string ⟨#[]⟩,vk]∧Xr (ansW wx C (.string (st nm)) va (.string ⟨#[]⟩) vk) R s j∧Ap (fun b=>b=R) w (ansW wx C (.string (st nm)) va (.string ⟨#[]⟩) vk)∧AtsV (ansW wx C (.string (st nm)) va (.string ⟨#[]⟩) vk) (Nw w (ansW wx C (.string (st nm)) va (.string ⟨#[]⟩) vk)) va l∧FoV (ansW wx C (.string (st nm)) va (.string ⟨#[]⟩) vk) (Nw w (ansW wx C (.string (st nm)) va (.string ⟨#[]⟩) vk)) vk f:=by
 have hr:=h.rl;have hc:=h.cl;have hRC:R ≠ C:=by omega
 have hsz:(ansW wx C (.string (st nm)) va (.string ⟨#[]⟩) vk).heap.size=wx.heap.size:=by simp[ansW,World.setCell]
 have kp:∀ b,K b→Nw w (ansW wx C (.string (st nm)) va (.string ⟨#[]⟩) vk) b∧(ansW wx C (.string (st nm)) va (.string ⟨#[]⟩) vk).heap[b]? = wx.heap[b]?:=by
  intro b hb;obtain⟨a1,a2,a3,_⟩:=h.kk b hb;refine⟨⟨a1,by rw[hsz];exact a2⟩,?_⟩;unfold ansW;rw[Below.heap_setCell _ ⟨C,3,none⟩ _ b a3,Below.heap_setCell _ ⟨C,2,none⟩ _ b a3,Below.heap_setCell _ ⟨C,1,none⟩ _ b a3,Below.heap_setCell _ ⟨C,0,none⟩ _ b a3]
 refine⟨Blk.set_ (Blk.set_ (Blk.set_ (Blk.set_ h.cb 0 _) 1 _) 2 _) 3 _,?_,?_,h.ats.frame kp,h.fo.frame kp⟩
 ·exact Blk.far (Blk.far (Blk.far (Blk.far h.x (p:=⟨C,0,none⟩) hRC _) (p:=⟨C,1,none⟩) hRC _) (p:=⟨C,2,none⟩) hRC _) (p:=⟨C,3,none⟩) hRC _
 ·exact(((h.ap.setNew (p:=⟨C,0,none⟩) hc _).setNew (p:=⟨C,1,none⟩) hc _).setNew (p:=⟨C,2,none⟩) hc _).setNew (p:=⟨C,3,none⟩) hc _
end
end Go.Proofs.YtjonkbdldebkiaaGreatDoor
