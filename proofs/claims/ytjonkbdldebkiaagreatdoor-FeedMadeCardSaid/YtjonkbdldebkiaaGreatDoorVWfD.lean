/- Contract of the feed mapper's put: an entry is put, if it is right. Condition: a base of at most 3000 bytes. -/
import Derived.Test.YtjonkbdldebkiaaGreatDoorVWpF
import Derived.Test.YtjonkbdldebkiaaGreatDoorVWeC
import Derived.StillTailTactics
import Derived.Deep.RegionLaw
import Derived.Deep.RegionHeld3
import Derived.Test.YtjonkbdldebkiaaGreatDoorVMkFlat1
import Derived.Test.YtjonkbdldebkiaaGreatDoorVWeA
import Derived.Test.YtjonkbdldebkiaaGreatDoorVWpJ
import Derived.Test.YtjonkbdldebkiaaGreatDoorVMkSame
import Derived.Test.YtjonkbdldebkiaaGreatDoorVFdBegun
set_option linter.unusedVariables false
set_option linter.unusedSimpArgs false
set_option maxHeartbeats 60000000
set_option maxRecDepth 100000
namespace Go.Proofs.YtjonkbdldebkiaaGreatDoor
open Go.Proofs.Tryz Go.RowKit
structure MpI (w wx:World) (M:Nat) (base:List UInt8) (u:Value) (out:List Fd.En):Prop where
 ml:M < w.heap.size
 mb:Blk wx M 118 #[.string (st base),u]
 ap:Ap (fun b=>b=M) w wx
 ow:wx.ownsRow w.heap.size 44 5 u out.length (y9 out)
structure PtI (w w0 wx:World) (M X:Nat) (base:List UInt8) (u:Value) (out:List Fd.En) (id ti li:List UInt8) (at_:Int) (ht:List UInt8):Prop where
 m:MpI w wx M base u out
 ax:Ap (fun b=>b=M∨u.ownBlock=some b) w0 wx
 xn:w0.heap.size≤X
 xl:w.heap.size≤X
 xo:u.ownBlock ≠ some X
 xb:Blk wx X 44 #[.string (st id),.string (st ti),.string (st li),.int .i64 at_,.string (st ht)]
section
variable {w w0 wx wy : World} {M X : Nat} {base : List UInt8} {u : Value} {out : List Fd.En} {id ti li ht : List UInt8} {at_ : Int}
theorem MpI.not (h:MpI w wx M base u out):∀ g,w.heap.size≤g→¬ (fun b=>b=M) g:=by
 intro g hg e;have e:g=M:=e;have:=h.ml;omega
theorem MpI.below (h:MpI w wx M base u out) (hb:Below wx.heap.size wx wy):MpI w wy M base u out :=
 ⟨h.ml,(hb.block M h.mb.lt).trans h.mb,h.ap.trans (Ap.of_below hb),z2g h.ow (Ap.of_below (S:=fun b=>b=M) hb) h.not⟩
theorem MpI.drew (h:MpI w wx M base u out):MpI w wx.drew M base u out:=h.below ((Below.refl _ wx).drew)
theorem MpI.gl (h:MpI w wx M base u out) (hg:Gl w) (hM:4 < M):Gl wx:=hg.ap h.ap (by intro e;have e:0=M:=e;omega) (by intro e;have e:4=M:=e;omega)
theorem PtI.begin_ (h:MpI w wx M base u out) (id ti li:List UInt8) (at_:Int) (ht:List UInt8):PtI w wx (wx.alloc (.cells #[.string (st id),.string (st ti),.string (st li),.int .i64 at_,.string (st ht)] 44)) M wx.heap.size base u out id ti li at_ ht :=
 ⟨h.below ((Below.refl _ wx).alloc (Lr) _),(Ap.refl _ wx).alloc _,Lr,h.ap.size,fun e=>absurd (h.ow.lt _ e).2 (Nat.lt_irrefl _),Blk.new wx _ _⟩
theorem PtI.ne (h:PtI w w0 wx M X base u out id ti li at_ ht):M ≠ X:=by
 have:=h.m.ml;have:=h.xl;omega
theorem PtI.below (h:PtI w w0 wx M X base u out id ti li at_ ht) (hb:Below wx.heap.size wx wy):PtI w w0 wy M X base u out id ti li at_ ht:=⟨h.m.below hb,h.ax.trans (Ap.of_below hb),h.xn,h.xl,h.xo,(hb.block X h.xb.lt).trans h.xb⟩
theorem PtI.drew (h:PtI w w0 wx M X base u out id ti li at_ ht):PtI w w0 wx.drew M X base u out id ti li at_ ht:=h.below ((Below.refl _ wx).drew)
theorem MpI.far (h:MpI w wx M base u out) (hX:w.heap.size≤X) (hX2:u.ownBlock ≠ some X) (i:Nat) (v:Value):MpI w (wx.setCell ⟨X,i,none⟩ v) M base u out :=
 ⟨h.ml,Blk.far h.mb (p:=⟨X,i,none⟩) (fun e=>by have e:M=X:=e;have:=h.ml;omega) _,h.ap.setNew (p:=⟨X,i,none⟩) hX _,ownsRow_setCell_other h.ow (a:=⟨X,i,none⟩) hX2 _⟩
theorem PtI.setLi (h:PtI w w0 wx M X base u out id ti li at_ ht) (v:List UInt8):PtI w w0 (wx.setCell ⟨X,2,none⟩ (.string (st v))) M X base u out id ti v at_ ht:=⟨h.m.far h.xl h.xo 2 _,h.ax.setNew (p:=⟨X,2,none⟩) h.xn _,h.xn,h.xl,h.xo,Blk.set_ h.xb 2 _⟩
theorem PtI.setId (h:PtI w w0 wx M X base u out id ti li at_ ht) (v:List UInt8):PtI w w0 (wx.setCell ⟨X,0,none⟩ (.string (st v))) M X base u out v ti li at_ ht:=⟨h.m.far h.xl h.xo 0 _,h.ax.setNew (p:=⟨X,0,none⟩) h.xn _,h.xn,h.xl,h.xo,Blk.set_ h.xb 0 _⟩
theorem PtI.setHt (h:PtI w w0 wx M X base u out id ti li at_ ht) (v:List UInt8):PtI w w0 (wx.setCell ⟨X,4,none⟩ (.string (st v))) M X base u out id ti li at_ v:=⟨h.m.far h.xl h.xo 4 _,h.ax.setNew (p:=⟨X,4,none⟩) h.xn _,h.xn,h.xl,h.xo,Blk.set_ h.xb 4 _⟩
theorem MpI.pushed (h:MpI w wx M base u out) {x:Fd.En} {v':Value} {wz:World}
  (hown:wz.ownsRow w.heap.size 44 5 v' (out.length + 1) (y9 out++enV x)) (hgr:(wx.alloc (.cells (enV x).toArray 44)).grownBy wz u.ownBlock):MpI w (wz.setCell ⟨M,1,none⟩ v') M base v' (out++[x]):=by
 have hm:=h.ml;have hS:∀ k,u.ownBlock=some k→w.heap.size≤k:=fun k e=>(h.ow.lt k e).1
 have A1:=h.ap.alloc (.cells (enV x).toArray 44);have A2:Ap (fun b=>b=M) w wz:=A1.grown hgr (fun k hk e=>absurd hk (by have:=hS k e;omega));have B2:Blk wz M 118 #[.string (st base),u]:=(hgr.block M (by have:=h.mb.lt;simp;omega) (fun e=>by have:=hS M e.symm;omega)).trans (Blk.alloc h.mb _);refine⟨hm,Blk.set_ B2 1 _,A2.setCell (p:=⟨M,1,none⟩) rfl _,?_⟩;rw[List.length_append,show y9 (out++[x])=y9 out++enV x by simp[y9]];exact ownsRow_setCell_other hown (a:=⟨M,1,none⟩) (fun e=>by have:=(hown.lt M e).1;omega) _
end
theorem Tryz.infoEnt:(prog.info? 44).map (fun i=>(i.zero,i.size,i.bytes))=some (some (.agg #[.string ⟨#[]⟩,.string ⟨#[]⟩,.string ⟨#[]⟩,.int .i64 0,.string ⟨#[]⟩]),5,72):=by kernel_rfl
theorem eg_put (args:Array Value) (w:World):(callFunc 177 args).run prog w=.ok (.enter 177 args) w:=Z7 func177 (by kernel_rfl) rfl _ _
theorem asks_put (X:Nat) (id:List UInt8) (l:List Fd.En) (w:World) (hX:X < w.heap.size) (hc:w.cell? ⟨X,0,none⟩=some (.string (st id))):AsksE 177 #[.pointer (some ⟨X,0,none⟩)] (fun z=>z.id == id) l w:=by
 intro w1 hb z _;have c0:w1.cell? ⟨X,0,none⟩=some (.string (st id)):=(hb.cell (p:=⟨X,0,none⟩) hX).trans hc;have hX1:X < w1.heap.size:=Nat.lt_of_lt_of_le hX hb.size;unfold enAg;go_enter func177,ntmps177;go_wp2_with fail;go_ret;exact⟨Z8 (by rw[show (st z.id).toList=z.id from Lib.toList_data _,show (st id).toList=id from Lib.toList_data _]),(Below.refl _ w1).alloc (Lr) _⟩
theorem mp_put {w wx:World} {M:Nat} {base:List UInt8} {u:Value} {out:List Fd.En} (x:Fd.En) (hg:Gl w) (hM:4 < M) (h:MpI w wx M base u out) (hb:base.length≤3000) (hx:x.li.length≤1000000) (hol:out.length≤12) :
  Calls prog 119 #[.pointer (some ⟨M,0,none⟩),enAg x] wx fun e w'=>e=.returned (.tuple #[])∧(∃ u',MpI w w' M base u' (Fd.putM base out x))∧Ap (fun b=>b=M∨u.ownBlock=some b) wx w':=by
 have hst:∀ l:List UInt8,(st l).toList=l:=fun l=>Lib.toList_data _
 obtain⟨id,ti,li,at_,ht⟩:=x;have HPM:Hid (Fd.putM base out ⟨id,ti,li,at_,ht⟩=if 3000 < base.length∨3000 < ht.length∨out.length=12∨Fd.z03 (Fd.asM base ⟨id,ti,li,at_,ht⟩) ≠ 0∨(out.any fun z=>z.id == (Fd.asM base ⟨id,ti,li,at_,ht⟩).id)=true then out else out++[Fd.asM base ⟨id,ti,li,at_,ht⟩]):=rfl;have HAS:Hid (Fd.asM base ⟨id,ti,li,at_,ht⟩=⟨if id=[] then Fd.q38 base li else id,ti,Fd.q38 base li,at_,Mk.html base ht⟩):=rfl;have HLM:Hid (Fd.q38 base li=if Mg.isSafe (Mk.light base li) then Mk.light base li else []):=rfl;generalize Fd.putM base out ⟨id,ti,li,at_,ht⟩=res at HPM ⊢;generalize Fd.asM base ⟨id,ti,li,at_,ht⟩=xa at HPM HAS;generalize Fd.q38 base li=lm at HAS HLM;obtain⟨ao,cap,hu⟩:=Z9 h.ow;subst hu;have P0:=Ld (PtI.begin_ h id ti li at_ ht);have HG:=Ld hg;have HLT:=Ld (fun W=>q7c base li W);have hll:=q6c base li;have hx':li.length≤1000000:=hx;generalize Mk.light base li=lv at HLM HLT hll;clear h hg hx;unfold enAg;go_enter func119,ntmps119;go_upto_region 1 with fail;obtain⟨X,hX⟩:∃ X,X=wx.heap.size:=⟨_,rfl⟩;rw[← hX] at P0;rw[← hX];generalize wx.alloc (.cells #[.string (st id),.string (st ti),.string (st li),.int .i64 at_,.string (st ht)] 44)=w1 at P0 ⊢;clear hX;have m0:w1.cell? ⟨M,0,none⟩=some (.string (st base)):=Blk.cell P0.out.m.mb 0;have x2:w1.cell? ⟨X,2,none⟩=some (.string (st li)):=Blk.cell P0.out.xb 2;go_still_tail 6,(by kernel_rfl);change wpList _ _ _ _ _ w1.drew;have P1:=Ld P0.out.drew;generalize w1.drew=w2 at P1 ⊢;clear P0 m0 x2;go_wp2_with fail;refine(HLT.out _).mono ?_;rintro e w3 ⟨rfl,hb3⟩;have P2:=Ld (P1.out.below hb3);clear hb3 HLT P1;have y2:w3.cell? ⟨X,2,none⟩=some (.string (st li)):=Blk.cell P2.out.xb 2;have f2:=Blk.frozen P2.out.xb 2;have P3:=Ld (P2.out.setLi lv);go_upto_region 2 with fail;generalize w3.setCell ⟨X,2,none⟩ (.string (st lv))=w4 at P3 ⊢;clear y2 f2 P2;have y2:w4.cell? ⟨X,2,none⟩=some (.string (st lv)):=Blk.cell P3.out.xb 2;have his:=j0g (st lv) w4 (by rw[Z4];omega);rw[z1o] at his;obtain⟨bs,hbs⟩:∃ bs,Mg.isSafe lv=bs:=⟨_,rfl⟩;rw[hbs] at his HLM;have HIS:=Ld his;clear his hbs;go_wp2_with fail;refine HIS.out.mono ?_;rintro e w5 ⟨rfl,hb5⟩;have P4:=Ld (P3.out.below hb5);clear hb5 HIS P3 y2;go_upto_if 17 with fail
 go_cut [] (fun wz=>Hid (PtI w wx wz M X base (.slice ao out.length cap) out id ti lm at_ ht))
 case first =>
  as_aux_lemma =>
  cases bs with
  | true =>
   have HL2:Hid (lm=lv):=by show _=_;rw[HLM.out];rfl
   go_wp2_with fail;go_meet
   case rel=>rw[HL2.out];exact P4
  | false =>
   have HL2:Hid (lm=[]):=by show _=_;rw[HLM.out];rfl
   have y2:w5.cell? ⟨X,2,none⟩=some (.string (st lv)):=Blk.cell P4.out.xb 2;have f2:=Blk.frozen P4.out.xb 2;go_wp2_with fail;go_meet
   case rel=>rw[HL2.out];exact P4.out.setLi []
 case rest =>
 as_aux_lemma =>
 obtain⟨w6,hw6⟩:∃ z,z=wc:=⟨_,rfl⟩;subst hw6;have P5:=hcut;clear hcut HLM hll P4;obtain⟨idn,hidn⟩:∃ idn,(if id=[] then lm else id)=idn:=⟨_,rfl⟩;rw[hidn] at HAS;have HID:=Ld hidn;clear hidn;have y0:w6.cell? ⟨X,0,none⟩=some (.string (st id)):=Blk.cell P5.out.xb 0;have y2:w6.cell? ⟨X,2,none⟩=some (.string (st lm)):=Blk.cell P5.out.xb 2;have f0:=Blk.frozen P5.out.xb 0;go_upto_region 4 with fail;go_upto_if 21 with fail
 go_cut [] (fun wz=>Hid (PtI w wx wz M X base (.slice ao out.length cap) out idn ti lm at_ ht))
 case first =>
  as_aux_lemma =>
  rcases z3c id with ⟨e1,e2⟩ | ⟨e1,e2⟩
  ·have HI2:Hid (idn=lm):=by show _=_;rw[← HID.out,if_pos e1]
   clear e1;rw[e2];go_wp2_with fail;go_meet
   case rel=>rw[HI2.out];exact P5.out.setId lm
  ·have HI2:Hid (idn=id):=by show _=_;rw[← HID.out,if_neg e1]
   clear e1;rw[e2];go_wp2_with fail;go_meet
   case rel=>rw[HI2.out];exact P5
 case rest =>
 as_aux_lemma =>
 obtain⟨w7,hw7⟩:∃ z,z=wc:=⟨_,rfl⟩;subst hw7;have P6:=hcut;clear hcut HID P5 y0 y2 f0;have hhh:∃ (T:List UInt8) (C:Int),Hid ((C=2∧3000 < ht.length)∨(C=0∧¬ 3000 < ht.length∧T=Mk.html base ht))∧∀ W,Gl W→Calls prog 19 #[.string (st base),.string (st ht)] W fun e w'=>e=.returned (.tuple #[.string (st T),.int .i64 C])∧Below W.heap.size W w':=by
  by_cases hlong:3000 < ht.length
  ·exact⟨[],2,.inl ⟨rfl,hlong⟩,fun W _=>(q5u base ht W (.inr hlong)).mono (by rintro e w3 ⟨rfl,rfl⟩;exact⟨rfl,Below.refl _ _⟩)⟩
  ·exact⟨Mk.html base ht,0,.inr ⟨rfl,hlong,rfl⟩,fun W hW=>j1j base ht W hW hb (by omega)⟩
 obtain⟨T,C,HTC,hh⟩:=hhh;have HH:=Ld (hh w7.drew (P6.out.drew.m.gl HG.out hM));clear hh;have m0:w7.cell? ⟨M,0,none⟩=some (.string (st base)):=Blk.cell P6.out.m.mb 0;have x4:w7.cell? ⟨X,4,none⟩=some (.string (st ht)):=Blk.cell P6.out.xb 4;go_upto_region 6 with fail;have HSX:Hid ((w7.drew.cell? ⟨M,0,none⟩=some (.string (st base))∧w7.drew.cell? ⟨X,4,none⟩=some (.string (st ht)))∧∀ W,Below w7.heap.size w7.drew W→(W.cell? ⟨M,0,none⟩=some (.string (st base))∧W.cell? ⟨X,4,none⟩=some (.string (st ht)))) :=
  ⟨⟨Blk.cell P6.out.drew.m.mb 0,Blk.cell P6.out.drew.xb 4⟩,fun W hW=>⟨Blk.cell (P6.out.drew.below hW).m.mb 0,Blk.cell (P6.out.drew.below hW).xb 4⟩⟩
 clear m0 x4
 go_region_held3 (fun w'=>w'.cell? ⟨M,0,none⟩=some (.string (st base))∧w'.cell? ⟨X,4,none⟩=some (.string (st ht))) (first
  | exact HSX.out.1
  | exact HSX.out.2 _ hb9) (first | (go_at_call 19;refine HH.out.mono ?_;rintro e w9 ⟨rfl,hb9⟩))
 have P8:=Ld (P6.out.drew.below hb9);clear hb9 HH P6 HSX;have x4:w9.cell? ⟨X,4,none⟩=some (.string (st ht)):=Blk.cell P8.out.xb 4;have f4:=Blk.frozen P8.out.xb 4;have P9:=Ld (P8.out.setHt T);go_upto_region 8 with fail;generalize w9.setCell ⟨X,4,none⟩ (.string (st T))=w10 at P9 ⊢;clear x4 f4 P8
 go_cut [59] (fun b wz=>∃ bb,b=.bool bb∧Hid (PtI w wx wz M X base (.slice ao out.length cap) out idn ti lm at_ T)∧Hid (res=if bb=true then out else out++[⟨idn,ti,lm,at_,T⟩]))
 case first =>
  as_aux_lemma =>
  rcases HTC.out with ⟨hc,hlong⟩ | ⟨hc,hshort,hT⟩
  ·as_aux_lemma =>
   subst hc;have HE:Hid (res=out):=by show _=_;rw[HPM.out,if_pos (.inr (.inl hlong))]
   clear HPM HAS HTC hlong;go_wp2_with fail;go_meet
   case rel=>exact⟨true,rfl,P9,HE.out⟩
  subst hc;have HAS2:Hid (xa=⟨idn,ti,lm,at_,T⟩):=by show _=_;rw[HAS.out,hT]
  clear HTC HAS hT
  by_cases h12:out.length=12
  ·as_aux_lemma =>
   have HE:Hid (res=out):=by show _=_;rw[HPM.out,if_pos (.inr (.inr (.inl h12)))]
   have m1:w10.cell? ⟨M,1,none⟩=some (.slice ao out.length cap):=Blk.cell P9.out.m.mb 1;have hli:(out.length:Int)=12:=by omega
   clear HPM HAS2 hol;go_wp2_with fail;go_meet
   case rel=>exact⟨true,rfl,P9,HE.out⟩
  have m1:w10.cell? ⟨M,1,none⟩=some (.slice ao out.length cap):=Blk.cell P9.out.m.mb 1;have hli:((out.length:Int) == 12)=false:=beq_eq_false_iff_ne.2 (by omega);have x0:w10.cell? ⟨X,0,none⟩=some (.string (st idn)):=Blk.cell P9.out.xb 0;have x1:w10.cell? ⟨X,1,none⟩=some (.string (st ti)):=Blk.cell P9.out.xb 1;have x2:w10.cell? ⟨X,2,none⟩=some (.string (st lm)):=Blk.cell P9.out.xb 2;have x3:w10.cell? ⟨X,3,none⟩=some (.int .i64 at_):=Blk.cell P9.out.xb 3;have x4:w10.cell? ⟨X,4,none⟩=some (.string (st T)):=Blk.cell P9.out.xb 4;have HCK:=Ld (q4j ⟨idn,ti,lm,at_,T⟩ w10 (P9.out.m.gl HG.out hM));obtain⟨ck,hck1⟩:∃ ck,Fd.z03 ⟨idn,ti,lm,at_,T⟩=ck:=⟨_,rfl⟩;rw[hck1] at HCK;have hck:Fd.z03 xa=ck:=by rw[HAS2.out];exact hck1
  clear hck1;unfold enAg at *;go_wp2_with fail;refine HCK.out.mono ?_;rintro e w11 ⟨rfl,hb11⟩;have P10:=Ld (P9.out.below hb11);clear hb11 HCK P9 m1 x0 x1 x2 x3 x4
  by_cases hc0:ck=0
  case neg =>
   as_aux_lemma =>
   have HE:Hid (res=out):=by show _=_;rw[HPM.out,if_pos (.inr (.inr (.inr (.inl (by rw[hck];exact hc0)))))]
   have hcb:(ck == 0)=false:=beq_eq_false_iff_ne.2 hc0;have hcn:(ck != 0)=true:=by simp[hc0]
   clear HPM HAS2 hck hc0 h12;go_wp2_with fail;go_meet
   case rel=>exact⟨true,rfl,P10,HE.out⟩
  subst hc0;have m1:w11.cell? ⟨M,1,none⟩=some (.slice ao out.length cap):=Blk.cell P10.out.m.mb 1;have x0:w11.cell? ⟨X,0,none⟩=some (.string (st idn)):=Blk.cell P10.out.xb 0;have hev:z18 w11 (fun b=>b < w11.heap.size) (.slice ao out.length cap) out:=by
   obtain⟨ao',cap',h1,h2,h3⟩:=z19.of_own (K:=fun b=>b < w11.heap.size) P10.out.m.ow (fun g hg=>(P10.out.m.ow.lt g hg).2);injection h1 with e1 e2 e3;subst e1;subst e3;exact⟨ao,cap,rfl,h2,h3⟩
  have HCF:=Ld (q02 177 #[.pointer (some ⟨X,0,none⟩)] (fun z=>z.id == idn) eg_put out _ _ w11 hev (fun b q=>q) (by omega) (asks_put X idn out w11 (Blk.lt P10.out.xb) x0));obtain⟨ba,hba⟩:∃ ba,(out.any fun z=>z.id == idn)=ba:=⟨_,rfl⟩;rw[hba] at HCF;have HBA:=Ld hba;have hmf:∀ (fn:Fn) (first cap:Array Value) (w:World),(Instr.makeFunc fn first cap).run prog w=.ok (.func fn first cap) w:=fun _ _ _ _=>rfl
  clear hba hev;go_wp2_with fail;refine HCF.out.mono ?_;rintro e w12 ⟨rfl,hb12⟩;have P11:=Ld (P10.out.below hb12);clear hb12 HCF P10 m1 x0
  cases ba with
  | true =>
   as_aux_lemma =>
   have HE:Hid (res=out):=by show _=_;rw[HPM.out,if_pos (.inr (.inr (.inr (.inr (by rw[HAS2.out];exact HBA.out)))))]
   clear HPM HAS2 hck h12;go_wp2_with fail;go_meet
   case rel=>exact⟨true,rfl,P11,HE.out⟩
  | false =>
   have HE:Hid (res=out++[⟨idn,ti,lm,at_,T⟩]):=by
    show _=_;rw[HPM.out,if_neg,HAS2.out];rintro (q | q | q | q | q)
    ·omega
    ·exact hshort q
    ·exact h12 q
    ·exact q hck
    ·rw[HAS2.out,HBA.out] at q;cases q
   clear HPM HAS2 hck hshort;clear h12;go_wp2_with fail;go_meet
   case rel=>exact⟨false,rfl,P11,HE.out⟩
 case rest =>
 as_aux_lemma =>
 obtain⟨bb,rfl,P11,HE⟩:=hcut;obtain⟨w12,hw12⟩:∃ z,z=wc:=⟨_,rfl⟩;subst hw12;clear HPM HAS HTC P9
 cases bb with
 | true =>
  have HE:Hid (res=out):=HE;go_wp2_with fail
  first | go_end0 | (simp only [Exit.inBlock,Exit.then];refine bodyPost_ret (results_none rfl _ _ _) rfl ?_) | refine bodyPost_ret (results_none rfl _ _ _) rfl ?_
  exact⟨rfl,⟨_,by rw[HE.out];exact P11.out.m⟩,P11.out.ax⟩
 | false =>
 have HE:Hid (res=out++[⟨idn,ti,lm,at_,T⟩]):=HE;have m1:w12.cell? ⟨M,1,none⟩=some (.slice ao out.length cap):=Blk.cell P11.out.m.mb 1;have x0:w12.cell? ⟨X,0,none⟩=some (.string (st idn)):=Blk.cell P11.out.xb 0;have x1:w12.cell? ⟨X,1,none⟩=some (.string (st ti)):=Blk.cell P11.out.xb 1;have x2:w12.cell? ⟨X,2,none⟩=some (.string (st lm)):=Blk.cell P11.out.xb 2;have x3:w12.cell? ⟨X,3,none⟩=some (.int .i64 at_):=Blk.cell P11.out.xb 3;have x4:w12.cell? ⟨X,4,none⟩=some (.string (st T)):=Blk.cell P11.out.xb 4;go_upto_region 9 with fail;have P12:=Ld P11.out.drew;have PA:=P12.out.below ((Below.refl _ w12.drew).alloc (Lr) (.cells #[.string (st idn),.string (st ti),.string (st lm),.int .i64 at_,.string (st T)] 44));have ma:(w12.alloc (.cells #[.string (st idn),.string (st ti),.string (st lm),.int .i64 at_,.string (st T)] 44)).cell? ⟨M,1,none⟩=some (.slice ao out.length cap):=Blk.cell PA.m.mb 1;obtain⟨i0,hi,hz0,hz1,hz2⟩:=info_parts Tryz.infoEnt;have ow10:=z0f P12.out.m.ow ((Ap.refl (fun _=>False) w12.drew).alloc (.cells #[.string (st idn),.string (st ti),.string (st lm),.int .i64 at_,.string (st T)] 44)) (fun _ _ q=>q);have hsz:w.heap.size≤w12.heap.size:=P12.out.m.ap.size;have HPU:Hid (∀ v' w',w'.ownsRow w.heap.size 44 5 v' (out.length + 1) (y9 out++[.string (st idn),.string (st ti),.string (st lm),.int .i64 at_,.string (st T)])→(w12.drew.alloc (.cells #[.string (st idn),.string (st ti),.string (st lm),.int .i64 at_,.string (st T)] 44)).grownBy w' (Value.slice ao out.length cap).ownBlock →
   (MpI w (w'.setCell ⟨M,1,none⟩ v') M base v' (out++[⟨idn,ti,lm,at_,T⟩])∧Ap (fun b=>b=M∨(Value.slice ao out.length cap).ownBlock=some b) wx (w'.setCell ⟨M,1,none⟩ v'))∧w'.cell? ⟨M,1,none⟩=some (.slice ao out.length cap)∧w'.frozen? ⟨M,1,none⟩=false):=by
  intro v' w' hown hgr;have hMS:some M ≠ (Value.slice ao out.length cap).ownBlock:=by
   intro e;have:=(P12.out.m.ow.lt M e.symm).1;have:=P12.out.m.ml;omega
  have MB14:Blk w' M 118 #[.string (st base),.slice ao out.length cap]:=(hgr.block M (by have:=P12.out.m.mb.lt;simp at this ⊢;omega) hMS).trans (Blk.alloc P12.out.m.mb _);exact⟨⟨P12.out.m.pushed (x:=⟨idn,ti,lm,at_,T⟩) hown hgr,((P12.out.ax.alloc _).grown hgr (fun _ _ e=>.inr e)).setCell (p:=⟨M,1,none⟩) (.inl rfl) _⟩,Blk.cell MB14 1,Blk.frozen MB14 1⟩
 clear P11 P12 PA;have HAD:Hid ((w12.alloc (.cells #[.string (st idn),.string (st ti),.string (st lm),.int .i64 at_,.string (st T)] 44)).drew=w12.drew.alloc (.cells #[.string (st idn),.string (st ti),.string (st lm),.int .i64 at_,.string (st T)] 44)):=rfl
 go_region_law ((try rw[HAD.out]);refine z4i rfl (.tmp 64) (.tmp 66) 23 rfl w.heap.size 44 i0 (.agg #[.string ⟨#[]⟩,.string ⟨#[]⟩,.string ⟨#[]⟩,.int .i64 0,.string ⟨#[]⟩]) 5 72 underlying23 hi hz0 hz1 hz2 rfl (by decide) (.slice ao out.length cap) out.length (y9 out) (by first | (simp[Act.eval,Act.put];done) | (simp[Act.eval,Act.put];rfl)) ow10 ⟨w12.drew.heap.size,0,none⟩ 1 1 [.string (st idn),.string (st ti),.string (st lm),.int .i64 at_,.string (st T)] (by first | (simp[Act.eval,Act.put];done) | (simp[Act.eval,Act.put];rfl)) rfl (z0h _ _ _) (by intro u hu;simp at hu;rcases hu with rfl | rfl | rfl | rfl | rfl <;> rfl) (by unfold maxLen;omega) (by omega) (by simp;omega) ?_;intro v' w14 hown' hgrow _;have hR:=HPU.out v' w14 hown' hgrow;have c1:=hR.2.1;have f1:=hR.2.2;have R:=Ld hR.1;obtain⟨ao2,cap2,hv2⟩:=Z9 hown';subst hv2;clear hR hown' hgrow)
 all_goals
  go_wp2_with fail
  first | go_end0 | (simp only [Exit.inBlock,Exit.then];refine bodyPost_ret (results_none rfl _ _ _) rfl ?_) | refine bodyPost_ret (results_none rfl _ _ _) rfl ?_
  exact⟨rfl,⟨_,by rw[HE.out];exact R.out.1⟩,R.out.2⟩
end Go.Proofs.YtjonkbdldebkiaaGreatDoor
namespace Fd
theorem j7v (s:Bs):(q7a s).length≤s.length:=by
 unfold q7a V8;rw[List.length_reverse];refine Nat.le_trans (List.dropWhile_suffix z2s).length_le ?_;rw[List.length_reverse];exact(List.dropWhile_suffix z2s).length_le
end Fd
namespace Go.Proofs.YtjonkbdldebkiaaGreatDoor
open Go.Proofs.Tryz Go.RowKit
theorem q3r (k:Mk.Fo) (t:List UInt8):(Fd.Q5 k t).length≤k.bulk:=by
 have h:=z3o t (fun _=>true) k;have h1:=Fd.j7v ((childR t (fun _=>true) k).text++Fd.z16 (childR t (fun _=>true) k).kids);have h2:=Fd.z2k (childR t (fun _=>true) k).kids;rw[List.length_append] at h1;have h3:Fd.Q5 k t=Fd.q7a ((childR t (fun _=>true) k).text++Fd.z16 (childR t (fun _=>true) k).kids):=rfl;rw[h3];omega
theorem MpI.node {w wx:World} {M:Nat} {base:List UInt8} {u:Value} {out:List Fd.En} (h:MpI w wx M base u out) {K:Nat→Prop} {va vk:Value} {x:Fd.Nd} (hn:NdV w K va vk x) (hK:∀ b,K b→b < w.heap.size∧b ≠ M):NdV wx K va vk x:=by
 have kp:∀ b,K b→K b∧wx.heap[b]? = w.heap[b]?:=fun b hb=>⟨hb,h.ap.block b (hK b hb).1 (fun e=>(hK b hb).2 e)⟩
 exact⟨hn.1.frame kp,hn.2.frame kp⟩
theorem mp_item {w wx:World} {M:Nat} {base:List UInt8} {u:Value} {out:List Fd.En} (hg:Gl w) (hM:4 < M) (h:MpI w wx M base u out) (hb:base.length≤3000) (hol:out.length≤12)
  (n t:List UInt8) (a:List Mk.At) (k:Mk.Fo) (va vk:Value) (K:Nat→Prop) (hnd:NdV w K va vk ⟨n,a,t,k⟩) (hK:∀ b,K b→b < w.heap.size∧b ≠ M) (hl:k.bulk≤100000) :
  Calls prog 71 #[.pointer (some ⟨M,0,none⟩),z05 n va t vk] wx fun e w'=>e=.returned (.tuple #[])∧∃ u',MpI w w' M base u' (Fd.putM base out (Fd.q4n k)):=by
 have hnx:=h.node hnd hK;have hKx:∀ b,K b→b < wx.heap.size:=fun b q=>Nat.lt_of_lt_of_le (hK b q).1 h.ap.size
 obtain⟨aoa,capa,hva1,_⟩:=id hnx.1;subst hva1;obtain⟨aok,capk,xsk,hvk1,_⟩:=id hnx.2;subst hvk1;have HI:=Ld h;have HN:=Ld hnx;have HKX:=Ld hKx;have HG:=Ld hg;have hmp:=Ld (q3r k);have hal:=(Below.refl wx.heap.size wx).alloc (Lr) (.cells #[.string (st n),.slice aoa a.length capa,.string (st t),.slice aok k.len capk] 53);have AL:=Ld hal;have NB:=Ld (Blk.new wx 53 #[.string (st n),.slice aoa a.length capa,.string (st t),.slice aok k.len capk]);have HWO:Hid (∀ W,Below wx.heap.size wx W→∀ title,Calls prog 118 #[.agg #[.string (st n),.slice aoa a.length capa,.string (st t),.slice aok k.len capk],.string (st title)] W fun e w'=>e=.returned (.string (st (Fd.Q5 k title)))∧Below W.heap.size W w'):=by
  intro W hW title;exact q9i n title a t (.slice aoa a.length capa) (.slice aok k.len capk) k K W ⟨_,_,rfl⟩ (hnx.2.below hKx hW) (fun b q=>Nat.lt_of_lt_of_le (hKx b q) hW.size) (by omega)
 have HFR:Hid (∀ W,Below (wx.alloc (.cells #[.string (st n),.slice aoa a.length capa,.string (st t),.slice aok k.len capk] 53)).heap.size (wx.alloc (.cells #[.string (st n),.slice aoa a.length capa,.string (st t),.slice aok k.len capk] 53)) W→(W.cell? ⟨wx.heap.size,0,none⟩=some (.string (st n))∧W.cell? ⟨wx.heap.size,1,none⟩=some (.slice aoa a.length capa)∧W.cell? ⟨wx.heap.size,2,none⟩=some (.string (st t))∧W.cell? ⟨wx.heap.size,3,none⟩=some (.slice aok k.len capk))):=by
  intro W hW;have hb:=Blk.below NB.out hW (Blk.lt NB.out);exact⟨Blk.cell hb 0,Blk.cell hb 1,Blk.cell hb 2,Blk.cell hb 3⟩
 have HIT:Hid (Fd.q4n k=⟨Fd.Q5 k Fd.j3j,Fd.Q5 k Fd.z5z,Fd.Q5 k Fd.z8t,(Fd.q6e (Fd.Q5 k Fd.tPub)).1,Fd.Q5 k Fd.j3i⟩):=rfl;clear hal h hnx hKx hnd hK hg;unfold z05;go_enter func71,ntmps71;go_upto_region 1 with fail;obtain⟨N,hN⟩:∃ N,N=wx.heap.size:=⟨_,rfl⟩;rw[← hN] at NB HFR;rw[← hN];generalize wx.alloc (.cells #[.string (st n),.slice aoa a.length capa,.string (st t),.slice aok k.len capk] 53)=w1 at AL NB HFR ⊢;have hNx:wx.heap.size≤N:=Nat.le_of_eq hN.symm;clear hN;obtain⟨n0,n1,n2,n3⟩:=HFR.out w1 (Below.refl _ _);go_wp2_with fail;refine(HWO.out _ AL.out Fd.tPub).mono ?_;rintro e w2 ⟨rfl,hb2⟩;have B2:=Ld hb2;have hml:=hmp.out Fd.tPub;have HMA:=Ld (j4n (Fd.Q5 k Fd.tPub) w2 (by omega));clear hb2 n0 n1 n2 n3;go_wp2_with fail;refine HMA.out.mono ?_;rintro e w3 ⟨rfl,hb3⟩;have B3:=Ld (B2.out.trans (hb3.mono B2.out.size));clear hb3 HMA B2;generalize (Fd.q6e (Fd.Q5 k Fd.tPub)).2=ee;generalize (Fd.q6e (Fd.Q5 k Fd.tPub)).1=at_ at HIT ⊢
 have BX:=Ld (AL.out.trans (B3.out.mono AL.out.size));have HSX:Hid ((w3.drew.cell? ⟨N,0,none⟩=some (.string (st n))∧w3.drew.cell? ⟨N,1,none⟩=some (.slice aoa a.length capa)∧w3.drew.cell? ⟨N,2,none⟩=some (.string (st t))∧w3.drew.cell? ⟨N,3,none⟩=some (.slice aok k.len capk))∧∀ W,Below w3.heap.size w3.drew W→(W.cell? ⟨N,0,none⟩=some (.string (st n))∧W.cell? ⟨N,1,none⟩=some (.slice aoa a.length capa)∧W.cell? ⟨N,2,none⟩=some (.string (st t))∧W.cell? ⟨N,3,none⟩=some (.slice aok k.len capk))) :=
  ⟨HFR.out _ B3.out.drew,fun W hW=>HFR.out _ (B3.out.drew.trans (hW.mono B3.out.size))⟩
 have HW4:Hid (∀ W,Below w3.heap.size w3.drew W→∀ title,Calls prog 118 #[.agg #[.string (st n),.slice aoa a.length capa,.string (st t),.slice aok k.len capk],.string (st title)] W fun e w'=>e=.returned (.string (st (Fd.Q5 k title)))∧Below w3.heap.size w3.drew w'):=fun W hW title=>(HWO.out W (BX.out.drew.trans (hW.mono BX.out.size)) title).mono (by rintro e w' ⟨h1,h2⟩;exact⟨h1,hW.trans (h2.mono hW.size)⟩)
 have HPU:Hid (∀ W,Below w3.heap.size w3.drew W→Calls prog 119 #[.pointer (some ⟨M,0,none⟩),.agg #[.string (st (Fd.Q5 k Fd.j3j)),.string (st (Fd.Q5 k Fd.z5z)),.string (st (Fd.Q5 k Fd.z8t)),.int .i64 at_,.string (st (Fd.Q5 k Fd.j3i))]] W fun e w'=>e=.returned (.tuple #[])∧(∃ u',MpI w w' M base u' (Fd.putM base out (Fd.q4n k)))∧(w'.cell? ⟨N,0,none⟩=some (.string (st n))∧w'.cell? ⟨N,1,none⟩=some (.slice aoa a.length capa)∧w'.cell? ⟨N,2,none⟩=some (.string (st t))∧w'.cell? ⟨N,3,none⟩=some (.slice aok k.len capk))):=by
  intro W hW;have hBW:=BX.out.drew.trans (hW.mono BX.out.size);have hm:=HI.out.below hBW;have hlw:=hmp.out Fd.z8t;refine(mp_put ⟨Fd.Q5 k Fd.j3j,Fd.Q5 k Fd.z5z,Fd.Q5 k Fd.z8t,at_,Fd.Q5 k Fd.j3i⟩ HG.out hM hm hb (by show (Fd.Q5 k Fd.z8t).length≤_;omega) hol).mono ?_;rintro e w' ⟨h1,h2,h3⟩;refine⟨h1,by rw[HIT.out];exact h2,?_⟩;have hNW:Blk W N 53 #[.string (st n),.slice aoa a.length capa,.string (st t),.slice aok k.len capk]:=((B3.out.drew.trans (hW.mono B3.out.size)).block N NB.out.lt).trans NB.out;have hN1:N ≠ M:=by have:=HI.out.mb.lt;omega
  have hN2:u.ownBlock ≠ some N:=fun e=>by have:=(HI.out.ow.lt N e).2;omega
  have hb':=hNW.ap h3 (by rintro (e | e);exact hN1 e;exact hN2 e);exact⟨Blk.cell hb' 0,Blk.cell hb' 1,Blk.cell hb' 2,Blk.cell hb' 3⟩
 have HWGuid:Hid (∀ W,Below w3.heap.size w3.drew W→Calls prog 118 #[.agg #[.string (st n),.slice aoa a.length capa,.string (st t),.slice aok k.len capk],.string ⟨#[103,117,105,100]⟩] W fun e w'=>e=.returned (.string (st (Fd.Q5 k Fd.j3j)))∧Below w3.heap.size w3.drew w'):=fun W hW=>HW4.out W hW Fd.j3j
 have HWTitle:Hid (∀ W,Below w3.heap.size w3.drew W→Calls prog 118 #[.agg #[.string (st n),.slice aoa a.length capa,.string (st t),.slice aok k.len capk],.string ⟨#[116,105,116,108,101]⟩] W fun e w'=>e=.returned (.string (st (Fd.Q5 k Fd.z5z)))∧Below w3.heap.size w3.drew w'):=fun W hW=>HW4.out W hW Fd.z5z
 have HWLink:Hid (∀ W,Below w3.heap.size w3.drew W→Calls prog 118 #[.agg #[.string (st n),.slice aoa a.length capa,.string (st t),.slice aok k.len capk],.string ⟨#[108,105,110,107]⟩] W fun e w'=>e=.returned (.string (st (Fd.Q5 k Fd.z8t)))∧Below w3.heap.size w3.drew w'):=fun W hW=>HW4.out W hW Fd.z8t
 have HWDesc:Hid (∀ W,Below w3.heap.size w3.drew W→Calls prog 118 #[.agg #[.string (st n),.slice aoa a.length capa,.string (st t),.slice aok k.len capk],.string ⟨#[100,101,115,99,114,105,112,116,105,111,110]⟩] W fun e w'=>e=.returned (.string (st (Fd.Q5 k Fd.j3i)))∧Below w3.heap.size w3.drew w'):=fun W hW=>HW4.out W hW Fd.j3i
 clear AL NB HWO B3 BX HFR HI HN HKX HW4;go_upto_region 2 with fail
 go_region_held3 (fun w'=>w'.cell? ⟨N,0,none⟩=some (.string (st n))∧w'.cell? ⟨N,1,none⟩=some (.slice aoa a.length capa)∧w'.cell? ⟨N,2,none⟩=some (.string (st t))∧w'.cell? ⟨N,3,none⟩=some (.slice aok k.len capk)) (first
  | exact HSX.out.1
  | exact HSX.out.2 _ hb7
  | exact HSX.out.2 _ hb6
  | exact HSX.out.2 _ hb5
  | exact HSX.out.2 _ hb4
  | exact hcc8) (first
  | (go_at_call 118;with_reducible refine(HWGuid.out _ ?_).mono ?_;exact Below.refl _ _;rintro e w4 ⟨rfl,hb4⟩)
  | (go_at_call 118;with_reducible refine(HWTitle.out _ ?_).mono ?_;exact hb4;rintro e w5 ⟨rfl,hb5⟩)
  | (go_at_call 118;with_reducible refine(HWLink.out _ ?_).mono ?_;exact hb5;rintro e w6 ⟨rfl,hb6⟩)
  | (go_at_call 118;with_reducible refine(HWDesc.out _ ?_).mono ?_;exact hb6;rintro e w7 ⟨rfl,hb7⟩)
  | (go_at_call 119;with_reducible refine(HPU.out _ ?_).mono ?_;exact hb7;rintro e w8 ⟨rfl,hmp8,hcc8⟩))
 all_goals
  go_wp2_with fail
  first | go_end0 | (simp only [Exit.inBlock,Exit.then];refine bodyPost_ret (results_none rfl _ _ _) rfl ?_) | refine bodyPost_ret (results_none rfl _ _ _) rfl ?_
  exact⟨rfl,hmp8⟩
theorem eg_other (args:Array Value) (w:World):(callFunc 120 args).run prog w=.ok (.enter 120 args) w:=Z7 func120 (by kernel_rfl) rfl _ _
theorem j3t (l:List Mk.At) (n:List UInt8):((Fd.valueA l n).getD []).length≤Mk.Fo.atB l:=by
 unfold Fd.valueA
 cases h:l.find? fun a=>a.n == n with
 | none=>exact Nat.zero_le _
 | some a =>
  have:=Mk.q0h (List.mem_of_find?_eq_some h);show a.v.length≤_;omega
theorem j0p (f:Mk.Fo) (K:Nat→Prop) (w:World) (hf:f.bulk≤33554432) (hK:∀ b,K b→b < w.heap.size):q3t 120 #[] Fd.z7q f K w:=by
 intro w1 hb j n a t kk r hd va vk hva hvk;have hst:∀ l:List UInt8,(st l).toList=l:=fun l=>Lib.toList_data _
 have hab:Mk.Fo.atB a≤f.bulk:=by
  have h1:=Mk.Fo.z1z f j;rw[hd] at h1;have e:Mk.Fo.bulk (.node n a t kk r)=1 + n.length + t.length + Mk.Fo.atB a + Mk.Fo.bulk kk + Mk.Fo.bulk r:=rfl;omega
 have hal0:=Mk.z5f a;obtain⟨aoa,capa,hva1,_⟩:=id hva;subst hva1;obtain⟨aok,capk,xsk,hvk1,_⟩:=id hvk;subst hvk1;have hal:=(Below.refl w1.heap.size w1).alloc (Lr) (.cells #[.string (st n),.slice aoa a.length capa,.string (st t),.slice aok kk.len capk] 53);have hK1:∀ b,K b→b < w1.heap.size:=fun b q=>Nat.lt_of_lt_of_le (hK b q) hb.size
 have HV:=Ld (q9h n Fd.tRel a t (.slice aoa a.length capa) (.slice aok kk.len capk) kk K _ (hva.below hK1 hal) ⟨_,_,rfl⟩ (fun b q=>Nat.lt_of_lt_of_le (hK1 b q) hal.size) (by omega));have HO:Hid (Fd.z7q ⟨n,a,t,kk⟩=match Fd.valueA a Fd.tRel with | none=>true | some v=>v == Fd.tAlt):=by
  show _=_;unfold Fd.z7q
  cases Fd.valueA a Fd.tRel <;> rfl
 generalize Fd.z7q ⟨n,a,t,kk⟩=out at HO ⊢;generalize Fd.valueA a Fd.tRel=o at HO HV;have AL:=Ld hal;have NB:=Ld (Blk.new w1 53 #[.string (st n),.slice aoa a.length capa,.string (st t),.slice aok kk.len capk]);clear hal hva hvk hd hb hab hal0;unfold z05 at HV ⊢;go_enter func120,ntmps120;go_upto_region 1 with fail;generalize w1.alloc (.cells #[.string (st n),.slice aoa a.length capa,.string (st t),.slice aok kk.len capk] 53)=w2 at HV AL NB ⊢;have n0:w2.cell? ⟨w1.heap.size,0,none⟩=some (.string (st n)):=Blk.cell NB.out 0;have n1:w2.cell? ⟨w1.heap.size,1,none⟩=some (.slice aoa a.length capa):=Blk.cell NB.out 1;have n2:w2.cell? ⟨w1.heap.size,2,none⟩=some (.string (st t)):=Blk.cell NB.out 2;have n3:w2.cell? ⟨w1.heap.size,3,none⟩=some (.slice aok kk.len capk):=Blk.cell NB.out 3;go_wp2_with fail;refine HV.out.mono ?_;rintro e w3 ⟨rfl,hb3⟩;have B3:=Ld (AL.out.trans (hb3.mono AL.out.size));clear hb3 HV n0 n1 n2 n3
 cases o with
 | none =>
  have HE:Hid (out=true):=HO;have hs0:(none:Option (List UInt8)).isSome=false:=rfl;go_wp2_with fail;go_ret;exact⟨Z8 HE.out.symm,B3.out⟩
 | some v =>
  have HE:Hid (out=(v == Fd.tAlt)):=HO;have hs0:(some v).isSome=true:=rfl;go_wp2_with fail;go_ret;exact⟨Z8 (by rw[HE.out];rfl),B3.out⟩
theorem mp_entry {w wx:World} {M:Nat} {base:List UInt8} {u:Value} {out:List Fd.En} (hg:Gl w) (hM:4 < M) (h:MpI w wx M base u out) (hb:base.length≤3000) (hol:out.length≤12)
  (n t:List UInt8) (a:List Mk.At) (k:Mk.Fo) (va vk:Value) (K:Nat→Prop) (hnd:NdV w K va vk ⟨n,a,t,k⟩) (hK:∀ b,K b→b < w.heap.size∧b ≠ M) (hl:k.bulk≤100000) :
  Calls prog 72 #[.pointer (some ⟨M,0,none⟩),z05 n va t vk] wx fun e w'=>e=.returned (.tuple #[])∧∃ u',MpI w w' M base u' (Fd.putM base out (Fd.z9r k)):=by
 have hnx:=h.node hnd hK;have hKx:∀ b,K b→b < wx.heap.size:=fun b q=>Nat.lt_of_lt_of_le (hK b q).1 h.ap.size
 obtain⟨aoa,capa,hva1,_⟩:=id hnx.1;subst hva1;obtain⟨aok,capk,xsk,hvk1,_⟩:=id hnx.2;subst hvk1;have HI:=Ld h;have HN:=Ld hnx;have HKX:=Ld hKx;have HG:=Ld hg;have hmp:=Ld (q3r k);have hal:=(Below.refl wx.heap.size wx).alloc (Lr) (.cells #[.string (st n),.slice aoa a.length capa,.string (st t),.slice aok k.len capk] 53);have AL:=Ld hal;have NB:=Ld (Blk.new wx 53 #[.string (st n),.slice aoa a.length capa,.string (st t),.slice aok k.len capk]);have HWO:Hid (∀ W,Below wx.heap.size wx W→∀ title,Calls prog 118 #[.agg #[.string (st n),.slice aoa a.length capa,.string (st t),.slice aok k.len capk],.string (st title)] W fun e w'=>e=.returned (.string (st (Fd.Q5 k title)))∧Below W.heap.size W w'):=by
  intro W hW title;exact q9i n title a t (.slice aoa a.length capa) (.slice aok k.len capk) k K W ⟨_,_,rfl⟩ (hnx.2.below hKx hW) (fun b q=>Nat.lt_of_lt_of_le (hKx b q) hW.size) (by omega)
 have HFR:Hid (∀ W,Below (wx.alloc (.cells #[.string (st n),.slice aoa a.length capa,.string (st t),.slice aok k.len capk] 53)).heap.size (wx.alloc (.cells #[.string (st n),.slice aoa a.length capa,.string (st t),.slice aok k.len capk] 53)) W→(W.cell? ⟨wx.heap.size,0,none⟩=some (.string (st n))∧W.cell? ⟨wx.heap.size,1,none⟩=some (.slice aoa a.length capa)∧W.cell? ⟨wx.heap.size,2,none⟩=some (.string (st t))∧W.cell? ⟨wx.heap.size,3,none⟩=some (.slice aok k.len capk))):=by
  intro W hW;have hb:=Blk.below NB.out hW (Blk.lt NB.out);exact⟨Blk.cell hb 0,Blk.cell hb 1,Blk.cell hb 2,Blk.cell hb 3⟩
 have HIT:Hid (Fd.z9r k=⟨Fd.Q5 k Fd.tId,Fd.Q5 k Fd.z5z,(Fd.valueA (childR Fd.z8t Fd.z7q k).ats Fd.j7l).getD [],(Fd.webD (Fd.Q5 k Fd.tUpd)).1,Fd.Q5 k (if (Fd.z2z Fd.q5c (fun _=>true) k).isSome then Fd.q5c else Fd.tSum)⟩):=rfl;clear hal h hnx hKx hnd hK hg;unfold z05;go_enter func72,ntmps72;go_upto_region 1 with fail;obtain⟨N,hN⟩:∃ N,N=wx.heap.size:=⟨_,rfl⟩;rw[← hN] at NB HFR;rw[← hN];generalize wx.alloc (.cells #[.string (st n),.slice aoa a.length capa,.string (st t),.slice aok k.len capk] 53)=w1 at AL NB HFR ⊢;have hNx:wx.heap.size≤N:=Nat.le_of_eq hN.symm;clear hN;obtain⟨n0,n1,n2,n3⟩:=HFR.out w1 (Below.refl _ _);go_wp2_with fail;refine(HWO.out _ AL.out Fd.tUpd).mono ?_;rintro e w2 ⟨rfl,hb2⟩;have B2:=Ld hb2;have HMA:=Ld (j4r (Fd.Q5 k Fd.tUpd) w2);clear hb2 n0 n1 n2 n3;go_wp2_with fail;refine HMA.out.mono ?_;rintro e w3 ⟨rfl,hb3⟩;have B2a:=Ld (B2.out.trans (hb3.mono B2.out.size));clear hb3 HMA B2;generalize (Fd.webD (Fd.Q5 k Fd.tUpd)).2=ee;generalize (Fd.webD (Fd.Q5 k Fd.tUpd)).1=at_ at HIT ⊢
 have BXa:=Ld (AL.out.trans (B2a.out.mono AL.out.size));have HCH:=Ld (q09 120 eg_other n Fd.z8t a t (.slice aoa a.length capa) (.slice aok k.len capk) k Fd.z7q K w3 ⟨_,_,rfl⟩ (HN.out.2.below HKX.out BXa.out) (fun b q=>Nat.lt_of_lt_of_le (HKX.out b q) BXa.out.size) (by omega) (j0p k K w3 (by omega) (fun b q=>Nat.lt_of_lt_of_le (HKX.out b q) BXa.out.size)));have hcb:=z3o Fd.z8t Fd.z7q k;generalize childR Fd.z8t Fd.z7q k=lx at HIT HCH hcb;generalize (Fd.z2z Fd.z8t Fd.z7q k).isSome=lb at HCH;obtain⟨n0,n1,n2,n3⟩:=HFR.out w3 B2a.out;unfold z05 at HCH;go_wp2_with fail;refine HCH.out.mono ?_;rintro e w4 ⟨hb4,lva,lvk,rfl,hnd⟩;have B2b:=Ld (B2a.out.trans (hb4.mono B2a.out.size));obtain⟨laoa,lcapa,hlva,_⟩:=id hnd.1;subst hlva;obtain⟨laok,lcapk,lxs,hlvk,_⟩:=id hnd.2;subst hlvk;have hK4:∀ b,K b→b < w4.heap.size:=fun b q=>Nat.lt_of_lt_of_le (Nat.lt_of_lt_of_le (HKX.out b q) BXa.out.size) hb4.size
 have hal4:=(Below.refl w4.heap.size w4).alloc (Lr) (.cells #[.string (st lx.name),.slice laoa lx.ats.length lcapa,.string (st lx.text),.slice laok lx.kids.len lcapk] 53);have hatl:=Mk.z5f lx.ats;have HVA:=Ld (q9h lx.name Fd.j7l lx.ats lx.text (.slice laoa lx.ats.length lcapa) (.slice laok lx.kids.len lcapk) lx.kids K _ (hnd.1.below hK4 hal4) ⟨_,_,rfl⟩ (fun b q=>Nat.lt_of_lt_of_le (hK4 b q) hal4.size) (by omega));have LB:=Ld (Blk.new w4 53 #[.string (st lx.name),.slice laoa lx.ats.length lcapa,.string (st lx.text),.slice laok lx.kids.len lcapk]);have B2c:=Ld (B2b.out.trans (hal4.mono B2b.out.size));obtain⟨lo,hlo⟩:∃ lo,Fd.valueA lx.ats Fd.j7l=lo:=⟨_,rfl⟩;have hlol:(lo.getD []).length≤200000:=by
  have:=j3t lx.ats Fd.j7l;rw[hlo] at this;omega
 rw[hlo] at HVA HIT;unfold z05 at HVA;clear hb4 hnd hK4 hal4 HCH n0 n1 n2 n3 BXa B2b B2a hlo hcb hatl;go_upto_region 3 with fail;generalize w4.alloc (.cells #[.string (st lx.name),.slice laoa lx.ats.length lcapa,.string (st lx.text),.slice laok lx.kids.len lcapk] 53)=w5 at HVA LB B2c ⊢;have l0:w5.cell? ⟨w4.heap.size,0,none⟩=some (.string (st lx.name)):=Blk.cell LB.out 0;have l1:w5.cell? ⟨w4.heap.size,1,none⟩=some (.slice laoa lx.ats.length lcapa):=Blk.cell LB.out 1;have l2:w5.cell? ⟨w4.heap.size,2,none⟩=some (.string (st lx.text)):=Blk.cell LB.out 2;have l3:w5.cell? ⟨w4.heap.size,3,none⟩=some (.slice laok lx.kids.len lcapk):=Blk.cell LB.out 3;clear LB;go_wp2_with fail;refine HVA.out.mono ?_;rintro e w6 ⟨rfl,hb6⟩;have B2d:=Ld (B2c.out.trans (hb6.mono B2c.out.size));clear hb6 HVA l0 l1 l2 l3 B2c;generalize lo.isSome=lob;generalize lo.getD []=li at HIT hlol ⊢;have BXd:=Ld (AL.out.trans (B2d.out.mono AL.out.size));have HCH:=Ld (q09 69 q4e n Fd.q5c a t (.slice aoa a.length capa) (.slice aok k.len capk) k (fun _=>true) K w6 ⟨_,_,rfl⟩ (HN.out.2.below HKX.out BXd.out) (fun b q=>Nat.lt_of_lt_of_le (HKX.out b q) BXd.out.size) (by omega) (z8z k K w6));generalize childR Fd.q5c (fun _=>true) k=cx at HCH;obtain⟨cb,hcb⟩:∃ cb,(Fd.z2z Fd.q5c (fun _=>true) k).isSome=cb:=⟨_,rfl⟩;rw[hcb] at HCH HIT;clear hcb;obtain⟨n0,n1,n2,n3⟩:=HFR.out w6 B2d.out;unfold z05 at HCH;go_wp2_with fail;refine HCH.out.mono ?_;rintro e w7 ⟨hb7,cva,cvk,rfl,hnd⟩;have B2e:=Ld (B2d.out.trans (hb7.mono B2d.out.size));obtain⟨caoa,ccapa,hcva,_⟩:=id hnd.1;subst hcva;obtain⟨caok,ccapk,cxs,hcvk,_⟩:=id hnd.2;subst hcvk;have hal7:=(Below.refl w7.heap.size w7).alloc (Lr) (.cells #[.string (st cx.name),.slice caoa cx.ats.length ccapa,.string (st cx.text),.slice caok cx.kids.len ccapk] 53);have B2f:=Ld (B2e.out.trans (hal7.mono B2e.out.size));clear hb7 hnd hal7 HCH n0 n1 n2 n3 BXd B2e B2d;go_upto_region 6 with fail;generalize w7.alloc (.cells #[.string (st cx.name),.slice caoa cx.ats.length ccapa,.string (st cx.text),.slice caok cx.kids.len ccapk] 53)=w3 at B2f ⊢;have B3:=B2f;clear B2f;go_upto_if 34 with fail
 go_cut [10] (fun y wz=>y=.string (st (if cb=true then Fd.q5c else Fd.tSum))∧w3=wz)
 case first =>
  as_aux_lemma =>
  cases cb with
  | true =>
   go_wp2_with fail;go_meet
   case rel=>exact⟨rfl,rfl⟩
  | false =>
   go_wp2_with fail;go_meet
   case rel=>exact⟨rfl,rfl⟩
 case rest =>
 as_aux_lemma =>
 obtain⟨rfl,hw⟩:=hcut;subst hw;generalize (if cb=true then Fd.q5c else Fd.tSum)=says at HIT ⊢;have BX:=Ld (AL.out.trans (B3.out.mono AL.out.size));have HSX:Hid ((w3.drew.cell? ⟨N,0,none⟩=some (.string (st n))∧w3.drew.cell? ⟨N,1,none⟩=some (.slice aoa a.length capa)∧w3.drew.cell? ⟨N,2,none⟩=some (.string (st t))∧w3.drew.cell? ⟨N,3,none⟩=some (.slice aok k.len capk))∧∀ W,Below w3.heap.size w3.drew W→(W.cell? ⟨N,0,none⟩=some (.string (st n))∧W.cell? ⟨N,1,none⟩=some (.slice aoa a.length capa)∧W.cell? ⟨N,2,none⟩=some (.string (st t))∧W.cell? ⟨N,3,none⟩=some (.slice aok k.len capk))) :=
  ⟨HFR.out _ B3.out.drew,fun W hW=>HFR.out _ (B3.out.drew.trans (hW.mono B3.out.size))⟩
 have HW4:Hid (∀ W,Below w3.heap.size w3.drew W→∀ title,Calls prog 118 #[.agg #[.string (st n),.slice aoa a.length capa,.string (st t),.slice aok k.len capk],.string (st title)] W fun e w'=>e=.returned (.string (st (Fd.Q5 k title)))∧Below w3.heap.size w3.drew w'):=fun W hW title=>(HWO.out W (BX.out.drew.trans (hW.mono BX.out.size)) title).mono (by rintro e w' ⟨h1,h2⟩;exact⟨h1,hW.trans (h2.mono hW.size)⟩)
 have HPU:Hid (∀ W,Below w3.heap.size w3.drew W→Calls prog 119 #[.pointer (some ⟨M,0,none⟩),.agg #[.string (st (Fd.Q5 k Fd.tId)),.string (st (Fd.Q5 k Fd.z5z)),.string (st li),.int .i64 at_,.string (st (Fd.Q5 k says))]] W fun e w'=>e=.returned (.tuple #[])∧(∃ u',MpI w w' M base u' (Fd.putM base out (Fd.z9r k)))∧(w'.cell? ⟨N,0,none⟩=some (.string (st n))∧w'.cell? ⟨N,1,none⟩=some (.slice aoa a.length capa)∧w'.cell? ⟨N,2,none⟩=some (.string (st t))∧w'.cell? ⟨N,3,none⟩=some (.slice aok k.len capk))):=by
  intro W hW;have hBW:=BX.out.drew.trans (hW.mono BX.out.size);have hm:=HI.out.below hBW;refine(mp_put ⟨Fd.Q5 k Fd.tId,Fd.Q5 k Fd.z5z,li,at_,Fd.Q5 k says⟩ HG.out hM hm hb (by show li.length≤_;omega) hol).mono ?_;rintro e w' ⟨h1,h2,h3⟩;refine⟨h1,by rw[HIT.out];exact h2,?_⟩;have hNW:Blk W N 53 #[.string (st n),.slice aoa a.length capa,.string (st t),.slice aok k.len capk]:=((B3.out.drew.trans (hW.mono B3.out.size)).block N NB.out.lt).trans NB.out;have hN1:N ≠ M:=by have:=HI.out.mb.lt;omega
  have hN2:u.ownBlock ≠ some N:=fun e=>by have:=(HI.out.ow.lt N e).2;omega
  have hb':=hNW.ap h3 (by rintro (e | e);exact hN1 e;exact hN2 e);exact⟨Blk.cell hb' 0,Blk.cell hb' 1,Blk.cell hb' 2,Blk.cell hb' 3⟩
 have HWId:Hid (∀ W,Below w3.heap.size w3.drew W→Calls prog 118 #[.agg #[.string (st n),.slice aoa a.length capa,.string (st t),.slice aok k.len capk],.string ⟨#[105,100]⟩] W fun e w'=>e=.returned (.string (st (Fd.Q5 k Fd.tId)))∧Below w3.heap.size w3.drew w'):=fun W hW=>HW4.out W hW Fd.tId
 have HWTitle:Hid (∀ W,Below w3.heap.size w3.drew W→Calls prog 118 #[.agg #[.string (st n),.slice aoa a.length capa,.string (st t),.slice aok k.len capk],.string ⟨#[116,105,116,108,101]⟩] W fun e w'=>e=.returned (.string (st (Fd.Q5 k Fd.z5z)))∧Below w3.heap.size w3.drew w'):=fun W hW=>HW4.out W hW Fd.z5z
 have HWSays:Hid (∀ W,Below w3.heap.size w3.drew W→Calls prog 118 #[.agg #[.string (st n),.slice aoa a.length capa,.string (st t),.slice aok k.len capk],.string (st says)] W fun e w'=>e=.returned (.string (st (Fd.Q5 k says)))∧Below w3.heap.size w3.drew w'):=fun W hW=>HW4.out W hW says
 clear AL NB HWO B3 BX HFR HI HN HKX HW4;go_upto_region 8 with fail
 go_region_held3 (fun w'=>w'.cell? ⟨N,0,none⟩=some (.string (st n))∧w'.cell? ⟨N,1,none⟩=some (.slice aoa a.length capa)∧w'.cell? ⟨N,2,none⟩=some (.string (st t))∧w'.cell? ⟨N,3,none⟩=some (.slice aok k.len capk)) (first
  | exact HSX.out.1
  | exact HSX.out.2 _ hb6
  | exact HSX.out.2 _ hb5
  | exact HSX.out.2 _ hb4
  | exact hcc8) (first
  | (go_at_call 118;with_reducible refine(HWId.out _ ?_).mono ?_;exact Below.refl _ _;rintro e w4 ⟨rfl,hb4⟩)
  | (go_at_call 118;with_reducible refine(HWTitle.out _ ?_).mono ?_;exact hb4;rintro e w5 ⟨rfl,hb5⟩)
  | (go_at_call 118;with_reducible refine(HWSays.out _ ?_).mono ?_;exact hb5;rintro e w6 ⟨rfl,hb6⟩)
  | (go_at_call 119;with_reducible refine(HPU.out _ ?_).mono ?_;exact hb6;rintro e w8 ⟨rfl,hmp8,hcc8⟩))
 all_goals
  go_wp2_with fail
  first | go_end0 | (simp only [Exit.inBlock,Exit.then];refine bodyPost_ret (results_none rfl _ _ _) rfl ?_) | refine bodyPost_ret (results_none rfl _ _ _) rfl ?_
  exact⟨rfl,hmp8⟩
end Go.Proofs.YtjonkbdldebkiaaGreatDoor
namespace Fd
open Mk
theorem putM_len (base:Bs) (l:List En) (x:En) (h:l.length≤12):(putM base l x).length≤12:=by
 unfold putM
 split
 ·exact h
 ·rename_i q
  have:¬ l.length=12:=fun e=>q (.inr (.inr (.inl e)))
  rw[List.length_append,List.length_singleton];omega
theorem j1t (base title:Bs) (E:Fo→En) (n:Bs) (a:List At) (t:Bs) (k r:Fo) (out:List En):z7h base title E (.node n a t k r) out=z7h base title E r (if n=title then putM base out (E k) else out):=rfl
theorem q8d:∀ (n:Nat) (s r:Bs) (u:Unit),z6b n s=.ok u r→r.length≤s.length
 | 0,s,r,u,h=>by rw[z6b] at h;injection h with _ h2;rw[h2];exact Lr
 | n + 1,s,r,u,h=>by
  rw[z6b] at h
  split at h
  ·have:=q8d n _ r u h
   omega
  ·cases ha:z1c s with
   | none=>rw[ha] at h;injection h with _ h2;rw[h2];exact Lr
   | some x =>
    rw[ha] at h
    cases x with
    | er e=>cases h
    | ok v z =>
     have h1:=z3n ha;have h2:=q8d n z r u h;omega
theorem j7y (s:Bs):Fo.bulk (xmlM s).1.kids + Fo.atB (xmlM s).1.ats≤15000:=by
 have h0:Fo.bulk .nil=0:=rfl;have h1:Fo.atB ([]:List At)=0:=rfl;unfold xmlM
 split
 ·show Fo.bulk .nil + Fo.atB []≤_;omega
 rename_i hl
 rw[j7z]
 cases hm:z3u s with
 | er e=>show Fo.bulk .nil + Fo.atB []≤_;omega
 | ok u r =>
  simp only;have hr:r.length≤s.length:=by
   have:=q8d _ _ _ _ hm;omega
  cases he:z5l 1 r with
  | er e=>show Fo.bulk .nil + Fo.atB []≤_;omega
  | ok x z =>
   have hb:=q2y he;simp only
   cases hm2:z3u z with
   | er e=>show Fo.bulk .nil + Fo.atB []≤_;omega
   | ok u2 v =>
    simp only
    split
    ·show Fo.bulk x.kids + Fo.atB x.ats≤_;omega
    ·show Fo.bulk .nil + Fo.atB []≤_;omega
end Fd
namespace Go.Proofs.YtjonkbdldebkiaaGreatDoor
open Go.Proofs.Tryz Go.RowKit
def MapsC (g:FuncId) (E:Mk.Fo→Fd.En) (w:World) (M:Nat) (base:List UInt8) (K:Nat→Prop):Prop:=∀ (wx:World) (u:Value) (out:List Fd.En) (n:List UInt8) (a:List Mk.At) (t:List UInt8) (k:Mk.Fo) (va vk:Value),MpI w wx M base u out→out.length≤12→NdV w K va vk ⟨n,a,t,k⟩→k.bulk≤100000 →
 Calls prog g #[.pointer (some ⟨M,0,none⟩),z05 n va t vk] wx fun e w'=>e=.returned (.tuple #[])∧∃ u',MpI w w' M base u' (Fd.putM base out (E k))
theorem j5r (g:FuncId) (eg:∀ args w,(callFunc g args).run prog w=.ok (.enter g args) w) (E:Mk.Fo→Fd.En) {w wx:World} {M:Nat} {base:List UInt8} {u:Value} (K:Nat→Prop) (hE:MapsC g E w M base K) (h:MpI w wx M base u [])
  (n title t:List UInt8) (a:List Mk.At) (k:Mk.Fo) (va vk:Value) (hva:∃ ao cap,va=.slice ao a.length cap) (hvk:FoV w K vk k) (hK:∀ b,K b→b < w.heap.size∧b ≠ M) (hl:k.bulk≤100000) :
  Calls prog 70 #[z05 n va t vk,.string (st title),.func (.func g) #[.pointer (some ⟨M,0,none⟩)] #[]] wx fun e w'=>e=.returned (.tuple #[])∧∃ u',MpI w w' M base u' (Fd.z7h base title E k []):=by
 have hst:∀ l:List UInt8,(st l).toList=l:=fun l=>Lib.toList_data _
 obtain⟨b,o,cap,hv1,hlen,hat⟩:=hvk.at_
 obtain⟨aoa,capa,rfl⟩:=hva;have HAT:=Ld hat
 have HEE:=Ld hE;have HKK:=Ld hK;have hfl:=Mk.Fo.z1r k;obtain⟨res,hres⟩:∃ res,Fd.z7h base title E k []=res:=⟨_,rfl⟩;rw[hres];have HRES:=Ld hres;clear hat hE hK hres
 rcases hv1 with ⟨hv1,hKb⟩ | ⟨ao,hv1,hnil⟩
 ·have hKB:=HKK.out b hKb
  subst hv1;have hal:=(Below.refl wx.heap.size wx).alloc (Lr) (.cells #[.string (st n),.slice aoa a.length capa,.string (st t),.slice (some ⟨b,o,none⟩) k.len cap] 53);have I1:=Ld (h.below hal);have NB:=Ld (Blk.new wx 53 #[.string (st n),.slice aoa a.length capa,.string (st t),.slice (some ⟨b,o,none⟩) k.len cap]);clear hal h hvk;unfold z05;go_enter func70,ntmps70;go_upto_region 1 with fail;generalize wx.alloc (.cells #[.string (st n),.slice aoa a.length capa,.string (st t),.slice (some ⟨b,o,none⟩) k.len cap] 53)=w1 at I1 NB ⊢;have p3:w1.cell? ⟨wx.heap.size,3,none⟩=some (.slice (some ⟨b,o,none⟩) k.len cap):=Blk.cell NB.out 3;clear NB;go_wp2_with fail;clear p3
  go_loopw [11] (fun i wr=>∃ (j:Nat) (out:List Fd.En) (u':Value),j≤k.len∧i=.int .i64 j∧out.length≤12∧Hid (Fd.z7h base title E (k.drop j) out=res)∧Hid (MpI w wr M base u' out)) (fun i _=>k.len - (intOf i).toNat)
  case atStart=>exact⟨0,[],_,Nat.zero_le _,rfl,Nat.zero_le _,by show _=_;rw[Mk.Fo.drop_zero];exact HRES.out,I1⟩
  case round =>
   obtain⟨j,out,u',hj,rfl,hol,HA,I⟩:=hrel
   by_cases hlt:j < k.len
   ·obtain⟨n',a',t',kk,r,hd,hd1⟩:=Mk.Fo.z6j k j hlt
    obtain⟨va',vk',c0,c1,c2,c3,hva',hvk'⟩:=HAT.out j n' a' t' kk r hd;have hgm:wr.heap[b]? = w.heap[b]?:=I.out.ap.block b hKB.1 (fun e=>hKB.2 e);rw[← cell_of_block hgm] at c0 c1 c2 c3;obtain⟨aoa',capa',hva1',_⟩:=id hva';obtain⟨aok',capk',xsk',hvk1',_⟩:=id hvk';subst hva1';subst hvk1';have hdb:(k.drop j).bulk=1 + n'.length + t'.length + Mk.Fo.atB a' + kk.bulk + r.bulk:=by rw[hd];rfl
    have hdb2:=Mk.Fo.z1z k j;have HN:Hid (Fd.z7h base title E (k.drop (j + 1)) (if n'=title then Fd.putM base out (E kk) else out)=res):=by show _=_;rw[← HA.out,hd,hd1,Fd.j1t]
    have hal1:=(Below.refl wr.heap.size wr).alloc (Lr) (.cells #[.string (st n'),.slice aoa' a'.length capa',.string (st t'),.slice aok' kk.len capk'] 53);have I2:=Ld (I.out.below hal1);have QB:=Ld (Blk.new wr 53 #[.string (st n'),.slice aoa' a'.length capa',.string (st t'),.slice aok' kk.len capk']);have HCALL:=Ld (HEE.out _ u' out n' a' t' kk _ _ I2.out hol ⟨hva',hvk'⟩ (by omega));have hji:(j:Int) < k.len:=by omega
    have hpl:=Fd.putM_len base out (E kk) hol;unfold z05 at HCALL;clear HA hd hd1 hva' hvk' hal1 I hgm hdb hdb2;go_upto_region 4 with fail;generalize wr.alloc (.cells #[.string (st n'),.slice aoa' a'.length capa',.string (st t'),.slice aok' kk.len capk'] 53)=w2 at I2 QB HCALL ⊢;have q0:w2.cell? ⟨wr.heap.size,0,none⟩=some (.string (st n')):=Blk.cell QB.out 0;have q1:w2.cell? ⟨wr.heap.size,1,none⟩=some (.slice aoa' a'.length capa'):=Blk.cell QB.out 1;have q2:w2.cell? ⟨wr.heap.size,2,none⟩=some (.string (st t')):=Blk.cell QB.out 2;have q3:w2.cell? ⟨wr.heap.size,3,none⟩=some (.slice aok' kk.len capk'):=Blk.cell QB.out 3;clear c0 c1 c2 c3 QB
    by_cases hn:n'=title
    ·have hnb:(n' == title)=true:=by simpa using hn
     rw[if_pos hn] at HN;clear hn;go_wp2_with fail;refine HCALL.out.mono ?_;rintro e w3 ⟨rfl,u3,hm3⟩;have I3:=Ld hm3;clear hm3 HCALL I2 q0 q1 q2 q3;go_wp2_with fail;go_roundw
     case rel=>exact⟨j + 1,_,u3,by omega,by go_num,hpl,HN,I3⟩
     case measure=>simp[intOf];omega
    ·have hnb:(n' == title)=false:=beq_eq_false_iff_ne.2 hn
     rw[if_neg hn] at HN;clear hn HCALL;go_wp2_with fail;go_roundw
     case rel=>exact⟨j + 1,_,u',by omega,by go_num,hol,HN,I2⟩
     case measure=>simp[intOf];omega
   ·have hje:j=k.len:=by omega
    have HE:Hid (out=res):=by
     show _=_;rw[← HA.out,hje,Mk.Fo.z4e];rfl
    have hji:¬ (j:Int) < k.len:=by omega
    clear HA hje;go_wp2_with fail
    first | go_end0 | (simp only [Exit.inBlock,Exit.then];refine bodyPost_ret (results_none rfl _ _ _) rfl ?_) | refine bodyPost_ret (results_none rfl _ _ _) rfl ?_
    exact⟨rfl,_,by rw[← HE.out];exact I.out⟩
 ·subst hnil
  subst hv1;have hal:=(Below.refl wx.heap.size wx).alloc (Lr) (.cells #[.string (st n),.slice aoa a.length capa,.string (st t),.slice ao 0 cap] 53);have I1:=Ld (h.below hal);have HE:Hid (([]:List Fd.En)=res):=HRES.out;clear hal h hvk HAT;unfold z05;go_enter func70,ntmps70;go_wp2_with fail
  go_loopw [11] (fun i wr=>i=.int .i64 0∧Hid (MpI w wr M base u [])) (fun _ _=>0)
  case atStart=>exact⟨rfl,I1⟩
  case round =>
   obtain⟨rfl,I⟩:=hrel;go_wp2_with fail
   first | go_end0 | (simp only [Exit.inBlock,Exit.then];refine bodyPost_ret (results_none rfl _ _ _) rfl ?_) | refine bodyPost_ret (results_none rfl _ _ _) rfl ?_
   exact⟨rfl,_,by rw[← HE.out];exact I.out⟩
theorem eg_item (args:Array Value) (w:World):(callFunc 71 args).run prog w=.ok (.enter 71 args) w:=Z7 func71 (by kernel_rfl) rfl _ _
theorem eg_entry (args:Array Value) (w:World):(callFunc 72 args).run prog w=.ok (.enter 72 args) w:=Z7 func72 (by kernel_rfl) rfl _ _
def z1b (base s:List UInt8) (w:World) (e:Ending) (w':World):Prop:=Below w.heap.size w w'∧∃ v,e=.returned (.tuple #[v,.int .i64 (Fd.X0 base s).2])∧z18 w' (Nw w w') v (Fd.X0 base s).1
theorem z1b.er {base s:List UInt8} {w w':World} {c:Int} (h:Fd.X0 base s=([],c)) (hb:Below w.heap.size w w'):z1b base s w (.returned (.tuple #[.slice none 0 0,.int .i64 c])) w':=by
 unfold z1b;rw[h];exact⟨hb,_,rfl,z18.nil _ _⟩
theorem z1b.ok {base s:List UInt8} {w w3 w':World} {M:Nat} {u:Value} {l:List Fd.En} (h:Fd.X0 base s=(l,0)) (hb:Below w.heap.size w w3) (hM:w.heap.size≤M) (hm:MpI w3 w' M base u l):z1b base s w (.returned (.tuple #[u,.int .i64 0])) w':=by
 unfold z1b;rw[h];have h3:=hb.size;refine⟨hb.trans (hm.ap.below hb.size (fun k hk e=>by have e:k=M:=e;omega)),u,rfl,?_⟩;obtain⟨ao,cap,h1,h2,h4⟩:=z19.of_own (K:=Nw w w') hm.ow (fun g hg=>⟨Nat.le_trans h3 (hm.ow.lt g hg).1,(hm.ow.lt g hg).2⟩);exact⟨ao,cap,h1,h2,h4⟩
theorem q3c (base s:List UInt8) (w:World) (hg:Gl w) :
  Calls prog 28 #[.string (st base),.string (st s)] w fun e w'=>z1b base s w e w':=by
 have hst:∀ l:List UInt8,(st l).toList=l:=fun l=>Lib.toList_data _
 have hmf:∀ (fn:Fn) (first cap:Array Value) (w:World),(Instr.makeFunc fn first cap).run prog w=.ok (.func fn first cap) w:=fun _ _ _ _=>rfl
 have HG:=Ld hg;have hlt:=hg.lt;have HF:Hid (Fd.X0 base s=if 3000 < base.length then ([],(2:Int)) else if (Fd.xmlM s).2 ≠ 0 then ([],(Fd.xmlM s).2) else if (Fd.xmlM s).1.name=Fd.tRss then (match Fd.q14 Fd.q03 (Fd.xmlM s).1.kids with | none=>([],(5:Int)) | some c=>(Fd.z7h base Fd.j7m Fd.q4n c.kids [],(0:Int))) else if (Fd.xmlM s).1.name=Fd.z3e then (Fd.z7h base Fd.j08 Fd.z9r (Fd.xmlM s).1.kids [],(0:Int)) else ([],(7:Int))):=by
  show _=_;unfold Fd.X0
  split
  ·rfl
  split
  ·rfl
  split
  ·cases Fd.q14 Fd.q03 (Fd.xmlM s).1.kids <;> rfl
  ·rfl
 have hz:(st base).size=base.length:=Z4 base
 by_cases hbl:3000 < base.length
 ·have HE:Hid (Fd.X0 base s=([],2)):=by show _=_;rw[HF.out,if_pos hbl]
  have h2:3000 < (st base).size:=by omega
  clear HF hbl hz hg;go_enter func28,ntmps28;go_wp2_with fail;go_ret2;exact z1b.er HE.out (Below.refl _ _)
 have h2:¬ 3000 < (st base).size:=by omega
 have hb3:base.length≤3000:=by omega
 rw[if_neg hbl] at HF;have HX:=Ld (q7l s w hg);have hxb:=Fd.j7y s;generalize Fd.xmlM s=x at HX HF hxb;clear hz hbl hg;go_enter func28,ntmps28;go_wp2_with fail;refine HX.out.mono ?_;rintro e w1 ⟨hb1,va,vk,rfl,hva,hvk⟩;obtain⟨aoa,capa,hva1,_⟩:=id hva;subst hva1;obtain⟨aok,capk,xsk,hvk1,_⟩:=id hvk;subst hvk1;have hal:=(Below.refl w1.heap.size w1).alloc (Lr) (.cells #[.string (st x.1.name),.slice aoa x.1.ats.length capa,.string (st []),.slice aok x.1.kids.len capk] 53);have hK1:∀ b,Nw w w1 b→b < w1.heap.size:=fun b q=>q.2
 have ND2:=Ld (show NdV (w1.alloc (.cells #[.string (st x.1.name),.slice aoa x.1.ats.length capa,.string (st []),.slice aok x.1.kids.len capk] 53)) (Nw w w1) (.slice aoa x.1.ats.length capa) (.slice aok x.1.kids.len capk) ⟨x.1.name,x.1.ats,[],x.1.kids⟩ from ⟨hva.below hK1 hal,hvk.below hK1 hal⟩);have B2:=Ld (hb1.trans (hal.mono hb1.size));have DB:=Ld (Blk.new w1 53 #[.string (st x.1.name),.slice aoa x.1.ats.length capa,.string (st []),.slice aok x.1.kids.len capk]);have hs12:=hal.size;clear hb1 hva hvk hal HX;unfold z05;go_upto_region 4 with fail;have hD1:∀ b,Nw w w1 b→b < w1.heap.size:=hK1;generalize hw2:w1.alloc (.cells #[.string (st x.1.name),.slice aoa x.1.ats.length capa,.string (st []),.slice aok x.1.kids.len capk] 53)=w2 at ND2 B2 DB hs12 ⊢;clear hw2 hK1;obtain⟨x,c⟩:=x
 by_cases hc:c=0
 case neg =>
  have HE:Hid (Fd.X0 base s=([],c)):=by show _=_;rw[HF.out,if_pos hc]
  have hcb:(c == 0)=false:=beq_eq_false_iff_ne.2 hc;clear HF hc;go_wp2_with fail;go_ret2;exact z1b.er HE.out B2.out
 subst hc;have HF2:Hid (Fd.X0 base s=if x.name=Fd.tRss then (match Fd.q14 Fd.q03 x.kids with | none=>([],(5:Int)) | some c=>(Fd.z7h base Fd.j7m Fd.q4n c.kids [],(0:Int))) else if x.name=Fd.z3e then (Fd.z7h base Fd.j08 Fd.z9r x.kids [],(0:Int)) else ([],(7:Int))):=by
  show _=_;rw[HF.out,if_neg (fun q=>q rfl)]
 have hxb2:x.kids.bulk≤15000:=by have:Mk.Fo.bulk x.kids + Mk.Fo.atB x.ats≤15000:=hxb;omega
 clear HF hxb;have hal3:=(Below.refl w2.heap.size w2).alloc (Lr) (.cells #[.string (st base),.slice none 0 0] 118);have I3:Hid (MpI (w2.alloc (.cells #[.string (st base),.slice none 0 0] 118)) (w2.alloc (.cells #[.string (st base),.slice none 0 0] 118)) w2.heap.size base (.slice none 0 0) []):=⟨by simp,Blk.new w2 _ _,Ap.refl _ _,World.ownsRow_nil _ _ _ _⟩;have hK2:∀ b,Nw w w1 b→b < w2.heap.size:=fun b q=>Nat.lt_of_lt_of_le (hD1 b q) hs12
 have ND3:Hid (NdV (w2.alloc (.cells #[.string (st base),.slice none 0 0] 118)) (Nw w w1) (.slice aoa x.ats.length capa) (.slice aok x.kids.len capk) ⟨x.name,x.ats,[],x.kids⟩):=⟨ND2.out.1.below hK2 hal3,ND2.out.2.below hK2 hal3⟩;have B3:=Ld (B2.out.trans (hal3.mono B2.out.size));have DB3:=Ld (Blk.alloc DB.out (.cells #[.string (st base),.slice none 0 0] 118));have hMw:w.heap.size≤w2.heap.size:=B2.out.size;have HG3:=Ld (HG.out.below B3.out hlt);have hM:4 < w2.heap.size:=by omega
 have hK3:∀ b,Nw w w1 b→b < (w2.alloc (.cells #[.string (st base),.slice none 0 0] 118)).heap.size∧b ≠ w2.heap.size:=fun b q=>⟨by have:=hK2 b q;simp;omega,by have:=hK2 b q;omega⟩
 clear hal3 ND2 DB B2;go_upto_region 7 with fail;generalize w2.alloc (.cells #[.string (st base),.slice none 0 0] 118)=w3 at I3 ND3 B3 DB3 HG3 hK3 ⊢;generalize w2.heap.size=M at I3 hMw hM hK3 ⊢;have HK3:=Ld hK3;have d0:w3.cell? ⟨w1.heap.size,0,none⟩=some (.string (st x.name)):=Blk.cell DB3.out 0;have d1:w3.cell? ⟨w1.heap.size,1,none⟩=some (.slice aoa x.ats.length capa):=Blk.cell DB3.out 1;have d2:w3.cell? ⟨w1.heap.size,2,none⟩=some (.string (st [])):=Blk.cell DB3.out 2;have d3:w3.cell? ⟨w1.heap.size,3,none⟩=some (.slice aok x.kids.len capk):=Blk.cell DB3.out 3;clear hK2 hK3 hD1 DB3
 by_cases hrss:x.name=Fd.tRss
 ·as_aux_lemma =>
  rw[if_pos hrss] at HF2;have hnb:(x.name == [114,115,115])=true:=by rw[hrss];rfl
  have HCH:=Ld (q09 69 q4e x.name Fd.q03 x.ats [] (.slice aoa x.ats.length capa) (.slice aok x.kids.len capk) x.kids (fun _=>true) (Nw w w1) w3 ⟨_,_,rfl⟩ ND3.out.2 (fun b q=>(HK3.out b q).1) (by omega) (z8z x.kids (Nw w w1) w3));have hcb:=z3o Fd.q03 (fun _=>true) x.kids;have HO:Hid (Fd.q14 Fd.q03 x.kids=Fd.z2z Fd.q03 (fun _=>true) x.kids):=rfl;have HR:Hid (childR Fd.q03 (fun _=>true) x.kids=(Fd.z2z Fd.q03 (fun _=>true) x.kids).getD Fd.Nd.none):=rfl;generalize childR Fd.q03 (fun _=>true) x.kids=cx at HCH hcb HR;generalize Fd.z2z Fd.q03 (fun _=>true) x.kids=co at HCH HO HR;rw[HO.out] at HF2;unfold z05 at HCH;clear hrss HO ND3;go_wp2_with fail;refine HCH.out.mono ?_;rintro e w4 ⟨hb4,cva,cvk,rfl,hnd⟩;obtain⟨caoa,ccapa,hcva,_⟩:=id hnd.1;subst hcva;obtain⟨caok,ccapk,cxs,hcvk,_⟩:=id hnd.2;subst hcvk;have hal4:=(Below.refl w4.heap.size w4).alloc (Lr) (.cells #[.string (st cx.name),.slice caoa cx.ats.length ccapa,.string (st cx.text),.slice caok cx.kids.len ccapk] 53);have I5:=Ld ((I3.out.below hb4).below hal4);have B5:=Ld (B3.out.trans ((hb4.trans (hal4.mono hb4.size)).mono B3.out.size));have CB:=Ld (Blk.new w4 53 #[.string (st cx.name),.slice caoa cx.ats.length ccapa,.string (st cx.text),.slice caok cx.kids.len ccapk]);have HK4:Hid (∀ b,Nw w w1 b→b < w4.heap.size):=fun b q=>Nat.lt_of_lt_of_le (HK3.out b q).1 hb4.size
  have ND5:Hid (NdV (w4.alloc (.cells #[.string (st cx.name),.slice caoa cx.ats.length ccapa,.string (st cx.text),.slice caok cx.kids.len ccapk] 53)) (Nw w w1) (.slice caoa cx.ats.length ccapa) (.slice caok cx.kids.len ccapk) cx):=⟨hnd.1.below HK4.out hal4,hnd.2.below HK4.out hal4⟩;have B34:=Ld (hb4.trans (hal4.mono hb4.size));clear hb4 hnd hal4 HCH d0 d1 d2 d3;go_upto_region 11 with fail;generalize w4.alloc (.cells #[.string (st cx.name),.slice caoa cx.ats.length ccapa,.string (st cx.text),.slice caok cx.kids.len ccapk] 53)=w5 at I5 B5 CB ND5 B34 ⊢
  cases co with
  | none =>
   have HE:Hid (Fd.X0 base s=([],5)):=HF2;have hs0:(none:Option Fd.Nd).isSome=false:=rfl;clear HF2;go_wp2_with fail;go_ret2;exact z1b.er HE.out B5.out
  | some y =>
   have hcy:cx=y:=HR.out;subst hcy;have HE:Hid (Fd.X0 base s=(Fd.z7h base Fd.j7m Fd.q4n cx.kids [],0)):=HF2;have hs0:(some cx).isSome=true:=rfl;have e0:w5.cell? ⟨w4.heap.size,0,none⟩=some (.string (st cx.name)):=Blk.cell CB.out 0;have e1:w5.cell? ⟨w4.heap.size,1,none⟩=some (.slice caoa cx.ats.length ccapa):=Blk.cell CB.out 1;have e2:w5.cell? ⟨w4.heap.size,2,none⟩=some (.string (st cx.text)):=Blk.cell CB.out 2;have e3:w5.cell? ⟨w4.heap.size,3,none⟩=some (.slice caok cx.kids.len ccapk):=Blk.cell CB.out 3;have I55:Hid (MpI w5 w5 M base (.slice none 0 0) []):=⟨I5.out.mb.lt,I5.out.mb,Ap.refl _ _,World.ownsRow_nil _ _ _ _⟩;have HK5:Hid (∀ b,Nw w w1 b→b < w5.heap.size∧b ≠ M):=fun b q=>⟨Nat.lt_of_lt_of_le (HK3.out b q).1 B34.out.size,(HK3.out b q).2⟩
   have HMC:Hid (MapsC 71 Fd.q4n w5 M base (Nw w w1)):=fun wx u out n a t k va vk hm hol hnd hl=>mp_item (HG3.out.below B34.out (by have:=HG3.out.lt;omega)) hM hm hb3 hol n t a k va vk (Nw w w1) hnd HK5.out hl
   have HEA:=Ld (j5r 71 eg_item Fd.q4n (Nw w w1) HMC.out I55.out cx.name Fd.j7m cx.text cx.ats cx.kids (.slice caoa cx.ats.length ccapa) (.slice caok cx.kids.len ccapk) ⟨_,_,rfl⟩ ND5.out.2 HK5.out (by omega));unfold z05 at HEA;clear HF2 HR CB I5 HMC ND5 I3 hcb;go_wp2_with fail;refine HEA.out.mono ?_;rintro e w6 ⟨rfl,u6,hm6⟩;have I6:=Ld hm6;clear hm6 HEA I55 e0 e1 e2 e3;have m1:w6.cell? ⟨M,1,none⟩=some u6:=Blk.cell I6.out.mb 1;go_wp2_with fail;go_ret2;exact z1b.ok HE.out B5.out hMw I6.out
 rw[if_neg hrss] at HF2;have hnb:(x.name == [114,115,115])=false:=beq_eq_false_iff_ne.2 hrss;clear hrss
 by_cases hfeed:x.name=Fd.z3e
 ·as_aux_lemma =>
  rw[if_pos hfeed] at HF2;have hnf:(x.name == [102,101,101,100])=true:=by rw[hfeed];rfl
  have HMC:Hid (MapsC 72 Fd.z9r w3 M base (Nw w w1)):=fun wx u out n a t k va vk hm hol hnd hl=>mp_entry HG3.out hM hm hb3 hol n t a k va vk (Nw w w1) hnd HK3.out hl
  have HEA:=Ld (j5r 72 eg_entry Fd.z9r (Nw w w1) HMC.out I3.out x.name Fd.j08 [] x.ats x.kids (.slice aoa x.ats.length capa) (.slice aok x.kids.len capk) ⟨_,_,rfl⟩ ND3.out.2 HK3.out (by omega));unfold z05 at HEA;clear hfeed HMC ND3 I3;go_wp2_with fail;refine HEA.out.mono ?_;rintro e w6 ⟨rfl,u6,hm6⟩;have I6:=Ld hm6;clear hm6 HEA d0 d1 d2 d3;have m1:w6.cell? ⟨M,1,none⟩=some u6:=Blk.cell I6.out.mb 1;go_wp2_with fail;go_ret2;exact z1b.ok HF2.out B3.out hMw I6.out
 ·rw[if_neg hfeed] at HF2
  have hnf:(x.name == [102,101,101,100])=false:=beq_eq_false_iff_ne.2 hfeed;clear hfeed;go_wp2_with fail;go_ret2;exact z1b.er HF2.out B3.out
theorem z18.get {w:World} {K:Nat→Prop} {v:Value} {l:List Fd.En} (h:z18 w K v l):∃ ao cap,v=.slice ao l.length cap∧l.length≤maxLen∧∀ k (hk:k < l.length),∃ g o,ao=some ⟨g,o,none⟩∧K g∧w.cell? ⟨g,o + k * 5,none⟩=some (.string (st l[k].id))∧w.cell? ⟨g,o + k * 5 + 1,none⟩=some (.string (st l[k].ti))∧w.cell? ⟨g,o + k * 5 + 2,none⟩=some (.string (st l[k].li))∧w.cell? ⟨g,o + k * 5 + 3,none⟩=some (.int .i64 l[k].at_)∧w.cell? ⟨g,o + k * 5 + 4,none⟩=some (.string (st l[k].ht)):=by
 have hm:=h;obtain⟨g,o,cap,hK,hv,hc⟩:=h.at_
 obtain⟨ao',cap',h1,_,_,h4⟩:=hm;refine⟨ao',cap',h1,h4,fun k hk=>?_⟩
 rcases hv with hv | ⟨ao2,hv,h0⟩
 ·rw[h1] at hv
  injection hv with e1 _ _;exact⟨g,o,e1,hK (by intro e;subst e;simp at hk),hc k hk⟩
 ·subst h0;simp at hk
theorem Tryz.guardEnt:prog.eqGuardType prog.depth 44=false:=by kernel_rfl
theorem q8v (a b:Fd.En) (w:World):(binOp .neq 44 (.agg #[.string (st a.id),.string (st a.ti),.string (st a.li),.int .i64 a.at_,.string (st a.ht)]) (.agg #[.string (st b.id),.string (st b.ti),.string (st b.li),.int .i64 b.at_,.string (st b.ht)])).run prog w=.ok (.bool (!decide (a=b))) w:=by
 have hst:∀ l,(st l).toList=l:=fun l=>Lib.toList_data _
 rw[run_neq_struct];simp[run_equalIn_struct,go_sem];simp only [hst];obtain⟨a1,a2,a3,a4,a5⟩:=a;obtain⟨b1,b2,b3,b4,b5⟩:=b;have e:decide ((⟨a1,a2,a3,a4,a5⟩:Fd.En)=⟨b1,b2,b3,b4,b5⟩)=decide (a1=b1∧a2=b2∧a3=b3∧a4=b4∧a5=b5):=by
  rw[Bool.eq_iff_iff];simp
 rw[e]
 by_cases h1:a1=b1
 ·by_cases h2:a2=b2
  ·by_cases h3:a3=b3
   ·by_cases h4:a4=b4
    ·by_cases h5:a5=b5
     ·simp[h1,h2,h3,h4,h5]
     ·simp[h1,h2,h3,h4,h5]
    ·simp[h1,h2,h3,h4]
   ·simp[h1,h2,h3]
  ·simp[h1,h2]
 ·simp[h1]
theorem q28 (l m:List Fd.En) (v u:Value) (K K2:Nat→Prop) (w:World) (hv:z18 w K v l) (hu:z18 w K2 u m) (hK:∀ b,K b→b < w.heap.size) (hK2:∀ b,K2 b→b < w.heap.size) (hl:l.length≤33554432) :
  Calls prog 29 #[v,u] w fun e w'=>e=.returned (.bool (decide (l=m)))∧Below w.heap.size w w':=by
 obtain⟨ao,cap,hv1,hvm,hvc⟩:=hv.get;obtain⟨au,cau,hu1,hum,huc⟩:=hu.get;subst hv1;subst hu1;have HV:=Ld hvc;have HU:=Ld huc;have HK:=Ld hK;have HK2:=Ld hK2;clear hvc huc hv hu hvm hum hK hK2
 by_cases hlen:l.length=m.length
 ·have HLE:=Ld hlen
  have hm:m.length=l.length:=hlen.symm;rw[hm];clear hlen hm;go_enter func29,ntmps29;go_wp2_with fail
  go_loopw [5] (fun i wr=>∃ k:Nat,k≤l.length∧i=.int .i64 k∧Hid (l.take k=m.take k)∧Hid (Below w.heap.size w wr)) (fun i _=>l.length - (intOf i).toNat)
  case atStart=>exact⟨0,Nat.zero_le _,rfl,rfl,Below.refl _ _⟩
  case round =>
   obtain⟨k,hk,rfl,HT,BL⟩:=hrel
   by_cases hlt:k < l.length
   ·have hlt2:k < m.length:=by have:=HLE.out;omega
    obtain⟨g,o,rfl,hKg,c0,c1,c2,c3,c4⟩:=HV.out k hlt;obtain⟨g2,o2,rfl,hKg2,d0,d1,d2,d3,d4⟩:=HU.out k hlt2;rw[← BL.out.cell (p:=⟨g,_,none⟩) (HK.out g hKg)] at c0 c1 c2 c3 c4;rw[← BL.out.cell (p:=⟨g2,_,none⟩) (HK2.out g2 hKg2)] at d0 d1 d2 d3 d4;have hne:=fun W=>q8v l[k] m[k] W
    have hgd:=fun X Y W=>run_eqGuard_agg (P:=prog) W .neq 44 X Y #[.string (st l[k].id),.string (st l[k].ti),.string (st l[k].li),.int .i64 l[k].at_,.string (st l[k].ht)] #[.string (st m[k].id),.string (st m[k].ti),.string (st m[k].li),.int .i64 m[k].at_,.string (st m[k].ht)] Tryz.guardEnt
    have HS:Hid (l.take (k + 1)=m.take (k + 1)↔l[k]=m[k]):=take_same l m k hlt hlt2 HT.out;have HS2:Hid (l[k] ≠ m[k]→l ≠ m):=fun h e=>h (by subst e;rfl)
    obtain⟨x,hx⟩:∃ x,l[k]=x:=⟨_,rfl⟩;obtain⟨y,hy⟩:∃ y,m[k]=y:=⟨_,rfl⟩;rw[hx] at c0 c1 c2 c3 c4;rw[hy] at d0 d1 d2 d3 d4;rw[hx,hy] at hne hgd HS HS2;clear hx hy
    by_cases hxy:x=y
    ·have hdx:decide (x=y)=true:=decide_eq_true hxy
     rw[hdx] at hne;have HT2:Hid (l.take (k + 1)=m.take (k + 1)):=HS.out.2 hxy;clear hxy hdx HS HS2 HT;go_upto_region 6 with fail
     go_region
     all_goals
      go_wp2_with fail;go_roundw
      case rel=>exact⟨k + 1,by omega,by go_num,HT2.out,BL.out.drew⟩
      case measure=>simp[intOf];omega
    ·have hdx:decide (x=y)=false:=decide_eq_false hxy
     rw[hdx] at hne;have HN:Hid (decide (l=m)=false):=decide_eq_false (HS2.out hxy);clear hxy hdx HS HS2 HT;go_upto_region 6 with fail
     go_region
     all_goals
      go_wp2_with fail;go_ret;exact⟨Z8 (by rw[HN.out]),BL.out.drew⟩
   ·have HN:Hid (decide (l=m)=true):=by
     show _=_;have h:=HT.out;have h2:=HLE.out;rw[List.take_of_length_le (by omega),List.take_of_length_le (by omega)] at h;exact decide_eq_true h
    clear HT HLE;go_wp2_with fail;go_ret;exact⟨Z8 (by rw[HN.out]),BL.out⟩
 ·have HN:Hid (decide (l=m)=false):=decide_eq_false (fun e=>hlen (by rw[e]))
  have hln:¬ (l.length:Int)=m.length:=by omega
  clear hlen;go_enter func29,ntmps29;go_wp2_with fail;go_ret;exact⟨Z8 (by rw[HN.out]),Below.refl _ _⟩
def feE1:Fd.En:=⟨[49],[65,32,38,97,109,112,59,32,66],[104,116,116,112,58,47,47,104,47,120],10,[60,98,62,99,60,47,98,62]⟩
def feE2:Fd.En:=⟨[104,116,116,112,58,47,47,104,47,121],[],[104,116,116,112,58,47,47,104,47,121],0,[]⟩
def feE3:Fd.En:=⟨[105],[],[104,116,116,112,58,47,47,116],1,[115]⟩
theorem law_rss (w:World):Calls prog 38 #[] w fun e w'=>e=.returned (.string (st Fd.rssB))∧w'=w:=by
 go_enter func38,ntmps38;go_wp2_with fail;go_ret;exact⟨rfl,rfl⟩
theorem z18.of_blk {w:World} {g cap:Nat} {K:Nat→Prop} {l:List Fd.En} (hb:Blk w g 44 (y9 l).toArray) (hK:K g) (hl:l.length≤cap) (hm:l.length≤maxLen):z18 w K (.slice (some ⟨g,0,none⟩) l.length cap) l :=
 ⟨_,cap,rfl,.inr ⟨g,0,rfl,hK,fun i v q=>by rw[Nat.zero_add];exact(Blk.cell hb i).trans (by simpa using q)⟩,hl,hm⟩
theorem q4s (w:World) (hg:Gl w) :
  Calls prog 20 #[] w fun e w'=>e=.returned (.bool true)∧Below w.heap.size w w':=by
 have hlt:=hg.lt;have HG:=Ld hg;have h1:=q3c Fd.hB Fd.rssB w hg;unfold z1b at h1;rw[show Fd.X0 Fd.hB Fd.rssB=([feE1,feE2],0) from Fd.j3c] at h1;have H1:=Ld h1;have H2:Hid (∀ W,Gl W→Calls prog 28 #[.string (st []),.string (st Fd.j3a)] W fun e w'=>z1b [] Fd.j3a W e w'):=fun W hW=>q3c [] Fd.j3a W hW
 unfold z1b at H2;rw[show Fd.X0 [] Fd.j3a=([feE3],0) from Fd.j1a] at H2;have H3:Hid (∀ W,Gl W→Calls prog 28 #[.string (st []),.string (st [60,120,47,62])] W fun e w'=>z1b [] [60,120,47,62] W e w'):=fun W hW=>q3c [] [60,120,47,62] W hW
 unfold z1b at H3;rw[Fd.j1c] at H3;clear h1 hg;go_enter func20,ntmps20;go_wp2_with fail;refine(law_rss w).mono ?_;rintro e wx ⟨rfl,hwx⟩;subst wx;go_wp2_with fail;refine H1.out.mono ?_;rintro e w1 ⟨hb1,v1,rfl,hv1⟩;have B1:=Ld hb1;have HV1:=Ld hv1;obtain⟨ao1,cap1,hs1,_⟩:=id hv1;subst hs1;clear hb1 hv1 H1;go_wp2_with fail;refine(H2.out _ (HG.out.below B1.out hlt)).mono ?_;rintro e w2 ⟨hb2,v2,rfl,hv2⟩;have B2:=Ld (B1.out.trans (hb2.mono B1.out.size));have HV12:Hid (z18 w2 (fun b=>b < w2.heap.size) _ _):=HV1.out.frame (fun b q=>⟨Nat.lt_of_lt_of_le q.2 hb2.size,hb2.block b q.2⟩);have HV2:Hid (z18 w2 (fun b=>b < w2.heap.size) v2 _):=hv2.frame (fun b q=>⟨q.2,rfl⟩);obtain⟨ao2,cap2,hs2,_⟩:=id hv2;subst hs2;clear hb2 hv2 H2 HV1 B1;go_wp2_with fail;refine(H3.out _ (HG.out.below B2.out hlt)).mono ?_;rintro e w3 ⟨hb3,v3,rfl,hv3⟩;have B3:=Ld (B2.out.trans (hb3.mono B2.out.size));have HV13:Hid (z18 w3 (fun b=>b < w3.heap.size) _ _):=HV12.out.frame (fun b q=>⟨Nat.lt_of_lt_of_le q hb3.size,hb3.block b q⟩);have HV23:Hid (z18 w3 (fun b=>b < w3.heap.size) _ _):=HV2.out.frame (fun b q=>⟨Nat.lt_of_lt_of_le q hb3.size,hb3.block b q⟩);obtain⟨ao3,cap3,hs3,_⟩:=id hv3;subst hs3;clear hb3 hv3 H3 HV12 HV2 B2;have same:∀ (l:List Fd.En) (v:Value) (g:Nat) (W:World),z18 W (fun b=>b < W.heap.size) v l→Blk W g 44 (y9 l).toArray→l.length≤12→Calls prog 29 #[v,.slice (some ⟨g,0,none⟩) l.length l.length] W fun e w'=>e=.returned (.bool true)∧Below W.heap.size W w':=by
  intro l v g W hv hb hl;have:=q28 l l v (.slice (some ⟨g,0,none⟩) l.length l.length) _ (fun b=>b < W.heap.size) W hv (z18.of_blk hb hb.lt (Lr) (by unfold maxLen;omega)) (fun b q=>q) (fun b q=>q) (by omega)
  rwa [decide_eq_true (rfl:l=l)] at this
 have hal4:=(Below.refl w3.heap.size w3).alloc (Lr) (.cells (y9 [feE1,feE2]).toArray 44);have HS1:=Ld (same [feE1,feE2] _ w3.heap.size _ (HV13.out.frame (fun b q=>⟨Nat.lt_of_lt_of_le q hal4.size,hal4.block b q⟩)) (Blk.new w3 44 (y9 [feE1,feE2]).toArray) (by decide));have B4:=Ld (B3.out.trans (hal4.mono B3.out.size));have HB34:=Ld hal4;have HSAME:=Ld same;clear hal4 same;go_wp2_with fail;refine HS1.out.mono ?_;rintro e w5 ⟨rfl,hb5⟩;have B35:=Ld (HB34.out.trans (hb5.mono HB34.out.size));have B5:=Ld (B4.out.trans (hb5.mono B4.out.size));clear hb5 HS1 B4 HB34;have HV15:Hid (z18 w5 (fun b=>b < w5.heap.size) (.slice ao1 2 cap1) [feE1,feE2]):=HV13.out.frame (fun b q=>⟨Nat.lt_of_lt_of_le q B35.out.size,B35.out.block b q⟩);have HV25:Hid (z18 w5 (fun b=>b < w5.heap.size) (.slice ao2 1 cap2) [feE3]):=HV23.out.frame (fun b q=>⟨Nat.lt_of_lt_of_le q B35.out.size,B35.out.block b q⟩);have hal6:=(Below.refl w5.heap.size w5).alloc (Lr) (.cells (y9 [feE3]).toArray 44);have HS2:=Ld (HSAME.out [feE3] _ w5.heap.size _ (HV25.out.frame (fun b q=>⟨Nat.lt_of_lt_of_le q hal6.size,hal6.block b q⟩)) (Blk.new w5 44 (y9 [feE3]).toArray) (by decide));have HB56:=Ld hal6;clear hal6 HSAME HV13 HV23 B35 HV25;go_wp2_with fail;refine HS2.out.mono ?_;rintro e w7 ⟨rfl,hb7⟩;have B57:=Ld (HB56.out.trans (hb7.mono HB56.out.size));have B7:=Ld (B5.out.trans (B57.out.mono B5.out.size));have HV17:z18 w7 (fun b=>b < w7.heap.size) (.slice ao1 2 cap1) [feE1,feE2]:=HV15.out.frame (fun b q=>⟨Nat.lt_of_lt_of_le q B57.out.size,B57.out.block b q⟩);clear hb7 HS2 HB56 HV15 B57 B5;obtain⟨ao',cap',hv',hm',hc'⟩:=HV17.get;injection hv' with e1 e2 e3;subst e1;obtain⟨g,o,rfl,_,c0,c1,c2,c3,c4⟩:=hc' 0 (by decide);rw[Nat.zero_mul,Nat.add_zero] at c0 c1 c2 c3 c4;have HCK:=Ld (q4j feE1 w7 (HG.out.below B7.out hlt));rw[show Fd.z03 feE1=0 from Fd.q6a] at HCK;have c0:w7.cell? ⟨g,o,none⟩=some (.string (st [49])):=c0;have c1:w7.cell? ⟨g,o + 1,none⟩=some (.string (st [65,32,38,97,109,112,59,32,66])):=c1;have c2:w7.cell? ⟨g,o + 2,none⟩=some (.string (st [104,116,116,112,58,47,47,104,47,120])):=c2;have c3:w7.cell? ⟨g,o + 3,none⟩=some (.int .i64 10):=c3;have c4:w7.cell? ⟨g,o + 4,none⟩=some (.string (st [60,98,62,99,60,47,98,62])):=c4;clear HV17 hc' hm';go_wp2_with fail;refine HCK.out.mono ?_;rintro e w8 ⟨rfl,hb8⟩;have B8:=Ld (B7.out.trans (hb8.mono B7.out.size));clear hb8 HCK B7;go_wp2_with fail;go_ret;exact⟨rfl,B8.out⟩
end Go.Proofs.YtjonkbdldebkiaaGreatDoor
