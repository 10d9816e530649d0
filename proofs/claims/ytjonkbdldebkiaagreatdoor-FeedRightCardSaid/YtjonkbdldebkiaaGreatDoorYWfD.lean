/- Contract of the feed mapper's put: an entry is put, if it is right. Condition: a base of at most 3000 bytes. -/
import Derived.Test.YtjonkbdldebkiaaGreatDoorYWfC
import Derived.Test.YtjonkbdldebkiaaGreatDoorYWeC
import Derived.Test.YtjonkbdldebkiaaGreatDoorYMkBegunD
import Derived.StillTailTactics
import Derived.Deep.RegionLaw
import Derived.Deep.RegionHeld3
import Derived.Test.YtjonkbdldebkiaaGreatDoorYMkFlat1
import Derived.Test.YtjonkbdldebkiaaGreatDoorYWsG
set_option linter.unusedVariables false
set_option linter.unusedSimpArgs false
set_option maxHeartbeats 60000000
set_option maxRecDepth 100000
namespace Go.Proofs.YtjonkbdldebkiaaGreatDoor
open Go.RowKit
structure MpI (w wx:World) (M:Nat) (base:List UInt8) (u:Value) (out:List Fd.En):Prop where
 ml:M < w.heap.size
 mb:Blk wx M 118 #[.string (st base),u]
 ap:Ap (fun b=>b=M) w wx
 ow:wx.ownsRow w.heap.size 44 5 u out.length (Y7 out)
structure PtI (w w0 wx:World) (M X:Nat) (base:List UInt8) (u:Value) (out:List Fd.En) (id ti li:List UInt8) (at_:Int) (ht:List UInt8):Prop where
 m:MpI w wx M base u out
 ax:Ap (fun b=>b=M∨u.ownBlock=some b) w0 wx
 xn:w0.heap.size≤X
 xl:w.heap.size≤X
 xo:u.ownBlock ≠ some X
 xb:Blk wx X 44 #[.string (st id),.string (st ti),.string (st li),.int .i64 at_,.string (st ht)]
section
variable {w w0 wx wy : World} {M X : Nat} {base : List UInt8} {u : Value} {out : List Fd.En} {id ti li ht : List UInt8} {at_ : Int}
theorem MpI.not (h:MpI w wx M base u out):∀ g,w.heap.size≤g→¬ (fun b=>b=M) g:=by
 intro g hg e;have e:g=M:=e;have:=h.ml;omega
theorem MpI.below (h:MpI w wx M base u out) (hb:Below wx.heap.size wx wy):MpI w wy M base u out :=
 ⟨h.ml,(hb.block M h.mb.lt).trans h.mb,h.ap.trans (Ap.of_below hb),z2d h.ow (Ap.of_below (S:=fun b=>b=M) hb) h.not⟩
theorem MpI.drew (h:MpI w wx M base u out):MpI w wx.drew M base u out:=h.below ((Below.refl _ wx).drew)
theorem MpI.gl (h:MpI w wx M base u out) (hg:Gl w) (hM:4 < M):Gl wx:=hg.ap h.ap (by intro e;have e:0=M:=e;omega) (by intro e;have e:4=M:=e;omega)
theorem PtI.begin_ (h:MpI w wx M base u out) (id ti li:List UInt8) (at_:Int) (ht:List UInt8):PtI w wx (wx.alloc (.cells #[.string (st id),.string (st ti),.string (st li),.int .i64 at_,.string (st ht)] 44)) M wx.heap.size base u out id ti li at_ ht :=
 ⟨h.below ((Below.refl _ wx).alloc (Nat.le_refl _) _),(Ap.refl _ wx).alloc _,Nat.le_refl _,h.ap.size,fun e=>absurd (h.ow.lt _ e).2 (Nat.lt_irrefl _),Blk.new wx _ _⟩
theorem PtI.ne (h:PtI w w0 wx M X base u out id ti li at_ ht):M ≠ X:=by
 have:=h.m.ml;have:=h.xl;omega
theorem PtI.below (h:PtI w w0 wx M X base u out id ti li at_ ht) (hb:Below wx.heap.size wx wy):PtI w w0 wy M X base u out id ti li at_ ht:=⟨h.m.below hb,h.ax.trans (Ap.of_below hb),h.xn,h.xl,h.xo,(hb.block X h.xb.lt).trans h.xb⟩
theorem PtI.drew (h:PtI w w0 wx M X base u out id ti li at_ ht):PtI w w0 wx.drew M X base u out id ti li at_ ht:=h.below ((Below.refl _ wx).drew)
theorem MpI.far (h:MpI w wx M base u out) (hX:w.heap.size≤X) (hX2:u.ownBlock ≠ some X) (i:Nat) (v:Value):MpI w (wx.setCell ⟨X,i,none⟩ v) M base u out :=
 ⟨h.ml,Blk.far h.mb (p:=⟨X,i,none⟩) (fun e=>by have e:M=X:=e;have:=h.ml;omega) _,h.ap.setNew (p:=⟨X,i,none⟩) hX _,ownsRow_setCell_other h.ow (a:=⟨X,i,none⟩) hX2 _⟩
theorem PtI.setLi (h:PtI w w0 wx M X base u out id ti li at_ ht) (v:List UInt8):PtI w w0 (wx.setCell ⟨X,2,none⟩ (.string (st v))) M X base u out id ti v at_ ht:=⟨h.m.far h.xl h.xo 2 _,h.ax.setNew (p:=⟨X,2,none⟩) h.xn _,h.xn,h.xl,h.xo,Blk.set_ h.xb 2 _⟩
theorem PtI.setId (h:PtI w w0 wx M X base u out id ti li at_ ht) (v:List UInt8):PtI w w0 (wx.setCell ⟨X,0,none⟩ (.string (st v))) M X base u out v ti li at_ ht:=⟨h.m.far h.xl h.xo 0 _,h.ax.setNew (p:=⟨X,0,none⟩) h.xn _,h.xn,h.xl,h.xo,Blk.set_ h.xb 0 _⟩
theorem PtI.setHt (h:PtI w w0 wx M X base u out id ti li at_ ht) (v:List UInt8):PtI w w0 (wx.setCell ⟨X,4,none⟩ (.string (st v))) M X base u out id ti li at_ v:=⟨h.m.far h.xl h.xo 4 _,h.ax.setNew (p:=⟨X,4,none⟩) h.xn _,h.xn,h.xl,h.xo,Blk.set_ h.xb 4 _⟩
theorem MpI.pushed (h:MpI w wx M base u out) {x:Fd.En} {v':Value} {wz:World}
  (hown:wz.ownsRow w.heap.size 44 5 v' (out.length + 1) (Y7 out++enV x)) (hgr:(wx.alloc (.cells (enV x).toArray 44)).grownBy wz u.ownBlock):MpI w (wz.setCell ⟨M,1,none⟩ v') M base v' (out++[x]):=by
 have hm:=h.ml;have hS:∀ k,u.ownBlock=some k→w.heap.size≤k:=fun k e=>(h.ow.lt k e).1
 have A1:=h.ap.alloc (.cells (enV x).toArray 44);have A2:Ap (fun b=>b=M) w wz:=A1.grown hgr (fun k hk e=>absurd hk (by have:=hS k e;omega));have B2:Blk wz M 118 #[.string (st base),u]:=(hgr.block M (by have:=h.mb.lt;simp;omega) (fun e=>by have:=hS M e.symm;omega)).trans (Blk.alloc h.mb _);refine⟨hm,Blk.set_ B2 1 _,A2.setCell (p:=⟨M,1,none⟩) rfl _,?_⟩;rw[List.length_append,show Y7 (out++[x])=Y7 out++enV x by simp[Y7]];exact ownsRow_setCell_other hown (a:=⟨M,1,none⟩) (fun e=>by have:=(hown.lt M e).1;omega) _
end
theorem Tryz.infoEnt:(Tryz.prog.info? 44).map (fun i=>(i.zero,i.size,i.bytes))=some (some (.agg #[.string ⟨#[]⟩,.string ⟨#[]⟩,.string ⟨#[]⟩,.int .i64 0,.string ⟨#[]⟩]),5,72):=by kernel_rfl
theorem eg_put (args:Array Value) (w:World):(callFunc 177 args).run Tryz.prog w=.ok (.enter 177 args) w:=Z4 Tryz.func177 (by kernel_rfl) rfl _ _
theorem asks_put (X:Nat) (id:List UInt8) (l:List Fd.En) (w:World) (hX:X < w.heap.size) (hc:w.cell? ⟨X,0,none⟩=some (.string (st id))):AsksE 177 #[.pointer (some ⟨X,0,none⟩)] (fun z=>z.id == id) l w:=by
 intro w1 hb z _;have c0:w1.cell? ⟨X,0,none⟩=some (.string (st id)):=(hb.cell (p:=⟨X,0,none⟩) hX).trans hc;have hX1:X < w1.heap.size:=Nat.lt_of_lt_of_le hX hb.size;unfold enAg;go_enter Tryz.func177,Tryz.ntmps177;go_wp2_with fail;go_ret;exact⟨Z7 (by rw[show (st z.id).toList=z.id from Lib.toList_data _,show (st id).toList=id from Lib.toList_data _]),(Below.refl _ w1).alloc (Nat.le_refl _) _⟩
theorem mp_put {w wx:World} {M:Nat} {base:List UInt8} {u:Value} {out:List Fd.En} (x:Fd.En) (hg:Gl w) (hM:4 < M) (h:MpI w wx M base u out) (hb:base.length≤3000) (hx:x.li.length≤1000000) (hol:out.length≤12) :
  Calls Tryz.prog 119 #[.pointer (some ⟨M,0,none⟩),enAg x] wx fun e w'=>e=.returned (.tuple #[])∧(∃ u',MpI w w' M base u' (Fd.putM base out x))∧Ap (fun b=>b=M∨u.ownBlock=some b) wx w':=by
 have hst:∀ l:List UInt8,(st l).toList=l:=fun l=>Lib.toList_data _
 obtain⟨id,ti,li,at_,ht⟩:=x;have HPM:Hid (Fd.putM base out ⟨id,ti,li,at_,ht⟩=if 3000 < base.length∨3000 < ht.length∨out.length=12∨Fd.z0r (Fd.asM base ⟨id,ti,li,at_,ht⟩) ≠ 0∨(out.any fun z=>z.id == (Fd.asM base ⟨id,ti,li,at_,ht⟩).id)=true then out else out++[Fd.asM base ⟨id,ti,li,at_,ht⟩]):=rfl;have HAS:Hid (Fd.asM base ⟨id,ti,li,at_,ht⟩=⟨if id=[] then Fd.q4f base li else id,ti,Fd.q4f base li,at_,Mk.html base ht⟩):=rfl;have HLM:Hid (Fd.q4f base li=if Mg.isSafe (Mk.light base li) then Mk.light base li else []):=rfl;generalize Fd.putM base out ⟨id,ti,li,at_,ht⟩=res at HPM ⊢;generalize Fd.asM base ⟨id,ti,li,at_,ht⟩=xa at HPM HAS;generalize Fd.q4f base li=lm at HAS HLM;obtain⟨ao,cap,hu⟩:=Y1 h.ow;subst hu;have P0:=Lib.hid (PtI.begin_ h id ti li at_ ht);have HG:=Lib.hid hg;have HLT:=Lib.hid (fun W=>q8z base li W);have hll:=q7v base li;have hx':li.length≤1000000:=hx;generalize Mk.light base li=lv at HLM HLT hll;clear h hg hx;unfold enAg;go_enter Tryz.func119,Tryz.ntmps119;go_upto_region 1 with fail;obtain⟨X,hX⟩:∃ X,X=wx.heap.size:=⟨_,rfl⟩;rw[← hX] at P0;rw[← hX];generalize wx.alloc (.cells #[.string (st id),.string (st ti),.string (st li),.int .i64 at_,.string (st ht)] 44)=w1 at P0 ⊢;clear hX;have m0:w1.cell? ⟨M,0,none⟩=some (.string (st base)):=Blk.cell P0.out.m.mb 0;have x2:w1.cell? ⟨X,2,none⟩=some (.string (st li)):=Blk.cell P0.out.xb 2;go_still_tail 6,(by kernel_rfl);change wpList _ _ _ _ _ w1.drew;have P1:=Lib.hid P0.out.drew;generalize w1.drew=w2 at P1 ⊢;clear P0 m0 x2;go_wp2_with fail;refine(HLT.out _).mono ?_;rintro e w3 ⟨rfl,hb3⟩;have P2:=Lib.hid (P1.out.below hb3);clear hb3 HLT P1;have y2:w3.cell? ⟨X,2,none⟩=some (.string (st li)):=Blk.cell P2.out.xb 2;have f2:=Blk.frozen P2.out.xb 2;have P3:=Lib.hid (P2.out.setLi lv);go_upto_region 2 with fail;generalize w3.setCell ⟨X,2,none⟩ (.string (st lv))=w4 at P3 ⊢;clear y2 f2 P2;have y2:w4.cell? ⟨X,2,none⟩=some (.string (st lv)):=Blk.cell P3.out.xb 2;have his:=q8x (st lv) w4 (by rw[y9];omega);rw[z0y] at his;obtain⟨bs,hbs⟩:∃ bs,Mg.isSafe lv=bs:=⟨_,rfl⟩;rw[hbs] at his HLM;have HIS:=Lib.hid his;clear his hbs;go_wp2_with fail;refine HIS.out.mono ?_;rintro e w5 ⟨rfl,hb5⟩;have P4:=Lib.hid (P3.out.below hb5);clear hb5 HIS P3 y2;go_upto_if 17 with fail
 go_cut [] (fun wz=>Hid (PtI w wx wz M X base (.slice ao out.length cap) out id ti lm at_ ht))
 case first =>
  as_aux_lemma =>
  cases bs with
  | true =>
   have HL2:Hid (lm=lv):=by show _=_;rw[HLM.out];rfl
   go_wp2_with fail;go_meet
   case rel=>rw[HL2.out];exact P4
  | false =>
   have HL2:Hid (lm=[]):=by show _=_;rw[HLM.out];rfl
   have y2:w5.cell? ⟨X,2,none⟩=some (.string (st lv)):=Blk.cell P4.out.xb 2;have f2:=Blk.frozen P4.out.xb 2;go_wp2_with fail;go_meet
   case rel=>rw[HL2.out];exact P4.out.setLi []
 case rest =>
 as_aux_lemma =>
 obtain⟨w6,hw6⟩:∃ z,z=wc:=⟨_,rfl⟩;subst hw6;have P5:=hcut;clear hcut HLM hll P4;obtain⟨idn,hidn⟩:∃ idn,(if id=[] then lm else id)=idn:=⟨_,rfl⟩;rw[hidn] at HAS;have HID:=Lib.hid hidn;clear hidn;have y0:w6.cell? ⟨X,0,none⟩=some (.string (st id)):=Blk.cell P5.out.xb 0;have y2:w6.cell? ⟨X,2,none⟩=some (.string (st lm)):=Blk.cell P5.out.xb 2;have f0:=Blk.frozen P5.out.xb 0;go_upto_region 4 with fail;go_upto_if 21 with fail
 go_cut [] (fun wz=>Hid (PtI w wx wz M X base (.slice ao out.length cap) out idn ti lm at_ ht))
 case first =>
  as_aux_lemma =>
  rcases z5y id with ⟨e1,e2⟩ | ⟨e1,e2⟩
  ·have HI2:Hid (idn=lm):=by show _=_;rw[← HID.out,if_pos e1]
   clear e1;rw[e2];go_wp2_with fail;go_meet
   case rel=>rw[HI2.out];exact P5.out.setId lm
  ·have HI2:Hid (idn=id):=by show _=_;rw[← HID.out,if_neg e1]
   clear e1;rw[e2];go_wp2_with fail;go_meet
   case rel=>rw[HI2.out];exact P5
 case rest =>
 as_aux_lemma =>
 obtain⟨w7,hw7⟩:∃ z,z=wc:=⟨_,rfl⟩;subst hw7;have P6:=hcut;clear hcut HID P5 y0 y2 f0;have hhh:∃ (T:List UInt8) (C:Int),Hid ((C=2∧3000 < ht.length)∨(C=0∧¬ 3000 < ht.length∧T=Mk.html base ht))∧∀ W,Gl W→Calls Tryz.prog 19 #[.string (st base),.string (st ht)] W fun e w'=>e=.returned (.tuple #[.string (st T),.int .i64 C])∧Below W.heap.size W w':=by
  by_cases hlong:3000 < ht.length
  ·exact⟨[],2,.inl ⟨rfl,hlong⟩,fun W _=>(q79 base ht W (.inr hlong)).mono (by rintro e w3 ⟨rfl,rfl⟩;exact⟨rfl,Below.refl _ _⟩)⟩
  ·exact⟨Mk.html base ht,0,.inr ⟨rfl,hlong,rfl⟩,fun W hW=>j4a base ht W hW hb (by omega)⟩
 obtain⟨T,C,HTC,hh⟩:=hhh;have HH:=Lib.hid (hh w7.drew (P6.out.drew.m.gl HG.out hM));clear hh;have m0:w7.cell? ⟨M,0,none⟩=some (.string (st base)):=Blk.cell P6.out.m.mb 0;have x4:w7.cell? ⟨X,4,none⟩=some (.string (st ht)):=Blk.cell P6.out.xb 4;go_upto_region 6 with fail;have HSX:Hid ((w7.drew.cell? ⟨M,0,none⟩=some (.string (st base))∧w7.drew.cell? ⟨X,4,none⟩=some (.string (st ht)))∧∀ W,Below w7.heap.size w7.drew W→(W.cell? ⟨M,0,none⟩=some (.string (st base))∧W.cell? ⟨X,4,none⟩=some (.string (st ht)))) :=
  ⟨⟨Blk.cell P6.out.drew.m.mb 0,Blk.cell P6.out.drew.xb 4⟩,fun W hW=>⟨Blk.cell (P6.out.drew.below hW).m.mb 0,Blk.cell (P6.out.drew.below hW).xb 4⟩⟩
 clear m0 x4
 go_region_held3 (fun w'=>w'.cell? ⟨M,0,none⟩=some (.string (st base))∧w'.cell? ⟨X,4,none⟩=some (.string (st ht))) (first
  | exact HSX.out.1
  | exact HSX.out.2 _ hb9) (first | (go_at_call 19;refine HH.out.mono ?_;rintro e w9 ⟨rfl,hb9⟩))
 have P8:=Lib.hid (P6.out.drew.below hb9);clear hb9 HH P6 HSX;have x4:w9.cell? ⟨X,4,none⟩=some (.string (st ht)):=Blk.cell P8.out.xb 4;have f4:=Blk.frozen P8.out.xb 4;have P9:=Lib.hid (P8.out.setHt T);go_upto_region 8 with fail;generalize w9.setCell ⟨X,4,none⟩ (.string (st T))=w10 at P9 ⊢;clear x4 f4 P8
 go_cut [59] (fun b wz=>∃ bb,b=.bool bb∧Hid (PtI w wx wz M X base (.slice ao out.length cap) out idn ti lm at_ T)∧Hid (res=if bb=true then out else out++[⟨idn,ti,lm,at_,T⟩]))
 case first =>
  as_aux_lemma =>
  rcases HTC.out with ⟨hc,hlong⟩ | ⟨hc,hshort,hT⟩
  ·as_aux_lemma =>
   subst hc;have HE:Hid (res=out):=by show _=_;rw[HPM.out,if_pos (.inr (.inl hlong))]
   clear HPM HAS HTC hlong;go_wp2_with fail;go_meet
   case rel=>exact⟨true,rfl,P9,HE.out⟩
  subst hc;have HAS2:Hid (xa=⟨idn,ti,lm,at_,T⟩):=by show _=_;rw[HAS.out,hT]
  clear HTC HAS hT
  by_cases h12:out.length=12
  ·as_aux_lemma =>
   have HE:Hid (res=out):=by show _=_;rw[HPM.out,if_pos (.inr (.inr (.inl h12)))]
   have m1:w10.cell? ⟨M,1,none⟩=some (.slice ao out.length cap):=Blk.cell P9.out.m.mb 1;have hli:(out.length:Int)=12:=by omega
   clear HPM HAS2 hol;go_wp2_with fail;go_meet
   case rel=>exact⟨true,rfl,P9,HE.out⟩
  have m1:w10.cell? ⟨M,1,none⟩=some (.slice ao out.length cap):=Blk.cell P9.out.m.mb 1;have hli:((out.length:Int) == 12)=false:=beq_eq_false_iff_ne.2 (by omega);have x0:w10.cell? ⟨X,0,none⟩=some (.string (st idn)):=Blk.cell P9.out.xb 0;have x1:w10.cell? ⟨X,1,none⟩=some (.string (st ti)):=Blk.cell P9.out.xb 1;have x2:w10.cell? ⟨X,2,none⟩=some (.string (st lm)):=Blk.cell P9.out.xb 2;have x3:w10.cell? ⟨X,3,none⟩=some (.int .i64 at_):=Blk.cell P9.out.xb 3;have x4:w10.cell? ⟨X,4,none⟩=some (.string (st T)):=Blk.cell P9.out.xb 4;have HCK:=Lib.hid (q5t ⟨idn,ti,lm,at_,T⟩ w10 (P9.out.m.gl HG.out hM));obtain⟨ck,hck1⟩:∃ ck,Fd.z0r ⟨idn,ti,lm,at_,T⟩=ck:=⟨_,rfl⟩;rw[hck1] at HCK;have hck:Fd.z0r xa=ck:=by rw[HAS2.out];exact hck1
  clear hck1;unfold enAg at *;go_wp2_with fail;refine HCK.out.mono ?_;rintro e w11 ⟨rfl,hb11⟩;have P10:=Lib.hid (P9.out.below hb11);clear hb11 HCK P9 m1 x0 x1 x2 x3 x4
  by_cases hc0:ck=0
  case neg =>
   as_aux_lemma =>
   have HE:Hid (res=out):=by show _=_;rw[HPM.out,if_pos (.inr (.inr (.inr (.inl (by rw[hck];exact hc0)))))]
   have hcb:(ck == 0)=false:=beq_eq_false_iff_ne.2 hc0;have hcn:(ck != 0)=true:=by simp[hc0]
   clear HPM HAS2 hck hc0 h12;go_wp2_with fail;go_meet
   case rel=>exact⟨true,rfl,P10,HE.out⟩
  subst hc0;have m1:w11.cell? ⟨M,1,none⟩=some (.slice ao out.length cap):=Blk.cell P10.out.m.mb 1;have x0:w11.cell? ⟨X,0,none⟩=some (.string (st idn)):=Blk.cell P10.out.xb 0;have hev:z14 w11 (fun b=>b < w11.heap.size) (.slice ao out.length cap) out:=by
   obtain⟨ao',cap',h1,h2,h3⟩:=z2e.of_own (K:=fun b=>b < w11.heap.size) P10.out.m.ow (fun g hg=>(P10.out.m.ow.lt g hg).2);injection h1 with e1 e2 e3;subst e1;subst e3;exact⟨ao,cap,rfl,h2,h3⟩
  have HCF:=Lib.hid (q18 177 #[.pointer (some ⟨X,0,none⟩)] (fun z=>z.id == idn) eg_put out _ _ w11 hev (fun b q=>q) (by omega) (asks_put X idn out w11 (Blk.lt P10.out.xb) x0));obtain⟨ba,hba⟩:∃ ba,(out.any fun z=>z.id == idn)=ba:=⟨_,rfl⟩;rw[hba] at HCF;have HBA:=Lib.hid hba;have hmf:∀ (fn:Fn) (first cap:Array Value) (w:World),(Instr.makeFunc fn first cap).run Tryz.prog w=.ok (.func fn first cap) w:=fun _ _ _ _=>rfl
  clear hba hev;go_wp2_with fail;refine HCF.out.mono ?_;rintro e w12 ⟨rfl,hb12⟩;have P11:=Lib.hid (P10.out.below hb12);clear hb12 HCF P10 m1 x0
  cases ba with
  | true =>
   as_aux_lemma =>
   have HE:Hid (res=out):=by show _=_;rw[HPM.out,if_pos (.inr (.inr (.inr (.inr (by rw[HAS2.out];exact HBA.out)))))]
   clear HPM HAS2 hck h12;go_wp2_with fail;go_meet
   case rel=>exact⟨true,rfl,P11,HE.out⟩
  | false =>
   have HE:Hid (res=out++[⟨idn,ti,lm,at_,T⟩]):=by
    show _=_;rw[HPM.out,if_neg,HAS2.out];rintro (q | q | q | q | q)
    ·omega
    ·exact hshort q
    ·exact h12 q
    ·exact q hck
    ·rw[HAS2.out,HBA.out] at q;cases q
   clear HPM HAS2 hck hshort;clear h12;go_wp2_with fail;go_meet
   case rel=>exact⟨false,rfl,P11,HE.out⟩
 case rest =>
 as_aux_lemma =>
 obtain⟨bb,rfl,P11,HE⟩:=hcut;obtain⟨w12,hw12⟩:∃ z,z=wc:=⟨_,rfl⟩;subst hw12;clear HPM HAS HTC P9
 cases bb with
 | true =>
  have HE:Hid (res=out):=HE;go_wp2_with fail
  first | go_end0 | (simp only [Exit.inBlock,Exit.then];refine bodyPost_ret (results_none rfl _ _ _) rfl ?_) | refine bodyPost_ret (results_none rfl _ _ _) rfl ?_
  exact⟨rfl,⟨_,by rw[HE.out];exact P11.out.m⟩,P11.out.ax⟩
 | false =>
 have HE:Hid (res=out++[⟨idn,ti,lm,at_,T⟩]):=HE;have m1:w12.cell? ⟨M,1,none⟩=some (.slice ao out.length cap):=Blk.cell P11.out.m.mb 1;have x0:w12.cell? ⟨X,0,none⟩=some (.string (st idn)):=Blk.cell P11.out.xb 0;have x1:w12.cell? ⟨X,1,none⟩=some (.string (st ti)):=Blk.cell P11.out.xb 1;have x2:w12.cell? ⟨X,2,none⟩=some (.string (st lm)):=Blk.cell P11.out.xb 2;have x3:w12.cell? ⟨X,3,none⟩=some (.int .i64 at_):=Blk.cell P11.out.xb 3;have x4:w12.cell? ⟨X,4,none⟩=some (.string (st T)):=Blk.cell P11.out.xb 4;go_upto_region 9 with fail;have P12:=Lib.hid P11.out.drew;have PA:=P12.out.below ((Below.refl _ w12.drew).alloc (Nat.le_refl _) (.cells #[.string (st idn),.string (st ti),.string (st lm),.int .i64 at_,.string (st T)] 44));have ma:(w12.alloc (.cells #[.string (st idn),.string (st ti),.string (st lm),.int .i64 at_,.string (st T)] 44)).cell? ⟨M,1,none⟩=some (.slice ao out.length cap):=Blk.cell PA.m.mb 1;obtain⟨i0,hi,hz0,hz1,hz2⟩:=info_parts Tryz.infoEnt;have ow10:=z04 P12.out.m.ow ((Ap.refl (fun _=>False) w12.drew).alloc (.cells #[.string (st idn),.string (st ti),.string (st lm),.int .i64 at_,.string (st T)] 44)) (fun _ _ q=>q);have hsz:w.heap.size≤w12.heap.size:=P12.out.m.ap.size;have HPU:Hid (∀ v' w',w'.ownsRow w.heap.size 44 5 v' (out.length + 1) (Y7 out++[.string (st idn),.string (st ti),.string (st lm),.int .i64 at_,.string (st T)])→(w12.drew.alloc (.cells #[.string (st idn),.string (st ti),.string (st lm),.int .i64 at_,.string (st T)] 44)).grownBy w' (Value.slice ao out.length cap).ownBlock →
   (MpI w (w'.setCell ⟨M,1,none⟩ v') M base v' (out++[⟨idn,ti,lm,at_,T⟩])∧Ap (fun b=>b=M∨(Value.slice ao out.length cap).ownBlock=some b) wx (w'.setCell ⟨M,1,none⟩ v'))∧w'.cell? ⟨M,1,none⟩=some (.slice ao out.length cap)∧w'.frozen? ⟨M,1,none⟩=false):=by
  intro v' w' hown hgr;have hMS:some M ≠ (Value.slice ao out.length cap).ownBlock:=by
   intro e;have:=(P12.out.m.ow.lt M e.symm).1;have:=P12.out.m.ml;omega
  have MB14:Blk w' M 118 #[.string (st base),.slice ao out.length cap]:=(hgr.block M (by have:=P12.out.m.mb.lt;simp at this ⊢;omega) hMS).trans (Blk.alloc P12.out.m.mb _);exact⟨⟨P12.out.m.pushed (x:=⟨idn,ti,lm,at_,T⟩) hown hgr,((P12.out.ax.alloc _).grown hgr (fun _ _ e=>.inr e)).setCell (p:=⟨M,1,none⟩) (.inl rfl) _⟩,Blk.cell MB14 1,Blk.frozen MB14 1⟩
 clear P11 P12 PA;have HAD:Hid ((w12.alloc (.cells #[.string (st idn),.string (st ti),.string (st lm),.int .i64 at_,.string (st T)] 44)).drew=w12.drew.alloc (.cells #[.string (st idn),.string (st ti),.string (st lm),.int .i64 at_,.string (st T)] 44)):=rfl
 go_region_law ((try rw[HAD.out]);refine z4j rfl (.tmp 64) (.tmp 66) 23 rfl w.heap.size 44 i0 (.agg #[.string ⟨#[]⟩,.string ⟨#[]⟩,.string ⟨#[]⟩,.int .i64 0,.string ⟨#[]⟩]) 5 72 Tryz.underlying23 hi hz0 hz1 hz2 rfl (by decide) (.slice ao out.length cap) out.length (Y7 out) (by first | (simp[Act.eval,Act.put];done) | (simp[Act.eval,Act.put];rfl)) ow10 ⟨w12.drew.heap.size,0,none⟩ 1 1 [.string (st idn),.string (st ti),.string (st lm),.int .i64 at_,.string (st T)] (by first | (simp[Act.eval,Act.put];done) | (simp[Act.eval,Act.put];rfl)) rfl (z07 _ _ _) (by intro u hu;simp at hu;rcases hu with rfl | rfl | rfl | rfl | rfl <;> rfl) (by unfold maxLen;omega) (by omega) (by simp;omega) ?_;intro v' w14 hown' hgrow _;have hR:=HPU.out v' w14 hown' hgrow;have c1:=hR.2.1;have f1:=hR.2.2;have R:=Lib.hid hR.1;obtain⟨ao2,cap2,hv2⟩:=Y1 hown';subst hv2;clear hR hown' hgrow)
 all_goals
  go_wp2_with fail
  first | go_end0 | (simp only [Exit.inBlock,Exit.then];refine bodyPost_ret (results_none rfl _ _ _) rfl ?_) | refine bodyPost_ret (results_none rfl _ _ _) rfl ?_
  exact⟨rfl,⟨_,by rw[HE.out];exact R.out.1⟩,R.out.2⟩
end Go.Proofs.YtjonkbdldebkiaaGreatDoor
namespace Fd
theorem y0r (s:Bs):(q8v s).length≤s.length:=by
 unfold q8v X4;rw[List.length_reverse];refine Nat.le_trans (List.dropWhile_suffix z2v).length_le ?_;rw[List.length_reverse];exact(List.dropWhile_suffix z2v).length_le
end Fd
namespace Go.Proofs.YtjonkbdldebkiaaGreatDoor
open Go.RowKit
theorem q54 (k:Mk.Fo) (t:List UInt8):(Fd.Y5 k t).length≤k.bulk:=by
 have h:=z3r t (fun _=>true) k;have h1:=Fd.y0r ((childR t (fun _=>true) k).text++Fd.z0z (childR t (fun _=>true) k).kids);have h2:=Fd.z2m (childR t (fun _=>true) k).kids;rw[List.length_append] at h1;have h3:Fd.Y5 k t=Fd.q8v ((childR t (fun _=>true) k).text++Fd.z0z (childR t (fun _=>true) k).kids):=rfl;rw[h3];omega
theorem MpI.node {w wx:World} {M:Nat} {base:List UInt8} {u:Value} {out:List Fd.En} (h:MpI w wx M base u out) {K:Nat→Prop} {va vk:Value} {x:Fd.Nd} (hn:NdV w K va vk x) (hK:∀ b,K b→b < w.heap.size∧b ≠ M):NdV wx K va vk x:=by
 have kp:∀ b,K b→K b∧wx.heap[b]? = w.heap[b]?:=fun b hb=>⟨hb,h.ap.block b (hK b hb).1 (fun e=>(hK b hb).2 e)⟩
 exact⟨hn.1.frame kp,hn.2.frame kp⟩
theorem mp_item {w wx:World} {M:Nat} {base:List UInt8} {u:Value} {out:List Fd.En} (hg:Gl w) (hM:4 < M) (h:MpI w wx M base u out) (hb:base.length≤3000) (hol:out.length≤12)
  (n t:List UInt8) (a:List Mk.At) (k:Mk.Fo) (va vk:Value) (K:Nat→Prop) (hnd:NdV w K va vk ⟨n,a,t,k⟩) (hK:∀ b,K b→b < w.heap.size∧b ≠ M) (hl:k.bulk≤100000) :
  Calls Tryz.prog 71 #[.pointer (some ⟨M,0,none⟩),V4 n va t vk] wx fun e w'=>e=.returned (.tuple #[])∧∃ u',MpI w w' M base u' (Fd.putM base out (Fd.q5y k)):=by
 have hnx:=h.node hnd hK;have hKx:∀ b,K b→b < wx.heap.size:=fun b q=>Nat.lt_of_lt_of_le (hK b q).1 h.ap.size
 obtain⟨aoa,capa,hva1,_⟩:=id hnx.1;subst hva1;obtain⟨aok,capk,xsk,hvk1,_⟩:=id hnx.2;subst hvk1;have HI:=Lib.hid h;have HN:=Lib.hid hnx;have HKX:=Lib.hid hKx;have HG:=Lib.hid hg;have hmp:=Lib.hid (q54 k);have hal:=(Below.refl wx.heap.size wx).alloc (Nat.le_refl _) (.cells #[.string (st n),.slice aoa a.length capa,.string (st t),.slice aok k.len capk] 53);have AL:=Lib.hid hal;have NB:=Lib.hid (Blk.new wx 53 #[.string (st n),.slice aoa a.length capa,.string (st t),.slice aok k.len capk]);have HWO:Hid (∀ W,Below wx.heap.size wx W→∀ title,Calls Tryz.prog 118 #[.agg #[.string (st n),.slice aoa a.length capa,.string (st t),.slice aok k.len capk],.string (st title)] W fun e w'=>e=.returned (.string (st (Fd.Y5 k title)))∧Below W.heap.size W w'):=by
  intro W hW title;exact j1q n title a t (.slice aoa a.length capa) (.slice aok k.len capk) k K W ⟨_,_,rfl⟩ (hnx.2.below hKx hW) (fun b q=>Nat.lt_of_lt_of_le (hKx b q) hW.size) (by omega)
 have HFR:Hid (∀ W,Below (wx.alloc (.cells #[.string (st n),.slice aoa a.length capa,.string (st t),.slice aok k.len capk] 53)).heap.size (wx.alloc (.cells #[.string (st n),.slice aoa a.length capa,.string (st t),.slice aok k.len capk] 53)) W→(W.cell? ⟨wx.heap.size,0,none⟩=some (.string (st n))∧W.cell? ⟨wx.heap.size,1,none⟩=some (.slice aoa a.length capa)∧W.cell? ⟨wx.heap.size,2,none⟩=some (.string (st t))∧W.cell? ⟨wx.heap.size,3,none⟩=some (.slice aok k.len capk))):=by
  intro W hW;have hb:=Blk.below NB.out hW (Blk.lt NB.out);exact⟨Blk.cell hb 0,Blk.cell hb 1,Blk.cell hb 2,Blk.cell hb 3⟩
 have HIT:Hid (Fd.q5y k=⟨Fd.Y5 k Fd.j6c,Fd.Y5 k Fd.z6p,Fd.Y5 k Fd.z9j,(Fd.q7z (Fd.Y5 k Fd.tPub)).1,Fd.Y5 k Fd.j6b⟩):=rfl;clear hal h hnx hKx hnd hK hg;unfold V4;go_enter Tryz.func71,Tryz.ntmps71;go_upto_region 1 with fail;obtain⟨N,hN⟩:∃ N,N=wx.heap.size:=⟨_,rfl⟩;rw[← hN] at NB HFR;rw[← hN];generalize wx.alloc (.cells #[.string (st n),.slice aoa a.length capa,.string (st t),.slice aok k.len capk] 53)=w1 at AL NB HFR ⊢;have hNx:wx.heap.size≤N:=Nat.le_of_eq hN.symm;clear hN;obtain⟨n0,n1,n2,n3⟩:=HFR.out w1 (Below.refl _ _);go_wp2_with fail;refine(HWO.out _ AL.out Fd.tPub).mono ?_;rintro e w2 ⟨rfl,hb2⟩;have B2:=Lib.hid hb2;have hml:=hmp.out Fd.tPub;have HMA:=Lib.hid (dt_Mail (Fd.Y5 k Fd.tPub) w2 (by omega));clear hb2 n0 n1 n2 n3;go_wp2_with fail;refine HMA.out.mono ?_;rintro e w3 ⟨rfl,hb3⟩;have B3:=Lib.hid (B2.out.trans (hb3.mono B2.out.size));clear hb3 HMA B2;generalize (Fd.q7z (Fd.Y5 k Fd.tPub)).2=ee;generalize (Fd.q7z (Fd.Y5 k Fd.tPub)).1=at_ at HIT ⊢
 have BX:=Lib.hid (AL.out.trans (B3.out.mono AL.out.size));have HSX:Hid ((w3.drew.cell? ⟨N,0,none⟩=some (.string (st n))∧w3.drew.cell? ⟨N,1,none⟩=some (.slice aoa a.length capa)∧w3.drew.cell? ⟨N,2,none⟩=some (.string (st t))∧w3.drew.cell? ⟨N,3,none⟩=some (.slice aok k.len capk))∧∀ W,Below w3.heap.size w3.drew W→(W.cell? ⟨N,0,none⟩=some (.string (st n))∧W.cell? ⟨N,1,none⟩=some (.slice aoa a.length capa)∧W.cell? ⟨N,2,none⟩=some (.string (st t))∧W.cell? ⟨N,3,none⟩=some (.slice aok k.len capk))) :=
  ⟨HFR.out _ B3.out.drew,fun W hW=>HFR.out _ (B3.out.drew.trans (hW.mono B3.out.size))⟩
 have HW4:Hid (∀ W,Below w3.heap.size w3.drew W→∀ title,Calls Tryz.prog 118 #[.agg #[.string (st n),.slice aoa a.length capa,.string (st t),.slice aok k.len capk],.string (st title)] W fun e w'=>e=.returned (.string (st (Fd.Y5 k title)))∧Below w3.heap.size w3.drew w'):=fun W hW title=>(HWO.out W (BX.out.drew.trans (hW.mono BX.out.size)) title).mono (by rintro e w' ⟨h1,h2⟩;exact⟨h1,hW.trans (h2.mono hW.size)⟩)
 have HPU:Hid (∀ W,Below w3.heap.size w3.drew W→Calls Tryz.prog 119 #[.pointer (some ⟨M,0,none⟩),.agg #[.string (st (Fd.Y5 k Fd.j6c)),.string (st (Fd.Y5 k Fd.z6p)),.string (st (Fd.Y5 k Fd.z9j)),.int .i64 at_,.string (st (Fd.Y5 k Fd.j6b))]] W fun e w'=>e=.returned (.tuple #[])∧(∃ u',MpI w w' M base u' (Fd.putM base out (Fd.q5y k)))∧(w'.cell? ⟨N,0,none⟩=some (.string (st n))∧w'.cell? ⟨N,1,none⟩=some (.slice aoa a.length capa)∧w'.cell? ⟨N,2,none⟩=some (.string (st t))∧w'.cell? ⟨N,3,none⟩=some (.slice aok k.len capk))):=by
  intro W hW;have hBW:=BX.out.drew.trans (hW.mono BX.out.size);have hm:=HI.out.below hBW;have hlw:=hmp.out Fd.z9j;refine(mp_put ⟨Fd.Y5 k Fd.j6c,Fd.Y5 k Fd.z6p,Fd.Y5 k Fd.z9j,at_,Fd.Y5 k Fd.j6b⟩ HG.out hM hm hb (by show (Fd.Y5 k Fd.z9j).length≤_;omega) hol).mono ?_;rintro e w' ⟨h1,h2,h3⟩;refine⟨h1,by rw[HIT.out];exact h2,?_⟩;have hNW:Blk W N 53 #[.string (st n),.slice aoa a.length capa,.string (st t),.slice aok k.len capk]:=((B3.out.drew.trans (hW.mono B3.out.size)).block N NB.out.lt).trans NB.out;have hN1:N ≠ M:=by have:=HI.out.mb.lt;omega
  have hN2:u.ownBlock ≠ some N:=fun e=>by have:=(HI.out.ow.lt N e).2;omega
  have hb':=hNW.ap h3 (by rintro (e | e);exact hN1 e;exact hN2 e);exact⟨Blk.cell hb' 0,Blk.cell hb' 1,Blk.cell hb' 2,Blk.cell hb' 3⟩
 have HWGuid:Hid (∀ W,Below w3.heap.size w3.drew W→Calls Tryz.prog 118 #[.agg #[.string (st n),.slice aoa a.length capa,.string (st t),.slice aok k.len capk],.string ⟨#[103,117,105,100]⟩] W fun e w'=>e=.returned (.string (st (Fd.Y5 k Fd.j6c)))∧Below w3.heap.size w3.drew w'):=fun W hW=>HW4.out W hW Fd.j6c
 have HWTitle:Hid (∀ W,Below w3.heap.size w3.drew W→Calls Tryz.prog 118 #[.agg #[.string (st n),.slice aoa a.length capa,.string (st t),.slice aok k.len capk],.string ⟨#[116,105,116,108,101]⟩] W fun e w'=>e=.returned (.string (st (Fd.Y5 k Fd.z6p)))∧Below w3.heap.size w3.drew w'):=fun W hW=>HW4.out W hW Fd.z6p
 have HWLink:Hid (∀ W,Below w3.heap.size w3.drew W→Calls Tryz.prog 118 #[.agg #[.string (st n),.slice aoa a.length capa,.string (st t),.slice aok k.len capk],.string ⟨#[108,105,110,107]⟩] W fun e w'=>e=.returned (.string (st (Fd.Y5 k Fd.z9j)))∧Below w3.heap.size w3.drew w'):=fun W hW=>HW4.out W hW Fd.z9j
 have HWDesc:Hid (∀ W,Below w3.heap.size w3.drew W→Calls Tryz.prog 118 #[.agg #[.string (st n),.slice aoa a.length capa,.string (st t),.slice aok k.len capk],.string ⟨#[100,101,115,99,114,105,112,116,105,111,110]⟩] W fun e w'=>e=.returned (.string (st (Fd.Y5 k Fd.j6b)))∧Below w3.heap.size w3.drew w'):=fun W hW=>HW4.out W hW Fd.j6b
 clear AL NB HWO B3 BX HFR HI HN HKX HW4;go_upto_region 2 with fail
 go_region_held3 (fun w'=>w'.cell? ⟨N,0,none⟩=some (.string (st n))∧w'.cell? ⟨N,1,none⟩=some (.slice aoa a.length capa)∧w'.cell? ⟨N,2,none⟩=some (.string (st t))∧w'.cell? ⟨N,3,none⟩=some (.slice aok k.len capk)) (first
  | exact HSX.out.1
  | exact HSX.out.2 _ hb7
  | exact HSX.out.2 _ hb6
  | exact HSX.out.2 _ hb5
  | exact HSX.out.2 _ hb4
  | exact hcc8) (first
  | (go_at_call 118;with_reducible refine(HWGuid.out _ ?_).mono ?_;exact Below.refl _ _;rintro e w4 ⟨rfl,hb4⟩)
  | (go_at_call 118;with_reducible refine(HWTitle.out _ ?_).mono ?_;exact hb4;rintro e w5 ⟨rfl,hb5⟩)
  | (go_at_call 118;with_reducible refine(HWLink.out _ ?_).mono ?_;exact hb5;rintro e w6 ⟨rfl,hb6⟩)
  | (go_at_call 118;with_reducible refine(HWDesc.out _ ?_).mono ?_;exact hb6;rintro e w7 ⟨rfl,hb7⟩)
  | (go_at_call 119;with_reducible refine(HPU.out _ ?_).mono ?_;exact hb7;rintro e w8 ⟨rfl,hmp8,hcc8⟩))
 all_goals
  go_wp2_with fail
  first | go_end0 | (simp only [Exit.inBlock,Exit.then];refine bodyPost_ret (results_none rfl _ _ _) rfl ?_) | refine bodyPost_ret (results_none rfl _ _ _) rfl ?_
  exact⟨rfl,hmp8⟩
theorem eg_other (args:Array Value) (w:World):(callFunc 120 args).run Tryz.prog w=.ok (.enter 120 args) w:=Z4 Tryz.func120 (by kernel_rfl) rfl _ _
theorem j6n (l:List Mk.At) (n:List UInt8):((Fd.valueA l n).getD []).length≤Mk.Fo.atB l:=by
 unfold Fd.valueA
 cases h:l.find? fun a=>a.n == n with
 | none=>exact Nat.zero_le _
 | some a =>
  have:=Mk.z9s (List.mem_of_find?_eq_some h);show a.v.length≤_;omega
theorem j3f (f:Mk.Fo) (K:Nat→Prop) (w:World) (hf:f.bulk≤33554432) (hK:∀ b,K b→b < w.heap.size):q55 120 #[] Fd.z8a f K w:=by
 intro w1 hb j n a t kk r hd va vk hva hvk;have hst:∀ l:List UInt8,(st l).toList=l:=fun l=>Lib.toList_data _
 have hab:Mk.Fo.atB a≤f.bulk:=by
  have h1:=Mk.Fo.z0s f j;rw[hd] at h1;have e:Mk.Fo.bulk (.node n a t kk r)=1 + n.length + t.length + Mk.Fo.atB a + Mk.Fo.bulk kk + Mk.Fo.bulk r:=rfl;omega
 have hal0:=Mk.z1u a;obtain⟨aoa,capa,hva1,_⟩:=id hva;subst hva1;obtain⟨aok,capk,xsk,hvk1,_⟩:=id hvk;subst hvk1;have hal:=(Below.refl w1.heap.size w1).alloc (Nat.le_refl _) (.cells #[.string (st n),.slice aoa a.length capa,.string (st t),.slice aok kk.len capk] 53);have hK1:∀ b,K b→b < w1.heap.size:=fun b q=>Nat.lt_of_lt_of_le (hK b q) hb.size
 have HV:=Lib.hid (j1p n Fd.tRel a t (.slice aoa a.length capa) (.slice aok kk.len capk) kk K _ (hva.below hK1 hal) ⟨_,_,rfl⟩ (fun b q=>Nat.lt_of_lt_of_le (hK1 b q) hal.size) (by omega));have HO:Hid (Fd.z8a ⟨n,a,t,kk⟩=match Fd.valueA a Fd.tRel with | none=>true | some v=>v == Fd.tAlt):=by
  show _=_;unfold Fd.z8a
  cases Fd.valueA a Fd.tRel <;> rfl
 generalize Fd.z8a ⟨n,a,t,kk⟩=out at HO ⊢;generalize Fd.valueA a Fd.tRel=o at HO HV;have AL:=Lib.hid hal;have NB:=Lib.hid (Blk.new w1 53 #[.string (st n),.slice aoa a.length capa,.string (st t),.slice aok kk.len capk]);clear hal hva hvk hd hb hab hal0;unfold V4 at HV ⊢;go_enter Tryz.func120,Tryz.ntmps120;go_upto_region 1 with fail;generalize w1.alloc (.cells #[.string (st n),.slice aoa a.length capa,.string (st t),.slice aok kk.len capk] 53)=w2 at HV AL NB ⊢;have n0:w2.cell? ⟨w1.heap.size,0,none⟩=some (.string (st n)):=Blk.cell NB.out 0;have n1:w2.cell? ⟨w1.heap.size,1,none⟩=some (.slice aoa a.length capa):=Blk.cell NB.out 1;have n2:w2.cell? ⟨w1.heap.size,2,none⟩=some (.string (st t)):=Blk.cell NB.out 2;have n3:w2.cell? ⟨w1.heap.size,3,none⟩=some (.slice aok kk.len capk):=Blk.cell NB.out 3;go_wp2_with fail;refine HV.out.mono ?_;rintro e w3 ⟨rfl,hb3⟩;have B3:=Lib.hid (AL.out.trans (hb3.mono AL.out.size));clear hb3 HV n0 n1 n2 n3
 cases o with
 | none =>
  have HE:Hid (out=true):=HO;have hs0:(none:Option (List UInt8)).isSome=false:=rfl;go_wp2_with fail;go_ret;exact⟨Z7 HE.out.symm,B3.out⟩
 | some v =>
  have HE:Hid (out=(v == Fd.tAlt)):=HO;have hs0:(some v).isSome=true:=rfl;go_wp2_with fail;go_ret;exact⟨Z7 (by rw[HE.out];rfl),B3.out⟩
theorem mp_entry {w wx:World} {M:Nat} {base:List UInt8} {u:Value} {out:List Fd.En} (hg:Gl w) (hM:4 < M) (h:MpI w wx M base u out) (hb:base.length≤3000) (hol:out.length≤12)
  (n t:List UInt8) (a:List Mk.At) (k:Mk.Fo) (va vk:Value) (K:Nat→Prop) (hnd:NdV w K va vk ⟨n,a,t,k⟩) (hK:∀ b,K b→b < w.heap.size∧b ≠ M) (hl:k.bulk≤100000) :
  Calls Tryz.prog 72 #[.pointer (some ⟨M,0,none⟩),V4 n va t vk] wx fun e w'=>e=.returned (.tuple #[])∧∃ u',MpI w w' M base u' (Fd.putM base out (Fd.q0q k)):=by
 have hnx:=h.node hnd hK;have hKx:∀ b,K b→b < wx.heap.size:=fun b q=>Nat.lt_of_lt_of_le (hK b q).1 h.ap.size
 obtain⟨aoa,capa,hva1,_⟩:=id hnx.1;subst hva1;obtain⟨aok,capk,xsk,hvk1,_⟩:=id hnx.2;subst hvk1;have HI:=Lib.hid h;have HN:=Lib.hid hnx;have HKX:=Lib.hid hKx;have HG:=Lib.hid hg;have hmp:=Lib.hid (q54 k);have hal:=(Below.refl wx.heap.size wx).alloc (Nat.le_refl _) (.cells #[.string (st n),.slice aoa a.length capa,.string (st t),.slice aok k.len capk] 53);have AL:=Lib.hid hal;have NB:=Lib.hid (Blk.new wx 53 #[.string (st n),.slice aoa a.length capa,.string (st t),.slice aok k.len capk]);have HWO:Hid (∀ W,Below wx.heap.size wx W→∀ title,Calls Tryz.prog 118 #[.agg #[.string (st n),.slice aoa a.length capa,.string (st t),.slice aok k.len capk],.string (st title)] W fun e w'=>e=.returned (.string (st (Fd.Y5 k title)))∧Below W.heap.size W w'):=by
  intro W hW title;exact j1q n title a t (.slice aoa a.length capa) (.slice aok k.len capk) k K W ⟨_,_,rfl⟩ (hnx.2.below hKx hW) (fun b q=>Nat.lt_of_lt_of_le (hKx b q) hW.size) (by omega)
 have HFR:Hid (∀ W,Below (wx.alloc (.cells #[.string (st n),.slice aoa a.length capa,.string (st t),.slice aok k.len capk] 53)).heap.size (wx.alloc (.cells #[.string (st n),.slice aoa a.length capa,.string (st t),.slice aok k.len capk] 53)) W→(W.cell? ⟨wx.heap.size,0,none⟩=some (.string (st n))∧W.cell? ⟨wx.heap.size,1,none⟩=some (.slice aoa a.length capa)∧W.cell? ⟨wx.heap.size,2,none⟩=some (.string (st t))∧W.cell? ⟨wx.heap.size,3,none⟩=some (.slice aok k.len capk))):=by
  intro W hW;have hb:=Blk.below NB.out hW (Blk.lt NB.out);exact⟨Blk.cell hb 0,Blk.cell hb 1,Blk.cell hb 2,Blk.cell hb 3⟩
 have HIT:Hid (Fd.q0q k=⟨Fd.Y5 k Fd.tId,Fd.Y5 k Fd.z6p,(Fd.valueA (childR Fd.z9j Fd.z8a k).ats Fd.y0h).getD [],(Fd.webD (Fd.Y5 k Fd.tUpd)).1,Fd.Y5 k (if (Fd.z3g Fd.q6l (fun _=>true) k).isSome then Fd.q6l else Fd.tSum)⟩):=rfl;clear hal h hnx hKx hnd hK hg;unfold V4;go_enter Tryz.func72,Tryz.ntmps72;go_upto_region 1 with fail;obtain⟨N,hN⟩:∃ N,N=wx.heap.size:=⟨_,rfl⟩;rw[← hN] at NB HFR;rw[← hN];generalize wx.alloc (.cells #[.string (st n),.slice aoa a.length capa,.string (st t),.slice aok k.len capk] 53)=w1 at AL NB HFR ⊢;have hNx:wx.heap.size≤N:=Nat.le_of_eq hN.symm;clear hN;obtain⟨n0,n1,n2,n3⟩:=HFR.out w1 (Below.refl _ _);go_wp2_with fail;refine(HWO.out _ AL.out Fd.tUpd).mono ?_;rintro e w2 ⟨rfl,hb2⟩;have B2:=Lib.hid hb2;have HMA:=Lib.hid (dt_Web (Fd.Y5 k Fd.tUpd) w2);clear hb2 n0 n1 n2 n3;go_wp2_with fail;refine HMA.out.mono ?_;rintro e w3 ⟨rfl,hb3⟩;have B2a:=Lib.hid (B2.out.trans (hb3.mono B2.out.size));clear hb3 HMA B2;generalize (Fd.webD (Fd.Y5 k Fd.tUpd)).2=ee;generalize (Fd.webD (Fd.Y5 k Fd.tUpd)).1=at_ at HIT ⊢
 have BXa:=Lib.hid (AL.out.trans (B2a.out.mono AL.out.size));have HCH:=Lib.hid (q1j 120 eg_other n Fd.z9j a t (.slice aoa a.length capa) (.slice aok k.len capk) k Fd.z8a K w3 ⟨_,_,rfl⟩ (HN.out.2.below HKX.out BXa.out) (fun b q=>Nat.lt_of_lt_of_le (HKX.out b q) BXa.out.size) (by omega) (j3f k K w3 (by omega) (fun b q=>Nat.lt_of_lt_of_le (HKX.out b q) BXa.out.size)));have hcb:=z3r Fd.z9j Fd.z8a k;generalize childR Fd.z9j Fd.z8a k=lx at HIT HCH hcb;generalize (Fd.z3g Fd.z9j Fd.z8a k).isSome=lb at HCH;obtain⟨n0,n1,n2,n3⟩:=HFR.out w3 B2a.out;unfold V4 at HCH;go_wp2_with fail;refine HCH.out.mono ?_;rintro e w4 ⟨hb4,lva,lvk,rfl,hnd⟩;have B2b:=Lib.hid (B2a.out.trans (hb4.mono B2a.out.size));obtain⟨laoa,lcapa,hlva,_⟩:=id hnd.1;subst hlva;obtain⟨laok,lcapk,lxs,hlvk,_⟩:=id hnd.2;subst hlvk;have hK4:∀ b,K b→b < w4.heap.size:=fun b q=>Nat.lt_of_lt_of_le (Nat.lt_of_lt_of_le (HKX.out b q) BXa.out.size) hb4.size
 have hal4:=(Below.refl w4.heap.size w4).alloc (Nat.le_refl _) (.cells #[.string (st lx.name),.slice laoa lx.ats.length lcapa,.string (st lx.text),.slice laok lx.kids.len lcapk] 53);have hatl:=Mk.z1u lx.ats;have HVA:=Lib.hid (j1p lx.name Fd.y0h lx.ats lx.text (.slice laoa lx.ats.length lcapa) (.slice laok lx.kids.len lcapk) lx.kids K _ (hnd.1.below hK4 hal4) ⟨_,_,rfl⟩ (fun b q=>Nat.lt_of_lt_of_le (hK4 b q) hal4.size) (by omega));have LB:=Lib.hid (Blk.new w4 53 #[.string (st lx.name),.slice laoa lx.ats.length lcapa,.string (st lx.text),.slice laok lx.kids.len lcapk]);have B2c:=Lib.hid (B2b.out.trans (hal4.mono B2b.out.size));obtain⟨lo,hlo⟩:∃ lo,Fd.valueA lx.ats Fd.y0h=lo:=⟨_,rfl⟩;have hlol:(lo.getD []).length≤200000:=by
  have:=j6n lx.ats Fd.y0h;rw[hlo] at this;omega
 rw[hlo] at HVA HIT;unfold V4 at HVA;clear hb4 hnd hK4 hal4 HCH n0 n1 n2 n3 BXa B2b B2a hlo hcb hatl;go_upto_region 3 with fail;generalize w4.alloc (.cells #[.string (st lx.name),.slice laoa lx.ats.length lcapa,.string (st lx.text),.slice laok lx.kids.len lcapk] 53)=w5 at HVA LB B2c ⊢;have l0:w5.cell? ⟨w4.heap.size,0,none⟩=some (.string (st lx.name)):=Blk.cell LB.out 0;have l1:w5.cell? ⟨w4.heap.size,1,none⟩=some (.slice laoa lx.ats.length lcapa):=Blk.cell LB.out 1;have l2:w5.cell? ⟨w4.heap.size,2,none⟩=some (.string (st lx.text)):=Blk.cell LB.out 2;have l3:w5.cell? ⟨w4.heap.size,3,none⟩=some (.slice laok lx.kids.len lcapk):=Blk.cell LB.out 3;clear LB;go_wp2_with fail;refine HVA.out.mono ?_;rintro e w6 ⟨rfl,hb6⟩;have B2d:=Lib.hid (B2c.out.trans (hb6.mono B2c.out.size));clear hb6 HVA l0 l1 l2 l3 B2c;generalize lo.isSome=lob;generalize lo.getD []=li at HIT hlol ⊢;have BXd:=Lib.hid (AL.out.trans (B2d.out.mono AL.out.size));have HCH:=Lib.hid (q1j 69 q5o n Fd.q6l a t (.slice aoa a.length capa) (.slice aok k.len capk) k (fun _=>true) K w6 ⟨_,_,rfl⟩ (HN.out.2.below HKX.out BXd.out) (fun b q=>Nat.lt_of_lt_of_le (HKX.out b q) BXd.out.size) (by omega) (z9r k K w6));generalize childR Fd.q6l (fun _=>true) k=cx at HCH;obtain⟨cb,hcb⟩:∃ cb,(Fd.z3g Fd.q6l (fun _=>true) k).isSome=cb:=⟨_,rfl⟩;rw[hcb] at HCH HIT;clear hcb;obtain⟨n0,n1,n2,n3⟩:=HFR.out w6 B2d.out;unfold V4 at HCH;go_wp2_with fail;refine HCH.out.mono ?_;rintro e w7 ⟨hb7,cva,cvk,rfl,hnd⟩;have B2e:=Lib.hid (B2d.out.trans (hb7.mono B2d.out.size));obtain⟨caoa,ccapa,hcva,_⟩:=id hnd.1;subst hcva;obtain⟨caok,ccapk,cxs,hcvk,_⟩:=id hnd.2;subst hcvk;have hal7:=(Below.refl w7.heap.size w7).alloc (Nat.le_refl _) (.cells #[.string (st cx.name),.slice caoa cx.ats.length ccapa,.string (st cx.text),.slice caok cx.kids.len ccapk] 53);have B2f:=Lib.hid (B2e.out.trans (hal7.mono B2e.out.size));clear hb7 hnd hal7 HCH n0 n1 n2 n3 BXd B2e B2d;go_upto_region 6 with fail;generalize w7.alloc (.cells #[.string (st cx.name),.slice caoa cx.ats.length ccapa,.string (st cx.text),.slice caok cx.kids.len ccapk] 53)=w3 at B2f ⊢;have B3:=B2f;clear B2f;go_upto_if 34 with fail
 go_cut [10] (fun y wz=>y=.string (st (if cb=true then Fd.q6l else Fd.tSum))∧w3=wz)
 case first =>
  as_aux_lemma =>
  cases cb with
  | true =>
   go_wp2_with fail;go_meet
   case rel=>exact⟨rfl,rfl⟩
  | false =>
   go_wp2_with fail;go_meet
   case rel=>exact⟨rfl,rfl⟩
 case rest =>
 as_aux_lemma =>
 obtain⟨rfl,hw⟩:=hcut;subst hw;generalize (if cb=true then Fd.q6l else Fd.tSum)=says at HIT ⊢;have BX:=Lib.hid (AL.out.trans (B3.out.mono AL.out.size));have HSX:Hid ((w3.drew.cell? ⟨N,0,none⟩=some (.string (st n))∧w3.drew.cell? ⟨N,1,none⟩=some (.slice aoa a.length capa)∧w3.drew.cell? ⟨N,2,none⟩=some (.string (st t))∧w3.drew.cell? ⟨N,3,none⟩=some (.slice aok k.len capk))∧∀ W,Below w3.heap.size w3.drew W→(W.cell? ⟨N,0,none⟩=some (.string (st n))∧W.cell? ⟨N,1,none⟩=some (.slice aoa a.length capa)∧W.cell? ⟨N,2,none⟩=some (.string (st t))∧W.cell? ⟨N,3,none⟩=some (.slice aok k.len capk))) :=
  ⟨HFR.out _ B3.out.drew,fun W hW=>HFR.out _ (B3.out.drew.trans (hW.mono B3.out.size))⟩
 have HW4:Hid (∀ W,Below w3.heap.size w3.drew W→∀ title,Calls Tryz.prog 118 #[.agg #[.string (st n),.slice aoa a.length capa,.string (st t),.slice aok k.len capk],.string (st title)] W fun e w'=>e=.returned (.string (st (Fd.Y5 k title)))∧Below w3.heap.size w3.drew w'):=fun W hW title=>(HWO.out W (BX.out.drew.trans (hW.mono BX.out.size)) title).mono (by rintro e w' ⟨h1,h2⟩;exact⟨h1,hW.trans (h2.mono hW.size)⟩)
 have HPU:Hid (∀ W,Below w3.heap.size w3.drew W→Calls Tryz.prog 119 #[.pointer (some ⟨M,0,none⟩),.agg #[.string (st (Fd.Y5 k Fd.tId)),.string (st (Fd.Y5 k Fd.z6p)),.string (st li),.int .i64 at_,.string (st (Fd.Y5 k says))]] W fun e w'=>e=.returned (.tuple #[])∧(∃ u',MpI w w' M base u' (Fd.putM base out (Fd.q0q k)))∧(w'.cell? ⟨N,0,none⟩=some (.string (st n))∧w'.cell? ⟨N,1,none⟩=some (.slice aoa a.length capa)∧w'.cell? ⟨N,2,none⟩=some (.string (st t))∧w'.cell? ⟨N,3,none⟩=some (.slice aok k.len capk))):=by
  intro W hW;have hBW:=BX.out.drew.trans (hW.mono BX.out.size);have hm:=HI.out.below hBW;refine(mp_put ⟨Fd.Y5 k Fd.tId,Fd.Y5 k Fd.z6p,li,at_,Fd.Y5 k says⟩ HG.out hM hm hb (by show li.length≤_;omega) hol).mono ?_;rintro e w' ⟨h1,h2,h3⟩;refine⟨h1,by rw[HIT.out];exact h2,?_⟩;have hNW:Blk W N 53 #[.string (st n),.slice aoa a.length capa,.string (st t),.slice aok k.len capk]:=((B3.out.drew.trans (hW.mono B3.out.size)).block N NB.out.lt).trans NB.out;have hN1:N ≠ M:=by have:=HI.out.mb.lt;omega
  have hN2:u.ownBlock ≠ some N:=fun e=>by have:=(HI.out.ow.lt N e).2;omega
  have hb':=hNW.ap h3 (by rintro (e | e);exact hN1 e;exact hN2 e);exact⟨Blk.cell hb' 0,Blk.cell hb' 1,Blk.cell hb' 2,Blk.cell hb' 3⟩
 have HWId:Hid (∀ W,Below w3.heap.size w3.drew W→Calls Tryz.prog 118 #[.agg #[.string (st n),.slice aoa a.length capa,.string (st t),.slice aok k.len capk],.string ⟨#[105,100]⟩] W fun e w'=>e=.returned (.string (st (Fd.Y5 k Fd.tId)))∧Below w3.heap.size w3.drew w'):=fun W hW=>HW4.out W hW Fd.tId
 have HWTitle:Hid (∀ W,Below w3.heap.size w3.drew W→Calls Tryz.prog 118 #[.agg #[.string (st n),.slice aoa a.length capa,.string (st t),.slice aok k.len capk],.string ⟨#[116,105,116,108,101]⟩] W fun e w'=>e=.returned (.string (st (Fd.Y5 k Fd.z6p)))∧Below w3.heap.size w3.drew w'):=fun W hW=>HW4.out W hW Fd.z6p
 have HWSays:Hid (∀ W,Below w3.heap.size w3.drew W→Calls Tryz.prog 118 #[.agg #[.string (st n),.slice aoa a.length capa,.string (st t),.slice aok k.len capk],.string (st says)] W fun e w'=>e=.returned (.string (st (Fd.Y5 k says)))∧Below w3.heap.size w3.drew w'):=fun W hW=>HW4.out W hW says
 clear AL NB HWO B3 BX HFR HI HN HKX HW4;go_upto_region 8 with fail
 go_region_held3 (fun w'=>w'.cell? ⟨N,0,none⟩=some (.string (st n))∧w'.cell? ⟨N,1,none⟩=some (.slice aoa a.length capa)∧w'.cell? ⟨N,2,none⟩=some (.string (st t))∧w'.cell? ⟨N,3,none⟩=some (.slice aok k.len capk)) (first
  | exact HSX.out.1
  | exact HSX.out.2 _ hb6
  | exact HSX.out.2 _ hb5
  | exact HSX.out.2 _ hb4
  | exact hcc8) (first
  | (go_at_call 118;with_reducible refine(HWId.out _ ?_).mono ?_;exact Below.refl _ _;rintro e w4 ⟨rfl,hb4⟩)
  | (go_at_call 118;with_reducible refine(HWTitle.out _ ?_).mono ?_;exact hb4;rintro e w5 ⟨rfl,hb5⟩)
  | (go_at_call 118;with_reducible refine(HWSays.out _ ?_).mono ?_;exact hb5;rintro e w6 ⟨rfl,hb6⟩)
  | (go_at_call 119;with_reducible refine(HPU.out _ ?_).mono ?_;exact hb6;rintro e w8 ⟨rfl,hmp8,hcc8⟩))
 all_goals
  go_wp2_with fail
  first | go_end0 | (simp only [Exit.inBlock,Exit.then];refine bodyPost_ret (results_none rfl _ _ _) rfl ?_) | refine bodyPost_ret (results_none rfl _ _ _) rfl ?_
  exact⟨rfl,hmp8⟩
end Go.Proofs.YtjonkbdldebkiaaGreatDoor
