/- Contract of the feed mapper's put: an entry is put, if it is right. Condition: a base of at most 3000 bytes. -/
import Derived.Test.YtjonkbdldebkiaaGreatDoorYWxJ
import Derived.Test.YtjonkbdldebkiaaGreatDoorYWeC
import Derived.StillTailTactics
import Derived.Deep.RegionLaw
import Derived.Deep.RegionHeld3
import Derived.Test.YtjonkbdldebkiaaGreatDoorYMkFlat1
import Derived.Test.YtjonkbdldebkiaaGreatDoorYWsA
import Derived.Test.YtjonkbdldebkiaaGreatDoorYMkTok7
set_option linter.unusedVariables false
set_option linter.unusedSimpArgs false
set_option maxHeartbeats 60000000
set_option maxRecDepth 100000
namespace Go.Proofs.YtjonkbdldebkiaaGreatDoor
open Go.Proofs.Tryz Go.RowKit
structure MpI (w wx:World) (M:Nat) (base:List UInt8) (u:Value) (out:List Fd.En):Prop where
 ml:M < w.heap.size
 mb:Blk wx M 118 #[.string (st base),u]
 ap:Ap (fun b=>b=M) w wx
 ow:wx.ownsRow w.heap.size 44 5 u out.length (y9 out)
structure PtI (w w0 wx:World) (M X:Nat) (base:List UInt8) (u:Value) (out:List Fd.En) (id ti li:List UInt8) (at_:Int) (ht:List UInt8):Prop where
 m:MpI w wx M base u out
 ax:Ap (fun b=>b=M∨u.ownBlock=some b) w0 wx
 xn:w0.heap.size≤X
 xl:w.heap.size≤X
 xo:u.ownBlock ≠ some X
 xb:Blk wx X 44 #[.string (st id),.string (st ti),.string (st li),.int .i64 at_,.string (st ht)]
section
variable {w w0 wx wy : World} {M X : Nat} {base : List UInt8} {u : Value} {out : List Fd.En} {id ti li ht : List UInt8} {at_ : Int}
theorem MpI.not (h:MpI w wx M base u out):∀ g,w.heap.size≤g→¬ (fun b=>b=M) g:=by
 intro g hg e;have e:g=M:=e;have:=h.ml;omega
theorem MpI.below (h:MpI w wx M base u out) (hb:Below wx.heap.size wx wy):MpI w wy M base u out :=
 ⟨h.ml,(hb.block M h.mb.lt).trans h.mb,h.ap.trans (Ap.of_below hb),z2g h.ow (Ap.of_below (S:=fun b=>b=M) hb) h.not⟩
theorem MpI.drew (h:MpI w wx M base u out):MpI w wx.drew M base u out:=h.below ((Below.refl _ wx).drew)
theorem MpI.gl (h:MpI w wx M base u out) (hg:Gl w) (hM:4 < M):Gl wx:=hg.ap h.ap (by intro e;have e:0=M:=e;omega) (by intro e;have e:4=M:=e;omega)
theorem PtI.begin_ (h:MpI w wx M base u out) (id ti li:List UInt8) (at_:Int) (ht:List UInt8):PtI w wx (wx.alloc (.cells #[.string (st id),.string (st ti),.string (st li),.int .i64 at_,.string (st ht)] 44)) M wx.heap.size base u out id ti li at_ ht :=
 ⟨h.below ((Below.refl _ wx).alloc (Lr) _),(Ap.refl _ wx).alloc _,Lr,h.ap.size,fun e=>absurd (h.ow.lt _ e).2 (Nat.lt_irrefl _),Blk.new wx _ _⟩
theorem PtI.ne (h:PtI w w0 wx M X base u out id ti li at_ ht):M ≠ X:=by
 have:=h.m.ml;have:=h.xl;omega
theorem PtI.below (h:PtI w w0 wx M X base u out id ti li at_ ht) (hb:Below wx.heap.size wx wy):PtI w w0 wy M X base u out id ti li at_ ht:=⟨h.m.below hb,h.ax.trans (Ap.of_below hb),h.xn,h.xl,h.xo,(hb.block X h.xb.lt).trans h.xb⟩
theorem PtI.drew (h:PtI w w0 wx M X base u out id ti li at_ ht):PtI w w0 wx.drew M X base u out id ti li at_ ht:=h.below ((Below.refl _ wx).drew)
theorem MpI.far (h:MpI w wx M base u out) (hX:w.heap.size≤X) (hX2:u.ownBlock ≠ some X) (i:Nat) (v:Value):MpI w (wx.setCell ⟨X,i,none⟩ v) M base u out :=
 ⟨h.ml,Blk.far h.mb (p:=⟨X,i,none⟩) (fun e=>by have e:M=X:=e;have:=h.ml;omega) _,h.ap.setNew (p:=⟨X,i,none⟩) hX _,ownsRow_setCell_other h.ow (a:=⟨X,i,none⟩) hX2 _⟩
theorem PtI.setLi (h:PtI w w0 wx M X base u out id ti li at_ ht) (v:List UInt8):PtI w w0 (wx.setCell ⟨X,2,none⟩ (.string (st v))) M X base u out id ti v at_ ht:=⟨h.m.far h.xl h.xo 2 _,h.ax.setNew (p:=⟨X,2,none⟩) h.xn _,h.xn,h.xl,h.xo,Blk.set_ h.xb 2 _⟩
theorem PtI.setId (h:PtI w w0 wx M X base u out id ti li at_ ht) (v:List UInt8):PtI w w0 (wx.setCell ⟨X,0,none⟩ (.string (st v))) M X base u out v ti li at_ ht:=⟨h.m.far h.xl h.xo 0 _,h.ax.setNew (p:=⟨X,0,none⟩) h.xn _,h.xn,h.xl,h.xo,Blk.set_ h.xb 0 _⟩
theorem PtI.setHt (h:PtI w w0 wx M X base u out id ti li at_ ht) (v:List UInt8):PtI w w0 (wx.setCell ⟨X,4,none⟩ (.string (st v))) M X base u out id ti li at_ v:=⟨h.m.far h.xl h.xo 4 _,h.ax.setNew (p:=⟨X,4,none⟩) h.xn _,h.xn,h.xl,h.xo,Blk.set_ h.xb 4 _⟩
theorem MpI.pushed (h:MpI w wx M base u out) {x:Fd.En} {v':Value} {wz:World}
  (hown:wz.ownsRow w.heap.size 44 5 v' (out.length + 1) (y9 out++enV x)) (hgr:(wx.alloc (.cells (enV x).toArray 44)).grownBy wz u.ownBlock):MpI w (wz.setCell ⟨M,1,none⟩ v') M base v' (out++[x]):=by
 have hm:=h.ml;have hS:∀ k,u.ownBlock=some k→w.heap.size≤k:=fun k e=>(h.ow.lt k e).1
 have A1:=h.ap.alloc (.cells (enV x).toArray 44);have A2:Ap (fun b=>b=M) w wz:=A1.grown hgr (fun k hk e=>absurd hk (by have:=hS k e;omega));have B2:Blk wz M 118 #[.string (st base),u]:=(hgr.block M (by have:=h.mb.lt;simp;omega) (fun e=>by have:=hS M e.symm;omega)).trans (Blk.alloc h.mb _);refine⟨hm,Blk.set_ B2 1 _,A2.setCell (p:=⟨M,1,none⟩) rfl _,?_⟩;rw[List.length_append,show y9 (out++[x])=y9 out++enV x by simp[y9]];exact ownsRow_setCell_other hown (a:=⟨M,1,none⟩) (fun e=>by have:=(hown.lt M e).1;omega) _
end
theorem Tryz.infoEnt:(prog.info? 44).map (fun i=>(i.zero,i.size,i.bytes))=some (some (.agg #[.string ⟨#[]⟩,.string ⟨#[]⟩,.string ⟨#[]⟩,.int .i64 0,.string ⟨#[]⟩]),5,72):=by kernel_rfl
theorem eg_put (args:Array Value) (w:World):(callFunc 177 args).run prog w=.ok (.enter 177 args) w:=Z7 func177 (by kernel_rfl) rfl _ _
theorem asks_put (X:Nat) (id:List UInt8) (l:List Fd.En) (w:World) (hX:X < w.heap.size) (hc:w.cell? ⟨X,0,none⟩=some (.string (st id))):AsksE 177 #[.pointer (some ⟨X,0,none⟩)] (fun z=>z.id == id) l w:=by
 intro w1 hb z _;have c0:w1.cell? ⟨X,0,none⟩=some (.string (st id)):=(hb.cell (p:=⟨X,0,none⟩) hX).trans hc;have hX1:X < w1.heap.size:=Nat.lt_of_lt_of_le hX hb.size;unfold enAg;go_enter func177,ntmps177;go_wp2_with fail;go_ret;exact⟨Z8 (by rw[show (st z.id).toList=z.id from Lib.toList_data _,show (st id).toList=id from Lib.toList_data _]),(Below.refl _ w1).alloc (Lr) _⟩
theorem mp_put {w wx:World} {M:Nat} {base:List UInt8} {u:Value} {out:List Fd.En} (x:Fd.En) (hg:Gl w) (hM:4 < M) (h:MpI w wx M base u out) (hb:base.length≤3000) (hx:x.li.length≤1000000) (hol:out.length≤12) :
  Calls prog 119 #[.pointer (some ⟨M,0,none⟩),enAg x] wx fun e w'=>e=.returned (.tuple #[])∧(∃ u',MpI w w' M base u' (Fd.putM base out x))∧Ap (fun b=>b=M∨u.ownBlock=some b) wx w':=by
 have hst:∀ l:List UInt8,(st l).toList=l:=fun l=>Lib.toList_data _
 obtain⟨id,ti,li,at_,ht⟩:=x;have HPM:Hid (Fd.putM base out ⟨id,ti,li,at_,ht⟩=if 3000 < base.length∨3000 < ht.length∨out.length=12∨Fd.z03 (Fd.asM base ⟨id,ti,li,at_,ht⟩) ≠ 0∨(out.any fun z=>z.id == (Fd.asM base ⟨id,ti,li,at_,ht⟩).id)=true then out else out++[Fd.asM base ⟨id,ti,li,at_,ht⟩]):=rfl;have HAS:Hid (Fd.asM base ⟨id,ti,li,at_,ht⟩=⟨if id=[] then Fd.q38 base li else id,ti,Fd.q38 base li,at_,Mk.html base ht⟩):=rfl;have HLM:Hid (Fd.q38 base li=if Mg.isSafe (Mk.light base li) then Mk.light base li else []):=rfl;generalize Fd.putM base out ⟨id,ti,li,at_,ht⟩=res at HPM ⊢;generalize Fd.asM base ⟨id,ti,li,at_,ht⟩=xa at HPM HAS;generalize Fd.q38 base li=lm at HAS HLM;obtain⟨ao,cap,hu⟩:=Z9 h.ow;subst hu;have P0:=Ld (PtI.begin_ h id ti li at_ ht);have HG:=Ld hg;have HLT:=Ld (fun W=>q7c base li W);have hll:=q6c base li;have hx':li.length≤1000000:=hx;generalize Mk.light base li=lv at HLM HLT hll;clear h hg hx;unfold enAg;go_enter func119,ntmps119;go_upto_region 1 with fail;obtain⟨X,hX⟩:∃ X,X=wx.heap.size:=⟨_,rfl⟩;rw[← hX] at P0;rw[← hX];generalize wx.alloc (.cells #[.string (st id),.string (st ti),.string (st li),.int .i64 at_,.string (st ht)] 44)=w1 at P0 ⊢;clear hX;have m0:w1.cell? ⟨M,0,none⟩=some (.string (st base)):=Blk.cell P0.out.m.mb 0;have x2:w1.cell? ⟨X,2,none⟩=some (.string (st li)):=Blk.cell P0.out.xb 2;go_still_tail 6,(by kernel_rfl);change wpList _ _ _ _ _ w1.drew;have P1:=Ld P0.out.drew;generalize w1.drew=w2 at P1 ⊢;clear P0 m0 x2;go_wp2_with fail;refine(HLT.out _).mono ?_;rintro e w3 ⟨rfl,hb3⟩;have P2:=Ld (P1.out.below hb3);clear hb3 HLT P1;have y2:w3.cell? ⟨X,2,none⟩=some (.string (st li)):=Blk.cell P2.out.xb 2;have f2:=Blk.frozen P2.out.xb 2;have P3:=Ld (P2.out.setLi lv);go_upto_region 2 with fail;generalize w3.setCell ⟨X,2,none⟩ (.string (st lv))=w4 at P3 ⊢;clear y2 f2 P2;have y2:w4.cell? ⟨X,2,none⟩=some (.string (st lv)):=Blk.cell P3.out.xb 2;have his:=j0g (st lv) w4 (by rw[Z4];omega);rw[z1o] at his;obtain⟨bs,hbs⟩:∃ bs,Mg.isSafe lv=bs:=⟨_,rfl⟩;rw[hbs] at his HLM;have HIS:=Ld his;clear his hbs;go_wp2_with fail;refine HIS.out.mono ?_;rintro e w5 ⟨rfl,hb5⟩;have P4:=Ld (P3.out.below hb5);clear hb5 HIS P3 y2;go_upto_if 17 with fail
 go_cut [] (fun wz=>Hid (PtI w wx wz M X base (.slice ao out.length cap) out id ti lm at_ ht))
 case first =>
  as_aux_lemma =>
  cases bs with
  | true =>
   have HL2:Hid (lm=lv):=by show _=_;rw[HLM.out];rfl
   go_wp2_with fail;go_meet
   case rel=>rw[HL2.out];exact P4
  | false =>
   have HL2:Hid (lm=[]):=by show _=_;rw[HLM.out];rfl
   have y2:w5.cell? ⟨X,2,none⟩=some (.string (st lv)):=Blk.cell P4.out.xb 2;have f2:=Blk.frozen P4.out.xb 2;go_wp2_with fail;go_meet
   case rel=>rw[HL2.out];exact P4.out.setLi []
 case rest =>
 as_aux_lemma =>
 obtain⟨w6,hw6⟩:∃ z,z=wc:=⟨_,rfl⟩;subst hw6;have P5:=hcut;clear hcut HLM hll P4;obtain⟨idn,hidn⟩:∃ idn,(if id=[] then lm else id)=idn:=⟨_,rfl⟩;rw[hidn] at HAS;have HID:=Ld hidn;clear hidn;have y0:w6.cell? ⟨X,0,none⟩=some (.string (st id)):=Blk.cell P5.out.xb 0;have y2:w6.cell? ⟨X,2,none⟩=some (.string (st lm)):=Blk.cell P5.out.xb 2;have f0:=Blk.frozen P5.out.xb 0;go_upto_region 4 with fail;go_upto_if 21 with fail
 go_cut [] (fun wz=>Hid (PtI w wx wz M X base (.slice ao out.length cap) out idn ti lm at_ ht))
 case first =>
  as_aux_lemma =>
  rcases z3c id with ⟨e1,e2⟩ | ⟨e1,e2⟩
  ·have HI2:Hid (idn=lm):=by show _=_;rw[← HID.out,if_pos e1]
   clear e1;rw[e2];go_wp2_with fail;go_meet
   case rel=>rw[HI2.out];exact P5.out.setId lm
  ·have HI2:Hid (idn=id):=by show _=_;rw[← HID.out,if_neg e1]
   clear e1;rw[e2];go_wp2_with fail;go_meet
   case rel=>rw[HI2.out];exact P5
 case rest =>
 as_aux_lemma =>
 obtain⟨w7,hw7⟩:∃ z,z=wc:=⟨_,rfl⟩;subst hw7;have P6:=hcut;clear hcut HID P5 y0 y2 f0;have hhh:∃ (T:List UInt8) (C:Int),Hid ((C=2∧3000 < ht.length)∨(C=0∧¬ 3000 < ht.length∧T=Mk.html base ht))∧∀ W,Gl W→Calls prog 19 #[.string (st base),.string (st ht)] W fun e w'=>e=.returned (.tuple #[.string (st T),.int .i64 C])∧Below W.heap.size W w':=by
  by_cases hlong:3000 < ht.length
  ·exact⟨[],2,.inl ⟨rfl,hlong⟩,fun W _=>(q5u base ht W (.inr hlong)).mono (by rintro e w3 ⟨rfl,rfl⟩;exact⟨rfl,Below.refl _ _⟩)⟩
  ·exact⟨Mk.html base ht,0,.inr ⟨rfl,hlong,rfl⟩,fun W hW=>j1j base ht W hW hb (by omega)⟩
 obtain⟨T,C,HTC,hh⟩:=hhh;have HH:=Ld (hh w7.drew (P6.out.drew.m.gl HG.out hM));clear hh;have m0:w7.cell? ⟨M,0,none⟩=some (.string (st base)):=Blk.cell P6.out.m.mb 0;have x4:w7.cell? ⟨X,4,none⟩=some (.string (st ht)):=Blk.cell P6.out.xb 4;go_upto_region 6 with fail;have HSX:Hid ((w7.drew.cell? ⟨M,0,none⟩=some (.string (st base))∧w7.drew.cell? ⟨X,4,none⟩=some (.string (st ht)))∧∀ W,Below w7.heap.size w7.drew W→(W.cell? ⟨M,0,none⟩=some (.string (st base))∧W.cell? ⟨X,4,none⟩=some (.string (st ht)))) :=
  ⟨⟨Blk.cell P6.out.drew.m.mb 0,Blk.cell P6.out.drew.xb 4⟩,fun W hW=>⟨Blk.cell (P6.out.drew.below hW).m.mb 0,Blk.cell (P6.out.drew.below hW).xb 4⟩⟩
 clear m0 x4
 go_region_held3 (fun w'=>w'.cell? ⟨M,0,none⟩=some (.string (st base))∧w'.cell? ⟨X,4,none⟩=some (.string (st ht))) (first
  | exact HSX.out.1
  | exact HSX.out.2 _ hb9) (first | (go_at_call 19;refine HH.out.mono ?_;rintro e w9 ⟨rfl,hb9⟩))
 have P8:=Ld (P6.out.drew.below hb9);clear hb9 HH P6 HSX;have x4:w9.cell? ⟨X,4,none⟩=some (.string (st ht)):=Blk.cell P8.out.xb 4;have f4:=Blk.frozen P8.out.xb 4;have P9:=Ld (P8.out.setHt T);go_upto_region 8 with fail;generalize w9.setCell ⟨X,4,none⟩ (.string (st T))=w10 at P9 ⊢;clear x4 f4 P8
 go_cut [59] (fun b wz=>∃ bb,b=.bool bb∧Hid (PtI w wx wz M X base (.slice ao out.length cap) out idn ti lm at_ T)∧Hid (res=if bb=true then out else out++[⟨idn,ti,lm,at_,T⟩]))
 case first =>
  as_aux_lemma =>
  rcases HTC.out with ⟨hc,hlong⟩ | ⟨hc,hshort,hT⟩
  ·as_aux_lemma =>
   subst hc;have HE:Hid (res=out):=by show _=_;rw[HPM.out,if_pos (.inr (.inl hlong))]
   clear HPM HAS HTC hlong;go_wp2_with fail;go_meet
   case rel=>exact⟨true,rfl,P9,HE.out⟩
  subst hc;have HAS2:Hid (xa=⟨idn,ti,lm,at_,T⟩):=by show _=_;rw[HAS.out,hT]
  clear HTC HAS hT
  by_cases h12:out.length=12
  ·as_aux_lemma =>
   have HE:Hid (res=out):=by show _=_;rw[HPM.out,if_pos (.inr (.inr (.inl h12)))]
   have m1:w10.cell? ⟨M,1,none⟩=some (.slice ao out.length cap):=Blk.cell P9.out.m.mb 1;have hli:(out.length:Int)=12:=by omega
   clear HPM HAS2 hol;go_wp2_with fail;go_meet
   case rel=>exact⟨true,rfl,P9,HE.out⟩
  have m1:w10.cell? ⟨M,1,none⟩=some (.slice ao out.length cap):=Blk.cell P9.out.m.mb 1;have hli:((out.length:Int) == 12)=false:=beq_eq_false_iff_ne.2 (by omega);have x0:w10.cell? ⟨X,0,none⟩=some (.string (st idn)):=Blk.cell P9.out.xb 0;have x1:w10.cell? ⟨X,1,none⟩=some (.string (st ti)):=Blk.cell P9.out.xb 1;have x2:w10.cell? ⟨X,2,none⟩=some (.string (st lm)):=Blk.cell P9.out.xb 2;have x3:w10.cell? ⟨X,3,none⟩=some (.int .i64 at_):=Blk.cell P9.out.xb 3;have x4:w10.cell? ⟨X,4,none⟩=some (.string (st T)):=Blk.cell P9.out.xb 4;have HCK:=Ld (q4j ⟨idn,ti,lm,at_,T⟩ w10 (P9.out.m.gl HG.out hM));obtain⟨ck,hck1⟩:∃ ck,Fd.z03 ⟨idn,ti,lm,at_,T⟩=ck:=⟨_,rfl⟩;rw[hck1] at HCK;have hck:Fd.z03 xa=ck:=by rw[HAS2.out];exact hck1
  clear hck1;unfold enAg at *;go_wp2_with fail;refine HCK.out.mono ?_;rintro e w11 ⟨rfl,hb11⟩;have P10:=Ld (P9.out.below hb11);clear hb11 HCK P9 m1 x0 x1 x2 x3 x4
  by_cases hc0:ck=0
  case neg =>
   as_aux_lemma =>
   have HE:Hid (res=out):=by show _=_;rw[HPM.out,if_pos (.inr (.inr (.inr (.inl (by rw[hck];exact hc0)))))]
   have hcb:(ck == 0)=false:=beq_eq_false_iff_ne.2 hc0;have hcn:(ck != 0)=true:=by simp[hc0]
   clear HPM HAS2 hck hc0 h12;go_wp2_with fail;go_meet
   case rel=>exact⟨true,rfl,P10,HE.out⟩
  subst hc0;have m1:w11.cell? ⟨M,1,none⟩=some (.slice ao out.length cap):=Blk.cell P10.out.m.mb 1;have x0:w11.cell? ⟨X,0,none⟩=some (.string (st idn)):=Blk.cell P10.out.xb 0;have hev:z18 w11 (fun b=>b < w11.heap.size) (.slice ao out.length cap) out:=by
   obtain⟨ao',cap',h1,h2,h3⟩:=z19.of_own (K:=fun b=>b < w11.heap.size) P10.out.m.ow (fun g hg=>(P10.out.m.ow.lt g hg).2);injection h1 with e1 e2 e3;subst e1;subst e3;exact⟨ao,cap,rfl,h2,h3⟩
  have HCF:=Ld (q02 177 #[.pointer (some ⟨X,0,none⟩)] (fun z=>z.id == idn) eg_put out _ _ w11 hev (fun b q=>q) (by omega) (asks_put X idn out w11 (Blk.lt P10.out.xb) x0));obtain⟨ba,hba⟩:∃ ba,(out.any fun z=>z.id == idn)=ba:=⟨_,rfl⟩;rw[hba] at HCF;have HBA:=Ld hba;have hmf:∀ (fn:Fn) (first cap:Array Value) (w:World),(Instr.makeFunc fn first cap).run prog w=.ok (.func fn first cap) w:=fun _ _ _ _=>rfl
  clear hba hev;go_wp2_with fail;refine HCF.out.mono ?_;rintro e w12 ⟨rfl,hb12⟩;have P11:=Ld (P10.out.below hb12);clear hb12 HCF P10 m1 x0
  cases ba with
  | true =>
   as_aux_lemma =>
   have HE:Hid (res=out):=by show _=_;rw[HPM.out,if_pos (.inr (.inr (.inr (.inr (by rw[HAS2.out];exact HBA.out)))))]
   clear HPM HAS2 hck h12;go_wp2_with fail;go_meet
   case rel=>exact⟨true,rfl,P11,HE.out⟩
  | false =>
   have HE:Hid (res=out++[⟨idn,ti,lm,at_,T⟩]):=by
    show _=_;rw[HPM.out,if_neg,HAS2.out];rintro (q | q | q | q | q)
    ·omega
    ·exact hshort q
    ·exact h12 q
    ·exact q hck
    ·rw[HAS2.out,HBA.out] at q;cases q
   clear HPM HAS2 hck hshort;clear h12;go_wp2_with fail;go_meet
   case rel=>exact⟨false,rfl,P11,HE.out⟩
 case rest =>
 as_aux_lemma =>
 obtain⟨bb,rfl,P11,HE⟩:=hcut;obtain⟨w12,hw12⟩:∃ z,z=wc:=⟨_,rfl⟩;subst hw12;clear HPM HAS HTC P9
 cases bb with
 | true =>
  have HE:Hid (res=out):=HE;go_wp2_with fail
  first | go_end0 | (simp only [Exit.inBlock,Exit.then];refine bodyPost_ret (results_none rfl _ _ _) rfl ?_) | refine bodyPost_ret (results_none rfl _ _ _) rfl ?_
  exact⟨rfl,⟨_,by rw[HE.out];exact P11.out.m⟩,P11.out.ax⟩
 | false =>
 have HE:Hid (res=out++[⟨idn,ti,lm,at_,T⟩]):=HE;have m1:w12.cell? ⟨M,1,none⟩=some (.slice ao out.length cap):=Blk.cell P11.out.m.mb 1;have x0:w12.cell? ⟨X,0,none⟩=some (.string (st idn)):=Blk.cell P11.out.xb 0;have x1:w12.cell? ⟨X,1,none⟩=some (.string (st ti)):=Blk.cell P11.out.xb 1;have x2:w12.cell? ⟨X,2,none⟩=some (.string (st lm)):=Blk.cell P11.out.xb 2;have x3:w12.cell? ⟨X,3,none⟩=some (.int .i64 at_):=Blk.cell P11.out.xb 3;have x4:w12.cell? ⟨X,4,none⟩=some (.string (st T)):=Blk.cell P11.out.xb 4;go_upto_region 9 with fail;have P12:=Ld P11.out.drew;have PA:=P12.out.below ((Below.refl _ w12.drew).alloc (Lr) (.cells #[.string (st idn),.string (st ti),.string (st lm),.int .i64 at_,.string (st T)] 44));have ma:(w12.alloc (.cells #[.string (st idn),.string (st ti),.string (st lm),.int .i64 at_,.string (st T)] 44)).cell? ⟨M,1,none⟩=some (.slice ao out.length cap):=Blk.cell PA.m.mb 1;obtain⟨i0,hi,hz0,hz1,hz2⟩:=info_parts Tryz.infoEnt;have ow10:=z0f P12.out.m.ow ((Ap.refl (fun _=>False) w12.drew).alloc (.cells #[.string (st idn),.string (st ti),.string (st lm),.int .i64 at_,.string (st T)] 44)) (fun _ _ q=>q);have hsz:w.heap.size≤w12.heap.size:=P12.out.m.ap.size;have HPU:Hid (∀ v' w',w'.ownsRow w.heap.size 44 5 v' (out.length + 1) (y9 out++[.string (st idn),.string (st ti),.string (st lm),.int .i64 at_,.string (st T)])→(w12.drew.alloc (.cells #[.string (st idn),.string (st ti),.string (st lm),.int .i64 at_,.string (st T)] 44)).grownBy w' (Value.slice ao out.length cap).ownBlock →
   (MpI w (w'.setCell ⟨M,1,none⟩ v') M base v' (out++[⟨idn,ti,lm,at_,T⟩])∧Ap (fun b=>b=M∨(Value.slice ao out.length cap).ownBlock=some b) wx (w'.setCell ⟨M,1,none⟩ v'))∧w'.cell? ⟨M,1,none⟩=some (.slice ao out.length cap)∧w'.frozen? ⟨M,1,none⟩=false):=by
  intro v' w' hown hgr;have hMS:some M ≠ (Value.slice ao out.length cap).ownBlock:=by
   intro e;have:=(P12.out.m.ow.lt M e.symm).1;have:=P12.out.m.ml;omega
  have MB14:Blk w' M 118 #[.string (st base),.slice ao out.length cap]:=(hgr.block M (by have:=P12.out.m.mb.lt;simp at this ⊢;omega) hMS).trans (Blk.alloc P12.out.m.mb _);exact⟨⟨P12.out.m.pushed (x:=⟨idn,ti,lm,at_,T⟩) hown hgr,((P12.out.ax.alloc _).grown hgr (fun _ _ e=>.inr e)).setCell (p:=⟨M,1,none⟩) (.inl rfl) _⟩,Blk.cell MB14 1,Blk.frozen MB14 1⟩
 clear P11 P12 PA;have HAD:Hid ((w12.alloc (.cells #[.string (st idn),.string (st ti),.string (st lm),.int .i64 at_,.string (st T)] 44)).drew=w12.drew.alloc (.cells #[.string (st idn),.string (st ti),.string (st lm),.int .i64 at_,.string (st T)] 44)):=rfl
 go_region_law ((try rw[HAD.out]);refine z4i rfl (.tmp 64) (.tmp 66) 23 rfl w.heap.size 44 i0 (.agg #[.string ⟨#[]⟩,.string ⟨#[]⟩,.string ⟨#[]⟩,.int .i64 0,.string ⟨#[]⟩]) 5 72 underlying23 hi hz0 hz1 hz2 rfl (by decide) (.slice ao out.length cap) out.length (y9 out) (by first | (simp[Act.eval,Act.put];done) | (simp[Act.eval,Act.put];rfl)) ow10 ⟨w12.drew.heap.size,0,none⟩ 1 1 [.string (st idn),.string (st ti),.string (st lm),.int .i64 at_,.string (st T)] (by first | (simp[Act.eval,Act.put];done) | (simp[Act.eval,Act.put];rfl)) rfl (z0h _ _ _) (by intro u hu;simp at hu;rcases hu with rfl | rfl | rfl | rfl | rfl <;> rfl) (by unfold maxLen;omega) (by omega) (by simp;omega) ?_;intro v' w14 hown' hgrow _;have hR:=HPU.out v' w14 hown' hgrow;have c1:=hR.2.1;have f1:=hR.2.2;have R:=Ld hR.1;obtain⟨ao2,cap2,hv2⟩:=Z9 hown';subst hv2;clear hR hown' hgrow)
 all_goals
  go_wp2_with fail
  first | go_end0 | (simp only [Exit.inBlock,Exit.then];refine bodyPost_ret (results_none rfl _ _ _) rfl ?_) | refine bodyPost_ret (results_none rfl _ _ _) rfl ?_
  exact⟨rfl,⟨_,by rw[HE.out];exact R.out.1⟩,R.out.2⟩
end Go.Proofs.YtjonkbdldebkiaaGreatDoor
namespace Fd
theorem j7v (s:Bs):(q7a s).length≤s.length:=by
 unfold q7a V8;rw[List.length_reverse];refine Nat.le_trans (List.dropWhile_suffix z2s).length_le ?_;rw[List.length_reverse];exact(List.dropWhile_suffix z2s).length_le
end Fd
namespace Go.Proofs.YtjonkbdldebkiaaGreatDoor
open Go.Proofs.Tryz Go.RowKit
theorem q3r (k:Mk.Fo) (t:List UInt8):(Fd.X9 k t).length≤k.bulk:=by
 have h:=z3o t (fun _=>true) k;have h1:=Fd.j7v ((childR t (fun _=>true) k).text++Fd.z16 (childR t (fun _=>true) k).kids);have h2:=Fd.z2k (childR t (fun _=>true) k).kids;rw[List.length_append] at h1;have h3:Fd.X9 k t=Fd.q7a ((childR t (fun _=>true) k).text++Fd.z16 (childR t (fun _=>true) k).kids):=rfl;rw[h3];omega
theorem MpI.node {w wx:World} {M:Nat} {base:List UInt8} {u:Value} {out:List Fd.En} (h:MpI w wx M base u out) {K:Nat→Prop} {va vk:Value} {x:Fd.Nd} (hn:NdV w K va vk x) (hK:∀ b,K b→b < w.heap.size∧b ≠ M):NdV wx K va vk x:=by
 have kp:∀ b,K b→K b∧wx.heap[b]? = w.heap[b]?:=fun b hb=>⟨hb,h.ap.block b (hK b hb).1 (fun e=>(hK b hb).2 e)⟩
 exact⟨hn.1.frame kp,hn.2.frame kp⟩
theorem mp_item {w wx:World} {M:Nat} {base:List UInt8} {u:Value} {out:List Fd.En} (hg:Gl w) (hM:4 < M) (h:MpI w wx M base u out) (hb:base.length≤3000) (hol:out.length≤12)
  (n t:List UInt8) (a:List Mk.At) (k:Mk.Fo) (va vk:Value) (K:Nat→Prop) (hnd:NdV w K va vk ⟨n,a,t,k⟩) (hK:∀ b,K b→b < w.heap.size∧b ≠ M) (hl:k.bulk≤100000) :
  Calls prog 71 #[.pointer (some ⟨M,0,none⟩),z05 n va t vk] wx fun e w'=>e=.returned (.tuple #[])∧∃ u',MpI w w' M base u' (Fd.putM base out (Fd.q4n k)):=by
 have hnx:=h.node hnd hK;have hKx:∀ b,K b→b < wx.heap.size:=fun b q=>Nat.lt_of_lt_of_le (hK b q).1 h.ap.size
 obtain⟨aoa,capa,hva1,_⟩:=id hnx.1;subst hva1;obtain⟨aok,capk,xsk,hvk1,_⟩:=id hnx.2;subst hvk1;have HI:=Ld h;have HN:=Ld hnx;have HKX:=Ld hKx;have HG:=Ld hg;have hmp:=Ld (q3r k);have hal:=(Below.refl wx.heap.size wx).alloc (Lr) (.cells #[.string (st n),.slice aoa a.length capa,.string (st t),.slice aok k.len capk] 53);have AL:=Ld hal;have NB:=Ld (Blk.new wx 53 #[.string (st n),.slice aoa a.length capa,.string (st t),.slice aok k.len capk]);have HWO:Hid (∀ W,Below wx.heap.size wx W→∀ title,Calls prog 118 #[.agg #[.string (st n),.slice aoa a.length capa,.string (st t),.slice aok k.len capk],.string (st title)] W fun e w'=>e=.returned (.string (st (Fd.X9 k title)))∧Below W.heap.size W w'):=by
  intro W hW title;exact q9i n title a t (.slice aoa a.length capa) (.slice aok k.len capk) k K W ⟨_,_,rfl⟩ (hnx.2.below hKx hW) (fun b q=>Nat.lt_of_lt_of_le (hKx b q) hW.size) (by omega)
 have HFR:Hid (∀ W,Below (wx.alloc (.cells #[.string (st n),.slice aoa a.length capa,.string (st t),.slice aok k.len capk] 53)).heap.size (wx.alloc (.cells #[.string (st n),.slice aoa a.length capa,.string (st t),.slice aok k.len capk] 53)) W→(W.cell? ⟨wx.heap.size,0,none⟩=some (.string (st n))∧W.cell? ⟨wx.heap.size,1,none⟩=some (.slice aoa a.length capa)∧W.cell? ⟨wx.heap.size,2,none⟩=some (.string (st t))∧W.cell? ⟨wx.heap.size,3,none⟩=some (.slice aok k.len capk))):=by
  intro W hW;have hb:=Blk.below NB.out hW (Blk.lt NB.out);exact⟨Blk.cell hb 0,Blk.cell hb 1,Blk.cell hb 2,Blk.cell hb 3⟩
 have HIT:Hid (Fd.q4n k=⟨Fd.X9 k Fd.j3j,Fd.X9 k Fd.z5z,Fd.X9 k Fd.z8t,(Fd.q6e (Fd.X9 k Fd.tPub)).1,Fd.X9 k Fd.j3i⟩):=rfl;clear hal h hnx hKx hnd hK hg;unfold z05;go_enter func71,ntmps71;go_upto_region 1 with fail;obtain⟨N,hN⟩:∃ N,N=wx.heap.size:=⟨_,rfl⟩;rw[← hN] at NB HFR;rw[← hN];generalize wx.alloc (.cells #[.string (st n),.slice aoa a.length capa,.string (st t),.slice aok k.len capk] 53)=w1 at AL NB HFR ⊢;have hNx:wx.heap.size≤N:=Nat.le_of_eq hN.symm;clear hN;obtain⟨n0,n1,n2,n3⟩:=HFR.out w1 (Below.refl _ _);go_wp2_with fail;refine(HWO.out _ AL.out Fd.tPub).mono ?_;rintro e w2 ⟨rfl,hb2⟩;have B2:=Ld hb2;have hml:=hmp.out Fd.tPub;have HMA:=Ld (dt_Mail (Fd.X9 k Fd.tPub) w2 (by omega));clear hb2 n0 n1 n2 n3;go_wp2_with fail;refine HMA.out.mono ?_;rintro e w3 ⟨rfl,hb3⟩;have B3:=Ld (B2.out.trans (hb3.mono B2.out.size));clear hb3 HMA B2;generalize (Fd.q6e (Fd.X9 k Fd.tPub)).2=ee;generalize (Fd.q6e (Fd.X9 k Fd.tPub)).1=at_ at HIT ⊢
 have BX:=Ld (AL.out.trans (B3.out.mono AL.out.size));have HSX:Hid ((w3.drew.cell? ⟨N,0,none⟩=some (.string (st n))∧w3.drew.cell? ⟨N,1,none⟩=some (.slice aoa a.length capa)∧w3.drew.cell? ⟨N,2,none⟩=some (.string (st t))∧w3.drew.cell? ⟨N,3,none⟩=some (.slice aok k.len capk))∧∀ W,Below w3.heap.size w3.drew W→(W.cell? ⟨N,0,none⟩=some (.string (st n))∧W.cell? ⟨N,1,none⟩=some (.slice aoa a.length capa)∧W.cell? ⟨N,2,none⟩=some (.string (st t))∧W.cell? ⟨N,3,none⟩=some (.slice aok k.len capk))) :=
  ⟨HFR.out _ B3.out.drew,fun W hW=>HFR.out _ (B3.out.drew.trans (hW.mono B3.out.size))⟩
 have HW4:Hid (∀ W,Below w3.heap.size w3.drew W→∀ title,Calls prog 118 #[.agg #[.string (st n),.slice aoa a.length capa,.string (st t),.slice aok k.len capk],.string (st title)] W fun e w'=>e=.returned (.string (st (Fd.X9 k title)))∧Below w3.heap.size w3.drew w'):=fun W hW title=>(HWO.out W (BX.out.drew.trans (hW.mono BX.out.size)) title).mono (by rintro e w' ⟨h1,h2⟩;exact⟨h1,hW.trans (h2.mono hW.size)⟩)
 have HPU:Hid (∀ W,Below w3.heap.size w3.drew W→Calls prog 119 #[.pointer (some ⟨M,0,none⟩),.agg #[.string (st (Fd.X9 k Fd.j3j)),.string (st (Fd.X9 k Fd.z5z)),.string (st (Fd.X9 k Fd.z8t)),.int .i64 at_,.string (st (Fd.X9 k Fd.j3i))]] W fun e w'=>e=.returned (.tuple #[])∧(∃ u',MpI w w' M base u' (Fd.putM base out (Fd.q4n k)))∧(w'.cell? ⟨N,0,none⟩=some (.string (st n))∧w'.cell? ⟨N,1,none⟩=some (.slice aoa a.length capa)∧w'.cell? ⟨N,2,none⟩=some (.string (st t))∧w'.cell? ⟨N,3,none⟩=some (.slice aok k.len capk))):=by
  intro W hW;have hBW:=BX.out.drew.trans (hW.mono BX.out.size);have hm:=HI.out.below hBW;have hlw:=hmp.out Fd.z8t;refine(mp_put ⟨Fd.X9 k Fd.j3j,Fd.X9 k Fd.z5z,Fd.X9 k Fd.z8t,at_,Fd.X9 k Fd.j3i⟩ HG.out hM hm hb (by show (Fd.X9 k Fd.z8t).length≤_;omega) hol).mono ?_;rintro e w' ⟨h1,h2,h3⟩;refine⟨h1,by rw[HIT.out];exact h2,?_⟩;have hNW:Blk W N 53 #[.string (st n),.slice aoa a.length capa,.string (st t),.slice aok k.len capk]:=((B3.out.drew.trans (hW.mono B3.out.size)).block N NB.out.lt).trans NB.out;have hN1:N ≠ M:=by have:=HI.out.mb.lt;omega
  have hN2:u.ownBlock ≠ some N:=fun e=>by have:=(HI.out.ow.lt N e).2;omega
  have hb':=hNW.ap h3 (by rintro (e | e);exact hN1 e;exact hN2 e);exact⟨Blk.cell hb' 0,Blk.cell hb' 1,Blk.cell hb' 2,Blk.cell hb' 3⟩
 have HWGuid:Hid (∀ W,Below w3.heap.size w3.drew W→Calls prog 118 #[.agg #[.string (st n),.slice aoa a.length capa,.string (st t),.slice aok k.len capk],.string ⟨#[103,117,105,100]⟩] W fun e w'=>e=.returned (.string (st (Fd.X9 k Fd.j3j)))∧Below w3.heap.size w3.drew w'):=fun W hW=>HW4.out W hW Fd.j3j
 have HWTitle:Hid (∀ W,Below w3.heap.size w3.drew W→Calls prog 118 #[.agg #[.string (st n),.slice aoa a.length capa,.string (st t),.slice aok k.len capk],.string ⟨#[116,105,116,108,101]⟩] W fun e w'=>e=.returned (.string (st (Fd.X9 k Fd.z5z)))∧Below w3.heap.size w3.drew w'):=fun W hW=>HW4.out W hW Fd.z5z
 have HWLink:Hid (∀ W,Below w3.heap.size w3.drew W→Calls prog 118 #[.agg #[.string (st n),.slice aoa a.length capa,.string (st t),.slice aok k.len capk],.string ⟨#[108,105,110,107]⟩] W fun e w'=>e=.returned (.string (st (Fd.X9 k Fd.z8t)))∧Below w3.heap.size w3.drew w'):=fun W hW=>HW4.out W hW Fd.z8t
 have HWDesc:Hid (∀ W,Below w3.heap.size w3.drew W→Calls prog 118 #[.agg #[.string (st n),.slice aoa a.length capa,.string (st t),.slice aok k.len capk],.string ⟨#[100,101,115,99,114,105,112,116,105,111,110]⟩] W fun e w'=>e=.returned (.string (st (Fd.X9 k Fd.j3i)))∧Below w3.heap.size w3.drew w'):=fun W hW=>HW4.out W hW Fd.j3i
 clear AL NB HWO B3 BX HFR HI HN HKX HW4;go_upto_region 2 with fail
 go_region_held3 (fun w'=>w'.cell? ⟨N,0,none⟩=some (.string (st n))∧w'.cell? ⟨N,1,none⟩=some (.slice aoa a.length capa)∧w'.cell? ⟨N,2,none⟩=some (.string (st t))∧w'.cell? ⟨N,3,none⟩=some (.slice aok k.len capk)) (first
  | exact HSX.out.1
  | exact HSX.out.2 _ hb7
  | exact HSX.out.2 _ hb6
  | exact HSX.out.2 _ hb5
  | exact HSX.out.2 _ hb4
  | exact hcc8) (first
  | (go_at_call 118;with_reducible refine(HWGuid.out _ ?_).mono ?_;exact Below.refl _ _;rintro e w4 ⟨rfl,hb4⟩)
  | (go_at_call 118;with_reducible refine(HWTitle.out _ ?_).mono ?_;exact hb4;rintro e w5 ⟨rfl,hb5⟩)
  | (go_at_call 118;with_reducible refine(HWLink.out _ ?_).mono ?_;exact hb5;rintro e w6 ⟨rfl,hb6⟩)
  | (go_at_call 118;with_reducible refine(HWDesc.out _ ?_).mono ?_;exact hb6;rintro e w7 ⟨rfl,hb7⟩)
  | (go_at_call 119;with_reducible refine(HPU.out _ ?_).mono ?_;exact hb7;rintro e w8 ⟨rfl,hmp8,hcc8⟩))
 all_goals
  go_wp2_with fail
  first | go_end0 | (simp only [Exit.inBlock,Exit.then];refine bodyPost_ret (results_none rfl _ _ _) rfl ?_) | refine bodyPost_ret (results_none rfl _ _ _) rfl ?_
  exact⟨rfl,hmp8⟩
theorem eg_other (args:Array Value) (w:World):(callFunc 120 args).run prog w=.ok (.enter 120 args) w:=Z7 func120 (by kernel_rfl) rfl _ _
theorem j3t (l:List Mk.At) (n:List UInt8):((Fd.valueA l n).getD []).length≤Mk.Fo.atB l:=by
 unfold Fd.valueA
 cases h:l.find? fun a=>a.n == n with
 | none=>exact Nat.zero_le _
 | some a =>
  have:=Mk.q0h (List.mem_of_find?_eq_some h);show a.v.length≤_;omega
theorem j0p (f:Mk.Fo) (K:Nat→Prop) (w:World) (hf:f.bulk≤33554432) (hK:∀ b,K b→b < w.heap.size):q3t 120 #[] Fd.z7q f K w:=by
 intro w1 hb j n a t kk r hd va vk hva hvk;have hst:∀ l:List UInt8,(st l).toList=l:=fun l=>Lib.toList_data _
 have hab:Mk.Fo.atB a≤f.bulk:=by
  have h1:=Mk.Fo.z1z f j;rw[hd] at h1;have e:Mk.Fo.bulk (.node n a t kk r)=1 + n.length + t.length + Mk.Fo.atB a + Mk.Fo.bulk kk + Mk.Fo.bulk r:=rfl;omega
 have hal0:=Mk.z5f a;obtain⟨aoa,capa,hva1,_⟩:=id hva;subst hva1;obtain⟨aok,capk,xsk,hvk1,_⟩:=id hvk;subst hvk1;have hal:=(Below.refl w1.heap.size w1).alloc (Lr) (.cells #[.string (st n),.slice aoa a.length capa,.string (st t),.slice aok kk.len capk] 53);have hK1:∀ b,K b→b < w1.heap.size:=fun b q=>Nat.lt_of_lt_of_le (hK b q) hb.size
 have HV:=Ld (q9h n Fd.tRel a t (.slice aoa a.length capa) (.slice aok kk.len capk) kk K _ (hva.below hK1 hal) ⟨_,_,rfl⟩ (fun b q=>Nat.lt_of_lt_of_le (hK1 b q) hal.size) (by omega));have HO:Hid (Fd.z7q ⟨n,a,t,kk⟩=match Fd.valueA a Fd.tRel with | none=>true | some v=>v == Fd.tAlt):=by
  show _=_;unfold Fd.z7q
  cases Fd.valueA a Fd.tRel <;> rfl
 generalize Fd.z7q ⟨n,a,t,kk⟩=out at HO ⊢;generalize Fd.valueA a Fd.tRel=o at HO HV;have AL:=Ld hal;have NB:=Ld (Blk.new w1 53 #[.string (st n),.slice aoa a.length capa,.string (st t),.slice aok kk.len capk]);clear hal hva hvk hd hb hab hal0;unfold z05 at HV ⊢;go_enter func120,ntmps120;go_upto_region 1 with fail;generalize w1.alloc (.cells #[.string (st n),.slice aoa a.length capa,.string (st t),.slice aok kk.len capk] 53)=w2 at HV AL NB ⊢;have n0:w2.cell? ⟨w1.heap.size,0,none⟩=some (.string (st n)):=Blk.cell NB.out 0;have n1:w2.cell? ⟨w1.heap.size,1,none⟩=some (.slice aoa a.length capa):=Blk.cell NB.out 1;have n2:w2.cell? ⟨w1.heap.size,2,none⟩=some (.string (st t)):=Blk.cell NB.out 2;have n3:w2.cell? ⟨w1.heap.size,3,none⟩=some (.slice aok kk.len capk):=Blk.cell NB.out 3;go_wp2_with fail;refine HV.out.mono ?_;rintro e w3 ⟨rfl,hb3⟩;have B3:=Ld (AL.out.trans (hb3.mono AL.out.size));clear hb3 HV n0 n1 n2 n3
 cases o with
 | none =>
  have HE:Hid (out=true):=HO;have hs0:(none:Option (List UInt8)).isSome=false:=rfl;go_wp2_with fail;go_ret;exact⟨Z8 HE.out.symm,B3.out⟩
 | some v =>
  have HE:Hid (out=(v == Fd.tAlt)):=HO;have hs0:(some v).isSome=true:=rfl;go_wp2_with fail;go_ret;exact⟨Z8 (by rw[HE.out];rfl),B3.out⟩
theorem mp_entry {w wx:World} {M:Nat} {base:List UInt8} {u:Value} {out:List Fd.En} (hg:Gl w) (hM:4 < M) (h:MpI w wx M base u out) (hb:base.length≤3000) (hol:out.length≤12)
  (n t:List UInt8) (a:List Mk.At) (k:Mk.Fo) (va vk:Value) (K:Nat→Prop) (hnd:NdV w K va vk ⟨n,a,t,k⟩) (hK:∀ b,K b→b < w.heap.size∧b ≠ M) (hl:k.bulk≤100000) :
  Calls prog 72 #[.pointer (some ⟨M,0,none⟩),z05 n va t vk] wx fun e w'=>e=.returned (.tuple #[])∧∃ u',MpI w w' M base u' (Fd.putM base out (Fd.z9r k)):=by
 have hnx:=h.node hnd hK;have hKx:∀ b,K b→b < wx.heap.size:=fun b q=>Nat.lt_of_lt_of_le (hK b q).1 h.ap.size
 obtain⟨aoa,capa,hva1,_⟩:=id hnx.1;subst hva1;obtain⟨aok,capk,xsk,hvk1,_⟩:=id hnx.2;subst hvk1;have HI:=Ld h;have HN:=Ld hnx;have HKX:=Ld hKx;have HG:=Ld hg;have hmp:=Ld (q3r k);have hal:=(Below.refl wx.heap.size wx).alloc (Lr) (.cells #[.string (st n),.slice aoa a.length capa,.string (st t),.slice aok k.len capk] 53);have AL:=Ld hal;have NB:=Ld (Blk.new wx 53 #[.string (st n),.slice aoa a.length capa,.string (st t),.slice aok k.len capk]);have HWO:Hid (∀ W,Below wx.heap.size wx W→∀ title,Calls prog 118 #[.agg #[.string (st n),.slice aoa a.length capa,.string (st t),.slice aok k.len capk],.string (st title)] W fun e w'=>e=.returned (.string (st (Fd.X9 k title)))∧Below W.heap.size W w'):=by
  intro W hW title;exact q9i n title a t (.slice aoa a.length capa) (.slice aok k.len capk) k K W ⟨_,_,rfl⟩ (hnx.2.below hKx hW) (fun b q=>Nat.lt_of_lt_of_le (hKx b q) hW.size) (by omega)
 have HFR:Hid (∀ W,Below (wx.alloc (.cells #[.string (st n),.slice aoa a.length capa,.string (st t),.slice aok k.len capk] 53)).heap.size (wx.alloc (.cells #[.string (st n),.slice aoa a.length capa,.string (st t),.slice aok k.len capk] 53)) W→(W.cell? ⟨wx.heap.size,0,none⟩=some (.string (st n))∧W.cell? ⟨wx.heap.size,1,none⟩=some (.slice aoa a.length capa)∧W.cell? ⟨wx.heap.size,2,none⟩=some (.string (st t))∧W.cell? ⟨wx.heap.size,3,none⟩=some (.slice aok k.len capk))):=by
  intro W hW;have hb:=Blk.below NB.out hW (Blk.lt NB.out);exact⟨Blk.cell hb 0,Blk.cell hb 1,Blk.cell hb 2,Blk.cell hb 3⟩
 have HIT:Hid (Fd.z9r k=⟨Fd.X9 k Fd.tId,Fd.X9 k Fd.z5z,(Fd.valueA (childR Fd.z8t Fd.z7q k).ats Fd.j7l).getD [],(Fd.webD (Fd.X9 k Fd.tUpd)).1,Fd.X9 k (if (Fd.z2z Fd.q5c (fun _=>true) k).isSome then Fd.q5c else Fd.tSum)⟩):=rfl;clear hal h hnx hKx hnd hK hg;unfold z05;go_enter func72,ntmps72;go_upto_region 1 with fail;obtain⟨N,hN⟩:∃ N,N=wx.heap.size:=⟨_,rfl⟩;rw[← hN] at NB HFR;rw[← hN];generalize wx.alloc (.cells #[.string (st n),.slice aoa a.length capa,.string (st t),.slice aok k.len capk] 53)=w1 at AL NB HFR ⊢;have hNx:wx.heap.size≤N:=Nat.le_of_eq hN.symm;clear hN;obtain⟨n0,n1,n2,n3⟩:=HFR.out w1 (Below.refl _ _);go_wp2_with fail;refine(HWO.out _ AL.out Fd.tUpd).mono ?_;rintro e w2 ⟨rfl,hb2⟩;have B2:=Ld hb2;have HMA:=Ld (dt_Web (Fd.X9 k Fd.tUpd) w2);clear hb2 n0 n1 n2 n3;go_wp2_with fail;refine HMA.out.mono ?_;rintro e w3 ⟨rfl,hb3⟩;have B2a:=Ld (B2.out.trans (hb3.mono B2.out.size));clear hb3 HMA B2;generalize (Fd.webD (Fd.X9 k Fd.tUpd)).2=ee;generalize (Fd.webD (Fd.X9 k Fd.tUpd)).1=at_ at HIT ⊢
 have BXa:=Ld (AL.out.trans (B2a.out.mono AL.out.size));have HCH:=Ld (q09 120 eg_other n Fd.z8t a t (.slice aoa a.length capa) (.slice aok k.len capk) k Fd.z7q K w3 ⟨_,_,rfl⟩ (HN.out.2.below HKX.out BXa.out) (fun b q=>Nat.lt_of_lt_of_le (HKX.out b q) BXa.out.size) (by omega) (j0p k K w3 (by omega) (fun b q=>Nat.lt_of_lt_of_le (HKX.out b q) BXa.out.size)));have hcb:=z3o Fd.z8t Fd.z7q k;generalize childR Fd.z8t Fd.z7q k=lx at HIT HCH hcb;generalize (Fd.z2z Fd.z8t Fd.z7q k).isSome=lb at HCH;obtain⟨n0,n1,n2,n3⟩:=HFR.out w3 B2a.out;unfold z05 at HCH;go_wp2_with fail;refine HCH.out.mono ?_;rintro e w4 ⟨hb4,lva,lvk,rfl,hnd⟩;have B2b:=Ld (B2a.out.trans (hb4.mono B2a.out.size));obtain⟨laoa,lcapa,hlva,_⟩:=id hnd.1;subst hlva;obtain⟨laok,lcapk,lxs,hlvk,_⟩:=id hnd.2;subst hlvk;have hK4:∀ b,K b→b < w4.heap.size:=fun b q=>Nat.lt_of_lt_of_le (Nat.lt_of_lt_of_le (HKX.out b q) BXa.out.size) hb4.size
 have hal4:=(Below.refl w4.heap.size w4).alloc (Lr) (.cells #[.string (st lx.name),.slice laoa lx.ats.length lcapa,.string (st lx.text),.slice laok lx.kids.len lcapk] 53);have hatl:=Mk.z5f lx.ats;have HVA:=Ld (q9h lx.name Fd.j7l lx.ats lx.text (.slice laoa lx.ats.length lcapa) (.slice laok lx.kids.len lcapk) lx.kids K _ (hnd.1.below hK4 hal4) ⟨_,_,rfl⟩ (fun b q=>Nat.lt_of_lt_of_le (hK4 b q) hal4.size) (by omega));have LB:=Ld (Blk.new w4 53 #[.string (st lx.name),.slice laoa lx.ats.length lcapa,.string (st lx.text),.slice laok lx.kids.len lcapk]);have B2c:=Ld (B2b.out.trans (hal4.mono B2b.out.size));obtain⟨lo,hlo⟩:∃ lo,Fd.valueA lx.ats Fd.j7l=lo:=⟨_,rfl⟩;have hlol:(lo.getD []).length≤200000:=by
  have:=j3t lx.ats Fd.j7l;rw[hlo] at this;omega
 rw[hlo] at HVA HIT;unfold z05 at HVA;clear hb4 hnd hK4 hal4 HCH n0 n1 n2 n3 BXa B2b B2a hlo hcb hatl;go_upto_region 3 with fail;generalize w4.alloc (.cells #[.string (st lx.name),.slice laoa lx.ats.length lcapa,.string (st lx.text),.slice laok lx.kids.len lcapk] 53)=w5 at HVA LB B2c ⊢;have l0:w5.cell? ⟨w4.heap.size,0,none⟩=some (.string (st lx.name)):=Blk.cell LB.out 0;have l1:w5.cell? ⟨w4.heap.size,1,none⟩=some (.slice laoa lx.ats.length lcapa):=Blk.cell LB.out 1;have l2:w5.cell? ⟨w4.heap.size,2,none⟩=some (.string (st lx.text)):=Blk.cell LB.out 2;have l3:w5.cell? ⟨w4.heap.size,3,none⟩=some (.slice laok lx.kids.len lcapk):=Blk.cell LB.out 3;clear LB;go_wp2_with fail;refine HVA.out.mono ?_;rintro e w6 ⟨rfl,hb6⟩;have B2d:=Ld (B2c.out.trans (hb6.mono B2c.out.size));clear hb6 HVA l0 l1 l2 l3 B2c;generalize lo.isSome=lob;generalize lo.getD []=li at HIT hlol ⊢;have BXd:=Ld (AL.out.trans (B2d.out.mono AL.out.size));have HCH:=Ld (q09 69 q4e n Fd.q5c a t (.slice aoa a.length capa) (.slice aok k.len capk) k (fun _=>true) K w6 ⟨_,_,rfl⟩ (HN.out.2.below HKX.out BXd.out) (fun b q=>Nat.lt_of_lt_of_le (HKX.out b q) BXd.out.size) (by omega) (z8z k K w6));generalize childR Fd.q5c (fun _=>true) k=cx at HCH;obtain⟨cb,hcb⟩:∃ cb,(Fd.z2z Fd.q5c (fun _=>true) k).isSome=cb:=⟨_,rfl⟩;rw[hcb] at HCH HIT;clear hcb;obtain⟨n0,n1,n2,n3⟩:=HFR.out w6 B2d.out;unfold z05 at HCH;go_wp2_with fail;refine HCH.out.mono ?_;rintro e w7 ⟨hb7,cva,cvk,rfl,hnd⟩;have B2e:=Ld (B2d.out.trans (hb7.mono B2d.out.size));obtain⟨caoa,ccapa,hcva,_⟩:=id hnd.1;subst hcva;obtain⟨caok,ccapk,cxs,hcvk,_⟩:=id hnd.2;subst hcvk;have hal7:=(Below.refl w7.heap.size w7).alloc (Lr) (.cells #[.string (st cx.name),.slice caoa cx.ats.length ccapa,.string (st cx.text),.slice caok cx.kids.len ccapk] 53);have B2f:=Ld (B2e.out.trans (hal7.mono B2e.out.size));clear hb7 hnd hal7 HCH n0 n1 n2 n3 BXd B2e B2d;go_upto_region 6 with fail;generalize w7.alloc (.cells #[.string (st cx.name),.slice caoa cx.ats.length ccapa,.string (st cx.text),.slice caok cx.kids.len ccapk] 53)=w3 at B2f ⊢;have B3:=B2f;clear B2f;go_upto_if 34 with fail
 go_cut [10] (fun y wz=>y=.string (st (if cb=true then Fd.q5c else Fd.tSum))∧w3=wz)
 case first =>
  as_aux_lemma =>
  cases cb with
  | true =>
   go_wp2_with fail;go_meet
   case rel=>exact⟨rfl,rfl⟩
  | false =>
   go_wp2_with fail;go_meet
   case rel=>exact⟨rfl,rfl⟩
 case rest =>
 as_aux_lemma =>
 obtain⟨rfl,hw⟩:=hcut;subst hw;generalize (if cb=true then Fd.q5c else Fd.tSum)=says at HIT ⊢;have BX:=Ld (AL.out.trans (B3.out.mono AL.out.size));have HSX:Hid ((w3.drew.cell? ⟨N,0,none⟩=some (.string (st n))∧w3.drew.cell? ⟨N,1,none⟩=some (.slice aoa a.length capa)∧w3.drew.cell? ⟨N,2,none⟩=some (.string (st t))∧w3.drew.cell? ⟨N,3,none⟩=some (.slice aok k.len capk))∧∀ W,Below w3.heap.size w3.drew W→(W.cell? ⟨N,0,none⟩=some (.string (st n))∧W.cell? ⟨N,1,none⟩=some (.slice aoa a.length capa)∧W.cell? ⟨N,2,none⟩=some (.string (st t))∧W.cell? ⟨N,3,none⟩=some (.slice aok k.len capk))) :=
  ⟨HFR.out _ B3.out.drew,fun W hW=>HFR.out _ (B3.out.drew.trans (hW.mono B3.out.size))⟩
 have HW4:Hid (∀ W,Below w3.heap.size w3.drew W→∀ title,Calls prog 118 #[.agg #[.string (st n),.slice aoa a.length capa,.string (st t),.slice aok k.len capk],.string (st title)] W fun e w'=>e=.returned (.string (st (Fd.X9 k title)))∧Below w3.heap.size w3.drew w'):=fun W hW title=>(HWO.out W (BX.out.drew.trans (hW.mono BX.out.size)) title).mono (by rintro e w' ⟨h1,h2⟩;exact⟨h1,hW.trans (h2.mono hW.size)⟩)
 have HPU:Hid (∀ W,Below w3.heap.size w3.drew W→Calls prog 119 #[.pointer (some ⟨M,0,none⟩),.agg #[.string (st (Fd.X9 k Fd.tId)),.string (st (Fd.X9 k Fd.z5z)),.string (st li),.int .i64 at_,.string (st (Fd.X9 k says))]] W fun e w'=>e=.returned (.tuple #[])∧(∃ u',MpI w w' M base u' (Fd.putM base out (Fd.z9r k)))∧(w'.cell? ⟨N,0,none⟩=some (.string (st n))∧w'.cell? ⟨N,1,none⟩=some (.slice aoa a.length capa)∧w'.cell? ⟨N,2,none⟩=some (.string (st t))∧w'.cell? ⟨N,3,none⟩=some (.slice aok k.len capk))):=by
  intro W hW;have hBW:=BX.out.drew.trans (hW.mono BX.out.size);have hm:=HI.out.below hBW;refine(mp_put ⟨Fd.X9 k Fd.tId,Fd.X9 k Fd.z5z,li,at_,Fd.X9 k says⟩ HG.out hM hm hb (by show li.length≤_;omega) hol).mono ?_;rintro e w' ⟨h1,h2,h3⟩;refine⟨h1,by rw[HIT.out];exact h2,?_⟩;have hNW:Blk W N 53 #[.string (st n),.slice aoa a.length capa,.string (st t),.slice aok k.len capk]:=((B3.out.drew.trans (hW.mono B3.out.size)).block N NB.out.lt).trans NB.out;have hN1:N ≠ M:=by have:=HI.out.mb.lt;omega
  have hN2:u.ownBlock ≠ some N:=fun e=>by have:=(HI.out.ow.lt N e).2;omega
  have hb':=hNW.ap h3 (by rintro (e | e);exact hN1 e;exact hN2 e);exact⟨Blk.cell hb' 0,Blk.cell hb' 1,Blk.cell hb' 2,Blk.cell hb' 3⟩
 have HWId:Hid (∀ W,Below w3.heap.size w3.drew W→Calls prog 118 #[.agg #[.string (st n),.slice aoa a.length capa,.string (st t),.slice aok k.len capk],.string ⟨#[105,100]⟩] W fun e w'=>e=.returned (.string (st (Fd.X9 k Fd.tId)))∧Below w3.heap.size w3.drew w'):=fun W hW=>HW4.out W hW Fd.tId
 have HWTitle:Hid (∀ W,Below w3.heap.size w3.drew W→Calls prog 118 #[.agg #[.string (st n),.slice aoa a.length capa,.string (st t),.slice aok k.len capk],.string ⟨#[116,105,116,108,101]⟩] W fun e w'=>e=.returned (.string (st (Fd.X9 k Fd.z5z)))∧Below w3.heap.size w3.drew w'):=fun W hW=>HW4.out W hW Fd.z5z
 have HWSays:Hid (∀ W,Below w3.heap.size w3.drew W→Calls prog 118 #[.agg #[.string (st n),.slice aoa a.length capa,.string (st t),.slice aok k.len capk],.string (st says)] W fun e w'=>e=.returned (.string (st (Fd.X9 k says)))∧Below w3.heap.size w3.drew w'):=fun W hW=>HW4.out W hW says
 clear AL NB HWO B3 BX HFR HI HN HKX HW4;go_upto_region 8 with fail
 go_region_held3 (fun w'=>w'.cell? ⟨N,0,none⟩=some (.string (st n))∧w'.cell? ⟨N,1,none⟩=some (.slice aoa a.length capa)∧w'.cell? ⟨N,2,none⟩=some (.string (st t))∧w'.cell? ⟨N,3,none⟩=some (.slice aok k.len capk)) (first
  | exact HSX.out.1
  | exact HSX.out.2 _ hb6
  | exact HSX.out.2 _ hb5
  | exact HSX.out.2 _ hb4
  | exact hcc8) (first
  | (go_at_call 118;with_reducible refine(HWId.out _ ?_).mono ?_;exact Below.refl _ _;rintro e w4 ⟨rfl,hb4⟩)
  | (go_at_call 118;with_reducible refine(HWTitle.out _ ?_).mono ?_;exact hb4;rintro e w5 ⟨rfl,hb5⟩)
  | (go_at_call 118;with_reducible refine(HWSays.out _ ?_).mono ?_;exact hb5;rintro e w6 ⟨rfl,hb6⟩)
  | (go_at_call 119;with_reducible refine(HPU.out _ ?_).mono ?_;exact hb6;rintro e w8 ⟨rfl,hmp8,hcc8⟩))
 all_goals
  go_wp2_with fail
  first | go_end0 | (simp only [Exit.inBlock,Exit.then];refine bodyPost_ret (results_none rfl _ _ _) rfl ?_) | refine bodyPost_ret (results_none rfl _ _ _) rfl ?_
  exact⟨rfl,hmp8⟩
section
variable {w0 w w' : World} {R : Nat} {s : ByteArray} {j C N : Nat} {nm : List UInt8} {va vk : Value} {l : List Mk.At} {f : Mk.Fo} {K : Nat→Prop}
theorem j0n (p:List UInt8) (h:Xr w R s j) (hk:j≤s.size) (hs:s.size≤100000) :
  Calls prog 213 #[.pointer (some ⟨R,0,none⟩),.string (st p)] w fun e w'=>(Fd.z0k p (s.data.toList.drop j)=.ok () (s.data.toList.drop (j + p.length))∧j + p.length≤s.size∧e=.returned (.tuple #[])∧Xr w' R s (j + p.length)∧Moved R w w')∨(Fd.z0k p (s.data.toList.drop j)=.er 1∧e=GaveX 1∧Xr w' R s j∧Moved R w w'):=by
 refine(j8c p h hk (by omega)).mono ?_;rintro e w1 (⟨h1,h2,h3,h4,h5⟩ | ⟨h1,h2,n,h3⟩)
 ·exact .inl ⟨by rw[Fd.z0k,if_pos h1,List.drop_drop],h2,h3,h4,h5⟩
 ·subst h3
  exact .inr ⟨by rw[Fd.z0k,if_neg (by rw[h1];simp)],h2,h.drewN n,(Moved.refl R w).drewN n⟩
theorem j0m (p:List UInt8) (h:ElI w0 w R s j C N nm va l vk f K) (hk:j≤s.size) (hs:s.size≤100000) :
  Calls prog 213 #[.pointer (some ⟨R,0,none⟩),.string (st p)] w fun e w'=>(Fd.z0k p (s.data.toList.drop j)=.ok () (s.data.toList.drop (j + p.length))∧j + p.length≤s.size∧e=.returned (.tuple #[])∧ElI w0 w' R s (j + p.length) C N nm va l vk f K)∨(Fd.z0k p (s.data.toList.drop j)=.er 1∧e=GaveX 1∧ElI w0 w' R s j C N nm va l vk f K):=by
 refine(j0n p h.x hk hs).mono ?_;rintro e w1 (⟨h1,h2,h3,h4,h5⟩ | ⟨h1,h2,h3,h4⟩)
 ·exact .inl ⟨h1,h2,h3,h.moved h5 h4⟩
 ·exact .inr ⟨h1,h2,h.moved h4 h3⟩
theorem j3y (p:List UInt8) (h:ElI w0 w R s j C N nm va l vk f K) (hk:j≤s.size) (hs:s.size≤100000) :
  Calls prog 216 #[.pointer (some ⟨R,0,none⟩),.string (st p)] w fun e w'=>e=.returned (.bool (Mg.pre p (s.data.toList.drop j)))∧ElI w0 w' R s j C N nm va l vk f K:=by
 refine(z5d p h.x hk (by omega)).mono ?_;rintro e w1 ⟨rfl,n,hw⟩;subst hw;exact⟨rfl,h.drewN n⟩
theorem j8d (h:ElI w0 w R s j C N nm va l vk f K) (hk:j≤s.size) (hs:s.size≤100000) :
  Calls prog 211 #[.pointer (some ⟨R,0,none⟩)] w fun e w'=>∃ j1,j≤j1∧j1≤s.size∧s.data.toList.drop j1=Fd.V8 (s.data.toList.drop j)∧e=.returned (.int .i64 ((j1:Int) - j))∧ElI w0 w' R s j1 C N nm va l vk f K:=by
 refine(q0d h.x hk (by omega)).mono ?_;rintro e w1 ⟨j1,h1,h2,h3,h4,h5,h6⟩;exact⟨j1,h1,h2,h4,h3,h.moved h6 h5⟩
end
def ElemC (s:ByteArray) (R M:Nat):Prop:=∀ (deep:Int) (k:Nat) (w:World),s.size - k < M→k≤s.size→1≤deep→deep≤9→Gl w→Xr w R s k →
 Calls prog 165 #[.pointer (some ⟨R,0,none⟩),.int .i64 deep] w fun e w' =>
  (∃ er,Fd.z5l deep (s.data.toList.drop k)=.er er∧e=GaveX er∧Ap (fun b=>b=R) w w') ∨
  ∃ x j va vk,Fd.z5l deep (s.data.toList.drop k)=.ok x (s.data.toList.drop j)∧e=.returned (z05 x.name va [] vk)∧k < j∧j≤s.size∧Xr w' R s j∧Ap (fun b=>b=R) w w'∧AtsV w' (Nw w w') va x.ats∧FoV w' (Nw w w') vk x.kids∧x.name ≠ []
def KidsC (s:ByteArray) (R M:Nat):Prop:=∀ (deep:Int) (k:Nat) (w:World),s.size - k < M→k≤s.size→1≤deep→deep≤8→Gl w→Xr w R s k →
 Calls prog 217 #[.pointer (some ⟨R,0,none⟩),.int .i64 deep] w fun e w' =>
  (∃ er,Fd.z0q deep (s.data.toList.drop k) .nil=.er er∧e=GaveX er∧Ap (fun b=>b=R) w w') ∨
  ∃ f j v,Fd.z0q deep (s.data.toList.drop k) .nil=.ok f (s.data.toList.drop j)∧e=.returned v∧k≤j∧j≤s.size∧Xr w' R s j∧Ap (fun b=>b=R) w w'∧FoV w' (Nw w w') v f
theorem j3z {s:ByteArray} {R:Nat} (M:Nat) (hR:4 < R) (hs:s.size≤100000) (HK:KidsC s R M):ElemC s R (M + 1):=by
 intro deep k w hM hk hd1 hd9 hg h;have hst:∀ l:List UInt8,(st l).toList=l:=fun l=>Lib.toList_data _
 have HG:=Ld hg;have hRl:R < w.heap.size:=Blk.lt h;have HKI:=Ld HK;have X1:=Ld (show Xr (w.alloc (.cells #[.string ⟨#[]⟩,.slice none 0 0,.string ⟨#[]⟩,.slice none 0 0] 53)) R s k from Blk.alloc h _);have CB1:Hid (Blk (w.alloc (.cells #[.string ⟨#[]⟩,.slice none 0 0,.string ⟨#[]⟩,.slice none 0 0] 53)) w.heap.size 53 j4b):=Blk.new w 53 j4b;have AP1:=Ld ((Ap.refl (fun b=>b=R) w).alloc (.cells #[.string ⟨#[]⟩,.slice none 0 0,.string ⟨#[]⟩,.slice none 0 0] 53));clear hg h HK;go_enter func165,ntmps165;go_upto_region 1 with fail;generalize w.alloc (.cells #[.string ⟨#[]⟩,.slice none 0 0,.string ⟨#[]⟩,.slice none 0 0] 53)=w1 at X1 CB1 AP1 ⊢;obtain⟨C,hC⟩:∃ C,C=w.heap.size:=⟨_,rfl⟩;rw[← hC] at CB1;rw[← hC];have hcl:w.heap.size≤C:=by omega
 clear hC;have HN:=Ld (j0n [60] X1.out hk hs);go_wp2_with fail;refine HN.out.mono ?_;rintro e w2 (⟨hn,hj1,rfl,hx,hm⟩ | ⟨hn,rfl,hx,hm⟩)
 case inr =>
  have AP:=Ld (AP1.out.trans hm.ap);have HE:=Ld (Fd.elem_n (deep:=deep) hn);clear hn hx hm HN;go_wp2_with fail;exact⟨rfl,.inl ⟨1,HE.out,rfl,AP.out⟩⟩
 have hj1:k + 1≤s.size:=hj1;have HN1:Hid (Fd.z0k [60] (s.data.toList.drop k)=.ok () (s.data.toList.drop (k + 1))):=hn;have X2:Hid (Xr w2 R s (k + 1)):=hx;have AP2:=Ld (AP1.out.trans hm.ap);have CB2:=Ld (hm.blk CB1.out (by omega));clear hn hx hm HN X1 AP1 CB1;have HT:=Ld (q5l X2.out hj1 (by omega));go_wp2_with fail;refine HT.out.mono ?_;rintro e w3 (⟨ht,rfl,hm⟩ | ⟨nm,j2,ht,rfl,hj2,hjs2,hx,hm,hit⟩)
 ·have AP:=Ld (AP2.out.trans hm.ap)
  have HE:=Ld (Fd.elem_t (deep:=deep) HN1.out ht);clear ht hm HT;go_wp2_with fail;exact⟨rfl,.inl ⟨1,HE.out,rfl,AP.out⟩⟩
 have HTI:=Ld ht;have HIT:=Ld (Fd.j2d hit);have CB3:=Ld (hm.blk CB2.out (by omega));have I3:=Ld (ElI.begin_ hx hRl (AP2.out.trans hm.ap) hcl CB3.out nm);clear ht hx hm HT hit X2 AP2 CB2 CB3;go_upto_region 3 with fail;obtain⟨N,hN⟩:∃ N,N=w3.heap.size:=⟨_,rfl⟩;rw[← hN] at I3;rw[← hN];generalize w3.alloc (.cells #[.string (st nm),.slice none 0 0,.string ⟨#[]⟩,.slice none 0 0] 53)=w4 at I3 ⊢;clear hN
 by_cases hdp:8 < deep
 ·have HE:=Ld (Fd.elem_d (deep:=deep) HN1.out HTI.out hdp)
  go_wp2_with fail;refine(z3x 2 _).mono ?_;rintro e w5 ⟨rfl,hw5⟩;subst w5;go_wp2_with fail;exact⟨rfl,.inl ⟨2,HE.out,rfl,I3.out.ap⟩⟩
 have HEY:=Ld (Fd.elem_y (deep:=deep) HN1.out HTI.out hdp);have HAT:=Ld (xr_attrs (I3.out.gl HG.out hR) hR I3.out.x hjs2 hs);clear HN1 HTI;go_wp2_with fail;refine HAT.out.mono ?_;rintro e w5 (⟨er,ha,rfl,hap⟩ | ⟨l,j3,v,ha,rfl,hj3,hjs3,hbk,hI⟩)
 ·have AP:=Ld (I3.out.ap.trans hap)
  have HE:=Ld (HEY.out.trans (Fd.elemY_a ha));clear ha hap HAT;go_wp2_with fail;exact⟨rfl,.inl ⟨er,HE.out,rfl,AP.out⟩⟩
 have HAA:=Ld ha;obtain⟨aoa,capa,hv3⟩:=Z9 hI.ow;subst hv3;have I4:=Ld (I3.out.setAts hI);have NB4:=(I3.out.ap2 hI.ap hI.x).nb;have p1:=Blk.frozen NB4 1;have p2:w5.cell? ⟨N,1,none⟩=some (.slice none 0 0):=Blk.cell NB4 1;clear ha hI HAT NB4 I3;go_upto_region 6 with fail;generalize w5.setCell ⟨N,1,none⟩ (.slice aoa l.length capa)=w6 at I4 ⊢;clear p1 p2;generalize hKK:(fun b=>False∨Nw w4 w5 b)=K4 at I4;clear hKK;have HB:=Ld (j3y [47,62] I4.out hjs3 hs);go_wp2_with fail;refine HB.out.mono ?_;rintro e w7 ⟨rfl,hI⟩;have I5:=Ld hI;clear hI HB I4;obtain⟨b,hb⟩:∃ b,Mg.pre [47,62] (s.data.toList.drop j3)=b:=⟨_,rfl⟩;rw[hb];have HPB:=Ld hb;clear hb
 cases b with
 | true =>
  have h3:=Fd.z1a HPB.out;rw[List.length_drop,bs_len] at h3;have h3:j3 + 2≤s.size:=by
   simp only [List.length_cons,List.length_nil] at h3;omega
  have HE:Hid (Fd.z5l deep (s.data.toList.drop k)=.ok ⟨nm,l,.nil⟩ (s.data.toList.drop (j3 + 2))):=by
   show _=_;rw[HEY.out,Fd.elemY_c HAA.out HPB.out,List.drop_drop]
  have c1:=I5.out.x.c1;have f1:=I5.out.x.fz 1;have I6:Hid (ElI w (w7.setCell ⟨R,1,none⟩ (.int .i64 ((j3:Int) + 2))) R s (j3 + 2) C N nm (.slice aoa l.length capa) l (.slice none 0 0) .nil K4):=I5.out.moved ((Moved.refl R w7).setCell 1 _) (by have:=I5.out.x.at_ (j3 + 2);simpa using this);clear HEY HAA HPB I5;go_upto_region 8 with fail;generalize w7.setCell ⟨R,1,none⟩ (.int .i64 ((j3:Int) + 2))=w8 at I6 ⊢;clear c1 f1;have n0:w8.cell? ⟨N,0,none⟩=some (.string (st nm)):=Blk.cell I6.out.nb 0;have n1:w8.cell? ⟨N,1,none⟩=some (.slice aoa l.length capa):=Blk.cell I6.out.nb 1;have n2:w8.cell? ⟨N,2,none⟩=some (.string ⟨#[]⟩):=Blk.cell I6.out.nb 2;have n3:w8.cell? ⟨N,3,none⟩=some (.slice none 0 0):=Blk.cell I6.out.nb 3;have z0:w8.cell? ⟨C,0,none⟩=some (.string ⟨#[]⟩):=Blk.cell I6.out.cb 0;have z1:w8.cell? ⟨C,1,none⟩=some (.slice none 0 0):=Blk.cell I6.out.cb 1;have z2:w8.cell? ⟨C,2,none⟩=some (.string ⟨#[]⟩):=Blk.cell I6.out.cb 2;have z3:w8.cell? ⟨C,3,none⟩=some (.slice none 0 0):=Blk.cell I6.out.cb 3;have y:∀ i,w8.frozen? ⟨C,i,none⟩=false:=Blk.frozen I6.out.cb;obtain⟨ANS1,ANS2,ANS3,ANS4,ANS5⟩:=I6.out.ans;have FIN:Hid (∃ x j va vk,Fd.z5l deep (s.data.toList.drop k)=.ok x (s.data.toList.drop j)∧z05 nm (.slice aoa l.length capa) [] (.slice none 0 0)=z05 x.name va [] vk∧k < j∧j≤s.size∧Xr (ansW w8 C (.string (st nm)) (.slice aoa l.length capa) (.string ⟨#[]⟩) (.slice none 0 0)) R s j∧Ap (fun b=>b=R) w (ansW w8 C (.string (st nm)) (.slice aoa l.length capa) (.string ⟨#[]⟩) (.slice none 0 0))∧AtsV (ansW w8 C (.string (st nm)) (.slice aoa l.length capa) (.string ⟨#[]⟩) (.slice none 0 0)) (Nw w (ansW w8 C (.string (st nm)) (.slice aoa l.length capa) (.string ⟨#[]⟩) (.slice none 0 0))) va x.ats∧FoV (ansW w8 C (.string (st nm)) (.slice aoa l.length capa) (.string ⟨#[]⟩) (.slice none 0 0)) (Nw w (ansW w8 C (.string (st nm)) (.slice aoa l.length capa) (.string ⟨#[]⟩) (.slice none 0 0))) vk x.kids∧x.name ≠ []) :=
   ⟨⟨nm,l,.nil⟩,j3 + 2,.slice aoa l.length capa,.slice none 0 0,HE.out,rfl,by omega,h3,ANS2,ANS3,ANS4,ANS5,HIT.out⟩
  clear ANS1 ANS2 ANS3 ANS4 ANS5 HE I6;go_wp2_with fail;refine bodyPost_ret (v:=z05 nm (.slice aoa l.length capa) [] (.slice none 0 0)) (by simp[results,results165,go_sem, *];rfl) rfl (.inr ?_);obtain⟨x,j,va,vk,q1,q2,q3⟩:=FIN.out;exact⟨x,j,va,vk,q1,by rw[q2],q3⟩
 | false =>
  have HN5:=Ld (j0m [62] I5.out hjs3 hs);go_wp2_with fail;refine HN5.out.mono ?_;rintro e w8 (⟨hn,hj4,rfl,hI⟩ | ⟨hn,rfl,hI⟩)
  case inr =>
   have AP:=Ld hI.ap;have HE:=Ld (HEY.out.trans (Fd.elemY_n HAA.out HPB.out hn));clear hn hI HN5;go_wp2_with fail;exact⟨rfl,.inl ⟨1,HE.out,rfl,AP.out⟩⟩
  have hj4:j3 + 1≤s.size:=hj4;have HEZ:=Ld (HEY.out.trans (Fd.elemY_z HAA.out HPB.out hn));have HEZ:Hid (Fd.z5l deep (s.data.toList.drop k)=Fd.q20 deep nm l (s.data.toList.drop (j3 + 1))):=HEZ;have I6:Hid (ElI w w8 R s (j3 + 1) C N nm (.slice aoa l.length capa) l (.slice none 0 0) .nil K4):=hI;clear hn hI HN5 I5 HEY HAA HPB;have HKD:=Ld (HKI.out deep (j3 + 1) w8 (by omega) hj4 hd1 (by omega) (I6.out.gl HG.out hR) I6.out.x);go_wp2_with fail;refine HKD.out.mono ?_;rintro e w9 (⟨er,hk1,rfl,hap⟩ | ⟨f,j5,vk,hk1,rfl,hj5,hjs5,hx,hap,hfo⟩)
  ·have AP:=Ld (I6.out.ap.trans hap)
   have HE:=Ld (HEZ.out.trans (Fd.elemZ_k hk1));clear hk1 hap HKD;go_wp2_with fail;exact⟨rfl,.inl ⟨er,HE.out,rfl,AP.out⟩⟩
  have HKX:=Ld hk1;obtain⟨aok,capk,xsk,hvk5,_⟩:=id hfo;subst hvk5;have I7:=Ld (I6.out.setKids hx hap hfo);have NB9:=(I6.out.ap2 hap hx).nb;have p1:=Blk.frozen NB9 3;have p2:w9.cell? ⟨N,3,none⟩=some (.slice none 0 0):=Blk.cell NB9 3;clear hk1 hx hap hfo HKD NB9 I6;go_upto_region 11 with fail;generalize w9.setCell ⟨N,3,none⟩ (.slice aok f.len capk)=w10 at I7 ⊢;clear p1 p2;generalize hKK:(fun b=>K4 b∨Nw w8 w9 b)=K5 at I7;clear hKK;have hNR:N ≠ R:=by have:=I7.out.nl;omega
  have HT2:=q5l (w:=w10.drew) (Blk.drew I7.out.x) hjs5 (by omega);have HNC:Hid (w10.drew.cell? ⟨N,0,none⟩=some (.string (st nm))∧∀ W,Moved R w10.drew W→W.cell? ⟨N,0,none⟩=some (.string (st nm))):=⟨Blk.cell (Blk.drew I7.out.nb) 0,fun W hW=>Blk.cell (hW.blk (Blk.drew I7.out.nb) hNR) 0⟩
  cases htt:Fd.z06 (s.data.toList.drop j5) with
  | er et =>
   have het:=Fd.j7q htt;subst het;have HT3:Hid (Calls prog 214 #[.pointer (some ⟨R,0,none⟩)] w10.drew fun e w'=>e=GaveX 1∧Moved R w10.drew w'):=HT2.mono (by
    rintro e w' (⟨_,h2,h3⟩ | ⟨a,b,h1,_⟩)
    ·exact⟨h2,h3⟩
    ·rw[htt] at h1;cases h1)
   have HE:=Ld (HEZ.out.trans (Fd.elemZ_t HKX.out htt));clear HT2 htt;refine wp_region_held_drew (S:=fun w'=>w'.cell? ⟨N,0,none⟩=some (.string (st nm))) (by kernel_rfl) HNC.out.1 (fun hHeld=>?_);refine wpAnyH_take (i:=0) rfl (by kernel_rfl) (by kernel_rfl) (by kernel_rfl) (fun _ _ _ h=>h) (Or.inl ⟨by rfl,by (intro w hSw;(try dsimp only at hSw);go_simp;try with_reducible rfl)⟩) (by assumption) ?_
   (try simp only [Act.put,List.setIfInBounds_toArray,List.set_cons_zero,List.set_cons_succ])
   refine wpAnyH_take (i:=2) rfl (by kernel_rfl) (by kernel_rfl) (by kernel_rfl) (fun _ _ _ h=>h) (Or.inl ⟨by rfl,by (intro w hSw;(try dsimp only at hSw);go_simp;try with_reducible rfl)⟩) (by assumption) ?_
   (try simp only [Act.put,List.setIfInBounds_toArray,List.set_cons_zero,List.set_cons_succ])
   refine wpAnyH_take (i:=3) rfl (by kernel_rfl) (by kernel_rfl) (by kernel_rfl) (fun _ _ _ h=>h) (Or.inl ⟨by rfl,by (intro w hSw;(try dsimp only at hSw);go_simp;try with_reducible rfl)⟩) (by assumption) ?_
   (try simp only [Act.put,List.setIfInBounds_toArray,List.set_cons_zero,List.set_cons_succ])
   refine wpAnyH_ready (rs:=[1]) (by kernel_rfl) (by simp) ?_;refine AllReadyH.cons rfl (fun K hK=>?_) AllReadyH.nil
   go_simp
   refine HT3.out.mono ?_;rintro e w11 ⟨rfl,hm11⟩;exact⟨rfl,.inl ⟨1,HE.out,rfl,I7.out.ap.trans (((Moved.refl R w10).drewN 1).trans hm11).ap⟩⟩
  | ok nm2 rr =>
   have HT3:Hid (Calls prog 214 #[.pointer (some ⟨R,0,none⟩)] w10.drew fun e w'=>e=.returned (.string (st nm2))∧Moved R w10.drew w'∧∃ j6,rr=s.data.toList.drop j6∧j5≤j6∧j6≤s.size∧Xr w' R s j6):=HT2.mono (by
    rintro e w' (⟨h1,_⟩ | ⟨a,b,h1,h2,h3,h4,h5,h6,_⟩)
    ·rw[htt] at h1;cases h1
    ·rw[htt] at h1
     injection h1 with e1 e2;subst e1;exact⟨h2,h6,b,e2,h3,h4,h5⟩)
   have HTT:=Ld htt;clear HT2 htt;obtain⟨bn,hbn⟩:∃ bn,(nm2 == nm)=bn:=⟨_,rfl⟩;have HBN:=Ld hbn
   go_cut [37] (fun b wx=>b=.bool (!bn)∧∃ j6,Hid (rr=s.data.toList.drop j6)∧j5≤j6∧j6≤s.size∧Hid (ElI w wx R s j6 C N nm (.slice aoa l.length capa) l (.slice aok f.len capk) f K5))
   case first =>
    as_aux_lemma =>
    cases bn
    all_goals
     go_region_held3 (fun w'=>w'.cell? ⟨N,0,none⟩=some (.string (st nm))) (first
      | exact HNC.out.1
      | exact HNC.out.2 _ hm11) (first | (go_at_call 214;refine HT3.out.mono ?_;rintro e w11 ⟨rfl,hm11,j6,hr6,hj6,hjs6,hx6⟩))
     all_goals
      have I8:=(I7.out.drewN 1).moved hm11 hx6;go_wp2_with fail;go_meet
      case rel=>exact⟨rfl,j6,hr6,hj6,hjs6,I8⟩
   case rest =>
   as_aux_lemma =>
   obtain⟨rfl,j6,HR6,hj6,hjs6,I8⟩:=hcut;obtain⟨w11,hw11⟩:∃ x,x=wc:=⟨_,rfl⟩;subst hw11;clear I7 HNC HT3 HBN
   cases bn with
   | false =>
    have hne:nm2 ≠ nm:=fun e=>by subst e;simp at hbn
    have HE:=Ld (HEZ.out.trans (Fd.elemZ_s HKX.out HTT.out hne));clear hne hbn;go_wp2_with fail;refine(z3x 4 _).mono ?_;rintro e w12 ⟨rfl,hw12⟩;subst w12;go_wp2_with fail;exact⟨rfl,.inl ⟨4,HE.out,rfl,I8.out.ap⟩⟩
   | true =>
    have hee:nm2=nm:=by simpa using hbn
    subst hee;have HTT2:Hid (Fd.z06 (s.data.toList.drop j5)=.ok nm2 (s.data.toList.drop j6)):=by show _=_;rw[HTT.out,HR6.out]
    have HEE:=Ld (HEZ.out.trans (Fd.elemZ_e HKX.out HTT2.out));clear hbn HTT HTT2 HR6 HEZ HKX;have HW8:=Ld (j8d I8.out hjs6 hs);go_wp2_with fail;refine HW8.out.mono ?_;rintro e w12 ⟨j7,hj7,hjs7,hd7,rfl,hI⟩;have I9:=Ld hI;rw[← hd7] at HEE;clear hI hd7 HW8 I8;have HN9:=Ld (j0m [62] I9.out hjs7 hs);go_wp2_with fail;refine HN9.out.mono ?_;rintro e w13 (⟨hn,hj8,rfl,hI⟩ | ⟨hn,rfl,hI⟩)
    case inr =>
     have AP:=Ld hI.ap;have HE:Hid (Fd.z5l deep (s.data.toList.drop k)=.er 1):=by show _=_;rw[HEE.out,hn]
     clear hn hI HN9;go_wp2_with fail;exact⟨rfl,.inl ⟨1,HE.out,rfl,AP.out⟩⟩
    have hj8:j7 + 1≤s.size:=hj8;have HE:Hid (Fd.z5l deep (s.data.toList.drop k)=.ok ⟨nm2,l,f⟩ (s.data.toList.drop (j7 + 1))):=by show _=_;rw[HEE.out,hn];rfl
    have I10:Hid (ElI w w13 R s (j7 + 1) C N nm2 (.slice aoa l.length capa) l (.slice aok f.len capk) f K5):=hI;clear hn hI HN9 I9 HEE;have n0:w13.cell? ⟨N,0,none⟩=some (.string (st nm2)):=Blk.cell I10.out.nb 0;have n1:w13.cell? ⟨N,1,none⟩=some (.slice aoa l.length capa):=Blk.cell I10.out.nb 1;have n2:w13.cell? ⟨N,2,none⟩=some (.string ⟨#[]⟩):=Blk.cell I10.out.nb 2;have n3:w13.cell? ⟨N,3,none⟩=some (.slice aok f.len capk):=Blk.cell I10.out.nb 3;have z0:w13.cell? ⟨C,0,none⟩=some (.string ⟨#[]⟩):=Blk.cell I10.out.cb 0;have z1:w13.cell? ⟨C,1,none⟩=some (.slice none 0 0):=Blk.cell I10.out.cb 1;have z2:w13.cell? ⟨C,2,none⟩=some (.string ⟨#[]⟩):=Blk.cell I10.out.cb 2;have z3:w13.cell? ⟨C,3,none⟩=some (.slice none 0 0):=Blk.cell I10.out.cb 3;have y:∀ i,w13.frozen? ⟨C,i,none⟩=false:=Blk.frozen I10.out.cb;obtain⟨ANS1,ANS2,ANS3,ANS4,ANS5⟩:=I10.out.ans;have FIN:Hid (∃ x j va vk,Fd.z5l deep (s.data.toList.drop k)=.ok x (s.data.toList.drop j)∧z05 nm2 (.slice aoa l.length capa) [] (.slice aok f.len capk)=z05 x.name va [] vk∧k < j∧j≤s.size∧Xr (ansW w13 C (.string (st nm2)) (.slice aoa l.length capa) (.string ⟨#[]⟩) (.slice aok f.len capk)) R s j∧Ap (fun b=>b=R) w (ansW w13 C (.string (st nm2)) (.slice aoa l.length capa) (.string ⟨#[]⟩) (.slice aok f.len capk))∧AtsV (ansW w13 C (.string (st nm2)) (.slice aoa l.length capa) (.string ⟨#[]⟩) (.slice aok f.len capk)) (Nw w (ansW w13 C (.string (st nm2)) (.slice aoa l.length capa) (.string ⟨#[]⟩) (.slice aok f.len capk))) va x.ats∧FoV (ansW w13 C (.string (st nm2)) (.slice aoa l.length capa) (.string ⟨#[]⟩) (.slice aok f.len capk)) (Nw w (ansW w13 C (.string (st nm2)) (.slice aoa l.length capa) (.string ⟨#[]⟩) (.slice aok f.len capk))) vk x.kids∧x.name ≠ []) :=
     ⟨⟨nm2,l,f⟩,j7 + 1,.slice aoa l.length capa,.slice aok f.len capk,HE.out,rfl,by omega,hj8,ANS2,ANS3,ANS4,ANS5,HIT.out⟩
    clear ANS1 ANS2 ANS3 ANS4 ANS5 HE I10;go_wp2_with fail;refine bodyPost_ret (v:=z05 nm2 (.slice aoa l.length capa) [] (.slice aok f.len capk)) (by simp[results,results165,go_sem, *];rfl) rfl (.inr ?_);obtain⟨x,j,va,vk,q1,q2,q3⟩:=FIN.out;exact⟨x,j,va,vk,q1,by rw[q2],q3⟩
structure KdI (w wx:World) (R:Nat) (s:ByteArray) (j:Nat) (u:Value) (f:Mk.Fo) (xs:List Value) (K:Nat→Prop):Prop where
 rl:R < w.heap.size
 x:Xr wx R s j
 ap:Ap (fun b=>b=R) w wx
 ow:OwnF wx w.heap.size K u f xs
 kr:∀ b,K b→w.heap.size≤b
section
variable {w wx wy wz : World} {R : Nat} {s : ByteArray} {j j' : Nat} {u : Value} {f : Mk.Fo} {xs : List Value} {K : Nat→Prop}
theorem ap_own {S:Nat→Prop} (h:Ap (fun b=>b=R) w wy) (k:Ap S wy wz) (hS:∀ b,S b→w.heap.size≤b):Ap (fun b=>b=R) w wz :=
 ⟨k.os.trans h.os,k.tape.trans h.tape,k.output.trans h.output,Nat.le_trans h.size k.size,fun i hi hn=>(k.block i (Nat.lt_of_lt_of_le hi h.size) (fun q=>by have:=hS i q;omega)).trans (h.block i hi hn)⟩
theorem KdI.ap2 (h:KdI w wx R s j u f xs K) (ha:Ap (fun b=>b=R) wx wy) (hx:Xr wy R s j'):KdI w wy R s j' u f xs K:=by
 have hr:=h.rl;refine⟨hr,hx,h.ap.trans ha,h.ow.frame ha.size (fun b hb q=>ha.block b hb (fun e=>?_)),h.kr⟩;have e:b=R:=e
 rcases q with q | q
 ·have:=h.kr b q;omega
 ·have:=(h.ow.own.lt b q).1;omega
theorem KdI.moved (h:KdI w wx R s j u f xs K) (hm:Moved R wx wy) (hx:Xr wy R s j'):KdI w wy R s j' u f xs K:=h.ap2 hm.ap hx
theorem KdI.drewN (h:KdI w wx R s j u f xs K) (n:Nat):KdI w (wx.drewN n) R s j u f xs K:=h.moved ((Moved.refl R wx).drewN n) (h.x.drewN n)
theorem KdI.below (h:KdI w wx R s j u f xs K) (hb:Below wx.heap.size wx wy):KdI w wy R s j u f xs K:=h.ap2 (Ap.of_below hb) ((hb.block R (Blk.lt h.x)).trans h.x)
theorem KdI.gl (h:KdI w wx R s j u f xs K) (hg:Gl w) (hR:4 < R):Gl wx:=hg.ap h.ap (by intro e;have e:0=R:=e;omega) (by intro e;have e:4=R:=e;omega)
theorem KdI.text (h:KdI w wx R s j u f xs K) {v':Value} {f':Mk.Fo} {xs':List Value} (ho:OwnF wy w.heap.size K v' f' xs') (ha:Ap (fun b=>u.ownBlock=some b) wx wy):KdI w wy R s j v' f' xs' K:=by
 have hr:=h.rl;have hS:∀ b,u.ownBlock=some b→w.heap.size≤b:=fun b q=>(h.ow.own.lt b q).1
 exact⟨hr,(ha.block R (Blk.lt h.x) (fun q=>by have:=hS R q;omega)).trans h.x,ap_own h.ap ha hS,ho,h.kr⟩
theorem KdI.push (h:KdI w wx R s j u f xs K) (hap:Ap (fun b=>b=R) wx wy) (hx:Xr wy R s j') {n:List UInt8} {a:List Mk.At} {k:Mk.Fo} {va:Value} {ao:Option Addr} {cap:Nat} {v':Value} {w1 w2:World} (hva:AtsV wy (Nw wx wy) va a) (hvk:FoV wy (Nw wx wy) (.slice ao k.len cap) k) (hn:n ≠ []) (h1:Below wy.heap.size wy w1)
  (hown:w2.ownsRow w.heap.size 53 4 v' (f.len + 1) (xs++[.string (st n),va,.string (st []),.slice ao k.len cap])) (hgr:w1.grownBy w2 u.ownBlock) (hf:v'.ownBlock=u.ownBlock∨v'.ownBlock=some w1.heap.size) :
  KdI w w2 R s j' v' (f.app (.node n a [] k .nil)) (xs++[.string (st n),va,.string (st []),.slice ao k.len cap]) (fun b=>K b∨Nw wx wy b):=by
 have h2:=h.ap2 hap hx;have hr:=h.rl;have hS:∀ b,u.ownBlock=some b→w.heap.size≤b:=fun b q=>(h.ow.own.lt b q).1
 have OF:OwnF wy w.heap.size (fun b=>K b∨Nw wx wy b) u f xs:=by
  refine⟨h2.ow.own,h2.ow.cells.frame (fun b hb=>⟨.inl hb,rfl⟩),?_,?_⟩
  ·intro g hg
   rintro (q | q)
   ·exact h.ow.ne g hg q
   ·have:=(h.ow.own.lt g hg).2;have:=q.1;omega
  ·rintro b (q | q)
   ·exact h2.ow.le b q
   ·exact q.2
 have hm:f.merges n=false:=by
  rw[Bool.eq_false_iff];intro q;exact hn ((Mk.Fo.z3e _ _).1 q).1
 obtain⟨ao',cap',zs,e1,e2,e3,e4⟩:=hvk;injection e1 with g1 g2 g3;subst g1;subst g3;have hsn:Mk.Fo.snoc n a [] k f=f.app (.node n a [] k .nil):=Mk.Fo.j07 n a [] k f (fun q=>hn q.1);have kp:∀ b,Nw wx wy b→(K b∨Nw wx wy b)∧wy.heap[b]? = wy.heap[b]?:=fun b hb=>⟨.inr hb,rfl⟩
 have P:=OF.pushed (n:=n) (t:=[]) (k:=k) (hva.frame kp) (e2.frame kp) e4 (e3.frame kp) hm h1 hown hgr hf;rw[hsn] at P;have A1:Ap (fun b=>b=R) w w1:=h2.ap.trans (Ap.of_below h1);have A2:Ap (fun b=>b=R) w w2:=⟨hgr.os.trans A1.os,hgr.tape.trans A1.tape,hgr.output.trans A1.output,Nat.le_trans A1.size hgr.size,fun i hi hnr=>(hgr.block i (Nat.lt_of_lt_of_le hi A1.size) (fun e=>by have:=hS i e.symm;omega)).trans (A1.block i hi hnr)⟩;refine⟨hr,?_,A2,P,?_⟩
 ·have hRy:=Blk.lt hx
  exact(hgr.block R (Nat.lt_of_lt_of_le hRy h1.size) (fun e=>by have:=hS R e.symm;omega)).trans ((h1.block R hRy).trans hx)
 ·rintro b (q | q)
  ·exact h.kr b q
  ·exact Nat.le_trans h.ap.size q.1
theorem z9j (p:List UInt8) (h:KdI w wx R s j u f xs K) (hk:j≤s.size) (hs:s.size≤100000) :
  Calls prog 216 #[.pointer (some ⟨R,0,none⟩),.string (st p)] wx fun e w'=>e=.returned (.bool (Mg.pre p (s.data.toList.drop j)))∧KdI w w' R s j u f xs K:=by
 refine(z5d p h.x hk (by omega)).mono ?_;rintro e w1 ⟨rfl,n,hw⟩;subst hw;exact⟨rfl,h.drewN n⟩
end
theorem j8a {s:ByteArray} {R:Nat} (M:Nat) (hR:4 < R) (hs:s.size≤100000) (HE:ElemC s R M):KidsC s R M:=by
 intro deep k w hM hk hd1 hd8 hg h;have HG:=Ld hg;have HEI:=Ld HE;have hRl:R < w.heap.size:=Blk.lt h;have HX:=Ld h;clear hg h HE;have hwd:IntKind.i64.wrap (deep + 1)=deep + 1:=by rw[IntKind.wrap_i64];omega
 go_enter func217,ntmps217;go_wp2_with fail
 go_loopg [5] s.size (fun g u wx=>∃ j f xs Kr,k≤j∧j≤s.size∧s.size≤j + g∧f.bulk≤5 * j∧Hid (Fd.z0q deep (s.data.toList.drop k) .nil=Fd.z0q deep (s.data.toList.drop j) f)∧Hid (KdI w wx R s j u f xs Kr))
 case atStart=>exact⟨k,.nil,[],(fun _=>False),Lr,hk,by omega,Nat.zero_le _,rfl,⟨hRl,HX.out,Ap.refl _ _,⟨World.ownsRow_nil _ _ _ _,rfl,fun _ _ h=>h,fun _ h=>h.elim⟩,fun _ h=>h.elim⟩⟩
 case round =>
  obtain⟨j,f,xs,Kr,hkj,hjs,hfu,hbk,HA,I⟩:=hrel;obtain⟨ao0,cap0,hu0⟩:=Z9 I.out.ow.own;subst hu0;have hdl:(s.data.toList.drop j).length=s.size - j:=by rw[List.length_drop,bs_len]
  have HDL:=Ld hdl;have HROOM:Hid (∀ p:List UInt8,Mg.pre p (s.data.toList.drop j)=true→p.length ≠ 0→j + p.length≤s.size):=by
   intro p hp h0;have h3:=Fd.z1a hp;rw[hdl] at h3;omega
  clear hdl HX;have HB1:=Ld (z9j [60,47] I.out hjs hs);obtain⟨b1,hb1⟩:∃ b,Mg.pre [60,47] (s.data.toList.drop j)=b:=⟨_,rfl⟩;rw[hb1] at HB1;have HP1:=Ld hb1;clear hb1;go_wp2_with fail;refine HB1.out.mono ?_;rintro e w1 ⟨rfl,hI⟩;have I1:=Ld hI;clear hI HB1 I
  cases b1 with
  | true =>
   have hj2:j + 2≤s.size:=HROOM.out _ HP1.out (by decide);have HE:Hid (Fd.z0q deep (s.data.toList.drop k) .nil=.ok f (s.data.toList.drop (j + 2))):=by show _=_;rw[HA.out,Fd.q87 HP1.out,List.drop_drop]
   have c1:=I1.out.x.c1;have f1:=I1.out.x.fz 1;have I2:Hid (KdI w (w1.setCell ⟨R,1,none⟩ (.int .i64 ((j:Int) + 2))) R s (j + 2) (.slice ao0 f.len cap0) f xs Kr):=I1.out.moved ((Moved.refl R w1).setCell 1 _) (by have:=I1.out.x.at_ (j + 2);simpa using this);clear HA HP1 I1;go_wp2_with fail;go_ret;refine .inr ⟨f,j + 2,_,HE.out,rfl,by omega,hj2,I2.out.x,I2.out.ap,I2.out.ow.foV (fun b hb=>⟨I2.out.kr b hb,I2.out.ow.le b hb⟩) (fun g hg=>I2.out.ow.own.lt g hg)⟩
  | false =>
  have HB2:=Ld (z9j Fd.z1y I1.out hjs hs);obtain⟨b2,hb2⟩:∃ b,Mg.pre Fd.z1y (s.data.toList.drop j)=b:=⟨_,rfl⟩;rw[hb2] at HB2;have HP2:=Ld hb2;clear hb2;go_wp2_with fail;refine HB2.out.mono ?_;rintro e w2 ⟨rfl,hI⟩;have I2:=Ld hI;clear hI HB2 I1
  cases b2 with
  | true =>
   as_aux_lemma =>
   have hj9:j + 9≤s.size:=HROOM.out _ HP2.out (by decide);have c1:=I2.out.x.c1;have f1:=I2.out.x.fz 1;have I3:Hid (KdI w (w2.setCell ⟨R,1,none⟩ (.int .i64 ((j:Int) + 9))) R s (j + 9) (.slice ao0 f.len cap0) f xs Kr):=I2.out.moved ((Moved.refl R w2).setCell 1 _) (by have:=I2.out.x.at_ (j + 9);simpa using this);clear I2;go_upto_region 8 with fail;generalize w2.setCell ⟨R,1,none⟩ (.int .i64 ((j:Int) + 9))=w3 at I3 ⊢;clear c1 f1;have HT:=Ld (xr_to [93,93,62] (I3.out.gl HG.out hR) I3.out.x hj9 (by omega) (by decide) (by decide));go_wp2_with fail;refine HT.out.mono ?_;rintro e w4 (⟨ha,rfl,n4,hw4⟩ | ⟨a,j4,ha,rfl,hj4,hjs4,hx,hm⟩)
   ·subst hw4
    have HE:Hid (Fd.z0q deep (s.data.toList.drop k) .nil=.er 1):=by
     show _=_;rw[HA.out,Fd.q4o HP1.out HP2.out (e:=1)];rw[List.drop_drop,Fd.toX,ha]
    have AP:=Ld (I3.out.ap.drewN n4);clear ha HT;go_wp2_with fail;exact⟨rfl,.inl ⟨1,HE.out,rfl,AP.out⟩⟩
   ·have htx:Fd.toX [93,93,62] ((s.data.toList.drop j).drop 9)=.ok a (s.data.toList.drop j4):=by rw[List.drop_drop,Fd.toX,ha]
    have htl:=Fd.z9u (by simp) htx;rw[List.drop_drop,List.length_drop,List.length_drop,bs_len] at htl;have HN:Hid (Fd.z0q deep (s.data.toList.drop k) .nil=Fd.z0q deep (s.data.toList.drop j4) (Fd.z9i f a)):=by
     show _=_;rw[HA.out,Fd.j2g HP1.out HP2.out htx]
    have hbk2:(Fd.z9i f a).bulk≤5 * j4:=by
     have:=Fd.z7f f a;simp only [List.length_cons,List.length_nil] at htl;omega
    have I4:=Ld (I3.out.moved hm hx);have HTX:=Ld (j7x f a _ w.heap.size Kr xs w4 I4.out.ow I4.out.ap.size (by simp only [List.length_cons,List.length_nil] at htl;omega));clear ha htx htl hx hm HT HA I3;go_wp2_with fail;refine HTX.out.mono ?_;rintro e w5 ⟨v',xs',rfl,hof,hap,_⟩;have I5:=Ld (I4.out.text hof hap);clear hof hap HTX I4;obtain⟨g',rfl⟩:∃ g',gk=g' + 1:=⟨gk - 1,by omega⟩;go_wp2_with fail
    go_roundg g'
    case measure=>omega
    case rel=>exact⟨j4,_,xs',Kr,by omega,hjs4,by omega,hbk2,HN,I5⟩
  | false =>
  have HAS:=Ld (j0k (I2.out.gl HG.out hR) hR I2.out.x hjs (by omega));go_wp2_with fail;refine HAS.out.mono ?_;rintro e w3 (⟨ha,rfl,hx,hm⟩ | ⟨ha,rfl,hm⟩ | ⟨j3,ha,rfl,hj3,hjs3,hx,hm⟩)
  case inr.inl =>
   have HE:Hid (Fd.z0q deep (s.data.toList.drop k) .nil=.er 1):=by show _=_;rw[HA.out,Fd.q25 HP1.out HP2.out ha]
   have AP:=Ld (I2.out.ap.trans hm.ap);clear ha hm HAS;go_wp2_with fail;exact⟨rfl,.inl ⟨1,HE.out,rfl,AP.out⟩⟩
  case inr.inr =>
   have HN:Hid (Fd.z0q deep (s.data.toList.drop k) .nil=Fd.z0q deep (s.data.toList.drop j3) f):=by show _=_;rw[HA.out,Fd.q86 HP1.out HP2.out ha]
   have I3:=Ld (I2.out.moved hm hx);clear ha hm hx HAS;obtain⟨g',rfl⟩:∃ g',gk=g' + 1:=⟨gk - 1,by omega⟩;go_wp2_with fail
   go_roundg g'
   case measure=>omega
   case rel=>exact⟨j3,f,xs,Kr,by omega,hjs3,by omega,by omega,HN,I3⟩
  have HAN:=Ld ha;have I3:=Ld (I2.out.moved hm hx);clear ha hm hx HAS I2;have HB3:=Ld (z9j [60] I3.out hjs hs);obtain⟨b3,hb3⟩:∃ b,Mg.pre [60] (s.data.toList.drop j)=b:=⟨_,rfl⟩;rw[hb3] at HB3;have HP3:=Ld hb3;clear hb3;go_wp2_with fail;refine HB3.out.mono ?_;rintro e w4 ⟨rfl,hI⟩;have I4:=Ld hI;clear hI HB3 I3
  cases b3 with
  | true =>
   as_aux_lemma =>
   have HEL:=Ld (HEI.out (deep + 1) j w4 (by omega) hjs (by omega) (by omega) (I4.out.gl HG.out hR) I4.out.x);go_wp2_with fail;refine HEL.out.mono ?_;rintro e w5 (⟨er,he,rfl,hap⟩ | ⟨x,j5,va,vk,he,rfl,hj5,hjs5,hx,hap,hva,hvk,hxn⟩)
   ·have HE:Hid (Fd.z0q deep (s.data.toList.drop k) .nil=.er er):=by show _=_;rw[HA.out,Fd.q4p HP1.out HP2.out HAN.out HP3.out he]
    have AP:=Ld (I4.out.ap.trans hap);clear he hap HEL;go_wp2_with fail;exact⟨rfl,.inl ⟨er,HE.out,rfl,AP.out⟩⟩
   ·have HN:Hid (Fd.z0q deep (s.data.toList.drop k) .nil=Fd.z0q deep (s.data.toList.drop j5) (f.app (.node x.name x.ats [] x.kids .nil))):=by show _=_;rw[HA.out,Fd.j2h HP1.out HP2.out HAN.out HP3.out he]
    have hxb:=Fd.q2y he;rw[List.length_drop,List.length_drop,bs_len] at hxb;have hbk2:(f.app (.node x.name x.ats [] x.kids .nil)).bulk≤5 * j5:=by
     rw[Fd.q0f];have h0:Mk.Fo.bulk (.node x.name x.ats [] x.kids .nil)=1 + x.name.length + 0 + Mk.Fo.atB x.ats + Mk.Fo.bulk x.kids + 0:=rfl;rw[h0];omega
    have hfl:=Mk.Fo.z1r f;obtain⟨aoa,capa,hva1,_⟩:=id hva;subst hva1;obtain⟨aok,capk,xsk,hvk1,_⟩:=id hvk;subst hvk1;have I4b:=I4.out.ap2 hap hx;have ow10:=z0f I4b.ow.own ((Ap.refl (fun _=>False) w5).alloc (.cells #[.string (st x.name),.slice aoa x.ats.length capa,.string (st []),.slice aok x.kids.len capk] 53)) (fun _ _ q=>q);have hal2:=(Below.refl w5.heap.size w5).alloc (Lr) (.cells #[.string (st x.name),.slice aoa x.ats.length capa,.string (st []),.slice aok x.kids.len capk] 53);have hBs:w.heap.size≤(w5.alloc (.cells #[.string (st x.name),.slice aoa x.ats.length capa,.string (st []),.slice aok x.kids.len capk] 53)).heap.size:=Nat.le_trans I4b.ap.size (by simp);have HPU:=Ld (And.intro hap (And.intro hx (And.intro hva (And.intro hvk (And.intro hxn hal2)))));obtain⟨i0,hi,hz0,hz1,hz2⟩:=info_parts Tryz.infoNode;unfold z05;clear he hxb HEL HA hap hx hva hvk hxn hal2 I4b;go_wp2_with (at_builtin;refine J3 rfl _ _ 51 rfl w.heap.size 53 i0 (.agg #[.string ⟨#[]⟩,.slice none 0 0,.string ⟨#[]⟩,.slice none 0 0]) 4 80 underlying51 hi hz0 hz1 hz2 rfl (by decide) _ _ _ rfl ow10 ⟨w5.heap.size,0,none⟩ 1 1 [.string (st x.name),.slice aoa x.ats.length capa,.string (st []),.slice aok x.kids.len capk] rfl rfl (z0h _ _ _) (by intro u hu;simp at hu;rcases hu with rfl | rfl | rfl | rfl <;> rfl) (by decide) (by unfold maxLen;omega) (by omega) hBs ?_);intro v' w6 hown' hgrow hfresh;have I6:=Ld (I4.out.push HPU.out.1 HPU.out.2.1 HPU.out.2.2.1 HPU.out.2.2.2.1 HPU.out.2.2.2.2.1 HPU.out.2.2.2.2.2 hown' hgrow (hfresh.imp id (fun e=>by rw[e];simp)));clear hown' hgrow hfresh HPU ow10 hBs I4;obtain⟨g',rfl⟩:∃ g',gk=g' + 1:=⟨gk - 1,by omega⟩;go_wp2_with fail
    go_roundg g'
    case measure=>omega
    case rel=>exact⟨j5,_,_,_,by omega,hjs5,by omega,hbk2,HN,I6⟩
  | false =>
   as_aux_lemma =>
   have HPL:=Ld (xr_plain (I4.out.gl HG.out hR) hR I4.out.x hjs hs);go_wp2_with fail;refine HPL.out.mono ?_;rintro e w5 (⟨ha,rfl,hap⟩ | ⟨a,y,ha,rfl,hal,hx,hm⟩)
   ·have HE:Hid (Fd.z0q deep (s.data.toList.drop k) .nil=.er 1):=by show _=_;rw[HA.out,Fd.q4r HP1.out HP2.out HAN.out HP3.out ha]
    have AP:=Ld (I4.out.ap.trans hap);clear ha hap HPL;go_wp2_with fail;exact⟨rfl,.inl ⟨1,HE.out,rfl,AP.out⟩⟩
   have I5:=Ld (I4.out.moved hm hx);have hne:=Fd.q3y HP3.out ha;have hne1:1≤a.length:=List.length_pos_iff.2 hne;have HAH:=Ld ha;clear hm hx HPL I4 ha hne;have HTO:=Ld (q96 a w5 (by omega) (I5.out.gl HG.out hR));go_wp2_with fail;refine HTO.out.mono ?_;rintro e w6 ⟨hb6,⟨hk2,rfl⟩ | ⟨hk2,rfl⟩⟩
   case inr =>
    have HE:Hid (Fd.z0q deep (s.data.toList.drop k) .nil=.er 1):=by show _=_;rw[HA.out,Fd.q4q HP1.out HP2.out HAN.out HP3.out HAH.out hk2]
    have AP:=Ld (I5.out.below hb6).ap;clear hk2 hb6 HTO;go_wp2_with fail;exact⟨rfl,.inl ⟨1,HE.out,rfl,AP.out⟩⟩
   have HN:Hid (Fd.z0q deep (s.data.toList.drop k) .nil=Fd.z0q deep (s.data.toList.drop (j + a.length)) (Fd.z9i f (Mk.take a).1)):=by show _=_;rw[HA.out,Fd.j2i HP1.out HP2.out HAN.out HP3.out HAH.out hk2,List.drop_drop]
   have htl:=Mk.take_len a;have I6:=Ld (I5.out.below hb6);generalize (Mk.take a).1=t at HN htl ⊢;have hbk2:(Fd.z9i f t).bulk≤5 * (j + a.length):=by
    have:=Fd.z7f f t;omega
   have HTX:=Ld (j7x f t _ w.heap.size Kr xs w6 I6.out.ow I6.out.ap.size (by omega));clear hk2 hb6 HTO HAH HA I5;go_wp2_with fail;refine HTX.out.mono ?_;rintro e w7 ⟨v',xs',rfl,hof,hap,_⟩;have I7:=Ld (I6.out.text hof hap);clear hof hap HTX I6;obtain⟨g',rfl⟩:∃ g',gk=g' + 1:=⟨gk - 1,by omega⟩;go_wp2_with fail
   go_roundg g'
   case measure=>omega
   case rel=>exact⟨j + a.length,_,xs',Kr,by omega,hal,by omega,hbk2,HN,I7⟩
theorem xr_both {s:ByteArray} {R:Nat} (hR:4 < R) (hs:s.size≤100000) (M:Nat):ElemC s R M∧KidsC s R M:=by
 induction M with
 | zero =>
  have h0:ElemC s R 0:=fun deep k w h=>absurd h (Nat.not_lt_zero _)
  exact⟨h0,j8a 0 hR hs h0⟩
 | succ M ih =>
  have h1:=j3z M hR hs ih.2;exact⟨h1,j8a (M + 1) hR hs h1⟩
theorem j0i (C E:Nat) (w:World) (a b c d f:Value) (hC:Blk w C 53 #[a,b,c,d]) (hE:Blk w E 28 #[f]) (hCE:C ≠ E) (er:Int) (older:List PanicEntry) :
  CallsD prog 163 #[.pointer (some ⟨C,0,none⟩),.pointer (some ⟨E,0,none⟩)] (.panicking ({ v:=.iface 28 (.int .i64 er),recovered:=false } :: older)) w fun e u' w' =>
   e=.returned (.tuple #[])∧u'=.panicking ({ v:=.iface 28 (.int .i64 er),recovered:=true } :: older)∧Blk w' C 53 j4b∧Blk w' E 28 #[.int .i64 er]∧Ap (fun b=>b=C∨b=E) w w':=by
 have c0:w.cell? ⟨C,0,none⟩=some a:=Blk.cell hC 0;have c1:w.cell? ⟨C,1,none⟩=some b:=Blk.cell hC 1;have c2:w.cell? ⟨C,2,none⟩=some c:=Blk.cell hC 2;have c3:w.cell? ⟨C,3,none⟩=some d:=Blk.cell hC 3;have y:∀ i,w.frozen? ⟨C,i,none⟩=false:=Blk.frozen hC;have hEn:Blk (ansW w C (.string ⟨#[]⟩) (.slice none 0 0) (.string ⟨#[]⟩) (.slice none 0 0)) E 28 #[f] :=
  Blk.far (Blk.far (Blk.far (Blk.far hE (p:=⟨C,0,none⟩) (fun e=>hCE e.symm) _) (p:=⟨C,1,none⟩) (fun e=>hCE e.symm) _) (p:=⟨C,2,none⟩) (fun e=>hCE e.symm) _) (p:=⟨C,3,none⟩) (fun e=>hCE e.symm) _
 have hCn:Blk (ansW w C (.string ⟨#[]⟩) (.slice none 0 0) (.string ⟨#[]⟩) (.slice none 0 0)) C 53 j4b:=Blk.set_ (Blk.set_ (Blk.set_ (Blk.set_ hC 0 _) 1 _) 2 _) 3 _;have hAn:Ap (fun b=>b=C∨b=E) w (ansW w C (.string ⟨#[]⟩) (.slice none 0 0) (.string ⟨#[]⟩) (.slice none 0 0)):=((((Ap.refl (fun b=>b=C∨b=E) w).setCell (p:=⟨C,0,none⟩) (.inl rfl) _).setCell (p:=⟨C,1,none⟩) (.inl rfl) _).setCell (p:=⟨C,2,none⟩) (.inl rfl) _).setCell (p:=⟨C,3,none⟩) (.inl rfl) _;have e0:(ansW w C (.string ⟨#[]⟩) (.slice none 0 0) (.string ⟨#[]⟩) (.slice none 0 0)).cell? ⟨E,0,none⟩=some f:=Blk.cell hEn 0;have e1:=Blk.frozen hEn 0;have FIN:=Ld (And.intro (Blk.far hCn (p:=⟨E,0,none⟩) hCE (.int .i64 er)) (And.intro (Blk.set_ hEn 0 (.int .i64 er)) (hAn.setCell (p:=⟨E,0,none⟩) (.inr rfl) (.int .i64 er))));unfold ansW at e0 e1;clear hC hE hEn hCn hAn;have hta:∀ W:World,(Instr.typeAssert (.iface 28 (.int .i64 er)) 20 28 true).run prog W=.ok (.tuple #[.int .i64 er,.bool true]) W:=fun _=>by kernel_rfl
 refine callsD_of_wpS func163 rfl fun c₀ cs hu=>?_
 apply wpS_seq
 apply wpS_region
 simp[wpOpsS,go_sem,recoverD,hu,ntmps163,Exit.thenS];refine wpS_of_wp ?_;change Code.wp _ _ _ { tmps:=#[.pointer (some ⟨C,0,none⟩),.pointer (some ⟨E,0,none⟩),.iface 28 (.int .i64 er),undef,undef,.iface 28 (.int .i64 er),undef,undef,undef,undef,undef,undef,undef,undef,undef,undef,undef,undef],defers:=[] } w;go_wp2_with fail
 cases c₀
 simp only [bodyPostS];refine⟨trivial,_,rfl,_,by simp[results,results163],rfl,rfl,FIN.out.1,FIN.out.2.1,FIN.out.2.2⟩
theorem q95 (C E:Nat) (w:World) :
  CallsD prog 163 #[.pointer (some ⟨C,0,none⟩),.pointer (some ⟨E,0,none⟩)] .returning w fun e u' w'=>e=.returned (.tuple #[])∧u'=.returning∧w'=w:=by
 refine callsD_of_wpS func163 rfl fun c₀ cs hu=>?_
 apply wpS_seq
 apply wpS_region
 simp[wpOpsS,go_sem,recoverD,hu,ntmps163,Exit.thenS];refine wpS_of_wp ?_;change Code.wp _ _ _ { tmps:=#[.pointer (some ⟨C,0,none⟩),.pointer (some ⟨E,0,none⟩),.nilIface,undef,undef,.nilIface,undef,undef,undef,undef,undef,undef,undef,undef,undef,undef,undef,undef],defers:=[] } w;go_wp2_with fail
 cases c₀
 simp_all [bodyPostS,results,results163]
structure AlI (w wx:World) (C E R:Nat) (s:ByteArray) (j:Nat) (a b c d:Value):Prop where
 x:Xr wx R s j
 bl:Below w.heap.size w wx
 wc:w.heap.size≤C
 ce:C < E
 er:E < R
 cb:Blk wx C 53 #[a,b,c,d]
 eb:Blk wx E 28 #[.int .i64 0]
section
variable {w wx wy : World} {C E R : Nat} {s : ByteArray} {j j' : Nat} {a b c d : Value}
theorem AlI.ap2 (h:AlI w wx C E R s j a b c d) (ha:Ap (fun b=>b=R) wx wy) (hx:Xr wy R s j'):AlI w wy C E R s j' a b c d:=by
 have h1:=h.wc;have h2:=h.ce;have h3:=h.er;exact⟨hx,h.bl.trans (ha.below h.bl.size (fun k hk e=>by have e:k=R:=e;omega)),h.wc,h.ce,h.er,h.cb.ap ha (fun e=>by have e:C=R:=e;omega),h.eb.ap ha (fun e=>by have e:E=R:=e;omega)⟩
theorem AlI.gave (h:AlI w wx C E R s j a b c d) (ha:Ap (fun b=>b=R) wx wy):Below w.heap.size w wy∧Blk wy C 53 #[a,b,c,d]∧Blk wy E 28 #[.int .i64 0]:=by
 have h1:=h.wc;have h2:=h.ce;have h3:=h.er;exact⟨h.bl.trans (ha.below h.bl.size (fun k hk e=>by have e:k=R:=e;omega)),h.cb.ap ha (fun e=>by have e:C=R:=e;omega),h.eb.ap ha (fun e=>by have e:E=R:=e;omega)⟩
theorem AlI.put (h:AlI w wx C E R s j a b c d) (a' b' c' d':Value):AlI w (ansW wx C a' b' c' d') C E R s j a' b' c' d':=by
 have h1:=h.wc;have h2:=h.ce;have h3:=h.er;have n1:R ≠ C:=by omega
 have n2:E ≠ C:=by omega
 refine⟨?_,?_,h.wc,h.ce,h.er,Blk.set_ (Blk.set_ (Blk.set_ (Blk.set_ h.cb 0 _) 1 _) 2 _) 3 _,?_⟩
 ·exact Blk.far (Blk.far (Blk.far (Blk.far h.x (p:=⟨C,0,none⟩) n1 _) (p:=⟨C,1,none⟩) n1 _) (p:=⟨C,2,none⟩) n1 _) (p:=⟨C,3,none⟩) n1 _
 ·exact(((h.bl.setCell (p:=⟨C,0,none⟩) h1 _).setCell (p:=⟨C,1,none⟩) h1 _).setCell (p:=⟨C,2,none⟩) h1 _).setCell (p:=⟨C,3,none⟩) h1 _
 ·exact Blk.far (Blk.far (Blk.far (Blk.far h.eb (p:=⟨C,0,none⟩) n2 _) (p:=⟨C,1,none⟩) n2 _) (p:=⟨C,2,none⟩) n2 _) (p:=⟨C,3,none⟩) n2 _
end
def z2v (s:List UInt8) (w:World) (e:Ending) (w':World):Prop:=Below w.heap.size w w'∧∃ va vk,e=.returned (.tuple #[z05 (Fd.xmlR s).1.name va [] vk,.int .i64 (Fd.xmlR s).2])∧AtsV w' (Nw w w') va (Fd.xmlR s).1.ats∧FoV w' (Nw w w') vk (Fd.xmlR s).1.kids
theorem z2v.gave {s:List UInt8} {w wx w':World} {C E:Nat} {er:Int} (hb:Below w.heap.size w wx) (hC:w.heap.size≤C) (hE:w.heap.size≤E) (ha:Ap (fun b=>b=C∨b=E) wx w') (hx:Fd.xmlR s=(⟨[],[],.nil⟩,er)) :
  z2v s w (.returned (.tuple #[.agg #[.string ⟨#[]⟩,.slice none 0 0,.string ⟨#[]⟩,.slice none 0 0],.int .i64 er])) w':=by
 unfold z2v;rw[hx];exact⟨hb.trans (ha.below hb.size (by rintro k hk (e | e) <;> omega)),.slice none 0 0,.slice none 0 0,rfl,AtsV.nil _ _,⟨none,0,[],rfl,.inl rfl,rfl,Nat.zero_le _⟩⟩
theorem xm_All (s:List UInt8) (w:World) (hg:Gl w) (hs:s.length≤100000) :
  Calls prog 100 #[.string (st s)] w fun e w'=>z2v s w e w':=by
 have hmf:∀ (fn:Fn) (first cap:Array Value) (w:World),(Instr.makeFunc fn first cap).run prog w=.ok (.func fn first cap) w:=fun _ _ _ _=>rfl
 have hlt:=hg.lt;have hz:(st s).size=s.length:=Z4 s;have I0:Hid (AlI w (((w.alloc (.cells #[.string ⟨#[]⟩,.slice none 0 0,.string ⟨#[]⟩,.slice none 0 0] 53)).alloc (.cells #[.int .i64 0] 28)).alloc (.cells #[.string (st s),.int .i64 0] 217)) w.heap.size (w.heap.size + 1) (w.heap.size + 1 + 1) (st s) 0 (.string ⟨#[]⟩) (.slice none 0 0) (.string ⟨#[]⟩) (.slice none 0 0)):=by
  have b0:=Blk.new w 53 #[.string ⟨#[]⟩,.slice none 0 0,.string ⟨#[]⟩,.slice none 0 0];have b1:=Blk.new (w.alloc (.cells #[.string ⟨#[]⟩,.slice none 0 0,.string ⟨#[]⟩,.slice none 0 0] 53)) 28 #[.int .i64 0];have b2:=Blk.new ((w.alloc (.cells #[.string ⟨#[]⟩,.slice none 0 0,.string ⟨#[]⟩,.slice none 0 0] 53)).alloc (.cells #[.int .i64 0] 28)) 217 #[.string (st s),.int .i64 0];simp only [World.size_alloc] at b1 b2;exact⟨b2,(((Below.refl _ w).alloc (Lr) _).alloc (by simp) _).alloc (by simp;omega) _,Lr,by omega,by omega,Blk.alloc (Blk.alloc b0 _) _,Blk.alloc b1 _⟩
 have HG:=Ld hg;have HQ:=Ld (Fd.j7z s);have h0:(st s).data.toList.drop 0=s:=rfl;clear hg;have HM:=Ld (j8b (HG.out.below I0.out.bl hlt) (by omega:4 < w.heap.size + 1 + 1) I0.out.x (Nat.zero_le _) (by rw[hz];omega));rw[h0] at HM
 go_enter_defers func100,ntmps100
 go_wp2_with fail;generalize (((w.alloc (.cells #[.string ⟨#[]⟩,.slice none 0 0,.string ⟨#[]⟩,.slice none 0 0] 53)).alloc (.cells #[.int .i64 0] 28)).alloc (.cells #[.string (st s),.int .i64 0] 217))=w3 at I0 HM ⊢;have hCE:w.heap.size ≠ w.heap.size + 1:=by omega
 have hR:4 < w.heap.size + 1 + 1:=by omega
 generalize w.heap.size + 1 + 1=R at I0 HM hR ⊢;generalize hE1:w.heap.size + 1=E at I0 hCE ⊢;generalize hC1:w.heap.size=C at I0 hCE ⊢;have hCC:w.heap.size≤C:=by omega
 have hEE:w.heap.size≤E:=by omega
 clear hE1 hC1;refine HM.out.mono ?_;rintro e w4 (⟨hm,rfl,hmv⟩ | ⟨j1,hm,rfl,hj0,hj1,hx,hmv⟩)
 ·as_aux_lemma =>
  have GV:=Ld (I0.out.gave hmv.ap);have HXQ:Hid (Fd.xmlR s=(⟨[],[],.nil⟩,1)):=by show _=_;rw[HQ.out,hm]
  clear hm hmv HM I0;go_wp2_with fail;refine leaves_cons (f:=163) (args:=#[.pointer (some ⟨C,0,none⟩),.pointer (some ⟨E,0,none⟩)]) (by simp) (by simp[go_sem]) ?_;refine(j0i C E w4 _ _ _ _ _ GV.out.2.1 GV.out.2.2 hCE _ []).mono ?_;rintro e u' wz ⟨rfl,rfl,hcz,hez,haz⟩;have z0:wz.cell? ⟨C,0,none⟩=some (.string ⟨#[]⟩):=Blk.cell hcz 0;have z1:wz.cell? ⟨C,1,none⟩=some (.slice none 0 0):=Blk.cell hcz 1;have z2:wz.cell? ⟨C,2,none⟩=some (.string ⟨#[]⟩):=Blk.cell hcz 2;have z3:wz.cell? ⟨C,3,none⟩=some (.slice none 0 0):=Blk.cell hcz 3;have z4:wz.cell? ⟨E,0,none⟩=some (.int .i64 1):=Blk.cell hez 0;have FIN:=Ld (z2v.gave GV.out.1 hCC hEE haz HXQ.out);clear hcz hez haz HQ;simp[Leaves,settle,results,results100,go_sem,z0,z1,z2,z3,z4];exact FIN.out
 have HMI:=Ld hm;have I1:=Ld (I0.out.ap2 hmv.ap hx);clear hm hmv hx HM I0;have HEL:=Ld ((xr_both hR (by omega:(st s).size≤100000) ((st s).size - j1 + 1)).1 1 j1 w4 (Nat.lt_succ_self _) hj1 (by decide) (by decide) (HG.out.below I1.out.bl hlt) I1.out.x);go_wp2_with fail;refine HEL.out.mono ?_;rintro e w5 (⟨er,he,rfl,hap⟩ | ⟨x,j2,va,vk,he,rfl,hj2,hjs2,hx,hap,hva,hvk,hxn⟩)
 ·as_aux_lemma =>
  have GV:=Ld (I1.out.gave hap);have HXQ:Hid (Fd.xmlR s=(⟨[],[],.nil⟩,er)):=by show _=_;rw[HQ.out,HMI.out];simp only;rw[he]
  clear he hap HEL I1 HMI;go_wp2_with fail;refine leaves_cons (f:=163) (args:=#[.pointer (some ⟨C,0,none⟩),.pointer (some ⟨E,0,none⟩)]) (by simp) (by simp[go_sem]) ?_;refine(j0i C E w5 _ _ _ _ _ GV.out.2.1 GV.out.2.2 hCE _ []).mono ?_;rintro e u' wz ⟨rfl,rfl,hcz,hez,haz⟩;have z0:wz.cell? ⟨C,0,none⟩=some (.string ⟨#[]⟩):=Blk.cell hcz 0;have z1:wz.cell? ⟨C,1,none⟩=some (.slice none 0 0):=Blk.cell hcz 1;have z2:wz.cell? ⟨C,2,none⟩=some (.string ⟨#[]⟩):=Blk.cell hcz 2;have z3:wz.cell? ⟨C,3,none⟩=some (.slice none 0 0):=Blk.cell hcz 3;have z4:wz.cell? ⟨E,0,none⟩=some (.int .i64 er):=Blk.cell hez 0;have FIN:=Ld (z2v.gave GV.out.1 hCC hEE haz HXQ.out);clear hcz hez haz HQ;simp[Leaves,settle,results,results100,go_sem,z0,z1,z2,z3,z4];exact FIN.out
 have HEI:=Ld he;have I2:=Ld (I1.out.ap2 hap hx);have h45:=hap.size;have h34:=I1.out.bl.size;obtain⟨aoa,capa,hva1,_⟩:=id hva;subst hva1;obtain⟨aok,capk,xsk,hvk1,_⟩:=id hvk;subst hvk1;have hCl:C < w4.heap.size:=Blk.lt I1.out.cb;have hRl:R < w4.heap.size:=Blk.lt I1.out.x;have HVA:=Ld (And.intro hva hvk);clear he hap hx HEL hva hvk hxn I1;have c0:w5.cell? ⟨C,0,none⟩=some (.string ⟨#[]⟩):=Blk.cell I2.out.cb 0;have c1:w5.cell? ⟨C,1,none⟩=some (.slice none 0 0):=Blk.cell I2.out.cb 1;have c2:w5.cell? ⟨C,2,none⟩=some (.string ⟨#[]⟩):=Blk.cell I2.out.cb 2;have c3:w5.cell? ⟨C,3,none⟩=some (.slice none 0 0):=Blk.cell I2.out.cb 3;have y:∀ i,w5.frozen? ⟨C,i,none⟩=false:=Blk.frozen I2.out.cb;have I3:=Ld (I2.out.put (.string (st x.name)) (.slice aoa x.ats.length capa) (.string (st [])) (.slice aok x.kids.len capk));have keep:∀ b,Nw w4 w5 b→Nw w5 (ansW w5 C (.string (st x.name)) (.slice aoa x.ats.length capa) (.string (st [])) (.slice aok x.kids.len capk)) b∨True:=fun _ _=>.inr trivial
 clear keep;have HV3:Hid (AtsV (ansW w5 C (.string (st x.name)) (.slice aoa x.ats.length capa) (.string (st [])) (.slice aok x.kids.len capk)) (Nw w4 w5) (.slice aoa x.ats.length capa) x.ats∧FoV (ansW w5 C (.string (st x.name)) (.slice aoa x.ats.length capa) (.string (st [])) (.slice aok x.kids.len capk)) (Nw w4 w5) (.slice aok x.kids.len capk) x.kids∧(ansW w5 C (.string (st x.name)) (.slice aoa x.ats.length capa) (.string (st [])) (.slice aok x.kids.len capk)).heap.size=w5.heap.size):=by
  have kp:∀ b,Nw w4 w5 b→Nw w4 w5 b∧(ansW w5 C (.string (st x.name)) (.slice aoa x.ats.length capa) (.string (st [])) (.slice aok x.kids.len capk)).heap[b]? = w5.heap[b]?:=by
   intro b hb;have hne:b ≠ C:=by have:=hb.1;omega
   refine⟨hb,?_⟩;unfold ansW;rw[Below.heap_setCell _ ⟨C,3,none⟩ _ b hne,Below.heap_setCell _ ⟨C,2,none⟩ _ b hne,Below.heap_setCell _ ⟨C,1,none⟩ _ b hne,Below.heap_setCell _ ⟨C,0,none⟩ _ b hne]
  exact⟨HVA.out.1.frame kp,HVA.out.2.frame kp,by simp[ansW,World.setCell]⟩
 clear HVA I2;unfold z05;go_upto_region 5 with fail;change Code.wp _ _ _ _ (ansW w5 C (.string (st x.name)) (.slice aoa x.ats.length capa) (.string (st [])) (.slice aok x.kids.len capk));clear c0 c1 c2 c3 y;generalize ansW w5 C (.string (st x.name)) (.slice aoa x.ats.length capa) (.string (st [])) (.slice aok x.kids.len capk)=w6 at I3 HV3 ⊢;have HM2:=Ld (j8b (HG.out.below I3.out.bl hlt) hR I3.out.x hjs2 (by omega));go_wp2_with fail;refine HM2.out.mono ?_;rintro e w7 (⟨hm,rfl,hmv⟩ | ⟨j3,hm,rfl,hj3,hjs3,hx,hmv⟩)
 ·as_aux_lemma =>
  have GV:=Ld (I3.out.gave hmv.ap);have HXQ:Hid (Fd.xmlR s=(⟨[],[],.nil⟩,1)):=by show _=_;rw[HQ.out,HMI.out];simp only;rw[HEI.out];simp only;rw[hm]
  clear hm hmv HM2 I3 HV3;go_wp2_with fail;refine leaves_cons (f:=163) (args:=#[.pointer (some ⟨C,0,none⟩),.pointer (some ⟨E,0,none⟩)]) (by simp) (by simp[go_sem]) ?_;refine(j0i C E w7 _ _ _ _ _ GV.out.2.1 GV.out.2.2 hCE _ []).mono ?_;rintro e u' wz ⟨rfl,rfl,hcz,hez,haz⟩;have z0:wz.cell? ⟨C,0,none⟩=some (.string ⟨#[]⟩):=Blk.cell hcz 0;have z1:wz.cell? ⟨C,1,none⟩=some (.slice none 0 0):=Blk.cell hcz 1;have z2:wz.cell? ⟨C,2,none⟩=some (.string ⟨#[]⟩):=Blk.cell hcz 2;have z3:wz.cell? ⟨C,3,none⟩=some (.slice none 0 0):=Blk.cell hcz 3;have z4:wz.cell? ⟨E,0,none⟩=some (.int .i64 1):=Blk.cell hez 0;have FIN:=Ld (z2v.gave GV.out.1 hCC hEE haz HXQ.out);clear hcz hez haz HQ;simp[Leaves,settle,results,results100,go_sem,z0,z1,z2,z3,z4];exact FIN.out
 have I4:=Ld (I3.out.ap2 hmv.ap hx);have HXE:Hid (Fd.xmlR s=if s.drop j3=[] then (x,0) else (⟨[],[],.nil⟩,1)):=by show _=_;rw[HQ.out,HMI.out];simp only;rw[HEI.out];simp only;rw[hm];rfl
 have h76:=hmv.size;have HV4:Hid (AtsV w7 (Nw w4 w5) (.slice aoa x.ats.length capa) x.ats∧FoV w7 (Nw w4 w5) (.slice aok x.kids.len capk) x.kids):=by
  have kp:∀ b,Nw w4 w5 b→Nw w4 w5 b∧w7.heap[b]? = w6.heap[b]?:=fun b hb=>⟨hb,hmv.block b (by have:=hb.1;omega)⟩
  exact⟨HV3.out.1.frame kp,HV3.out.2.1.frame kp⟩
 have h65:=HV3.out.2.2;clear hm hmv hx HM2 I3 HMI HEI HV3;have r0:=I4.out.x.c0;have r1:=I4.out.x.c1
 by_cases hend:j3 < (st s).size
 ·as_aux_lemma =>
  have GV:=Ld (I4.out.gave (Ap.refl _ _));have HXQ:Hid (Fd.xmlR s=(⟨[],[],.nil⟩,1)):=by
   show _=_;rw[HXE.out,if_neg];intro q;have:=congrArg List.length q;rw[List.length_drop] at this;simp at this;omega
  have hji:(j3:Int) < (st s).size:=by omega
  clear HV4 I4;go_wp2_with fail;refine(z3x 1 _).mono ?_;rintro e w8 ⟨rfl,hw8⟩;subst w8;go_wp2_with fail;refine leaves_cons (f:=163) (args:=#[.pointer (some ⟨C,0,none⟩),.pointer (some ⟨E,0,none⟩)]) (by simp) (by simp[go_sem]) ?_;refine(j0i C E w7 _ _ _ _ _ GV.out.2.1 GV.out.2.2 hCE _ []).mono ?_;rintro e u' wz ⟨rfl,rfl,hcz,hez,haz⟩;have z0:wz.cell? ⟨C,0,none⟩=some (.string ⟨#[]⟩):=Blk.cell hcz 0;have z1:wz.cell? ⟨C,1,none⟩=some (.slice none 0 0):=Blk.cell hcz 1;have z2:wz.cell? ⟨C,2,none⟩=some (.string ⟨#[]⟩):=Blk.cell hcz 2;have z3:wz.cell? ⟨C,3,none⟩=some (.slice none 0 0):=Blk.cell hcz 3;have z4:wz.cell? ⟨E,0,none⟩=some (.int .i64 1):=Blk.cell hez 0;have FIN:=Ld (z2v.gave GV.out.1 hCC hEE haz HXQ.out);clear hcz hez haz HQ;simp[Leaves,settle,results,results100,go_sem,z0,z1,z2,z3,z4];exact FIN.out
 have HXQ:Hid (Fd.xmlR s=(x,0)):=by
  show _=_;rw[HXE.out,if_pos (List.drop_of_length_le (by omega))]
 have hji:¬ (j3:Int) < (st s).size:=by omega
 clear HXE HQ;have c0:w7.cell? ⟨C,0,none⟩=some (.string (st x.name)):=Blk.cell I4.out.cb 0;have c1:w7.cell? ⟨C,1,none⟩=some (.slice aoa x.ats.length capa):=Blk.cell I4.out.cb 1;have c2:w7.cell? ⟨C,2,none⟩=some (.string (st [])):=Blk.cell I4.out.cb 2;have c3:w7.cell? ⟨C,3,none⟩=some (.slice aok x.kids.len capk):=Blk.cell I4.out.cb 3;have y:∀ i,w7.frozen? ⟨C,i,none⟩=false:=Blk.frozen I4.out.cb;have I5:=I4.out.put (.string (st x.name)) (.slice aoa x.ats.length capa) (.string (st [])) (.slice aok x.kids.len capk);have e0:(ansW w7 C (.string (st x.name)) (.slice aoa x.ats.length capa) (.string (st [])) (.slice aok x.kids.len capk)).cell? ⟨E,0,none⟩=some (.int .i64 0):=Blk.cell I5.eb 0;have e1:=Blk.frozen I5.eb 0;have B5:=Ld ((I5.bl.setCell (p:=⟨E,0,none⟩) hEE (.int .i64 0)));have CB5:=Ld (Blk.far I5.cb (p:=⟨E,0,none⟩) hCE (.int .i64 0));have EB5:=Ld (Blk.set_ I5.eb 0 (.int .i64 0));have HV5:Hid (AtsV ((ansW w7 C (.string (st x.name)) (.slice aoa x.ats.length capa) (.string (st [])) (.slice aok x.kids.len capk)).setCell ⟨E,0,none⟩ (.int .i64 0)) (Nw w ((ansW w7 C (.string (st x.name)) (.slice aoa x.ats.length capa) (.string (st [])) (.slice aok x.kids.len capk)).setCell ⟨E,0,none⟩ (.int .i64 0))) (.slice aoa x.ats.length capa) x.ats∧FoV ((ansW w7 C (.string (st x.name)) (.slice aoa x.ats.length capa) (.string (st [])) (.slice aok x.kids.len capk)).setCell ⟨E,0,none⟩ (.int .i64 0)) (Nw w ((ansW w7 C (.string (st x.name)) (.slice aoa x.ats.length capa) (.string (st [])) (.slice aok x.kids.len capk)).setCell ⟨E,0,none⟩ (.int .i64 0))) (.slice aok x.kids.len capk) x.kids):=by
  have hsz:((ansW w7 C (.string (st x.name)) (.slice aoa x.ats.length capa) (.string (st [])) (.slice aok x.kids.len capk)).setCell ⟨E,0,none⟩ (.int .i64 0)).heap.size=w7.heap.size:=by simp[ansW,World.setCell]
  have hER:=I4.out.er;have kp:∀ b,Nw w4 w5 b→Nw w ((ansW w7 C (.string (st x.name)) (.slice aoa x.ats.length capa) (.string (st [])) (.slice aok x.kids.len capk)).setCell ⟨E,0,none⟩ (.int .i64 0)) b∧((ansW w7 C (.string (st x.name)) (.slice aoa x.ats.length capa) (.string (st [])) (.slice aok x.kids.len capk)).setCell ⟨E,0,none⟩ (.int .i64 0)).heap[b]? = w7.heap[b]?:=by
   intro b hb;have hb1:=hb.1;have hb2:=hb.2;have hne:b ≠ C:=by omega
   have hne2:b ≠ E:=by omega
   refine⟨⟨by omega,by rw[hsz];omega⟩,?_⟩;unfold ansW;rw[Below.heap_setCell _ ⟨E,0,none⟩ _ b hne2,Below.heap_setCell _ ⟨C,3,none⟩ _ b hne,Below.heap_setCell _ ⟨C,2,none⟩ _ b hne,Below.heap_setCell _ ⟨C,1,none⟩ _ b hne,Below.heap_setCell _ ⟨C,0,none⟩ _ b hne]
  exact⟨HV4.out.1.frame kp,HV4.out.2.frame kp⟩
 unfold ansW at e0 e1;clear I5 I4 HV4;go_wp2_with fail;change Leaves _ _ _ _ _ _ ((ansW w7 C (.string (st x.name)) (.slice aoa x.ats.length capa) (.string (st [])) (.slice aok x.kids.len capk)).setCell ⟨E,0,none⟩ (.int .i64 0));generalize (ansW w7 C (.string (st x.name)) (.slice aoa x.ats.length capa) (.string (st [])) (.slice aok x.kids.len capk)).setCell ⟨E,0,none⟩ (.int .i64 0)=w8 at B5 CB5 EB5 HV5 ⊢;clear e0 e1 c0 c1 c2 c3 y;refine leaves_cons (f:=163) (args:=#[.pointer (some ⟨C,0,none⟩),.pointer (some ⟨E,0,none⟩)]) (by simp) (by simp[go_sem]) ?_;refine(q95 C E w8).mono ?_;rintro e u' wz ⟨rfl,rfl,hwz⟩;subst wz;have z0:w8.cell? ⟨C,0,none⟩=some (.string (st x.name)):=Blk.cell CB5.out 0;have z1:w8.cell? ⟨C,1,none⟩=some (.slice aoa x.ats.length capa):=Blk.cell CB5.out 1;have z2:w8.cell? ⟨C,2,none⟩=some (.string (st [])):=Blk.cell CB5.out 2;have z3:w8.cell? ⟨C,3,none⟩=some (.slice aok x.kids.len capk):=Blk.cell CB5.out 3;have z4:w8.cell? ⟨E,0,none⟩=some (.int .i64 0):=Blk.cell EB5.out 0;have FIN:Hid (z2v s w (.returned (.tuple #[.agg #[.string (st x.name),.slice aoa x.ats.length capa,.string (st []),.slice aok x.kids.len capk],.int .i64 0])) w8):=by
  show z2v _ _ _ _;unfold z2v;rw[HXQ.out];exact⟨B5.out,_,_,rfl,HV5.out.1,HV5.out.2⟩
 clear HXQ;simp[Leaves,settle,results,results100,go_sem,z0,z1,z2,z3,z4];exact FIN.out
end Go.Proofs.YtjonkbdldebkiaaGreatDoor
