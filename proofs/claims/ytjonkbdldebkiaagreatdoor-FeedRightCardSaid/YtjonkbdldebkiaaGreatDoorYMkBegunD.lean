/- Contract of the law's cleanBegun: what must be in any case, is. -/
import Derived.Test.YtjonkbdldebkiaaGreatDoorYMkHtml
import Derived.Test.YtjonkbdldebkiaaGreatDoorYWeC
import Derived.Test.YtjonkbdldebkiaaGreatDoorYMkSame
import Derived.Test.YtjonkbdldebkiaaGreatDoorYMkTree2
import Derived.Test.YtjonkbdldebkiaaGreatDoorYMkRep6
import Derived.Test.YtjonkbdldebkiaaGreatDoorYWxG
import Derived.Deep.RegionHeld3
set_option linter.unusedVariables false
set_option linter.unusedSimpArgs false
set_option maxHeartbeats 16000000
set_option maxRecDepth 100000
namespace Mk
def base0:Bs:=[104,116,116,112,58,47,47,97,47,98]
def s0:Bs:=[60,115,101,99,116,105,111,110,62,60,112,32,111,110,99,108,105,99,107,61,120,62,97,60,115,99,114,105,112,116,62,98,60,47,115,99,114,105,112,116,62,60,97,32,104,114,101,102,61,99,62,100,60,47,97,62,60,97,32,104,114,101,102,61,39,106,97,118,97,115,99,114,105,112,116,58,101,39,62,102,60,47,97,62,60,105,109,103,62,103]
def want0:Bs:=[60,112,62,97,60,97,32,104,114,101,102,61,34,104,116,116,112,58,47,47,97,47,99,34,62,100,60,47,97,62,60,97,62,102,60,47,97,62,103,60,47,112,62]
theorem html0:html base0 s0=want0:=by decide +kernel
theorem fits0:Fits base0 s0:=⟨by decide,by decide +kernel,by decide +kernel,by decide +kernel,by rw[html0];decide⟩
def short (s:Bs):Bool:=decide (s.length < 32) && s.all fun b=>(reps.lookup b).isNone
def j2s (t:Tok):Bool:=short t.text && t.ats.all fun a=>short a.v
theorem flat0:(flat (clean base0 (build (toks s0)))).all j2s=true:=by decide +kernel
theorem q4l:z4x page=0:=by decide +kernel
theorem q4m:clean [] page=page:=by decide +kernel
theorem j9r:z2t page=true:=by decide +kernel
def script:Fo:=.node [115,99,114,105,112,116] [] [] .nil .nil
theorem q8n:z4x script=0:=by decide +kernel
theorem j0r:z2t script=false:=by decide +kernel
end Mk
namespace Go.Proofs.YtjonkbdldebkiaaGreatDoor
open Go.RowKit
theorem j2n {s:List UInt8} (h:Mk.short s=true):j3d s:=by
 unfold Mk.short at h;rw[Bool.and_eq_true,decide_eq_true_iff,List.all_eq_true] at h;exact j0x s h.1 (fun b hb=>Option.isNone_iff_eq_none.1 (h.2 b hb))
theorem tells0:∀ t ∈ Mk.flat (Mk.clean Mk.base0 (Mk.build (Mk.toks Mk.s0))),z7f t:=by
 intro t ht;have h:=List.all_eq_true.1 Mk.flat0 t ht;unfold Mk.j2s at h;rw[Bool.and_eq_true,List.all_eq_true] at h;exact⟨fun _=>j2n h.1,fun a ha=>j2n (h.2 a ha)⟩
theorem q64 (w:World) (hg:Gl w) :
  Calls Tryz.prog 17 #[] w fun e w'=>e=.returned (.bool true)∧Below w.heap.size w w':=by
 have hlt:=hg.lt;have HH:=Lib.hid (j7p Mk.base0 Mk.s0 w hg (by decide) Mk.fits0 tells0);rw[Mk.html0,show Mk.want0=[60,112,62,97,60,97,32,104,114,101,102,61,34,104,116,116,112,58,47,47,97,47,99,34,62,100,60,47,97,62,60,97,62,102,60,47,97,62,103,60,47,112,62] from rfl] at HH;go_enter Tryz.func17,Tryz.ntmps17;go_wp2_with fail;refine HH.out.mono ?_;rintro e w1 ⟨rfl,hb1⟩;have B1:=Lib.hid hb1;clear HH hb1;go_wp2_with fail;refine(j06 w1).mono ?_;rintro e w2 ⟨v2,rfl,hv2,hb2⟩;have B2:=Lib.hid (B1.out.trans (hb2.mono B1.out.size));have HT:=Lib.hid (cl_Tree [] Mk.page v2 _ w2 (by decide) hv2 (fun b q=>q.2));clear hb2 hv2;go_wp2_with fail;refine HT.out.mono ?_;rintro e w3 ⟨v3,c,rfl,hc,_,hv3,hb3⟩;rw[Mk.q4l,if_neg (by decide),if_neg (by decide)] at hc;subst hc;have hv3:=hv3 rfl;rw[Mk.q4m] at hv3;have B3:=Lib.hid (B2.out.trans (hb3.mono B2.out.size));have HV3:Hid (FoV w3 (fun b=>b < w3.heap.size) v3 Mk.page):=hv3.frame (fun b q=>⟨q.elim (fun q=>Nat.lt_of_lt_of_le q.2 hb3.size) (fun q=>q.2),rfl⟩);obtain⟨ao3,cap3,xs3,hv3s,_⟩:=hv3;subst hv3s;clear hb3 HT;go_wp2_with fail;refine(j06 w3).mono ?_;rintro e w4 ⟨v4,rfl,hv4,hb4⟩;have B4:=Lib.hid (B3.out.trans (hb4.mono B3.out.size));have HI:=Lib.hid (cl_Is Mk.page v4 _ w4 (by decide) hv4 (fun b q=>q.2));rw[Mk.q4l,Mk.j9r,show (decide ((0:Int)=0) && true)=true from rfl] at HI;have HV4:Hid (FoV w4 (fun b=>b < w4.heap.size) (.slice ao3 Mk.page.len cap3) Mk.page):=HV3.out.frame (fun b q=>⟨Nat.lt_of_lt_of_le q hb4.size,hb4.block b q⟩);clear hb4 hv4 HV3;go_wp2_with fail;refine HI.out.mono ?_;rintro e w5 ⟨rfl,hb5⟩;have B5:=Lib.hid (B4.out.trans (hb5.mono B4.out.size));have HV5:Hid (FoV w5 (fun b=>b < w5.heap.size) (.slice ao3 Mk.page.len cap3) Mk.page):=HV4.out.frame (fun b q=>⟨Nat.lt_of_lt_of_le q hb5.size,hb5.block b q⟩);clear hb5 HI HV4;have hal:=(Below.refl w5.heap.size w5).alloc (Nat.le_refl _) (.cells (Y0 [115,99,114,105,112,116] [] (.slice none 0 0)++[]).toArray 53);have HS:FoV (w5.alloc (.cells (Y0 [115,99,114,105,112,116] [] (.slice none 0 0)++[]).toArray 53)) (fun b=>b=w5.heap.size) (.slice (some ⟨w5.heap.size,0,none⟩) 1 1) Mk.script:=FoV.of_blk (K:=fun b=>b=w5.heap.size) (f:=Mk.script) (Blk.new w5 53 (Y0 [115,99,114,105,112,116] [] (.slice none 0 0)++[]).toArray) rfl (Y4.one (k:=.nil) (r:=.nil) (FoV.nil0 _ _) (Y4.nil0 _ _)) (by decide);have HI:=Lib.hid (cl_Is Mk.script _ _ _ (by decide) HS (fun b q=>by subst q;simp));rw[Mk.q8n,Mk.j0r,show (decide ((0:Int)=0) && false)=false from rfl] at HI;have HAL:=Lib.hid hal;clear hal HS;go_wp2_with fail;refine HI.out.mono ?_;rintro e w6 ⟨rfl,hb6⟩;have L6:=Lib.hid (HAL.out.trans (hb6.mono HAL.out.size));have B6:=Lib.hid (B5.out.trans (L6.out.mono B5.out.size));have HV6:Hid (FoV w6 (fun b=>b < w6.heap.size) (.slice ao3 Mk.page.len cap3) Mk.page):=HV5.out.frame (fun b q=>⟨Nat.lt_of_lt_of_le q L6.out.size,L6.out.block b q⟩);clear hb6 HI HV5;have hst:∀ l:List UInt8,(st l).toList=l:=fun l=>Lib.toList_data _
 clear hv3 B5 B4 B3 B2 B1 HAL L6;go_wp2_with fail;refine(j06 w6).mono ?_;rintro e w7 ⟨v7,rfl,hv7,hb7⟩;have B7:=Lib.hid (B6.out.trans (hb7.mono B6.out.size));have HV7:FoV w7 (fun b=>b < w7.heap.size) (.slice ao3 Mk.page.len cap3) Mk.page:=HV6.out.frame (fun b q=>⟨Nat.lt_of_lt_of_le q hb7.size,hb7.block b q⟩);have HSN:=Lib.hid (q8j (Mk.page.bulk + 1) Mk.page (Nat.lt_succ_self _) (by decide) _ v7 _ _ w7 HV7 hv7 (fun b q=>q) (fun b q=>q.2));clear hb7 hv7 HV7 HV6 B6;go_wp2_with fail;refine HSN.out.mono ?_;rintro e w8 ⟨rfl,hb8⟩;have B8:=Lib.hid (B7.out.trans (hb8.mono B7.out.size));clear hb8 HSN B7;go_wp2_with fail;go_ret;exact⟨rfl,B8.out⟩
theorem j6f (base s:List UInt8) (hs:s.length≤3000):∀ t ∈ Mk.flat (Mk.clean base (Mk.build (Mk.toks s))),z7f t:=by
 intro t ht;have h1:=Mk.z7e s;have h2:=Mk.z4w (Mk.toks s);have h3:=Mk.q41 base (Mk.build (Mk.toks s));obtain⟨h4,h5⟩:=Mk.j1r _ t ht;exact⟨fun _=>z9k _ (by omega),fun a ha=>z9k _ (by have:=h5 a ha;omega)⟩
theorem j4a (base s:List UInt8) (w:World) (hg:Gl w) (hb:base.length≤3000) (hs:s.length≤3000) :
  Calls Tryz.prog 19 #[.string (st base),.string (st s)] w fun e w'=>e=.returned (.tuple #[.string (st (Mk.html base s)),.int .i64 0])∧Below w.heap.size w w' :=
 j7p base s w hg hb (Mk.fits base s hs) (j6f base s hs)
theorem q79 (base s:List UInt8) (w:World) (h:3000 < base.length∨3000 < s.length) :
  Calls Tryz.prog 19 #[.string (st base),.string (st s)] w fun e w'=>e=.returned (.tuple #[.string (st []),.int .i64 2])∧w'=w:=by
 by_cases h1:3000 < base.length
 ·have h2:3000 < (st base).size:=by rw[y9];omega
  clear h h1;go_enter Tryz.func19,Tryz.ntmps19;go_wp2_with fail;go_ret2;exact⟨rfl,rfl⟩
 ·have h2:¬ 3000 < (st base).size:=by rw[y9];omega
  have h3:3000 < (st s).size:=by rw[y9];omega
  clear h h1;go_enter Tryz.func19,Tryz.ntmps19;go_wp2_with fail;go_ret2;exact⟨rfl,rfl⟩
section
variable {w0 w w' : World} {R : Nat} {s : ByteArray} {j C N : Nat} {nm : List UInt8} {va vk : Value} {l : List Mk.At} {f : Mk.Fo} {K : Nat→Prop}
theorem j3b (p:List UInt8) (h:Xr w R s j) (hk:j≤s.size) (hs:s.size≤100000) :
  Calls Tryz.prog 213 #[.pointer (some ⟨R,0,none⟩),.string (st p)] w fun e w'=>(Fd.z0b p (s.data.toList.drop j)=.ok () (s.data.toList.drop (j + p.length))∧j + p.length≤s.size∧e=.returned (.tuple #[])∧Xr w' R s (j + p.length)∧Moved R w w')∨(Fd.z0b p (s.data.toList.drop j)=.er 1∧e=GaveX 1∧Xr w' R s j∧Moved R w w'):=by
 refine(y0y p h hk (by omega)).mono ?_;rintro e w1 (⟨h1,h2,h3,h4,h5⟩ | ⟨h1,h2,n,h3⟩)
 ·exact .inl ⟨by rw[Fd.z0b,if_pos h1,List.drop_drop],h2,h3,h4,h5⟩
 ·subst h3
  exact .inr ⟨by rw[Fd.z0b,if_neg (by rw[h1];simp)],h2,h.drewN n,(Moved.refl R w).drewN n⟩
theorem j3a (p:List UInt8) (h:ElI w0 w R s j C N nm va l vk f K) (hk:j≤s.size) (hs:s.size≤100000) :
  Calls Tryz.prog 213 #[.pointer (some ⟨R,0,none⟩),.string (st p)] w fun e w'=>(Fd.z0b p (s.data.toList.drop j)=.ok () (s.data.toList.drop (j + p.length))∧j + p.length≤s.size∧e=.returned (.tuple #[])∧ElI w0 w' R s (j + p.length) C N nm va l vk f K)∨(Fd.z0b p (s.data.toList.drop j)=.er 1∧e=GaveX 1∧ElI w0 w' R s j C N nm va l vk f K):=by
 refine(j3b p h.x hk hs).mono ?_;rintro e w1 (⟨h1,h2,h3,h4,h5⟩ | ⟨h1,h2,h3,h4⟩)
 ·exact .inl ⟨h1,h2,h3,h.moved h5 h4⟩
 ·exact .inr ⟨h1,h2,h.moved h4 h3⟩
theorem j6s (p:List UInt8) (h:ElI w0 w R s j C N nm va l vk f K) (hk:j≤s.size) (hs:s.size≤100000) :
  Calls Tryz.prog 216 #[.pointer (some ⟨R,0,none⟩),.string (st p)] w fun e w'=>e=.returned (.bool (Mg.pre p (s.data.toList.drop j)))∧ElI w0 w' R s j C N nm va l vk f K:=by
 refine(z5m p h.x hk (by omega)).mono ?_;rintro e w1 ⟨rfl,n,hw⟩;subst hw;exact⟨rfl,h.drewN n⟩
theorem y0z (h:ElI w0 w R s j C N nm va l vk f K) (hk:j≤s.size) (hs:s.size≤100000) :
  Calls Tryz.prog 211 #[.pointer (some ⟨R,0,none⟩)] w fun e w'=>∃ j1,j≤j1∧j1≤s.size∧s.data.toList.drop j1=Fd.X4 (s.data.toList.drop j)∧e=.returned (.int .i64 ((j1:Int) - j))∧ElI w0 w' R s j1 C N nm va l vk f K:=by
 refine(q1o h.x hk (by omega)).mono ?_;rintro e w1 ⟨j1,h1,h2,h3,h4,h5,h6⟩;exact⟨j1,h1,h2,h4,h3,h.moved h6 h5⟩
end
def ElemC (s:ByteArray) (R M:Nat):Prop:=∀ (deep:Int) (k:Nat) (w:World),s.size - k < M→k≤s.size→1≤deep→deep≤9→Gl w→Xr w R s k →
 Calls Tryz.prog 165 #[.pointer (some ⟨R,0,none⟩),.int .i64 deep] w fun e w' =>
  (∃ er,Fd.z5x deep (s.data.toList.drop k)=.er er∧e=GaveX er∧Ap (fun b=>b=R) w w') ∨
  ∃ x j va vk,Fd.z5x deep (s.data.toList.drop k)=.ok x (s.data.toList.drop j)∧e=.returned (V4 x.name va [] vk)∧k < j∧j≤s.size∧Xr w' R s j∧Ap (fun b=>b=R) w w'∧AtsV w' (Nw w w') va x.ats∧FoV w' (Nw w w') vk x.kids∧x.name ≠ []
def KidsC (s:ByteArray) (R M:Nat):Prop:=∀ (deep:Int) (k:Nat) (w:World),s.size - k < M→k≤s.size→1≤deep→deep≤8→Gl w→Xr w R s k →
 Calls Tryz.prog 217 #[.pointer (some ⟨R,0,none⟩),.int .i64 deep] w fun e w' =>
  (∃ er,Fd.z0h deep (s.data.toList.drop k) .nil=.er er∧e=GaveX er∧Ap (fun b=>b=R) w w') ∨
  ∃ f j v,Fd.z0h deep (s.data.toList.drop k) .nil=.ok f (s.data.toList.drop j)∧e=.returned v∧k≤j∧j≤s.size∧Xr w' R s j∧Ap (fun b=>b=R) w w'∧FoV w' (Nw w w') v f
theorem j6t {s:ByteArray} {R:Nat} (M:Nat) (hR:4 < R) (hs:s.size≤100000) (HK:KidsC s R M):ElemC s R (M + 1):=by
 intro deep k w hM hk hd1 hd9 hg h;have hst:∀ l:List UInt8,(st l).toList=l:=fun l=>Lib.toList_data _
 have HG:=Lib.hid hg;have hRl:R < w.heap.size:=Blk.lt h;have HKI:=Lib.hid HK;have X1:=Lib.hid (show Xr (w.alloc (.cells #[.string ⟨#[]⟩,.slice none 0 0,.string ⟨#[]⟩,.slice none 0 0] 53)) R s k from Blk.alloc h _);have CB1:Hid (Blk (w.alloc (.cells #[.string ⟨#[]⟩,.slice none 0 0,.string ⟨#[]⟩,.slice none 0 0] 53)) w.heap.size 53 j6v):=Blk.new w 53 j6v;have AP1:=Lib.hid ((Ap.refl (fun b=>b=R) w).alloc (.cells #[.string ⟨#[]⟩,.slice none 0 0,.string ⟨#[]⟩,.slice none 0 0] 53));clear hg h HK;go_enter Tryz.func165,Tryz.ntmps165;go_upto_region 1 with fail;generalize w.alloc (.cells #[.string ⟨#[]⟩,.slice none 0 0,.string ⟨#[]⟩,.slice none 0 0] 53)=w1 at X1 CB1 AP1 ⊢;obtain⟨C,hC⟩:∃ C,C=w.heap.size:=⟨_,rfl⟩;rw[← hC] at CB1;rw[← hC];have hcl:w.heap.size≤C:=by omega
 clear hC;have HN:=Lib.hid (j3b [60] X1.out hk hs);go_wp2_with fail;refine HN.out.mono ?_;rintro e w2 (⟨hn,hj1,rfl,hx,hm⟩ | ⟨hn,rfl,hx,hm⟩)
 case inr =>
  have AP:=Lib.hid (AP1.out.trans hm.ap);have HE:=Lib.hid (Fd.elem_n (deep:=deep) hn);clear hn hx hm HN;go_wp2_with fail;exact⟨rfl,.inl ⟨1,HE.out,rfl,AP.out⟩⟩
 have hj1:k + 1≤s.size:=hj1;have HN1:Hid (Fd.z0b [60] (s.data.toList.drop k)=.ok () (s.data.toList.drop (k + 1))):=hn;have X2:Hid (Xr w2 R s (k + 1)):=hx;have AP2:=Lib.hid (AP1.out.trans hm.ap);have CB2:=Lib.hid (hm.blk CB1.out (by omega));clear hn hx hm HN X1 AP1 CB1;have HT:=Lib.hid (q6y X2.out hj1 (by omega));go_wp2_with fail;refine HT.out.mono ?_;rintro e w3 (⟨ht,rfl,hm⟩ | ⟨nm,j2,ht,rfl,hj2,hjs2,hx,hm,hit⟩)
 ·have AP:=Lib.hid (AP2.out.trans hm.ap)
  have HE:=Lib.hid (Fd.elem_t (deep:=deep) HN1.out ht);clear ht hm HT;go_wp2_with fail;exact⟨rfl,.inl ⟨1,HE.out,rfl,AP.out⟩⟩
 have HTI:=Lib.hid ht;have HIT:=Lib.hid (Fd.j4u hit);have CB3:=Lib.hid (hm.blk CB2.out (by omega));have I3:=Lib.hid (ElI.begin_ hx hRl (AP2.out.trans hm.ap) hcl CB3.out nm);clear ht hx hm HT hit X2 AP2 CB2 CB3;go_upto_region 3 with fail;obtain⟨N,hN⟩:∃ N,N=w3.heap.size:=⟨_,rfl⟩;rw[← hN] at I3;rw[← hN];generalize w3.alloc (.cells #[.string (st nm),.slice none 0 0,.string ⟨#[]⟩,.slice none 0 0] 53)=w4 at I3 ⊢;clear hN
 by_cases hdp:8 < deep
 ·have HE:=Lib.hid (Fd.elem_d (deep:=deep) HN1.out HTI.out hdp)
  go_wp2_with fail;refine(z3z 2 _).mono ?_;rintro e w5 ⟨rfl,hw5⟩;subst w5;go_wp2_with fail;exact⟨rfl,.inl ⟨2,HE.out,rfl,I3.out.ap⟩⟩
 have HEY:=Lib.hid (Fd.elem_y (deep:=deep) HN1.out HTI.out hdp);have HAT:=Lib.hid (xr_attrs (I3.out.gl HG.out hR) hR I3.out.x hjs2 hs);clear HN1 HTI;go_wp2_with fail;refine HAT.out.mono ?_;rintro e w5 (⟨er,ha,rfl,hap⟩ | ⟨l,j3,v,ha,rfl,hj3,hjs3,hbk,hI⟩)
 ·have AP:=Lib.hid (I3.out.ap.trans hap)
  have HE:=Lib.hid (HEY.out.trans (Fd.elemY_a ha));clear ha hap HAT;go_wp2_with fail;exact⟨rfl,.inl ⟨er,HE.out,rfl,AP.out⟩⟩
 have HAA:=Lib.hid ha;obtain⟨aoa,capa,hv3⟩:=Y1 hI.ow;subst hv3;have I4:=Lib.hid (I3.out.setAts hI);have NB4:=(I3.out.ap2 hI.ap hI.x).nb;have p1:=Blk.frozen NB4 1;have p2:w5.cell? ⟨N,1,none⟩=some (.slice none 0 0):=Blk.cell NB4 1;clear ha hI HAT NB4 I3;go_upto_region 6 with fail;generalize w5.setCell ⟨N,1,none⟩ (.slice aoa l.length capa)=w6 at I4 ⊢;clear p1 p2;generalize hKK:(fun b=>False∨Nw w4 w5 b)=K4 at I4;clear hKK;have HB:=Lib.hid (j6s [47,62] I4.out hjs3 hs);go_wp2_with fail;refine HB.out.mono ?_;rintro e w7 ⟨rfl,hI⟩;have I5:=Lib.hid hI;clear hI HB I4;obtain⟨b,hb⟩:∃ b,Mg.pre [47,62] (s.data.toList.drop j3)=b:=⟨_,rfl⟩;rw[hb];have HPB:=Lib.hid hb;clear hb
 cases b with
 | true =>
  have h3:=Fd.z15 HPB.out;rw[List.length_drop,bs_len] at h3;have h3:j3 + 2≤s.size:=by
   simp only [List.length_cons,List.length_nil] at h3;omega
  have HE:Hid (Fd.z5x deep (s.data.toList.drop k)=.ok ⟨nm,l,.nil⟩ (s.data.toList.drop (j3 + 2))):=by
   show _=_;rw[HEY.out,Fd.elemY_c HAA.out HPB.out,List.drop_drop]
  have c1:=I5.out.x.c1;have f1:=I5.out.x.fz 1;have I6:Hid (ElI w (w7.setCell ⟨R,1,none⟩ (.int .i64 ((j3:Int) + 2))) R s (j3 + 2) C N nm (.slice aoa l.length capa) l (.slice none 0 0) .nil K4):=I5.out.moved ((Moved.refl R w7).setCell 1 _) (by have:=I5.out.x.at_ (j3 + 2);simpa using this);clear HEY HAA HPB I5;go_upto_region 8 with fail;generalize w7.setCell ⟨R,1,none⟩ (.int .i64 ((j3:Int) + 2))=w8 at I6 ⊢;clear c1 f1;have n0:w8.cell? ⟨N,0,none⟩=some (.string (st nm)):=Blk.cell I6.out.nb 0;have n1:w8.cell? ⟨N,1,none⟩=some (.slice aoa l.length capa):=Blk.cell I6.out.nb 1;have n2:w8.cell? ⟨N,2,none⟩=some (.string ⟨#[]⟩):=Blk.cell I6.out.nb 2;have n3:w8.cell? ⟨N,3,none⟩=some (.slice none 0 0):=Blk.cell I6.out.nb 3;have z0:w8.cell? ⟨C,0,none⟩=some (.string ⟨#[]⟩):=Blk.cell I6.out.cb 0;have z1:w8.cell? ⟨C,1,none⟩=some (.slice none 0 0):=Blk.cell I6.out.cb 1;have z2:w8.cell? ⟨C,2,none⟩=some (.string ⟨#[]⟩):=Blk.cell I6.out.cb 2;have z3:w8.cell? ⟨C,3,none⟩=some (.slice none 0 0):=Blk.cell I6.out.cb 3;have y:∀ i,w8.frozen? ⟨C,i,none⟩=false:=Blk.frozen I6.out.cb;obtain⟨ANS1,ANS2,ANS3,ANS4,ANS5⟩:=I6.out.ans;have FIN:Hid (∃ x j va vk,Fd.z5x deep (s.data.toList.drop k)=.ok x (s.data.toList.drop j)∧V4 nm (.slice aoa l.length capa) [] (.slice none 0 0)=V4 x.name va [] vk∧k < j∧j≤s.size∧Xr (ansW w8 C (.string (st nm)) (.slice aoa l.length capa) (.string ⟨#[]⟩) (.slice none 0 0)) R s j∧Ap (fun b=>b=R) w (ansW w8 C (.string (st nm)) (.slice aoa l.length capa) (.string ⟨#[]⟩) (.slice none 0 0))∧AtsV (ansW w8 C (.string (st nm)) (.slice aoa l.length capa) (.string ⟨#[]⟩) (.slice none 0 0)) (Nw w (ansW w8 C (.string (st nm)) (.slice aoa l.length capa) (.string ⟨#[]⟩) (.slice none 0 0))) va x.ats∧FoV (ansW w8 C (.string (st nm)) (.slice aoa l.length capa) (.string ⟨#[]⟩) (.slice none 0 0)) (Nw w (ansW w8 C (.string (st nm)) (.slice aoa l.length capa) (.string ⟨#[]⟩) (.slice none 0 0))) vk x.kids∧x.name ≠ []) :=
   ⟨⟨nm,l,.nil⟩,j3 + 2,.slice aoa l.length capa,.slice none 0 0,HE.out,rfl,by omega,h3,ANS2,ANS3,ANS4,ANS5,HIT.out⟩
  clear ANS1 ANS2 ANS3 ANS4 ANS5 HE I6;go_wp2_with fail;refine bodyPost_ret (v:=V4 nm (.slice aoa l.length capa) [] (.slice none 0 0)) (by simp[results,Tryz.results165,go_sem, *];rfl) rfl (.inr ?_);obtain⟨x,j,va,vk,q1,q2,q3⟩:=FIN.out;exact⟨x,j,va,vk,q1,by rw[q2],q3⟩
 | false =>
  have HN5:=Lib.hid (j3a [62] I5.out hjs3 hs);go_wp2_with fail;refine HN5.out.mono ?_;rintro e w8 (⟨hn,hj4,rfl,hI⟩ | ⟨hn,rfl,hI⟩)
  case inr =>
   have AP:=Lib.hid hI.ap;have HE:=Lib.hid (HEY.out.trans (Fd.elemY_n HAA.out HPB.out hn));clear hn hI HN5;go_wp2_with fail;exact⟨rfl,.inl ⟨1,HE.out,rfl,AP.out⟩⟩
  have hj4:j3 + 1≤s.size:=hj4;have HEZ:=Lib.hid (HEY.out.trans (Fd.elemY_z HAA.out HPB.out hn));have HEZ:Hid (Fd.z5x deep (s.data.toList.drop k)=Fd.q3k deep nm l (s.data.toList.drop (j3 + 1))):=HEZ;have I6:Hid (ElI w w8 R s (j3 + 1) C N nm (.slice aoa l.length capa) l (.slice none 0 0) .nil K4):=hI;clear hn hI HN5 I5 HEY HAA HPB;have HKD:=Lib.hid (HKI.out deep (j3 + 1) w8 (by omega) hj4 hd1 (by omega) (I6.out.gl HG.out hR) I6.out.x);go_wp2_with fail;refine HKD.out.mono ?_;rintro e w9 (⟨er,hk1,rfl,hap⟩ | ⟨f,j5,vk,hk1,rfl,hj5,hjs5,hx,hap,hfo⟩)
  ·have AP:=Lib.hid (I6.out.ap.trans hap)
   have HE:=Lib.hid (HEZ.out.trans (Fd.elemZ_k hk1));clear hk1 hap HKD;go_wp2_with fail;exact⟨rfl,.inl ⟨er,HE.out,rfl,AP.out⟩⟩
  have HKX:=Lib.hid hk1;obtain⟨aok,capk,xsk,hvk5,_⟩:=id hfo;subst hvk5;have I7:=Lib.hid (I6.out.setKids hx hap hfo);have NB9:=(I6.out.ap2 hap hx).nb;have p1:=Blk.frozen NB9 3;have p2:w9.cell? ⟨N,3,none⟩=some (.slice none 0 0):=Blk.cell NB9 3;clear hk1 hx hap hfo HKD NB9 I6;go_upto_region 11 with fail;generalize w9.setCell ⟨N,3,none⟩ (.slice aok f.len capk)=w10 at I7 ⊢;clear p1 p2;generalize hKK:(fun b=>K4 b∨Nw w8 w9 b)=K5 at I7;clear hKK;have hNR:N ≠ R:=by have:=I7.out.nl;omega
  have HT2:=q6y (w:=w10.drew) (Blk.drew I7.out.x) hjs5 (by omega);have HNC:Hid (w10.drew.cell? ⟨N,0,none⟩=some (.string (st nm))∧∀ W,Moved R w10.drew W→W.cell? ⟨N,0,none⟩=some (.string (st nm))):=⟨Blk.cell (Blk.drew I7.out.nb) 0,fun W hW=>Blk.cell (hW.blk (Blk.drew I7.out.nb) hNR) 0⟩
  cases htt:Fd.V8 (s.data.toList.drop j5) with
  | er et =>
   have het:=Fd.y0m htt;subst het;have HT3:Hid (Calls Tryz.prog 214 #[.pointer (some ⟨R,0,none⟩)] w10.drew fun e w'=>e=GaveX 1∧Moved R w10.drew w'):=HT2.mono (by
    rintro e w' (⟨_,h2,h3⟩ | ⟨a,b,h1,_⟩)
    ·exact⟨h2,h3⟩
    ·rw[htt] at h1;cases h1)
   have HE:=Lib.hid (HEZ.out.trans (Fd.elemZ_t HKX.out htt));clear HT2 htt;refine wp_region_held_drew (S:=fun w'=>w'.cell? ⟨N,0,none⟩=some (.string (st nm))) (by kernel_rfl) HNC.out.1 (fun hHeld=>?_);refine wpAnyH_take (i:=0) rfl (by kernel_rfl) (by kernel_rfl) (by kernel_rfl) (fun _ _ _ h=>h) (Or.inl ⟨by rfl,by (intro w hSw;(try dsimp only at hSw);go_simp;try with_reducible rfl)⟩) (by assumption) ?_
   (try simp only [Act.put,List.setIfInBounds_toArray,List.set_cons_zero,List.set_cons_succ])
   refine wpAnyH_take (i:=2) rfl (by kernel_rfl) (by kernel_rfl) (by kernel_rfl) (fun _ _ _ h=>h) (Or.inl ⟨by rfl,by (intro w hSw;(try dsimp only at hSw);go_simp;try with_reducible rfl)⟩) (by assumption) ?_
   (try simp only [Act.put,List.setIfInBounds_toArray,List.set_cons_zero,List.set_cons_succ])
   refine wpAnyH_take (i:=3) rfl (by kernel_rfl) (by kernel_rfl) (by kernel_rfl) (fun _ _ _ h=>h) (Or.inl ⟨by rfl,by (intro w hSw;(try dsimp only at hSw);go_simp;try with_reducible rfl)⟩) (by assumption) ?_
   (try simp only [Act.put,List.setIfInBounds_toArray,List.set_cons_zero,List.set_cons_succ])
   refine wpAnyH_ready (rs:=[1]) (by kernel_rfl) (by simp) ?_;refine AllReadyH.cons rfl (fun K hK=>?_) AllReadyH.nil
   go_simp
   refine HT3.out.mono ?_;rintro e w11 ⟨rfl,hm11⟩;exact⟨rfl,.inl ⟨1,HE.out,rfl,I7.out.ap.trans (((Moved.refl R w10).drewN 1).trans hm11).ap⟩⟩
  | ok nm2 rr =>
   have HT3:Hid (Calls Tryz.prog 214 #[.pointer (some ⟨R,0,none⟩)] w10.drew fun e w'=>e=.returned (.string (st nm2))∧Moved R w10.drew w'∧∃ j6,rr=s.data.toList.drop j6∧j5≤j6∧j6≤s.size∧Xr w' R s j6):=HT2.mono (by
    rintro e w' (⟨h1,_⟩ | ⟨a,b,h1,h2,h3,h4,h5,h6,_⟩)
    ·rw[htt] at h1;cases h1
    ·rw[htt] at h1
     injection h1 with e1 e2;subst e1;exact⟨h2,h6,b,e2,h3,h4,h5⟩)
   have HTT:=Lib.hid htt;clear HT2 htt;obtain⟨bn,hbn⟩:∃ bn,(nm2 == nm)=bn:=⟨_,rfl⟩;have HBN:=Lib.hid hbn
   go_cut [37] (fun b wx=>b=.bool (!bn)∧∃ j6,Hid (rr=s.data.toList.drop j6)∧j5≤j6∧j6≤s.size∧Hid (ElI w wx R s j6 C N nm (.slice aoa l.length capa) l (.slice aok f.len capk) f K5))
   case first =>
    as_aux_lemma =>
    cases bn
    all_goals
     go_region_held3 (fun w'=>w'.cell? ⟨N,0,none⟩=some (.string (st nm))) (first
      | exact HNC.out.1
      | exact HNC.out.2 _ hm11) (first | (go_at_call 214;refine HT3.out.mono ?_;rintro e w11 ⟨rfl,hm11,j6,hr6,hj6,hjs6,hx6⟩))
     all_goals
      have I8:=(I7.out.drewN 1).moved hm11 hx6;go_wp2_with fail;go_meet
      case rel=>exact⟨rfl,j6,hr6,hj6,hjs6,I8⟩
   case rest =>
   as_aux_lemma =>
   obtain⟨rfl,j6,HR6,hj6,hjs6,I8⟩:=hcut;obtain⟨w11,hw11⟩:∃ x,x=wc:=⟨_,rfl⟩;subst hw11;clear I7 HNC HT3 HBN
   cases bn with
   | false =>
    have hne:nm2 ≠ nm:=fun e=>by subst e;simp at hbn
    have HE:=Lib.hid (HEZ.out.trans (Fd.elemZ_s HKX.out HTT.out hne));clear hne hbn;go_wp2_with fail;refine(z3z 4 _).mono ?_;rintro e w12 ⟨rfl,hw12⟩;subst w12;go_wp2_with fail;exact⟨rfl,.inl ⟨4,HE.out,rfl,I8.out.ap⟩⟩
   | true =>
    have hee:nm2=nm:=by simpa using hbn
    subst hee;have HTT2:Hid (Fd.V8 (s.data.toList.drop j5)=.ok nm2 (s.data.toList.drop j6)):=by show _=_;rw[HTT.out,HR6.out]
    have HEE:=Lib.hid (HEZ.out.trans (Fd.elemZ_e HKX.out HTT2.out));clear hbn HTT HTT2 HR6 HEZ HKX;have HW8:=Lib.hid (y0z I8.out hjs6 hs);go_wp2_with fail;refine HW8.out.mono ?_;rintro e w12 ⟨j7,hj7,hjs7,hd7,rfl,hI⟩;have I9:=Lib.hid hI;rw[← hd7] at HEE;clear hI hd7 HW8 I8;have HN9:=Lib.hid (j3a [62] I9.out hjs7 hs);go_wp2_with fail;refine HN9.out.mono ?_;rintro e w13 (⟨hn,hj8,rfl,hI⟩ | ⟨hn,rfl,hI⟩)
    case inr =>
     have AP:=Lib.hid hI.ap;have HE:Hid (Fd.z5x deep (s.data.toList.drop k)=.er 1):=by show _=_;rw[HEE.out,hn]
     clear hn hI HN9;go_wp2_with fail;exact⟨rfl,.inl ⟨1,HE.out,rfl,AP.out⟩⟩
    have hj8:j7 + 1≤s.size:=hj8;have HE:Hid (Fd.z5x deep (s.data.toList.drop k)=.ok ⟨nm2,l,f⟩ (s.data.toList.drop (j7 + 1))):=by show _=_;rw[HEE.out,hn];rfl
    have I10:Hid (ElI w w13 R s (j7 + 1) C N nm2 (.slice aoa l.length capa) l (.slice aok f.len capk) f K5):=hI;clear hn hI HN9 I9 HEE;have n0:w13.cell? ⟨N,0,none⟩=some (.string (st nm2)):=Blk.cell I10.out.nb 0;have n1:w13.cell? ⟨N,1,none⟩=some (.slice aoa l.length capa):=Blk.cell I10.out.nb 1;have n2:w13.cell? ⟨N,2,none⟩=some (.string ⟨#[]⟩):=Blk.cell I10.out.nb 2;have n3:w13.cell? ⟨N,3,none⟩=some (.slice aok f.len capk):=Blk.cell I10.out.nb 3;have z0:w13.cell? ⟨C,0,none⟩=some (.string ⟨#[]⟩):=Blk.cell I10.out.cb 0;have z1:w13.cell? ⟨C,1,none⟩=some (.slice none 0 0):=Blk.cell I10.out.cb 1;have z2:w13.cell? ⟨C,2,none⟩=some (.string ⟨#[]⟩):=Blk.cell I10.out.cb 2;have z3:w13.cell? ⟨C,3,none⟩=some (.slice none 0 0):=Blk.cell I10.out.cb 3;have y:∀ i,w13.frozen? ⟨C,i,none⟩=false:=Blk.frozen I10.out.cb;obtain⟨ANS1,ANS2,ANS3,ANS4,ANS5⟩:=I10.out.ans;have FIN:Hid (∃ x j va vk,Fd.z5x deep (s.data.toList.drop k)=.ok x (s.data.toList.drop j)∧V4 nm2 (.slice aoa l.length capa) [] (.slice aok f.len capk)=V4 x.name va [] vk∧k < j∧j≤s.size∧Xr (ansW w13 C (.string (st nm2)) (.slice aoa l.length capa) (.string ⟨#[]⟩) (.slice aok f.len capk)) R s j∧Ap (fun b=>b=R) w (ansW w13 C (.string (st nm2)) (.slice aoa l.length capa) (.string ⟨#[]⟩) (.slice aok f.len capk))∧AtsV (ansW w13 C (.string (st nm2)) (.slice aoa l.length capa) (.string ⟨#[]⟩) (.slice aok f.len capk)) (Nw w (ansW w13 C (.string (st nm2)) (.slice aoa l.length capa) (.string ⟨#[]⟩) (.slice aok f.len capk))) va x.ats∧FoV (ansW w13 C (.string (st nm2)) (.slice aoa l.length capa) (.string ⟨#[]⟩) (.slice aok f.len capk)) (Nw w (ansW w13 C (.string (st nm2)) (.slice aoa l.length capa) (.string ⟨#[]⟩) (.slice aok f.len capk))) vk x.kids∧x.name ≠ []) :=
     ⟨⟨nm2,l,f⟩,j7 + 1,.slice aoa l.length capa,.slice aok f.len capk,HE.out,rfl,by omega,hj8,ANS2,ANS3,ANS4,ANS5,HIT.out⟩
    clear ANS1 ANS2 ANS3 ANS4 ANS5 HE I10;go_wp2_with fail;refine bodyPost_ret (v:=V4 nm2 (.slice aoa l.length capa) [] (.slice aok f.len capk)) (by simp[results,Tryz.results165,go_sem, *];rfl) rfl (.inr ?_);obtain⟨x,j,va,vk,q1,q2,q3⟩:=FIN.out;exact⟨x,j,va,vk,q1,by rw[q2],q3⟩
structure KdI (w wx:World) (R:Nat) (s:ByteArray) (j:Nat) (u:Value) (f:Mk.Fo) (xs:List Value) (K:Nat→Prop):Prop where
 rl:R < w.heap.size
 x:Xr wx R s j
 ap:Ap (fun b=>b=R) w wx
 ow:OwnF wx w.heap.size K u f xs
 kr:∀ b,K b→w.heap.size≤b
section
variable {w wx wy wz : World} {R : Nat} {s : ByteArray} {j j' : Nat} {u : Value} {f : Mk.Fo} {xs : List Value} {K : Nat→Prop}
theorem ap_own {S:Nat→Prop} (h:Ap (fun b=>b=R) w wy) (k:Ap S wy wz) (hS:∀ b,S b→w.heap.size≤b):Ap (fun b=>b=R) w wz :=
 ⟨k.os.trans h.os,k.tape.trans h.tape,k.output.trans h.output,Nat.le_trans h.size k.size,fun i hi hn=>(k.block i (Nat.lt_of_lt_of_le hi h.size) (fun q=>by have:=hS i q;omega)).trans (h.block i hi hn)⟩
theorem KdI.ap2 (h:KdI w wx R s j u f xs K) (ha:Ap (fun b=>b=R) wx wy) (hx:Xr wy R s j'):KdI w wy R s j' u f xs K:=by
 have hr:=h.rl;refine⟨hr,hx,h.ap.trans ha,h.ow.frame ha.size (fun b hb q=>ha.block b hb (fun e=>?_)),h.kr⟩;have e:b=R:=e
 rcases q with q | q
 ·have:=h.kr b q;omega
 ·have:=(h.ow.own.lt b q).1;omega
theorem KdI.moved (h:KdI w wx R s j u f xs K) (hm:Moved R wx wy) (hx:Xr wy R s j'):KdI w wy R s j' u f xs K:=h.ap2 hm.ap hx
theorem KdI.drewN (h:KdI w wx R s j u f xs K) (n:Nat):KdI w (wx.drewN n) R s j u f xs K:=h.moved ((Moved.refl R wx).drewN n) (h.x.drewN n)
theorem KdI.below (h:KdI w wx R s j u f xs K) (hb:Below wx.heap.size wx wy):KdI w wy R s j u f xs K:=h.ap2 (Ap.of_below hb) ((hb.block R (Blk.lt h.x)).trans h.x)
theorem KdI.gl (h:KdI w wx R s j u f xs K) (hg:Gl w) (hR:4 < R):Gl wx:=hg.ap h.ap (by intro e;have e:0=R:=e;omega) (by intro e;have e:4=R:=e;omega)
theorem KdI.text (h:KdI w wx R s j u f xs K) {v':Value} {f':Mk.Fo} {xs':List Value} (ho:OwnF wy w.heap.size K v' f' xs') (ha:Ap (fun b=>u.ownBlock=some b) wx wy):KdI w wy R s j v' f' xs' K:=by
 have hr:=h.rl;have hS:∀ b,u.ownBlock=some b→w.heap.size≤b:=fun b q=>(h.ow.own.lt b q).1
 exact⟨hr,(ha.block R (Blk.lt h.x) (fun q=>by have:=hS R q;omega)).trans h.x,ap_own h.ap ha hS,ho,h.kr⟩
theorem KdI.push (h:KdI w wx R s j u f xs K) (hap:Ap (fun b=>b=R) wx wy) (hx:Xr wy R s j') {n:List UInt8} {a:List Mk.At} {k:Mk.Fo} {va:Value} {ao:Option Addr} {cap:Nat} {v':Value} {w1 w2:World} (hva:AtsV wy (Nw wx wy) va a) (hvk:FoV wy (Nw wx wy) (.slice ao k.len cap) k) (hn:n ≠ []) (h1:Below wy.heap.size wy w1)
  (hown:w2.ownsRow w.heap.size 53 4 v' (f.len + 1) (xs++[.string (st n),va,.string (st []),.slice ao k.len cap])) (hgr:w1.grownBy w2 u.ownBlock) (hf:v'.ownBlock=u.ownBlock∨v'.ownBlock=some w1.heap.size) :
  KdI w w2 R s j' v' (f.app (.node n a [] k .nil)) (xs++[.string (st n),va,.string (st []),.slice ao k.len cap]) (fun b=>K b∨Nw wx wy b):=by
 have h2:=h.ap2 hap hx;have hr:=h.rl;have hS:∀ b,u.ownBlock=some b→w.heap.size≤b:=fun b q=>(h.ow.own.lt b q).1
 have OF:OwnF wy w.heap.size (fun b=>K b∨Nw wx wy b) u f xs:=by
  refine⟨h2.ow.own,h2.ow.cells.frame (fun b hb=>⟨.inl hb,rfl⟩),?_,?_⟩
  ·intro g hg
   rintro (q | q)
   ·exact h.ow.ne g hg q
   ·have:=(h.ow.own.lt g hg).2;have:=q.1;omega
  ·rintro b (q | q)
   ·exact h2.ow.le b q
   ·exact q.2
 have hm:f.merges n=false:=by
  rw[Bool.eq_false_iff];intro q;exact hn ((Mk.Fo.Y9 _ _).1 q).1
 obtain⟨ao',cap',zs,e1,e2,e3,e4⟩:=hvk;injection e1 with g1 g2 g3;subst g1;subst g3;have hsn:Mk.Fo.snoc n a [] k f=f.app (.node n a [] k .nil):=Mk.Fo.z9i n a [] k f (fun q=>hn q.1);have kp:∀ b,Nw wx wy b→(K b∨Nw wx wy b)∧wy.heap[b]? = wy.heap[b]?:=fun b hb=>⟨.inr hb,rfl⟩
 have P:=OF.pushed (n:=n) (t:=[]) (k:=k) (hva.frame kp) (e2.frame kp) e4 (e3.frame kp) hm h1 hown hgr hf;rw[hsn] at P;have A1:Ap (fun b=>b=R) w w1:=h2.ap.trans (Ap.of_below h1);have A2:Ap (fun b=>b=R) w w2:=⟨hgr.os.trans A1.os,hgr.tape.trans A1.tape,hgr.output.trans A1.output,Nat.le_trans A1.size hgr.size,fun i hi hnr=>(hgr.block i (Nat.lt_of_lt_of_le hi A1.size) (fun e=>by have:=hS i e.symm;omega)).trans (A1.block i hi hnr)⟩;refine⟨hr,?_,A2,P,?_⟩
 ·have hRy:=Blk.lt hx
  exact(hgr.block R (Nat.lt_of_lt_of_le hRy h1.size) (fun e=>by have:=hS R e.symm;omega)).trans ((h1.block R hRy).trans hx)
 ·rintro b (q | q)
  ·exact h.kr b q
  ·exact Nat.le_trans h.ap.size q.1
theorem q0g (p:List UInt8) (h:KdI w wx R s j u f xs K) (hk:j≤s.size) (hs:s.size≤100000) :
  Calls Tryz.prog 216 #[.pointer (some ⟨R,0,none⟩),.string (st p)] wx fun e w'=>e=.returned (.bool (Mg.pre p (s.data.toList.drop j)))∧KdI w w' R s j u f xs K:=by
 refine(z5m p h.x hk (by omega)).mono ?_;rintro e w1 ⟨rfl,n,hw⟩;subst hw;exact⟨rfl,h.drewN n⟩
end
theorem y0w {s:ByteArray} {R:Nat} (M:Nat) (hR:4 < R) (hs:s.size≤100000) (HE:ElemC s R M):KidsC s R M:=by
 intro deep k w hM hk hd1 hd8 hg h;have HG:=Lib.hid hg;have HEI:=Lib.hid HE;have hRl:R < w.heap.size:=Blk.lt h;have HX:=Lib.hid h;clear hg h HE;have hwd:IntKind.i64.wrap (deep + 1)=deep + 1:=by rw[IntKind.wrap_i64];omega
 go_enter Tryz.func217,Tryz.ntmps217;go_wp2_with fail
 go_loopg [5] s.size (fun g u wx=>∃ j f xs Kr,k≤j∧j≤s.size∧s.size≤j + g∧f.bulk≤5 * j∧Hid (Fd.z0h deep (s.data.toList.drop k) .nil=Fd.z0h deep (s.data.toList.drop j) f)∧Hid (KdI w wx R s j u f xs Kr))
 case atStart=>exact⟨k,.nil,[],(fun _=>False),Nat.le_refl _,hk,by omega,Nat.zero_le _,rfl,⟨hRl,HX.out,Ap.refl _ _,⟨World.ownsRow_nil _ _ _ _,rfl,fun _ _ h=>h,fun _ h=>h.elim⟩,fun _ h=>h.elim⟩⟩
 case round =>
  obtain⟨j,f,xs,Kr,hkj,hjs,hfu,hbk,HA,I⟩:=hrel;obtain⟨ao0,cap0,hu0⟩:=Y1 I.out.ow.own;subst hu0;have hdl:(s.data.toList.drop j).length=s.size - j:=by rw[List.length_drop,bs_len]
  have HDL:=Lib.hid hdl;have HROOM:Hid (∀ p:List UInt8,Mg.pre p (s.data.toList.drop j)=true→p.length ≠ 0→j + p.length≤s.size):=by
   intro p hp h0;have h3:=Fd.z15 hp;rw[hdl] at h3;omega
  clear hdl HX;have HB1:=Lib.hid (q0g [60,47] I.out hjs hs);obtain⟨b1,hb1⟩:∃ b,Mg.pre [60,47] (s.data.toList.drop j)=b:=⟨_,rfl⟩;rw[hb1] at HB1;have HP1:=Lib.hid hb1;clear hb1;go_wp2_with fail;refine HB1.out.mono ?_;rintro e w1 ⟨rfl,hI⟩;have I1:=Lib.hid hI;clear hI HB1 I
  cases b1 with
  | true =>
   have hj2:j + 2≤s.size:=HROOM.out _ HP1.out (by decide);have HE:Hid (Fd.z0h deep (s.data.toList.drop k) .nil=.ok f (s.data.toList.drop (j + 2))):=by show _=_;rw[HA.out,Fd.j04 HP1.out,List.drop_drop]
   have c1:=I1.out.x.c1;have f1:=I1.out.x.fz 1;have I2:Hid (KdI w (w1.setCell ⟨R,1,none⟩ (.int .i64 ((j:Int) + 2))) R s (j + 2) (.slice ao0 f.len cap0) f xs Kr):=I1.out.moved ((Moved.refl R w1).setCell 1 _) (by have:=I1.out.x.at_ (j + 2);simpa using this);clear HA HP1 I1;go_wp2_with fail;go_ret;refine .inr ⟨f,j + 2,_,HE.out,rfl,by omega,hj2,I2.out.x,I2.out.ap,I2.out.ow.foV (fun b hb=>⟨I2.out.kr b hb,I2.out.ow.le b hb⟩) (fun g hg=>I2.out.ow.own.lt g hg)⟩
  | false =>
  have HB2:=Lib.hid (q0g Fd.z1w I1.out hjs hs);obtain⟨b2,hb2⟩:∃ b,Mg.pre Fd.z1w (s.data.toList.drop j)=b:=⟨_,rfl⟩;rw[hb2] at HB2;have HP2:=Lib.hid hb2;clear hb2;go_wp2_with fail;refine HB2.out.mono ?_;rintro e w2 ⟨rfl,hI⟩;have I2:=Lib.hid hI;clear hI HB2 I1
  cases b2 with
  | true =>
   as_aux_lemma =>
   have hj9:j + 9≤s.size:=HROOM.out _ HP2.out (by decide);have c1:=I2.out.x.c1;have f1:=I2.out.x.fz 1;have I3:Hid (KdI w (w2.setCell ⟨R,1,none⟩ (.int .i64 ((j:Int) + 9))) R s (j + 9) (.slice ao0 f.len cap0) f xs Kr):=I2.out.moved ((Moved.refl R w2).setCell 1 _) (by have:=I2.out.x.at_ (j + 9);simpa using this);clear I2;go_upto_region 8 with fail;generalize w2.setCell ⟨R,1,none⟩ (.int .i64 ((j:Int) + 9))=w3 at I3 ⊢;clear c1 f1;have HT:=Lib.hid (xr_to [93,93,62] (I3.out.gl HG.out hR) I3.out.x hj9 (by omega) (by decide) (by decide));go_wp2_with fail;refine HT.out.mono ?_;rintro e w4 (⟨ha,rfl,n4,hw4⟩ | ⟨a,j4,ha,rfl,hj4,hjs4,hx,hm⟩)
   ·subst hw4
    have HE:Hid (Fd.z0h deep (s.data.toList.drop k) .nil=.er 1):=by
     show _=_;rw[HA.out,Fd.q60 HP1.out HP2.out (e:=1)];rw[List.drop_drop,Fd.toX,ha]
    have AP:=Lib.hid (I3.out.ap.drewN n4);clear ha HT;go_wp2_with fail;exact⟨rfl,.inl ⟨1,HE.out,rfl,AP.out⟩⟩
   ·have htx:Fd.toX [93,93,62] ((s.data.toList.drop j).drop 9)=.ok a (s.data.toList.drop j4):=by rw[List.drop_drop,Fd.toX,ha]
    have htl:=Fd.q0v (by simp) htx;rw[List.drop_drop,List.length_drop,List.length_drop,bs_len] at htl;have HN:Hid (Fd.z0h deep (s.data.toList.drop k) .nil=Fd.z0h deep (s.data.toList.drop j4) (Fd.q0f f a)):=by
     show _=_;rw[HA.out,Fd.j4x HP1.out HP2.out htx]
    have hbk2:(Fd.q0f f a).bulk≤5 * j4:=by
     have:=Fd.z7s f a;simp only [List.length_cons,List.length_nil] at htl;omega
    have I4:=Lib.hid (I3.out.moved hm hx);have HTX:=Lib.hid (y0t f a _ w.heap.size Kr xs w4 I4.out.ow I4.out.ap.size (by simp only [List.length_cons,List.length_nil] at htl;omega));clear ha htx htl hx hm HT HA I3;go_wp2_with fail;refine HTX.out.mono ?_;rintro e w5 ⟨v',xs',rfl,hof,hap,_⟩;have I5:=Lib.hid (I4.out.text hof hap);clear hof hap HTX I4;obtain⟨g',rfl⟩:∃ g',gk=g' + 1:=⟨gk - 1,by omega⟩;go_wp2_with fail
    go_roundg g'
    case measure=>omega
    case rel=>exact⟨j4,_,xs',Kr,by omega,hjs4,by omega,hbk2,HN,I5⟩
  | false =>
  have HAS:=Lib.hid (j2y (I2.out.gl HG.out hR) hR I2.out.x hjs (by omega));go_wp2_with fail;refine HAS.out.mono ?_;rintro e w3 (⟨ha,rfl,hx,hm⟩ | ⟨ha,rfl,hm⟩ | ⟨j3,ha,rfl,hj3,hjs3,hx,hm⟩)
  case inr.inl =>
   have HE:Hid (Fd.z0h deep (s.data.toList.drop k) .nil=.er 1):=by show _=_;rw[HA.out,Fd.q3l HP1.out HP2.out ha]
   have AP:=Lib.hid (I2.out.ap.trans hm.ap);clear ha hm HAS;go_wp2_with fail;exact⟨rfl,.inl ⟨1,HE.out,rfl,AP.out⟩⟩
  case inr.inr =>
   have HN:Hid (Fd.z0h deep (s.data.toList.drop k) .nil=Fd.z0h deep (s.data.toList.drop j3) f):=by show _=_;rw[HA.out,Fd.j03 HP1.out HP2.out ha]
   have I3:=Lib.hid (I2.out.moved hm hx);clear ha hm hx HAS;obtain⟨g',rfl⟩:∃ g',gk=g' + 1:=⟨gk - 1,by omega⟩;go_wp2_with fail
   go_roundg g'
   case measure=>omega
   case rel=>exact⟨j3,f,xs,Kr,by omega,hjs3,by omega,by omega,HN,I3⟩
  have HAN:=Lib.hid ha;have I3:=Lib.hid (I2.out.moved hm hx);clear ha hm hx HAS I2;have HB3:=Lib.hid (q0g [60] I3.out hjs hs);obtain⟨b3,hb3⟩:∃ b,Mg.pre [60] (s.data.toList.drop j)=b:=⟨_,rfl⟩;rw[hb3] at HB3;have HP3:=Lib.hid hb3;clear hb3;go_wp2_with fail;refine HB3.out.mono ?_;rintro e w4 ⟨rfl,hI⟩;have I4:=Lib.hid hI;clear hI HB3 I3
  cases b3 with
  | true =>
   as_aux_lemma =>
   have HEL:=Lib.hid (HEI.out (deep + 1) j w4 (by omega) hjs (by omega) (by omega) (I4.out.gl HG.out hR) I4.out.x);go_wp2_with fail;refine HEL.out.mono ?_;rintro e w5 (⟨er,he,rfl,hap⟩ | ⟨x,j5,va,vk,he,rfl,hj5,hjs5,hx,hap,hva,hvk,hxn⟩)
   ·have HE:Hid (Fd.z0h deep (s.data.toList.drop k) .nil=.er er):=by show _=_;rw[HA.out,Fd.q61 HP1.out HP2.out HAN.out HP3.out he]
    have AP:=Lib.hid (I4.out.ap.trans hap);clear he hap HEL;go_wp2_with fail;exact⟨rfl,.inl ⟨er,HE.out,rfl,AP.out⟩⟩
   ·have HN:Hid (Fd.z0h deep (s.data.toList.drop k) .nil=Fd.z0h deep (s.data.toList.drop j5) (f.app (.node x.name x.ats [] x.kids .nil))):=by show _=_;rw[HA.out,Fd.j4y HP1.out HP2.out HAN.out HP3.out he]
    have hxb:=Fd.q4b he;rw[List.length_drop,List.length_drop,bs_len] at hxb;have hbk2:(f.app (.node x.name x.ats [] x.kids .nil)).bulk≤5 * j5:=by
     rw[Fd.q1r];have h0:Mk.Fo.bulk (.node x.name x.ats [] x.kids .nil)=1 + x.name.length + 0 + Mk.Fo.atB x.ats + Mk.Fo.bulk x.kids + 0:=rfl;rw[h0];omega
    have hfl:=Mk.Fo.z0k f;obtain⟨aoa,capa,hva1,_⟩:=id hva;subst hva1;obtain⟨aok,capk,xsk,hvk1,_⟩:=id hvk;subst hvk1;have I4b:=I4.out.ap2 hap hx;have ow10:=z04 I4b.ow.own ((Ap.refl (fun _=>False) w5).alloc (.cells #[.string (st x.name),.slice aoa x.ats.length capa,.string (st []),.slice aok x.kids.len capk] 53)) (fun _ _ q=>q);have hal2:=(Below.refl w5.heap.size w5).alloc (Nat.le_refl _) (.cells #[.string (st x.name),.slice aoa x.ats.length capa,.string (st []),.slice aok x.kids.len capk] 53);have hBs:w.heap.size≤(w5.alloc (.cells #[.string (st x.name),.slice aoa x.ats.length capa,.string (st []),.slice aok x.kids.len capk] 53)).heap.size:=Nat.le_trans I4b.ap.size (by simp);have HPU:=Lib.hid (And.intro hap (And.intro hx (And.intro hva (And.intro hvk (And.intro hxn hal2)))));obtain⟨i0,hi,hz0,hz1,hz2⟩:=info_parts Tryz.infoNode;unfold V4;clear he hxb HEL HA hap hx hva hvk hxn hal2 I4b;go_wp2_with (at_builtin;refine Y2 rfl _ _ 51 rfl w.heap.size 53 i0 (.agg #[.string ⟨#[]⟩,.slice none 0 0,.string ⟨#[]⟩,.slice none 0 0]) 4 80 Tryz.underlying51 hi hz0 hz1 hz2 rfl (by decide) _ _ _ rfl ow10 ⟨w5.heap.size,0,none⟩ 1 1 [.string (st x.name),.slice aoa x.ats.length capa,.string (st []),.slice aok x.kids.len capk] rfl rfl (z07 _ _ _) (by intro u hu;simp at hu;rcases hu with rfl | rfl | rfl | rfl <;> rfl) (by decide) (by unfold maxLen;omega) (by omega) hBs ?_);intro v' w6 hown' hgrow hfresh;have I6:=Lib.hid (I4.out.push HPU.out.1 HPU.out.2.1 HPU.out.2.2.1 HPU.out.2.2.2.1 HPU.out.2.2.2.2.1 HPU.out.2.2.2.2.2 hown' hgrow (hfresh.imp id (fun e=>by rw[e];simp)));clear hown' hgrow hfresh HPU ow10 hBs I4;obtain⟨g',rfl⟩:∃ g',gk=g' + 1:=⟨gk - 1,by omega⟩;go_wp2_with fail
    go_roundg g'
    case measure=>omega
    case rel=>exact⟨j5,_,_,_,by omega,hjs5,by omega,hbk2,HN,I6⟩
  | false =>
   as_aux_lemma =>
   have HPL:=Lib.hid (xr_plain (I4.out.gl HG.out hR) hR I4.out.x hjs hs);go_wp2_with fail;refine HPL.out.mono ?_;rintro e w5 (⟨ha,rfl,hap⟩ | ⟨a,y,ha,rfl,hal,hx,hm⟩)
   ·have HE:Hid (Fd.z0h deep (s.data.toList.drop k) .nil=.er 1):=by show _=_;rw[HA.out,Fd.q63 HP1.out HP2.out HAN.out HP3.out ha]
    have AP:=Lib.hid (I4.out.ap.trans hap);clear ha hap HPL;go_wp2_with fail;exact⟨rfl,.inl ⟨1,HE.out,rfl,AP.out⟩⟩
   have I5:=Lib.hid (I4.out.moved hm hx);have hne:=Fd.q5a HP3.out ha;have hne1:1≤a.length:=List.length_pos_iff.2 hne;have HAH:=Lib.hid ha;clear hm hx HPL I4 ha hne;have HTO:=Lib.hid (j1f a w5 (by omega) (I5.out.gl HG.out hR));go_wp2_with fail;refine HTO.out.mono ?_;rintro e w6 ⟨hb6,⟨hk2,rfl⟩ | ⟨hk2,rfl⟩⟩
   case inr =>
    have HE:Hid (Fd.z0h deep (s.data.toList.drop k) .nil=.er 1):=by show _=_;rw[HA.out,Fd.q62 HP1.out HP2.out HAN.out HP3.out HAH.out hk2]
    have AP:=Lib.hid (I5.out.below hb6).ap;clear hk2 hb6 HTO;go_wp2_with fail;exact⟨rfl,.inl ⟨1,HE.out,rfl,AP.out⟩⟩
   have HN:Hid (Fd.z0h deep (s.data.toList.drop k) .nil=Fd.z0h deep (s.data.toList.drop (j + a.length)) (Fd.q0f f (Mk.take a).1)):=by show _=_;rw[HA.out,Fd.j4z HP1.out HP2.out HAN.out HP3.out HAH.out hk2,List.drop_drop]
   have htl:=Mk.take_len a;have I6:=Lib.hid (I5.out.below hb6);generalize (Mk.take a).1=t at HN htl ⊢;have hbk2:(Fd.q0f f t).bulk≤5 * (j + a.length):=by
    have:=Fd.z7s f t;omega
   have HTX:=Lib.hid (y0t f t _ w.heap.size Kr xs w6 I6.out.ow I6.out.ap.size (by omega));clear hk2 hb6 HTO HAH HA I5;go_wp2_with fail;refine HTX.out.mono ?_;rintro e w7 ⟨v',xs',rfl,hof,hap,_⟩;have I7:=Lib.hid (I6.out.text hof hap);clear hof hap HTX I6;obtain⟨g',rfl⟩:∃ g',gk=g' + 1:=⟨gk - 1,by omega⟩;go_wp2_with fail
   go_roundg g'
   case measure=>omega
   case rel=>exact⟨j + a.length,_,xs',Kr,by omega,hal,by omega,hbk2,HN,I7⟩
theorem xr_both {s:ByteArray} {R:Nat} (hR:4 < R) (hs:s.size≤100000) (M:Nat):ElemC s R M∧KidsC s R M:=by
 induction M with
 | zero =>
  have h0:ElemC s R 0:=fun deep k w h=>absurd h (Nat.not_lt_zero _)
  exact⟨h0,y0w 0 hR hs h0⟩
 | succ M ih =>
  have h1:=j6t M hR hs ih.2;exact⟨h1,y0w (M + 1) hR hs h1⟩
end Go.Proofs.YtjonkbdldebkiaaGreatDoor
