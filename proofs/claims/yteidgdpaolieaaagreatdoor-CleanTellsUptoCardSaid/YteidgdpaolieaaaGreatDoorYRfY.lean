/- Contract of the law CleanTells: Tree, Is and Html answer just what the document says. Condition: a tree of bulk at most 1048576. -/
import Derived.Test.YteidgdpaolieaaaGreatDoorYMkHtOk
import Derived.Test.YteidgdpaolieaaaGreatDoorYRfU
import Derived.Test.YteidgdpaolieaaaGreatDoorYRfS
import Derived.Test.YteidgdpaolieaaaGreatDoorYRfW
set_option linter.unusedVariables false
set_option linter.unusedSimpArgs false
namespace Go.Proofs.YteidgdpaolieaaaGreatDoor
open Go.RowKit
set_option maxHeartbeats 4000000 in
set_option maxRecDepth 100000 in
theorem rf_HtmlOf (base s : List UInt8) (w : World) (hs : s.length≤3000) :
  Calls Tryz.prog 13 #[.string (st base),.string (st s)] w fun e w'=>e = .returned (.string (st (Mk.html base s)))∧Below w.heap.size w w':=by
 have h1:=Mk.toks_bulk s
 have h2:=Mk.build_bulk (Mk.toks s)
 have h3:=Mk.clean_bulk base (Mk.build (Mk.toks s))
 have h4:=Mk.bytes_bulk (Mk.clean base (Mk.build (Mk.toks s)))
 have HT:=Lib.hid (rf_TreeOf s w hs)
 have HE : Hid (Mk.bytes (Mk.flat (Mk.clean base (Mk.build (Mk.toks s)))) = Mk.html base s):=rfl
 obtain ⟨f,hf⟩ : ∃ f,Mk.build (Mk.toks s) = f:=⟨_,rfl⟩
 rw [hf] at h2 h3 h4 HT HE
 have HCL:=Lib.hid (rf_CleanOf base (f.bulk + 1) f (Nat.lt_succ_self _) (by omega))
 have hcl : Mk.cleanOn base .nil f = Mk.clean base f:=rfl
 unfold CleanC at HCL
 rw [hcl] at HCL
 obtain ⟨c,hc⟩ : ∃ c,Mk.clean base f = c:=⟨_,rfl⟩
 rw [hc] at h3 h4 HE HCL
 have HFL:=Lib.hid (rf_FlatOf (c.bulk + 1) c (Nat.lt_succ_self _) (by omega))
 have HTB:=Lib.hid (fun v K W hv hK=>rf_TokenBytes (Mk.flat c) v K W hv hK (by omega))
 clear hf hc hcl h1 h2 h3 h4 hs
 go_enter Tryz.func13,Tryz.ntmps13
 go_wp2_with fail
 refine HT.out.mono ?_
 rintro e w1 ⟨v1,rfl,hv1,hb1⟩
 have B1:=Lib.hid hb1
 have HC:=Lib.hid (HCL.out v1 _ w1 hv1 (fun b q=>q.2))
 obtain ⟨ao1,cap1,xs1,hvs1,_⟩:=hv1
 subst hvs1
 clear hb1 HT HCL
 go_wp2_with fail
 refine HC.out.mono ?_
 rintro e w2 ⟨v2,rfl,hv2,hb2⟩
 have B2:=Lib.hid (B1.out.trans (hb2.mono B1.out.size))
 have HF:=Lib.hid (HFL.out v2 (fun b=>b < w2.heap.size) w2 (hv2.frame (fun b q=>⟨q.elim (fun q=>Nat.lt_of_lt_of_le q.2 hb2.size) (fun q=>q.2),rfl⟩)) (fun b q=>q))
 obtain ⟨ao2,cap2,xs2,hvs2,_⟩:=hv2
 subst hvs2
 clear hb2 HC HFL B1
 go_wp2_with fail
 refine HF.out.mono ?_
 rintro e w3 ⟨v3,xs3,rfl,ot3,_,hb3⟩
 have B3:=Lib.hid (B2.out.trans (hb3.mono B2.out.size))
 have hv3:=ot3.toksV
 have HB:=Lib.hid (HTB.out v3 _ w3 hv3 (fun b q=>q.2))
 obtain ⟨ao3,cap3,hvs3⟩:=own_slice ot3.own
 subst hvs3
 clear hb3 HF HTB B2 ot3 hv3
 go_wp2_with fail
 refine HB.out.mono ?_
 rintro e w4 ⟨rfl,hb4⟩
 have B4:=Lib.hid (B3.out.trans (hb4.mono B3.out.size))
 clear hb4 HB B3
 go_wp2_with fail
 go_ret
 exact ⟨ret_str (by rw [HE.out]),B4.out⟩
set_option maxHeartbeats 4000000 in
set_option maxRecDepth 100000 in
theorem lw_nodesAre (f : Mk.Fo) (c : Int) (v u : Value) (K : Nat→Prop) (w : World) (hf : f.bulk≤33554432) (hv : FoV w K v f) (hu : FoV w K u f) (hK : ∀ b,K b→b < w.heap.size) (hn : c ≠ 0→f = .nil) :
  Calls Tryz.prog 15 #[v,.int .i64 c,.int .i64 c,u] w fun e w'=>e = .returned (.bool true)∧Below w.heap.size w w':=by
 by_cases h : c = 0
 ·subst h
  have HS:=Lib.hid (rf_SameNodes (f.bulk + 1) f (Nat.lt_succ_self _) hf v u K K w hv hu hK hK)
  obtain ⟨ao,cap,xs,hvs,_⟩:=hv
  subst hvs
  obtain ⟨ao2,cap2,xs2,hus,_⟩:=hu
  subst hus
  clear hn
  go_enter Tryz.func15,Tryz.ntmps15
  go_wp2_with fail
  refine HS.out.mono ?_
  rintro e w1 ⟨rfl,hb1⟩
  go_wp2_with fail
  go_ret
  exact ⟨rfl,hb1⟩
 ·have hf0:=hn h
  subst hf0
  have HS:=Lib.hid (rf_SameNodes 1 .nil (by decide) (by decide) v (.slice none 0 0) K K w hv ⟨none,0,[],rfl,.inl rfl,rfl,Nat.zero_le _⟩ hK hK)
  have hc1 : (c == 0) = false:=beq_eq_false_iff_ne.2 h
  have hc2 : (c != 0) = true:=by rw [bne,hc1];rfl
  obtain ⟨ao,cap,xs,hvs,_⟩:=hv
  subst hvs
  clear hn h hu
  go_enter Tryz.func15,Tryz.ntmps15
  go_wp2_with fail
  refine HS.out.mono ?_
  rintro e w1 ⟨rfl,hb1⟩
  go_wp2_with fail
  go_ret
  exact ⟨rfl,hb1⟩
set_option maxHeartbeats 8000000 in
set_option maxRecDepth 100000 in
theorem lw_CleanTells (base s : List UInt8) (f : Mk.Fo) (v : Value) (K : Nat→Prop) (w : World) (hg : Gl w) (hf : f.bulk≤1048576) (hv : FoV w K v f) (hK : ∀ b,K b→b < w.heap.size) :
  Calls Tryz.prog 3 #[.string (st base),.string (st s),v] w fun e w'=>e = .returned (.bool true)∧Below w.heap.size w w':=by
 have hlt:=hg.lt
 have hst : ∀ l : List UInt8,(st l).toList = l:=fun l=>Lib.toList_data _
 have HG:=Lib.hid hg
 have HK:=Lib.hid hK
 have HVW : Hid (∀ W,Below w.heap.size w W→FoV W (fun b=>b < W.heap.size) v f):=fun W hW=>hv.frame (fun b q=>⟨Nat.lt_of_lt_of_le (hK b q) hW.size,hW.block b (hK b q)⟩)
 have HT:=Lib.hid (cl_Tree base f v K w (by omega) hv hK)
 obtain ⟨ck,hck⟩ : ∃ c,Mk.checkT f = c:=⟨_,rfl⟩
 obtain ⟨sf,hsf⟩ : ∃ b,Mk.safeF f = b:=⟨_,rfl⟩
 have HIS : Hid (∀ W,Below w.heap.size w W→Calls Tryz.prog 8 #[v] W fun e w'=>e = .returned (.tuple #[.bool (decide (ck = 0) && sf),.int .i64 ck])∧Below W.heap.size W w'):=fun W hW=>by
  have:=cl_Is f v _ W (by omega) (HVW.out W hW) (fun b q=>q)
  rw [hck,hsf] at this
  exact this
 have HRC : Hid (∀ W,Below w.heap.size w W→Calls Tryz.prog 10 #[v] W fun e w'=>e = .returned (.int .i64 ck)∧Below W.heap.size W w'):=fun W hW=>by
  have:=rf_CheckTree f v _ W (by omega) (HVW.out W hW) (fun b q=>q)
  rw [hck] at this
  exact this
 have HRI : Hid (ck = 0→∀ W,Below w.heap.size w W→Calls Tryz.prog 16 #[v] W fun e w'=>e = .returned (.bool sf)∧Below W.heap.size W w'):=fun h0 W hW=>by
  have:=rf_IsClean (f.bulk + 1) f (Nat.lt_succ_self _) (by omega) (Mk.checkT_right f (hck.trans h0)) v _ W (HVW.out W hW) (fun b q=>q)
  rw [hsf] at this
  exact this
 have HRO : Hid (∀ W,Below w.heap.size w W→Calls Tryz.prog 12 #[.string (st base),v] W fun e w'=>∃ v',e = .returned v'∧FoV w' (fun b=>b < w'.heap.size) v' (Mk.clean base f)∧Below W.heap.size W w'):=fun W hW=>by
  refine (rf_CleanOf base (f.bulk + 1) f (Nat.lt_succ_self _) (by omega) v _ W (HVW.out W hW) (fun b q=>q)).mono ?_
  rintro e w' ⟨v',he,hv',hb'⟩
  exact ⟨v',he,hv'.frame (fun b q=>⟨q.elim (fun q=>Nat.lt_of_lt_of_le q hb'.size) (fun q=>q.2),rfl⟩),hb'⟩
 have HCB : Hid (ck = 0→(Mk.clean base f).bulk≤33554432):=fun h0=>by have:=Mk.clean_bulk2 base f (hck.trans h0);omega
 obtain ⟨c1,hc1⟩ : ∃ c : Int,(if ck ≠ 0 then ck else if 3000 < base.length then 2 else 0) = c:=⟨_,rfl⟩
 rw [hck] at HT
 rw [hc1] at HT
 have HC1:=Lib.hid hc1
 have hC10 : c1 = 0→ck = 0:=fun h=>by
  rw [h] at hc1
  by_cases q : ck = 0
  ·exact q
  ·rw [if_pos q] at hc1;exact absurd hc1 q
 have HC10:=Lib.hid hC10
 have hhh : ∃ (T : List UInt8) (X : Int),Hid (if 3000 < base.length ∨ 3000 < s.length then X = 2∧T = [] else X = 0∧T = Mk.html base s)∧∀ W,Below w.heap.size w W→Calls Tryz.prog 9 #[.string (st base),.string (st s)] W fun e w'=>e = .returned (.tuple #[.string (st T),.int .i64 X])∧Below W.heap.size W w':=by
  by_cases hlong : 3000 < base.length ∨ 3000 < s.length
  ·exact ⟨[],2,(by show ite _ _ _;rw [if_pos hlong];exact ⟨rfl,rfl⟩),fun W hW=>(cl_Html_long base s W hlong).mono (by rintro e w3 ⟨rfl,rfl⟩;exact ⟨rfl,Below.refl _ _⟩)⟩
  ·exact ⟨Mk.html base s,0,(by show ite _ _ _;rw [if_neg hlong];exact ⟨rfl,rfl⟩),fun W hW=>cl_Html_ok base s W (HG.out.below hW hlt) (by omega) (by omega)⟩
 obtain ⟨T,X,HX,hh⟩:=hhh
 have HH:=Lib.hid hh
 have HTLb : Hid (∀ W,Calls Tryz.prog 11 #[.string (st base)] W fun e w'=>e = .returned (.int .i64 (if 3000 < base.length then 2 else 0))∧W = w'):=fun W=>law_tooLong (st base) W
 have HTLs : Hid (∀ W,Calls Tryz.prog 11 #[.string (st s)] W fun e w'=>e = .returned (.int .i64 (if 3000 < s.length then 2 else 0))∧W = w'):=fun W=>law_tooLong (st s) W
 obtain ⟨xb,hxb⟩ : ∃ x : Int,(if 3000 < base.length then 2 else 0) = x:=⟨_,rfl⟩
 rw [hxb] at HTLb
 have HXB:=Lib.hid hxb
 obtain ⟨ao,cap,xs,hvs,_⟩:=id hv
 subst hvs
 clear hv hK hck hsf hc1 hC10 hh hxb hg
 go_enter Tryz.func3,Tryz.ntmps3
 go_wp2_with fail
 refine HT.out.mono ?_
 rintro e w1 ⟨v1,c1',rfl,hc1',hn1,hy1,hb1⟩
 subst c1'
 have B1:=Lib.hid hb1
 have HV1 : Hid (∃ F,FoV w1 (fun b=>b < w1.heap.size) v1 F∧(c1 = 0→F = Mk.clean base f)∧(c1 ≠ 0→F = .nil)):=by
  by_cases q : c1 = 0
  ·exact ⟨_,(hy1 q).frame (fun b q=>⟨q.elim (fun q=>Nat.lt_of_lt_of_le (HK.out b q) hb1.size) (fun q=>q.2),rfl⟩),fun _=>rfl,fun h=>absurd q h⟩
  ·exact ⟨.nil,by rw [hn1 q];exact ⟨none,0,[],rfl,.inl rfl,rfl,Nat.zero_le _⟩,fun h=>absurd h q,fun _=>rfl⟩
 clear hb1 hn1 hy1 HT
 have HI1:=Lib.hid (HIS.out w1 B1.out)
 clear HIS
 obtain ⟨F1,hF1,hFc,hFn⟩:=HV1.out
 obtain ⟨ao1,cap1,xs1,hvs1,_⟩:=id hF1
 subst hvs1
 have HF1:=Lib.hid hF1
 have HFC:=Lib.hid hFc
 have HFN:=Lib.hid hFn
 clear hF1 hFc hFn HV1
 go_wp2_with fail
 refine HI1.out.mono ?_
 rintro e w2 ⟨rfl,hb2⟩
 have B2:=Lib.hid (B1.out.trans (hb2.mono B1.out.size))
 have HF2 : Hid (FoV w2 (fun b=>b < w2.heap.size) (.slice ao1 F1.len cap1) F1):=HF1.out.frame (fun b q=>⟨Nat.lt_of_lt_of_le q hb2.size,hb2.block b q⟩)
 have HH2:=Lib.hid (HH.out w2 B2.out)
 clear hb2 HI1 HF1 B1 HH
 go_wp2_with fail
 refine HH2.out.mono ?_
 rintro e w3 ⟨rfl,hb3⟩
 have B3:=Lib.hid (B2.out.trans (hb3.mono B2.out.size))
 have HF3 : Hid (FoV w3 (fun b=>b < w3.heap.size) (.slice ao1 F1.len cap1) F1):=HF2.out.frame (fun b q=>⟨Nat.lt_of_lt_of_le q hb3.size,hb3.block b q⟩)
 have HRC3:=Lib.hid (HRC.out w3 B3.out)
 clear hb3 HH2 HF2 B2 HRC
 go_wp2_with fail
 refine HRC3.out.mono ?_
 rintro e w4 ⟨rfl,hb4⟩
 have B4:=Lib.hid (B3.out.trans (hb4.mono B3.out.size))
 have HF4 : Hid (FoV w4 (fun b=>b < w4.heap.size) (.slice ao1 F1.len cap1) F1):=HF3.out.frame (fun b q=>⟨Nat.lt_of_lt_of_le q hb4.size,hb4.block b q⟩)
 clear hb4 HRC3 HF3 B3
 go_wp2_with fail
 refine (HTLb.out _).mono ?_
 rintro e w5 ⟨rfl,hw5⟩
 subst w5
 clear HTLb
 go_upto_if 41 with fail
 go_cut [14] (fun b wx=>b = .int .i64 c1∧w4 = wx)
 case first =>
  as_aux_lemma =>
  by_cases h : ck = 0
  ·have HE : Hid (xb = c1):=by show _ = _;rw [← HC1.out,if_neg (by simp [h]),HXB.out]
   subst h
   clear HRI HCB HX
   go_wp2_with fail
   go_meet
   case rel=>exact ⟨by rw [HE.out],rfl⟩
  ·have HE : Hid (ck = c1):=by show _ = _;rw [← HC1.out,if_pos h]
   have hcb : (ck == 0) = false:=beq_eq_false_iff_ne.2 h
   clear HRI HCB HX h
   go_wp2_with fail
   go_meet
   case rel=>exact ⟨by rw [HE.out],rfl⟩
 case rest =>
 as_aux_lemma =>
 obtain ⟨rfl,hwx⟩:=hcut
 subst hwx
 go_upto_if 44 with fail
 go_cut [15] (fun b wx=>b = .int .i64 X∧w4 = wx)
 case first =>
  as_aux_lemma =>
  by_cases h : 3000 < base.length
  ·have hx2 : xb = 2:=by rw [← HXB.out,if_pos h]
   have hX:=HX.out
   rw [if_pos (.inl h)] at hX
   have HE : Hid (X = 2):=hX.1
   subst hx2
   clear HRI HCB HX h hX
   go_wp2_with fail
   go_meet
   case rel=>exact ⟨by rw [HE.out],rfl⟩
  ·have hx2 : xb = 0:=by rw [← HXB.out,if_neg h]
   have HE : Hid ((if 3000 < s.length then (2 : Int) else 0) = X):=by
    show _ = _
    have hX:=HX.out
    by_cases q : 3000 < s.length
    ·rw [if_pos (.inr q)] at hX;rw [if_pos q,hX.1]
    ·rw [if_neg (by rintro (a | a);exact h a;exact q a)] at hX;rw [if_neg q,hX.1]
   rw [HE.out] at HTLs
   subst hx2
   clear HRI HCB HX h
   go_wp2_with fail
   refine (HTLs.out _).mono ?_
   rintro e w5 ⟨rfl,hw5⟩
   subst w5
   go_wp2_with fail
   go_meet
   case rel=>exact ⟨rfl,rfl⟩
 case rest =>
 as_aux_lemma =>
 obtain ⟨rfl,hwx⟩:=hcut
 subst hwx
 clear HTLs HXB
 go_upto_if 48 with fail
 go_cut [16] (fun u wx=>∃ ao2 cap2,u = .slice ao2 F1.len cap2∧Hid (FoV wx (fun b=>b < wx.heap.size) (.slice ao2 F1.len cap2) F1)∧Hid (Below w4.heap.size w4 wx))
 case first =>
  as_aux_lemma =>
  by_cases h : c1 = 0
  ·have hF:=HFC.out h
   subst h
   have HR:=Lib.hid (HRO.out w4 B4.out)
   rw [← hF] at HR
   clear HRI HCB HX HRO hF
   go_wp2_with fail
   refine HR.out.mono ?_
   rintro e w5 ⟨v5,rfl,hv5,hb5⟩
   obtain ⟨ao5,cap5,xs5,hvs5,_⟩:=id hv5
   subst hvs5
   have HV5:=Lib.hid hv5
   have HB5:=Lib.hid hb5
   clear hv5 hb5 HR
   go_wp2_with fail
   go_meet
   case rel=>exact ⟨ao5,cap5,rfl,HV5,HB5⟩
  ·have hF:=HFN.out h
   have hcb : (c1 == 0) = false:=beq_eq_false_iff_ne.2 h
   subst hF
   clear HRI HCB HX HRO h
   go_wp2_with fail
   go_meet
   case rel=>exact ⟨none,0,rfl,⟨none,0,[],rfl,.inl rfl,rfl,Nat.zero_le _⟩,Below.refl _ _⟩
 case rest =>
 as_aux_lemma =>
 obtain ⟨ao2,cap2,rfl,HU5,BX5⟩:=hcut
 obtain ⟨w5,hw5⟩ : ∃ x,x = wc:=⟨_,rfl⟩
 subst hw5
 have B5:=Lib.hid (B4.out.trans (BX5.out.mono B4.out.size))
 have HF5 : Hid (FoV w5 (fun b=>b < w5.heap.size) (.slice ao1 F1.len cap1) F1):=HF4.out.frame (fun b q=>⟨Nat.lt_of_lt_of_le q BX5.out.size,BX5.out.block b q⟩)
 clear HRO HF4 BX5 B4
 go_upto_if 53 with fail
 go_cut [17] (fun u wx=>u = .string (st T)∧Hid (Below w5.heap.size w5 wx))
 case first =>
  as_aux_lemma =>
  by_cases h : X = 0
  ·have hX:=HX.out
   have hsl : s.length≤3000∧T = Mk.html base s:=by
    by_cases q : 3000 < base.length ∨ 3000 < s.length
    ·rw [if_pos q] at hX;rw [hX.1] at h;cases h
    ·rw [if_neg q] at hX;exact ⟨by omega,hX.2⟩
   have HR:=Lib.hid (rf_HtmlOf base s w5 hsl.1)
   rw [← hsl.2] at HR
   subst h
   clear HRI HCB HX hX hsl
   go_wp2_with fail
   refine HR.out.mono ?_
   rintro e w6 ⟨rfl,hb6⟩
   have HB6:=Lib.hid hb6
   clear hb6 HR
   go_wp2_with fail
   go_meet
   case rel=>exact ⟨rfl,HB6⟩
  ·have hX:=HX.out
   have hT : T = []:=by
    by_cases q : 3000 < base.length ∨ 3000 < s.length
    ·rw [if_pos q] at hX;exact hX.2
    ·rw [if_neg q] at hX;exact absurd hX.1 h
   have hcb : (X == 0) = false:=beq_eq_false_iff_ne.2 h
   subst hT
   clear HRI HCB HX hX h
   go_wp2_with fail
   go_meet
   case rel=>exact ⟨rfl,Below.refl _ _⟩
 case rest =>
 as_aux_lemma =>
 obtain ⟨rfl,BX6⟩:=hcut
 obtain ⟨w6,hw6⟩ : ∃ x,x = wc:=⟨_,rfl⟩
 subst hw6
 have B6:=Lib.hid (B5.out.trans (BX6.out.mono B5.out.size))
 have HF6 : Hid (FoV w6 (fun b=>b < w6.heap.size) (.slice ao1 F1.len cap1) F1):=HF5.out.frame (fun b q=>⟨Nat.lt_of_lt_of_le q BX6.out.size,BX6.out.block b q⟩)
 have HU6 : Hid (FoV w6 (fun b=>b < w6.heap.size) (.slice ao2 F1.len cap2) F1):=HU5.out.frame (fun b q=>⟨Nat.lt_of_lt_of_le q BX6.out.size,BX6.out.block b q⟩)
 have HBG:=Lib.hid (lw_cleanBegun w6 (HG.out.below B6.out hlt))
 clear HX HF5 HU5 BX6 B5
 go_wp2_with fail
 refine HBG.out.mono ?_
 rintro e w7 ⟨rfl,hb7⟩
 have B7:=Lib.hid (B6.out.trans (hb7.mono B6.out.size))
 have hfb : F1.bulk≤33554432:=by
  by_cases q : c1 = 0
  ·rw [HFC.out q];exact HCB.out (HC10.out q)
  ·rw [HFN.out q];decide
 have HNA:=Lib.hid (lw_nodesAre F1 c1 (.slice ao1 F1.len cap1) (.slice ao2 F1.len cap2) (fun b=>b < w7.heap.size) w7 hfb (HF6.out.frame (fun b q=>⟨Nat.lt_of_lt_of_le q hb7.size,hb7.block b q⟩)) (HU6.out.frame (fun b q=>⟨Nat.lt_of_lt_of_le q hb7.size,hb7.block b q⟩)) (fun b q=>q) HFN.out)
 clear hb7 HBG HF6 HU6 B6
 go_wp2_with fail
 refine HNA.out.mono ?_
 rintro e w8 ⟨rfl,hb8⟩
 have B8:=Lib.hid (B7.out.trans (hb8.mono B7.out.size))
 clear hb8 HNA B7
 by_cases h : ck = 0
 ·have HR:=Lib.hid (HRI.out h w8 B8.out)
  subst h
  clear HRI HCB HC1 HC10 HFC HFN
  cases sf
  all_goals
   go_wp2_with fail
   refine HR.out.mono ?_
   rintro e w9 ⟨rfl,hb9⟩
   have B9:=Lib.hid (B8.out.trans (hb9.mono B8.out.size))
   clear hb9 HR B8
   go_wp2_with fail
   go_ret
   exact ⟨ret_bool (by first | rfl | simp),B9.out⟩
 ·have hcb : (ck == 0) = false:=beq_eq_false_iff_ne.2 h
  have hcd : decide (ck = 0) = false:=decide_eq_false h
  clear HRI HCB HC1 HC10 HFC HFN h
  go_wp2_with fail
  go_ret
  exact ⟨ret_bool (by first | rfl | simp [*]),B8.out⟩
end Go.Proofs.YteidgdpaolieaaaGreatDoor
