/- Contract of the reference's BuildOf at tokens that are right. -/
import Derived.Test.YteidgdpaolieaaaGreatDoorYRfK
import Derived.Test.YteidgdpaolieaaaGreatDoorYMkHtml
import Derived.Test.YteidgdpaolieaaaGreatDoorYMkTree13
import Derived.Deep.RegionHeld3
set_option linter.unusedVariables false
set_option linter.unusedSimpArgs false
namespace Go.Proofs.YteidgdpaolieaaaGreatDoor
open Go.RowKit
def BuildC (L : List Mk.Tok) (k : Nat) : Prop:=∀ (v vo : Value) (op : List (List UInt8)) (K : Nat→Prop) (w : World),ToksV w K v L→StrsV w K vo op→(∀ b,K b→b < w.heap.size)→op.length≤8 →
 Calls Tryz.prog 54 #[v,.int .i64 k,vo] w fun e w'=>∃ (v' : Value) (j : Nat),e = .returned (.tuple #[v',.int .i64 j,.int .i64 (Mk.boR (L.drop k) op .nil).2.2])∧FoV w' (fun b=>w.heap.size≤b∧b < w'.heap.size) v' (Mk.boR (L.drop k) op .nil).1∧(Mk.boR (L.drop k) op .nil).2.1 = L.drop j∧k≤j∧j≤L.length∧Below w.heap.size w w'
set_option maxHeartbeats 16000000 in
set_option maxRecDepth 100000 in
theorem rf_BuildOf (L : List Mk.Tok) (hok : ∀ t ∈ L,Mk.Bld.TokOk t) (hbk : Mk.Bld.tokB L≤549755813000) (N : Nat) : ∀ k,k≤L.length→L.length - k < N→BuildC L k:=by
 induction N with
 | zero=>intro k _ h;omega
 | succ N ih =>
  intro k hkl hkN v vo op K w hv hvo hK hop
  have hst : ∀ l : List UInt8,(st l).toList = l:=fun l=>Lib.toList_data _
  have hLl : L.length≤549755813000:=by have:=Mk.Bld.tokB_len L;omega
  obtain ⟨ao,cap,hv1,hlm,hat⟩:=hv.at_
  subst hv1
  obtain ⟨aop,capp,hvo1,hcapp,hcapm,hsat⟩:=hvo.at_
  subst hvo1
  have HAT:=Lib.hid hat
  have HSA:=Lib.hid hsat
  have HV:=Lib.hid hv
  have HVO:=Lib.hid hvo
  have HK:=Lib.hid hK
  have HOK:=Lib.hid hok
  have IH:=Lib.hid ih
  clear hat hsat hv hvo hK ih
  go_enter Tryz.func54,Tryz.ntmps54
  go_wp2_with fail
  go_loopw [1,9] (fun av ov wx=>∃ (j : Nat) (f : Mk.Fo) (xs : List Value) (Kr : Nat→Prop),k≤j∧j≤L.length∧av = .int .i64 (j : Int)∧Hid (Mk.boR (L.drop k) op .nil = Mk.boR (L.drop j) op f)∧f.bulk + Mk.Bld.tokB (L.drop j)≤549755813000∧Hid (∀ b,Kr b→w.heap.size≤b)∧Hid (OwnF wx w.heap.size Kr ov f xs)∧Hid (Below w.heap.size w wx)) (fun av _ _=>L.length - (intOf av).toNat)
  case atStart =>
   refine ⟨k,.nil,[],(fun _=>False),Nat.le_refl _,hkl,rfl,rfl,?_,fun _ h=>h.elim,⟨World.ownsRow_nil _ _ _ _,rfl,fun _ _ h=>h,fun _ h=>h.elim⟩,Below.refl _ _⟩
   have h1 : Mk.Bld.tokB (L.drop k)≤Mk.Bld.tokB L:=by
    have e : L = L.take k++L.drop k:=(List.take_append_drop k L).symm
    have h2 : Mk.Bld.tokB L = Mk.Bld.tokB (L.take k) + Mk.Bld.tokB (L.drop k):=by rw [← Mk.tokB_app,← e]
    omega
   show 0 + _≤_
   omega
  case round =>
   obtain ⟨j,f,xs,Kr,hkj,hj,rfl,HJ,hbj,HKR,OF,BL⟩:=hrel
   have hsz:=BL.out.size
   by_cases hlt : j < L.length
   ·obtain ⟨t,hjt⟩ : ∃ t,L[j] = t:=⟨_,rfl⟩
    have hjt2 : L[j]? = some t:=by rw [List.getElem?_eq_getElem hlt,hjt]
    obtain ⟨g,o,aot,capt,hao,hKg,hva,y0,y1,y2,y3⟩:=HAT.out j t hjt2
    subst hao
    have hgl:=HK.out g hKg
    rw [← BL.out.cell (p:=⟨g,_,none⟩) hgl] at y0 y1 y2 y3
    have hdr : L.drop j = t :: L.drop (j + 1):=by rw [List.drop_eq_getElem_cons hlt,hjt]
    have htk:=HOK.out t (List.mem_of_getElem? hjt2)
    have hcons:=Mk.boR_cons t (L.drop (j + 1)) op f
    rw [← hdr] at hcons
    have htb:=Mk.Bld.tokB_cons t (L.drop (j + 1))
    rw [← hdr] at htb
    have hatl:=Mk.atB_len t.ats
    have hfl:=Mk.Fo.len_bulk f
    have hji : (j : Int) < L.length:=by omega
    have hal:=(Below.refl wr.heap.size wr).alloc (Nat.le_refl _) (.cells #[.int .i64 t.kind,.string (st t.name),.slice aot t.ats.length capt,.string (st t.text)] 94)
    have BL1:=Lib.hid (BL.out.trans (hal.mono hsz))
    have OF1:=Lib.hid (OF.out.frame hal.size (fun b hb _=>hal.block b hb))
    have PT:=Lib.hid (Blk.new wr 94 #[.int .i64 t.kind,.string (st t.name),.slice aot t.ats.length capt,.string (st t.text)])
    have HVA:=Lib.hid (hva.below HK.out BL1.out)
    have hTo : ∀ b,u9.ownBlock = some b→b < wr.heap.size:=fun b q=>(OF.out.own.lt b q).2
    have HTO:=Lib.hid hTo
    have HCONS:=Lib.hid hcons
    have HTK:=Lib.hid htk
    have hTw : w.heap.size≤wr.heap.size:=hsz
    clear hjt hjt2 hdr htk hcons hva HAT hal hTo OF hsz BL
    go_upto_region 4 with fail
    generalize (wr.alloc (.cells #[.int .i64 t.kind,.string (st t.name),.slice aot t.ats.length capt,.string (st t.text)] 94)) = w1 at BL1 OF1 PT HVA ⊢
    generalize wr.heap.size = T at PT HTO hTw ⊢
    clear y0 y1 y2 y3
    have d0 : w1.cell? ⟨T,0,none⟩ = some (.int .i64 t.kind):=Blk.cell PT.out 0
    have d1 : w1.cell? ⟨T,1,none⟩ = some (.string (st t.name)):=Blk.cell PT.out 1
    have d2 : w1.cell? ⟨T,2,none⟩ = some (.slice aot t.ats.length capt):=Blk.cell PT.out 2
    have d3 : w1.cell? ⟨T,3,none⟩ = some (.string (st t.text)):=Blk.cell PT.out 3
    have hTl : T < w1.heap.size:=Blk.lt PT.out
    rcases HTK.out with ⟨hkd,hk1,hk2,hk3⟩ | ⟨hkd,hk1,hk2,hk3⟩ | ⟨hkd,hk1,hk2,hk3⟩
    ·as_aux_lemma =>
     have HR : Hid (Mk.boR (L.drop k) op .nil = Mk.boR (L.drop (j + 1)) op (Mk.Fo.snoc [] [] t.text .nil f)):=by show _ = _;rw [HJ.out,HCONS.out,if_pos hkd]
     rw [hkd] at d0
     have hsb:=Mk.Fo.snoc_bulk f [] [] t.text .nil
     have e0 : Mk.Fo.bulk .nil = 0:=rfl
     have e1 : Mk.Fo.atB [] = 0:=rfl
     simp only [List.length_nil,e0,e1] at hsb
     have hb2 : (Mk.Fo.snoc [] [] t.text .nil f).bulk + Mk.Bld.tokB (L.drop (j + 1))≤549755813000:=by omega
     have HJT:=Lib.hid (rf_joinText f t.text u9 w.heap.size Kr xs w1 OF1.out BL1.out.size (by omega))
     clear hkd hk1 hk2 hk3 HTK HCONS HJ e0 e1 IH HSA HV HVO
     go_wp2_with fail
     refine HJT.out.mono ?_
     rintro e w2 ⟨v2,xs2,rfl,hof2,hap2,_⟩
     have BL2:=Lib.hid (BL1.out.trans (hap2.below BL1.out.size (fun b hb q=>by have:=(OF1.out.own.lt b q).1;omega)))
     have OF2:=Lib.hid hof2
     clear hof2 hap2 HJT OF1 BL1
     go_wp2_with fail
     go_roundw
     case rel=>exact ⟨j + 1,_,xs2,Kr,by omega,hlt,by go_num,HR,hb2,HKR,OF2,BL2⟩
     case measure=>simp [intOf];omega
    ·as_aux_lemma =>
     rw [hkd] at d0
     have hne : t.name ≠ []:=Mk.Bld.name_ne hk1
     have HC2 : Hid (Mk.boR (L.drop k) op .nil = if Mk.stays op t.name < op.length then (f,L.drop j,Mk.stays op t.name) else if op.length = 8 then Mk.boR (L.drop (j + 1)) op f else if Mk.emptyB t.name = true then Mk.boR (L.drop (j + 1)) op (f.app (.node t.name t.ats [] .nil .nil)) else if (Mk.boR (L.drop (j + 1)) (op++[t.name]) .nil).2.2 < op.length then (f.app (.node t.name t.ats [] (Mk.boR (L.drop (j + 1)) (op++[t.name]) .nil).1 .nil),(Mk.boR (L.drop (j + 1)) (op++[t.name]) .nil).2) else Mk.boR (Mk.boR (L.drop (j + 1)) (op++[t.name]) .nil).2.1 op (f.app (.node t.name t.ats [] (Mk.boR (L.drop (j + 1)) (op++[t.name]) .nil).1 .nil))):=by show _ = _;rw [HJ.out,HCONS.out,if_neg (by rw [hkd];decide),if_neg (by rw [hkd];decide)]
     have HNE:=Lib.hid hne
     have HTX:=Lib.hid hk3
     have HCL:=Lib.hid (rf_Closes op t.name (.slice aop op.length capp) K w1 (HVO.out.frame (fun b q=>⟨q,BL1.out.block b (HK.out b q)⟩)) (by omega))
     clear hkd hk1 hk2 hk3 HTK HCONS HJ hne
     go_wp2_with fail
     refine HCL.out.mono ?_
     rintro e w9 ⟨rfl,hw9⟩
     subst w9
     obtain ⟨sy,hsy⟩ : ∃ sy,Mk.stays op t.name = sy:=⟨_,rfl⟩
     rw [hsy] at HC2 ⊢
     clear hsy HCL
     by_cases hs1 : sy < op.length
     ·have HR : Hid (Mk.boR (L.drop k) op .nil = (f,L.drop j,sy)):=by show _ = _;rw [HC2.out,if_pos hs1]
      have hs2 : (sy : Int) < op.length:=by omega
      clear HC2 IH HSA HV HVO
      as_aux_lemma =>
      go_wp2_with fail
      go_ret3
      refine ⟨u9,j,by rw [HR.out];rfl,?_,by rw [HR.out],hkj,hj,BL1.out⟩
      rw [HR.out]
      exact OF1.out.foV (fun b q=>⟨HKR.out b q,OF1.out.le b q⟩) (fun g q=>OF1.out.own.lt g q)
     have hs2 : ¬ (sy : Int) < op.length:=by omega
     have hc3:=HC2.out
     rw [if_neg hs1] at hc3
     have HC3:=Lib.hid hc3
     clear hc3 HC2 hs1
     by_cases h8 : op.length = 8
     ·have HR : Hid (Mk.boR (L.drop k) op .nil = Mk.boR (L.drop (j + 1)) op f):=by show _ = _;rw [HC3.out,if_pos h8]
      have hb2 : f.bulk + Mk.Bld.tokB (L.drop (j + 1))≤549755813000:=by omega
      have h8b : ((op.length : Int) == 8) = true:=by rw [beq_iff_eq];omega
      clear HC3 IH HSA HV HVO h8
      as_aux_lemma =>
      go_wp2_with fail
      go_roundw
      case rel=>exact ⟨j + 1,f,xs,Kr,by omega,hlt,by go_num,HR,hb2,HKR,OF1,BL1⟩
      case measure=>simp [intOf];omega
     have h8b : ((op.length : Int) == 8) = false:=by rw [beq_eq_false_iff_ne];omega
     have hop7 : op.length + 1≤8:=by omega
     have hc4:=HC3.out
     rw [if_neg h8] at hc4
     have HC4:=Lib.hid hc4
     clear hc4 HC3 h8
     have HAS : Hid (t.ats = [] ∨ ∃ ga oa,aot = some ⟨ga,oa,none⟩∧ga < w1.heap.size∧∀ i u,(atCells t.ats)[i]? = some u→w1.cell? ⟨ga,oa + i,none⟩ = some u):=by
      obtain ⟨ao',cap',z1,z2,_⟩:=HVA.out
      injection z1 with e1 e2 e3
      subst e1
      rcases z2 with z2 | ⟨ga,oa,z3,z4,z5⟩
      ·left
       have:=atCells_len t.ats
       rw [z2] at this
       exact List.eq_nil_of_length_eq_zero (by simp at this;omega)
      ·exact .inr ⟨ga,oa,z3,Nat.lt_of_lt_of_le (HK.out ga z4) BL1.out.size,z5⟩
     go_upto_region 19 with fail
     go_cut [13] (fun p wx=>∃ P ao7 cap7,p = .pointer (some ⟨P,0,none⟩)∧w1.heap.size≤P∧Hid (Below w1.heap.size w1 wx)∧Hid (Blk wx P 52 #[.string (st t.name),.slice ao7 t.ats.length cap7,.string ⟨#[]⟩,.slice none 0 0])∧Hid (AtsV wx (fun b=>w1.heap.size≤b∧b < wx.heap.size∧b ≠ P) (.slice ao7 t.ats.length cap7) t.ats))
     case first =>
      as_aux_lemma =>
      have HFR : Hid (∀ W,Below w1.heap.size w1 W→W.cell? ⟨T,1,none⟩ = some (.string (st t.name))∧W.cell? ⟨T,2,none⟩ = some (.slice aot t.ats.length capt)):=fun W hW=>⟨(hW.cell (p:=⟨T,1,none⟩) hTl).trans d1,(hW.cell (p:=⟨T,2,none⟩) hTl).trans d2⟩
      obtain ⟨i0,hi,hz0,hz1,hz2⟩:=info_parts Tryz.infoAttr
      have hl2:=atCells_len t.ats
      have h1c:=atCells_one t.ats
      have hatb : t.ats.length≤1099511627776:=by omega
      have HOW : Hid (∀ W q,Blk W q 58 #[]→w1.heap.size≤q→W.ownsRow w1.heap.size 58 2 (.slice (some ⟨q,0,none⟩) 0 0) 0 []):=fun W q hq hle=>⟨rfl,.inr ⟨q,0,#[],rfl,hle,hq,Nat.le_refl _,Nat.zero_le _,rfl,rfl⟩⟩
      have HNW : Hid (∀ W,Below w1.heap.size w1 W→t.ats.length = 0 ∨ ∃ ad : Addr,aot = some ad∧∀ (i : Nat) (u : Value),(atCells t.ats)[i]? = some u→W.cell? (ad.add i) = some u):=fun W hW=>by
       rcases HAS.out with hnil | ⟨ga,oa,hga,hgl2,hcells⟩
       ·left;rw [hnil];rfl
       ·refine .inr ⟨⟨ga,oa,none⟩,hga,fun i u q=>?_⟩
        rw [addr_add,← hcells i u q]
        exact hW.cell (p:=⟨ga,oa + i,none⟩) hgl2
      have sE : (w1.alloc (.cells #[] 58)).heap.size = w1.heap.size + 1:=by simp
      have sN : (w1.alloc (.cells #[.string ⟨#[]⟩,.slice none 0 0,.string ⟨#[]⟩,.slice none 0 0] 52)).heap.size = w1.heap.size + 1:=by simp
      have beA:=((Below.refl w1.heap.size w1).alloc (Nat.le_refl _) (.cells #[] 58)).drew
      have beN:=((Below.refl w1.heap.size w1).alloc (Nat.le_refl _) (.cells #[.string ⟨#[]⟩,.slice none 0 0,.string ⟨#[]⟩,.slice none 0 0] 52)).drew
      have beB:=(((Below.refl w1.heap.size w1).alloc (Nat.le_refl _) (.cells #[.string ⟨#[]⟩,.slice none 0 0,.string ⟨#[]⟩,.slice none 0 0] 52)).alloc (by simp) (.cells #[] 58)).drew
      have beC:=(((Below.refl w1.heap.size w1).alloc (Nat.le_refl _) (.cells #[] 58)).alloc (by simp) (.cells #[.string ⟨#[]⟩,.slice none 0 0,.string ⟨#[]⟩,.slice none 0 0] 52)).drew
      have bA : Blk (w1.alloc (.cells #[] 58)).drew w1.heap.size 58 #[]:=Blk.new w1 _ _
      have bB : Blk ((w1.alloc (.cells #[.string ⟨#[]⟩,.slice none 0 0,.string ⟨#[]⟩,.slice none 0 0] 52)).alloc (.cells #[] 58)).drew (w1.heap.size + 1) 58 #[]:=by rw [← sN];exact Blk.new (w1.alloc (.cells #[.string ⟨#[]⟩,.slice none 0 0,.string ⟨#[]⟩,.slice none 0 0] 52)) _ _
      have bC : Blk ((w1.alloc (.cells #[] 58)).alloc (.cells #[.string ⟨#[]⟩,.slice none 0 0,.string ⟨#[]⟩,.slice none 0 0] 52)).drew w1.heap.size 58 #[]:=Blk.alloc (Blk.new w1 _ _) _
      have nB : Blk ((w1.alloc (.cells #[.string ⟨#[]⟩,.slice none 0 0,.string ⟨#[]⟩,.slice none 0 0] 52)).alloc (.cells #[] 58)).drew w1.heap.size 52 #[.string ⟨#[]⟩,.slice none 0 0,.string ⟨#[]⟩,.slice none 0 0]:=Blk.alloc (Blk.new w1 _ _) _
      have nC : Blk ((w1.alloc (.cells #[] 58)).alloc (.cells #[.string ⟨#[]⟩,.slice none 0 0,.string ⟨#[]⟩,.slice none 0 0] 52)).drew (w1.heap.size + 1) 52 #[.string ⟨#[]⟩,.slice none 0 0,.string ⟨#[]⟩,.slice none 0 0]:=by rw [← sE];exact Blk.new (w1.alloc (.cells #[] 58)) _ _
      have owA:=HOW.out _ _ bA (Nat.le_refl _)
      have owB:=HOW.out _ _ bB (Nat.le_succ _)
      have owC:=HOW.out _ _ bC (Nat.le_refl _)
      clear HC4 IH HSA HV HVO HAS
      go_region_held3 (fun w'=>w'.cell? ⟨T,1,none⟩ = some (.string (st t.name))∧w'.cell? ⟨T,2,none⟩ = some (.slice aot t.ats.length capt)) (first
       | exact HFR.out _ hB7
       | exact HFR.out _ (hB7.alloc hB7.size _)
       | exact HFR.out _ ((Below.refl _ _).drew)
       | exact HFR.out _ ((((hB7.setCell (p:=⟨w1.heap.size,0,none⟩) (Nat.le_refl _) _).setCell (p:=⟨w1.heap.size,1,none⟩) (Nat.le_refl _) _).setCell (p:=⟨w1.heap.size,2,none⟩) (Nat.le_refl _) _).setCell (p:=⟨w1.heap.size,3,none⟩) (Nat.le_refl _) _)
       | exact HFR.out _ ((((hB7.setCell (p:=⟨w1.heap.size + 1,0,none⟩) (Nat.le_succ _) _).setCell (p:=⟨w1.heap.size + 1,1,none⟩) (Nat.le_succ _) _).setCell (p:=⟨w1.heap.size + 1,2,none⟩) (Nat.le_succ _) _).setCell (p:=⟨w1.heap.size + 1,3,none⟩) (Nat.le_succ _) _)
       | exact HFR.out _ beA
       | exact HFR.out _ beN
       | exact HFR.out _ beB
       | exact HFR.out _ beC
       | fail "NO KEEP") (first | (refine wp_append_row_step rfl (.tmp 79) (.tmp 81) 50 rfl w1.heap.size 58 i0 (.agg #[.string ⟨#[]⟩, .string ⟨#[]⟩]) 2 32 Tryz.underlying50 hi hz0 hz1 hz2 rfl (by decide) (w1.heap.size) (by simp [Act.eval, Act.put]) owA aot t.ats.length capt (atCells t.ats) (by simp [Act.eval, Act.put]) hl2 (HNW.out _ beA) h1c (run_append_zero _ _ _ _) (by unfold maxLen; omega) (by omega) beA.size ?_; intro v7 w7 hown7 hg7 hf7; obtain ⟨ao7, cap7, rfl⟩ := own_slice hown7; have hB7 : Below w1.heap.size w1 w7 := beA.grown hg7 beA.size (fun q hq => by have hq : some (w1.heap.size) = some q := hq; injection hq with hq; omega)) | (refine wp_append_row_step rfl (.tmp 79) (.tmp 81) 50 rfl w1.heap.size 58 i0 (.agg #[.string ⟨#[]⟩, .string ⟨#[]⟩]) 2 32 Tryz.underlying50 hi hz0 hz1 hz2 rfl (by decide) (w1.heap.size + 1) (by simp [Act.eval, Act.put]) owB aot t.ats.length capt (atCells t.ats) (by simp [Act.eval, Act.put]) hl2 (HNW.out _ beB) h1c (run_append_zero _ _ _ _) (by unfold maxLen; omega) (by omega) beB.size ?_; intro v7 w7 hown7 hg7 hf7; obtain ⟨ao7, cap7, rfl⟩ := own_slice hown7; have hB7 : Below w1.heap.size w1 w7 := beB.grown hg7 beB.size (fun q hq => by have hq : some (w1.heap.size + 1) = some q := hq; injection hq with hq; omega); have PN : Hid (Blk w7 (w1.heap.size) 52 #[.string ⟨#[]⟩, .slice none 0 0, .string ⟨#[]⟩, .slice none 0 0]) := (hg7.block (w1.heap.size) (by first | (simp; done) | (simp; omega)) (fun e => by have e : some (w1.heap.size) = some (w1.heap.size + 1) := e; injection e with e; omega)).trans nB; have z0 : w7.cell? ⟨w1.heap.size, 0, none⟩ = some (.string ⟨#[]⟩) := Blk.cell PN.out 0; have g0 : w7.frozen? ⟨w1.heap.size, 0, none⟩ = false := Blk.frozen PN.out 0; have z1 : w7.cell? ⟨w1.heap.size, 1, none⟩ = some (.slice none 0 0) := Blk.cell PN.out 1; have g1 : w7.frozen? ⟨w1.heap.size, 1, none⟩ = false := Blk.frozen PN.out 1; have z2 : w7.cell? ⟨w1.heap.size, 2, none⟩ = some (.string ⟨#[]⟩) := Blk.cell PN.out 2; have g2 : w7.frozen? ⟨w1.heap.size, 2, none⟩ = false := Blk.frozen PN.out 2; have z3 : w7.cell? ⟨w1.heap.size, 3, none⟩ = some (.slice none 0 0) := Blk.cell PN.out 3; have g3 : w7.frozen? ⟨w1.heap.size, 3, none⟩ = false := Blk.frozen PN.out 3) | (refine wp_append_row_step rfl (.tmp 79) (.tmp 81) 50 rfl w1.heap.size 58 i0 (.agg #[.string ⟨#[]⟩, .string ⟨#[]⟩]) 2 32 Tryz.underlying50 hi hz0 hz1 hz2 rfl (by decide) (w1.heap.size) (by simp [Act.eval, Act.put]) owC aot t.ats.length capt (atCells t.ats) (by simp [Act.eval, Act.put]) hl2 (HNW.out _ beC) h1c (run_append_zero _ _ _ _) (by unfold maxLen; omega) (by omega) beC.size ?_; intro v7 w7 hown7 hg7 hf7; obtain ⟨ao7, cap7, rfl⟩ := own_slice hown7; have hB7 : Below w1.heap.size w1 w7 := beC.grown hg7 beC.size (fun q hq => by have hq : some (w1.heap.size) = some q := hq; injection hq with hq; omega); have PN : Hid (Blk w7 (w1.heap.size + 1) 52 #[.string ⟨#[]⟩, .slice none 0 0, .string ⟨#[]⟩, .slice none 0 0]) := (hg7.block (w1.heap.size + 1) (by first | (simp; done) | (simp; omega)) (fun e => by have e : some (w1.heap.size + 1) = some (w1.heap.size) := e; injection e with e; omega)).trans nC; have z0 : w7.cell? ⟨w1.heap.size + 1, 0, none⟩ = some (.string ⟨#[]⟩) := Blk.cell PN.out 0; have g0 : w7.frozen? ⟨w1.heap.size + 1, 0, none⟩ = false := Blk.frozen PN.out 0; have z1 : w7.cell? ⟨w1.heap.size + 1, 1, none⟩ = some (.slice none 0 0) := Blk.cell PN.out 1; have g1 : w7.frozen? ⟨w1.heap.size + 1, 1, none⟩ = false := Blk.frozen PN.out 1; have z2 : w7.cell? ⟨w1.heap.size + 1, 2, none⟩ = some (.string ⟨#[]⟩) := Blk.cell PN.out 2; have g2 : w7.frozen? ⟨w1.heap.size + 1, 2, none⟩ = false := Blk.frozen PN.out 2; have z3 : w7.cell? ⟨w1.heap.size + 1, 3, none⟩ = some (.slice none 0 0) := Blk.cell PN.out 3; have g3 : w7.frozen? ⟨w1.heap.size + 1, 3, none⟩ = false := Blk.frozen PN.out 3))
      ·have ow8:=hown7
       have hs7:=hB7.size
       have at7:=AtsV.of_own (K:=fun b=>w1.heap.size≤b∧b < w7.heap.size) ow8 (fun q hq=>ow8.lt q hq)
       have HREL:=Lib.hid (And.intro hB7.size (And.intro (hB7.alloc hB7.size (.cells #[.string (st t.name),.slice ao7 t.ats.length cap7,.string ⟨#[]⟩,.slice none 0 0] 52)) (And.intro (Blk.new w7 52 #[.string (st t.name),.slice ao7 t.ats.length cap7,.string ⟨#[]⟩,.slice none 0 0]) (at7.frame (w':=w7.alloc (.cells #[.string (st t.name),.slice ao7 t.ats.length cap7,.string ⟨#[]⟩,.slice none 0 0] 52)) (K':=fun b=>w1.heap.size≤b∧b < (w7.alloc (.cells #[.string (st t.name),.slice ao7 t.ats.length cap7,.string ⟨#[]⟩,.slice none 0 0] 52)).heap.size∧b ≠ w7.heap.size) (fun b q=>⟨⟨q.1,by have:=q.2;simp;omega,by have:=q.2;omega⟩,Below.heap_alloc w7 _ b q.2⟩)))))
       clear ow8 at7 hown7 hg7 hf7 hB7 HFR HOW HNW
       go_wp2_with fail
       go_meet
       case rel=>exact ⟨_,ao7,cap7,rfl,HREL.out.1,HREL.out.2.1,HREL.out.2.2.1,HREL.out.2.2.2⟩
      ·have ow8:=hown7
       have hPlt : (w1.heap.size + 1) < w7.heap.size:=Blk.lt PN.out
       have at7:=AtsV.of_own (K:=fun b=>w1.heap.size≤b∧b < w7.heap.size∧b ≠ (w1.heap.size + 1)) ow8 (fun q hq=>⟨(ow8.lt q hq).1,(ow8.lt q hq).2,by rintro rfl;rcases hf7 with e | e;(have e : some (w1.heap.size + 1) = some (w1.heap.size):=hq.symm.trans e;injection e with e;omega);(have e:=hq.symm.trans e;injection e with e;simp at e;try omega)⟩)
       have HREL:=Lib.hid (And.intro (show w1.heap.size≤w1.heap.size + 1 from (Nat.le_succ _)) (And.intro (show Below w1.heap.size w1 (((((w7.setCell ⟨w1.heap.size + 1,0,none⟩ (.string (st t.name))).setCell ⟨w1.heap.size + 1,1,none⟩ (.slice ao7 t.ats.length cap7)).setCell ⟨w1.heap.size + 1,2,none⟩ (.string ⟨#[]⟩)).setCell ⟨w1.heap.size + 1,3,none⟩ (.slice none 0 0))) from ((((hB7.setCell (p:=⟨w1.heap.size + 1,0,none⟩) (Nat.le_succ _) _).setCell (p:=⟨w1.heap.size + 1,1,none⟩) (Nat.le_succ _) _).setCell (p:=⟨w1.heap.size + 1,2,none⟩) (Nat.le_succ _) _).setCell (p:=⟨w1.heap.size + 1,3,none⟩) (Nat.le_succ _) _)) (And.intro (Blk.set_ (Blk.set_ (Blk.set_ (Blk.set_ PN.out 0 (.string (st t.name))) 1 (.slice ao7 t.ats.length cap7)) 2 (.string ⟨#[]⟩)) 3 (.slice none 0 0)) (at7.frame (w':=((((w7.setCell ⟨w1.heap.size + 1,0,none⟩ (.string (st t.name))).setCell ⟨w1.heap.size + 1,1,none⟩ (.slice ao7 t.ats.length cap7)).setCell ⟨w1.heap.size + 1,2,none⟩ (.string ⟨#[]⟩)).setCell ⟨w1.heap.size + 1,3,none⟩ (.slice none 0 0))) (K':=fun b=>w1.heap.size≤b∧b < (((((w7.setCell ⟨w1.heap.size + 1,0,none⟩ (.string (st t.name))).setCell ⟨w1.heap.size + 1,1,none⟩ (.slice ao7 t.ats.length cap7)).setCell ⟨w1.heap.size + 1,2,none⟩ (.string ⟨#[]⟩)).setCell ⟨w1.heap.size + 1,3,none⟩ (.slice none 0 0))).heap.size∧b ≠ (w1.heap.size + 1)) (fun b q=>⟨⟨q.1,by have:=q.2.1;simpa [World.setCell] using this,q.2.2⟩,by rw [Below.heap_setCell _ ⟨(w1.heap.size + 1),3,none⟩ _ b q.2.2,Below.heap_setCell _ ⟨(w1.heap.size + 1),2,none⟩ _ b q.2.2,Below.heap_setCell _ ⟨(w1.heap.size + 1),1,none⟩ _ b q.2.2,Below.heap_setCell _ ⟨(w1.heap.size + 1),0,none⟩ _ b q.2.2]⟩)))))
       clear ow8 at7 hown7 hg7 hf7 hB7 HFR HOW HNW
       go_wp2_with fail
       go_meet
       case rel=>exact ⟨_,ao7,cap7,rfl,HREL.out.1,HREL.out.2.1,HREL.out.2.2.1,HREL.out.2.2.2⟩
      ·have ow8:=hown7
       have hPlt : (w1.heap.size) < w7.heap.size:=Blk.lt PN.out
       have at7:=AtsV.of_own (K:=fun b=>w1.heap.size≤b∧b < w7.heap.size∧b ≠ (w1.heap.size)) ow8 (fun q hq=>⟨(ow8.lt q hq).1,(ow8.lt q hq).2,by rintro rfl;rcases hf7 with e | e;(have e : some (w1.heap.size) = some (w1.heap.size + 1):=hq.symm.trans e;injection e with e;omega);(have e:=hq.symm.trans e;injection e with e;simp at e;try omega)⟩)
       have HREL:=Lib.hid (And.intro (show w1.heap.size≤w1.heap.size from (Nat.le_refl _)) (And.intro (show Below w1.heap.size w1 (((((w7.setCell ⟨w1.heap.size,0,none⟩ (.string (st t.name))).setCell ⟨w1.heap.size,1,none⟩ (.slice ao7 t.ats.length cap7)).setCell ⟨w1.heap.size,2,none⟩ (.string ⟨#[]⟩)).setCell ⟨w1.heap.size,3,none⟩ (.slice none 0 0))) from ((((hB7.setCell (p:=⟨w1.heap.size,0,none⟩) (Nat.le_refl _) _).setCell (p:=⟨w1.heap.size,1,none⟩) (Nat.le_refl _) _).setCell (p:=⟨w1.heap.size,2,none⟩) (Nat.le_refl _) _).setCell (p:=⟨w1.heap.size,3,none⟩) (Nat.le_refl _) _)) (And.intro (Blk.set_ (Blk.set_ (Blk.set_ (Blk.set_ PN.out 0 (.string (st t.name))) 1 (.slice ao7 t.ats.length cap7)) 2 (.string ⟨#[]⟩)) 3 (.slice none 0 0)) (at7.frame (w':=((((w7.setCell ⟨w1.heap.size,0,none⟩ (.string (st t.name))).setCell ⟨w1.heap.size,1,none⟩ (.slice ao7 t.ats.length cap7)).setCell ⟨w1.heap.size,2,none⟩ (.string ⟨#[]⟩)).setCell ⟨w1.heap.size,3,none⟩ (.slice none 0 0))) (K':=fun b=>w1.heap.size≤b∧b < (((((w7.setCell ⟨w1.heap.size,0,none⟩ (.string (st t.name))).setCell ⟨w1.heap.size,1,none⟩ (.slice ao7 t.ats.length cap7)).setCell ⟨w1.heap.size,2,none⟩ (.string ⟨#[]⟩)).setCell ⟨w1.heap.size,3,none⟩ (.slice none 0 0))).heap.size∧b ≠ (w1.heap.size)) (fun b q=>⟨⟨q.1,by have:=q.2.1;simpa [World.setCell] using this,q.2.2⟩,by rw [Below.heap_setCell _ ⟨(w1.heap.size),3,none⟩ _ b q.2.2,Below.heap_setCell _ ⟨(w1.heap.size),2,none⟩ _ b q.2.2,Below.heap_setCell _ ⟨(w1.heap.size),1,none⟩ _ b q.2.2,Below.heap_setCell _ ⟨(w1.heap.size),0,none⟩ _ b q.2.2]⟩)))))
       clear ow8 at7 hown7 hg7 hf7 hB7 HFR HOW HNW
       go_wp2_with fail
       go_meet
       case rel=>exact ⟨_,ao7,cap7,rfl,HREL.out.1,HREL.out.2.1,HREL.out.2.2.1,HREL.out.2.2.2⟩
     case rest =>
     as_aux_lemma =>
     obtain ⟨P,ao7,cap7,rfl,hPle,BLX,PBX,ATX⟩:=hcut
     obtain ⟨w2,hw2⟩ : ∃ x,x = wc:=⟨_,rfl⟩
     subst hw2
     have BL2:=Lib.hid (BL1.out.trans (BLX.out.mono BL1.out.size))
     have hP2 : P < w2.heap.size:=Blk.lt PBX.out
     have hsX:=BLX.out.size
     have e1 : w2.cell? ⟨T,1,none⟩ = some (.string (st t.name)):=(BLX.out.cell (p:=⟨T,1,none⟩) hTl).trans d1
     have hT2 : T < w2.heap.size:=by omega
     have OF2:=Lib.hid (OF1.out.frame BLX.out.size (fun b hb _=>BLX.out.block b hb))
     have hK1 : ∀ b,Kr b→b < w1.heap.size:=OF1.out.le
     have ho1 : ∀ b,u9.ownBlock = some b→b < w1.heap.size:=fun b q=>(OF1.out.own.lt b q).2
     have HK1:=Lib.hid hK1
     have HO1:=Lib.hid ho1
     clear d0 d1 d2 d3 hK1 ho1 OF1 HTO HTX HVA BLX HAS
     go_wp2_with fail
     refine (rf_IsEmpty t.name w2).mono ?_
     rintro e w9 ⟨rfl,hw9⟩
     subst w9
     have HMB : Hid (f.merges t.name = false):=by
      show _ = _
      rw [Bool.eq_false_iff]
      intro q
      exact HNE.out ((Mk.Fo.merges_iff _ _).1 q).1
     obtain ⟨i0,hi,hz0,hz1,hz2⟩:=info_parts Tryz.infoNode
     by_cases hem : Mk.emptyB t.name = true
     ·as_aux_lemma =>
      have HR : Hid (Mk.boR (L.drop k) op .nil = Mk.boR (L.drop (j + 1)) op (f.app (.node t.name t.ats [] .nil .nil))):=by show _ = _;rw [HC4.out,if_pos hem]
      have hb2 : (f.app (.node t.name t.ats [] .nil .nil)).bulk + Mk.Bld.tokB (L.drop (j + 1))≤549755813000:=by
       have h2:=Mk.app_bulk2 f (.node t.name t.ats [] .nil .nil)
       have h3 : (Mk.Fo.node t.name t.ats [] .nil .nil).bulk = 1 + t.name.length + 0 + Mk.Fo.atB t.ats + 0 + 0:=rfl
       omega
      have OFK : Hid (OwnF w2 w.heap.size (fun b=>Kr b ∨ (w1.heap.size≤b∧b < w2.heap.size∧b ≠ P)) u9 f xs):=by
       refine OF2.out.more (fun b q=>.inl q) ?_ ?_
       ·rintro g hg (q | q)
        ·exact OF2.out.ne g hg q
        ·have:=HO1.out g hg;omega
       ·rintro b (q | q)
        ·have:=HK1.out b q;omega
        ·exact q.2.1
      have ATK : Hid (AtsV w2 (fun b=>Kr b ∨ (w1.heap.size≤b∧b < w2.heap.size∧b ≠ P)) (.slice ao7 t.ats.length cap7) t.ats):=ATX.out.frame (fun b q=>⟨.inr q,rfl⟩)
      have q0 : w2.cell? ⟨P,0,none⟩ = some (.string (st t.name)):=Blk.cell PBX.out 0
      have q1 : w2.cell? ⟨P,1,none⟩ = some (.slice ao7 t.ats.length cap7):=Blk.cell PBX.out 1
      have q2 : w2.cell? ⟨P,2,none⟩ = some (.string ⟨#[]⟩):=Blk.cell PBX.out 2
      have q3 : w2.cell? ⟨P,3,none⟩ = some (.slice none 0 0):=Blk.cell PBX.out 3
      have hfl:=Mk.Fo.len_bulk f
      have hsz2:=BL2.out.size
      have ow10:=own_ap' OFK.out.own ((Ap.refl (fun _=>False) w2).alloc (.cells #[.string (st t.name),.slice ao7 t.ats.length cap7,.string ⟨#[]⟩,.slice none 0 0] 52)) (fun _ _ q=>q)
      have hal2:=(Below.refl w2.heap.size w2).alloc (Nat.le_refl _) (.cells #[.string (st t.name),.slice ao7 t.ats.length cap7,.string ⟨#[]⟩,.slice none 0 0] 52)
      clear HC4 IH HSA HV HVO OF2 ATX
      go_wp2_with (at_builtin;refine wpList_append_fresh rfl _ _ 22 rfl w.heap.size 52 i0 (.agg #[.string ⟨#[]⟩,.slice none 0 0,.string ⟨#[]⟩,.slice none 0 0]) 4 80 Tryz.underlying22 hi hz0 hz1 hz2 rfl (by decide) _ _ _ rfl ow10 ⟨w2.heap.size,0,none⟩ 1 1 [.string (st t.name),.slice ao7 t.ats.length cap7,.string ⟨#[]⟩,.slice none 0 0] rfl rfl (cells_new _ _ _) (by intro u hu;simp at hu;rcases hu with rfl | rfl | rfl | rfl <;> rfl) (by decide) (by unfold maxLen;omega) (by omega) (by simp;omega) ?_)
      intro v' w5 hown' hgrow hfresh
      have hfr2 : v'.ownBlock = u9.ownBlock ∨ v'.ownBlock = some (w2.alloc (.cells #[.string (st t.name),.slice ao7 t.ats.length cap7,.string ⟨#[]⟩,.slice none 0 0] 52)).heap.size:=hfresh.imp id (fun e=>by rw [e];simp)
      have OFP:=OFK.out.pushed (t:=[]) ATK.out (ao:=none) (cap:=0) (zs:=[]) (k:=.nil) (.inl rfl) (Nat.zero_le _) rfl HMB.out hal2 hown' hgrow hfr2
      rw [Mk.Fo.snoc_app _ _ _ _ _ (fun q=>HNE.out q.1)] at OFP
      have OFP:=Lib.hid OFP
      have HKR4 : Hid (∀ b,(Kr b ∨ (w1.heap.size≤b∧b < w2.heap.size∧b ≠ P))→w.heap.size≤b):=by
       rintro b (q | q)
       ·exact HKR.out b q
       ·have:=BL1.out.size;omega
      have BL5:=Lib.hid (BL2.out.trans ((hal2.mono BL2.out.size).grown hgrow (by have:=hal2.size;omega) (fun q hq=>(OFK.out.own.lt q hq).1)))
      clear hown' hgrow hfresh hfr2 ow10 hal2 OFK ATK PBX q0 q1 q2 q3 HMB BL2 BL1 HKR hem
      go_wp2_with fail
      go_roundw
      case rel=>exact ⟨j + 1,_,_,_,by omega,hlt,by go_num,HR,hb2,HKR4,OFP,BL5⟩
      case measure=>simp [intOf];omega
     have hem2 : Mk.emptyB t.name = false:=by simpa using hem
     obtain ⟨X,hX⟩ : ∃ X,Mk.boR (L.drop (j + 1)) (op++[t.name]) .nil = X:=⟨_,rfl⟩
     have hbk1:=Mk.boR_bulk (L.drop (j + 1)).length (L.drop (j + 1)) (op++[t.name]) .nil (Nat.le_refl _)
     have hih:=IH.out (j + 1) hlt (by omega)
     unfold BuildC at hih
     have hc5:=HC4.out
     rw [if_neg hem] at hc5
     rw [hX] at hbk1 hc5
     have HC5:=Lib.hid hc5
     have e0 : Mk.Fo.bulk .nil = 0:=rfl
     have hjc : ((j + 1 : Nat) : Int) = (j : Int) + 1:=by omega
     rw [hjc] at hih
     have HIH : Hid (∀ (W : World) (vo : Value),Below w2.heap.size w2 W→StrsV W (fun b=>b < W.heap.size) vo (op++[t.name])→Calls Tryz.prog 54 #[.slice (some ⟨g,o,none⟩) L.length cap,.int .i64 ((j : Int) + 1),vo] W fun e w'=>∃ (v' : Value) (jj : Nat),e = .returned (.tuple #[v',.int .i64 jj,.int .i64 X.2.2])∧FoV w' (fun b=>W.heap.size≤b∧b < w'.heap.size) v' X.1∧X.2.1 = L.drop jj∧j + 1≤jj∧jj≤L.length∧Below W.heap.size W w'):=fun W vo hW hso=>by
      have hWW:=BL2.out.trans (hW.mono BL2.out.size)
      have hq:=hih (.slice (some ⟨g,o,none⟩) L.length cap) vo (op++[t.name]) (fun b=>b < W.heap.size) W (HV.out.frame (fun b q=>⟨Nat.lt_of_lt_of_le (HK.out b q) hWW.size,hWW.block b (HK.out b q)⟩)) hso (fun b q=>q) (by rw [List.length_append];simp;omega)
      rw [hX] at hq
      exact hq
     have HSO : Hid (∀ W,Below w2.heap.size w2 W→op.length = 0 ∨ ∃ ad : Addr,aop = some ad∧∀ (m : Nat) (u : Value),(strVs op)[m]? = some u→W.cell? (ad.add m) = some u):=fun W hW=>by
      have hWW:=BL2.out.trans (hW.mono BL2.out.size)
      rcases HSA.out with h | ⟨g,o,h1,h2,h3⟩
      ·left;rw [h];rfl
      ·refine .inr ⟨⟨g,o,none⟩,h1,fun m u q=>?_⟩
       have hm : m < op.length:=by
        rcases Nat.lt_or_ge m op.length with q2 | q2
        ·exact q2
        ·rw [List.getElem?_eq_none (by simpa [strVs] using q2)] at q;cases q
       have hu : u = .string (st op[m]):=by
        have : (strVs op)[m]? = some (.string (st op[m])):=by simp [strVs,List.getElem?_eq_getElem hm]
        rw [this] at q
        injection q with q
        exact q.symm
       rw [addr_add,hu]
       exact (hWW.cell (p:=⟨g,o + m,none⟩) (HK.out g h2)).trans (h3 m hm)
     have hXb : f.bulk + X.1.bulk≤549755813000:=by omega
     have hXT : ∀ jj,X.2.1 = L.drop jj→(f.app (.node t.name t.ats [] X.1 .nil)).bulk + Mk.Bld.tokB (L.drop jj)≤549755813000:=fun jj q=>by
      rw [q] at hbk1
      have h2:=Mk.app_bulk2 f (.node t.name t.ats [] X.1 .nil)
      have h3 : (Mk.Fo.node t.name t.ats [] X.1 .nil).bulk = 1 + t.name.length + 0 + Mk.Fo.atB t.ats + X.1.bulk + 0:=rfl
      omega
     have HXT:=Lib.hid hXT
     clear hX hih hc5 HC4 IH HSA hbk1 e0 hjc hem hXT HV HVO
     go_upto_region 22 with fail
     go_cut [14,15,16] (fun a b c wx=>∃ ao9 cap9 jj,a = .slice ao9 X.1.len cap9∧b = .int .i64 ((jj : Nat) : Int)∧c = .int .i64 X.2.2∧j + 1≤jj∧jj≤L.length∧Hid (X.2.1 = L.drop jj)∧Hid (Below w2.heap.size w2 wx)∧Hid (FoV wx (fun b=>w2.heap.size≤b∧b < wx.heap.size) (.slice ao9 X.1.len cap9) X.1))
     case first =>
      as_aux_lemma =>
      have HFR : Hid (∀ W,Below w2.heap.size w2 W→W.cell? ⟨T,1,none⟩ = some (.string (st t.name))):=fun W hW=>(hW.cell (p:=⟨T,1,none⟩) hT2).trans e1
      clear hi hz0 hz1 hz2
      obtain ⟨i1,hj1,hy0,hy1,hy2⟩:=info_parts Tryz.infoStr
      have hl2 : (strVs op).length = op.length * 1:=by simp [strVs]
      have h1c : ∀ u ∈ strVs op,u.oneCell' = true:=by
       intro u hu
       unfold strVs at hu
       rw [List.mem_map] at hu
       obtain ⟨x,_,rfl⟩:=hu
       rfl
      have h1n : ∀ u ∈ [Value.string (st t.name)],u.oneCell' = true:=by intro u hu;simp at hu;rw [hu];rfl
      have HOW : Hid (∀ W q,Blk W q 9 #[]→w2.heap.size≤q→W.ownsRow w2.heap.size 9 1 (.slice (some ⟨q,0,none⟩) 0 0) 0 []):=fun W q hq hle=>⟨rfl,.inr ⟨q,0,#[],rfl,hle,hq,Nat.le_refl _,Nat.zero_le _,rfl,rfl⟩⟩
      have sE : (w2.alloc (.cells #[] 9)).heap.size = w2.heap.size + 1:=by simp
      have sN : (w2.alloc (.cells #[.string (st t.name)] 9)).heap.size = w2.heap.size + 1:=by simp
      have beA:=((Below.refl w2.heap.size w2).alloc (Nat.le_refl _) (.cells #[] 9)).drew
      have beN:=((Below.refl w2.heap.size w2).alloc (Nat.le_refl _) (.cells #[.string (st t.name)] 9)).drew
      have beB:=(((Below.refl w2.heap.size w2).alloc (Nat.le_refl _) (.cells #[.string (st t.name)] 9)).alloc (by simp) (.cells #[] 9)).drew
      have beC:=(((Below.refl w2.heap.size w2).alloc (Nat.le_refl _) (.cells #[] 9)).alloc (by simp) (.cells #[.string (st t.name)] 9)).drew
      have bA : Blk (w2.alloc (.cells #[] 9)).drew w2.heap.size 9 #[]:=Blk.new w2 _ _
      have bB : Blk ((w2.alloc (.cells #[.string (st t.name)] 9)).alloc (.cells #[] 9)).drew (w2.heap.size + 1) 9 #[]:=by rw [← sN];exact Blk.new (w2.alloc (.cells #[.string (st t.name)] 9)) _ _
      have bC : Blk ((w2.alloc (.cells #[] 9)).alloc (.cells #[.string (st t.name)] 9)).drew w2.heap.size 9 #[]:=Blk.alloc (Blk.new w2 _ _) _
      have nB : Blk ((w2.alloc (.cells #[.string (st t.name)] 9)).alloc (.cells #[] 9)).drew w2.heap.size 9 #[.string (st t.name)]:=Blk.alloc (Blk.new w2 _ _) _
      have nC : Blk ((w2.alloc (.cells #[] 9)).alloc (.cells #[.string (st t.name)] 9)).drew (w2.heap.size + 1) 9 #[.string (st t.name)]:=by rw [← sE];exact Blk.new (w2.alloc (.cells #[] 9)) _ _
      have owA:=HOW.out _ _ bA (Nat.le_refl _)
      have owB:=HOW.out _ _ bB (Nat.le_succ _)
      have owC:=HOW.out _ _ bC (Nat.le_refl _)
      clear HC5 HXT OF2 ATX PBX BL2 BL1 HNE HMB HKR sE sN bA bB bC
      go_region_held3 (fun w'=>w'.cell? ⟨T,1,none⟩ = some (.string (st t.name))) (first
       | exact HFR.out _ hB9
       | exact HFR.out _ hB8
       | exact HFR.out _ hB7
       | exact HFR.out _ (hB7.alloc hB7.size _)
       | exact HFR.out _ ((Below.refl _ _).drew)
       | exact HFR.out _ beA
       | exact HFR.out _ beN
       | exact HFR.out _ beB
       | exact HFR.out _ beC
       | fail "NO KEEP") (first | (go_at_call 54; refine (HIH.out _ _ hB8 SV8).mono ?_; rintro e w9 ⟨v9, jj, rfl, ⟨ao9, cap9, xs9, rfl, hq9⟩, hr9, hj9, hl9, hb9⟩; have hB9 : Below w2.heap.size w2 w9 := hB8.trans (hb9.mono hB8.size)) | (refine wp_append_row_step rfl (.tmp 94) (.tmp 95) 54 rfl w2.heap.size 9 i1 (.string ⟨#[]⟩) 1 16 Tryz.underlying54 hj1 hy0 hy1 hy2 rfl (by decide) (w2.heap.size) (by simp [Act.eval, Act.put]) owA aop op.length capp (strVs op) (by simp [Act.eval, Act.put]) hl2 (HSO.out _ beA) h1c (run_append_zeroS _ _ _ _) (by unfold maxLen; omega) (by omega) beA.size ?_; intro v7 w7 hown7 hg7 hf7; obtain ⟨ao7s, cap7s, rfl⟩ := own_slice hown7; have hB7 : Below w2.heap.size w2 w7 := beA.grown hg7 beA.size (fun q hq => by have hq : some (w2.heap.size) = some q := hq; injection hq with hq; omega); have hs7 := hB7.size) | (refine wp_append_row_step rfl (.tmp 94) (.tmp 95) 54 rfl w2.heap.size 9 i1 (.string ⟨#[]⟩) 1 16 Tryz.underlying54 hj1 hy0 hy1 hy2 rfl (by decide) (w2.heap.size + 1) (by simp [Act.eval, Act.put]) owB aop op.length capp (strVs op) (by simp [Act.eval, Act.put]) hl2 (HSO.out _ beB) h1c (run_append_zeroS _ _ _ _) (by unfold maxLen; omega) (by omega) beB.size ?_; intro v7 w7 hown7 hg7 hf7; obtain ⟨ao7s, cap7s, rfl⟩ := own_slice hown7; have hB7 : Below w2.heap.size w2 w7 := beB.grown hg7 beB.size (fun q hq => by have hq : some (w2.heap.size + 1) = some q := hq; injection hq with hq; omega); have hs7 := hB7.size; have PN : Blk w7 (w2.heap.size) 9 #[.string (st t.name)] := (hg7.block (w2.heap.size) (by first | (simp; done) | (simp; omega)) (fun e => by have e : some (w2.heap.size) = some (w2.heap.size + 1) := e; injection e with e; omega)).trans nB) | (refine wp_append_row_step rfl (.tmp 94) (.tmp 95) 54 rfl w2.heap.size 9 i1 (.string ⟨#[]⟩) 1 16 Tryz.underlying54 hj1 hy0 hy1 hy2 rfl (by decide) (w2.heap.size) (by simp [Act.eval, Act.put]) owC aop op.length capp (strVs op) (by simp [Act.eval, Act.put]) hl2 (HSO.out _ beC) h1c (run_append_zeroS _ _ _ _) (by unfold maxLen; omega) (by omega) beC.size ?_; intro v7 w7 hown7 hg7 hf7; obtain ⟨ao7s, cap7s, rfl⟩ := own_slice hown7; have hB7 : Below w2.heap.size w2 w7 := beC.grown hg7 beC.size (fun q hq => by have hq : some (w2.heap.size) = some q := hq; injection hq with hq; omega); have hs7 := hB7.size; have PN : Blk w7 (w2.heap.size + 1) 9 #[.string (st t.name)] := (hg7.block (w2.heap.size + 1) (by first | (simp; done) | (simp; omega)) (fun e => by have e : some (w2.heap.size + 1) = some (w2.heap.size) := e; injection e with e; omega)).trans nC) | (refine wp_append_fresh_step rfl (.tmp 96) (.tmp 99) 54 rfl w2.heap.size 9 i1 (.string ⟨#[]⟩) 1 16 Tryz.underlying54 hj1 hy0 hy1 hy2 rfl (by decide) (.slice ao7s op.length cap7s) op.length (strVs op) (by simp [Act.eval, Act.put]) (own_ap' hown7 ((Ap.refl (fun _ => False) w7).alloc (.cells #[.string (st t.name)] 9)) (fun _ _ q => q)) ⟨w7.heap.size, 0, none⟩ 1 1 [.string (st t.name)] (by simp [Act.eval, Act.put]) rfl (cells_new _ _ _) h1n (by decide) (by unfold maxLen; omega) (by omega) (hB7.alloc hB7.size (.cells #[.string (st t.name)] 9)).size ?_; intro v8 w8 hown8 hg8 hf8; obtain ⟨ao8, cap8, rfl⟩ := own_slice hown8; have hB8 : Below w2.heap.size w2 w8 := (hB7.alloc hB7.size (.cells #[.string (st t.name)] 9)).grown hg8 (hB7.alloc hB7.size (.cells #[.string (st t.name)] 9)).size (fun q hq => (hown7.lt q hq).1); have SV8 : StrsV w8 (fun b => b < w8.heap.size) (.slice ao8 (op.length + 1) cap8) (op ++ [t.name]) := StrsV.of_row hown8 (fun g q => (hown8.lt g q).2)) | (refine wp_append_fresh_step rfl (.tmp 96) (.tmp 99) 54 rfl w2.heap.size 9 i1 (.string ⟨#[]⟩) 1 16 Tryz.underlying54 hj1 hy0 hy1 hy2 rfl (by decide) (.slice ao7s op.length cap7s) op.length (strVs op) (by simp [Act.eval, Act.put]) (hown7) ⟨w2.heap.size, 0, none⟩ 1 1 [.string (st t.name)] (by simp [Act.eval, Act.put]) rfl (blk_news PN) h1n (by decide) (by unfold maxLen; omega) (by omega) (hB7).size ?_; intro v8 w8 hown8 hg8 hf8; obtain ⟨ao8, cap8, rfl⟩ := own_slice hown8; have hB8 : Below w2.heap.size w2 w8 := (hB7).grown hg8 (hB7).size (fun q hq => (hown7.lt q hq).1); have SV8 : StrsV w8 (fun b => b < w8.heap.size) (.slice ao8 (op.length + 1) cap8) (op ++ [t.name]) := StrsV.of_row hown8 (fun g q => (hown8.lt g q).2)) | (refine wp_append_fresh_step rfl (.tmp 96) (.tmp 99) 54 rfl w2.heap.size 9 i1 (.string ⟨#[]⟩) 1 16 Tryz.underlying54 hj1 hy0 hy1 hy2 rfl (by decide) (.slice ao7s op.length cap7s) op.length (strVs op) (by simp [Act.eval, Act.put]) (hown7) ⟨w2.heap.size + 1, 0, none⟩ 1 1 [.string (st t.name)] (by simp [Act.eval, Act.put]) rfl (blk_news PN) h1n (by decide) (by unfold maxLen; omega) (by omega) (hB7).size ?_; intro v8 w8 hown8 hg8 hf8; obtain ⟨ao8, cap8, rfl⟩ := own_slice hown8; have hB8 : Below w2.heap.size w2 w8 := (hB7).grown hg8 (hB7).size (fun q hq => (hown7.lt q hq).1); have SV8 : StrsV w8 (fun b => b < w8.heap.size) (.slice ao8 (op.length + 1) cap8) (op ++ [t.name]) := StrsV.of_row hown8 (fun g q => (hown8.lt g q).2)))
      all_goals
       have HREL : Hid (Below w2.heap.size w2 w9∧FoV w9 (fun b=>w2.heap.size≤b∧b < w9.heap.size) (.slice ao9 X.1.len cap9) X.1):=⟨hB9,(show FoV w9 (fun b=>w8.heap.size≤b∧b < w9.heap.size) (.slice ao9 X.1.len cap9) X.1 from ⟨ao9,cap9,xs9,rfl,hq9⟩).frame (fun b q=>⟨⟨Nat.le_trans hB8.size q.1,q.2⟩,rfl⟩)⟩
       have HR9:=Lib.hid hr9
       clear hB9 hq9 hr9 hb9 hB8 SV8 hown8 hg8 hf8 hB7 hown7 hg7 hf7 HFR HOW HIH HSO
       go_wp2_with fail
       go_meet
       case rel=>exact ⟨ao9,cap9,jj,rfl,rfl,rfl,hj9,hl9,HR9,HREL.out.1,HREL.out.2⟩
     case rest =>
     as_aux_lemma =>
     obtain ⟨ao9,cap9,jj,rfl,rfl,rfl,hj9,hl9,HX9,BLY,FOY⟩:=hcut
     obtain ⟨w3,hw3⟩ : ∃ x,x = wc:=⟨_,rfl⟩
     subst hw3
     have PB3:=Lib.hid (Blk.below PBX.out BLY.out hP2)
     have p3 : w3.cell? ⟨P,3,none⟩ = some (.slice none 0 0):=Blk.cell PB3.out 3
     have g3 : w3.frozen? ⟨P,3,none⟩ = false:=Blk.frozen PB3.out 3
     have PB4 : Hid (Blk (w3.setCell ⟨P,3,none⟩ (.slice ao9 X.1.len cap9)) P 52 #[.string (st t.name),.slice ao7 t.ats.length cap7,.string ⟨#[]⟩,.slice ao9 X.1.len cap9]):=Blk.set_ PB3.out 3 _
     have s34 : (w3.setCell ⟨P,3,none⟩ (.slice ao9 X.1.len cap9)).heap.size = w3.heap.size:=by simp [World.setCell]
     have hb34 : ∀ b,b ≠ P→(w3.setCell ⟨P,3,none⟩ (.slice ao9 X.1.len cap9)).heap[b]? = w3.heap[b]?:=fun b q=>Below.heap_setCell w3 ⟨P,3,none⟩ _ b q
     have HB34:=Lib.hid hb34
     have hPw : w.heap.size≤P:=Nat.le_trans BL1.out.size hPle
     have BL4:=Lib.hid (BL2.out.trans ((BLY.out.mono BL2.out.size).setCell (p:=⟨P,3,none⟩) hPw (.slice ao9 X.1.len cap9)))
     clear hb34
     go_upto_region 24 with fail
     generalize w3.setCell ⟨P,3,none⟩ (.slice ao9 X.1.len cap9) = w4 at PB4 s34 HB34 BL4 ⊢
     have hsY:=BLY.out.size
     have OFK : Hid (OwnF w4 w.heap.size (fun b=>Kr b ∨ (w1.heap.size≤b∧b < w4.heap.size∧b ≠ P)) u9 f xs):=by
      refine (OF2.out.frame (w':=w4) (by omega) (fun b hb q=>?_)).more (fun b q=>.inl q) ?_ ?_
      ·have hbP : b < w1.heap.size:=q.elim (fun q=>HK1.out b q) (fun q=>HO1.out b q)
       rw [HB34.out b (by omega),BLY.out.block b hb]
      ·rintro g hg (q | q)
       ·exact OF2.out.ne g hg q
       ·have:=HO1.out g hg;omega
      ·rintro b (q | q)
       ·have:=HK1.out b q;omega
       ·exact q.2.1
     have ATK : Hid (AtsV w4 (fun b=>Kr b ∨ (w1.heap.size≤b∧b < w4.heap.size∧b ≠ P)) (.slice ao7 t.ats.length cap7) t.ats):=ATX.out.frame (fun b q=>⟨.inr ⟨q.1,by have:=q.2.1;omega,q.2.2⟩,by rw [HB34.out b q.2.2,BLY.out.block b q.2.1]⟩)
     have FOK : FoV w4 (fun b=>Kr b ∨ (w1.heap.size≤b∧b < w4.heap.size∧b ≠ P)) (.slice ao9 X.1.len cap9) X.1:=FOY.out.frame (fun b q=>⟨.inr ⟨by have:=q.1;omega,by have:=q.2;omega,by have:=q.1;omega⟩,HB34.out b (by have:=q.1;omega)⟩)
     obtain ⟨ao9',cap9',xs9,hq1,hq2,hq3,hq4⟩:=FOK
     injection hq1 with hq5 hq6 hq7
     subst hq5
     subst hq7
     clear hq6 p3 g3
     have HQ2:=Lib.hid hq2
     have HQ3:=Lib.hid hq3
     clear hq2 hq3 HB34 PB3 OF2 BL2 ATX FOY PBX s34
     have q0 : w4.cell? ⟨P,0,none⟩ = some (.string (st t.name)):=Blk.cell PB4.out 0
     have q1 : w4.cell? ⟨P,1,none⟩ = some (.slice ao7 t.ats.length cap7):=Blk.cell PB4.out 1
     have q2 : w4.cell? ⟨P,2,none⟩ = some (.string ⟨#[]⟩):=Blk.cell PB4.out 2
     have q3 : w4.cell? ⟨P,3,none⟩ = some (.slice ao9 X.1.len cap9):=Blk.cell PB4.out 3
     have hfl:=Mk.Fo.len_bulk f
     have hsz4:=BL4.out.size
     have ow10:=own_ap' OFK.out.own ((Ap.refl (fun _=>False) w4).alloc (.cells #[.string (st t.name),.slice ao7 t.ats.length cap7,.string ⟨#[]⟩,.slice ao9 X.1.len cap9] 52)) (fun _ _ q=>q)
     have hal2:=(Below.refl w4.heap.size w4).alloc (Nat.le_refl _) (.cells #[.string (st t.name),.slice ao7 t.ats.length cap7,.string ⟨#[]⟩,.slice ao9 X.1.len cap9] 52)
     go_wp2_with (at_builtin;refine wpList_append_fresh rfl _ _ 22 rfl w.heap.size 52 i0 (.agg #[.string ⟨#[]⟩,.slice none 0 0,.string ⟨#[]⟩,.slice none 0 0]) 4 80 Tryz.underlying22 hi hz0 hz1 hz2 rfl (by decide) _ _ _ rfl ow10 ⟨w4.heap.size,0,none⟩ 1 1 [.string (st t.name),.slice ao7 t.ats.length cap7,.string ⟨#[]⟩,.slice ao9 X.1.len cap9] rfl rfl (cells_new _ _ _) (by intro u hu;simp at hu;rcases hu with rfl | rfl | rfl | rfl <;> rfl) (by decide) (by unfold maxLen;omega) (by omega) (by simp;omega) ?_)
     intro v' w5 hown' hgrow hfresh
     have hfr2 : v'.ownBlock = u9.ownBlock ∨ v'.ownBlock = some (w4.alloc (.cells #[.string (st t.name),.slice ao7 t.ats.length cap7,.string ⟨#[]⟩,.slice ao9 X.1.len cap9] 52)).heap.size:=hfresh.imp id (fun e=>by rw [e];simp)
     have OFP:=OFK.out.pushed (t:=[]) ATK.out (ao:=ao9) (cap:=cap9) (zs:=xs9) (k:=X.1) HQ2.out hq4 HQ3.out HMB.out hal2 hown' hgrow hfr2
     rw [Mk.Fo.snoc_app _ _ _ _ _ (fun q=>HNE.out q.1)] at OFP
     have OFP:=Lib.hid OFP
     have HKR4 : Hid (∀ b,(Kr b ∨ (w1.heap.size≤b∧b < w4.heap.size∧b ≠ P))→w.heap.size≤b):=by
      rintro b (q | q)
      ·exact HKR.out b q
      ·have:=BL1.out.size;omega
     have BL5:=Lib.hid (BL4.out.trans ((hal2.mono BL4.out.size).grown hgrow (by have:=hal2.size;omega) (fun q hq=>(OFK.out.own.lt q hq).1)))
     clear hown' hgrow hfresh hfr2 ow10 hal2 OFK ATK HQ2 HQ3 PB4 q0 q1 q2 q3 HMB hq4 BL4 BL1 HKR
     by_cases hlf : X.2.2 < op.length
     ·have hli : (X.2.2 : Int) < op.length:=by omega
      have HR : Hid (Mk.boR (L.drop k) op .nil = (f.app (.node t.name t.ats [] X.1 .nil),X.2)):=by show _ = _;rw [HC5.out,if_pos hlf]
      clear HC5 hlf
      as_aux_lemma =>
      go_wp2_with fail
      go_ret3
      refine ⟨v',jj,by (rw [HR.out]) <;> rfl,?_,by rw [HR.out,HX9.out],by omega,hl9,BL5.out⟩
      rw [HR.out]
      exact OFP.out.foV (fun b q=>⟨HKR4.out b q,OFP.out.le b q⟩) (fun g q=>OFP.out.own.lt g q)
     ·have hli : ¬ (X.2.2 : Int) < op.length:=by omega
      have HR : Hid (Mk.boR (L.drop k) op .nil = Mk.boR (L.drop jj) op (f.app (.node t.name t.ats [] X.1 .nil))):=by show _ = _;rw [HC5.out,if_neg hlf,HX9.out]
      have hb2:=HXT.out jj HX9.out
      clear HC5 hlf
      as_aux_lemma =>
      go_wp2_with fail
      go_roundw
      case rel=>exact ⟨jj,_,_,_,by omega,hl9,rfl,HR,hb2,HKR4,OFP,BL5⟩
      case measure=>simp [intOf];omega
    ·as_aux_lemma =>
     have HR : Hid (Mk.boR (L.drop k) op .nil = match Mk.above t.name (fun _=>false) op with | none=>Mk.boR (L.drop (j + 1)) op f | some i=>(f,L.drop (j + 1),i)):=by show _ = _;rw [HJ.out,HCONS.out,if_neg (by rw [hkd];decide),if_pos hkd];cases Mk.above t.name (fun _=>false) op <;> rfl
     rw [hkd] at d0
     have hb2 : f.bulk + Mk.Bld.tokB (L.drop (j + 1))≤549755813000:=by omega
     have HSO : Hid (∀ m (hm : m < op.length),∃ g o,aop = some ⟨g,o,none⟩∧g < w.heap.size∧w.cell? ⟨g,o + m,none⟩ = some (.string (st op[m]))):=fun m hm=>by
      rcases HSA.out with h | ⟨g,o,h1,h2,h3⟩
      ·rw [h] at hm;simp at hm
      ·exact ⟨g,o,h1,HK.out g h2,h3 m hm⟩
     clear hkd hk1 hk2 hk3 HTK HCONS HJ IH HSA HV HVO
     go_upto_block 2 with fail
     go_cut [11] (fun iv wx=>iv = optV (Mk.above t.name (fun _=>false) op)∧Hid (Below w1.heap.size w1 wx))
     case first =>
      as_aux_lemma =>
      go_wp2_with fail
      go_loopw [11] (fun iv wx=>∃ m : Nat,m≤op.length∧iv = .int .i64 ((m : Int) - 1)∧Hid (Mk.above t.name (fun _=>false) op = Mk.above t.name (fun _=>false) (op.take m))∧Hid (Below w1.heap.size w1 wx)) (fun iv _=>(intOf iv + 1).toNat)
      case atStart=>exact ⟨op.length,Nat.le_refl _,rfl,by show _ = _;rw [List.take_length],Below.refl _ _⟩
      case round =>
       obtain ⟨m,hm,rfl,HA,B2⟩:=hrel
       rw [← B2.out.cell (p:=⟨T,_,none⟩) hTl] at d1
       cases m with
       | zero =>
        have HE : Hid (Mk.above t.name (fun _=>false) op = none):=by show _ = _;rw [HA.out,Mk.above_nil]
        clear HA HSO
        go_wp2_with fail
        go_quiet (fail)
        go_wp2_with fail
        go_meet
        case rel=>exact ⟨by rw [HE.out];rfl,below_drewN B2.out _⟩
       | succ m =>
        have hml : m < op.length:=hm
        have hat:=Mk.above_take t.name (fun _=>false) op m hml
        rw [← HA.out] at hat
        obtain ⟨g2,o2,hao2,hg2,hc⟩:=HSO.out m hml
        subst hao2
        rw [← (BL1.out.trans (B2.out.mono BL1.out.size)).cell (p:=⟨g2,_,none⟩) hg2] at hc
        obtain ⟨e,he⟩ : ∃ e,op[m] = e:=⟨_,rfl⟩
        rw [he] at hat hc
        have hj1 : ((m + 1 : Nat) : Int) - 1 = (m : Int):=by omega
        rw [hj1]
        have hjl2 : (m : Int) < op.length:=by omega
        have hj0 : (0 : Int)≤m:=by omega
        have HAK:=Lib.hid hat
        clear hat HA he hj1 hm HSO
        rcases name_cases e t.name with ⟨h,q⟩ | ⟨h,q⟩
        ·have HE : Hid (Mk.above t.name (fun _=>false) op = some m):=by show _ = _;rw [HAK.out,if_pos h]
         have q2 : (e != t.name) = false:=by rw [bne,q];rfl
         clear h HAK
         go_wp2_with fail
         go_quiet (fail)
         go_wp2_with fail
         go_meet
         case rel=>exact ⟨by rw [HE.out];rfl,below_drewN B2.out _⟩
        ·have HR2 : Hid (Mk.above t.name (fun _=>false) op = Mk.above t.name (fun _=>false) (op.take m)):=by show _ = _;rw [HAK.out,if_neg h,if_neg (by decide)]
         have q2 : (e != t.name) = true:=by rw [bne,q];rfl
         clear h HAK
         go_wp2_with fail
         go_quiet (fail)
         go_wp2_with fail
         go_roundw
         case rel=>exact ⟨m,by omega,by go_num,HR2,below_drewN B2.out _⟩
         case measure=>first | (simp [intOf];done) | (simp [intOf];omega)
     case rest =>
     as_aux_lemma =>
     obtain ⟨rfl,B2⟩:=hcut
     obtain ⟨w2,hw2⟩ : ∃ x,x = wc:=⟨_,rfl⟩
     subst hw2
     have BL2:=Lib.hid (BL1.out.trans (B2.out.mono BL1.out.size))
     have OF2:=Lib.hid (OF1.out.frame B2.out.size (fun b hb _=>B2.out.block b hb))
     clear B2 BL1 OF1 HSO
     cases ha : Mk.above t.name (fun _=>false) op with
     | none =>
      rw [ha] at HR
      simp only at HR
      clear ha
      unfold optV
      go_wp2_with fail
      go_roundw
      case rel=>exact ⟨j + 1,f,xs,Kr,by omega,hlt,by go_num,HR,hb2,HKR,OF2,BL2⟩
      case measure=>simp [intOf];omega
     | some i =>
      rw [ha] at HR
      simp only at HR
      clear ha
      unfold optV
      have hi0 : (0 : Int)≤i:=by omega
      go_wp2_with fail
      go_ret3
      refine ⟨u9,j + 1,by rw [HR.out];rfl,?_,by rw [HR.out],by omega,hlt,BL2.out⟩
      rw [HR.out]
      exact OF2.out.foV (fun b q=>⟨HKR.out b q,OF2.out.le b q⟩) (fun g q=>OF2.out.own.lt g q)
   ·have hje : j = L.length:=by omega
    have HE : Hid (Mk.boR (L.drop k) op .nil = (f,[],op.length)):=by show _ = _;rw [HJ.out,List.drop_of_length_le (by omega),Mk.boR_nil]
    have hji : ¬ (j : Int) < L.length:=by omega
    have HDN : Hid (L.drop j = []):=List.drop_of_length_le (by omega)
    clear hje
    as_aux_lemma =>
    clear HJ HAT HSA HV HVO IH
    go_wp2_with fail
    go_ret3
    refine ⟨u9,j,by rw [HE.out];rfl,?_,by rw [HE.out,HDN.out],hkj,hj,BL.out⟩
    rw [HE.out]
    exact OF.out.foV (fun b q=>⟨HKR.out b q,OF.out.le b q⟩) (fun g q=>OF.out.own.lt g q)
end Go.Proofs.YteidgdpaolieaaaGreatDoor

/- Plain laws of a sign, as the reference tells it. No program in sight. -/
namespace Mk
/-- a sign at the beginning of a text, as the reference tells it. -/
def signR (l : Bs) : Bs × Nat × Bool:=if (sign l).2.1 = 0 then ([],0,false) else sign l
theorem signR_named (l : Bs) (c : UInt8) (n : Nat) (hn : n ≠ 0) (h : named l = some (c,n)) : signR l = ([c],n,true):=by
 have e : sign l = ([c],n,true):=by unfold sign;rw [h]
 unfold signR
 rw [e,if_neg hn]
theorem signR_none (l : Bs) (h : named l = none) (h2 : numbered l = none) : signR l = ([],0,false):=by
 have e : sign l = ([38],0,false):=by unfold sign;rw [h,h2]
 unfold signR
 rw [e,if_pos rfl]
theorem signR_num (l : Bs) (p n : Nat) (hn : n ≠ 0) (h : named l = none) (h2 : numbered l = some (p,n)) : signR l = if scalar p = true then (utf8 p,n,true) else ([239,191,189],n,false):=by
 have e : sign l = if scalar p = true then (utf8 p,n,true) else ([239,191,189],n,false):=by unfold sign;rw [h,h2]
 unfold signR
 rw [e]
 by_cases hs : scalar p = true
 ·rw [if_pos hs,if_neg hn]
 ·rw [if_neg hs,if_neg hn]
theorem numbered_16 (l : Bs) (h : Mg.pre [38,35,120] l = true) : numbered l = numAt 16 6 3 l:=by unfold numbered;rw [if_pos h]
theorem numbered_10 (l : Bs) (h : Mg.pre [38,35,120] l = false) (h2 : Mg.pre [38,35] l = true) : numbered l = numAt 10 7 2 l:=by unfold numbered;rw [if_neg (by rw [h];decide),if_pos h2]
theorem pre_less (l : Bs) (h : Mg.pre [38,35] l = false) : Mg.pre [38,35,120] l = false:=by
 match l,h with
 | [],_=>rfl
 | [a],h=>simp [Mg.pre] at h ⊢
 | a :: b :: t,h =>
  simp [Mg.pre] at h ⊢
  intro h1 h2
  exact absurd h2 (h h1)
theorem numbered_no (l : Bs) (h : Mg.pre [38,35] l = false) : numbered l = none:=by unfold numbered;rw [if_neg (by rw [pre_less l h];decide),if_neg (by rw [h];decide)]
/-- what digits tell, as a loop goes over them. -/
theorem numAt_run (b most ahead j : Nat) (l : Bs) (h : Runs (isDig b) (l.drop ahead) j) (he : j = (l.drop ahead).length ∨ (∃ q : j < (l.drop ahead).length,isDig b (l.drop ahead)[j] = false) ∨ most < j) :
  numAt b most ahead l = if j = 0 ∨ most < j then none else if Mg.isAt 59 ((l.drop ahead).drop j) = true then some (value b ((l.drop ahead).take j),ahead + j + 1) else none:=by
 unfold numAt
 simp only
 generalize l.drop ahead = r at h he ⊢
 by_cases hm : most < j
 ·have hle : j≤(r.takeWhile (isDig b)).length:=by
   have e : r = r.take j++r.drop j:=(List.take_append_drop j r).symm
   rw [e,List.takeWhile_append_of_pos h.2,List.length_append,List.length_take,Nat.min_eq_left h.1]
   exact Nat.le_add_right _ _
  rw [if_pos (.inr (by omega)),if_pos (.inr hm)]
 ·obtain ⟨e1,e2⟩:=runs_ends (isDig b) r j h (by rcases he with q | q | q;exact .inl q;exact .inr q;exact absurd q hm)
  rw [e1,List.length_take,Nat.min_eq_left h.1]
theorem value_one (b : Nat) (l : Bs) (c : UInt8) : value b (l++[c]) = value b l * b + dig36 c.toNat:=by simp [value]
theorem value_take (b : Nat) (l : Bs) (j : Nat) (h : j < l.length) : value b (l.take (j + 1)) = value b (l.take j) * b + dig36 l[j].toNat:=by
 rw [List.take_succ_eq_append_getElem h,value_one]
end Mk
