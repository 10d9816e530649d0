/- Contracts of the program's Markup and Html. Conditions on what is built; Told answers at every text and value that stays. -/
import Derived.Test.YtjonkbdldebkiaaGreatDoorYMkByt1
import Derived.Test.YtjonkbdldebkiaaGreatDoorYMkFlat1
import Derived.Test.YtjonkbdldebkiaaGreatDoorYMkClean5
import Derived.Test.YtjonkbdldebkiaaGreatDoorYMkTok8
set_option linter.unusedVariables false
set_option linter.unusedSimpArgs false
namespace Mk
/-- markup by its parts. -/
structure Fits (base s : Bs) : Prop where
 len : s.length≤3000
 toks : Bld.tokB (toks s)≤549755813000
 built : (build (Mk.toks s)).bulk≤1048576
 out : (clean base (build (Mk.toks s))).bulk≤549755813888
 bytes : (html base s).length≤1099511627776
end Mk
namespace Go.Proofs.YtjonkbdldebkiaaGreatDoor
open Go.RowKit
set_option maxHeartbeats 4000000 in
set_option maxRecDepth 100000 in
theorem cl_Markup (base s : List UInt8) (w : World) (hg : Gl w) (hf : Mk.Fits base s) (hT : ∀ t ∈ Mk.flat (Mk.clean base (Mk.build (Mk.toks s))),TokTells t) :
  Calls Tryz.prog 55 #[.string (st base),.string (st s)] w fun e w'=>e = .returned (.string (st (Mk.html base s)))∧Below w.heap.size w w':=by
 have HA:=Lib.hid (mk_All (st s) w hg (by have:=hf.len;rw [st_size];omega))
 have HF:=Lib.hid hf
 have HT:=Lib.hid hT
 have HE : Hid (Mk.bytes (Mk.flat (Mk.clean base (Mk.build (Mk.toks s)))) = Mk.html base s):=rfl
 clear hf hT
 go_enter Tryz.func55,Tryz.ntmps55
 go_wp2_with fail
 refine HA.out.mono ?_
 rintro e w1 ⟨v1,rfl,hv1,hb1⟩
 have B1:=Lib.hid hb1
 have HO:=Lib.hid (tr_Of (Mk.toks s) v1 _ w1 hv1 (fun b q=>q.2) HF.out.toks)
 clear hv1 hb1 HA
 go_wp2_with fail
 refine HO.out.mono ?_
 rintro e w2 ⟨v2,rfl,hv2,hb2⟩
 have B2:=Lib.hid (B1.out.trans (hb2.mono B1.out.size))
 have HC:=Lib.hid (cl_Of base (Mk.build (Mk.toks s)) v2 _ w2 (Nat.le_trans HF.out.built (by decide)) hv2 (fun b q=>q.2))
 clear hv2 HO
 go_wp2_with fail
 refine HC.out.mono ?_
 rintro e w3 ⟨v3,rfl,hv3,hb3⟩
 have B3:=Lib.hid (B2.out.trans (hb3.mono B2.out.size))
 have HK:=Lib.hid (tr_Tokens ((Mk.clean base (Mk.build (Mk.toks s))).bulk + 1) (Mk.clean base (Mk.build (Mk.toks s))) (Nat.lt_succ_self _) HF.out.out v3 _ w3 hv3 (fun b q=>q.elim (fun q=>Nat.lt_of_lt_of_le q.2 hb3.size) (fun q=>q.2)))
 clear hv3 hb3 hb2 HC
 go_wp2_with fail
 refine HK.out.mono ?_
 rintro e w4 ⟨v4,xs4,rfl,hv4,_,hb4⟩
 have B4:=Lib.hid (B3.out.trans (hb4.mono B3.out.size))
 have HB:=Lib.hid (tk_Bytes (Mk.flat (Mk.clean base (Mk.build (Mk.toks s)))) v4 _ w4 hv4.toksV (fun b q=>q.2) HT.out HF.out.bytes)
 clear hv4 hb4 HK
 go_wp2_with fail
 refine HB.out.mono ?_
 rintro e w5 ⟨rfl,hb5⟩
 have B5:=Lib.hid (B4.out.trans (hb5.mono B4.out.size))
 clear hb5 HB
 go_wp2_with fail
 go_ret
 exact ⟨by rw [← HE.out];rfl,B5.out⟩
set_option maxHeartbeats 4000000 in
set_option maxRecDepth 100000 in
theorem cl_Html (base s : List UInt8) (w : World) (hg : Gl w) (hb : base.length≤3000) (hf : Mk.Fits base s) (hT : ∀ t ∈ Mk.flat (Mk.clean base (Mk.build (Mk.toks s))),TokTells t) :
  Calls Tryz.prog 19 #[.string (st base),.string (st s)] w fun e w'=>e = .returned (.tuple #[.string (st (Mk.html base s)),.int .i64 0])∧Below w.heap.size w w':=by
 have HM:=Lib.hid (cl_Markup base s w hg hf hT)
 have h1 : ¬ 3000 < (st base).size:=by rw [st_size];omega
 have h2 : ¬ 3000 < (st s).size:=by have:=hf.len;rw [st_size];omega
 clear hf hT
 go_enter Tryz.func19,Tryz.ntmps19
 go_wp2_with fail
 refine HM.out.mono ?_
 rintro e w1 ⟨rfl,hb1⟩
 have B1:=Lib.hid hb1
 clear hb1 HM
 go_wp2_with fail
 go_ret2
 exact ⟨rfl,B1.out⟩
end Go.Proofs.YtjonkbdldebkiaaGreatDoor
