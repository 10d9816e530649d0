/- The statement that a page is clean, proved, where what comes in is of bulk at most 1048576. -/
import Derived.Test.YtjonkbdldebkiaaGreatDoorCards
import Derived.Test.YtjonkbdldebkiaaGreatDoorTie
import Derived.Test.YtjonkbdldebkiaaGreatDoorYMkBegunD
import Derived.Test.YtjonkbdldebkiaaGreatDoorYWeOpen
import Derived.Test.YtjonkbdldebkiaaGreatDoorYRpClosed
import Derived.WalkKit
import Derived.ProofKit
import Derived.OpenShut
import Derived.ShutString
import Derived.ChangeOld
import Derived.Below
import Derived.WideKeyArgs
import Derived.LaidLaws
import Derived.LaidMore
import Derived.MakeChecks
import Derived.Shelf.Vars
import Derived.Lib.SmallJoins
import Derived.Lib.LaidTab
import Derived.Deep.DeepHandedRow
import Derived.Deep.DeepWitnessRowRef
set_option linter.unusedVariables false
set_option linter.unusedSimpArgs false
namespace Go.Proofs.YtjonkbdldebkiaaGreatDoor.ReportDone
open Go.ChangeShapes Go.WideShapes Go.ChangeAt Go.RowKit
open Go.ChangeMaps (open_string shut_string)
open Go.Joins (open_agg2)
set_option linter.unusedVariables false

theorem own : ownKnob Tryz.prog.godebug = none := by kernel_rfl
theorem gES : Tryz.prog.globalNamed "strconv.ErrSyntax" = some 4 := by kernel_rfl
theorem tES : (Tryz.prog.globals[4]?).map (·.type) = some 147 := by kernel_rfl
theorem gPW : Tryz.prog.globalNamed "internal/strconv.uint64pow10" = some 1 := by kernel_rfl
theorem tPW : (Tryz.prog.globals[1]?).map (·.type) = some 310 := by kernel_rfl
/-- what the row's list and the world's shape give the walk. -/
theorem gp_of {W : World} (h : laidMetH Tryz.prog Rows.reportCleanUptoRow.laid W) (hsh : W.ShapedOpen Tryz.prog) : Gl W ∧ Pow W := by
  rw [MakeChecks.laidMetH_plain _ _ _ (by kernel_rfl)] at h
  obtain ⟨ps, hl, _, _⟩ := h
  obtain ⟨_, _, _, _, _, _, _, _, _, _, hl, _⟩ := hl
  obtain ⟨_, _, _, _, _, _, _, _, _, _, hl, _⟩ := hl
  obtain ⟨g3, t3, cs3, f3, p3, q3, hg3, ht3, hv3, hd3, hl, _⟩ := hl
  obtain ⟨_, _, _, _, _, _, _, _, _, _, hl, _⟩ := hl
  obtain ⟨g, t, cs, f, p, q, hg, ht, hv, hd, _, _⟩ := hl
  refine ⟨?_, ?_⟩
  · obtain rfl := Option.some.inj (gES.symm.trans hg)
    obtain rfl := Option.some.inj (tES.symm.trans ht)
    obtain ⟨_, u, v, hcs, _, _⟩ := iface_of_trod Tryz.underlying147 hd
    have hcell := World.var?_cell hg hv 0
    rw [Array.eq_one_of_toList hcs] at hcell
    refine ⟨?_, .iface u v, by simpa using hcell, .inr ⟨u, v, rfl⟩⟩
    exact Go.Proofs.cell_of_shapedOpen_int (zero := #[.int .i64 0]) (t := 3) hsh (of_decide_eq_true (by kernel_rfl)) (by kernel_rfl) rfl (by kernel_rfl) (by kernel_rfl) Tryz.underlying3
  · obtain rfl := Option.some.inj (gPW.symm.trans hg3)
    obtain rfl := Option.some.inj (tPW.symm.trans ht3)
    unfold Pow Lib.TabIs
    rw [hv3, ← Lib.cells_of_tab (zs := Lib.pow10Tab) (k := .u64) (e := 296) (n := 20) Tryz.underlying310 Tryz.underlying296 (by kernel_rfl) (by kernel_rfl) hd3]
theorem ent_mem {x : Fd.En} : ∀ {l : List Fd.En}, x ∈ l → enB x ≤ entB l
  | y :: l, h => by
    have e : entB (y :: l) = enB y + entB l := rfl
    rw [e]
    rcases List.mem_cons.1 h with rfl | q
    · omega
    · have := ent_mem q
      omega
theorem cshelf : Tryz.prog.cellsOf 26 = 2 := by kernel_rfl
set_option maxRecDepth 100000 in
theorem contract (H : Type) (enc : TypeId × Value → H) (W : World) (base : Nat) (args : Array Value) (ds gs : List (DataW H)) (before : List MemPlace)
    (hval : ∀ (j : Nat) t v, Tryz.f4.params[j]? = some t → args[j]? = some v → Value.okWide Tryz.prog W .any base t v)
    (hW : DataW.Whole enc Tryz.prog Tryz.f4.params.toList Rows.reportCleanSpec.vars false W args.toList ds gs before) (hk : Rows.uptoSmall H (ds ++ gs) = true) (hL : laidMetH Tryz.prog Rows.reportCleanUptoRow.laid W) (hsh : W.ShapedOpen Tryz.prog) :
    Calls Tryz.prog 4 args W fun e W' => ∃ v, e = .returned v ∧ Rows.reportCleanSpec.post enc Tryz.prog Tryz.f4 false true false false W args v W' := by
  have hW' := hW
  obtain ⟨p, q, hA0, hV, rfl, hfz, hnd⟩ := hW
  have hA : DataW.TrodAll enc Tryz.prog W 0 (fun _ => true) true Tryz.f4.params.toList args.toList ds p := hA0
  rw [Tryz.params4] at hA hval
  obtain ⟨v0, vs0, d0, ds0, p0, q0, hargs, rfl, rfl, h0, r0⟩ := trodAll_cons hA
  obtain ⟨rfl, rfl, rfl⟩ := trodAll_nil r0
  obtain rfl : args = #[v0] := by cases args; simp_all
  obtain ⟨rfl, rfl⟩ := trodVars_none hV
  have h0' := h0
  obtain ⟨ve, vr, ye, yr, m, rfl, rfl, rfl, he, hr⟩ := open_agg2 Tryz.underlying26 (by kernel_rfl) cshelf (hval 0 26 v0 rfl rfl) h0
  obtain ⟨fuel, hlf⟩ := h0'
  obtain ⟨es, hes, heb, _⟩ := open_ents he
  obtain ⟨rd, hrd, hrb⟩ := open_strs hr
  have hb := of_decide_eq_true hk
  simp only [List.cons_append, List.nil_append, List.append_nil, Rows.uptoBulkAll, Rows.uptoBulk] at hb
  clear hA0 hk
  have heb2 : entB es ≤ Rows.uptoBulk ye.1 := heb
  have hid : ∀ x ∈ es, x.id.length ≤ 1048576 := by
    intro x hx
    have h1 : enB x ≤ entB es := ent_mem hx
    have h2 : x.id.length ≤ enB x := by unfold enB; omega
    omega
  refine (lw_ReportClean ⟨es, rd⟩ ve vr _ W (gp_of hL hsh).1 (gp_of hL hsh).2 hes hrd (fun b q => q) hid).mono fun e W' ⟨he, bel⟩ => ?_
  subst he
  refine ⟨_, rfl, _, _, _, [], _, [], hW', trodAll_mk1 (shut_bool Tryz.underlying4 _), (trodAll_cons_mk (Go.WideElems.Trod_stays (by kernel_rfl) (by kernel_rfl) (of_decide_eq_true (by kernel_rfl)) ⟨fuel, hlf⟩ (fun p hp => ?_) (fun p hp => ?_)) trodAll_mk0), rfl, bel.frame _, fun h => by cases h⟩
  · exact bel.same (DataW.trod_lt fuel _ _ _ hlf p hp)
  · exact decide_eq_true (DataW.trod_lt fuel _ _ _ hlf p hp)

/-- A world for the witness: what the program's own text lays. -/
theorem laid_met (os : Os) : laidMetH Tryz.prog Rows.reportCleanUptoRow.laid ((World.doorLaid Tryz.prog 62 os).forCall (fun _ _ => 0) ⟨#[], #[.agg #[.slice none 0 0, .slice none 0 0]], []⟩).memory :=
  laidMet_of_run' 8 (by kernel_rfl) (by kernel_rfl)
theorem reads (os : Os) {H : Type} (enc : TypeId × Value → H) : ∃ places, DataW.whole enc Tryz.prog ((World.doorLaid Tryz.prog 62 os).forCall (fun _ _ => 0) ⟨#[], #[.agg #[.slice none 0 0, .slice none 0 0]], []⟩).memory Tryz.f4.params.toList Rows.reportCleanSpec.vars false #[Value.agg #[.slice none 0 0, .slice none 0 0]].toList 8 = some ([.agg [.nil, .nil]], [], places) :=
  ⟨[], by kernel_rfl⟩

set_option maxRecDepth 100000 in
theorem liftedUpto (os : Os) (started : os.Started) (H : Type) (enc : TypeId × Value → H) (F : Stop.Interp) :
    ReturnsInHanded {} Tryz.checked os 4 .any ((Rows.OpenSpec.upto Rows.reportCleanSpec).preRow enc Tryz.prog Tryz.f4 Rows.reportCleanUptoRow.domain false Rows.reportCleanUptoRow.laid) (((Rows.OpenSpec.upto Rows.reportCleanSpec).at F).post enc Tryz.prog Tryz.f4 false true false false) := by
  obtain ⟨places, hx⟩ := reads os enc
  refine returnsInHanded_of_row (C := Tryz.checked) (s := Rows.OpenSpec.upto Rows.reportCleanSpec) own started (by kernel_rfl) Tryz.func4
    (witness_row_atRef (enc := enc) (C := Tryz.checked) false (World.doorLaid Tryz.prog 62 os) #[.agg #[.slice none 0 0, .slice none 0 0]] rfl (by kernel_rfl) (by kernel_rfl) (by kernel_rfl)
      (OpenSpec.preRow_of_cond 8 hx (by kernel_rfl) (fun k hk => by cases hk; kernel_rfl) (by kernel_rfl) (laid_met os))) ?_
  intro W base args ds gs before hval hW _ hcond _ hL hsh _
  exact contract H enc W base args ds gs before hval hW (hcond _ rfl) hL hsh

theorem saidUpto : Rows.ReportCleanUptoSaid :=
  OpenClaim.holds_of_cond 4 Tryz.f4 rfl rfl rfl rfl rfl rfl rfl ⟨rfl, rfl, rfl, rfl, rfl⟩ rfl rfl rfl rfl rfl (by kernel_rfl) Tryz.func4 closedF
    (of_decide_eq_true (by kernel_rfl)) (by unfold Func.isWrapper; first | (rw [if_pos (by decide +kernel)]; kernel_rfl) | (rw [if_neg (by decide +kernel)]; exact ⟨rfl, rfl⟩))
    (fun os started H enc _ F => by rw [OpenClaim.pre_eq_preRow]; exact liftedUpto os started H enc F)

/-- No parameter wants a stand-in. -/
theorem plain (f : FuncId) (fn : Func) (hf : Tryz.pinned.checked.prog.funcNamed "marginalia/marginalialaw.ReportClean" = some f) (hfn : Tryz.pinned.checked.prog.funcs[f]? = some fn) :
    true = Tryz.pinned.checked.prog.looks [] ∧ ∀ (j : Nat) t, fn.params[j]? = some t → Tryz.pinned.checked.prog.wantsStandIn t = false := by
  obtain rfl : f = 4 := Option.some.inj ((show Tryz.prog.funcNamed "marginalia/marginalialaw.ReportClean" = some 4 by kernel_rfl).symm.trans hf) |>.symm
  obtain rfl : fn = Tryz.f4 := (Option.some.inj (Tryz.func4.symm.trans hfn)).symm
  refine ⟨by kernel_rfl, fun j t ht => ?_⟩
  rw [Tryz.params4] at ht
  match j, ht with
  | 0, ht => obtain rfl : t = 26 := by simpa using ht.symm
             exact (show Tryz.prog.wantsStandIn 26 = false by kernel_rfl)
  | j + 1, ht => simp at ht

theorem proved : Rows.ReportCleanUptoCardSaid :=
  Claim7.holds_tied_plain_at .later [] _ _ _ _ saidUpto (fun _ h => by cases h) (by kernel_rfl) (fun _ h => by cases h) reportCleanUpto_row_tie rfl ⟨rfl, rfl⟩ (by kernel_rfl) rfl plain (by kernel_rfl)
#print axioms proved
end Go.Proofs.YtjonkbdldebkiaaGreatDoor.ReportDone
