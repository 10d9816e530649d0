/- The statement that acts are steps, proved. -/
import Derived.Test.YtjonkbdldebkiaaGreatDoorCards
import Derived.Test.YtjonkbdldebkiaaGreatDoorTie
import Derived.Test.YtjonkbdldebkiaaGreatDoorYWkV
import Derived.Test.YtjonkbdldebkiaaGreatDoorYWaOpen
import Derived.Test.YtjonkbdldebkiaaGreatDoorYRuClosed
import Derived.WalkKit
import Derived.ProofKit
import Derived.OpenShut
import Derived.ShutString
import Derived.ChangeOld
import Derived.Below
import Derived.WideKeyArgs
import Derived.LaidLaws
import Derived.LaidMore
import Derived.MakeChecks
import Derived.Shelf.Vars
import Derived.Deep.DeepHandedRow
import Derived.Deep.DeepWitnessRowRef
set_option linter.unusedVariables false
set_option linter.unusedSimpArgs false
set_option maxRecDepth 100000
namespace Go.Proofs.YtjonkbdldebkiaaGreatDoor.RunsDone
open Go.Proofs.Tryz Go.ChangeShapes Go.WideShapes Go.ChangeAt Go.RowKit
open Go.ChangeMaps (open_string shut_string)

theorem own:ownKnob prog.godebug=none := by kernel_rfl
theorem gES : prog.globalNamed "strconv.ErrSyntax" = some 4 := by kernel_rfl
theorem tES:(prog.globals[4]?).map (·.type)=some 147 := by kernel_rfl
theorem gl_of {W:World} (h:laidMetH prog Rows.deskRunsRow.laid W) (hsh:W.ShapedOpen prog):Gl W := by
  rw[MakeChecks.laidMetH_plain _ _ _ (by kernel_rfl)] at h
  obtain⟨ps, hl, _, _⟩ := h
  obtain⟨_, _, _, _, _, _, _, _, _, _, hl, _⟩ := hl
  obtain⟨_, _, _, _, _, _, _, _, _, _, hl, _⟩ := hl
  obtain⟨_, _, _, _, _, _, _, _, _, _, hl, _⟩ := hl
  obtain⟨_, _, _, _, _, _, _, _, _, _, hl, _⟩ := hl
  obtain⟨g, t, cs, f, p, q, hg, ht, hv, hd, _, _⟩ := hl
  obtain rfl := Option.some.inj (gES.symm.trans hg)
  obtain rfl := Option.some.inj (tES.symm.trans ht)
  obtain⟨_, u, v, hcs, _, _⟩ := iface_of_trod underlying147 hd
  have hcell := World.var?_cell hg hv 0
  rw[Array.eq_one_of_toList hcs] at hcell
  refine⟨?_, .iface u v, by simpa using hcell, .inr ⟨u, v, rfl⟩⟩
  exact Go.Proofs.cell_of_shapedOpen_int (zero := #[.int .i64 0]) (t := 3) hsh (of_decide_eq_true (by kernel_rfl)) (by kernel_rfl) rfl (by kernel_rfl) (by kernel_rfl) underlying3

theorem contract (H:Type) (enc:TypeId × Value → H) (W:World) (base:Nat) (args:Array Value) (ds gs:List (DataW H)) (before:List MemPlace)
    (hval:∀ (j:Nat) t v, Tryz.f3.params[j]? = some t → args[j]? = some v → Value.okWide prog W .any base t v)
    (hW:DataW.Whole enc prog Tryz.f3.params.toList Rows.deskRunsSpec.vars false W args.toList ds gs before) (hL:laidMetH prog Rows.deskRunsRow.laid W) (hsh:W.ShapedOpen prog) :
    Calls prog 3 args W fun e W' => ∃ v, e=.returned v ∧ Rows.deskRunsSpec.post enc prog Tryz.f3 false true false false W args v W' := by
  have hW' := hW
  obtain⟨p, q, hA0, hV, rfl, hfz, hnd⟩ := hW
  have hA:DataW.TrodAll enc prog W 0 (fun _ => true) true Tryz.f3.params.toList args.toList ds p := hA0
  rw[params3] at hA hval
  obtain⟨v0, vs0, d0, ds0, p0, q0, hargs, rfl, rfl, h0, r0⟩ := trodAll_cons hA
  obtain⟨rfl, rfl, rfl⟩ := trodAll_nil r0
  obtain rfl:args = #[v0] := by cases args; simp_all
  obtain⟨rfl, rfl⟩ := trodVars_none hV
  obtain⟨aa, nn, cc, rfl⟩ := okWide_slice underlying22 (hval 0 22 v0 rfl rfl)
  obtain⟨fuel, hlf⟩ := h0
  obtain⟨l, hl⟩ := j6l (c := .slice aa nn cc) hlf
  clear hA0
  refine(q89 l (.slice aa nn cc) _ W (gl_of hL hsh) hl (fun b q => q)).mono fun e W' ⟨he, bel⟩ => ?_
  subst he
  refine⟨_, rfl, _, _, _, [], _, [], hW', trodAll_mk1 (shut_bool underlying4 _), (trodAll_cons_mk (Go.WideElems.Trod_stays (by kernel_rfl) (by kernel_rfl) (of_decide_eq_true (by kernel_rfl)) ⟨fuel, hlf⟩ (fun p hp => ?_) (fun p hp => ?_)) trodAll_mk0), rfl, bel.frame _, fun h => by cases h⟩
  · exact bel.same (DataW.trod_lt fuel _ _ _ hlf p hp)
  · exact decide_eq_true (DataW.trod_lt fuel _ _ _ hlf p hp)

theorem laid_met (os:Os):laidMetH prog Rows.deskRunsRow.laid ((World.doorLaid prog 62 os).forCall (fun _ _ => 0) ⟨#[], #[.slice none 0 0], []⟩).memory :=
  laidMet_of_run' 8 (by kernel_rfl) (by kernel_rfl)
theorem reads (os:Os) {H:Type} (enc:TypeId × Value → H):∃ places, DataW.whole enc prog ((World.doorLaid prog 62 os).forCall (fun _ _ => 0) ⟨#[], #[.slice none 0 0], []⟩).memory Tryz.f3.params.toList Rows.deskRunsSpec.vars false #[Value.slice none 0 0].toList 8=some ([.nil], [], places) :=
  ⟨[], by kernel_rfl⟩

theorem lifted (os:Os) (started:os.Started) (H:Type) (enc:TypeId × Value → H) (F:Stop.Interp) :
    ReturnsInHanded {} Tryz.checked os 3 .any ((OpenSpec.ofChange Rows.deskRunsSpec).preRow enc prog Tryz.f3 Rows.deskRunsRow.domain false Rows.deskRunsRow.laid) (((OpenSpec.ofChange Rows.deskRunsSpec).at F).post enc prog Tryz.f3 false true false false) := by
  obtain⟨places, hx⟩ := reads os enc
  refine returnsInHanded_of_row (C := Tryz.checked) (s := OpenSpec.ofChange Rows.deskRunsSpec) own started (by kernel_rfl) func3
    (witness_row_atRef (enc := enc) (C := Tryz.checked) false (World.doorLaid prog 62 os) #[.slice none 0 0] rfl (by kernel_rfl) (by kernel_rfl) (by kernel_rfl)
      (OpenSpec.preRow_of_cond 8 hx (by kernel_rfl) (fun k hk => by cases hk) (by kernel_rfl) (laid_met os))) ?_
  intro W base args ds gs before hval hW _ _ _ hL hsh _
  exact contract H enc W base args ds gs before hval hW hL hsh

theorem said:Rows.DeskRunsSaid :=
  OpenClaim.holds_of_cond 3 Tryz.f3 rfl rfl rfl rfl rfl rfl rfl ⟨rfl, rfl, rfl, rfl, rfl⟩ rfl rfl rfl rfl rfl (by kernel_rfl) func3 closedF
    (of_decide_eq_true (by kernel_rfl)) (by unfold Func.isWrapper; first | (rw[if_pos (by decide +kernel)]; kernel_rfl) | (rw[if_neg (by decide +kernel)]; exact⟨rfl, rfl⟩))
    (fun os started H enc _ F => by rw[OpenClaim.pre_eq_preRow]; exact lifted os started H enc F)

theorem plain (f : FuncId) (fn : Func) (hf : Tryz.pinned.checked.prog.funcNamed "marginalia/marginalialaw.DeskRuns" = some f) (hfn : Tryz.pinned.checked.prog.funcs[f]? = some fn) :
    true=Tryz.pinned.checked.prog.looks [] ∧ ∀ (j:Nat) t, fn.params[j]? = some t → Tryz.pinned.checked.prog.wantsStandIn t=false := by
  obtain rfl : f = 3 := Option.some.inj ((show prog.funcNamed "marginalia/marginalialaw.DeskRuns" = some 3 by kernel_rfl).symm.trans hf) |>.symm
  obtain rfl:fn=Tryz.f3 := (Option.some.inj (func3.symm.trans hfn)).symm
  refine⟨by kernel_rfl, fun j t ht => ?_⟩
  rw[params3] at ht
  match j, ht with
  | 0, ht => obtain rfl:t=22 := by simpa using ht.symm
             exact(show prog.wantsStandIn 22=false by kernel_rfl)
  | j + 1, ht => simp at ht

theorem proved:Rows.DeskRunsCardSaid :=
  Claim7.holds_tied_plain_at .later [] _ _ _ _ said (fun _ h => by cases h) (by kernel_rfl) (fun _ h => by cases h) deskRuns_row_tie rfl ⟨rfl, rfl⟩ (by kernel_rfl) rfl plain (by kernel_rfl)
#print axioms proved
end Go.Proofs.YtjonkbdldebkiaaGreatDoor.RunsDone
