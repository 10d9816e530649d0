/- The statement that what a feed tells is right, proved. -/
import Derived.Test.YtjonkbdldebkiaaGreatDoorCards
import Derived.Test.YtjonkbdldebkiaaGreatDoorTie
import Derived.Test.YtjonkbdldebkiaaGreatDoorYWfL
import Derived.Test.YtjonkbdldebkiaaGreatDoorYRtClosed
import Derived.WalkKit
import Derived.ProofKit
import Derived.OpenShut
import Derived.ShutString
import Derived.ChangeOld
import Derived.Below
import Derived.WideKeyArgs
import Derived.LaidLaws
import Derived.LaidMore
import Derived.MakeChecks
import Derived.Shelf.Vars
import Derived.Deep.DeepHandedRow
import Derived.Deep.DeepWitnessRowRef
set_option linter.unusedVariables false
set_option linter.unusedSimpArgs false
set_option maxRecDepth 100000
namespace Go.Proofs.YtjonkbdldebkiaaGreatDoor.RightDone
open Go.ChangeShapes Go.WideShapes Go.ChangeAt Go.RowKit
open Go.ChangeMaps (open_string shut_string)

theorem own:ownKnob Tryz.prog.godebug=none := by kernel_rfl
theorem gES : Tryz.prog.globalNamed "strconv.ErrSyntax" = some 4 := by kernel_rfl
theorem tES:(Tryz.prog.globals[4]?).map (·.type)=some 147 := by kernel_rfl
theorem gl_of {W:World} (h:laidMetH Tryz.prog Rows.feedRightRow.laid W) (hsh:W.ShapedOpen Tryz.prog):Gl W := by
  rw[MakeChecks.laidMetH_plain _ _ _ (by kernel_rfl)] at h
  obtain⟨ps, hl, _, _⟩ := h
  obtain⟨_, _, _, _, _, _, _, _, _, _, hl, _⟩ := hl
  obtain⟨_, _, _, _, _, _, _, _, _, _, hl, _⟩ := hl
  obtain⟨_, _, _, _, _, _, _, _, _, _, hl, _⟩ := hl
  obtain⟨_, _, _, _, _, _, _, _, _, _, hl, _⟩ := hl
  obtain⟨g, t, cs, f, p, q, hg, ht, hv, hd, _, _⟩ := hl
  obtain rfl := Option.some.inj (gES.symm.trans hg)
  obtain rfl := Option.some.inj (tES.symm.trans ht)
  obtain⟨_, u, v, hcs, _, _⟩ := iface_of_trod Tryz.underlying147 hd
  have hcell := World.var?_cell hg hv 0
  rw[Array.eq_one_of_toList hcs] at hcell
  refine⟨?_, .iface u v, by simpa using hcell, .inr ⟨u, v, rfl⟩⟩
  exact Go.Proofs.cell_of_shapedOpen_int (zero := #[.int .i64 0]) (t := 3) hsh (of_decide_eq_true (by kernel_rfl)) (by kernel_rfl) rfl (by kernel_rfl) (by kernel_rfl) Tryz.underlying3

theorem contract (H:Type) (enc:TypeId × Value → H) (W:World) (base:Nat) (args:Array Value) (ds gs:List (DataW H)) (before:List MemPlace)
    (hval:∀ (j:Nat) t v, Tryz.f6.params[j]? = some t → args[j]? = some v → Value.okWide Tryz.prog W .any base t v)
    (hW:DataW.Whole enc Tryz.prog Tryz.f6.params.toList Rows.feedRightSpec.vars false W args.toList ds gs before) (hL:laidMetH Tryz.prog Rows.feedRightRow.laid W) (hsh:W.ShapedOpen Tryz.prog) :
    Calls Tryz.prog 6 args W fun e W' => ∃ v, e=.returned v ∧ Rows.feedRightSpec.post enc Tryz.prog Tryz.f6 false true false false W args v W' := by
  have hW' := hW
  obtain⟨p, q, hA0, hV, rfl, hfz, hnd⟩ := hW
  have hA:DataW.TrodAll enc Tryz.prog W 0 (fun _ => true) true Tryz.f6.params.toList args.toList ds p := hA0
  rw[Tryz.params6] at hA hval
  obtain⟨v0, vs0, d0, ds0, p0, q0, hargs, rfl, rfl, h0, r0⟩ := trodAll_cons hA
  obtain⟨v1, vs1, d1, ds1, p1, q1, rfl, rfl, rfl, h1, r1⟩ := trodAll_cons r0
  obtain⟨rfl, rfl, rfl⟩ := trodAll_nil r1
  obtain rfl:args = #[v0, v1] := by cases args; simp_all
  obtain⟨rfl, rfl⟩ := trodVars_none hV
  obtain⟨a0, rfl, rfl, rfl, w0⟩ := open_string Tryz.underlying9 (hval 0 9 v0 rfl rfl) h0
  obtain⟨a1, rfl, rfl, rfl, w1⟩ := open_string Tryz.underlying9 (hval 1 9 v1 rfl rfl) h1
  clear hA0
  refine(q7x a0.data.toList a1.data.toList W (gl_of hL hsh)).mono fun e W' ⟨he, bel⟩ => ?_
  subst he
  exact⟨_, rfl, _, _, _, [], _, [], hW', trodAll_mk1 (shut_bool Tryz.underlying4 _), (trodAll_cons_mk (shut_string Tryz.underlying9 w0) (trodAll_cons_mk (shut_string Tryz.underlying9 w1) trodAll_mk0)), rfl, bel.frame _, fun h => by cases h⟩

theorem laid_met (os:Os):laidMetH Tryz.prog Rows.feedRightRow.laid ((World.doorLaid Tryz.prog 62 os).forCall (fun _ _ => 0) ⟨#[], #[.string ByteArray.empty, .string ByteArray.empty], []⟩).memory :=
  laidMet_of_run' 8 (by kernel_rfl) (by kernel_rfl)
theorem reads (os:Os) {H:Type} (enc:TypeId × Value → H):∃ places, DataW.whole enc Tryz.prog ((World.doorLaid Tryz.prog 62 os).forCall (fun _ _ => 0) ⟨#[], #[.string ByteArray.empty, .string ByteArray.empty], []⟩).memory Tryz.f6.params.toList Rows.feedRightSpec.vars false #[Value.string ByteArray.empty, .string ByteArray.empty].toList 8=some ([.lit (.string []), .lit (.string [])], [], places) :=
  ⟨[], by kernel_rfl⟩

theorem lifted (os:Os) (started:os.Started) (H:Type) (enc:TypeId × Value → H) (F:Stop.Interp) :
    ReturnsInHanded {} Tryz.checked os 6 .any ((OpenSpec.ofChange Rows.feedRightSpec).preRow enc Tryz.prog Tryz.f6 Rows.feedRightRow.domain false Rows.feedRightRow.laid) (((OpenSpec.ofChange Rows.feedRightSpec).at F).post enc Tryz.prog Tryz.f6 false true false false) := by
  obtain⟨places, hx⟩ := reads os enc
  refine returnsInHanded_of_row (C := Tryz.checked) (s := OpenSpec.ofChange Rows.feedRightSpec) own started (by kernel_rfl) Tryz.func6
    (witness_row_atRef (enc := enc) (C := Tryz.checked) false (World.doorLaid Tryz.prog 62 os) #[.string ByteArray.empty, .string ByteArray.empty] rfl (by kernel_rfl) (by kernel_rfl) (by kernel_rfl)
      (OpenSpec.preRow_of_cond 8 hx (by kernel_rfl) (fun k hk => by cases hk) (by kernel_rfl) (laid_met os))) ?_
  intro W base args ds gs before hval hW _ _ _ hL hsh _
  exact contract H enc W base args ds gs before hval hW hL hsh

theorem said:Rows.FeedRightSaid :=
  OpenClaim.holds_of_cond 6 Tryz.f6 rfl rfl rfl rfl rfl rfl rfl ⟨rfl, rfl, rfl, rfl, rfl⟩ rfl rfl rfl rfl rfl (by kernel_rfl) Tryz.func6 closedF
    (of_decide_eq_true (by kernel_rfl)) (by unfold Func.isWrapper; first | (rw[if_pos (by decide +kernel)]; kernel_rfl) | (rw[if_neg (by decide +kernel)]; exact⟨rfl, rfl⟩))
    (fun os started H enc _ F => by rw[OpenClaim.pre_eq_preRow]; exact lifted os started H enc F)

theorem plain (f : FuncId) (fn : Func) (hf : Tryz.pinned.checked.prog.funcNamed "marginalia/marginalialaw.FeedRight" = some f) (hfn : Tryz.pinned.checked.prog.funcs[f]? = some fn) :
    true=Tryz.pinned.checked.prog.looks [] ∧ ∀ (j:Nat) t, fn.params[j]? = some t → Tryz.pinned.checked.prog.wantsStandIn t=false := by
  obtain rfl : f = 6 := Option.some.inj ((show Tryz.prog.funcNamed "marginalia/marginalialaw.FeedRight" = some 6 by kernel_rfl).symm.trans hf) |>.symm
  obtain rfl:fn=Tryz.f6 := (Option.some.inj (Tryz.func6.symm.trans hfn)).symm
  refine⟨by kernel_rfl, fun j t ht => ?_⟩
  rw[Tryz.params6] at ht
  match j, ht with
  | 0, ht => obtain rfl:t=9 := by simpa using ht.symm
             exact(show Tryz.prog.wantsStandIn 9=false by kernel_rfl)
  | 1, ht => obtain rfl:t=9 := by simpa using ht.symm
             exact(show Tryz.prog.wantsStandIn 9=false by kernel_rfl)
  | j + 2, ht => simp at ht

theorem proved:Rows.FeedRightCardSaid :=
  Claim7.holds_tied_plain_at .later [] _ _ _ _ said (fun _ h => by cases h) (by kernel_rfl) (fun _ h => by cases h) feedRight_row_tie rfl ⟨rfl, rfl⟩ (by kernel_rfl) rfl plain (by kernel_rfl)
#print axioms proved
end Go.Proofs.YtjonkbdldebkiaaGreatDoor.RightDone
