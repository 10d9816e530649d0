/- The statement that trees and tokens that came, and were changed, change nothing that was handed in, nor what comes next, proved, where what comes in is of bulk at most 1048576. -/
import Derived.Test.YtagleefekmdldaaGreatDoorCards
import Derived.Test.YtagleefekmdldaaGreatDoorTie
import Derived.Test.YtagleefekmdldaaGreatDoorYRsL
import Derived.Test.YtagleefekmdldaaGreatDoorYMkOpen
import Derived.Test.YtagleefekmdldaaGreatDoorYRsClosed
import Derived.WalkKit
import Derived.ProofKit
import Derived.OpenShut
import Derived.ShutString
import Derived.ChangeOld
import Derived.Below
import Derived.WideKeyArgs
import Derived.LaidLaws
import Derived.LaidMore
import Derived.MakeChecks
import Derived.Shelf.Vars
import Derived.Deep.DeepHandedRow
import Derived.Deep.DeepWitnessRowRef
set_option linter.unusedVariables false
set_option linter.unusedSimpArgs false
set_option maxRecDepth 100000
namespace Go.Proofs.YtagleefekmdldaaGreatDoor.TreesDone
open Go.Proofs.Tryz Go.ChangeShapes Go.WideShapes Go.ChangeAt Go.RowKit
open Go.ChangeMaps (open_string shut_string)

theorem own:ownKnob prog.godebug=none := by kernel_rfl
theorem gES : prog.globalNamed "strconv.ErrSyntax" = some 1 := by kernel_rfl
theorem tES:(prog.globals[1]?).map (·.type)=some 112 := by kernel_rfl
theorem gl_of {W:World} (h:laidMetH prog Rows.restTreesUptoRow.laid W) (hsh:W.ShapedOpen prog):Gl W := by
  rw[MakeChecks.laidMetH_plain _ _ _ (by kernel_rfl)] at h
  obtain⟨ps, hl, _, _⟩ := h
  obtain⟨_, _, _, _, _, _, _, _, _, _, hl, _⟩ := hl
  obtain⟨_, _, _, _, _, _, _, _, _, _, hl, _⟩ := hl
  obtain⟨_, _, _, _, _, _, _, _, _, _, hl, _⟩ := hl
  obtain⟨_, _, _, _, _, _, _, _, _, _, hl, _⟩ := hl
  obtain⟨g, t, cs, f, p, q, hg, ht, hv, hd, _, _⟩ := hl
  obtain rfl := Option.some.inj (gES.symm.trans hg)
  obtain rfl := Option.some.inj (tES.symm.trans ht)
  obtain⟨_, u, v, hcs, _, _⟩ := iface_of_trod underlying112 hd
  have hcell := World.var?_cell hg hv 0
  rw[Array.eq_one_of_toList hcs] at hcell
  refine⟨?_, .iface u v, by simpa using hcell, .inr ⟨u, v, rfl⟩⟩
  exact Go.Proofs.cell_of_shapedOpen_int (zero := #[.int .i64 0]) (t := 3) hsh (of_decide_eq_true (by kernel_rfl)) (by kernel_rfl) rfl (by kernel_rfl) (by kernel_rfl) underlying3

theorem contract (H:Type) (enc:TypeId × Value → H) (W:World) (base:Nat) (args:Array Value) (ds gs:List (DataW H)) (before:List MemPlace)
    (hval:∀ (j:Nat) t v, Tryz.f3.params[j]? = some t → args[j]? = some v → Value.okWide prog W .any base t v)
    (hW:DataW.Whole enc prog Tryz.f3.params.toList Rows.restTreesSpec.vars false W args.toList ds gs before) (hk:Rows.uptoSmall H (ds ++ gs)=true) (hL:laidMetH prog Rows.restTreesUptoRow.laid W) (hsh:W.ShapedOpen prog) :
    Calls prog 3 args W fun e W' => ∃ v, e=.returned v ∧ Rows.restTreesSpec.post enc prog Tryz.f3 false true false false W args v W' := by
  have hW' := hW
  obtain⟨p, q, hA0, hV, rfl, hfz, hnd⟩ := hW
  have hA:DataW.TrodAll enc prog W 0 (fun _ => true) true Tryz.f3.params.toList args.toList ds p := hA0
  rw[params3] at hA hval
  obtain⟨v0, vs0, d0, ds0, p0, q0, hargs, rfl, rfl, h0, r0⟩ := trodAll_cons hA
  obtain⟨v1, vs1, d1, ds1, p1, q1, rfl, rfl, rfl, h1, r1⟩ := trodAll_cons r0
  obtain⟨v2, vs2, d2, ds2, p2, q2, rfl, rfl, rfl, h2, r2⟩ := trodAll_cons r1
  obtain⟨rfl, rfl, rfl⟩ := trodAll_nil r2
  obtain rfl:args = #[v0, v1, v2] := by cases args; simp_all
  obtain⟨rfl, rfl⟩ := trodVars_none hV
  obtain⟨a0, rfl, rfl, rfl, w0⟩ := open_string underlying9 (hval 0 9 v0 rfl rfl) h0
  obtain⟨a1, rfl, rfl, rfl, w1⟩ := open_string underlying9 (hval 1 9 v1 rfl rfl) h1
  have h2' := h2
  obtain⟨fuel, hf⟩ := h2
  have hlf := hf
  have hv2:v2.cells.toList=[v2] := by
    obtain⟨a, len, cap, hq⟩ := okWide_slice underlying22 (hval 2 22 v2 rfl rfl)
    rw[hq]
    rfl
  rw[hv2] at hf
  obtain⟨f, hfo, hfb⟩ := j1y fuel v2 (d2, p2) hf (fun a b ha => hfz a b (by simpa using ha))
  have hb := of_decide_eq_true hk
  simp only [List.cons_append, List.nil_append, List.append_nil, Rows.uptoBulkAll, Rows.uptoBulk] at hb
  clear hA0 hk
  have hfb:f.bulk ≤ Rows.uptoBulk d2 := hfb
  refine(q5v a0.data.toList a1.data.toList f v2 _ W (gl_of hL hsh) (by omega) hfo (fun b q => q)).mono fun e W' ⟨he, bel⟩ => ?_
  subst he
  refine⟨_, rfl, _, _, _, [], _, [], hW', trodAll_mk1 (shut_bool underlying4 _), (trodAll_cons_mk (shut_string underlying9 w0) (trodAll_cons_mk (shut_string underlying9 w1) (trodAll_cons_mk (Go.WideElems.Trod_stays (by kernel_rfl) (by kernel_rfl) (of_decide_eq_true (by kernel_rfl)) h2' (fun p hp => ?_) (fun p hp => ?_)) trodAll_mk0))), rfl, bel.frame _, fun h => by cases h⟩
  · exact bel.same (DataW.trod_lt fuel _ _ _ hlf p hp)
  · exact decide_eq_true (DataW.trod_lt fuel _ _ _ hlf p hp)

theorem laid_met (os:Os):laidMetH prog Rows.restTreesUptoRow.laid ((World.doorLaid prog 62 os).forCall (fun _ _ => 0) ⟨#[], #[.string ByteArray.empty, .string ByteArray.empty, .slice none 0 0], []⟩).memory :=
  laidMet_of_run' 8 (by kernel_rfl) (by kernel_rfl)
theorem reads (os:Os) {H:Type} (enc:TypeId × Value → H):∃ places, DataW.whole enc prog ((World.doorLaid prog 62 os).forCall (fun _ _ => 0) ⟨#[], #[.string ByteArray.empty, .string ByteArray.empty, .slice none 0 0], []⟩).memory Tryz.f3.params.toList Rows.restTreesSpec.vars false #[Value.string ByteArray.empty, .string ByteArray.empty, .slice none 0 0].toList 8=some ([.lit (.string []), .lit (.string []), .nil], [], places) :=
  ⟨[], by kernel_rfl⟩

theorem j1s (os:Os) (started:os.Started) (H:Type) (enc:TypeId × Value → H) (F:Stop.Interp) :
    ReturnsInHanded {} Tryz.checked os 3 .any ((Rows.OpenSpec.upto Rows.restTreesSpec).preRow enc prog Tryz.f3 Rows.restTreesUptoRow.domain false Rows.restTreesUptoRow.laid) (((Rows.OpenSpec.upto Rows.restTreesSpec).at F).post enc prog Tryz.f3 false true false false) := by
  obtain⟨places, hx⟩ := reads os enc
  refine returnsInHanded_of_row (C := Tryz.checked) (s := Rows.OpenSpec.upto Rows.restTreesSpec) own started (by kernel_rfl) func3
    (witness_row_atRef (enc := enc) (C := Tryz.checked) false (World.doorLaid prog 62 os) #[.string ByteArray.empty, .string ByteArray.empty, .slice none 0 0] rfl (by kernel_rfl) (by kernel_rfl) (by kernel_rfl)
      (OpenSpec.preRow_of_cond 8 hx (by kernel_rfl) (fun k hk => by cases hk; kernel_rfl) (by kernel_rfl) (laid_met os))) ?_
  intro W base args ds gs before hval hW _ hcond _ hL hsh _
  exact contract H enc W base args ds gs before hval hW (hcond _ rfl) hL hsh

theorem saidUpto:Rows.RestTreesUptoSaid :=
  OpenClaim.holds_of_cond 3 Tryz.f3 rfl rfl rfl rfl rfl rfl rfl ⟨rfl, rfl, rfl, rfl, rfl⟩ rfl rfl rfl rfl rfl (by kernel_rfl) func3 closedF
    (of_decide_eq_true (by kernel_rfl)) (by unfold Func.isWrapper; first | (rw[if_pos (by decide +kernel)]; kernel_rfl) | (rw[if_neg (by decide +kernel)]; exact⟨rfl, rfl⟩))
    (fun os started H enc _ F => by rw[OpenClaim.pre_eq_preRow]; exact j1s os started H enc F)

theorem plain (f : FuncId) (fn : Func) (hf : Tryz.pinned.checked.prog.funcNamed "marginalia/marginalialaw.RestTrees" = some f) (hfn : Tryz.pinned.checked.prog.funcs[f]? = some fn) :
    true=Tryz.pinned.checked.prog.looks [] ∧ ∀ (j:Nat) t, fn.params[j]? = some t → Tryz.pinned.checked.prog.wantsStandIn t=false := by
  obtain rfl : f = 3 := Option.some.inj ((show prog.funcNamed "marginalia/marginalialaw.RestTrees" = some 3 by kernel_rfl).symm.trans hf) |>.symm
  obtain rfl:fn=Tryz.f3 := (Option.some.inj (func3.symm.trans hfn)).symm
  refine⟨by kernel_rfl, fun j t ht => ?_⟩
  rw[params3] at ht
  match j, ht with
  | 0, ht => obtain rfl:t=9 := by simpa using ht.symm
             exact(show prog.wantsStandIn 9=false by kernel_rfl)
  | 1, ht => obtain rfl:t=9 := by simpa using ht.symm
             exact(show prog.wantsStandIn 9=false by kernel_rfl)
  | 2, ht => obtain rfl:t=22 := by simpa using ht.symm
             exact(show prog.wantsStandIn 22=false by kernel_rfl)
  | j + 3, ht => simp at ht

theorem proved:Rows.RestTreesUptoCardSaid :=
  Claim7.holds_tied_plain_at .later [] _ _ _ _ saidUpto (fun _ h => by cases h) (by kernel_rfl) (fun _ h => by cases h) restTreesUpto_row_tie rfl ⟨rfl, rfl⟩ (by kernel_rfl) rfl plain (by kernel_rfl)
#print axioms proved
end Go.Proofs.YtagleefekmdldaaGreatDoor.TreesDone
