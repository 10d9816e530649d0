/- The statement that a feed that is written of an entry tells that entry, proved. -/
import Derived.Test.YtjonkbdldebkiaaGreatDoorCards
import Derived.Test.YtjonkbdldebkiaaGreatDoorTie
import Derived.Test.YtjonkbdldebkiaaGreatDoorVWpI
import Derived.Test.YtjonkbdldebkiaaGreatDoorVMdClosed
import Derived.WalkKit
import Derived.ProofKit
import Derived.OpenShut
import Derived.ShutString
import Derived.ChangeOld
import Derived.Below
import Derived.WideKeyArgs
import Derived.LaidLaws
import Derived.LaidMore
import Derived.MakeChecks
import Derived.Shelf.Vars
import Derived.Lib.SmallJoins
import Derived.Lib.LaidTab
import Derived.Deep.DeepHandedRow
import Derived.Deep.DeepWitnessRowRef
set_option linter.unusedVariables false
set_option linter.unusedSimpArgs false
set_option maxRecDepth 100000
namespace Go.Proofs.YtjonkbdldebkiaaGreatDoor.MadeDone
open Go.Proofs.Tryz Go.ChangeShapes Go.WideShapes Go.ChangeAt Go.RowKit Go.Joins Go.Deep
open Go.ChangeMaps (open_string shut_string)

theorem own:ownKnob prog.godebug=none := by kernel_rfl
theorem gES : prog.globalNamed "strconv.ErrSyntax" = some 4 := by kernel_rfl
theorem tES:(prog.globals[4]?).map (·.type)=some 147 := by kernel_rfl
theorem gPW : prog.globalNamed "internal/strconv.uint64pow10" = some 1 := by kernel_rfl
theorem tPW:(prog.globals[1]?).map (·.type)=some 310 := by kernel_rfl
theorem gp_of {W:World} (h:laidMetH prog Rows.feedMadeRow.laid W) (hsh:W.ShapedOpen prog):Gl W ∧ Pow W := by
  rw[MakeChecks.laidMetH_plain _ _ _ (by kernel_rfl)] at h
  obtain⟨ps, hl, _, _⟩ := h
  obtain⟨_, _, _, _, _, _, _, _, _, _, hl, _⟩ := hl
  obtain⟨_, _, _, _, _, _, _, _, _, _, hl, _⟩ := hl
  obtain⟨g3, t3, cs3, f3, p3, q3, hg3, ht3, hv3, hd3, hl, _⟩ := hl
  obtain⟨_, _, _, _, _, _, _, _, _, _, hl, _⟩ := hl
  obtain⟨g, t, cs, f, p, q, hg, ht, hv, hd, _, _⟩ := hl
  refine⟨?_, ?_⟩
  · obtain rfl := Option.some.inj (gES.symm.trans hg)
    obtain rfl := Option.some.inj (tES.symm.trans ht)
    obtain⟨_, u, v, hcs, _, _⟩ := iface_of_trod underlying147 hd
    have hcell := World.var?_cell hg hv 0
    rw[Array.eq_one_of_toList hcs] at hcell
    refine⟨?_, .iface u v, by simpa using hcell, .inr ⟨u, v, rfl⟩⟩
    exact Go.Proofs.cell_of_shapedOpen_int (zero := #[.int .i64 0]) (t := 3) hsh (of_decide_eq_true (by kernel_rfl)) (by kernel_rfl) rfl (by kernel_rfl) (by kernel_rfl) underlying3
  · obtain rfl := Option.some.inj (gPW.symm.trans hg3)
    obtain rfl := Option.some.inj (tPW.symm.trans ht3)
    unfold Pow Lib.TabIs
    rw[hv3, ← Lib.cells_of_tab (zs := Lib.pow10Tab) (k := .u64) (e := 296) (n := 20) underlying310 underlying296 (by kernel_rfl) (by kernel_rfl) hd3]
section
variable {H : Type} {enc : TypeId × Value → H} {P : Program} {w : World} {base : Nat} {spare : Nat → Bool} {held : Bool}
theorem j7d {r:Reach} {b0:Nat} {t:TypeId} {f0 f1 f2 f3 f4:Field} {v:Value} {d:DataW H} {p:List MemPlace} (hs:P.underlying t=some (.struct #[f0, f1, f2, f3, f4])) (hone:oneCellFields P #[f0, f1, f2, f3, f4]=true) (hC:P.cellsOf t=5)
    (hv:Value.okWide P w r b0 t v) (h:DataW.Trod enc P w base spare held t v d p) :
    ∃ (v0 v1 v2 v3 v4:Value) (y0 y1 y2 y3 y4:DataW H × List MemPlace) (n:Nat), v=.agg #[v0, v1, v2, v3, v4] ∧ d=.agg [y0.1, y1.1, y2.1, y3.1, y4.1] ∧ p=y0.2 ++ (y1.2 ++ (y2.2 ++ (y3.2 ++ y4.2))) ∧
      DataW.trod enc P w base spare held n f0.type [v0]=some y0 ∧ DataW.trod enc P w base spare held n f1.type [v1]=some y1 ∧ DataW.trod enc P w base spare held n f2.type [v2]=some y2 ∧ DataW.trod enc P w base spare held n f3.type [v3]=some y3 ∧ DataW.trod enc P w base spare held n f4.type [v4]=some y4 := by
  obtain⟨cs, rfl, hsz⟩ := okWide_struct hs hv
  obtain⟨l⟩ := cs
  match l, hsz.trans hC with
  | [c0, c1, c2, c3, c4], _ =>
    obtain⟨fuel, hf⟩ := h
    obtain⟨xs, n, _, hx, _, hlen, hg⟩ := DataW.trod_struct hs hf
    obtain⟨o0, k0⟩ := hone_of hone 0 f0 rfl
    obtain⟨o1, k1⟩ := hone_of hone 1 f1 rfl
    obtain⟨o2, k2⟩ := hone_of hone 2 f2 rfl
    obtain⟨o3, k3⟩ := hone_of hone 3 f3 rfl
    obtain⟨o4, k4⟩ := hone_of hone 4 f4 rfl
    match xs, hlen with
    | [y0, y1, y2, y3, y4], _ =>
      simp only [Prod.mk.injEq] at hx
      exact⟨c0, c1, c2, c3, c4, y0, y1, y2, y3, y4, n, rfl, by simpa using hx.1, by simpa using hx.2, by simpa [Value.cells, o0, k0] using hg 0 f0 rfl, by simpa [Value.cells, o1, k1] using hg 1 f1 rfl, by simpa [Value.cells, o2, k2] using hg 2 f2 rfl, by simpa [Value.cells, o3, k3] using hg 3 f3 rfl, by simpa [Value.cells, o4, k4] using hg 4 f4 rfl⟩
end
theorem cent:prog.cellsOf 44=5 := by kernel_rfl
theorem contract (H:Type) (enc:TypeId × Value → H) (W:World) (base:Nat) (args:Array Value) (ds gs:List (DataW H)) (before:List MemPlace)
    (hval:∀ (j:Nat) t v, Tryz.f5.params[j]? = some t → args[j]? = some v → Value.okWide prog W .any base t v)
    (hW:DataW.Whole enc prog Tryz.f5.params.toList Rows.feedMadeSpec.vars false W args.toList ds gs before) (hL:laidMetH prog Rows.feedMadeRow.laid W) (hsh:W.ShapedOpen prog) :
    Calls prog 5 args W fun e W' => ∃ v, e=.returned v ∧ Rows.feedMadeSpec.post enc prog Tryz.f5 false true false false W args v W' := by
  have hW' := hW
  obtain⟨p, q, hA0, hV, rfl, hfz, hnd⟩ := hW
  have hA:DataW.TrodAll enc prog W 0 (fun _ => true) true Tryz.f5.params.toList args.toList ds p := hA0
  rw[params5] at hA hval
  obtain⟨v0, vs0, d0, ds0, p0, q0, hargs, rfl, rfl, h0, r0⟩ := trodAll_cons hA
  obtain⟨rfl, rfl, rfl⟩ := trodAll_nil r0
  obtain rfl:args = #[v0] := by cases args; simp_all
  obtain⟨rfl, rfl⟩ := trodVars_none hV
  have h0' := h0
  obtain⟨x0, x1, x2, x3, x4, y0, y1, y2, y3, y4, m, rfl, rfl, rfl, t0, t1, t2, t3, t4⟩ := j7d underlying44 (by kernel_rfl) cent (hval 0 44 v0 rfl rfl) h0
  obtain⟨s0, e0, rfl, _⟩ := DataW.trod_string underlying9 t0
  obtain⟨s1, e1, rfl, _⟩ := DataW.trod_string underlying9 t1
  obtain⟨s2, e2, rfl, _⟩ := DataW.trod_string underlying9 t2
  obtain⟨s3, e3, rfl, _⟩ := DataW.trod_int underlying3 t3
  obtain⟨s4, e4, rfl, _⟩ := DataW.trod_string underlying9 t4
  injection e0 with e0
  injection e1 with e1
  injection e2 with e2
  injection e3 with e3
  injection e4 with e4
  subst e0; subst e1; subst e2; subst e3; subst e4
  obtain⟨fuel, hlf⟩ := h0'
  clear hA0
  refine(q6x ⟨s0.data.toList, s1.data.toList, s2.data.toList, s3, s4.data.toList⟩ W (gp_of hL hsh).1 (gp_of hL hsh).2).mono fun e W' ⟨he, bel⟩ => ?_
  subst he
  refine⟨_, rfl, _, _, _, [], _, [], hW', trodAll_mk1 (shut_bool underlying4 _), (trodAll_cons_mk (Go.WideElems.Trod_stays (by kernel_rfl) (by kernel_rfl) (of_decide_eq_true (by kernel_rfl)) ⟨fuel, hlf⟩ (fun p hp => ?_) (fun p hp => ?_)) trodAll_mk0), rfl, bel.frame _, fun h => by cases h⟩
  · exact bel.same (DataW.trod_lt fuel _ _ _ hlf p hp)
  · exact decide_eq_true (DataW.trod_lt fuel _ _ _ hlf p hp)

theorem laid_met (os:Os):laidMetH prog Rows.feedMadeRow.laid ((World.doorLaid prog 62 os).forCall (fun _ _ => 0) ⟨#[], #[.agg #[.string ByteArray.empty, .string ByteArray.empty, .string ByteArray.empty, .int .i64 0, .string ByteArray.empty]], []⟩).memory :=
  laidMet_of_run' 8 (by kernel_rfl) (by kernel_rfl)
theorem reads (os:Os) {H:Type} (enc:TypeId × Value → H):∃ places, DataW.whole enc prog ((World.doorLaid prog 62 os).forCall (fun _ _ => 0) ⟨#[], #[.agg #[.string ByteArray.empty, .string ByteArray.empty, .string ByteArray.empty, .int .i64 0, .string ByteArray.empty]], []⟩).memory Tryz.f5.params.toList Rows.feedMadeSpec.vars false #[Value.agg #[.string ByteArray.empty, .string ByteArray.empty, .string ByteArray.empty, .int .i64 0, .string ByteArray.empty]].toList 8=some ([.agg [.lit (.string []), .lit (.string []), .lit (.string []), .lit (.int .i64 0), .lit (.string [])]], [], places) :=
  ⟨[], by kernel_rfl⟩

theorem lifted (os:Os) (started:os.Started) (H:Type) (enc:TypeId × Value → H) (F:Stop.Interp) :
    ReturnsInHanded {} Tryz.checked os 5 .any ((OpenSpec.ofChange Rows.feedMadeSpec).preRow enc prog Tryz.f5 Rows.feedMadeRow.domain false Rows.feedMadeRow.laid) (((OpenSpec.ofChange Rows.feedMadeSpec).at F).post enc prog Tryz.f5 false true false false) := by
  obtain⟨places, hx⟩ := reads os enc
  refine returnsInHanded_of_row (C := Tryz.checked) (s := OpenSpec.ofChange Rows.feedMadeSpec) own started (by kernel_rfl) func5
    (witness_row_atRef (enc := enc) (C := Tryz.checked) false (World.doorLaid prog 62 os) #[.agg #[.string ByteArray.empty, .string ByteArray.empty, .string ByteArray.empty, .int .i64 0, .string ByteArray.empty]] rfl (by kernel_rfl) (by kernel_rfl) (by kernel_rfl)
      (OpenSpec.preRow_of_cond 8 hx (by kernel_rfl) (fun k hk => by cases hk) (by kernel_rfl) (laid_met os))) ?_
  intro W base args ds gs before hval hW _ _ _ hL hsh _
  exact contract H enc W base args ds gs before hval hW hL hsh

theorem said:Rows.FeedMadeSaid :=
  OpenClaim.holds_of_cond 5 Tryz.f5 rfl rfl rfl rfl rfl rfl rfl ⟨rfl, rfl, rfl, rfl, rfl⟩ rfl rfl rfl rfl rfl (by kernel_rfl) func5 closedF
    (of_decide_eq_true (by kernel_rfl)) (by unfold Func.isWrapper; first | (rw[if_pos (by decide +kernel)]; kernel_rfl) | (rw[if_neg (by decide +kernel)]; exact⟨rfl, rfl⟩))
    (fun os started H enc _ F => by rw[OpenClaim.pre_eq_preRow]; exact lifted os started H enc F)

theorem plain (f : FuncId) (fn : Func) (hf : Tryz.pinned.checked.prog.funcNamed "marginalia/marginalialaw.FeedMade" = some f) (hfn : Tryz.pinned.checked.prog.funcs[f]? = some fn) :
    true=Tryz.pinned.checked.prog.looks [] ∧ ∀ (j:Nat) t, fn.params[j]? = some t → Tryz.pinned.checked.prog.wantsStandIn t=false := by
  obtain rfl : f = 5 := Option.some.inj ((show prog.funcNamed "marginalia/marginalialaw.FeedMade" = some 5 by kernel_rfl).symm.trans hf) |>.symm
  obtain rfl:fn=Tryz.f5 := (Option.some.inj (func5.symm.trans hfn)).symm
  refine⟨by kernel_rfl, fun j t ht => ?_⟩
  rw[params5] at ht
  match j, ht with
  | 0, ht => obtain rfl:t=44 := by simpa using ht.symm
             exact(show prog.wantsStandIn 44=false by kernel_rfl)
  | j + 1, ht => simp at ht

theorem proved:Rows.FeedMadeCardSaid :=
  Claim7.holds_tied_plain_at .later [] _ _ _ _ said (fun _ h => by cases h) (by kernel_rfl) (fun _ h => by cases h) feedMade_row_tie rfl ⟨rfl, rfl⟩ (by kernel_rfl) rfl plain (by kernel_rfl)
#print axioms proved
end Go.Proofs.YtjonkbdldebkiaaGreatDoor.MadeDone
