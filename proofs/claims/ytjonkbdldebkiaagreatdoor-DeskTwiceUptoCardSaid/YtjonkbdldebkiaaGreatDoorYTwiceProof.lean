/- The statement that a step taken twice changes nothing the second time, proved, where what comes in is of bulk at most 1048576. -/
import Derived.Test.YtjonkbdldebkiaaGreatDoorCards
import Derived.Test.YtjonkbdldebkiaaGreatDoorTie
import Derived.Test.YtjonkbdldebkiaaGreatDoorYWxO
import Derived.Test.YtjonkbdldebkiaaGreatDoorYWeOpen
import Derived.Test.YtjonkbdldebkiaaGreatDoorYTwClosed
import Derived.WalkKit
import Derived.ProofKit
import Derived.OpenShut
import Derived.ShutString
import Derived.ChangeOld
import Derived.Below
import Derived.WideKeyArgs
import Derived.LaidLaws
import Derived.LaidMore
import Derived.MakeChecks
import Derived.Shelf.Vars
import Derived.Lib.SmallJoins
import Derived.Lib.LaidTab
import Derived.Deep.DeepHandedRow
import Derived.Deep.DeepWitnessRowRef
set_option linter.unusedVariables false
set_option linter.unusedSimpArgs false
set_option maxRecDepth 100000
namespace Go.Proofs.YtjonkbdldebkiaaGreatDoor.TwiceDone
open Go.Proofs.Tryz Go.ChangeShapes Go.WideShapes Go.ChangeAt Go.RowKit
open Go.ChangeMaps (open_string shut_string)
open Go.Joins (open_agg2 open_agg3)

theorem own:ownKnob prog.godebug=none := by kernel_rfl
theorem gES : prog.globalNamed "strconv.ErrSyntax" = some 4 := by kernel_rfl
theorem tES:(prog.globals[4]?).map (·.type)=some 147 := by kernel_rfl
theorem gl_of {W:World} (h:laidMetH prog Rows.deskTwiceUptoRow.laid W) (hsh:W.ShapedOpen prog):Gl W := by
  rw[MakeChecks.laidMetH_plain _ _ _ (by kernel_rfl)] at h
  obtain⟨ps, hl, _, _⟩ := h
  obtain⟨_, _, _, _, _, _, _, _, _, _, hl, _⟩ := hl
  obtain⟨_, _, _, _, _, _, _, _, _, _, hl, _⟩ := hl
  obtain⟨_, _, _, _, _, _, _, _, _, _, hl, _⟩ := hl
  obtain⟨_, _, _, _, _, _, _, _, _, _, hl, _⟩ := hl
  obtain⟨g, t, cs, f, p, q, hg, ht, hv, hd, _, _⟩ := hl
  obtain rfl := Option.some.inj (gES.symm.trans hg)
  obtain rfl := Option.some.inj (tES.symm.trans ht)
  obtain⟨_, u, v, hcs, _, _⟩ := iface_of_trod underlying147 hd
  have hcell := World.var?_cell hg hv 0
  rw[Array.eq_one_of_toList hcs] at hcell
  refine⟨?_, .iface u v, by simpa using hcell, .inr ⟨u, v, rfl⟩⟩
  exact Go.Proofs.cell_of_shapedOpen_int (zero := #[.int .i64 0]) (t := 3) hsh (of_decide_eq_true (by kernel_rfl)) (by kernel_rfl) rfl (by kernel_rfl) (by kernel_rfl) underlying3
theorem j8p {x:Fd.En}:∀ {l:List Fd.En}, x ∈ l → enB x ≤ entB l
  | y :: l, h => by
    have e:entB (y :: l)=enB y + entB l := rfl
    rw[e]
    rcases List.mem_cons.1 h with rfl | q
    · omega
    · have := j8p q
      omega
theorem cshelf:prog.cellsOf 26=2 := by kernel_rfl
theorem cact:prog.cellsOf 36=3 := by kernel_rfl
theorem contract (H:Type) (enc:TypeId × Value → H) (W:World) (base:Nat) (args:Array Value) (ds gs:List (DataW H)) (before:List MemPlace)
    (hval:∀ (j:Nat) t v, Tryz.f7.params[j]? = some t → args[j]? = some v → Value.okWide prog W .any base t v)
    (hW:DataW.Whole enc prog Tryz.f7.params.toList Rows.deskTwiceSpec.vars false W args.toList ds gs before) (hk:Rows.uptoSmall H (ds ++ gs)=true) (hL:laidMetH prog Rows.deskTwiceUptoRow.laid W) (hsh:W.ShapedOpen prog) :
    Calls prog 7 args W fun e W' => ∃ v, e=.returned v ∧ Rows.deskTwiceSpec.post enc prog Tryz.f7 false true false false W args v W' := by
  have hW' := hW
  obtain⟨p, q, hA0, hV, rfl, hfz, hnd⟩ := hW
  have hA:DataW.TrodAll enc prog W 0 (fun _ => true) true Tryz.f7.params.toList args.toList ds p := hA0
  rw[params7] at hA hval
  obtain⟨v0, vs0, d0, ds0, p0, q0, hargs, rfl, rfl, h0, r0⟩ := trodAll_cons hA
  obtain⟨v1, vs1, d1, ds1, p1, q1, rfl, rfl, rfl, h1, r1⟩ := trodAll_cons r0
  obtain⟨rfl, rfl, rfl⟩ := trodAll_nil r1
  obtain rfl:args = #[v0, v1] := by cases args; simp_all
  obtain⟨rfl, rfl⟩ := trodVars_none hV
  have h0' := h0
  have h1' := h1
  obtain⟨ve, vr, ye, yr, m, rfl, rfl, rfl, he, hr⟩ := open_agg2 underlying26 (by kernel_rfl) cshelf (hval 0 26 v0 rfl rfl) h0
  obtain⟨vk, vt, vb, yk, yt, yb, m1, rfl, rfl, rfl, hk1, ht1, hb1⟩ := open_agg3 underlying36 (by kernel_rfl) cact (hval 1 36 v1 rfl rfl) h1
  obtain⟨kd, ek, _, _⟩ := DataW.trod_int underlying3 hk1
  obtain⟨tx, et, _, _⟩ := DataW.trod_string underlying9 ht1
  obtain⟨ba, eb, _, _⟩ := DataW.trod_string underlying9 hb1
  injection ek with ek
  injection et with et
  injection eb with eb
  subst ek; subst et; subst eb
  obtain⟨fuel, hlf⟩ := h0'
  obtain⟨fuel1, hlf1⟩ := h1'
  obtain⟨es, hes, heb, _⟩ := j8r he
  obtain⟨rd, hrd, hrb⟩ := open_strs hr
  have hb := of_decide_eq_true hk
  simp only [List.cons_append, List.nil_append, List.append_nil, Rows.uptoBulkAll, Rows.uptoBulk] at hb
  clear hA0 hk
  have heb2:entB es ≤ Rows.uptoBulk ye.1 := heb
  have hid:∀ x ∈ es, x.id.length ≤ 1048576 := by
    intro x hx
    have h1:enB x ≤ entB es := j8p hx
    have h2:x.id.length ≤ enB x := by unfold enB; omega
    omega
  refine(j02 ⟨es, rd⟩ ⟨kd, tx.data.toList, ba.data.toList⟩ ve vr _ W (gl_of hL hsh) ⟨hes, hrd⟩ (fun b q => q) hid).mono fun e W' ⟨he, bel⟩ => ?_
  subst he
  refine⟨_, rfl, _, _, _, [], _, [], hW', trodAll_mk1 (shut_bool underlying4 _), (trodAll_cons_mk (Go.WideElems.Trod_stays (by kernel_rfl) (by kernel_rfl) (of_decide_eq_true (by kernel_rfl)) ⟨fuel, hlf⟩ (fun p hp => ?_) (fun p hp => ?_)) (trodAll_cons_mk (Go.WideElems.Trod_stays (by kernel_rfl) (by kernel_rfl) (of_decide_eq_true (by kernel_rfl)) ⟨fuel1, hlf1⟩ (fun p hp => ?_) (fun p hp => ?_)) trodAll_mk0)), rfl, bel.frame _, fun h => by cases h⟩
  · exact bel.same (DataW.trod_lt fuel _ _ _ hlf p hp)
  · exact decide_eq_true (DataW.trod_lt fuel _ _ _ hlf p hp)
  · exact bel.same (DataW.trod_lt fuel1 _ _ _ hlf1 p hp)
  · exact decide_eq_true (DataW.trod_lt fuel1 _ _ _ hlf1 p hp)

theorem laid_met (os:Os):laidMetH prog Rows.deskTwiceUptoRow.laid ((World.doorLaid prog 62 os).forCall (fun _ _ => 0) ⟨#[], #[.agg #[.slice none 0 0, .slice none 0 0], .agg #[.int .i64 0, .string ByteArray.empty, .string ByteArray.empty]], []⟩).memory :=
  laidMet_of_run' 8 (by kernel_rfl) (by kernel_rfl)
theorem reads (os:Os) {H:Type} (enc:TypeId × Value → H):∃ places, DataW.whole enc prog ((World.doorLaid prog 62 os).forCall (fun _ _ => 0) ⟨#[], #[.agg #[.slice none 0 0, .slice none 0 0], .agg #[.int .i64 0, .string ByteArray.empty, .string ByteArray.empty]], []⟩).memory Tryz.f7.params.toList Rows.deskTwiceSpec.vars false #[Value.agg #[.slice none 0 0, .slice none 0 0], .agg #[.int .i64 0, .string ByteArray.empty, .string ByteArray.empty]].toList 8=some ([.agg [.nil, .nil], .agg [.lit (.int .i64 0), .lit (.string []), .lit (.string [])]], [], places) :=
  ⟨[], by kernel_rfl⟩

theorem j8n (os:Os) (started:os.Started) (H:Type) (enc:TypeId × Value → H) (F:Stop.Interp) :
    ReturnsInHanded {} Tryz.checked os 7 .any ((Rows.OpenSpec.upto Rows.deskTwiceSpec).preRow enc prog Tryz.f7 Rows.deskTwiceUptoRow.domain false Rows.deskTwiceUptoRow.laid) (((Rows.OpenSpec.upto Rows.deskTwiceSpec).at F).post enc prog Tryz.f7 false true false false) := by
  obtain⟨places, hx⟩ := reads os enc
  refine returnsInHanded_of_row (C := Tryz.checked) (s := Rows.OpenSpec.upto Rows.deskTwiceSpec) own started (by kernel_rfl) func7
    (witness_row_atRef (enc := enc) (C := Tryz.checked) false (World.doorLaid prog 62 os) #[.agg #[.slice none 0 0, .slice none 0 0], .agg #[.int .i64 0, .string ByteArray.empty, .string ByteArray.empty]] rfl (by kernel_rfl) (by kernel_rfl) (by kernel_rfl)
      (OpenSpec.preRow_of_cond 8 hx (by kernel_rfl) (fun k hk => by cases hk; kernel_rfl) (by kernel_rfl) (laid_met os))) ?_
  intro W base args ds gs before hval hW _ hcond _ hL hsh _
  exact contract H enc W base args ds gs before hval hW (hcond _ rfl) hL hsh

theorem saidUpto:Rows.DeskTwiceUptoSaid :=
  OpenClaim.holds_of_cond 7 Tryz.f7 rfl rfl rfl rfl rfl rfl rfl ⟨rfl, rfl, rfl, rfl, rfl⟩ rfl rfl rfl rfl rfl (by kernel_rfl) func7 closedF
    (of_decide_eq_true (by kernel_rfl)) (by unfold Func.isWrapper; first | (rw[if_pos (by decide +kernel)]; kernel_rfl) | (rw[if_neg (by decide +kernel)]; exact⟨rfl, rfl⟩))
    (fun os started H enc _ F => by rw[OpenClaim.pre_eq_preRow]; exact j8n os started H enc F)

theorem plain (f : FuncId) (fn : Func) (hf : Tryz.pinned.checked.prog.funcNamed "marginalia/marginalialaw.DeskTwice" = some f) (hfn : Tryz.pinned.checked.prog.funcs[f]? = some fn) :
    true=Tryz.pinned.checked.prog.looks [] ∧ ∀ (j:Nat) t, fn.params[j]? = some t → Tryz.pinned.checked.prog.wantsStandIn t=false := by
  obtain rfl : f = 7 := Option.some.inj ((show prog.funcNamed "marginalia/marginalialaw.DeskTwice" = some 7 by kernel_rfl).symm.trans hf) |>.symm
  obtain rfl:fn=Tryz.f7 := (Option.some.inj (func7.symm.trans hfn)).symm
  refine⟨by kernel_rfl, fun j t ht => ?_⟩
  rw[params7] at ht
  match j, ht with
  | 0, ht => obtain rfl:t=26 := by simpa using ht.symm
             exact(show prog.wantsStandIn 26=false by kernel_rfl)
  | 1, ht => obtain rfl:t=36 := by simpa using ht.symm
             exact(show prog.wantsStandIn 36=false by kernel_rfl)
  | j + 2, ht => simp at ht

theorem proved:Rows.DeskTwiceUptoCardSaid :=
  Claim7.holds_tied_plain_at .later [] _ _ _ _ saidUpto (fun _ h => by cases h) (by kernel_rfl) (fun _ h => by cases h) deskTwiceUpto_row_tie rfl ⟨rfl, rfl⟩ (by kernel_rfl) rfl plain (by kernel_rfl)
#print axioms proved
end Go.Proofs.YtjonkbdldebkiaaGreatDoor.TwiceDone
