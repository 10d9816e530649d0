/- Parts of sync.Once: a lock that is free is taken; deferred: it is let go; 'done' is stored. One goroutine. -/
import Derived.Test.YtagleefekmdldaaGreatDoorYMkTok1
import Derived.Test.YtagleefekmdldaaGreatDoorYShelf
import Derived.Test.YtagleefekmdldaaGreatDoorRows
import Derived.Tactics2
import Derived.Defers
import Derived.Laws.Pointers
import Derived.Laws.LoneSync
import Derived.RegionTactic
import Derived.RegionCalls
import Derived.ChangeAlike
set_option linter.unusedVariables false
set_option linter.unusedSimpArgs false
set_option maxHeartbeats 1600000
set_option maxRecDepth 100000
namespace Go.Proofs.YtagleefekmdldaaGreatDoor
open Go.Proofs.Tryz Go.RowKit
theorem q3d (w:World):(callFunc 216 #[]).run prog w=.ok (.value (.tuple #[])) w:=run_call_mark0 func216 (by kernel_rfl) (by kernel_rfl) (by kernel_rfl) .disable (by kernel_rfl) w
theorem q6i (w:World):(callFunc 218 #[]).run prog w=.ok (.value (.tuple #[])) w:=run_call_mark0 func218 (by kernel_rfl) (by kernel_rfl) (by kernel_rfl) .enable (by kernel_rfl) w
theorem j2f (a:Addr) (w:World):(callFunc 219 #[.pointer (some a)]).run prog w=.ok (.value (.tuple #[])) w:=run_call_marked func219 (by kernel_rfl) (by kernel_rfl) (by kernel_rfl) .acquire (by kernel_rfl) a w
theorem j2g (a:Addr) (w:World):(callFunc 221 #[.pointer (some a)]).run prog w=.ok (.value (.tuple #[])) w:=run_call_marked func221 (by kernel_rfl) (by kernel_rfl) (by kernel_rfl) .releaseMerge (by kernel_rfl) a w
theorem rc_store (a:Addr) (x:Value) (u:FrameMode) (w:World) (hc:w.cell? a=some x) (hz:w.frozen? a=false) :
  CallsD prog 187 #[.pointer (some a),.bool true] u w fun e u' w'=>u'=u∧(e=.returned (.tuple #[])∧w'=w.drew.setCell a (.int .u32 1)):=by
 have hc':w.drew.cell? a=some x:=by go_simp
 have hz':w.drew.frozen? a=false:=by go_simp
 have hst:=run_call_store (P:=prog) func203 (by kernel_rfl) (by kernel_rfl) (by kernel_rfl) (by kernel_rfl) (k:=.u32) (y:=1) hc' hz'
 go_enter_d func187,ntmps187
 go_wp2
 go_region_calls
 all_goals (go_end0;exact⟨rfl,rfl⟩)
theorem j6a (a:Addr) (u:FrameMode) (w:World) (hc:w.cell? a=some (.int .i32 1)) (hz:w.frozen? a=false) :
  CallsD prog 186 #[.pointer (some a)] u w fun e u' w'=>u'=u∧(e=.returned (.tuple #[])∧w'=w.setCell a (.int .i32 0)):=by
 have hd:=q3d;have he:=q6i;have hr:=j2g;have hadd:=run_call_add (P:=prog) func222 (by kernel_rfl) (by kernel_rfl) (by kernel_rfl) .i32 (by kernel_rfl) (y:=-1) (s:=0) hc hz (by simp[go_sem];rfl);have hcv:=run_convert_to_unsafe (P:=prog) (src:=252) (dst:=157) underlying252 underlying157 (by kernel_rfl) hc
 go_enter_d func186,ntmps186
 go_wp2;go_end0;go_wp2;go_end0;exact⟨rfl,rfl⟩
theorem rc_lock (a:Addr) (w:World) (hc:w.cell? a=some (.int .i32 0)) (hz:w.frozen? a=false) :
  Calls prog 185 #[.pointer (some a)] w fun e w'=>e=.returned (.tuple #[])∧w'=w.setCell a (.int .i32 1):=by
 have hd:=q3d;have he:=q6i;have ha:=j2f;have hcas:=run_call_cas_hit (P:=prog) func217 (by kernel_rfl) (by kernel_rfl) (by kernel_rfl) .i32 (by kernel_rfl) (y:=1) hc hz;have hc':(w.setCell a (.int .i32 1)).cell? a=some (.int .i32 1):=World.cell?_setCell_same w a _ hc;have hcv:=run_convert_to_unsafe (P:=prog) (src:=252) (dst:=157) underlying252 underlying157 (by kernel_rfl) hc';go_enter func185,ntmps185;go_wp2
 first | go_end0 | (simp only [Exit.inBlock,Exit.then];refine bodyPost_ret (results_none rfl _ _ _) rfl ?_) | refine bodyPost_ret (results_none rfl _ _ _) rfl ?_
 go_wp2;go_end0;exact⟨rfl,rfl⟩
theorem q9l (a:Addr) (w:World) (h:w.cell? a=some (.int .u32 0)):Calls prog 169 #[.pointer (some a)] w fun e w'=>e=.returned (.bool false)∧w'=w:=by
 have hl:=run_call_load (P:=prog) func184 (by kernel_rfl) (by kernel_rfl) (by kernel_rfl) .u32 (by kernel_rfl) h;go_enter func169,ntmps169;go_wp2_with fail;go_ret;exact⟨rfl,rfl⟩
theorem rc_slow (R:Nat) (Q:World→Prop) (w:World) (h0:w.cell? ⟨R,0,none⟩=some (.int .u32 0)) (h1:w.cell? ⟨R,1,none⟩=some (.int .i32 0)) (f0:w.frozen? ⟨R,0,none⟩=false) (f1:w.frozen? ⟨R,1,none⟩=false)
  (hQ:∀ w1,Q w1→w1.cell? ⟨R,0,none⟩=some (.int .u32 0)∧w1.cell? ⟨R,1,none⟩=some (.int .i32 1)∧w1.frozen? ⟨R,0,none⟩=false∧w1.frozen? ⟨R,1,none⟩=false)
  (hc:Calls prog 153 #[.pointer (some ⟨R,0,none⟩)] (w.setCell ⟨R,1,none⟩ (.int .i32 1)) fun e w1=>e=.returned (.tuple #[])∧Q w1) :
  Calls prog 170 #[.pointer (some ⟨R,0,none⟩),.func (.func 153) #[.pointer (some ⟨R,0,none⟩)] #[]] w fun e w'=>e=.returned (.tuple #[])∧∃ w1,Q w1∧w'=(w1.drew.setCell ⟨R,0,none⟩ (.int .u32 1)).setCell ⟨R,1,none⟩ (.int .i32 0):=by
 have HL:=Ld (q9l ⟨R,0,none⟩ (w.setCell ⟨R,1,none⟩ (.int .i32 1)) ((World.cell?_setCell_other _ ⟨R,1,none⟩ ⟨R,0,none⟩ _ (by simp)).trans h0));have hnot:∀ (x:Bool) (w:World),(Op.unary .not (.bool x)).run prog w=.ok (.bool (!x)) w:=fun _ _=>rfl
 have HQ:=Ld hQ;have HC:=Ld hc;have HLK:=Ld (rc_lock ⟨R,1,none⟩ w h1 f1);clear hQ hc
 go_enter_defers func170,ntmps170
 go_wp2_with (go_at_call 185;refine HLK.out.mono ?_;rintro e w' ⟨rfl,rfl⟩);refine HL.out.mono ?_;rintro e w2 ⟨rfl,rfl⟩;clear h0 h1 f0 f1;go_wp2_with (go_at_call 153;refine HC.out.mono ?_;rintro e w3 ⟨rfl,hq3⟩);obtain⟨q0,q1,q2,q3⟩:=HQ.out _ hq3;refine leaves_cons (f:=187) (args:=#[.pointer (some ⟨R,0,none⟩),.bool true]) (by simp) (by simp[go_sem]) ?_;refine(rc_store ⟨R,0,none⟩ (.int .u32 0) .returning _ q0 q2).mono ?_;rintro e u' w'' ⟨rfl,rfl,rfl⟩;refine leaves_cons (f:=186) (args:=#[.pointer (some ⟨R,1,none⟩)]) (by simp[settle]) (by simp[go_sem]) ?_;refine(j6a ⟨R,1,none⟩ _ _ ?_ (by simp[q3])).mono ?_
 ·refine(World.cell?_setCell_other _ ⟨R,0,none⟩ ⟨R,1,none⟩ _ (by simp)).trans ?_
  rw[World.cell?_drew];exact q1
 rintro e u' w'' ⟨rfl,rfl,rfl⟩;simp[Leaves,settle,results,results170];exact⟨w3,hq3,rfl⟩
theorem rc_do (R:Nat) (Q:World→Prop) (w:World) (h0:w.cell? ⟨R,0,none⟩=some (.int .u32 0)) (h1:w.cell? ⟨R,1,none⟩=some (.int .i32 0)) (f0:w.frozen? ⟨R,0,none⟩=false) (f1:w.frozen? ⟨R,1,none⟩=false)
  (hQ:∀ w1,Q w1→w1.cell? ⟨R,0,none⟩=some (.int .u32 0)∧w1.cell? ⟨R,1,none⟩=some (.int .i32 1)∧w1.frozen? ⟨R,0,none⟩=false∧w1.frozen? ⟨R,1,none⟩=false)
  (hc:Calls prog 153 #[.pointer (some ⟨R,0,none⟩)] (w.setCell ⟨R,1,none⟩ (.int .i32 1)) fun e w1=>e=.returned (.tuple #[])∧Q w1) :
  Calls prog 152 #[.pointer (some ⟨R,0,none⟩),.func (.func 153) #[.pointer (some ⟨R,0,none⟩)] #[]] w fun e w'=>e=.returned (.tuple #[])∧∃ w1,Q w1∧w'=(w1.drew.setCell ⟨R,0,none⟩ (.int .u32 1)).setCell ⟨R,1,none⟩ (.int .i32 0):=by
 have HS:=Ld (rc_slow R Q w h0 h1 f0 f1 hQ hc);have HL:=Ld (q9l ⟨R,0,none⟩ w h0);clear hQ hc h0 h1 f0 f1;go_enter func152,ntmps152;go_wp2_with fail;refine HL.out.mono ?_;rintro e w2 ⟨rfl,rfl⟩;go_wp2_with fail;refine HS.out.mono ?_;rintro e w3 ⟨rfl,hw3⟩;go_wp2_with fail;go_end0;exact⟨rfl,hw3⟩
end Go.Proofs.YtagleefekmdldaaGreatDoor
