/- Contracts of the program's leap, long, ahead. Condition: years from 0 to 100000. -/
import Derived.Test.YtjonkbdldebkiaaGreatDoorYWdPad
import Derived.Test.YtjonkbdldebkiaaGreatDoorYShelf
import Derived.Test.YtjonkbdldebkiaaGreatDoorYKit
set_option linter.unusedVariables false
set_option linter.unusedSimpArgs false
set_option maxHeartbeats 4000000
namespace Fd
theorem lpB_is (y:Int):lpB y=((decide (y % 4=0) && !decide (y % 100=0)) || decide (y % 400=0)):=by
 unfold lpB
 by_cases h1:y % 4=0 <;> by_cases h2:y % 100=0 <;> by_cases h3:y % 400=0 <;> simp[h1,h2,h3]
end Fd
namespace Go.Proofs.YtjonkbdldebkiaaGreatDoor
open Go.Proofs.Tryz Go.RowKit
theorem q8z {a b:Int} (h:0≤a):a.tdiv b=a / b:=Int.tdiv_eq_ediv_of_nonneg h
theorem dt_leap (y:Int) (hy:0≤y) (w:World) :
  Calls prog 113 #[.int .i64 y] w fun e w'=>e=.returned (.bool (Fd.lpB y))∧w'=w:=by
 have HL:=Ld (Fd.lpB_is y);go_enter func113,ntmps113;go_wp2_with fail
 all_goals (go_ret;refine⟨Z8 ?_,rfl⟩;rw[HL.out];first | rfl | (simp[*];done) | (by_cases q:y % 400=0 <;> simp[*]))
theorem j5g (y m:Int) (hy:0≤y) (h1:1≤m) (h2:m≤12) (w:World) :
  Calls prog 65 #[.int .i64 y,.int .i64 m] w fun e w'=>e=.returned (.int .i64 (Fd.long y m))∧Below w.heap.size w w':=by
 have hal:=fun o=>(Below.refl w.heap.size w).alloc (Lr) o
 have HAL:=Ld hal;have HLP:=Ld (fun W=>dt_leap y hy W);have e2:Fd.long y 2=28 + if Fd.lpB y then 1 else 0:=rfl
 have HE:=Ld e2;clear hal hy e2
 rcases (by omega:m=1∨m=2∨m=3∨m=4∨m=5∨m=6∨m=7∨m=8∨m=9∨m=10∨m=11∨m=12) with h | h | h | h | h | h | h | h | h | h | h | h
 case' inr.inl =>
  subst h;go_enter func65,ntmps65;go_wp2_with fail;refine(HLP.out _).mono ?_;rintro e w1 ⟨rfl,rfl⟩;obtain⟨b,hb⟩:∃ b,Fd.lpB y=b:=⟨_,rfl⟩;rw[hb] at HE ⊢;clear hb
  cases b <;>
  ·go_wp2_with fail
   go_ret;exact⟨V5 (by rw[HE.out];rfl),HAL.out _⟩
 all_goals
  subst h;go_enter func65,ntmps65;go_wp2_with fail;go_ret;exact⟨V5 rfl,HAL.out _⟩
theorem q9f (y:Int) (hy:0≤y) (h2:y≤100000) (w:World) :
  Calls prog 64 #[.int .i64 y] w fun e w'=>e=.returned (.int .i64 (Fd.ahead y))∧w'=w:=by
 by_cases h0:y=0
 ·subst h0
  go_enter func64,ntmps64;go_wp2_with fail;go_ret;exact⟨rfl,rfl⟩
 ·have e0:(y == 0)=false:=beq_eq_false_iff_ne.2 h0
  have HE:Hid (Fd.ahead y=365 * (y - 1 + 1) + (y - 1) / 4 - (y - 1) / 100 + (y - 1) / 400 + 1):=by show _=_;unfold Fd.ahead;rw[if_neg h0]
  have q4:(y - 1).tdiv 4=(y - 1) / 4:=q8z (by omega);have q100:(y - 1).tdiv 100=(y - 1) / 100:=q8z (by omega);have q400:(y - 1).tdiv 400=(y - 1) / 400:=q8z (by omega);have H4:=Ld q4;have H100:=Ld q100;have H400:=Ld q400;clear q4 q100 q400 h0;go_enter func64,ntmps64;go_wp2_with fail;go_ret;refine⟨V5 ?_,rfl⟩;rw[HE.out,H4.out,H100.out,H400.out];unfold wrap64;omega
end Go.Proofs.YtjonkbdldebkiaaGreatDoor
