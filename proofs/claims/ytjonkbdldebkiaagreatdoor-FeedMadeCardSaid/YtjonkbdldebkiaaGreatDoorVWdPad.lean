/- The plain law of numbers that are padded: so many digits. No program in sight. -/
import Derived.Test.YtjonkbdldebkiaaGreatDoorVUrlPlain
import Derived.Lib.ItoaNum
set_option linter.unusedVariables false
set_option linter.unusedSimpArgs false
namespace Fd
open Go
theorem q46:∀ k,digs k 0=List.replicate k 48
 | 0=>rfl
 | k + 1=>by
  rw[digs,show 0 / 10=0 from rfl,q46 k,List.replicate_succ'];rfl
theorem q89:∀ (k n:Nat),n < 10 ^ (k + 1)→(Lib.decDigits n).length≤k + 1∧List.replicate (k + 1 - (Lib.decDigits n).length) 48++Lib.decDigits n=digs (k + 1) n
 | 0,n,h=>by
  have h1:n < 10:=by simpa using h
  rw[Lib.decDigits_one h1,digs,digs,Nat.mod_eq_of_lt h1];exact⟨Nat.le_refl _,rfl⟩
 | k + 1,n,h=>by
  by_cases h1:n < 10
  ·rw[Lib.decDigits_one h1,digs,Nat.mod_eq_of_lt h1,Nat.div_eq_of_lt h1,q46]
   exact⟨by simp,by rw[List.length_singleton,Nat.add_sub_cancel]⟩
  ·have h2:n / 10 < 10 ^ (k + 1):=by
    rw[Nat.div_lt_iff_lt_mul (by decide),← Nat.pow_succ];exact h
   obtain⟨a,b⟩:=q89 k (n / 10) h2;rw[Lib.decDigits,dif_neg h1,List.length_append,List.length_singleton];refine⟨by omega,?_⟩;rw[digs,← b,show k + 1 + 1 - ((Lib.decDigits (n / 10)).length + 1)=k + 1 - (Lib.decDigits (n / 10)).length by omega,List.append_assoc]
end Fd
