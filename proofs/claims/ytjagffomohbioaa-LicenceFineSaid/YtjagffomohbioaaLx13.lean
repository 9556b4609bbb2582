-- Written by a program of this session (patch_print.py over the kit's print) out of the translation. Not trusted: Lean checks it.
import Derived.Test.YtjagffomohbioaaLx0
import Derived.Test.YtjagffomohbioaaLx8
import Derived.Test.YtjagffomohbioaaLx9
import Derived.Test.YtjagffomohbioaaLx11
namespace Go.Proofs.Ytjagffomohbioaa.L
open Go.RowKit Go.Proofs.YtjagffomohbioaaW.PrintWords Go.Proofs.YtjagffomohbioaaW.PrintLast Go.Proofs.YtjagffomohbioaaW.PrintMore
attribute [local go_sem] max2_int min2_int max_two min_two max_three min_three max_four min_four   -- for this text's walks alone
set_option linter.unusedVariables false
set_option linter.unusedSimpArgs false

/-! ### spliceryref41_Greatest: function 24 -/
def spliceryref41_Greatest.l0 : Nat → List (S36) → List Int → List Int → Int → Option (List Int)
 | 0, _, _, _, _ => none
 | k + 1, x0, x1, x5, x6 => if x6 < (x1.length : Int) then ((some (([] : List Int) : List Int)).bind fun y549 => (if y549.length + x5.length < 17592186044416 then ((some (y549 ++ x5 : List Int)).bind fun y552 => (if 0 ≤ x6 then ((some (([rd x1 x6] : List Int) : List Int)).bind fun y556 => (if y552.length + y556.length < 17592186044416 then ((spliceryref41_Sorted.f k x0 (y552 ++ y556)).bind fun t562 => ((spliceryref41_Fine.f k x0 t562).bind fun t565 => (if t565 = true then (spliceryref41_Greatest.l0 k x0 x1 t562 (wrap64 (x6 + 1))) else (spliceryref41_Greatest.l0 k x0 x1 x5 (wrap64 (x6 + 1)))))) else (none))) else (none))) else (none))) else (some x5)
def spliceryref41_Greatest.f (k : Nat) (l0 : List (S36)) (l1 : List Int) : Option (List Int) := (spliceryref41_Valid.f k l0).bind fun t548 => (if t548 = true then (spliceryref41_Greatest.l0 k l0 l1 ([] : List Int) 0) else (some ([] : List Int)))
def spliceryref41_Greatest.T7 : Bool × List (List Nat × List Nat) := (true, [([], []), ([], []), ([], []), ([1, 2], [1, 2]), ([], []), ([], []), ([4, 5], [4, 5]), ([6], [6]), ([7], [7]), ([3, 8, 3], [3, 8]), ([0, 9, 9], [0, 9]), ([10, 10, 0, 1, 2, 3, 4, 5, 6, 7, 8, 9, 10], [10])])
def spliceryref41_Greatest.B7 : List Nat := [0, 0, 0, 6, 0, 0, 48, 112, 240, 510, 1023, 2047]
end Go.Proofs.Ytjagffomohbioaa.L
