-- Written by a program of this session (patch_print.py over the kit's print) out of the translation. Not trusted: Lean checks it.
import Derived.Test.YtjagffomohbioaaLx0
import Derived.Test.YtjagffomohbioaaLx8
import Derived.Test.YtjagffomohbioaaLx9
import Derived.Test.YtjagffomohbioaaLx11
namespace Go.Proofs.Ytjagffomohbioaa.L
open Go.RowKit Go.Proofs.YtjagffomohbioaaW.PrintWords Go.Proofs.YtjagffomohbioaaW.PrintLast Go.Proofs.YtjagffomohbioaaW.PrintMore
attribute [local go_sem] max2_int min2_int max_two min_two max_three min_three max_four min_four   -- for this text's walks alone
set_option linter.unusedVariables false
set_option linter.unusedSimpArgs false

/-! ### spliceryref41_Check: function 22 -/
mutual
def spliceryref41_Check.l0 : Nat → List (S36) → List Int → List Int → Int → Option (Int)
 | 0, _, _, _, _ => none
 | k + 1, x0, x2, x7, x8 => if x8 < (x2.length : Int) then (spliceryref41_Check.l1 k x0 x2 x7 x8 false 0) else ((spliceryref41_Fine.f k x0 x2).bind fun t543 => (if t543 = true then (some 27) else (spliceryref41_Check.l2 k x0 x2 0)))
def spliceryref41_Check.l1 : Nat → List (S36) → List Int → List Int → Int → Bool → Int → Option (Int)
 | 0, _, _, _, _, _, _ => none
 | k + 1, x0, x2, x7, x8, x9, x10 => if x10 < (x7.length : Int) then (if x9 = true then (spliceryref41_Check.l1 k x0 x2 x7 x8 true (wrap64 (x10 + 1))) else (if 0 ≤ x10 then (if 0 ≤ x8 then (if x8 < (x2.length : Int) then (spliceryref41_Check.l1 k x0 x2 x7 x8 ((rd x7 x10) == (rd x2 x8)) (wrap64 (x10 + 1))) else (none)) else (none)) else (none))) else (if x9 = true then (if x8 > 0 then (if 0 ≤ x8 then (if x8 < (x2.length : Int) then (if 0 ≤ (wrap64 (x8 - 1)) then (if (wrap64 (x8 - 1)) < (x2.length : Int) then (if (rd x2 x8) ≤ (rd x2 (wrap64 (x8 - 1))) then (some 27) else (spliceryref41_Check.l0 k x0 x2 x7 (wrap64 (x8 + 1)))) else (none)) else (none)) else (none)) else (none)) else (spliceryref41_Check.l0 k x0 x2 x7 (wrap64 (x8 + 1)))) else (some 27))
def spliceryref41_Check.l2 : Nat → List (S36) → List Int → Int → Option (Int)
 | 0, _, _, _ => none
 | k + 1, x0, x2, x11 => if x11 < (x2.length : Int) then ((spliceryref41_without.f x2 x11).bind fun t544 => ((spliceryref41_Fine.f k x0 t544).bind fun t547 => (if t547 = true then (spliceryref41_Check.l2 k x0 x2 (wrap64 (x11 + 1))) else (some 27)))) else (some 0)
end
def spliceryref41_Check.f (k : Nat) (l0 : List (S36)) (l1 : List Int) (l2 : List Int) : Option (Int) := (spliceryref41_Valid.f k l0).bind fun t535 => (if t535 = true then ((spliceryref41_Sorted.f k l0 l1).bind fun t536 => (spliceryref41_Check.l0 k l0 l2 t536 0)) else (some 1))
end Go.Proofs.Ytjagffomohbioaa.L
