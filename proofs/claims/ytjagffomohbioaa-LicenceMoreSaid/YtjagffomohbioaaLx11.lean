-- Written by a program of this session (patch_print.py over the kit's print) out of the translation. Not trusted: Lean checks it.
import Derived.Test.YtjagffomohbioaaLx0
import Derived.Test.YtjagffomohbioaaLx9
import Derived.Test.YtjagffomohbioaaLx10
namespace Go.Proofs.Ytjagffomohbioaa.L
open Go.RowKit Go.Proofs.YtjagffomohbioaaW.PrintWords Go.Proofs.YtjagffomohbioaaW.PrintLast Go.Proofs.YtjagffomohbioaaW.PrintMore
attribute [local go_sem] max2_int min2_int max_two min_two max_three min_three max_four min_four   -- for this text's walks alone
set_option linter.unusedVariables false
set_option linter.unusedSimpArgs false

/-! ### spliceryref41_Fine: function 15 -/
mutual
def spliceryref41_Fine.l0 : Nat → List (S36) → List Int → List ByteArray → Int → Option (Bool)
  | 0, _, _, _, _ => none
  | k + 1, x0, x1, x5, x6 => if x6 < (x1.length : Int) then (if 0 ≤ x6 then (if (rd x1 x6) < 0 then (spliceryref41_Fine.j1 k x0 x1 x5 x6 true) else (spliceryref41_Fine.j1 k x0 x1 x5 x6 (decide ((rd x1 x6) ≥ (x0.length : Int))))) else (none)) else (some true)
def spliceryref41_Fine.j1 : Nat → List (S36) → List Int → List ByteArray → Int → Bool → Option (Bool)
  | 0, _, _, _, _, _ => none
  | k + 1, x0, x1, x5, x6, x33 => if x33 = true then (spliceryref41_Fine.l0 k x0 x1 x5 (wrap64 (x6 + 1))) else (spliceryref41_Fine.l1 k x0 x1 x5 x6 0)
def spliceryref41_Fine.l1 : Nat → List (S36) → List Int → List ByteArray → Int → Int → Option (Bool)
  | 0, _, _, _, _, _ => none
  | k + 1, x0, x1, x5, x6, x7 => if 0 ≤ x6 then (if x6 < (x1.length : Int) then (if 0 ≤ (rd x1 x6) then (if (rd x1 x6) < (x0.length : Int) then (if x7 < (((rd_T36 x0 (rd x1 x6)).f2).length : Int) then (if 0 ≤ x7 then ((spliceryref41_has.f k x5 (rdOf ByteArray.empty ((rd_T36 x0 (rd x1 x6)).f2) x7)).bind fun t526 => (if t526 = true then (some false) else (spliceryref41_Fine.l1 k x0 x1 x5 x6 (wrap64 (x7 + 1))))) else (none)) else (spliceryref41_Fine.l0 k x0 x1 x5 (wrap64 (x6 + 1)))) else (none)) else (none)) else (none)) else (none)
end
def spliceryref41_Fine.f (k : Nat) (l0 : List (S36)) (l1 : List Int) : Option (Bool) := (spliceryref41_Valid.f k l0).bind fun t515 => (if t515 = true then ((spliceryref41_Follows.f k l0 l1).bind fun t516 => (spliceryref41_Fine.l0 k l0 l1 t516 0)) else (some false))
/-! ### spliceryref41_without: function 44 -/
def spliceryref41_without.f (l0 : List Int) (a1 : Int) : Option (List Int) := if 0 ≤ a1 then (if a1 ≤ (l0.length : Int) then (if ([] : List Int).length + (l0.take (a1 : Int).toNat).length < 17592186044416 then ((some (([] : List Int) ++ (l0.take (a1 : Int).toNat) : List Int)).bind fun y528 => (if 0 ≤ (wrap64 (a1 + 1)) then (if (wrap64 (a1 + 1)) ≤ (l0.length : Int) then (if y528.length + (l0.drop ((wrap64 (a1 + 1)) : Int).toNat).length < 17592186044416 then (some (y528 ++ (l0.drop ((wrap64 (a1 + 1)) : Int).toNat))) else (none)) else (none)) else (none))) else (none)) else (none)) else (none)
end Go.Proofs.Ytjagffomohbioaa.L
