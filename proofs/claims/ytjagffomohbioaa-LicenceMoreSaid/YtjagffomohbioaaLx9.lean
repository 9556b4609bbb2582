-- Written by a program of this session (patch_print.py over the kit's print) out of the translation. Not trusted: Lean checks it.
import Derived.Test.YtjagffomohbioaaLx0
import Derived.Test.YtjagffomohbioaaLx8
namespace Go.Proofs.Ytjagffomohbioaa.L
open Go.RowKit Go.Proofs.YtjagffomohbioaaW.PrintWords Go.Proofs.YtjagffomohbioaaW.PrintLast Go.Proofs.YtjagffomohbioaaW.PrintMore
attribute [local go_sem] max2_int min2_int max_two min_two max_three min_three max_four min_four   -- for this text's walks alone
set_option linter.unusedVariables false
set_option linter.unusedSimpArgs false

/-! ### spliceryref41_Valid: function 12 -/
mutual
def spliceryref41_Valid.l0 : Nat → List (S36) → Int → Option (Bool)
  | 0, _, _ => none
  | k + 1, x0, x3 => if x3 < (x0.length : Int) then (if 0 ≤ x3 then (if (((rd_T36 x0 x3).f0).size : Int) > 16 then (spliceryref41_Valid.j1 k x0 x3 true) else (if (((rd_T36 x0 x3).f1).length : Int) > 8 then (spliceryref41_Valid.j1 k x0 x3 true) else (spliceryref41_Valid.j1 k x0 x3 (decide ((((rd_T36 x0 x3).f2).length : Int) > 8))))) else (none)) else (some true)
def spliceryref41_Valid.j1 : Nat → List (S36) → Int → Bool → Option (Bool)
  | 0, _, _, _ => none
  | k + 1, x0, x3, x39 => if x39 = true then (some false) else (spliceryref41_Valid.l1 k x0 x3 0)
def spliceryref41_Valid.l1 : Nat → List (S36) → Int → Int → Option (Bool)
  | 0, _, _, _ => none
  | k + 1, x0, x3, x4 => if 0 ≤ x3 then (if x3 < (x0.length : Int) then (if x4 < (((rd_T36 x0 x3).f1).length : Int) then (if 0 ≤ x4 then ((spliceryref41_condition.f k (rdOf ByteArray.empty ((rd_T36 x0 x3).f1) x4)).bind fun t485 => (if t485 = true then (spliceryref41_Valid.l1 k x0 x3 (wrap64 (x4 + 1))) else (some false))) else (none)) else (spliceryref41_Valid.l2 k x0 x3 0)) else (none)) else (none)
def spliceryref41_Valid.l2 : Nat → List (S36) → Int → Int → Option (Bool)
  | 0, _, _, _ => none
  | k + 1, x0, x3, x5 => if 0 ≤ x3 then (if x3 < (x0.length : Int) then (if x5 < (((rd_T36 x0 x3).f2).length : Int) then (if 0 ≤ x5 then ((spliceryref41_atom.f k (rdOf ByteArray.empty ((rd_T36 x0 x3).f2) x5)).bind fun t489 => (if t489 = true then (spliceryref41_Valid.l2 k x0 x3 (wrap64 (x5 + 1))) else (some false))) else (none)) else (spliceryref41_Valid.l0 k x0 (wrap64 (x3 + 1)))) else (none)) else (none)
end
def spliceryref41_Valid.f (k : Nat) (l0 : List (S36)) : Option (Bool) := if (l0.length : Int) > 32 then (some false) else (spliceryref41_Valid.l0 k l0 0)
end Go.Proofs.Ytjagffomohbioaa.L
