-- Written by a program of this session (patch_print.py over the kit's print) out of the translation. Not trusted: Lean checks it.
import Derived.Test.YtjagffomohbioaaLx0
namespace Go.Proofs.Ytjagffomohbioaa.L
open Go.RowKit Go.Proofs.YtjagffomohbioaaW.PrintWords Go.Proofs.YtjagffomohbioaaW.PrintLast Go.Proofs.YtjagffomohbioaaW.PrintMore
attribute [local go_sem] max2_int min2_int max_two min_two max_three min_three max_four min_four   -- for this text's walks alone
set_option linter.unusedVariables false
set_option linter.unusedSimpArgs false

/-! ### spliceryref41_chosen: function 40 -/
def spliceryref41_chosen.l0 : Nat → List Int → Int → List Int → Int → Option (List Int)
  | 0, _, _, _, _ => none
  | k + 1, x0, x1, x5, x6 => if x6 < (x0.length : Int) then (if 0 ≤ (IntKind.u64.wrap (x6)) then (if (Int.tmod (shr .i64 x1 (IntKind.u64.wrap (x6))) 2) = 1 then (if 0 ≤ x6 then (if x5.length < 17592186044416 then (spliceryref41_chosen.l0 k x0 x1 (x5 ++ [rd x0 x6]) (wrap64 (x6 + 1))) else (none)) else (none)) else (spliceryref41_chosen.l0 k x0 x1 x5 (wrap64 (x6 + 1)))) else (none)) else (some x5)
def spliceryref41_chosen.f (k : Nat) (l0 : List Int) (a1 : Int) : Option (List Int) := spliceryref41_chosen.l0 k l0 a1 ([] : List Int) 0
/-! ### spliceryref41_less: function 41 -/
def spliceryref41_less.l0 : Nat → List Int → List Int → Int → Option (Bool)
  | 0, _, _, _ => none
  | k + 1, x0, x1, x5 => if x5 < (x0.length : Int) then (if 0 ≤ x5 then (if x5 < (x1.length : Int) then (if (rd x0 x5) = (rd x1 x5) then (spliceryref41_less.l0 k x0 x1 (wrap64 (x5 + 1))) else (some (decide ((rd x0 x5) < (rd x1 x5))))) else (none)) else (none)) else (some false)
def spliceryref41_less.f (k : Nat) (l0 : List Int) (l1 : List Int) : Option (Bool) := if (l0.length : Int) = (l1.length : Int) then (spliceryref41_less.l0 k l0 l1 0) else (some (decide ((l0.length : Int) < (l1.length : Int))))
/-! ### spliceryref41_Sorted: function 20 -/
mutual
def spliceryref41_Sorted.l0 : Nat → List (S36) → List Int → List Int → Int → Option (List Int)
  | 0, _, _, _, _ => none
  | k + 1, x0, x1, x5, x6 => if x6 < (x0.length : Int) then (spliceryref41_Sorted.l1 k x0 x1 x5 x6 0) else (some x5)
def spliceryref41_Sorted.l1 : Nat → List (S36) → List Int → List Int → Int → Int → Option (List Int)
  | 0, _, _, _, _, _ => none
  | k + 1, x0, x1, x5, x6, x7 => if x7 < (x1.length : Int) then (if 0 ≤ x7 then (if (rd x1 x7) = x6 then (if x5.length < 17592186044416 then (spliceryref41_Sorted.l0 k x0 x1 (x5 ++ [x6]) (wrap64 (x6 + 1))) else (none)) else (spliceryref41_Sorted.l1 k x0 x1 x5 x6 (wrap64 (x7 + 1)))) else (none)) else (spliceryref41_Sorted.l0 k x0 x1 x5 (wrap64 (x6 + 1)))
end
def spliceryref41_Sorted.f (k : Nat) (l0 : List (S36)) (l1 : List Int) : Option (List Int) := spliceryref41_Sorted.l0 k l0 l1 ([] : List Int) 0
/-! ### spliceryref41_split: function 50 -/
def spliceryref41_split.l0 : Nat → ByteArray → Int → Option (ByteArray × ByteArray × Bool)
  | 0, _, _ => none
  | k + 1, x0, x5 => if x5 < (x0.size : Int) then (if 0 ≤ x5 then (if (bt x0 x5) = 62 then (if x5 ≤ (x0.size : Int) then (if 0 ≤ (wrap64 (x5 + 1)) then (if (wrap64 (x5 + 1)) ≤ (x0.size : Int) then (some (x0.extract 0 (x5 : Int).toNat, x0.extract ((wrap64 (x5 + 1)) : Int).toNat x0.size, true)) else (none)) else (none)) else (none)) else (spliceryref41_split.l0 k x0 (wrap64 (x5 + 1)))) else (none)) else (some (x0, (⟨#[]⟩ : ByteArray), false))
def spliceryref41_split.f (k : Nat) (a0 : ByteArray) : Option (ByteArray × ByteArray × Bool) := spliceryref41_split.l0 k a0 0
/-! ### spliceryref41_atom: function 35 -/
def spliceryref41_atom.f (k : Nat) (a0 : ByteArray) : Option (Bool) := (spliceryref41_split.f k a0).bind fun bt470 => (if (a0.size : Int) ≥ 1 then (if (a0.size : Int) ≤ 16 then (some (!bt470.2.2)) else (some false)) else (some false))
/-! ### spliceryref41_condition: function 34 -/
def spliceryref41_condition.f (k : Nat) (a0 : ByteArray) : Option (Bool) := (spliceryref41_split.f k a0).bind fun bt473 => ((spliceryref41_atom.f k a0).bind fun t476 => (if t476 = true then (some true) else (if bt473.2.2 = true then ((spliceryref41_atom.f k bt473.1).bind fun t477 => (if t477 = true then ((spliceryref41_atom.f k bt473.2.1).bind fun t478 => (some t478)) else (some false))) else (some false))))
end Go.Proofs.Ytjagffomohbioaa.L
