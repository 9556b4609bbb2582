-- Written by a program of this session (patch_print.py over the kit's print) out of the translation. Not trusted: Lean checks it.
import Derived.Test.YtjagffomohbioaaLx0
import Derived.Test.YtjagffomohbioaaLx8
namespace Go.Proofs.Ytjagffomohbioaa.L
open Go.RowKit Go.Proofs.YtjagffomohbioaaW.PrintWords Go.Proofs.YtjagffomohbioaaW.PrintLast Go.Proofs.YtjagffomohbioaaW.PrintMore
attribute [local go_sem] max2_int min2_int max_two min_two max_three min_three max_four min_four   -- for this text's walks alone
set_option linter.unusedVariables false
set_option linter.unusedSimpArgs false

/-! ### spliceryref41_has: function 39 -/
def spliceryref41_has.l0 : Nat → List ByteArray → ByteArray → Int → Option (Bool)
  | 0, _, _, _ => none
  | k + 1, x0, x1, x5 => if x5 < (x0.length : Int) then (if 0 ≤ x5 then (if (rdOf ByteArray.empty x0 x5).toList = x1.toList then (some true) else (spliceryref41_has.l0 k x0 x1 (wrap64 (x5 + 1)))) else (none)) else (some false)
def spliceryref41_has.f (k : Nat) (l0 : List ByteArray) (a1 : ByteArray) : Option (Bool) := spliceryref41_has.l0 k l0 a1 0
/-! ### spliceryref41_Follows: function 38 -/
mutual
def spliceryref41_Follows.l0 : Nat → List (S36) → List Int → List ByteArray → Int → Option (List ByteArray)
  | 0, _, _, _, _ => none
  | k + 1, x0, x1, x5, x6 => if x6 < (x1.length : Int) then (if 0 ≤ x6 then (if (rd x1 x6) ≥ 0 then (if (rd x1 x6) < (x0.length : Int) then (if 0 ≤ (rd x1 x6) then (if x5.length + ((rd_T36 x0 (rd x1 x6)).f1).length < 8796093022208 then (spliceryref41_Follows.l0 k x0 x1 (x5 ++ ((rd_T36 x0 (rd x1 x6)).f1)) (wrap64 (x6 + 1))) else (none)) else (none)) else (spliceryref41_Follows.l0 k x0 x1 x5 (wrap64 (x6 + 1)))) else (spliceryref41_Follows.l0 k x0 x1 x5 (wrap64 (x6 + 1)))) else (none)) else (spliceryref41_Follows.l1 k x5 ([] : List ByteArray) 0)
def spliceryref41_Follows.l1 : Nat → List ByteArray → List ByteArray → Int → Option (List ByteArray)
  | 0, _, _, _ => none
  | k + 1, x5, x7, x8 => if x8 ≤ (x5.length : Int) then (spliceryref41_Follows.l2 k x5 x7 x8 0) else (some x7)
def spliceryref41_Follows.l2 : Nat → List ByteArray → List ByteArray → Int → Int → Option (List ByteArray)
  | 0, _, _, _, _ => none
  | k + 1, x5, x7, x8, x9 => if x9 < (x5.length : Int) then (if 0 ≤ x9 then ((spliceryref41_split.f k (rdOf ByteArray.empty x5 x9)).bind fun bt499 => (if bt499.2.2 = true then ((spliceryref41_has.f k x7 bt499.1).bind fun t502 => (if t502 = true then ((spliceryref41_has.f k x7 bt499.2.1).bind fun t503 => (spliceryref41_Follows.j3 k x5 x7 x8 x9 bt499.1 bt499.2.1 bt499.2.2 (!t503))) else (spliceryref41_Follows.j3 k x5 x7 x8 x9 bt499.1 bt499.2.1 bt499.2.2 false))) else (spliceryref41_Follows.j3 k x5 x7 x8 x9 bt499.1 bt499.2.1 bt499.2.2 false))) else (none)) else (spliceryref41_Follows.l1 k x5 x7 (wrap64 (x8 + 1)))
def spliceryref41_Follows.j3 : Nat → List ByteArray → List ByteArray → Int → Int → ByteArray → ByteArray → Bool → Bool → Option (List ByteArray)
  | 0, _, _, _, _, _, _, _, _ => none
  | k + 1, x5, x7, x8, x9, x10, x11, x12, x75 => if x75 = true then (if x7.length < 8796093022208 then ((some (x7 ++ [x11] : List ByteArray)).bind fun y504 => (if x12 = true then (spliceryref41_Follows.l2 k x5 y504 x8 (wrap64 (x9 + 1))) else ((spliceryref41_has.f k y504 x10).bind fun t507 => (if t507 = true then (spliceryref41_Follows.l2 k x5 y504 x8 (wrap64 (x9 + 1))) else (if y504.length < 8796093022208 then (spliceryref41_Follows.l2 k x5 (y504 ++ [x10]) x8 (wrap64 (x9 + 1))) else (none)))))) else (none)) else (if x12 = true then (spliceryref41_Follows.l2 k x5 x7 x8 (wrap64 (x9 + 1))) else ((spliceryref41_has.f k x7 x10).bind fun t511 => (if t511 = true then (spliceryref41_Follows.l2 k x5 x7 x8 (wrap64 (x9 + 1))) else (if x7.length < 8796093022208 then (spliceryref41_Follows.l2 k x5 (x7 ++ [x10]) x8 (wrap64 (x9 + 1))) else (none)))))
end
def spliceryref41_Follows.f (k : Nat) (l0 : List (S36)) (l1 : List Int) : Option (List ByteArray) := spliceryref41_Follows.l0 k l0 l1 ([] : List ByteArray) 0
end Go.Proofs.Ytjagffomohbioaa.L
