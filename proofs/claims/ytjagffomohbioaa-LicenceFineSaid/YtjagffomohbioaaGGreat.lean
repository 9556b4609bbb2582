/- Plain laws: Greatest (both), the reference's Check. -/
import Derived.Test.YtjagffomohbioaaHLaw
import Derived.Test.YtjagffomohbioaaLx4
import Derived.Test.YtjagffomohbioaaLx5
import Derived.Test.YtjagffomohbioaaLx12
import Derived.Test.YtjagffomohbioaaLx13
set_option linter.unusedVariables false
set_option linter.unusedSimpArgs false
namespace Go.Proofs.Ytjagffomohbioaa.L
open Go.RowKit Go.Proofs.YtjagffomohbioaaW.PrintWords Go.Proofs.YtjagffomohbioaaW.PrintLast Go.Proofs.YtjagffomohbioaaW.PrintMore

def stepG (l : List S36) (out : List Int) (i : Int) : List Int := if fineB l (sortedP l (out ++ [i])) = true then sortedP l (out ++ [i]) else out
def greatP (l : List S36) (sel : List Int) : List Int := if validP l = true then sel.foldl (stepG l) [] else []
structure OkG (l : List S36) (out : List Int) : Prop where
  incr : out.Pairwise (· < ·)
  rng : ∀ x, x ∈ out → 0 ≤ x ∧ x < (l.length : Int)
  fine : fineB l out = true
theorem sortedP_in {l : List S36} {sel : List Int} {x : Int} (hx : x ∈ sel) (h0 : 0 ≤ x) (h1 : x < (l.length : Int)) : x ∈ sortedP l sel := by
  unfold sortedP
  rw [List.mem_filter, List.mem_map]
  exact ⟨⟨x.toNat, List.mem_range.2 (by omega), by omega⟩, by simpa using hx⟩
theorem fineB_anti {l : List S36} {a b : List Int} (h : ∀ x, x ∈ a → x ∈ b) (hb : fineB l b = true) : fineB l a = true := by
  unfold fineB at *
  rw [Bool.not_eq_true', List.any_eq_false] at *
  intro s hs hm
  have hm' := (memB_fol _ _).1 hm
  refine hb s ?_ ((memB_fol _ _).2 (hm'.mono ?_))
  · unfold notOf at *
    obtain ⟨i, hi, hx⟩ := List.mem_flatMap.1 hs
    exact List.mem_flatMap.2 ⟨i, h i hi, hx⟩
  · intro x hx
    unfold mustOf at *
    obtain ⟨i, hi, hy⟩ := List.mem_flatMap.1 hx
    exact List.mem_flatMap.2 ⟨i, h i hi, hy⟩
/-! ### licence.Greatest -/
/-! ### The reference's -/
theorem any_mem (all : List Int) (x : Int) : all.any (fun y => y == x) = decide (x ∈ all) := by
  rw [Bool.eq_iff_iff, decide_eq_true_eq, List.any_eq_true]
  constructor
  · rintro ⟨y, hy, e⟩
    rw [← (by simpa using e : y = x)]
    exact hy
  · exact fun h => ⟨x, h, by simp⟩
end Go.Proofs.Ytjagffomohbioaa.L
