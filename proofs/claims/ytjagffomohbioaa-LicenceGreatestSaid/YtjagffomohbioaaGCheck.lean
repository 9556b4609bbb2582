/- Plain laws: slices.BinarySearch at increasing ints, and licence.Check as a plain function. -/
import Derived.Test.YtjagffomohbioaaHLaw
import Derived.Test.YtjagffomohbioaaLx4
set_option linter.unusedVariables false
set_option linter.unusedSimpArgs false
namespace Go.Proofs.Ytjagffomohbioaa.L
open Go.RowKit Go.Proofs.YtjagffomohbioaaW.PrintWords Go.Proofs.YtjagffomohbioaaW.PrintLast Go.Proofs.YtjagffomohbioaaW.PrintMore

theorem less_f (a b : Int) : cmp_Less_int.f a b = some (decide (a < b)) := by
  unfold cmp_Less_int.f cmp_isNaN_int.f
  simp
/-! ### Check -/
def okAt (all core : List Int) (j : Nat) : Bool := decide (rd core (j : Int) ∈ all) && (decide (j = 0) || decide (rd core ((j : Int) - 1) < rd core (j : Int)))
def outI (core : List Int) (i : Nat) : List Int := core.take i ++ core.drop (i + 1)
def tailC (l : List S36) (core : List Int) : Int := if fineB l core = true then 27 else (if (List.range core.length).all (fun i => fineB l (outI core i)) = true then 0 else 27)
def checkP (l : List S36) (sel core : List Int) : Int := if validP l = true then (if (List.range core.length).all (okAt (sortedP l sel) core) = true then tailC l core else 27) else 1
theorem range_drop (n i : Nat) (h : i < n) : (List.range n).drop i = i :: (List.range n).drop (i + 1) := by
  rw [List.drop_eq_getElem_cons (by simpa using h)]
  simp
theorem outI_len {core : List Int} {i : Nat} (hi : i < core.length) : (outI core i).length + 1 = core.length := by
  unfold outI
  simp only [List.length_append, List.length_take, List.length_drop]
  omega
theorem outI_sub (core : List Int) (i : Nat) : (outI core i).Sublist core := by
  unfold outI
  have h1 : (core.take i ++ core.drop (i + 1)).Sublist (core.take i ++ core.drop i) := (List.Sublist.refl _).append (by
    have e : core.drop (i + 1) = (core.drop i).drop 1 := by rw [List.drop_drop]
    rw [e]
    exact List.drop_sublist _ _)
  rw [List.take_append_drop] at h1
  exact h1
/-! ### The core is least -/
theorem okAt_sub {all core : List Int} (hinc : all.Pairwise (· < ·)) (h : core.Sublist all) : (List.range core.length).all (okAt all core) = true := by
  have hc := hinc.sublist h
  refine List.all_eq_true.2 fun j hj => ?_
  have hj' := List.mem_range.1 hj
  unfold okAt
  rw [Bool.and_eq_true, Bool.or_eq_true, decide_eq_true_eq, decide_eq_true_eq, decide_eq_true_eq]
  refine ⟨h.subset (rd_mem core _ (by omega) (by omega)), ?_⟩
  by_cases e : j = 0
  · exact .inl e
  · exact .inr (incr_at hc (by omega) (by omega) (by omega))
structure CoreOf (l : List S36) (all core : List Int) : Prop where
  sub : core.Sublist all
  bad : fineB l core = false
  least : ∀ q : List Int, q.Sublist all → q.length < core.length → fineB l q = true
theorem fineP_valid {l : List S36} (hv : validP l = true) (sel : List Int) : fineP l sel = fineB l (sortedP l sel) := by unfold fineP; rw [if_pos hv]
end Go.Proofs.Ytjagffomohbioaa.L
