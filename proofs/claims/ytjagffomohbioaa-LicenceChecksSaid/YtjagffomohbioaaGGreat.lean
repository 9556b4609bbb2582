/- Plain laws: Greatest (both), the reference's Check. -/
import Derived.Test.YtjagffomohbioaaGCheck
import Derived.Test.YtjagffomohbioaaLx5
import Derived.Test.YtjagffomohbioaaLx12
import Derived.Test.YtjagffomohbioaaLx13
set_option linter.unusedVariables false
set_option linter.unusedSimpArgs false
namespace Go.Proofs.Ytjagffomohbioaa.L
open Go.RowKit Go.Proofs.YtjagffomohbioaaW.PrintWords Go.Proofs.YtjagffomohbioaaW.PrintLast Go.Proofs.YtjagffomohbioaaW.PrintMore

def stepG (l : List S36) (out : List Int) (i : Int) : List Int := if fineB l (sortedP l (out ++ [i])) = true then sortedP l (out ++ [i]) else out
def greatP (l : List S36) (sel : List Int) : List Int := if validP l = true then sel.foldl (stepG l) [] else []
structure OkG (l : List S36) (out : List Int) : Prop where
  incr : out.Pairwise (· < ·)
  rng : ∀ x, x ∈ out → 0 ≤ x ∧ x < (l.length : Int)
  fine : fineB l out = true
/-! ### licence.Greatest -/
/-! ### The reference's -/
theorem rcheck_l1 (l : List S36) (core all : List Int) (hal : all.length ≤ 1000000) (hc : core.length ≤ 1000000) (i : Nat) (hi : i < core.length) (rest : Int) (hr : Ev (fun k => spliceryref41_Check.l0 k l core all ((i + 1 : Nat) : Int)) rest) :
    ∀ (n j : Nat) (b : Bool), j + n = all.length → Ev (fun k => spliceryref41_Check.l1 k l core all (i : Int) b (j : Int)) (if (b || (all.drop j).any (fun x => x == rd core (i : Int))) = true then (if (decide (i = 0) || decide (rd core ((i : Int) - 1) < rd core (i : Int))) = true then rest else 27) else 27)
  | 0, j, b, hj => by
    have hw : wrap64 ((i : Int) + 1) = ((i + 1 : Nat) : Int) := w64 (by omega) (by omega)
    rw [List.drop_eq_nil_of_le (by omega), List.any_nil, Bool.or_false]
    cases b with
    | false =>
      rw [if_neg Bool.false_ne_true]
      refine Ev.succ (g := fun _ => some 27) (fun k => ?_) (Ev.const rfl)
      rw [spliceryref41_Check.l1, if_neg (by omega), if_neg Bool.false_ne_true]
    | true =>
      rw [if_pos rfl]
      by_cases h0 : i = 0
      · rw [decide_eq_true h0, Bool.true_or, if_pos rfl]
        refine Ev.succ (fun k => ?_) hr
        rw [spliceryref41_Check.l1, if_neg (by omega), if_pos rfl, if_neg (by omega), hw]
      · have hw2 : wrap64 ((i : Int) - 1) = (i : Int) - 1 := w64 (by omega) (by omega)
        rw [decide_eq_false h0, Bool.false_or]
        by_cases hlt : rd core ((i : Int) - 1) < rd core (i : Int)
        · rw [decide_eq_true hlt, if_pos rfl]
          refine Ev.succ (fun k => ?_) hr
          rw [spliceryref41_Check.l1, if_neg (by omega), if_pos rfl, if_pos (by omega), if_pos (by omega), if_pos (by omega), hw2, if_pos (by omega), if_pos (by omega), if_neg (by omega), hw]
        · rw [decide_eq_false hlt, if_neg Bool.false_ne_true]
          refine Ev.succ (g := fun _ => some 27) (fun k => ?_) (Ev.const rfl)
          rw [spliceryref41_Check.l1, if_neg (by omega), if_pos rfl, if_pos (by omega), if_pos (by omega), if_pos (by omega), hw2, if_pos (by omega), if_pos (by omega), if_pos (by omega)]
  | n + 1, j, b, hj => by
    have hw : wrap64 ((j : Int) + 1) = ((j + 1 : Nat) : Int) := w64 (by omega) (by omega)
    rw [drop_cons 0 all j (by omega), List.any_cons]
    cases b with
    | true =>
      have ih := rcheck_l1 l core all hal hc i hi rest hr n (j + 1) true (by omega)
      rw [Bool.true_or] at ih ⊢
      refine Ev.succ (fun k => ?_) ih
      rw [spliceryref41_Check.l1, if_pos (by omega), if_pos rfl, hw]
    | false =>
      have ih := rcheck_l1 l core all hal hc i hi rest hr n (j + 1) (all.getD j 0 == rd core (i : Int)) (by omega)
      rw [Bool.false_or]
      refine Ev.succ (fun k => ?_) ih
      rw [spliceryref41_Check.l1, if_pos (by omega), if_neg Bool.false_ne_true, if_pos (by omega), if_pos (by omega), if_pos (by omega), hw]
      rfl
theorem any_mem (all : List Int) (x : Int) : all.any (fun y => y == x) = decide (x ∈ all) := by
  rw [Bool.eq_iff_iff, decide_eq_true_eq, List.any_eq_true]
  constructor
  · rintro ⟨y, hy, e⟩
    rw [← (by simpa using e : y = x)]
    exact hy
  · exact fun h => ⟨x, h, by simp⟩
theorem rcheck_l2 (l : List S36) (hb : l.all boundC = true) (core : List Int) (hc : core.length ≤ 1000000) : ∀ n i : Nat, i + n = core.length →
    Ev (fun k => spliceryref41_Check.l2 k l core (i : Int)) (if ((List.range core.length).drop i).all (fun i => refFine l (outI core i)) = true then 0 else 27)
  | 0, i, hi => by
    rw [List.drop_eq_nil_of_le (by simp; omega), List.all_nil, if_pos rfl]
    refine Ev.succ (g := fun _ => some 0) (fun k => ?_) (Ev.const rfl)
    rw [spliceryref41_Check.l2, if_neg (by omega)]
  | n + 1, i, hi => by
    have hw : wrap64 ((i : Int) + 1) = ((i + 1 : Nat) : Int) := w64 (by omega) (by omega)
    have hwo := without_eq core hc i (by omega)
    have hfi := refFine_ev l hb (outI core i) (by have := (outI_sub core i).length_le; omega)
    rw [range_drop _ _ (by omega), List.all_cons]
    refine Ev.succ (g := fun k => (spliceryref41_Fine.f k l (outI core i)).bind fun t547 => (if t547 = true then (spliceryref41_Check.l2 k l core ((i + 1 : Nat) : Int)) else (some 27))) (fun k => ?_) (Ev.bind hfi ?_)
    · rw [spliceryref41_Check.l2, if_pos (by omega), hwo, Option.bind_some, hw]
      rfl
    · cases h : refFine l (outI core i) with
      | true =>
        refine Ev.congr (fun k => by rw [if_pos rfl]) ?_
        simpa using rcheck_l2 l hb core hc n (i + 1) (by omega)
      | false => exact Ev.congr (g := fun _ => some 27) (fun k => by rw [if_neg Bool.false_ne_true]) (Ev.const (by simp))
theorem rcheck_l0 (l : List S36) (all core : List Int) (hal : all.length ≤ 1000000) (hc : core.length ≤ 1000000) (tail : Int)
    (ht : Ev (fun k => (spliceryref41_Fine.f k l core).bind fun t543 => (if t543 = true then (some 27) else (spliceryref41_Check.l2 k l core 0))) tail) :
    ∀ n i : Nat, i + n = core.length → Ev (fun k => spliceryref41_Check.l0 k l core all (i : Int)) (if ((List.range core.length).drop i).all (okAt all core) = true then tail else 27)
  | 0, i, hi => by
    rw [List.drop_eq_nil_of_le (by simp; omega), List.all_nil, if_pos rfl]
    refine Ev.succ (fun k => ?_) ht
    rw [spliceryref41_Check.l0, if_neg (by omega)]
  | n + 1, i, hi => by
    have hok : okAt all core i = (decide (rd core (i : Int) ∈ all) && (decide (i = 0) || decide (rd core ((i : Int) - 1) < rd core (i : Int)))) := rfl
    have ih := rcheck_l0 l all core hal hc tail ht n (i + 1) (by omega)
    have h1 := rcheck_l1 l core all hal hc i (by omega) _ ih all.length 0 false (by omega)
    rw [List.drop_zero, Bool.false_or, any_mem] at h1
    rw [range_drop _ _ (by omega), List.all_cons]
    refine Ev.succ (g := fun k => spliceryref41_Check.l1 k l core all (i : Int) false ((0 : Nat) : Int)) (fun k => by rw [spliceryref41_Check.l0, if_pos (by omega)]; rfl) ?_
    rw [hok]
    generalize decide (rd core (i : Int) ∈ all) = b1 at h1 ⊢
    generalize (decide (i = 0) || decide (rd core ((i : Int) - 1) < rd core (i : Int))) = b2 at h1 ⊢
    cases b1 <;> cases b2 <;> simpa using h1
theorem refCheck_ev (l : List S36) (hb : l.all boundC = true) (sel : List Int) (hs : sel.length ≤ 1000000) (core : List Int) (hc : core.length ≤ 1000000) : Ev (fun k => spliceryref41_Check.f k l sel core) (checkP l sel core) := by
  unfold checkP
  refine Ev.bind (valid_ev l hb) ?_
  cases hv : validP l with
  | false => exact Ev.const rfl
  | true =>
    have hvl := valid_len hv
    refine Ev.congr (fun k => by rw [if_pos rfl]) (Ev.bind (sorted_ev l (by omega) sel hs) ?_)
    rw [if_pos rfl]
    have hal := sortedP_len l sel
    have ht : Ev (fun k => (spliceryref41_Fine.f k l core).bind fun t543 => (if t543 = true then (some 27) else (spliceryref41_Check.l2 k l core 0))) (if refFine l core = true then 27 else (if (List.range core.length).all (fun i => refFine l (outI core i)) = true then 0 else 27)) := by
      refine Ev.bind (refFine_ev l hb core hc) ?_
      cases hf : refFine l core with
      | true => exact Ev.const rfl
      | false =>
        refine Ev.congr (fun k => by rw [if_neg Bool.false_ne_true]) ?_
        rw [if_neg Bool.false_ne_true]
        simpa using rcheck_l2 l hb core hc core.length 0 (by omega)
    have h0 := rcheck_l0 l (sortedP l sel) core (by omega) hc _ ht core.length 0 (by omega)
    rw [List.drop_zero] at h0
    by_cases hall : (List.range core.length).all (okAt (sortedP l sel) core) = true
    · rw [if_pos hall] at h0 ⊢
      have hin : ∀ x, x ∈ core → 0 ≤ x ∧ x < (l.length : Int) := fun x hx => by have := sortedP_mem l sel x (okAt_mem hall x hx); exact ⟨this.1, this.2.1⟩
      have e1 : refFine l core = fineB l core := by unfold refFine; rw [if_pos hv, inR_self hin]
      have e2 : (fun i => refFine l (outI core i)) = fun i => fineB l (outI core i) := funext fun i => by
        unfold refFine
        rw [if_pos hv, inR_self (fun x hx => hin x ((outI_sub core i).subset hx))]
      rw [e1, e2] at h0
      exact h0
    · rw [if_neg hall] at h0 ⊢
      exact h0
end Go.Proofs.Ytjagffomohbioaa.L
