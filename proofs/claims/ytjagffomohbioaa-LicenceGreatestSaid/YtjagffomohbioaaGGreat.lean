/- Plain laws: Greatest (both), the reference's Check. -/
import Derived.Test.YtjagffomohbioaaGCheck
import Derived.Test.YtjagffomohbioaaLx5
import Derived.Test.YtjagffomohbioaaLx12
import Derived.Test.YtjagffomohbioaaLx13
set_option linter.unusedVariables false
set_option linter.unusedSimpArgs false
namespace Go.Proofs.Ytjagffomohbioaa.L
open Go.RowKit Go.Proofs.YtjagffomohbioaaW.PrintWords Go.Proofs.YtjagffomohbioaaW.PrintLast Go.Proofs.YtjagffomohbioaaW.PrintMore

def stepG (l : List S36) (out : List Int) (i : Int) : List Int := if fineB l (sortedP l (out ++ [i])) = true then sortedP l (out ++ [i]) else out
def greatP (l : List S36) (sel : List Int) : List Int := if validP l = true then sel.foldl (stepG l) [] else []
structure OkG (l : List S36) (out : List Int) : Prop where
  incr : out.Pairwise (· < ·)
  rng : ∀ x, x ∈ out → 0 ≤ x ∧ x < (l.length : Int)
  fine : fineB l out = true
theorem OkG.nil (l : List S36) : OkG l [] := ⟨List.Pairwise.nil, fun x hx => absurd hx List.not_mem_nil, rfl⟩
theorem sortedP_in {l : List S36} {sel : List Int} {x : Int} (hx : x ∈ sel) (h0 : 0 ≤ x) (h1 : x < (l.length : Int)) : x ∈ sortedP l sel := by
  unfold sortedP
  rw [List.mem_filter, List.mem_map]
  exact ⟨⟨x.toNat, List.mem_range.2 (by omega), by omega⟩, by simpa using hx⟩
theorem OkG.self {l : List S36} {out : List Int} (h : OkG l out) : sortedP l out = out :=
  incr_ext (sortedP_incr l out) h.incr (fun x => ⟨fun hx => (sortedP_mem l out x hx).2.2, fun hx => sortedP_in hx (h.rng x hx).1 (h.rng x hx).2⟩)
theorem OkG.len {l : List S36} {out : List Int} (h : OkG l out) : out.length ≤ l.length := by
  rw [← h.self]
  exact sortedP_len l out
theorem OkG.step {l : List S36} {out : List Int} (h : OkG l out) (i : Int) : OkG l (stepG l out i) := by
  unfold stepG
  split
  · rename_i hf
    exact ⟨sortedP_incr l _, fun x hx => by have := sortedP_mem l _ x hx; exact ⟨this.1, this.2.1⟩, hf⟩
  · exact h
theorem stepG_sub {l : List S36} {out : List Int} (h : OkG l out) (i : Int) : ∀ x, x ∈ out → x ∈ stepG l out i := by
  intro x hx
  unfold stepG
  split
  · exact sortedP_in (List.mem_append.2 (.inl hx)) (h.rng x hx).1 (h.rng x hx).2
  · exact hx
theorem foldG_ok {l : List S36} : ∀ (s : List Int) (out : List Int), OkG l out → OkG l (s.foldl (stepG l) out) ∧ ∀ x, x ∈ out → x ∈ s.foldl (stepG l) out
  | [], out, h => ⟨h, fun x hx => hx⟩
  | i :: r, out, h => by
    obtain ⟨h1, h2⟩ := foldG_ok r (stepG l out i) (h.step i)
    exact ⟨h1, fun x hx => h2 x (stepG_sub h i x hx)⟩
theorem fineB_anti {l : List S36} {a b : List Int} (h : ∀ x, x ∈ a → x ∈ b) (hb : fineB l b = true) : fineB l a = true := by
  unfold fineB at *
  rw [Bool.not_eq_true', List.any_eq_false] at *
  intro s hs hm
  have hm' := (memB_fol _ _).1 hm
  refine hb s ?_ ((memB_fol _ _).2 (hm'.mono ?_))
  · unfold notOf at *
    obtain ⟨i, hi, hx⟩ := List.mem_flatMap.1 hs
    exact List.mem_flatMap.2 ⟨i, h i hi, hx⟩
  · intro x hx
    unfold mustOf at *
    obtain ⟨i, hi, hy⟩ := List.mem_flatMap.1 hx
    exact List.mem_flatMap.2 ⟨i, h i hi, hy⟩
theorem foldG_not {l : List S36} : ∀ (s : List Int) (out : List Int), OkG l out → ∀ e, e ∈ s → 0 ≤ e → e < (l.length : Int) → e ∉ s.foldl (stepG l) out → fineB l (sortedP l (s.foldl (stepG l) out ++ [e])) = false
  | [], out, h, e, he, _, _, _ => absurd he List.not_mem_nil
  | i :: r, out, h, e, he, h0, h1, hn => by
    rcases List.mem_cons.1 he with rfl | he
    · have hsub := (foldG_ok r (stepG l out e) (h.step e)).2
      have hout := (foldG_ok (e :: r) out h).2
      cases hf : fineB l (sortedP l (out ++ [e])) with
      | true =>
        exfalso
        apply hn
        refine hsub e ?_
        unfold stepG
        rw [if_pos hf]
        exact sortedP_in (List.mem_append.2 (.inr (List.mem_singleton.2 rfl))) h0 h1
      | false =>
        cases hg : fineB l (sortedP l ((e :: r).foldl (stepG l) out ++ [e])) with
        | false => rfl
        | true =>
          have := fineB_anti (a := sortedP l (out ++ [e])) (fun x hx => by
            have hx' := sortedP_mem l _ x hx
            refine sortedP_in ?_ hx'.1 hx'.2.1
            rcases List.mem_append.1 hx'.2.2 with h2 | h2
            · exact List.mem_append.2 (.inl (hout x h2))
            · exact List.mem_append.2 (.inr h2)) hg
          rw [hf] at this
          cases this
    · exact foldG_not r (stepG l out i) (h.step i) e he h0 h1 hn

/-! ### licence.Greatest -/
theorem great_l0 (l : List S36) (hv : validP l = true) (s : List Int) (hs : s.length ≤ 1000000) : ∀ (n i : Nat) (out : List Int), i + n = s.length → OkG l out → Ev (fun k => licence_Greatest.l0 k l out s (s.length : Int) (i : Int)) ((s.drop i).foldl (stepG l) out)
  | 0, i, out, hi, ho => by
    rw [List.drop_eq_nil_of_le (by omega)]
    refine Ev.succ (g := fun _ => some out) (fun k => ?_) (Ev.const rfl)
    rw [licence_Greatest.l0, if_neg (by omega)]
  | n + 1, i, out, hi, ho => by
    have hw : wrap64 ((i : Int) + 1) = ((i + 1 : Nat) : Int) := w64 (by omega) (by omega)
    have hol := ho.len
    have hvl := valid_len hv
    have hcl : slices_Clone.f out = some out := by unfold slices_Clone.f; rw [if_pos (by omega)]
    have hsf : licence_sorted.f l (out ++ [rd s (i : Int)]) = some (sortedP l (out ++ [rd s (i : Int)])) := by unfold licence_sorted.f; rw [if_pos (by simp; omega)]
    have hfi : licence_fine.f l (sortedP l (out ++ [rd s (i : Int)])) = some (fineB l (sortedP l (out ++ [rd s (i : Int)]))) := by unfold licence_fine.f; rw [if_pos (fineOk_sorted _ hv)]
    have eq : ∀ k, licence_Greatest.l0 (k + 1) l out s (s.length : Int) (i : Int) = if fineB l (sortedP l (out ++ [rd s (i : Int)])) = true then licence_Greatest.l0 k l (sortedP l (out ++ [rd s (i : Int)])) s (s.length : Int) ((i + 1 : Nat) : Int) else licence_Greatest.l0 k l out s (s.length : Int) ((i + 1 : Nat) : Int) := fun k => by
      rw [licence_Greatest.l0, if_pos (by omega), if_pos (by omega), if_pos (by omega), hcl, Option.bind_some, if_pos (by omega), hsf, Option.bind_some, hfi, Option.bind_some, hw]
    rw [drop_cons 0 s i (by omega), List.foldl_cons]
    have hst : stepG l out (s.getD i 0) = if fineB l (sortedP l (out ++ [rd s (i : Int)])) = true then sortedP l (out ++ [rd s (i : Int)]) else out := rfl
    have ih := great_l0 l hv s hs n (i + 1) (stepG l out (s.getD i 0)) (by omega) (ho.step _)
    cases hf : fineB l (sortedP l (out ++ [rd s (i : Int)])) with
    | true =>
      rw [hst, hf, if_pos rfl] at ih ⊢
      exact Ev.succ (fun k => by rw [eq k, hf, if_pos rfl]) ih
    | false =>
      rw [hst, hf, if_neg Bool.false_ne_true] at ih ⊢
      exact Ev.succ (fun k => by rw [eq k, hf, if_neg Bool.false_ne_true]) ih
theorem great_ev (l : List S36) (hb : l.all boundC = true) (s : List Int) (hs : s.length ≤ 1000000) : Ev (fun k => licence_Greatest.f k l s) (greatP l s) := by
  have hvf : licence_Valid.f l = some (validP l) := by unfold licence_Valid.f; rw [if_pos hb]
  unfold greatP
  refine Ev.bind (Ev.const hvf) ?_
  cases hv : validP l with
  | false => exact Ev.const rfl
  | true =>
    refine Ev.congr (fun k => by rw [if_pos rfl]) ?_
    rw [if_pos rfl]
    simpa using great_l0 l hv s hs s.length 0 [] (by omega) (OkG.nil l)

/-! ### The reference's -/
theorem refGreat_l0 (l : List S36) (hb : l.all boundC = true) (hv : validP l = true) (s : List Int) (hs : s.length ≤ 1000000) : ∀ (n i : Nat) (out : List Int), i + n = s.length → OkG l out → Ev (fun k => spliceryref41_Greatest.l0 k l s out (i : Int)) ((s.drop i).foldl (stepG l) out)
  | 0, i, out, hi, ho => by
    rw [List.drop_eq_nil_of_le (by omega)]
    refine Ev.succ (g := fun _ => some out) (fun k => ?_) (Ev.const rfl)
    rw [spliceryref41_Greatest.l0, if_neg (by omega)]
  | n + 1, i, out, hi, ho => by
    have hw : wrap64 ((i : Int) + 1) = ((i + 1 : Nat) : Int) := w64 (by omega) (by omega)
    have hol := ho.len
    have hvl := valid_len hv
    have hso := sorted_ev l (by omega) (out ++ [rd s (i : Int)]) (by simp; omega)
    have hfi := refFine_ev l hb (sortedP l (out ++ [rd s (i : Int)])) (by have := sortedP_len l (out ++ [rd s (i : Int)]); omega)
    rw [refFine_sub (l1 := out ++ [rd s (i : Int)]) hv (List.Sublist.refl _)] at hfi
    rw [drop_cons 0 s i (by omega), List.foldl_cons]
    have hst : stepG l out (s.getD i 0) = if fineB l (sortedP l (out ++ [rd s (i : Int)])) = true then sortedP l (out ++ [rd s (i : Int)]) else out := rfl
    have ih := refGreat_l0 l hb hv s hs n (i + 1) (stepG l out (s.getD i 0)) (by omega) (ho.step _)
    refine Ev.succ (g := fun k => (spliceryref41_Sorted.f k l (out ++ [rd s (i : Int)])).bind fun t562 => ((spliceryref41_Fine.f k l t562).bind fun t565 => (if t565 = true then (spliceryref41_Greatest.l0 k l s t562 ((i + 1 : Nat) : Int)) else (spliceryref41_Greatest.l0 k l s out ((i + 1 : Nat) : Int))))) (fun k => ?_) (Ev.bind hso (Ev.bind hfi ?_))
    · rw [spliceryref41_Greatest.l0, if_pos (by omega)]
      simp only [Option.bind_some, List.nil_append]
      rw [if_pos (by simp; omega), if_pos (by omega), if_pos (by simp; omega), hw]
    · cases hf : fineB l (sortedP l (out ++ [rd s (i : Int)])) with
      | true =>
        rw [hst, hf, if_pos rfl] at ih ⊢
        exact Ev.congr (fun k => by rw [if_pos rfl]) ih
      | false =>
        rw [hst, hf, if_neg Bool.false_ne_true] at ih ⊢
        exact Ev.congr (fun k => by rw [if_neg Bool.false_ne_true]) ih
theorem refGreat_ev (l : List S36) (hb : l.all boundC = true) (s : List Int) (hs : s.length ≤ 1000000) : Ev (fun k => spliceryref41_Greatest.f k l s) (greatP l s) := by
  unfold greatP
  refine Ev.bind (valid_ev l hb) ?_
  cases hv : validP l with
  | false => exact Ev.const rfl
  | true =>
    refine Ev.congr (fun k => by rw [if_pos rfl]) ?_
    rw [if_pos rfl]
    simpa using refGreat_l0 l hb hv s hs s.length 0 [] (by omega) (OkG.nil l)

theorem any_mem (all : List Int) (x : Int) : all.any (fun y => y == x) = decide (x ∈ all) := by
  rw [Bool.eq_iff_iff, decide_eq_true_eq, List.any_eq_true]
  constructor
  · rintro ⟨y, hy, e⟩
    rw [← (by simpa using e : y = x)]
    exact hy
  · exact fun h => ⟨x, h, by simp⟩
end Go.Proofs.Ytjagffomohbioaa.L
