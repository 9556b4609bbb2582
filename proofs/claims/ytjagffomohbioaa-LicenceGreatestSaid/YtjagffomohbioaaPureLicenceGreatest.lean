/- The plain law of LicenceGreatest. -/
import Derived.Test.YtjagffomohbioaaGGreat
import Derived.Test.YtjagffomohbioaaLx14
set_option linter.unusedVariables false
set_option linter.unusedSimpArgs false
namespace Go.Proofs.Ytjagffomohbioaa.L
open Go.RowKit Go.Proofs.YtjagffomohbioaaW.PrintWords Go.Proofs.YtjagffomohbioaaW.PrintLast

theorem greatP_len (l : List S36) (s : List Int) : (greatP l s).length ≤ l.length := by
  unfold greatP
  split
  · exact (foldG_ok s [] (OkG.nil l)).1.len
  · exact Nat.zero_le _
theorem glaw_l1 (c : List S36) (hb : c.all boundC = true) (g all : List Int) (hg : g.length ≤ 1000) (hal : all.length ≤ 1000) (i : Nat) (hi : i < all.length)
    (hr : Ev (fun k => splicerylaw41_LicenceGreatest.l0 k c g all ((i + 1 : Nat) : Int)) true) :
    ∀ (m j : Nat) (b : Bool), j + m = g.length → ((b || (g.drop j).any (fun x => x == rd all (i : Int))) = true ∨ fineP c (g ++ [rd all (i : Int)]) = false) →
      Ev (fun k => splicerylaw41_LicenceGreatest.l1 k c g all (i : Int) b (j : Int)) true
  | 0, j, b, hj, h => by
    have hw : wrap64 ((i : Int) + 1) = ((i + 1 : Nat) : Int) := w64 (by omega) (by omega)
    cases b with
    | true =>
      refine Ev.succ (fun k => ?_) hr
      rw [splicerylaw41_LicenceGreatest.l1, if_neg (by omega), if_pos rfl, hw]
    | false =>
      have hf : fineP c (g ++ [rd all (i : Int)]) = false := by
        rcases h with h | h
        · rw [List.drop_eq_nil_of_le (by omega)] at h
          simp at h
        · exact h
      refine Ev.succ (fun k => ?_) hr
      rw [splicerylaw41_LicenceGreatest.l1, if_neg (by omega), if_neg Bool.false_ne_true]
      simp only [Option.bind_some, List.nil_append]
      rw [if_pos (by simp; omega), if_pos (by omega), if_pos (by omega), if_pos (by simp; omega), fine_f hb (by simp; omega), hf]
      simp only [Option.bind_some]
      rw [if_neg Bool.false_ne_true, hw]
  | m + 1, j, b, hj, h => by
    have hw : wrap64 ((j : Int) + 1) = ((j + 1 : Nat) : Int) := w64 (by omega) (by omega)
    rw [drop_cons 0 g j (by omega), List.any_cons] at h
    cases b with
    | true =>
      refine Ev.succ (fun k => ?_) (glaw_l1 c hb g all hg hal i hi hr m (j + 1) true (by omega) (.inl (by rw [Bool.true_or])))
      rw [splicerylaw41_LicenceGreatest.l1, if_pos (by omega), if_pos rfl, hw]
    | false =>
      rw [Bool.false_or] at h
      refine Ev.succ (fun k => ?_) (glaw_l1 c hb g all hg hal i hi hr m (j + 1) (g.getD j 0 == rd all (i : Int)) (by omega) h)
      rw [splicerylaw41_LicenceGreatest.l1, if_pos (by omega), if_neg Bool.false_ne_true, if_pos (by omega), if_pos (by omega), if_pos (by omega), hw]
      rfl
theorem glaw_l0 (c : List S36) (hb : c.all boundC = true) (g all : List Int) (hg : g.length ≤ 1000) (hal : all.length ≤ 1000)
    (h : ∀ i : Nat, i < all.length → (g.any (fun x => x == rd all (i : Int))) = true ∨ fineP c (g ++ [rd all (i : Int)]) = false) :
    ∀ n i : Nat, i + n = all.length → Ev (fun k => splicerylaw41_LicenceGreatest.l0 k c g all (i : Int)) true
  | 0, i, hi => by
    refine Ev.succ (g := fun k => (splicerylaw41_lives.f k).bind fun t435 => (some t435)) (fun k => ?_) (Ev.bind lives_ev (Ev.const rfl))
    rw [splicerylaw41_LicenceGreatest.l0, if_neg (by omega)]
  | n + 1, i, hi => by
    refine Ev.succ (g := fun k => splicerylaw41_LicenceGreatest.l1 k c g all (i : Int) false ((0 : Nat) : Int)) (fun k => ?_)
      (glaw_l1 c hb g all hg hal i (by omega) (glaw_l0 c hb g all hg hal h n (i + 1) (by omega)) g.length 0 false (by omega) (by rw [List.drop_zero, Bool.false_or]; exact h i (by omega)))
    rw [splicerylaw41_LicenceGreatest.l0, if_pos (by omega)]
    rfl
theorem greatest_pure : splicerylaw41_LicenceGreatest.Pure := by
  intro l0 l1 a2 a3 h1 h2 h3 h4 h5 h6 h7 h8
  obtain ⟨c, hc, hc8, hcv⟩ := clauses_ev l0 h3
  obtain ⟨s, hs, hs10⟩ := picks_ev l1 h6 h4
  obtain ⟨x, hx, hx100, hxo⟩ := spoilt_ev c hc8 hcv a2 a3 h7 h8
  have hb := all_bound (valid_ok hcv)
  have hxb := all_bound hxo
  have hgl := greatP_len c s
  have hxl := greatP_len x s
  have hG : greatP c s = s.foldl (stepG c) [] := by unfold greatP; rw [if_pos hcv]
  obtain ⟨ok, hsub⟩ := foldG_ok s [] (OkG.nil c)
  rw [← hG] at ok
  have hfg : fineP c (greatP c s) = true := by rw [fineP_valid hcv, ok.self]; exact ok.fine
  have hsl := sortedP_len c s
  refine Ev.get (r := true) ?_
  refine Ev.bind hc (Ev.bind hs (Ev.bind hx (Ev.bind (great_ev c hb s (by omega)) (Ev.bind (refGreat_ev c hb s (by omega)) (Ev.bind (same_ev (greatP c s) (by omega)) ?_)))))
  refine Ev.congr (fun k => by rw [if_pos rfl]) (Ev.bind (great_ev x hxb s (by omega)) (Ev.bind (refGreat_ev x hxb s (by omega)) (Ev.bind (same_ev (greatP x s) (by omega)) ?_)))
  refine Ev.congr (fun k => by rw [if_pos rfl]) (Ev.bind (Ev.const (fine_f hb (by omega))) ?_)
  rw [hfg]
  refine Ev.succ (g := fun k => (spliceryref41_Sorted.f k c s).bind fun t432 => (splicerylaw41_LicenceGreatest.l0 k c (greatP c s) t432 0)) (fun k => ?_) (Ev.bind (sorted_ev c (by omega) s (by omega)) ?_)
  · rw [splicerylaw41_LicenceGreatest.j0, Bool.not_true, if_neg Bool.false_ne_true]
  · refine glaw_l0 c hb (greatP c s) (sortedP c s) (by omega) (by omega) (fun i hi => ?_) (sortedP c s).length 0 (by omega)
    have hm : rd (sortedP c s) (i : Int) ∈ sortedP c s := getD_mem' 0 _ i hi
    have hm' := sortedP_mem c s _ hm
    by_cases hin : rd (sortedP c s) (i : Int) ∈ greatP c s
    · exact .inl (by rw [any_mem, decide_eq_true hin])
    · refine .inr ?_
      rw [fineP_valid hcv]
      rw [hG] at hin ⊢
      exact foldG_not s [] (OkG.nil c) _ hm'.2.2 hm'.1 hm'.2.1 hin
end Go.Proofs.Ytjagffomohbioaa.L
namespace Go.Proofs.Ytjagffomohbioaa.Pure
theorem LicenceGreatest : L.splicerylaw41_LicenceGreatest.Pure := L.greatest_pure
end Go.Proofs.Ytjagffomohbioaa.Pure
