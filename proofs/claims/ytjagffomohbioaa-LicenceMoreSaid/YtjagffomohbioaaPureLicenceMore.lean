/- The plain law of LicenceMore. -/
import Derived.Test.YtjagffomohbioaaGCheck
import Derived.Test.YtjagffomohbioaaLx7
set_option linter.unusedVariables false
set_option linter.unusedSimpArgs false
namespace Go.Proofs.Ytjagffomohbioaa.L
open Go.RowKit Go.Proofs.YtjagffomohbioaaW.PrintWords Go.Proofs.YtjagffomohbioaaW.PrintLast

theorem fineB_mono {l : List S36} {a b : List Int} (h : ∀ x, x ∈ a → x ∈ b) (hb : fineB l b = true) : fineB l a = true := by
  unfold fineB at *
  rw [Bool.not_eq_true', List.any_eq_false] at *
  intro s hs hm
  have hm' := (memB_fol _ _).1 hm
  refine hb s ?_ ((memB_fol _ _).2 (hm'.mono ?_))
  · unfold notOf at *
    obtain ⟨i, hi, hx⟩ := List.mem_flatMap.1 hs
    exact List.mem_flatMap.2 ⟨i, h i hi, hx⟩
  · intro x hx
    unfold mustOf at *
    obtain ⟨i, hi, hy⟩ := List.mem_flatMap.1 hx
    exact List.mem_flatMap.2 ⟨i, h i hi, hy⟩
theorem coreP_congr {l : List S36} {a b : List Int} (h : sortedP l a = sortedP l b) : coreP l a = coreP l b := by
  unfold coreP
  rw [h]
def clr (c : S36) : S36 := ⟨c.f0, c.f1, ([] : List ByteArray)⟩
def stC (c : List S36) (i : Nat) : List S36 := (c.take i).map clr ++ c.drop i
theorem stC_len (c : List S36) (i : Nat) (hi : i ≤ c.length) : (stC c i).length = c.length := by
  unfold stC
  simp only [List.length_append, List.length_map, List.length_take, List.length_drop]
  omega
theorem stC_at (c : List S36) (i : Nat) (hi : i < c.length) : rd_T36 (stC c i) (i : Int) = rd_T36 c (i : Int) := by
  unfold rd_T36 stC
  rw [Int.toNat_natCast, List.getD_eq_getElem?_getD, List.getD_eq_getElem?_getD, List.getElem?_append_right (by simp; omega)]
  congr 1
  simp
  congr 1
  omega
theorem stC_set (c : List S36) (i : Nat) (hi : i < c.length) : (stC c i).set i (clr (rd_T36 c (i : Int))) = stC c (i + 1) := by
  have hl : ((c.take i).map clr).length = i := by simp; omega
  have e1 : c.drop i = rd_T36 c (i : Int) :: c.drop (i + 1) := drop_cons _ c i hi
  have e2 : c.take (i + 1) = c.take i ++ [rd_T36 c (i : Int)] := by
    rw [List.take_succ_eq_append_getElem hi]
    simp [rd_T36, List.getD_eq_getElem?_getD, List.getElem?_eq_getElem hi]
  unfold stC
  rw [List.set_append_right _ _ (by omega), hl, Nat.sub_self, e1, List.set_cons_zero, e2, List.map_append, List.append_assoc]
  rfl
theorem free_bad {c : S36} (h : badP c = false) : badP (clr c) = false := by
  unfold badP at *
  simp only [Bool.or_eq_false_iff] at h
  obtain ⟨h1, h2, h3, h4, h5⟩ := h
  simp only [clr, Bool.or_eq_false_iff]
  exact ⟨h1, h2, by simp, h4, by simp⟩
theorem free_valid {c : List S36} (h : validP c = true) : validP (c.map clr) = true := by
  unfold validP at *
  simp only [Bool.and_eq_true, decide_eq_true_eq, Bool.not_eq_true', List.any_eq_false, List.length_map] at *
  refine ⟨h.1, fun x hx => ?_⟩
  obtain ⟨y, hy, rfl⟩ := List.mem_map.1 hx
  have := h.2 y hy
  rw [Bool.not_eq_true] at this ⊢
  exact free_bad this
theorem free_fine (c : List S36) (sel : List Int) : fineB (c.map clr) sel = true := by
  have e : notOf (c.map clr) sel = [] := by
    unfold notOf
    rw [List.flatMap_eq_nil_iff]
    intro i _
    unfold rd_T36
    rw [List.getD_eq_getElem?_getD, List.getElem?_map]
    cases c[i.toNat]? <;> rfl
  unfold fineB
  rw [e]
  rfl
theorem more_l1 (c : List S36) (h8 : c.length ≤ 8) (hv : validP c = true) (more : List Int) (hm : more.length ≤ 100) : ∀ n i : Nat, i + n = c.length → Ev (fun k => splicerylaw41_LicenceMore.l1 k more (stC c i) (i : Int)) true
  | n + 1, i, hi => by
    refine Ev.succ (fun k => ?_) (more_l1 c h8 hv more hm n (i + 1) (by omega))
    have hl := stC_len c i (by omega)
    rw [splicerylaw41_LicenceMore.l1, if_pos (by omega), if_pos (by omega), w64 (by omega) (by omega), stC_at c i (by omega), Int.toNat_natCast]
    have := stC_set c i (by omega)
    unfold clr at this
    rw [this]
    rfl
  | 0, i, hi => by
    have e : stC c i = c.map clr := by unfold stC; rw [List.take_of_length_le (by omega), List.drop_eq_nil_of_le (by omega), List.append_nil]
    have hvf := free_valid hv
    have hb := all_bound (valid_ok hvf)
    have hfin : fineP (c.map clr) more = true := by rw [fineP_valid hvf]; exact free_fine c _
    have hcore : coreP (c.map clr) more = [] := coreP_fine (free_fine c _)
    rw [e]
    refine Ev.succ (g := fun k => (licence_Fine.f (c.map clr) more).bind fun t453 => (if t453 = true then ((licence_Core.f (c.map clr) more).bind fun t454 => (if (t454.length : Int) = 0 then ((splicerylaw41_lives.f k).bind fun t457 => (some t457)) else (some false))) else (some false))) (fun k => ?_) ?_
    · rw [splicerylaw41_LicenceMore.l1, if_neg (by simp; omega)]
    · refine Ev.bind (Ev.const (fine_f hb (by omega))) ?_
      rw [hfin]
      refine Ev.congr (fun k => by rw [if_pos rfl]) (Ev.bind (Ev.const (core_f hb (by omega))) ?_)
      rw [hcore]
      exact Ev.congr (fun k => by rw [if_pos (show (([] : List Int).length : Int) = 0 from rfl)]) (Ev.bind lives_ev (Ev.const rfl))
theorem more_j1 (c : List S36) (h8 : c.length ≤ 8) (hv : validP c = true) (more : List Int) (hm : more.length ≤ 100) : Ev (fun k => splicerylaw41_LicenceMore.j1 k c more false) true := by
  refine Ev.succ (fun k => ?_) (more_l1 c h8 hv more hm c.length 0 (by omega))
  rw [splicerylaw41_LicenceMore.j1, if_neg Bool.false_ne_true]
  simp only [Option.bind_some, List.nil_append]
  rw [if_pos (by simp; omega)]
  rfl
theorem more_l0 (c : List S36) (h8 : c.length ≤ 8) (hv : validP c = true) (s more : List Int) (hs : s.length ≤ 10) (hm : more.length ≤ 100) (hsm : ∀ x, x ∈ s → x ∈ more) :
    ∀ (n : Nat) (back : List Int), n ≤ s.length → back.length + 2 * n = 2 * s.length → (∀ x, x ∈ back ↔ ∃ j : Nat, n ≤ j ∧ j < s.length ∧ rd s (j : Int) = x) → Ev (fun k => splicerylaw41_LicenceMore.l0 k c s more back ((n : Int) - 1)) true
  | n + 1, back, hn, hl, hb => by
    refine Ev.succ (fun k => ?_) (more_l0 c h8 hv s more hs hm hsm n (back ++ [rd s (n : Int), rd s (n : Int)]) (by omega) (by simp; omega) (fun x => ?_))
    · have e : (((n + 1 : Nat) : Int) - 1) = (n : Int) := by omega
      rw [splicerylaw41_LicenceMore.l0, e, if_pos (by omega), if_pos (by omega), if_pos (by omega)]
      simp only [Option.bind_some]
      rw [if_pos (by simp; omega), w64 (by omega) (by omega)]
    · rw [List.mem_append, hb x]
      constructor
      · rintro (⟨j, h1, h2, h3⟩ | h)
        · exact ⟨j, by omega, h2, h3⟩
        · have : x = rd s (n : Int) := by simpa using h
          exact ⟨n, Nat.le_refl _, by omega, this.symm⟩
      · rintro ⟨j, h1, h2, h3⟩
        by_cases e : j = n
        · subst e
          exact .inr (by simp [h3])
        · exact .inl ⟨j, by omega, h2, h3⟩
  | 0, back, hn, hl, hb => by
    have hbb := all_bound (valid_ok hv)
    have hmem : ∀ x, x ∈ back ↔ x ∈ s := fun x => by
      rw [hb x]
      constructor
      · rintro ⟨j, _, h2, rfl⟩
        exact rd_mem s _ (by omega) (by omega)
      · intro hx
        obtain ⟨k, hk, e⟩ := List.getElem_of_mem hx
        exact ⟨k, Nat.zero_le _, hk, by rw [← e]; simp [rd, List.getD_eq_getElem?_getD, List.getElem?_eq_getElem hk]⟩
    have hso := sortedP_congr (l := c) hmem
    have hfb : fineP c back = fineP c s := by rw [fineP_valid hv, fineP_valid hv, hso]
    have hcb := coreP_congr hso
    have j1 := more_j1 c h8 hv more hm
    have hcl := coreP_len c s
    have tail : Ev (fun k => ((licence_Fine.f c back).bind fun t428 => ((licence_Fine.f c s).bind fun t429 => (if (t428 != t429) = true then (splicerylaw41_LicenceMore.j1 k c more true) else ((licence_Core.f c back).bind fun t430 => ((licence_Core.f c s).bind fun t433 => ((spliceryref01_SameInts.f k t430 t433).bind fun t436 => (splicerylaw41_LicenceMore.j1 k c more (!t436))))))))) true := by
      refine Ev.bind (Ev.const (fine_f hbb (by omega))) (Ev.bind (Ev.const (fine_f hbb (by omega))) ?_)
      rw [hfb]
      refine Ev.congr (g := fun k => (licence_Core.f c back).bind fun t430 => ((licence_Core.f c s).bind fun t433 => ((spliceryref01_SameInts.f k t430 t433).bind fun t436 => (splicerylaw41_LicenceMore.j1 k c more (!t436))))) (fun k => by rw [bne_self_eq_false, if_neg Bool.false_ne_true]) ?_
      refine Ev.bind (Ev.const (core_f hbb (by omega))) (Ev.bind (Ev.const (core_f hbb (by omega))) ?_)
      rw [hcb]
      exact Ev.bind (same_ev _ (by omega)) j1
    refine Ev.succ (g := fun k => (licence_Fine.f c more).bind fun t426 => (if t426 = true then ((licence_Fine.f c s).bind fun t427 => (if t427 = true then ((licence_Fine.f c back).bind fun t428 => ((licence_Fine.f c s).bind fun t429 => (if (t428 != t429) = true then (splicerylaw41_LicenceMore.j1 k c more true) else ((licence_Core.f c back).bind fun t430 => ((licence_Core.f c s).bind fun t433 => ((spliceryref01_SameInts.f k t430 t433).bind fun t436 => (splicerylaw41_LicenceMore.j1 k c more (!t436)))))))) else (splicerylaw41_LicenceMore.j1 k c more true))) else ((licence_Fine.f c back).bind fun t428 => ((licence_Fine.f c s).bind fun t429 => (if (t428 != t429) = true then (splicerylaw41_LicenceMore.j1 k c more true) else ((licence_Core.f c back).bind fun t430 => ((licence_Core.f c s).bind fun t433 => ((spliceryref01_SameInts.f k t430 t433).bind fun t436 => (splicerylaw41_LicenceMore.j1 k c more (!t436)))))))))) (fun k => ?_) ?_
    · rw [splicerylaw41_LicenceMore.l0, if_neg (by omega)]
    · refine Ev.bind (Ev.const (fine_f hbb (by omega))) ?_
      cases hfm : fineP c more with
      | false => exact Ev.congr (fun k => by rw [if_neg Bool.false_ne_true]) tail
      | true =>
        have hfs : fineP c s = true := by
          rw [fineP_valid hv] at hfm ⊢
          exact fineB_mono (fun x hx => (sortedP_mono hsm).subset hx) hfm
        refine Ev.congr (fun k => by rw [if_pos rfl]) (Ev.bind (Ev.const (fine_f hbb (by omega))) ?_)
        rw [hfs]
        exact Ev.congr (fun k => by rw [if_pos rfl]) tail
theorem more_pure : splicerylaw41_LicenceMore.Pure := by
  intro l0 l1 l2 h1 h2 h3 h4 h5 h6 h7 h8 h9
  obtain ⟨c, hc, hc8, hv⟩ := clauses_ev l0 h3
  obtain ⟨s, hs, hs10⟩ := picks_ev l1 h6 h4
  obtain ⟨p, hp, hp10⟩ := picks_ev l2 h9 h7
  refine Ev.get (r := true) ?_
  refine Ev.bind hc (Ev.bind hs ?_)
  simp only [Option.bind_some, List.nil_append]
  refine Ev.congr (fun k => by rw [if_pos (by simp; omega)]) (Ev.bind hp ?_)
  have hw : wrap64 ((s.length : Int) - 1) = (s.length : Int) - 1 := w64 (by omega) (by omega)
  refine Ev.congr (fun k => by rw [if_pos (by omega), hw]) ?_
  exact more_l0 c hc8 hv s (s ++ p) hs10 (by simp; omega) (fun x hx => List.mem_append.2 (.inl hx)) s.length [] (Nat.le_refl _) (by simp) (fun x => by
    constructor
    · intro h; simp at h
    · rintro ⟨j, h1, h2, _⟩; omega)
end Go.Proofs.Ytjagffomohbioaa.L
namespace Go.Proofs.Ytjagffomohbioaa.Pure
theorem LicenceMore : L.splicerylaw41_LicenceMore.Pure := L.more_pure
end Go.Proofs.Ytjagffomohbioaa.Pure
