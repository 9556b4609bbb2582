/- The plain law of LicenceFine. -/
import Derived.Test.YtjagffomohbioaaGGreat
import Derived.Test.YtjagffomohbioaaLx16
set_option linter.unusedVariables false
set_option linter.unusedSimpArgs false
namespace Go.Proofs.Ytjagffomohbioaa.L
open Go.RowKit Go.Proofs.YtjagffomohbioaaW.PrintWords Go.Proofs.YtjagffomohbioaaW.PrintLast

theorem inR_mem {n : Nat} {x : Int} : ∀ {sel : List Int}, x ∈ inR n sel ↔ x ∈ sel ∧ 0 ≤ x ∧ x < (n : Int)
  | [] => by simp [inR]
  | y :: r => by
    rw [inR_cons]
    have ih := inR_mem (n := n) (x := x) (sel := r)
    split
    · rename_i h
      simp only [List.mem_cons, ih]
      constructor
      · rintro (rfl | h')
        · exact ⟨.inl rfl, h⟩
        · exact ⟨.inr h'.1, h'.2⟩
      · rintro ⟨rfl | h', h2⟩
        · exact .inl rfl
        · exact .inr ⟨h', h2⟩
    · rename_i h
      simp only [List.mem_cons, ih]
      constructor
      · exact fun h' => ⟨.inr h'.1, h'.2⟩
      · rintro ⟨rfl | h', h2⟩
        · exact absurd h2 h
        · exact ⟨h', h2⟩
theorem refFine_eq (l : List S36) (sel : List Int) : refFine l sel = fineP l sel := by
  unfold refFine fineP
  split
  · have hsub : ∀ x, x ∈ inR l.length sel ↔ x ∈ sortedP l sel := fun x => by
      rw [inR_mem]
      exact ⟨fun h => sortedP_in h.1 h.2.1 h.2.2, fun h => by have := sortedP_mem l sel x h; exact ⟨this.2.2, this.1, this.2.1⟩⟩
    rw [Bool.eq_iff_iff]
    exact ⟨fineB_anti fun x hx => (hsub x).2 hx, fineB_anti fun x hx => (hsub x).1 hx⟩
  · rfl
def FinePure : Prop := ∀ (l0 : List Int) (l1 : List Int) (a2 : Int) (a3 : Int) (l4 : List S36) (l5 : List Int), l0.length ≤ maxLen → (∀ x ∈ l0, (Lit.int .i64 x).wf = true) → l1.length ≤ maxLen → (∀ x ∈ l1, (Lit.int .i64 x).wf = true) → (Lit.int .i64 a2).wf = true → (Lit.int .i64 a3).wf = true → l4.all boundC = true → ∃ k, splicerylaw41_LicenceFine.f k l0 l1 a2 a3 l4 l5 = some true
theorem flaw_l0 (c : List S36) (hb : c.all boundC = true) (hcv : validP c = true) (l1 some5 s : List Int) (hs : Ev (fun k => spliceryref41_Picks.f k l1) s) (hs10 : s.length ≤ 10)
    (lists : List (List S36)) (hl : lists.length ≤ 1000) (hle : ∀ e ∈ lists, e.all boundC = true) :
    ∀ n i : Nat, i + n = lists.length → Ev (fun k => splicerylaw41_LicenceFine.l0 k l1 some5 c lists (i : Int)) true
  | 0, i, hi => by
    have hvf : licence_Valid.f c = some true := by unfold licence_Valid.f; rw [if_pos hb, hcv]
    refine Ev.succ (g := fun k => (licence_Valid.f c).bind fun t442 => (if t442 = true then ((splicerylaw41_lives.f k).bind fun t443 => (some t443)) else (some false))) (fun k => ?_) (Ev.bind (Ev.const hvf) (Ev.congr (fun k => by rw [if_pos rfl]) (Ev.bind lives_ev (Ev.const rfl))))
    rw [splicerylaw41_LicenceFine.l0, if_neg (by omega)]
  | n + 1, i, hi => by
    have hw : wrap64 ((i : Int) + 1) = ((i + 1 : Nat) : Int) := w64 (by omega) (by omega)
    have hm : rd_L5 lists (i : Int) ∈ lists := getD_mem' [] lists i (by omega)
    have hbe := hle _ hm
    have ih := flaw_l0 c hb hcv l1 some5 s hs hs10 lists hl hle n (i + 1) (by omega)
    generalize he : rd_L5 lists (i : Int) = e at hbe
    have hvf : licence_Valid.f e = some (validP e) := by unfold licence_Valid.f; rw [if_pos hbe]
    have hrf : Ev (fun k => spliceryref41_Fine.f k e s) (fineP e s) := by
      have := refFine_ev e hbe s (by omega)
      rwa [refFine_eq] at this
    have j1 : Ev (fun k => splicerylaw41_LicenceFine.j1 k l1 some5 c lists (i : Int) false) true := by
      by_cases h20 : (some5.length : Int) ≤ 20
      · have hrf5 : Ev (fun k => spliceryref41_Fine.f k e some5) (fineP e some5) := by
          have := refFine_ev e hbe some5 (by omega)
          rwa [refFine_eq] at this
        refine Ev.succ (g := fun k => (licence_Fine.f e some5).bind fun t459 => ((spliceryref41_Fine.f k e some5).bind fun t461 => (if (t459 != t461) = true then (some false) else (splicerylaw41_LicenceFine.l0 k l1 some5 c lists ((i + 1 : Nat) : Int))))) (fun k => ?_)
          (Ev.bind (Ev.const (fine_f (l1 := some5) hbe (by omega))) (Ev.bind hrf5 ?_))
        · rw [splicerylaw41_LicenceFine.j1, if_neg Bool.false_ne_true, if_pos h20, if_pos (by omega), if_pos (by omega), he, hw]
        · exact Ev.congr (fun k => by rw [if_neg (by simp)]) ih
      · refine Ev.succ (fun k => ?_) ih
        rw [splicerylaw41_LicenceFine.j1, if_neg Bool.false_ne_true, if_neg h20, hw]
    refine Ev.succ (g := fun k => (licence_Valid.f e).bind fun t445 => ((spliceryref41_Valid.f k e).bind fun t447 => (if (t445 != t447) = true then (splicerylaw41_LicenceFine.j1 k l1 some5 c lists (i : Int) true) else ((spliceryref41_Picks.f k l1).bind fun t449 => ((licence_Fine.f e t449).bind fun t452 => ((spliceryref41_Picks.f k l1).bind fun t454 => ((spliceryref41_Fine.f k e t454).bind fun t457 => (splicerylaw41_LicenceFine.j1 k l1 some5 c lists (i : Int) (t452 != t457))))))))) (fun k => ?_)
      (Ev.bind (Ev.const hvf) (Ev.bind (valid_ev e hbe) ?_))
    · rw [splicerylaw41_LicenceFine.l0, if_pos (by omega), if_pos (by omega), he]
    · refine Ev.congr (fun k => by rw [if_neg (by simp)]) (Ev.bind hs (Ev.bind (Ev.const (fine_f (l1 := s) hbe (by omega))) (Ev.bind hs (Ev.bind hrf ?_))))
      exact Ev.congr (fun k => by rw [bne_self_eq_false]) j1
theorem fine_pure : FinePure := by
  intro l0 l1 a2 a3 l4 l5 h1 h3 h4 h6 h7 h8 h9
  obtain ⟨c, hc, hc8, hcv⟩ := clauses_ev l0 h3
  obtain ⟨s, hs, hs10⟩ := picks_ev l1 h6 h4
  obtain ⟨x, hx, hx100, hxo⟩ := spoilt_ev c hc8 hcv a2 a3 h7 h8
  have hb := all_bound (valid_ok hcv)
  have hxb := all_bound hxo
  refine Ev.get (r := true) ?_
  refine Ev.bind hc (Ev.bind hx ?_)
  refine flaw_l0 c hb hcv l1 l5 s hs hs10 _ (by simp) (fun e he => ?_) 3 0 rfl
  simp only [List.mem_cons, List.not_mem_nil, or_false] at he
  rcases he with rfl | rfl | rfl
  · exact hb
  · exact hxb
  · exact h9
end Go.Proofs.Ytjagffomohbioaa.L
