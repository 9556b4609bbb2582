/- The plain law of LicenceChecks. -/
import Derived.Test.YtjagffomohbioaaGGreat
import Derived.Test.YtjagffomohbioaaLx15
set_option linter.unusedVariables false
set_option linter.unusedSimpArgs false
namespace Go.Proofs.Ytjagffomohbioaa.L
open Go.RowKit Go.Proofs.YtjagffomohbioaaW.PrintWords Go.Proofs.YtjagffomohbioaaW.PrintLast

theorem checks_l0 (c x : List S36) (hb : c.all boundC = true) (hxb : x.all boundC = true) (s core : List Int) (hs : s.length ≤ 1000000) (hcl : core.length ≤ 1000000) (hck : core.length ≠ 0 → checkP c s core = 0)
    (lists : List (List Int)) (hl : lists.length ≤ 1000) (hle : ∀ e ∈ lists, e.length ≤ 1000000) :
    ∀ n i : Nat, i + n = lists.length → Ev (fun k => splicerylaw41_LicenceChecks.l0 k c s core lists x (i : Int)) true
  | 0, i, hi => by
    by_cases h0 : core.length = 0
    · refine Ev.succ (g := fun k => (splicerylaw41_lives.f k).bind fun t444 => (some t444)) (fun k => ?_) (Ev.bind lives_ev (Ev.const rfl))
      rw [splicerylaw41_LicenceChecks.l0, if_neg (by omega), if_pos (by omega)]
    · refine Ev.succ (g := fun k => (licence_Check.f k c s core).bind fun t445 => (if t445 = 0 then ((splicerylaw41_lives.f k).bind fun t446 => (some t446)) else (some false))) (fun k => ?_) (Ev.bind (check_ev c hb s hs core hcl) ?_)
      · rw [splicerylaw41_LicenceChecks.l0, if_neg (by omega), if_neg (by omega)]
      · rw [hck h0]
        exact Ev.congr (fun k => by rw [if_pos rfl]) (Ev.bind lives_ev (Ev.const rfl))
  | n + 1, i, hi => by
    have hw : wrap64 ((i : Int) + 1) = ((i + 1 : Nat) : Int) := w64 (by omega) (by omega)
    have hm : rd_L4 lists (i : Int) ∈ lists := getD_mem' [] lists i (by omega)
    have hlen := hle _ hm
    have ih := checks_l0 c x hb hxb s core hs hcl hck lists hl hle n (i + 1) (by omega)
    generalize he : rd_L4 lists (i : Int) = e at hlen
    refine Ev.succ (g := fun k => (licence_Check.f k c s e).bind fun t448 => ((spliceryref41_Check.f k c s e).bind fun t450 => (if t448 = t450 then ((licence_Check.f k x s e).bind fun t452 => ((spliceryref41_Check.f k x s e).bind fun t454 => (if t452 = t454 then ((licence_Check.f k c e e).bind fun t457 => ((spliceryref41_Check.f k c e e).bind fun t460 => (if t457 = t460 then (splicerylaw41_LicenceChecks.l0 k c s core lists x ((i + 1 : Nat) : Int)) else (some false)))) else (some false)))) else (some false)))) (fun k => ?_) (Ev.bind (check_ev c hb s hs e hlen) (Ev.bind (refCheck_ev c hb s hs e hlen) ?_))
    · rw [splicerylaw41_LicenceChecks.l0, if_pos (by omega), if_pos (by omega), he, hw]
    · refine Ev.congr (fun k => by rw [if_pos rfl]) (Ev.bind (check_ev x hxb s hs e hlen) (Ev.bind (refCheck_ev x hxb s hs e hlen) ?_))
      refine Ev.congr (fun k => by rw [if_pos rfl]) (Ev.bind (check_ev c hb e hlen e hlen) (Ev.bind (refCheck_ev c hb e hlen e hlen) ?_))
      exact Ev.congr (fun k => by rw [if_pos rfl]) ih
theorem checks_pure : splicerylaw41_LicenceChecks.Pure := by
  intro l0 l1 l2 a3 a4 h1 h2 h3 h4 h5 h6 h7 h8 h9 h10 h11
  obtain ⟨c, hc, hc8, hcv⟩ := clauses_ev l0 h3
  obtain ⟨s, hs, hs10⟩ := picks_ev l1 h6 h4
  obtain ⟨q, hq, hq10⟩ := picks_ev l2 h9 h7
  obtain ⟨x, hx, hx100, hxo⟩ := spoilt_ev c hc8 hcv a3 a4 h10 h11
  have hb := all_bound (valid_ok hcv)
  have hxb := all_bound hxo
  have hcl := coreP_len c s
  have hsl := sortedP_len c q
  have hss := sortedP_len c s
  have hck : (coreP c s).length ≠ 0 → checkP c s (coreP c s) = 0 := fun hne => by
    cases hf : fineB c (sortedP c s) with
    | true => exact absurd (by rw [coreP_fine hf]; rfl) hne
    | false => exact (coreP_of hcv (by omega) hf).check hcv
  refine Ev.get (r := true) ?_
  refine Ev.bind hc (Ev.bind hs (Ev.bind (refCore_ev hb (by omega) (by omega)) (Ev.bind hq (Ev.bind (sorted_ev c (by omega) q (by omega)) (Ev.bind hq ?_)))))
  refine Ev.congr (g := fun k => (spliceryref41_Spoilt.f k c a3 a4).bind fun t441 => (splicerylaw41_LicenceChecks.l0 k c s (coreP c s) [coreP c s, sortedP c q, q, [], (coreP c s ++ [a4])] t441 0)) (fun k => ?_) (Ev.bind hx ?_)
  · simp only [Option.bind_some, List.nil_append]
    rw [if_pos (by simp; omega), if_pos (by omega)]
  · refine checks_l0 c x hb hxb s (coreP c s) (by omega) (by omega) hck _ (by simp) (fun e he => ?_) 5 0 rfl
    simp only [List.mem_cons, List.not_mem_nil, or_false] at he
    rcases he with rfl | rfl | rfl | rfl | rfl
    · omega
    · omega
    · omega
    · exact Nat.zero_le _
    · simp; omega
end Go.Proofs.Ytjagffomohbioaa.L
namespace Go.Proofs.Ytjagffomohbioaa.Pure
theorem LicenceChecks : L.splicerylaw41_LicenceChecks.Pure := L.checks_pure
end Go.Proofs.Ytjagffomohbioaa.Pure
