/- The plain law of LicenceSmallest. -/
import Derived.Test.YtjagffomohbioaaGCheck
import Derived.Test.YtjagffomohbioaaLx6
set_option linter.unusedVariables false
set_option linter.unusedSimpArgs false
namespace Go.Proofs.Ytjagffomohbioaa.L
open Go.RowKit Go.Proofs.YtjagffomohbioaaW.PrintWords Go.Proofs.YtjagffomohbioaaW.PrintLast

theorem smallest_end (c : List S36) (hb : c.all boundC = true) (s core few : List Int) (hfew : few.length ≤ 1000000) (hfine : fineP c few = true) : Ev (fun k => (licence_Fine.f c few).bind fun t398 => (if t398 = true then ((splicerylaw41_lives.f k).bind fun t399 => (some t399)) else (some false))) true := by
  refine Ev.bind (Ev.const (fine_f hb hfew)) ?_
  rw [hfine]
  exact Ev.congr (fun k => by rw [if_pos rfl]) (Ev.bind lives_ev (Ev.const rfl))
theorem smallest_l0 (c : List S36) (hb : c.all boundC = true) (hv : validP c = true) (s core : List Int) (hs : s.length ≤ 10) (h : CoreOf c (sortedP c s) core) (hc : core.length ≤ 16) (a2 : Int) (t : Int) (ht : spliceryref01_Around.f a2 1024 = some t) :
    ∀ (n i : Nat) (few : List Int), i + n = s.length → few.length ≤ i → few.length < core.length → (∀ x, x ∈ few → x ∈ s) → Ev (fun k => splicerylaw41_LicenceSmallest.l0 k a2 c s core few (i : Int)) true := by
  have fin : ∀ (i : Nat) (few : List Int), few.length ≤ 1000000 → few.length < core.length → (∀ x, x ∈ few → x ∈ s) → Ev (fun k => splicerylaw41_LicenceSmallest.j2 k a2 c s core few (i : Int) false) true := fun i few h0 h1 h2 => by
    have hf : fineP c few = true := by
      rw [fineP_valid hv]
      exact h.least _ (sortedP_mono h2) (Nat.lt_of_le_of_lt (sortedP_short c few) h1)
    exact Ev.succ (fun k => by rw [splicerylaw41_LicenceSmallest.j2, if_neg Bool.false_ne_true]) (smallest_end c hb s core few h0 hf)
  have hw1 : wrap64 ((core.length : Int) - 1) = (core.length : Int) - 1 := w64 (by omega) (by omega)
  intro n
  induction n with
  | zero =>
    intro i few hi h0 h1 h2
    refine Ev.succ (fun k => ?_) (fin i few (by omega) h1 h2)
    rw [splicerylaw41_LicenceSmallest.l0, if_neg (by omega)]
  | succ n ih =>
    intro i few hi h0 h1 h2
    have hw : wrap64 ((i : Int) + 1) = ((i + 1 : Nat) : Int) := w64 (by omega) (by omega)
    by_cases e : few.length + 1 < core.length
    · refine Ev.succ (g := fun k => splicerylaw41_LicenceSmallest.j2 k a2 c s core few (i : Int) true) (fun k => ?_) ?_
      · rw [splicerylaw41_LicenceSmallest.l0, if_pos (by omega), hw1, decide_eq_true (by omega)]
      · have hu : 0 ≤ IntKind.u64.wrap (i : Int) := by
          have : IntKind.u64.wrap (i : Int) = (i : Int) % 18446744073709551616 := rfl
          rw [this]; omega
        have eq : ∀ k, splicerylaw41_LicenceSmallest.j2 (k + 1) a2 c s core few (i : Int) true = if (Int.tmod (shr .i64 t (IntKind.u64.wrap (i : Int))) 2) = 1 then splicerylaw41_LicenceSmallest.l0 k a2 c s core (few ++ [rd s (i : Int)]) ((i + 1 : Nat) : Int) else splicerylaw41_LicenceSmallest.l0 k a2 c s core few ((i + 1 : Nat) : Int) := fun k => by
          rw [splicerylaw41_LicenceSmallest.j2, if_pos rfl, ht, Option.bind_some, if_pos hu, if_pos (show (0 : Int) ≤ (i : Int) by omega), if_pos (show (i : Int) < (s.length : Int) by omega), if_pos (show few.length < 17592186044416 by omega), hw]
        by_cases e2 : (Int.tmod (shr .i64 t (IntKind.u64.wrap (i : Int))) 2) = 1
        · refine Ev.succ (fun k => by rw [eq k, if_pos e2]) (ih (i + 1) (few ++ [rd s (i : Int)]) (by omega) (by simp; omega) (by simp; omega) (fun x hx => ?_))
          rcases List.mem_append.1 hx with hx | hx
          · exact h2 x hx
          · rw [List.mem_singleton.1 hx]
            exact rd_mem s _ (by omega) (by omega)
        · exact Ev.succ (fun k => by rw [eq k, if_neg e2]) (ih (i + 1) few (by omega) (by omega) h1 h2)
    · refine Ev.succ (fun k => ?_) (fin i few (by omega) h1 h2)
      rw [splicerylaw41_LicenceSmallest.l0, if_pos (by omega), hw1, decide_eq_false (by omega)]

theorem smallest_pure : splicerylaw41_LicenceSmallest.Pure := by
  intro l0 l1 a2 h1 h2 h3 h4 h5 h6 h7
  obtain ⟨c, hc, hc8, hv⟩ := clauses_ev l0 h3
  obtain ⟨s, hs, hs10⟩ := picks_ev l1 h6 h4
  have hb := all_bound (valid_ok hv)
  obtain ⟨t, ht, ht0, ht1⟩ := around_eq (wf_bounds h7) (n := 1024) (by omega)
  refine Ev.get (r := true) ?_
  refine Ev.bind hc (Ev.bind hs (Ev.bind (Ev.const (core_f hb (by omega))) (Ev.bind (Ev.const (fine_f hb (by omega))) ?_)))
  cases hf : fineP c s with
  | true =>
    rw [fineP_valid hv] at hf
    rw [coreP_fine hf]
    exact Ev.congr (fun k => by rw [if_pos rfl, if_pos (show (([] : List Int).length : Int) = 0 from rfl)]) (Ev.bind lives_ev (Ev.const rfl))
  | false =>
    rw [fineP_valid hv] at hf
    have hC := coreP_of hv (by have := sortedP_len c s; omega) hf
    have hlen := coreP_len c s
    generalize coreP c s = core at *
    have hpos := hC.pos
    have hw1 : wrap64 ((core.length : Int) - 1) = ((core.length - 1 : Nat) : Int) := by rw [w64 (by omega) (by omega)]; omega
    have hck := check_ev c hb s (by omega) core (by omega)
    rw [hC.check hv] at hck
    refine Ev.congr (fun k => by rw [if_neg Bool.false_ne_true, if_neg (show ¬ (core.length : Int) = 0 by omega)]) (Ev.bind hck ?_)
    have hsub : (core.take (core.length - 1)).Sublist (sortedP c s) := (List.take_sublist _ _).trans hC.sub
    have hft : fineP c (core.take (core.length - 1)) = true := by
      rw [fineP_valid hv, sortedP_self hsub]
      exact hC.least _ hsub (by rw [List.length_take]; omega)
    refine Ev.congr (g := fun k => (licence_Fine.f c (core.take (core.length - 1))).bind fun t392 => splicerylaw41_LicenceSmallest.j0 k a2 c s core (!t392)) (fun k => ?_) (Ev.bind (Ev.const (fine_f hb (by rw [List.length_take]; omega))) ?_)
    · rw [if_pos rfl, hw1, if_pos (by omega), if_pos (by omega), Int.toNat_natCast]
    · rw [hft]
      refine Ev.succ (fun k => by rw [splicerylaw41_LicenceSmallest.j0, Bool.not_true, if_neg Bool.false_ne_true]; rfl) (smallest_l0 c hb hv s core hs10 hC hlen a2 t ht s.length 0 [] (by omega) (by simp) (by simpa using hpos) (fun x hx => by simp at hx))
end Go.Proofs.Ytjagffomohbioaa.L
namespace Go.Proofs.Ytjagffomohbioaa.Pure
theorem LicenceSmallest : L.splicerylaw41_LicenceSmallest.Pure := L.smallest_pure
end Go.Proofs.Ytjagffomohbioaa.Pure
