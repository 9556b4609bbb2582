/- Plain laws: slices.BinarySearch at increasing ints, and licence.Check as a plain function. -/
import Derived.Test.YtjagffomohbioaaHLaw
import Derived.Test.YtjagffomohbioaaLx4
set_option linter.unusedVariables false
set_option linter.unusedSimpArgs false
namespace Go.Proofs.Ytjagffomohbioaa.L
open Go.RowKit Go.Proofs.YtjagffomohbioaaW.PrintWords Go.Proofs.YtjagffomohbioaaW.PrintLast Go.Proofs.YtjagffomohbioaaW.PrintMore

theorem less_f (a b : Int) : cmp_Less_int.f a b = some (decide (a < b)) := by
  unfold cmp_Less_int.f cmp_isNaN_int.f
  simp
theorem half {i j : Nat} (h : i + j ≤ 4000000) : wrap64 ((IntKind.u64.wrap (wrap64 ((i : Int) + (j : Int)))) / 2) = (((i + j) / 2 : Nat) : Int) := by
  rw [w64 (n := (i : Int) + (j : Int)) (by omega) (by omega)]
  have : IntKind.u64.wrap ((i : Int) + (j : Int)) = ((i : Int) + (j : Int)) % 18446744073709551616 := rfl
  rw [this, Int.emod_eq_of_lt (by omega) (by omega), w64 (by omega) (by omega)]
  omega
theorem bs_l0 (l : List Int) (hl : l.length ≤ 1000000) (hinc : l.Pairwise (· < ·)) (x : Int) : ∀ (d i j : Nat), j - i = d → i ≤ j → j ≤ l.length → (∀ k : Nat, k < i → rd l (k : Int) < x) → (∀ k : Nat, j ≤ k → k < l.length → x ≤ rd l (k : Int)) →
    ∃ p : Int, Ev (fun k => slices_BinarySearch_int_int.l0 k l x (l.length : Int) (i : Int) (j : Int)) (p, decide (x ∈ l)) := by
  intro d
  induction d using Nat.strongRecOn with
  | ind d ih =>
    intro i j hd hij hj hlo hhi
    by_cases hlt : i < j
    · have hh := half (i := i) (j := j) (by omega)
      obtain ⟨h, hhe⟩ : ∃ h, (i + j) / 2 = h := ⟨_, rfl⟩
      have hb : i ≤ h ∧ h < j := by omega
      rw [hhe] at hh
      have mono : ∀ a b : Nat, a < b → b < l.length → rd l (a : Int) < rd l (b : Int) := fun a b h1 h2 => incr_at hinc (by omega) (by omega) (by omega)
      by_cases hx : rd l (h : Int) < x
      · obtain ⟨p, hp⟩ := ih (j - (h + 1)) (by omega) (h + 1) j rfl (by omega) hj (fun k hk => by
          by_cases e : k = h
          · subst e; exact hx
          · have := mono k h (by omega) (by omega); omega) hhi
        refine ⟨p, Ev.succ (fun k => ?_) hp⟩
        rw [slices_BinarySearch_int_int.l0, if_pos (by omega), hh, if_pos (by omega), if_pos (by omega), less_f, Option.bind_some, decide_eq_true hx, if_pos rfl, w64 (by omega) (by omega)]
        rfl
      · obtain ⟨p, hp⟩ := ih (h - i) (by omega) i h rfl (by omega) (by omega) hlo (fun k h1 h2 => by
          by_cases e : k = h
          · subst e; omega
          · have := mono h k (by omega) h2; omega)
        refine ⟨p, Ev.succ (fun k => ?_) hp⟩
        rw [slices_BinarySearch_int_int.l0, if_pos (by omega), hh, if_pos (by omega), if_pos (by omega), less_f, Option.bind_some, decide_eq_false hx, if_neg Bool.false_ne_true]
    · obtain rfl : i = j := by omega
      by_cases hn : i < l.length
      · by_cases he : rd l (i : Int) = x
        · have hm : x ∈ l := by rw [← he]; exact rd_mem l _ (by omega) (by omega)
          refine ⟨(i : Int), Ev.succ (g := fun _ => some ((i : Int), true)) (fun k => ?_) (Ev.const (by rw [decide_eq_true hm]))⟩
          rw [slices_BinarySearch_int_int.l0, if_neg (by omega), if_pos (by omega), if_pos (by omega), if_pos (by omega), if_pos he]
        · have hm : ¬ x ∈ l := by
            intro hm
            obtain ⟨k, hk, e⟩ := List.getElem_of_mem hm
            have e2 : rd l (k : Int) = x := by rw [← e]; simp [rd, List.getD_eq_getElem?_getD, List.getElem?_eq_getElem hk]
            rcases Nat.lt_trichotomy k i with h1 | h1 | h1
            · have := hlo k h1; omega
            · subst h1; exact he e2
            · have h3 := hhi i (Nat.le_refl _) hn
              have h4 := incr_at hinc (a := (i : Int)) (b := (k : Int)) (by omega) (by omega) (by omega)
              omega
          refine ⟨(i : Int), Ev.succ (g := fun _ => some ((i : Int), false)) (fun k => ?_) (Ev.const (by rw [decide_eq_false hm]))⟩
          rw [slices_BinarySearch_int_int.l0, if_neg (by omega), if_pos (by omega), if_pos (by omega), if_pos (by omega), if_neg he]
          unfold slices_isNaN_int.f
          simp
      · have hm : ¬ x ∈ l := by
          intro hm
          obtain ⟨k, hk, e⟩ := List.getElem_of_mem hm
          have e2 : rd l (k : Int) = x := by rw [← e]; simp [rd, List.getD_eq_getElem?_getD, List.getElem?_eq_getElem hk]
          have := hlo k (by omega)
          omega
        refine ⟨(i : Int), Ev.succ (g := fun _ => some ((i : Int), false)) (fun k => ?_) (Ev.const (by rw [decide_eq_false hm]))⟩
        rw [slices_BinarySearch_int_int.l0, if_neg (by omega), if_neg (by omega)]
theorem bs_ev (l : List Int) (hl : l.length ≤ 1000000) (hinc : l.Pairwise (· < ·)) (x : Int) : ∃ p : Int, Ev (fun k => slices_BinarySearch_int_int.f k l x) (p, decide (x ∈ l)) :=
  bs_l0 l hl hinc x l.length 0 l.length (by omega) (by omega) (Nat.le_refl _) (fun k hk => absurd hk (Nat.not_lt_zero _)) (fun k h1 h2 => by omega)

/-! ### Check -/
def okAt (all core : List Int) (j : Nat) : Bool := decide (rd core (j : Int) ∈ all) && (decide (j = 0) || decide (rd core ((j : Int) - 1) < rd core (j : Int)))
def outI (core : List Int) (i : Nat) : List Int := core.take i ++ core.drop (i + 1)
def tailC (l : List S36) (core : List Int) : Int := if fineB l core = true then 27 else (if (List.range core.length).all (fun i => fineB l (outI core i)) = true then 0 else 27)
def checkP (l : List S36) (sel core : List Int) : Int := if validP l = true then (if (List.range core.length).all (okAt (sortedP l sel) core) = true then tailC l core else 27) else 1
theorem range_drop (n i : Nat) (h : i < n) : (List.range n).drop i = i :: (List.range n).drop (i + 1) := by
  rw [List.drop_eq_getElem_cons (by simpa using h)]
  simp
theorem okAt_mem {all core : List Int} (h : (List.range core.length).all (okAt all core) = true) : ∀ x, x ∈ core → x ∈ all := by
  intro x hx
  obtain ⟨k, hk, e⟩ := List.getElem_of_mem hx
  have := List.all_eq_true.1 h k (List.mem_range.2 hk)
  unfold okAt at this
  simp only [Bool.and_eq_true, decide_eq_true_eq] at this
  have e2 : rd core (k : Int) = x := by rw [← e]; simp [rd, List.getD_eq_getElem?_getD, List.getElem?_eq_getElem hk]
  rw [← e2]
  exact this.1
theorem okAt_incr {all core : List Int} (h : (List.range core.length).all (okAt all core) = true) : core.Pairwise (· < ·) := by
  have step : ∀ k : Nat, k + 1 < core.length → rd core (k : Int) < rd core ((k + 1 : Nat) : Int) := fun k hk => by
    have := List.all_eq_true.1 h (k + 1) (List.mem_range.2 hk)
    unfold okAt at this
    simp only [Bool.and_eq_true, Bool.or_eq_true, decide_eq_true_eq] at this
    rcases this.2 with h1 | h1
    · omega
    · rw [show (((k + 1 : Nat) : Int) - 1) = (k : Int) by omega] at h1
      exact h1
  have far : ∀ d k : Nat, k + d + 1 < core.length → rd core (k : Int) < rd core ((k + d + 1 : Nat) : Int) := by
    intro d
    induction d with
    | zero => exact fun k hk => step k hk
    | succ d ih => exact fun k hk => Int.lt_trans (ih k (by omega)) (step (k + d + 1) (by omega))
  rw [List.pairwise_iff_getElem]
  intro i j hi hj hij
  have := far (j - i - 1) i (by omega)
  rw [show i + (j - i - 1) + 1 = j by omega] at this
  simpa [rd, List.getD_eq_getElem?_getD, List.getElem?_eq_getElem hi, List.getElem?_eq_getElem hj] using this
theorem outI_len {core : List Int} {i : Nat} (hi : i < core.length) : (outI core i).length + 1 = core.length := by
  unfold outI
  simp only [List.length_append, List.length_take, List.length_drop]
  omega
theorem outI_sub (core : List Int) (i : Nat) : (outI core i).Sublist core := by
  unfold outI
  have h1 : (core.take i ++ core.drop (i + 1)).Sublist (core.take i ++ core.drop i) := (List.Sublist.refl _).append (by
    have e : core.drop (i + 1) = (core.drop i).drop 1 := by rw [List.drop_drop]
    rw [e]
    exact List.drop_sublist _ _)
  rw [List.take_append_drop] at h1
  exact h1
theorem check_l1 (l : List S36) (core : List Int) (hlen : core.length ≤ 1000) (hok : ∀ i, fineOk l (outI core i) = true) : ∀ n i : Nat, i + n = core.length →
    Ev (fun k => licence_Check.l1 k l core (core.length : Int) (i : Int)) (if ((List.range core.length).drop i).all (fun i => fineB l (outI core i)) = true then 0 else 27)
  | 0, i, hi => by
    rw [List.drop_eq_nil_of_le (by simp; omega), List.all_nil, if_pos rfl]
    refine Ev.succ (g := fun _ => some 0) (fun k => ?_) (Ev.const rfl)
    rw [licence_Check.l1, if_neg (by omega)]
  | n + 1, i, hi => by
    have hw : wrap64 ((i : Int) + 1) = ((i + 1 : Nat) : Int) := w64 (by omega) (by omega)
    have hcat : slices_Concat.f [core.take i, core.drop (i + 1)] = some (outI core i) := by
      unfold slices_Concat.f
      have e : [core.take i, core.drop (i + 1)].flatten = outI core i := by unfold outI; simp
      rw [e, if_pos ⟨by have := outI_len (core := core) (i := i) (by omega); omega, by simp⟩]
    have hfi : licence_fine.f l (outI core i) = some (fineB l (outI core i)) := by unfold licence_fine.f; rw [if_pos (hok i)]
    rw [range_drop _ _ (by omega), List.all_cons]
    have eq : ∀ k, licence_Check.l1 (k + 1) l core (core.length : Int) (i : Int) = if fineB l (outI core i) = true then licence_Check.l1 k l core (core.length : Int) ((i + 1 : Nat) : Int) else some 27 := fun k => by
      rw [licence_Check.l1, if_pos (by omega), if_pos (by omega), if_pos (by omega), hw, if_pos (by omega), if_pos (by omega), Int.toNat_natCast, Int.toNat_natCast, hcat, Option.bind_some, hfi, Option.bind_some]
    cases h : fineB l (outI core i) with
    | true =>
      refine Ev.succ (fun k => by rw [eq k, h, if_pos rfl]) ?_
      simpa using check_l1 l core hlen hok n (i + 1) (by omega)
    | false =>
      refine Ev.succ (g := fun _ => some 27) (fun k => by rw [eq k, h, if_neg Bool.false_ne_true]) (Ev.const (by simp))
theorem check_l0 (l : List S36) (all core : List Int) (hinc : all.Pairwise (· < ·)) (hal : all.length ≤ 1000) (hlen : core.length ≤ 1000000) (tail : Int)
    (ht : (List.range core.length).all (okAt all core) = true → Ev (fun k => (licence_fine.f l core).bind fun t227 => (if t227 = true then (some 27) else (licence_Check.l1 k l core (core.length : Int) 0))) tail) :
    ∀ n i : Nat, i + n = core.length → (∀ j, j < i → okAt all core j = true) → Ev (fun k => licence_Check.l0 k l core all core (core.length : Int) (i : Int)) (if ((List.range core.length).drop i).all (okAt all core) = true then tail else 27)
  | 0, i, hi, hpre => by
    rw [List.drop_eq_nil_of_le (by simp; omega), List.all_nil, if_pos rfl]
    refine Ev.succ (fun k => ?_) (ht (List.all_eq_true.2 fun j hj => hpre j (by have := List.mem_range.1 hj; omega)))
    rw [licence_Check.l0, if_neg (by omega)]
  | n + 1, i, hi, hpre => by
    have hw : wrap64 ((i : Int) + 1) = ((i + 1 : Nat) : Int) := w64 (by omega) (by omega)
    have hw2 : 0 < i → wrap64 ((i : Int) - 1) = (i : Int) - 1 := fun h => w64 (by omega) (by omega)
    obtain ⟨p, hp⟩ := bs_ev all (by omega) hinc (rd core (i : Int))
    have ih := fun h => check_l0 l all core hinc hal hlen tail ht n (i + 1) (by omega) h
    rw [range_drop _ _ (by omega), List.all_cons]
    refine Ev.succ (g := fun k => (slices_BinarySearch_int_int.f k all (rd core (i : Int))).bind fun bt224 => (if bt224.2 = true then (if (i : Int) > 0 then (if 0 ≤ (wrap64 ((i : Int) - 1)) then (if (wrap64 ((i : Int) - 1)) < (core.length : Int) then (if (rd core (wrap64 ((i : Int) - 1))) ≥ (rd core (i : Int)) then (some 27) else (licence_Check.l0 k l core all core (core.length : Int) (wrap64 ((i : Int) + 1)))) else (none)) else (none)) else (licence_Check.l0 k l core all core (core.length : Int) (wrap64 ((i : Int) + 1)))) else (some 27))) (fun k => ?_) (Ev.bind hp ?_)
    · rw [licence_Check.l0, if_pos (by omega), if_pos (by omega), if_pos (by omega)]
    · have hok : okAt all core i = (decide (rd core (i : Int) ∈ all) && (decide (i = 0) || decide (rd core ((i : Int) - 1) < rd core (i : Int)))) := rfl
      have nexti : okAt all core i = true → ∀ j, j < i + 1 → okAt all core j = true := fun h j hj => by
        by_cases e : j = i
        · rw [e]; exact h
        · exact hpre j (by omega)
      by_cases hm : rd core (i : Int) ∈ all
      · by_cases h0 : i = 0
        · have hk : okAt all core i = true := by rw [hok, decide_eq_true hm, decide_eq_true h0]; rfl
          rw [hk]
          refine Ev.congr (fun k => ?_) (by simpa using ih (nexti hk))
          show (if decide (rd core (i : Int) ∈ all) = true then _ else _) = _
          rw [decide_eq_true hm, if_pos rfl, if_neg (by omega), hw]
          rfl
        · by_cases hlt : rd core ((i : Int) - 1) < rd core (i : Int)
          · have hk : okAt all core i = true := by rw [hok, decide_eq_true hm, decide_eq_true hlt, Bool.or_true]; rfl
            rw [hk]
            refine Ev.congr (fun k => ?_) (by simpa using ih (nexti hk))
            show (if decide (rd core (i : Int) ∈ all) = true then _ else _) = _
            rw [decide_eq_true hm, if_pos rfl, if_pos (by omega), hw2 (by omega), if_pos (by omega), if_pos (by omega), if_neg (by omega), hw]
            rfl
          · have hk : okAt all core i = false := by rw [hok, decide_eq_true hm, decide_eq_false h0, decide_eq_false hlt]; rfl
            rw [hk]
            refine Ev.congr (g := fun _ => some 27) (fun k => ?_) (Ev.const (by simp))
            show (if decide (rd core (i : Int) ∈ all) = true then _ else _) = _
            rw [decide_eq_true hm, if_pos rfl, if_pos (by omega), hw2 (by omega), if_pos (by omega), if_pos (by omega), if_pos (by omega)]
      · have hk : okAt all core i = false := by rw [hok, decide_eq_false hm]; rfl
        rw [hk]
        refine Ev.congr (g := fun _ => some 27) (fun k => ?_) (Ev.const (by simp))
        show (if decide (rd core (i : Int) ∈ all) = true then _ else _) = _
        rw [decide_eq_false hm, if_neg Bool.false_ne_true]
theorem check_ev (l : List S36) (hb : l.all boundC = true) (sel : List Int) (hs : sel.length ≤ 1000000) (core : List Int) (hc : core.length ≤ 1000000) : Ev (fun k => licence_Check.f k l sel core) (checkP l sel core) := by
  unfold checkP
  have hvf : licence_Valid.f l = some (validP l) := by unfold licence_Valid.f; rw [if_pos hb]
  have hsf : licence_sorted.f l sel = some (sortedP l sel) := by unfold licence_sorted.f; rw [if_pos hs]
  refine Ev.bind (Ev.const hvf) ?_
  cases hv : validP l with
  | false => exact Ev.const rfl
  | true =>
    refine Ev.congr (fun k => by rw [if_pos rfl]) (Ev.bind (Ev.const hsf) ?_)
    rw [if_pos rfl]
    have hal := sortedP_len l sel
    have hvl := valid_len hv
    refine check_l0 l (sortedP l sel) core (sortedP_incr l sel) (by omega) hc (tailC l core) (fun hall => ?_) core.length 0 (by omega) (fun j hj => absurd hj (Nat.not_lt_zero _))
    have hmem := okAt_mem hall
    have hincr := okAt_incr hall
    have hin : ∀ x, x ∈ core → 0 ≤ x ∧ x < (l.length : Int) := fun x hx => by have := sortedP_mem l sel x (hmem x hx); exact ⟨this.1, this.2.1⟩
    have hlen : core.length ≤ 1000 := by
      have := nodup_le core (sortedP l sel) (hincr.imp (fun h => by omega)) hmem
      omega
    have hfi : licence_fine.f l core = some (fineB l core) := by unfold licence_fine.f; rw [if_pos (fineOk_of hv hlen hin)]
    refine Ev.bind (Ev.const hfi) ?_
    unfold tailC
    cases hf : fineB l core with
    | true => exact Ev.const rfl
    | false =>
      refine Ev.congr (fun k => by rw [if_neg Bool.false_ne_true]) ?_
      rw [if_neg Bool.false_ne_true]
      have := check_l1 l core hlen (fun i => fineOk_of hv (Nat.le_trans (outI_sub core i).length_le hlen) (fun x hx => hin x ((outI_sub core i).subset hx))) core.length 0 (by omega)
      simpa using this

/-! ### The core is least -/
theorem okAt_sub {all core : List Int} (hinc : all.Pairwise (· < ·)) (h : core.Sublist all) : (List.range core.length).all (okAt all core) = true := by
  have hc := hinc.sublist h
  refine List.all_eq_true.2 fun j hj => ?_
  have hj' := List.mem_range.1 hj
  unfold okAt
  rw [Bool.and_eq_true, Bool.or_eq_true, decide_eq_true_eq, decide_eq_true_eq, decide_eq_true_eq]
  refine ⟨h.subset (rd_mem core _ (by omega) (by omega)), ?_⟩
  by_cases e : j = 0
  · exact .inl e
  · exact .inr (incr_at hc (by omega) (by omega) (by omega))
structure CoreOf (l : List S36) (all core : List Int) : Prop where
  sub : core.Sublist all
  bad : fineB l core = false
  least : ∀ q : List Int, q.Sublist all → q.length < core.length → fineB l q = true
theorem coreP_of {l : List S36} {sel : List Int} (hv : validP l = true) (h16 : (sortedP l sel).length ≤ 16) (hf : fineB l (sortedP l sel) = false) : CoreOf l (sortedP l sel) (coreP l sel) := by
  have e : coreP l sel = leastP (fun x => !fineB l x) (sortedP l sel) := by
    unfold coreP
    rw [if_pos hv, if_pos h16, hf, if_neg Bool.false_ne_true]
  obtain ⟨h1, h2, h3⟩ := leastP_spec (fun x => !fineB l x) (sortedP l sel) (by rw [hf]; rfl)
  rw [e]
  refine ⟨h1, by simpa using h2, fun q hq hlt => ?_⟩
  cases h : fineB l q with
  | true => rfl
  | false =>
    have h4 := h3 q hq (by rw [h]; rfl)
    rw [(lessB_iff _ _).2 (.inl hlt)] at h4
    cases h4
theorem CoreOf.check {l : List S36} {sel core : List Int} (hv : validP l = true) (h : CoreOf l (sortedP l sel) core) : checkP l sel core = 0 := by
  unfold checkP tailC
  rw [if_pos hv, if_pos (okAt_sub (sortedP_incr l sel) h.sub), h.bad, if_neg Bool.false_ne_true, if_pos]
  refine List.all_eq_true.2 fun i hi => ?_
  exact h.least _ ((outI_sub core i).trans h.sub) (by have := outI_len (core := core) (List.mem_range.1 hi); omega)
theorem coreP_fine {l : List S36} {sel : List Int} (hf : fineB l (sortedP l sel) = true) : coreP l sel = [] := by
  unfold coreP
  split
  · split
    all_goals first | rfl | (rw [if_pos hf]) | (split <;> first | rfl | (rename_i h; exact absurd hf h))
  · rfl
end Go.Proofs.Ytjagffomohbioaa.L
