/- Plain laws of the generators, of the examples, and of licence.Fine and Core; conditions: those of the statements. -/
import Derived.Test.YtjagffomohbioaaGiven
import Derived.Test.YtjagffomohbioaaLx1
import Derived.Test.YtjagffomohbioaaLx2
import Derived.Test.YtjagffomohbioaaLx3
import Derived.Test.YtjagffomohbioaaLx5
/- Plain laws: what the generators make: Around, At, Clauses, Picks, Spoilt; and that the examples live. -/
set_option linter.unusedVariables false
set_option linter.unusedSimpArgs false
namespace Go.Proofs.Ytjagffomohbioaa.L
open Go.RowKit Go.Proofs.YtjagffomohbioaaW.PrintWords Go.Proofs.YtjagffomohbioaaW.PrintLast Go.Proofs.YtjagffomohbioaaW.PrintMore

theorem ev_of_mono {α : Type} {f : Nat → Option α} (hm : ∀ k, LeO (f k) (f (k + 1))) {k : Nat} {r : α} (h : f k = some r) : Ev f r := by
  refine ⟨k, fun j hj => ?_⟩
  induction j with
  | zero =>
    have : k = 0 := by omega
    rw [← this]
    exact h
  | succ j ih =>
    by_cases e : k = j + 1
    · rw [← e]; exact h
    · exact hm j _ (ih (by omega))
theorem lives_ev : Ev (fun k => splicerylaw41_lives.f k) true := ev_of_mono splicerylaw41_lives.mono (k := 40) (by decide +kernel)

theorem wf_bounds {x : Int} (h : (Lit.int .i64 x).wf = true) : -9223372036854775808 ≤ x ∧ x ≤ 9223372036854775807 := by
  simp only [Lit.wf, Bool.and_eq_true, decide_eq_true_eq] at h
  exact h
theorem around_eq {a n : Int} (ha : -9223372036854775808 ≤ a ∧ a ≤ 9223372036854775807) (hn : 0 < n) : ∃ t, spliceryref01_Around.f a n = some t ∧ 0 ≤ t ∧ t < n := by
  unfold spliceryref01_Around.f
  have hn0 : ¬ n = 0 := by omega
  have pos : ∀ b : Int, 0 ≤ b → 0 ≤ Int.tmod b n ∧ Int.tmod b n < n := fun b hb => by
    rw [Int.tmod_eq_emod_of_nonneg hb]
    exact ⟨Int.emod_nonneg _ hn0, Int.emod_lt_of_pos _ hn⟩
  by_cases h : a < 0
  · rw [if_pos h, if_neg hn0, w64 (n := a + 1) (by omega) (by omega), w64 (by omega) (by omega)]
    exact ⟨_, rfl, pos _ (by omega)⟩
  · rw [if_neg h, if_neg hn0]
    exact ⟨_, rfl, pos _ (by omega)⟩
def AllWf (l : List Int) : Prop := ∀ x ∈ l, (Lit.int .i64 x).wf = true
theorem rd_wf {l : List Int} (h : AllWf l) (i : Int) : -9223372036854775808 ≤ rd l i ∧ rd l i ≤ 9223372036854775807 := by
  unfold rd
  by_cases e : i.toNat < l.length
  · exact wf_bounds (h _ (getD_mem' 0 l _ e))
  · rw [List.getD_eq_getElem?_getD, List.getElem?_eq_none (by omega)]
    show (-9223372036854775808 : Int) ≤ 0 ∧ (0 : Int) ≤ 9223372036854775807
    omega
theorem at_eq {l : List Int} (hl : AllWf l) (i : Int) {n : Int} (hn : 0 < n) : ∃ t, spliceryref01_At.f l i n = some t ∧ 0 ≤ t ∧ t < n := by
  unfold spliceryref01_At.f
  by_cases h1 : i < 0
  · rw [if_pos h1]
    exact ⟨0, rfl, by omega, hn⟩
  · rw [if_neg h1]
    by_cases h2 : i ≥ (l.length : Int)
    · rw [if_pos h2]
      exact ⟨0, rfl, by omega, hn⟩
    · obtain ⟨t, ht, h3⟩ := around_eq (rd_wf hl i) hn
      rw [if_neg h2, if_pos (by omega), if_pos (by omega), ht]
      exact ⟨t, rfl, h3⟩

/-! ### Picks -/
theorem picks_l0 (l : List Int) (hl : AllWf l) (hlen : l.length ≤ maxLen) : ∀ (n i : Nat) (acc : List Int), i + n = 10 → acc.length ≤ i → ∃ s, Ev (fun k => spliceryref41_Picks.l0 k l acc (i : Int)) s ∧ s.length ≤ 10
  | 0, i, acc, hi, ha => by
    refine ⟨acc, Ev.succ (g := fun _ => some acc) (fun k => ?_) (Ev.const rfl), by omega⟩
    rw [spliceryref41_Picks.l0]
    by_cases h : (i : Int) < (l.length : Int)
    · rw [if_pos h, if_neg (by omega)]
    · rw [if_neg h]
  | n + 1, i, acc, hi, ha => by
    by_cases h : (i : Int) < (l.length : Int)
    · obtain ⟨t, ht, h3⟩ := around_eq (rd_wf hl (i : Int)) (n := 10) (by omega)
      obtain ⟨s, hs, hs2⟩ := picks_l0 l hl hlen n (i + 1) (acc ++ [wrap64 (t - 1)]) (by omega) (by simp; omega)
      refine ⟨s, Ev.succ (fun k => ?_) hs, hs2⟩
      rw [spliceryref41_Picks.l0, if_pos h, if_pos (by omega), if_pos (by omega), ht]
      simp only [Option.bind_some]
      rw [if_pos (by omega), w64 (n := (i : Int) + 1) (by omega) (by omega)]
      rfl
    · refine ⟨acc, Ev.succ (g := fun _ => some acc) (fun k => ?_) (Ev.const rfl), by omega⟩
      rw [spliceryref41_Picks.l0, if_neg h]
theorem picks_ev (l : List Int) (hl : AllWf l) (hlen : l.length ≤ maxLen) : ∃ s, Ev (fun k => spliceryref41_Picks.f k l) s ∧ s.length ≤ 10 := picks_l0 l hl hlen 10 0 [] (by omega) (by simp)

/-! ### Clauses -/
def atoms6 : List ByteArray := [(⟨#[97]⟩ : ByteArray), (⟨#[98]⟩ : ByteArray), (⟨#[99]⟩ : ByteArray), (⟨#[100]⟩ : ByteArray), (⟨#[101]⟩ : ByteArray), (⟨#[102]⟩ : ByteArray)]
theorem atoms6_ok : ∀ i : Nat, i < 6 → atomP (atoms6.getD i ByteArray.empty) = true ∧ (atoms6.getD i ByteArray.empty).size = 1 ∧ condP (atoms6.getD i ByteArray.empty) = true := by decide +kernel
theorem atoms6_two : ∀ i : Nat, i < 6 → ∀ j : Nat, j < 6 → condP ((atoms6.getD i ByteArray.empty ++ (⟨#[62]⟩ : ByteArray)) ++ atoms6.getD j ByteArray.empty) = true := by decide +kernel
theorem size1 (x : Nat) (hx : x < 6) : (atoms6.getD x ByteArray.empty).size + 1 ≤ 9223372036854775807 := by rw [(atoms6_ok x hx).2.1]; decide
theorem size2 (x : Nat) (hx : x < 6) (y : Nat) (hy : y < 6) : (atoms6.getD x ByteArray.empty ++ (⟨#[62]⟩ : ByteArray)).size + (atoms6.getD y ByteArray.empty).size ≤ 9223372036854775807 := by
  rw [ByteArray.size_append, (atoms6_ok x hx).2.1, (atoms6_ok y hy).2.1]
  decide
theorem mod6 {t : Int} (h : 0 ≤ t) : ∃ i : Nat, i < 6 ∧ Int.tmod t 6 = (i : Int) := by
  rw [Int.tmod_eq_emod_of_nonneg h]
  exact ⟨(t % 6).toNat, by omega, by omega⟩
def fineC (c : S36) : Prop := badP c = false
theorem clauses_l1 (l : List Int) (hl : AllWf l) (n i : Nat) (hn : n ≤ 8) (hi : i < n) (acc : List S36) (ha : acc.length = i) (hacc : ∀ c ∈ acc, badP c = false) (name : ByteArray) (hname : name.size ≤ 16)
    (next : ∀ acc', acc'.length = i + 1 → (∀ c ∈ acc', badP c = false) → ∃ r, Ev (fun k => spliceryref41_Clauses.l0 k l atoms6 acc' (n : Int) ((i + 1 : Nat) : Int)) r ∧ r.length ≤ 8 ∧ ∀ c ∈ r, badP c = false) :
    ∀ (m j : Nat) (must : List ByteArray), j + m = 3 → must.length = j → (∀ s ∈ must, condP s = true) → ∃ r, Ev (fun k => spliceryref41_Clauses.l1 k l atoms6 acc (n : Int) (i : Int) (j : Int) name must) r ∧ r.length ≤ 8 ∧ ∀ c ∈ r, badP c = false := by
  have fin : ∀ (t : Int) (j : Nat) (must : List ByteArray), j ≤ 3 → must.length = j → (∀ s ∈ must, condP s = true) → spliceryref01_At.f l (wrap64 (1 + (i : Int))) 4 = some t → ¬ (j : Int) < t → ∃ r, Ev (fun k => spliceryref41_Clauses.l1 k l atoms6 acc (n : Int) (i : Int) (j : Int) name must) r ∧ r.length ≤ 8 ∧ ∀ c ∈ r, badP c = false := by
    intro t j must hj hm hmust ht hlt
    obtain ⟨u, hu, hu0, hu1⟩ := at_eq hl (wrap64 (40 + (i : Int))) (n := 24) (by omega)
    have hw : wrap64 ((i : Int) + 1) = ((i + 1 : Nat) : Int) := w64 (by omega) (by omega)
    have badN : ∀ nots : List ByteArray, nots.length ≤ 1 → (∀ s ∈ nots, atomP s = true) → badP (⟨name, must, nots⟩ : S36) = false := by
      intro nots h1 h2
      have c1 : must.any (fun s => !condP s) = false := List.any_eq_false.2 fun s hs => by rw [hmust s hs]; simp
      have c2 : nots.any (fun s => !atomP s) = false := List.any_eq_false.2 fun s hs => by rw [h2 s hs]; simp
      unfold badP
      rw [c1, c2]
      simp only [Bool.or_false, Bool.or_eq_false_iff, decide_eq_false_iff_not]
      exact ⟨by omega, by omega, by omega⟩
    have hd : 0 ≤ Int.tdiv u 2 := by rw [Int.tdiv_eq_ediv_of_nonneg hu0]; omega
    have hd2 : Int.tdiv u 2 < 24 := by rw [Int.tdiv_eq_ediv_of_nonneg hu0]; omega
    have hwd : wrap64 (Int.tdiv u 2) = Int.tdiv u 2 := w64 (by omega) (by omega)
    obtain ⟨x, hx, hxe⟩ := mod6 hd
    have hx0 : (0 : Int) ≤ (x : Int) := by omega
    have hx6 : (x : Int) < (atoms6.length : Int) := Int.ofNat_lt.2 hx
    have hacl : acc.length < 2199023255552 := by omega
    have hnl : ([] : List ByteArray).length < 8796093022208 := by simp
    have hrx : rdOf ByteArray.empty atoms6 ((x : Nat) : Int) = atoms6.getD x ByteArray.empty := rfl
    have e1 : ([] : List ByteArray) ++ [atoms6.getD x ByteArray.empty] = [atoms6.getD x ByteArray.empty] := rfl
    by_cases e : Int.tmod u 2 = 0
    · obtain ⟨r, hr, hr2⟩ := next (acc ++ [(⟨name, must, [atoms6.getD x ByteArray.empty]⟩ : S36)]) (by rw [List.length_append, ha]; rfl) (fun c hc => by
        rcases List.mem_append.1 hc with hc | hc
        · exact hacc c hc
        · rw [List.mem_singleton.1 hc]
          exact badN _ (Nat.le_refl _) (fun s hs => by rw [List.mem_singleton.1 hs]; exact (atoms6_ok x hx).1))
      refine ⟨r, Ev.succ (fun k => ?_) hr, hr2⟩
      rw [spliceryref41_Clauses.l1, ht, Option.bind_some, if_neg hlt, hu, Option.bind_some, if_pos e, hwd, hxe, if_pos hx0, if_pos hx6, if_pos hnl, if_pos hacl, hw, hrx, e1]
    · obtain ⟨r, hr, hr2⟩ := next (acc ++ [(⟨name, must, []⟩ : S36)]) (by rw [List.length_append, ha]; rfl) (fun c hc => by
        rcases List.mem_append.1 hc with hc | hc
        · exact hacc c hc
        · rw [List.mem_singleton.1 hc]
          exact badN _ (Nat.zero_le _) (fun s hs => absurd hs List.not_mem_nil))
      refine ⟨r, Ev.succ (fun k => ?_) hr, hr2⟩
      rw [spliceryref41_Clauses.l1, ht, Option.bind_some, if_neg hlt, hu, Option.bind_some, if_neg e, if_pos hacl, hw]
  intro m
  induction m with
  | zero =>
    intro j must hj hm hmust
    obtain ⟨t, ht, ht0, ht1⟩ := at_eq hl (wrap64 (1 + (i : Int))) (n := 4) (by omega)
    exact fin t j must (by omega) hm hmust ht (by omega)
  | succ m ih =>
    intro j must hj hm hmust
    have hj2 : j + 1 + m = 3 := by omega
    have hml : must.length < 8796093022208 := by clear ih; omega
    have hw : wrap64 ((j : Int) + 1) = ((j + 1 : Nat) : Int) := w64 (by omega) (by omega)
    obtain ⟨t, ht, ht0, ht1⟩ := at_eq hl (wrap64 (1 + (i : Int))) (n := 4) (by omega)
    by_cases hlt : (j : Int) < t
    · obtain ⟨u, hu, hu0, hu1⟩ := at_eq hl (wrap64 ((wrap64 (9 + (wrap64 (3 * (i : Int))))) + (j : Int))) (n := 180) (by omega)
      obtain ⟨x, hx, hxe⟩ := mod6 hu0
      have hrx : rdOf ByteArray.empty atoms6 ((x : Nat) : Int) = atoms6.getD x ByteArray.empty := rfl
      have hd : 0 ≤ Int.tdiv u 6 := by rw [Int.tdiv_eq_ediv_of_nonneg hu0]; omega
      have hd2 : Int.tdiv u 6 < 180 := by rw [Int.tdiv_eq_ediv_of_nonneg hu0]; omega
      have hwd : wrap64 (Int.tdiv u 6) = Int.tdiv u 6 := w64 (by omega) (by omega)
      obtain ⟨y, hy, hye⟩ := mod6 hd
      have hry : rdOf ByteArray.empty atoms6 ((y : Nat) : Int) = atoms6.getD y ByteArray.empty := rfl
      have hx0 : (0 : Int) ≤ (x : Int) := by omega
      have hy0 : (0 : Int) ≤ (y : Int) := by omega
      have hx6 : (x : Int) < (atoms6.length : Int) := Int.ofNat_lt.2 hx
      have hy6 : (y : Int) < (atoms6.length : Int) := Int.ofNat_lt.2 hy
      have hz1 := size1 x hx
      have hz2 := size2 x hx y hy
      by_cases e : Int.tmod u 5 > 0
      · obtain ⟨r, hr, hr2⟩ := ih (j + 1) (must ++ [(atoms6.getD x ByteArray.empty ++ (⟨#[62]⟩ : ByteArray)) ++ atoms6.getD y ByteArray.empty]) hj2 (by rw [List.length_append, hm]; rfl) (fun s hs => by
          rcases List.mem_append.1 hs with hs | hs
          · exact hmust s hs
          · rw [List.mem_singleton.1 hs]
            exact atoms6_two x hx y hy)
        refine ⟨r, Ev.succ (fun k => ?_) hr, hr2⟩
        rw [spliceryref41_Clauses.l1, ht, Option.bind_some, if_pos hlt, hu, Option.bind_some, hxe, hwd, hye, hrx, hry, if_pos hx0, if_pos hx6, if_pos e, if_pos hz1, if_pos hy0, if_pos hy6, if_pos hz2, if_pos hml, hw]
      · obtain ⟨r, hr, hr2⟩ := ih (j + 1) (must ++ [atoms6.getD x ByteArray.empty]) hj2 (by rw [List.length_append, hm]; rfl) (fun s hs => by
          rcases List.mem_append.1 hs with hs | hs
          · exact hmust s hs
          · rw [List.mem_singleton.1 hs]
            exact (atoms6_ok x hx).2.2)
        refine ⟨r, Ev.succ (fun k => ?_) hr, hr2⟩
        rw [spliceryref41_Clauses.l1, ht, Option.bind_some, if_pos hlt, hu, Option.bind_some, hxe, hrx, if_pos hx0, if_pos hx6, if_neg e, if_pos hml, hw]
    · exact fin t j must (by omega) hm hmust ht hlt
theorem clauses_l0 (l : List Int) (hl : AllWf l) (n : Nat) (hn : n ≤ 8) : ∀ (m i : Nat) (acc : List S36), i + m = n → acc.length = i → (∀ c ∈ acc, badP c = false) → ∃ r, Ev (fun k => spliceryref41_Clauses.l0 k l atoms6 acc (n : Int) (i : Int)) r ∧ r.length ≤ 8 ∧ ∀ c ∈ r, badP c = false
  | 0, i, acc, hi, ha, hacc => by
    refine ⟨acc, Ev.succ (g := fun _ => some acc) (fun k => ?_) (Ev.const rfl), by omega, hacc⟩
    rw [spliceryref41_Clauses.l0, if_neg (by omega)]
  | m + 1, i, acc, hi, ha, hacc => by
    obtain ⟨x, hx, hxe⟩ := mod6 (t := (i : Int)) (by omega)
    have hx0 : (0 : Int) ≤ (x : Int) := by omega
    have hx6 : (x : Int) < (atoms6.length : Int) := Int.ofNat_lt.2 hx
    have hin : (i : Int) < (n : Int) := by omega
    obtain ⟨r, hr, hr2⟩ := clauses_l1 l hl n i hn (by omega) acc ha hacc (atoms6.getD x ByteArray.empty) (by have := (atoms6_ok x hx).2.1; omega) (fun acc' h1 h2 => clauses_l0 l hl n hn m (i + 1) acc' (by omega) h1 h2) 3 0 [] (by omega) rfl (fun s hs => by simp at hs)
    refine ⟨r, Ev.succ (fun k => ?_) hr, hr2⟩
    rw [spliceryref41_Clauses.l0, if_pos hin, hxe, if_pos hx0, if_pos hx6]
    rfl
theorem clauses_ev (l : List Int) (hl : AllWf l) : ∃ c, Ev (fun k => spliceryref41_Clauses.f k l) c ∧ c.length ≤ 8 ∧ validP c = true := by
  obtain ⟨t, ht, ht0, ht1⟩ := at_eq hl 0 (n := 9) (by omega)
  obtain ⟨n, rfl⟩ : ∃ n : Nat, t = (n : Int) := ⟨t.toNat, by omega⟩
  obtain ⟨r, hr, h8, hb⟩ := clauses_l0 l hl n (by omega) n 0 [] (by omega) rfl (fun c hc => by simp at hc)
  refine ⟨r, Ev.congr (fun k => ?_) hr, h8, ?_⟩
  · unfold spliceryref41_Clauses.f
    rw [ht]
    rfl
  · unfold validP
    rw [decide_eq_true (by omega), List.any_eq_false.2 (fun c hc => by rw [hb c hc]; simp)]
    rfl

/-! ### Spoilt -/
def okC (c : S36) : Prop := c.f1.length ≤ 100 ∧ c.f2.length ≤ 100 ∧ (∀ s ∈ c.f1, s.size ≤ 64) ∧ ∀ s ∈ c.f2, s.size ≤ 64
theorem okC.bound {c : S36} (h : okC c) : boundC c = true := by
  unfold boundC
  simp only [Bool.and_eq_true, List.all_eq_true, decide_eq_true_eq]
  exact ⟨fun s hs => Nat.le_trans (h.2.2.1 s hs) (by omega), fun s hs => Nat.le_trans (h.2.2.2 s hs) (by omega)⟩
theorem all_bound {x : List S36} (h : ∀ c ∈ x, okC c) : x.all boundC = true := List.all_eq_true.2 fun c hc => (h c hc).bound
theorem small_ok {c : S36} (h : smallC c = true) : okC c := by
  obtain ⟨h1, h2, h3, h4⟩ := (show c.f1.length ≤ 8 ∧ c.f2.length ≤ 8 ∧ (∀ s, s ∈ c.f1 → s.size ≤ 64) ∧ (∀ s, s ∈ c.f2 → s.size ≤ 64) by
    unfold smallC at h
    simp only [Bool.and_eq_true, List.all_eq_true, decide_eq_true_eq] at h
    exact h)
  exact ⟨by omega, by omega, h3, h4⟩
theorem valid_ok {l : List S36} (h : validP l = true) : ∀ c ∈ l, okC c := fun c hc => small_ok (small_of_valid h c hc)
theorem set_ok {P : S36 → Prop} {l : List S36} (h : ∀ c ∈ l, P c) (i : Nat) {v : S36} (hv : P v) : ∀ c ∈ l.set i v, P c := fun c hc => by
  rcases List.mem_or_eq_of_mem_set hc with h1 | h1
  · exact h c h1
  · rw [h1]; exact hv
theorem spoilt_l0 (j : Nat) : ∀ (m i : Nat) (x : List S36), i + m = 9 → x.length ≤ 8 → j < x.length → (∀ c ∈ x, c.f1.length ≤ 8 + i ∧ c.f2.length ≤ 8 ∧ (∀ s ∈ c.f1, s.size ≤ 64) ∧ ∀ s ∈ c.f2, s.size ≤ 64) → ∃ r, Ev (fun k => spliceryref41_Spoilt.l0 k x (j : Int) (i : Int)) r ∧ r.length ≤ 100 ∧ ∀ c ∈ r, okC c
  | 0, i, x, hi, hx, hj, hc => by
    refine ⟨x, Ev.succ (g := fun _ => some x) (fun k => ?_) (Ev.const rfl), by omega, fun c h => by have := hc c h; exact ⟨by omega, by omega, this.2.2.1, this.2.2.2⟩⟩
    rw [spliceryref41_Spoilt.l0, if_neg (by omega)]
  | m + 1, i, x, hi, hx, hj, hc => by
    have hw : wrap64 ((i : Int) + 1) = ((i + 1 : Nat) : Int) := w64 (by omega) (by omega)
    have hcj := hc _ (getD_mem' ⟨ByteArray.empty, [], []⟩ x j hj)
    have hrd : rd_T36 x (j : Int) ∈ x := getD_mem' _ x j hj
    have hcj := hc _ hrd
    obtain ⟨r, hr, hr2⟩ := spoilt_l0 j m (i + 1) (x.set j (⟨(rd_T36 x (j : Int)).f0, ([] ++ (rd_T36 x (j : Int)).f1) ++ [(⟨#[97]⟩ : ByteArray)], (rd_T36 x (j : Int)).f2⟩ : S36)) (by omega) (by rw [List.length_set]; exact hx) (by rw [List.length_set]; exact hj)
      (set_ok (P := fun c => c.f1.length ≤ 8 + (i + 1) ∧ c.f2.length ≤ 8 ∧ (∀ s ∈ c.f1, s.size ≤ 64) ∧ ∀ s ∈ c.f2, s.size ≤ 64) (fun c h => by have := hc c h; exact ⟨by omega, this.2⟩) j ⟨by simp; omega, hcj.2.1, fun s hs => by
        rcases List.mem_append.1 hs with hs | hs
        · exact hcj.2.2.1 s (by simpa using hs)
        · obtain rfl : s = _ := by simpa using hs
          decide, hcj.2.2.2⟩)
    refine ⟨r, Ev.succ (fun k => ?_) hr, hr2⟩
    rw [spliceryref41_Spoilt.l0, if_pos (by omega)]
    simp only [Option.bind_some]
    rw [if_pos (by omega), if_pos (by omega), if_pos (by simp; omega), if_pos (by simp; omega), hw]
    rfl
theorem spoilt_l1 : ∀ (m i : Nat) (x : List S36), i + m = 33 → x.length ≤ 8 + i → (∀ c ∈ x, okC c) → ∃ r, Ev (fun k => spliceryref41_Spoilt.l1 k x (i : Int)) r ∧ r.length ≤ 100 ∧ ∀ c ∈ r, okC c
  | 0, i, x, hi, hx, hc => by
    refine ⟨x, Ev.succ (g := fun _ => some x) (fun k => ?_) (Ev.const rfl), by omega, hc⟩
    rw [spliceryref41_Spoilt.l1, if_neg (by omega)]
  | m + 1, i, x, hi, hx, hc => by
    have hw : wrap64 ((i : Int) + 1) = ((i + 1 : Nat) : Int) := w64 (by omega) (by omega)
    obtain ⟨r, hr, hr2⟩ := spoilt_l1 m (i + 1) (x ++ [(⟨(⟨#[]⟩ : ByteArray), ([] : List ByteArray), ([] : List ByteArray)⟩ : S36)]) (by omega) (by simp; omega) (fun c h => by
      rcases List.mem_append.1 h with h | h
      · exact hc c h
      · obtain rfl : c = _ := by simpa using h
        exact ⟨by simp, by simp, fun s hs => by simp at hs, fun s hs => by simp at hs⟩)
    refine ⟨r, Ev.succ (fun k => ?_) hr, hr2⟩
    rw [spliceryref41_Spoilt.l1, if_pos (by omega), if_pos (by omega), hw]
abbrev long9 : List ByteArray := [(⟨#[]⟩ : ByteArray), (⟨#[62]⟩ : ByteArray), (⟨#[97, 62]⟩ : ByteArray), (⟨#[62, 98]⟩ : ByteArray), (⟨#[97, 62, 98, 62, 99]⟩ : ByteArray), (⟨#[48, 49, 50, 51, 52, 53, 54, 55, 56, 57, 97, 98, 99, 100, 101, 102]⟩ : ByteArray), (⟨#[48, 49, 50, 51, 52, 53, 54, 55, 56, 57, 97, 98, 99, 100, 101, 102]⟩ : ByteArray) ++ (⟨#[120]⟩ : ByteArray), (⟨#[48, 49, 50, 51, 52, 53, 54, 55, 56, 57, 97, 98, 99, 100, 101, 102]⟩ : ByteArray) ++ (⟨#[62, 98]⟩ : ByteArray), ((⟨#[97, 62]⟩ : ByteArray) ++ (⟨#[48, 49, 50, 51, 52, 53, 54, 55, 56, 57, 97, 98, 99, 100, 101, 102]⟩ : ByteArray)) ++ (⟨#[120]⟩ : ByteArray)]
abbrev long4 : List ByteArray := [(⟨#[]⟩ : ByteArray), (⟨#[97, 62, 98]⟩ : ByteArray), (⟨#[48, 49, 50, 51, 52, 53, 54, 55, 56, 57, 97, 98, 99, 100, 101, 102]⟩ : ByteArray), (⟨#[48, 49, 50, 51, 52, 53, 54, 55, 56, 57, 97, 98, 99, 100, 101, 102]⟩ : ByteArray) ++ (⟨#[120]⟩ : ByteArray)]
theorem long9_ok : ∀ i : Nat, i < 9 → (long9.getD i ByteArray.empty).size ≤ 64 := by decide +kernel
theorem long4_ok : ∀ i : Nat, i < 4 → (long4.getD i ByteArray.empty).size ≤ 64 := by decide +kernel
theorem spoilt_ev (c : List S36) (h8 : c.length ≤ 8) (hv : validP c = true) (how bi : Int) (hh : (Lit.int .i64 how).wf = true) (hb : (Lit.int .i64 bi).wf = true) : ∃ x, Ev (fun k => spliceryref41_Spoilt.f k c how bi) x ∧ x.length ≤ 100 ∧ ∀ y ∈ x, okC y := by
  have hsm : ∀ y ∈ c, y.f1.length ≤ 8 ∧ y.f2.length ≤ 8 ∧ (∀ s ∈ y.f1, s.size ≤ 64) ∧ ∀ s ∈ y.f2, s.size ≤ 64 := fun y hy => by
    have h := small_of_valid hv y hy
    unfold smallC at h
    simp only [Bool.and_eq_true, List.all_eq_true, decide_eq_true_eq] at h
    exact h
  by_cases h0 : c.length = 0
  · refine ⟨c, Ev.congr (fun k => ?_) (g := fun _ => some c) (Ev.const rfl), by omega, valid_ok hv⟩
    unfold spliceryref41_Spoilt.f
    rw [if_pos (by omega)]
  obtain ⟨t, ht, ht0, ht1⟩ := around_eq (wf_bounds hb) (n := (c.length : Int)) (by omega)
  obtain ⟨j, rfl⟩ : ∃ j : Nat, t = (j : Int) := ⟨t.toNat, by omega⟩
  obtain ⟨u, hu, hu0, hu1⟩ := around_eq (wf_bounds hh) (n := 8) (by omega)
  obtain ⟨v9, hv9, v90, v91⟩ := around_eq (wf_bounds hb) (n := 9) (by omega)
  obtain ⟨v4, hv4, v40, v41⟩ := around_eq (wf_bounds hb) (n := 4) (by omega)
  have hj : j < c.length := by omega
  have hcj := hsm (rd_T36 c (j : Int)) (getD_mem' _ c j hj)
  have hset : ∀ v : S36, okC v → ∀ y ∈ c.set j v, okC y := fun v hv' => set_ok (valid_ok hv) j hv'
  have hlen : ∀ v : S36, (c.set j v).length ≤ 100 := fun v => by rw [List.length_set]; omega
  have n0 : ¬ ((c.length : Int) = 0) := by omega
  have b1 : ([] : List S36).length + c.length < 2199023255552 := by simp; omega
  have j0 : (0 : Int) ≤ (j : Int) := by omega
  have j1 : (j : Int) < (c.length : Int) := by omega
  have c1 : (rd_T36 c (j : Int)).f1.length < 8796093022208 := by have := hcj.1; clear hsm hset hlen; omega
  have c2 : (rd_T36 c (j : Int)).f2.length < 8796093022208 := by have := hcj.2.1; clear hsm hset hlen; omega
  have d1 : ([] : List ByteArray).length + (rd_T36 c (j : Int)).f1.length < 8796093022208 := by rw [List.length_nil, Nat.zero_add]; exact c1
  have d2 : ([] : List ByteArray).length + (rd_T36 c (j : Int)).f2.length < 8796093022208 := by rw [List.length_nil, Nat.zero_add]; exact c2
  have v9L : v9 < (long9.length : Int) := v91
  have v4L : v4 < (long4.length : Int) := v41
  have w9 : (rdOf ByteArray.empty long9 v9).size ≤ 64 := long9_ok v9.toNat (by omega)
  have w4 : (rdOf ByteArray.empty long4 v4).size ≤ 64 := long4_ok v4.toNat (by omega)
  have app1 : ∀ (ys : List ByteArray), ys.length ≤ 10 → (∀ s ∈ ys, s.size ≤ 64) → okC (⟨(rd_T36 c (j : Int)).f0, (rd_T36 c (j : Int)).f1 ++ ys, (rd_T36 c (j : Int)).f2⟩ : S36) := fun ys h1 h2 => by
    refine ⟨?_, by have := hcj.2.1; show (rd_T36 c (j : Int)).f2.length ≤ 100; omega, fun s hs => ?_, hcj.2.2.2⟩
    · have := hcj.1
      show ((rd_T36 c (j : Int)).f1 ++ ys).length ≤ 100
      rw [List.length_append]; omega
    · rcases List.mem_append.1 hs with hs | hs
      · exact hcj.2.2.1 s hs
      · exact h2 s hs
  have app2 : ∀ (ys : List ByteArray), ys.length ≤ 10 → (∀ s ∈ ys, s.size ≤ 64) → okC (⟨(rd_T36 c (j : Int)).f0, (rd_T36 c (j : Int)).f1, (rd_T36 c (j : Int)).f2 ++ ys⟩ : S36) := fun ys h1 h2 => by
    refine ⟨by have := hcj.1; show (rd_T36 c (j : Int)).f1.length ≤ 100; omega, ?_, hcj.2.2.1, fun s hs => ?_⟩
    · have := hcj.2.1
      show ((rd_T36 c (j : Int)).f2 ++ ys).length ≤ 100
      rw [List.length_append]; omega
    · rcases List.mem_append.1 hs with hs | hs
      · exact hcj.2.2.2 s hs
      · exact h2 s hs
  rcases (show u = 0 ∨ u = 1 ∨ u = 2 ∨ u = 3 ∨ u = 4 ∨ u = 5 ∨ 6 ≤ u by omega) with e | e | e | e | e | e | e
  · refine ⟨_, Ev.congr (fun k => ?_) (g := fun _ => some (c.set j (⟨(⟨#[48, 49, 50, 51, 52, 53, 54, 55, 56, 57, 97, 98, 99, 100, 101, 102]⟩ : ByteArray) ++ (⟨#[120]⟩ : ByteArray), (rd_T36 c (j : Int)).f1, (rd_T36 c (j : Int)).f2⟩ : S36))) (Ev.const rfl), hlen _, hset _ (by have := valid_ok hv (rd_T36 c (j : Int)) (getD_mem' _ c j hj); exact ⟨this.1, this.2.1, this.2.2.1, this.2.2.2⟩)⟩
    unfold spliceryref41_Spoilt.f
    rw [if_neg n0, Option.bind_some, if_pos b1, Option.bind_some, ht, Option.bind_some, hu, Option.bind_some, List.nil_append, if_pos e, if_pos (by decide), if_pos j0, if_pos j1]
    rfl
  · refine ⟨_, Ev.congr (fun k => ?_) (g := fun _ => some (c.set j (⟨(rd_T36 c (j : Int)).f0, (rd_T36 c (j : Int)).f1 ++ [rdOf ByteArray.empty long9 v9], (rd_T36 c (j : Int)).f2⟩ : S36))) (Ev.const rfl), hlen _, hset _ (app1 _ (by simp) (fun s hs => by rw [List.mem_singleton.1 hs]; exact w9))⟩
    unfold spliceryref41_Spoilt.f
    rw [if_neg n0, Option.bind_some, if_pos b1, Option.bind_some, ht, Option.bind_some, hu, Option.bind_some, List.nil_append, if_neg (by omega), if_pos e, Option.bind_some, if_pos j0, if_pos j1, if_pos d1, Option.bind_some, if_pos (by decide), if_pos (by decide), if_pos (by decide), if_pos (by decide), Option.bind_some, hv9, Option.bind_some, if_pos v90, if_pos v9L, List.nil_append, if_pos c1, if_pos j1]
    rfl
  · refine ⟨_, Ev.congr (fun k => ?_) (g := fun _ => some (c.set j (⟨(rd_T36 c (j : Int)).f0, (rd_T36 c (j : Int)).f1, (rd_T36 c (j : Int)).f2 ++ [rdOf ByteArray.empty long4 v4]⟩ : S36))) (Ev.const rfl), hlen _, hset _ (app2 _ (by simp) (fun s hs => by rw [List.mem_singleton.1 hs]; exact w4))⟩
    unfold spliceryref41_Spoilt.f
    rw [if_neg n0, Option.bind_some, if_pos b1, Option.bind_some, ht, Option.bind_some, hu, Option.bind_some, List.nil_append, if_neg (by omega), if_neg (by omega), if_pos e, Option.bind_some, if_pos j0, if_pos j1, if_pos d2, Option.bind_some, if_pos (by decide), Option.bind_some, hv4, Option.bind_some, if_pos v40, if_pos v4L, List.nil_append, if_pos c2, if_pos j1]
    rfl
  · obtain ⟨r, hr, hr2⟩ := spoilt_l0 j 9 0 c (by omega) h8 hj (fun y hy => by have := hsm y hy; exact ⟨by omega, this.2⟩)
    refine ⟨r, Ev.congr (fun k => ?_) hr, hr2⟩
    unfold spliceryref41_Spoilt.f
    rw [if_neg n0, Option.bind_some, if_pos b1, Option.bind_some, ht, Option.bind_some, hu, Option.bind_some, List.nil_append, if_neg (by omega), if_neg (by omega), if_neg (by omega), if_pos e]
    rfl
  · obtain ⟨r, hr, hr2⟩ := spoilt_l1 33 0 c (by omega) (by omega) (valid_ok hv)
    refine ⟨r, Ev.congr (fun k => ?_) hr, hr2⟩
    unfold spliceryref41_Spoilt.f
    rw [if_neg n0, Option.bind_some, if_pos b1, Option.bind_some, ht, Option.bind_some, hu, Option.bind_some, List.nil_append, if_neg (by omega), if_neg (by omega), if_neg (by omega), if_neg (by omega), if_pos e]
    rfl
  · have d3 : (rd_T36 c (j : Int)).f2.length + ([(⟨#[97]⟩ : ByteArray), (⟨#[98]⟩ : ByteArray), (⟨#[99]⟩ : ByteArray), (⟨#[100]⟩ : ByteArray), (⟨#[101]⟩ : ByteArray), (⟨#[102]⟩ : ByteArray), (⟨#[103]⟩ : ByteArray), (⟨#[104]⟩ : ByteArray)] : List ByteArray).length < 8796093022208 := by
      have := hcj.2.1
      clear hsm hset hlen app1 app2 w9 w4 v9L v4L
      simp only [List.length_cons, List.length_nil]
      omega
    refine ⟨_, Ev.congr (fun k => ?_) (g := fun _ => some (c.set j (⟨(rd_T36 c (j : Int)).f0, (rd_T36 c (j : Int)).f1, (rd_T36 c (j : Int)).f2 ++ ([(⟨#[97]⟩ : ByteArray), (⟨#[98]⟩ : ByteArray), (⟨#[99]⟩ : ByteArray), (⟨#[100]⟩ : ByteArray), (⟨#[101]⟩ : ByteArray), (⟨#[102]⟩ : ByteArray), (⟨#[103]⟩ : ByteArray), (⟨#[104]⟩ : ByteArray)] : List ByteArray)⟩ : S36))) (Ev.const rfl), hlen _, hset _ (app2 _ (by simp) (by decide))⟩
    unfold spliceryref41_Spoilt.f
    rw [if_neg n0, Option.bind_some, if_pos b1, Option.bind_some, ht, Option.bind_some, hu, Option.bind_some, List.nil_append, if_neg (by omega), if_neg (by omega), if_neg (by omega), if_neg (by omega), if_neg (by omega), if_pos e, Option.bind_some, if_pos j0, if_pos j1, if_pos d2, Option.bind_some, Option.bind_some, List.nil_append, if_pos d3, if_pos j1]
    rfl
  · refine ⟨c, Ev.congr (fun k => ?_) (g := fun _ => some c) (Ev.const rfl), by omega, valid_ok hv⟩
    unfold spliceryref41_Spoilt.f
    rw [if_neg n0, Option.bind_some, if_pos b1, Option.bind_some, ht, Option.bind_some, hu, Option.bind_some, List.nil_append, if_neg (by omega), if_neg (by omega), if_neg (by omega), if_neg (by omega), if_neg (by omega), if_neg (by omega)]
end Go.Proofs.Ytjagffomohbioaa.L

/- Plain laws: SameInts, the core's length, licence.Fine and Check as plain functions. -/
set_option linter.unusedVariables false
set_option linter.unusedSimpArgs false
namespace Go.Proofs.Ytjagffomohbioaa.L
open Go.RowKit Go.Proofs.YtjagffomohbioaaW.PrintWords Go.Proofs.YtjagffomohbioaaW.PrintLast Go.Proofs.YtjagffomohbioaaW.PrintMore

/-- licence.Fine. -/
def fineP (l0 : List S36) (l1 : List Int) : Bool := if validP l0 = true then fineB l0 (sortedP l0 l1) else false
theorem fine_f {l0 : List S36} {l1 : List Int} (hb : l0.all boundC = true) (hl : l1.length ≤ 1000000) : licence_Fine.f l0 l1 = some (fineP l0 l1) := by
  unfold licence_Fine.f licence_Valid.f fineP
  rw [if_pos hb]
  simp only [Option.bind_some]
  cases hv : validP l0 with
  | false => rfl
  | true =>
    rw [if_pos rfl]
    unfold licence_sorted.f
    rw [if_pos hl]
    simp only [Option.bind_some]
    unfold licence_fine.f
    rw [if_pos (fineOk_sorted l1 hv)]
    rfl
end Go.Proofs.Ytjagffomohbioaa.L
