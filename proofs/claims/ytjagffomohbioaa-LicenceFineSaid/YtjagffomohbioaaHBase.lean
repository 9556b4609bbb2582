/- Package licence in plain Lean (atoms, conditions, what follows, the work list, the core), and the memory that its walks keep: slices, maps and rows of strings. -/
import Derived.Test.YtjagffomohbioaaLx0
import Derived.Lib.IndexLaws
import Derived.Lib.SlicesCompact
import Derived.Shelf.GgClosure.Gives
import Derived.Deep.LoopGhost
import Derived.Maps.OwnSet
import Derived.Maps.Views
import Derived.Maps.OwnOps
import Derived.StringKeys
/- The plain functions of package licence: atoms, conditions, valid clauses, selections, what follows, and whether a selection is fine; plain Lean, no program. -/
set_option linter.unusedVariables false
namespace Go.Proofs.Ytjagffomohbioaa.L
open Go.RowKit Go.Proofs.YtjagffomohbioaaW.PrintWords Go.Proofs.YtjagffomohbioaaW.PrintLast Go.Proofs.YtjagffomohbioaaW.PrintMore

/-- The place of the first '>', or -1. -/
def gtAt (s : ByteArray) : Int := Lib.indexByte s.data.toList 62
def cutP (s : ByteArray) : ByteArray × ByteArray × Bool :=
  if 0 ≤ gtAt s then (s.extract 0 (gtAt s).toNat, s.extract ((gtAt s).toNat + 1) s.size, true) else (s, ⟨#[]⟩, false)
def atomP (s : ByteArray) : Bool := decide (1 ≤ s.size) && (decide (s.size ≤ 16) && !decide (0 ≤ gtAt s))
def condP (s : ByteArray) : Bool := atomP s || ((cutP s).2.2 && (atomP (cutP s).1 && atomP (cutP s).2.1))
def badP (c : S36) : Bool := decide (16 < c.f0.size) || (decide (8 < c.f1.length) || (decide (8 < c.f2.length) || (c.f1.any (fun s => !condP s) || c.f2.any (fun s => !atomP s))))
def validP (l : List S36) : Bool := decide (l.length ≤ 32) && !l.any badP
/-- The indices of clauses in a selection, increasing, each once. -/
def sortedP (l : List S36) (sel : List Int) : List Int := ((List.range l.length).map (fun n : Nat => (n : Int))).filter (fun i => decide (i ∈ sel))
def mustOf (l : List S36) (sel : List Int) : List ByteArray := sel.flatMap (fun i => (rd_T36 l i).f1)
def notOf (l : List S36) (sel : List Int) : List ByteArray := sel.flatMap (fun i => (rd_T36 l i).f2)

/-- What follows from conditions. -/
inductive Fol (must : List ByteArray) : ByteArray → Prop
  | base (s : ByteArray) : s ∈ must → (cutP s).2.2 = false → Fol must s
  | step (s : ByteArray) : s ∈ must → (cutP s).2.2 = true → Fol must (cutP s).1 → Fol must (cutP s).2.1

def memB (s : ByteArray) (l : List ByteArray) : Bool := l.any (fun x => decide (x = s))
theorem memB_iff (s : ByteArray) (l : List ByteArray) : memB s l = true ↔ s ∈ l := by
  simp [memB]
/-- One round of the reference. -/
def roundF (out : List ByteArray) : List ByteArray → List ByteArray
  | [] => out
  | s :: r =>
    let p := cutP s
    if p.2.2 = true then roundF (if memB p.1 out = true then (if memB p.2.1 out = true then out else out ++ [p.2.1]) else out) r
    else roundF (if memB p.1 out = true then out else out ++ [p.1]) r
def roundsF (must : List ByteArray) : Nat → List ByteArray → List ByteArray
  | 0, out => out
  | n + 1, out => roundsF must n (roundF out must)
def folList (must : List ByteArray) : List ByteArray := roundsF must (must.length + 1) []
def fineB (l : List S36) (sel : List Int) : Bool := !(notOf l sel).any (fun s => memB s (folList (mustOf l sel)))

def smallC (c : S36) : Bool := decide (c.f1.length ≤ 8) && (decide (c.f2.length ≤ 8) && (c.f1.all (fun s => decide (s.size ≤ 64)) && c.f2.all (fun s => decide (s.size ≤ 64))))
def fineOk (l : List S36) (sel : List Int) : Bool := decide (sel.length ≤ 1000) && sel.all (fun i => decide (0 ≤ i) && (decide (i < (l.length : Int)) && smallC (rd_T36 l i)))

theorem cutP_snd_size (s : ByteArray) : (cutP s).1.size ≤ s.size ∧ (cutP s).2.1.size ≤ s.size := by
  unfold cutP
  split
  · simp only [ByteArray.size_extract]
    omega
  · exact ⟨Nat.le_refl _, Nat.zero_le _⟩
theorem cutP_no (s : ByteArray) (h : (cutP s).2.2 = false) : (cutP s).1 = s := by
  unfold cutP at h ⊢
  split at h
  · cases h
  · rename_i hn
    rw [if_neg hn]

/-! ### Given contracts' functions -/
def strings_Cut.f (a0 a1 : ByteArray) : Option (ByteArray × ByteArray × Bool) := if a1 = ⟨#[62]⟩ ∧ a0.size ≤ 9223372036854775807 then some (cutP a0) else none
def strings_Contains.f (a0 a1 : ByteArray) : Option Bool := if a1 = ⟨#[62]⟩ then some (decide (0 ≤ gtAt a0)) else none
def boundC (c : S36) : Bool := c.f1.all (fun s => decide (s.size ≤ 9223372036854775807)) && c.f2.all (fun s => decide (s.size ≤ 9223372036854775807))
def licence_Valid.f (l0 : List S36) : Option Bool := if l0.all boundC = true then some (validP l0) else none
def licence_sorted.f (l0 : List S36) (l1 : List Int) : Option (List Int) := if l1.length ≤ 1000000 then some (sortedP l0 l1) else none
def licence_fine.f (l0 : List S36) (l1 : List Int) : Option Bool := if fineOk l0 l1 = true then some (fineB l0 l1) else none
def slices_Clone.f (l0 : List Int) : Option (List Int) := if l0.length ≤ 1000000 then some l0 else none
def slices_Concat.f (l0 : List (List Int)) : Option (List Int) := if l0.flatten.length ≤ 1000000 ∧ l0.length ≤ 1000000 then some l0.flatten else none
end Go.Proofs.Ytjagffomohbioaa.L

/- Plain: the rounds of the reference find just what follows (least fixed point); plain Lean, no program. -/
set_option linter.unusedVariables false
set_option linter.unusedSimpArgs false
namespace Go.Proofs.Ytjagffomohbioaa.L

theorem nodup_le {α : Type} [DecidableEq α] : ∀ (l l2 : List α), l.Nodup → (∀ x, x ∈ l → x ∈ l2) → l.length ≤ l2.length
  | [], _, _, _ => Nat.zero_le _
  | x :: l, l2, hn, hs => by
    obtain ⟨h1, h2⟩ := List.nodup_cons.1 hn
    have hx := hs x List.mem_cons_self
    have := nodup_le l (l2.erase x) h2 (fun y hy => by
      rw [List.mem_erase_of_ne]
      · exact hs y (List.mem_cons_of_mem _ hy)
      · rintro rfl; exact h1 hy)
    rw [List.length_erase_of_mem hx] at this
    have hp := List.length_pos_of_mem hx
    simp only [List.length_cons]
    omega

/-- What a condition can add. -/
def candOf (s : ByteArray) : ByteArray := if (cutP s).2.2 = true then (cutP s).2.1 else (cutP s).1
theorem roundF_cons (out : List ByteArray) (s : ByteArray) (r : List ByteArray) : ∃ out', roundF out (s :: r) = roundF out' r ∧ (out' = out ∨ (out' = out ++ [candOf s] ∧ candOf s ∉ out ∧ ((cutP s).2.2 = true → (cutP s).1 ∈ out))) ∧
    (out' = out → ((cutP s).2.2 = true → (cutP s).1 ∈ out → (cutP s).2.1 ∈ out) ∧ ((cutP s).2.2 = false → (cutP s).1 ∈ out)) := by
  have e0 : roundF out (s :: r) = if (cutP s).2.2 = true then roundF (if memB (cutP s).1 out = true then (if memB (cutP s).2.1 out = true then out else out ++ [(cutP s).2.1]) else out) r else roundF (if memB (cutP s).1 out = true then out else out ++ [(cutP s).1]) r := rfl
  rw [e0]
  unfold candOf
  cases h : (cutP s).2.2 with
  | true =>
    rw [if_pos rfl, if_pos rfl]
    by_cases h1 : memB (cutP s).1 out = true
    · by_cases h2 : memB (cutP s).2.1 out = true
      · exact ⟨out, by rw [if_pos h1, if_pos h2], .inl rfl, fun _ => ⟨fun _ _ => (memB_iff _ _).1 h2, fun e => by cases e⟩⟩
      · refine ⟨out ++ [(cutP s).2.1], by rw [if_pos h1, if_neg h2], .inr ⟨rfl, fun e => h2 ((memB_iff _ _).2 e), fun _ => (memB_iff _ _).1 h1⟩, fun e => ?_⟩
        have := congrArg List.length e
        simp at this
    · exact ⟨out, by rw [if_neg h1], .inl rfl, fun _ => ⟨fun _ e => absurd ((memB_iff _ _).2 e) h1, fun e => by cases e⟩⟩
  | false =>
    rw [if_neg (show ¬ (false = true) from Bool.false_ne_true), if_neg (show ¬ (false = true) from Bool.false_ne_true)]
    by_cases h1 : memB (cutP s).1 out = true
    · exact ⟨out, by rw [if_pos h1], .inl rfl, fun _ => ⟨(fun e => by cases e), fun _ => (memB_iff _ _).1 h1⟩⟩
    · refine ⟨out ++ [(cutP s).1], by rw [if_neg h1], .inr ⟨rfl, fun e => h1 ((memB_iff _ _).2 e), (fun e => by cases e)⟩, fun e => ?_⟩
      have := congrArg List.length e
      simp at this

theorem roundF_prefix : ∀ (ms out : List ByteArray), ∃ ext, roundF out ms = out ++ ext
  | [], out => ⟨[], by simp [roundF]⟩
  | s :: r, out => by
    obtain ⟨out', h1, h2, _⟩ := roundF_cons out s r
    obtain ⟨ext, h3⟩ := roundF_prefix r out'
    rw [h1, h3]
    rcases h2 with rfl | ⟨rfl, _⟩
    · exact ⟨ext, rfl⟩
    · exact ⟨[candOf s] ++ ext, by simp⟩
theorem roundF_nodup : ∀ (ms out : List ByteArray), out.Nodup → (roundF out ms).Nodup
  | [], out, h => by simpa [roundF] using h
  | s :: r, out, h => by
    obtain ⟨out', h1, h2, _⟩ := roundF_cons out s r
    rw [h1]
    refine roundF_nodup r out' ?_
    rcases h2 with rfl | ⟨rfl, hn, _⟩
    · exact h
    · rw [List.nodup_append]
      refine ⟨h, by simp, fun a ha b hb => ?_⟩
      obtain rfl : b = candOf s := by simpa using hb
      rintro rfl
      exact hn ha
theorem roundF_cand (C : List ByteArray) : ∀ (ms out : List ByteArray), (∀ x, x ∈ out → x ∈ C) → (∀ s, s ∈ ms → candOf s ∈ C) → ∀ x, x ∈ roundF out ms → x ∈ C
  | [], out, h, _, x, hx => h x (by simpa [roundF] using hx)
  | s :: r, out, h, hc, x, hx => by
    obtain ⟨out', h1, h2, _⟩ := roundF_cons out s r
    rw [h1] at hx
    refine roundF_cand C r out' (fun y hy => ?_) (fun t ht => hc t (List.mem_cons_of_mem _ ht)) x hx
    rcases h2 with rfl | ⟨rfl, _⟩
    · exact h y hy
    · rcases List.mem_append.1 hy with hy | hy
      · exact h y hy
      · obtain rfl : y = candOf s := by simpa using hy
        exact hc s List.mem_cons_self
theorem roundF_sound (must : List ByteArray) : ∀ (ms out : List ByteArray), (∀ s, s ∈ ms → s ∈ must) → (∀ x, x ∈ out → Fol must x) → ∀ x, x ∈ roundF out ms → Fol must x
  | [], out, _, h, x, hx => h x (by simpa [roundF] using hx)
  | s :: r, out, hm, h, x, hx => by
    obtain ⟨out', h1, h2, _⟩ := roundF_cons out s r
    rw [h1] at hx
    refine roundF_sound must r out' (fun t ht => hm t (List.mem_cons_of_mem _ ht)) (fun y hy => ?_) x hx
    rcases h2 with rfl | ⟨rfl, _, hk⟩
    · exact h y hy
    · rcases List.mem_append.1 hy with hy | hy
      · exact h y hy
      · obtain rfl : y = candOf s := by simpa using hy
        unfold candOf
        cases hc : (cutP s).2.2 with
        | true => rw [if_pos rfl]; exact Fol.step s (hm s List.mem_cons_self) hc (h _ (hk hc))
        | false =>
          rw [if_neg Bool.false_ne_true, cutP_no s hc]
          exact Fol.base s (hm s List.mem_cons_self) hc

def Closed (must out : List ByteArray) : Prop := ∀ s, s ∈ must → ((cutP s).2.2 = true → (cutP s).1 ∈ out → (cutP s).2.1 ∈ out) ∧ ((cutP s).2.2 = false → (cutP s).1 ∈ out)
theorem roundF_stable : ∀ (ms out : List ByteArray), (roundF out ms).length = out.length → Closed ms out
  | [], _, _ => fun s hs => absurd hs List.not_mem_nil
  | s :: r, out, h => by
    obtain ⟨out', h1, h2, h3⟩ := roundF_cons out s r
    rw [h1] at h
    obtain ⟨ext, he⟩ := roundF_prefix r out'
    have hl := congrArg List.length he
    simp only [List.length_append] at hl
    rcases h2 with rfl | ⟨rfl, _⟩
    · have ih := roundF_stable r out' h
      intro t ht
      rcases List.mem_cons.1 ht with rfl | ht
      · exact h3 rfl
      · exact ih t ht
    · simp only [List.length_append, List.length_singleton] at hl
      omega
theorem roundF_same {ms out : List ByteArray} (h : (roundF out ms).length = out.length) : roundF out ms = out := by
  obtain ⟨ext, he⟩ := roundF_prefix ms out
  have hl := congrArg List.length he
  simp only [List.length_append] at hl
  obtain rfl : ext = [] := List.eq_nil_of_length_eq_zero (by omega)
  simpa using he
theorem roundsF_same (must : List ByteArray) {out : List ByteArray} (h : roundF out must = out) : ∀ n, roundsF must n out = out
  | 0 => rfl
  | n + 1 => by
    unfold roundsF
    rw [h]
    exact roundsF_same must h n
theorem roundsF_closed (must : List ByteArray) : ∀ (n : Nat) (out : List ByteArray), out.Nodup → (∀ x, x ∈ out → x ∈ must.map candOf) → must.length < out.length + n → Closed must (roundsF must n out)
  | 0, out, hn, hc, hl => by
    have := nodup_le out (must.map candOf) hn hc
    simp at this
    omega
  | n + 1, out, hn, hc, hl => by
    unfold roundsF
    by_cases h : (roundF out must).length = out.length
    · have e := roundF_same h
      rw [e, roundsF_same must e]
      exact roundF_stable must out h
    · obtain ⟨ext, he⟩ := roundF_prefix must out
      have hlen := congrArg List.length he
      simp only [List.length_append] at hlen
      exact roundsF_closed must n _ (roundF_nodup must out hn) (roundF_cand _ must out hc (fun s hs => List.mem_map.2 ⟨s, hs, rfl⟩)) (by omega)
theorem roundsF_sound (must : List ByteArray) : ∀ (n : Nat) (out : List ByteArray), (∀ x, x ∈ out → Fol must x) → ∀ x, x ∈ roundsF must n out → Fol must x
  | 0, _, h, x, hx => h x hx
  | n + 1, out, h, x, hx => roundsF_sound must n _ (roundF_sound must must out (fun _ hs => hs) h) x hx

theorem folList_iff (must : List ByteArray) (s : ByteArray) : s ∈ folList must ↔ Fol must s := by
  have hc : Closed must (folList must) := roundsF_closed must _ [] (by simp) (by simp) (by simp)
  refine ⟨roundsF_sound must _ [] (by simp) s, fun h => ?_⟩
  induction h with
  | base s hs hn => rw [← cutP_no s hn]; exact (hc s hs).2 hn
  | step s hs hy _ ih => exact (hc s hs).1 hy ih
theorem memB_fol (must : List ByteArray) (s : ByteArray) : memB s (folList must) = true ↔ Fol must s := by
  rw [memB_iff, folList_iff]
theorem Fol.size {must : List ByteArray} {n : Nat} (hm : ∀ s, s ∈ must → s.size ≤ n) {s : ByteArray} (h : Fol must s) : s.size ≤ n := by
  cases h with
  | base s hs _ => exact hm s hs
  | step t hs _ _ => exact Nat.le_trans (cutP_snd_size t).2 (hm t hs)
theorem Fol.mono {must must' : List ByteArray} (hm : ∀ s, s ∈ must → s ∈ must') {s : ByteArray} (h : Fol must s) : Fol must' s := by
  induction h with
  | base s hs hn => exact Fol.base s (hm s hs) hn
  | step s hs hy _ ih => exact Fol.step s (hm s hs) hy ih
end Go.Proofs.Ytjagffomohbioaa.L

/- Plain: index vectors as functions, their lexical order, the next one; lists of a list's elements and the least of them; plain Lean, no program. -/
set_option linter.unusedVariables false
set_option linter.unusedSimpArgs false
namespace Go.Proofs.Ytjagffomohbioaa.L
open Go.RowKit Go.Proofs.YtjagffomohbioaaW.PrintWords Go.Proofs.YtjagffomohbioaaW.PrintLast Go.Proofs.YtjagffomohbioaaW.PrintMore

/-! ### Lexical order -/
def ltF (n : Nat) (a b : Nat → Int) : Prop := ∃ i, i < n ∧ (∀ j, j < i → a j = b j) ∧ a i < b i
theorem ltF_trans {n : Nat} {a b c : Nat → Int} (h1 : ltF n a b) (h2 : ltF n b c) : ltF n a c := by
  obtain ⟨i, hi, ei, li⟩ := h1
  obtain ⟨k, hk, ek, lk⟩ := h2
  rcases Nat.lt_trichotomy i k with h | h | h
  · exact ⟨i, hi, fun j hj => (ei j hj).trans (ek j (by omega)), by rw [← ek i h]; exact li⟩
  · subst h
    exact ⟨i, hi, fun j hj => (ei j hj).trans (ek j hj), by omega⟩
  · exact ⟨k, hk, fun j hj => (ei j (by omega)).trans (ek j hj), by rw [ei k h]; exact lk⟩
theorem ltF_irrefl {n : Nat} {a : Nat → Int} (h : ltF n a a) : False := by
  obtain ⟨i, _, _, h⟩ := h
  omega
theorem ltF_tri : ∀ (n : Nat) (a b : Nat → Int), ltF n a b ∨ ltF n b a ∨ ∀ j, j < n → a j = b j
  | 0, a, b => .inr (.inr (fun j hj => absurd hj (Nat.not_lt_zero _)))
  | n + 1, a, b => by
    rcases ltF_tri n a b with ⟨i, hi, h⟩ | ⟨i, hi, h⟩ | h
    · exact .inl ⟨i, by omega, h⟩
    · exact .inr (.inl ⟨i, by omega, h⟩)
    · rcases Int.lt_trichotomy (a n) (b n) with h1 | h1 | h1
      · exact .inl ⟨n, by omega, h, h1⟩
      · refine .inr (.inr fun j hj => ?_)
        by_cases e : j = n
        · subst e; exact h1
        · exact h j (by omega)
      · exact .inr (.inl ⟨n, by omega, fun j hj => (h j hj).symm, h1⟩)

/-! ### Index vectors -/
def IncV (m n : Nat) (a : Nat → Int) : Prop := (∀ i j, i < j → j < n → a i < a j) ∧ ∀ i, i < n → 0 ≤ a i ∧ a i < (m : Int)
theorem IncV.up {m n : Nat} {a : Nat → Int} (h : IncV m n a) (i : Nat) : ∀ d, i + d < n → a i + d ≤ a (i + d)
  | 0, _ => by simp
  | d + 1, hd => by
    have h1 := IncV.up h i d (by omega)
    have h2 := h.1 (i + d) (i + (d + 1)) (by omega) hd
    omega
theorem IncV.ge {m n : Nat} {a : Nat → Int} (h : IncV m n a) (j : Nat) (hj : j < n) : (j : Int) ≤ a j := by
  have h1 := h.up 0 j (by omega)
  have h2 := (h.2 0 (by omega)).1
  rw [Nat.zero_add] at h1
  omega
theorem IncV.le {m n : Nat} {a : Nat → Int} (h : IncV m n a) (j : Nat) (hj : j < n) : a j + n ≤ m + j := by
  have h1 := h.up j (n - 1 - j) (by omega)
  have h2 := (h.2 (j + (n - 1 - j)) (by omega)).2
  omega
theorem le_or {n : Nat} {u v : Nat → Int} (h : ∀ j, j < n → u j ≤ v j) : (∀ j, j < n → u j = v j) ∨ ltF n u v := by
  rcases ltF_tri n u v with h1 | ⟨i, hi, _, h2⟩ | h1
  · exact .inr h1
  · have := h i hi
    omega
  · exact .inl h1
theorem IncV.first {m n : Nat} (h : n ≤ m) : IncV m n (fun i => (i : Int)) := ⟨fun i j h1 h2 => by show (i : Int) < (j : Int); omega, fun i hi => by show (0 : Int) ≤ (i : Int) ∧ (i : Int) < (m : Int); omega⟩
theorem first_least {m n : Nat} {u : Nat → Int} (h : IncV m n u) : ¬ ltF n u (fun i => (i : Int)) := by
  rintro ⟨i, hi, _, h2⟩
  have := h.ge i hi
  have h2' : u i < (i : Int) := h2
  omega
/-- The next vector: v is greatest behind i. -/
def nextV (v : Nat → Int) (i : Nat) : Nat → Int := fun j => if j < i then v j else v i + 1 + ((j - i : Nat) : Int)
theorem nextV_inc {m n i : Nat} {v : Nat → Int} (h : IncV m n v) (hi : i < n) (hne : v i ≠ (m : Int) - n + i) : IncV m n (nextV v i) := by
  have h0 := h.le i hi
  have h1 := (h.2 i hi).1
  refine ⟨fun a b hab hb => ?_, fun j hj => ?_⟩
  · unfold nextV
    by_cases h2 : b < i
    · rw [if_pos (by omega), if_pos h2]; exact h.1 a b hab hb
    · rw [if_neg h2]
      by_cases h3 : a < i
      · rw [if_pos h3]
        have := h.1 a i h3 hi
        omega
      · rw [if_neg h3]
        omega
  · unfold nextV
    by_cases h2 : j < i
    · rw [if_pos h2]; exact h.2 j hj
    · rw [if_neg h2]
      omega
theorem nextV_lt {n i : Nat} {v : Nat → Int} (hi : i < n) : ltF n v (nextV v i) := by
  refine ⟨i, hi, fun j hj => ?_, ?_⟩
  · unfold nextV; rw [if_pos hj]
  · unfold nextV
    rw [if_neg (by omega)]
    omega
theorem nextV_gap {m n i : Nat} {v u : Nat → Int} (hu : IncV m n u) (hi : i < n) (hv : ∀ j, i < j → j < n → v j = (m : Int) - n + j) (h : ltF n u (nextV v i)) : (∀ j, j < n → u j = v j) ∨ ltF n u v := by
  obtain ⟨k, hk, ek, lk⟩ := h
  rcases Nat.lt_trichotomy k i with h1 | h1 | h1
  · refine .inr ⟨k, hk, fun j hj => ?_, ?_⟩
    · rw [ek j hj]; unfold nextV; rw [if_pos (by omega)]
    · unfold nextV at lk; rw [if_pos h1] at lk; exact lk
  · subst h1
    refine le_or fun j hj => ?_
    rcases Nat.lt_trichotomy j k with h2 | h2 | h2
    · rw [ek j h2]; unfold nextV; rw [if_pos h2]; exact Int.le_refl _
    · subst h2
      unfold nextV at lk
      rw [if_neg (by omega)] at lk
      omega
    · rw [hv j h2 hj]
      have := hu.le j hj
      omega
  · have e := ek i h1
    unfold nextV at e lk
    rw [if_neg (by omega)] at e lk
    have h2 := hu.up i (k - i) (by omega)
    rw [show i + (k - i) = k by omega] at h2
    omega
theorem last_le {m n : Nat} {v u : Nat → Int} (hu : IncV m n u) (hv : ∀ j, j < n → v j = (m : Int) - n + j) : (∀ j, j < n → u j = v j) ∨ ltF n u v :=
  le_or fun j hj => by
    rw [hv j hj]
    have := hu.le j hj
    omega
/-- A number that grows with the order: for the rounds. -/
def numV : Nat → (Nat → Int) → Nat
  | 0, _ => 0
  | n + 1, a => numV n a * 16 + (a n).toNat
theorem numV_congr {n : Nat} {a b : Nat → Int} (h : ∀ j, j < n → a j = b j) : numV n a = numV n b := by
  induction n with
  | zero => rfl
  | succ n ih =>
    unfold numV
    rw [ih (fun j hj => h j (by omega)), h n (by omega)]
theorem numV_bound {n : Nat} {a : Nat → Int} (h : ∀ i, i < n → 0 ≤ a i ∧ a i < 16) : numV n a < 16 ^ n := by
  induction n with
  | zero => simp [numV]
  | succ n ih =>
    have h1 := ih (fun i hi => h i (by omega))
    have h2 := h n (by omega)
    unfold numV
    rw [Nat.pow_succ]
    omega
theorem numV_lt : ∀ (n : Nat) (a b : Nat → Int), (∀ i, i < n → 0 ≤ a i ∧ a i < 16) → (∀ i, i < n → 0 ≤ b i ∧ b i < 16) → ltF n a b → numV n a < numV n b
  | 0, _, _, _, _, ⟨i, hi, _⟩ => absurd hi (Nat.not_lt_zero _)
  | n + 1, a, b, ha, hb, hx => by
    obtain ⟨i, hi, he, hl⟩ := hx
    have h1 := ha n (by omega)
    have h2 := hb n (by omega)
    have e1 : numV (n + 1) a = numV n a * 16 + (a n).toNat := rfl
    have e2 : numV (n + 1) b = numV n b * 16 + (b n).toNat := rfl
    rw [e1, e2]
    by_cases e : i = n
    · subst e
      rw [numV_congr he]
      omega
    · have := numV_lt n a b (fun j hj => ha j (by omega)) (fun j hj => hb j (by omega)) ⟨i, by omega, he, hl⟩
      omega

/-! ### Lists of a list's elements -/
def pickF (all : List Int) (a : Nat → Int) : Nat → Int := fun i => rd all (a i)
def pickOf (all : List Int) (n : Nat) (a : Nat → Int) : List Int := (List.range n).map (pickF all a)
theorem pickOf_len (all : List Int) (n : Nat) (a : Nat → Int) : (pickOf all n a).length = n := by simp [pickOf]
theorem pickOf_congr {all : List Int} {n : Nat} {a b : Nat → Int} (h : ∀ j, j < n → a j = b j) : pickOf all n a = pickOf all n b := by
  unfold pickOf pickF
  refine List.map_congr_left fun i hi => ?_
  rw [h i (List.mem_range.1 hi)]
theorem pickOf_succ (all : List Int) (n : Nat) (a : Nat → Int) : pickOf all (n + 1) a = rd all (a 0) :: pickOf all n (fun i => a (i + 1)) := by
  unfold pickOf
  rw [List.range_succ_eq_map, List.map_cons, List.map_map]
  rfl
def lexB : List Int → List Int → Bool
  | x :: r, y :: s => if x = y then lexB r s else decide (x < y)
  | _, _ => false
def lessB (p q : List Int) : Bool := if p.length = q.length then lexB p q else decide (p.length < q.length)
def fnOf (p : List Int) : Nat → Int := fun i => p.getD i 0
theorem lexB_iff : ∀ (p q : List Int), p.length = q.length → (lexB p q = true ↔ ltF p.length (fnOf p) (fnOf q))
  | [], [], _ => by
    constructor
    · intro h; cases h
    · rintro ⟨i, hi, _⟩; exact absurd hi (Nat.not_lt_zero _)
  | x :: r, y :: s, h => by
    have ih := lexB_iff r s (by simpa using h)
    unfold lexB
    by_cases e : x = y
    · subst e
      rw [if_pos rfl, ih]
      constructor
      · rintro ⟨i, hi, he, hl⟩
        refine ⟨i + 1, by simpa using hi, fun j hj => ?_, by simpa [fnOf] using hl⟩
        cases j with
        | zero => rfl
        | succ j => have := he j (by omega); simpa [fnOf] using this
      · rintro ⟨i, hi, he, hl⟩
        cases i with
        | zero => simp [fnOf] at hl
        | succ i =>
          refine ⟨i, by simpa using hi, fun j hj => ?_, by simpa [fnOf] using hl⟩
          have := he (j + 1) (by omega)
          simpa [fnOf] using this
    · rw [if_neg e, decide_eq_true_eq]
      constructor
      · intro hl
        exact ⟨0, by simp, fun j hj => absurd hj (Nat.not_lt_zero _), by simpa [fnOf] using hl⟩
      · rintro ⟨i, hi, he, hl⟩
        cases i with
        | zero => simpa [fnOf] using hl
        | succ i =>
          have := he 0 (by omega)
          simp [fnOf] at this
          exact absurd this e
  | [], _ :: _, h => by simp at h
  | _ :: _, [], h => by simp at h
theorem lessB_iff (p q : List Int) : lessB p q = true ↔ p.length < q.length ∨ (p.length = q.length ∧ ltF p.length (fnOf p) (fnOf q)) := by
  unfold lessB
  by_cases e : p.length = q.length
  · rw [if_pos e, lexB_iff p q e]
    constructor
    · exact fun h => .inr ⟨e, h⟩
    · rintro (h | ⟨_, h⟩)
      · omega
      · exact h
  · rw [if_neg e, decide_eq_true_eq]
    constructor
    · exact fun h => .inl h
    · rintro (h | ⟨h, _⟩)
      · exact h
      · exact absurd h e
theorem lessB_trans {p q r : List Int} (h1 : lessB p q = true) (h2 : lessB q r = true) : lessB p r = true := by
  rw [lessB_iff] at *
  rcases h1 with h1 | ⟨e1, h1⟩
  · rcases h2 with h2 | ⟨e2, h2⟩
    · exact .inl (by omega)
    · exact .inl (by omega)
  · rcases h2 with h2 | ⟨e2, h2⟩
    · exact .inl (by omega)
    · exact .inr ⟨by omega, ltF_trans h1 (by rw [e1]; exact h2)⟩
theorem lessB_tri (p q : List Int) : lessB p q = true ∨ lessB q p = true ∨ p = q := by
  rw [lessB_iff, lessB_iff]
  rcases Nat.lt_trichotomy p.length q.length with h | h | h
  · exact .inl (.inl h)
  · rcases ltF_tri p.length (fnOf p) (fnOf q) with h1 | h1 | h1
    · exact .inl (.inr ⟨h, h1⟩)
    · exact .inr (.inl (.inr ⟨h.symm, by rw [← h]; exact h1⟩))
    · refine .inr (.inr (List.ext_getElem h fun i hi hi' => ?_))
      have := h1 i hi
      simpa [fnOf, List.getD_eq_getElem?_getD, List.getElem?_eq_getElem hi, List.getElem?_eq_getElem hi'] using this
  · exact .inr (.inl (.inl h))
/-- The elements whose bits a number has. -/
def chosenP : List Int → Nat → List Int
  | [], _ => []
  | x :: r, b => if b % 2 = 1 then x :: chosenP r (b / 2) else chosenP r (b / 2)
theorem chosenP_sub : ∀ (l : List Int) (b : Nat), (chosenP l b).Sublist l
  | [], _ => by simp [chosenP]
  | x :: r, b => by
    unfold chosenP
    split
    · exact (chosenP_sub r _).cons_cons x
    · exact (chosenP_sub r _).cons x
theorem sub_chosen {p l : List Int} (h : p.Sublist l) : ∃ b, b < 2 ^ l.length ∧ chosenP l b = p := by
  induction h with
  | slnil => exact ⟨0, by simp, rfl⟩
  | @cons l1 l2 a _ ih =>
    obtain ⟨b, hb, e⟩ := ih
    refine ⟨2 * b, by rw [List.length_cons, Nat.pow_succ]; omega, ?_⟩
    unfold chosenP
    rw [if_neg (by omega), show 2 * b / 2 = b by omega]
    exact e
  | @cons_cons l1 l2 a _ ih =>
    obtain ⟨b, hb, e⟩ := ih
    refine ⟨2 * b + 1, by rw [List.length_cons, Nat.pow_succ]; omega, ?_⟩
    unfold chosenP
    rw [if_pos (by omega), show (2 * b + 1) / 2 = b by omega, e]
theorem rd_cons_succ (x : Int) (r : List Int) (k : Int) (hk : 0 ≤ k) : rd (x :: r) (k + 1) = rd r k := by
  unfold rd
  rw [show (k + 1).toNat = k.toNat + 1 by omega]
  rfl
theorem sub_pick {p l : List Int} (h : p.Sublist l) : ∃ u, IncV l.length p.length u ∧ p = pickOf l p.length u := by
  induction h with
  | slnil => exact ⟨fun _ => 0, ⟨fun i j _ hj => absurd hj (Nat.not_lt_zero _), fun i hi => absurd hi (Nat.not_lt_zero _)⟩, rfl⟩
  | @cons l1 l2 a _ ih =>
    obtain ⟨u, hu, e⟩ := ih
    refine ⟨fun i => u i + 1, ⟨fun i j h1 h2 => by have := hu.1 i j h1 h2; show u i + 1 < u j + 1; omega, fun i hi => by have := hu.2 i hi; rw [List.length_cons]; show 0 ≤ u i + 1 ∧ u i + 1 < _; omega⟩, ?_⟩
    refine e.trans ?_
    unfold pickOf pickF
    refine List.map_congr_left fun i hi => ?_
    rw [rd_cons_succ _ _ _ (hu.2 i (List.mem_range.1 hi)).1]
  | @cons_cons l1 l2 a _ ih =>
    obtain ⟨u, hu, e⟩ := ih
    refine ⟨fun i => match i with | 0 => 0 | i + 1 => u i + 1, ⟨fun i j h1 h2 => ?_, fun i hi => ?_⟩, ?_⟩
    · rw [List.length_cons] at h2
      cases j with
      | zero => omega
      | succ j =>
        have hj := hu.2 j (by omega)
        cases i with
        | zero => show (0 : Int) < u j + 1; omega
        | succ i => have := hu.1 i j (by omega) (by omega); show u i + 1 < u j + 1; omega
    · rw [List.length_cons] at hi
      rw [List.length_cons]
      cases i with
      | zero => show (0 : Int) ≤ 0 ∧ (0 : Int) < _; omega
      | succ i => have := hu.2 i (by omega); show 0 ≤ u i + 1 ∧ u i + 1 < _; omega
    · rw [List.length_cons, pickOf_succ]
      congr 1
      refine e.trans ?_
      unfold pickOf pickF
      refine List.map_congr_left fun i hi => ?_
      exact (rd_cons_succ _ _ _ (hu.2 i (List.mem_range.1 hi)).1).symm
theorem pick_sub : ∀ (l : List Int) (n : Nat) (u : Nat → Int), IncV l.length n u → (pickOf l n u).Sublist l
  | [], n, u, h => by
    cases n with
    | zero => exact List.Sublist.slnil
    | succ n => have := h.2 0 (by omega); simp at this; omega
  | x :: r, 0, u, h => by simp [pickOf]
  | x :: r, n + 1, u, h => by
    have hlen : (x :: r).length = r.length + 1 := rfl
    by_cases e : u 0 = 0
    · rw [pickOf_succ, e]
      have ih := pick_sub r n (fun i => u (i + 1) - 1) ⟨fun i j h1 h2 => by have := h.1 (i + 1) (j + 1) (by omega) (by omega); show u (i + 1) - 1 < u (j + 1) - 1; omega, fun i hi => by
        have h1 := h.2 (i + 1) (by omega)
        have h2 := h.1 0 (i + 1) (by omega) (by omega)
        rw [hlen] at h1
        show 0 ≤ u (i + 1) - 1 ∧ u (i + 1) - 1 < _
        omega⟩
      have e2 : pickOf (x :: r) n (fun i => u (i + 1)) = pickOf r n (fun i => u (i + 1) - 1) := by
        unfold pickOf pickF
        refine List.map_congr_left fun i hi => ?_
        have h2 := h.1 0 (i + 1) (by omega) (by have := List.mem_range.1 hi; omega)
        have := rd_cons_succ x r (u (i + 1) - 1) (by omega)
        rw [show u (i + 1) - 1 + 1 = u (i + 1) by omega] at this
        exact this
      rw [e2]
      exact ih.cons_cons _
    · have h0 := (h.2 0 (by omega)).1
      have hpos : ∀ i, i < n + 1 → 1 ≤ u i := fun i hi => by
        cases i with
        | zero => omega
        | succ i => have := h.1 0 (i + 1) (by omega) hi; omega
      have ih := pick_sub r (n + 1) (fun i => u i - 1) ⟨fun i j h1 h2 => by have := h.1 i j h1 h2; show u i - 1 < u j - 1; omega, fun i hi => by
        have h1 := h.2 i hi
        have h2 := hpos i hi
        rw [hlen] at h1
        show 0 ≤ u i - 1 ∧ u i - 1 < _
        omega⟩
      have e2 : pickOf (x :: r) (n + 1) u = pickOf r (n + 1) (fun i => u i - 1) := by
        unfold pickOf pickF
        refine List.map_congr_left fun i hi => ?_
        have h2 := hpos i (List.mem_range.1 hi)
        have := rd_cons_succ x r (u i - 1) (by omega)
        rw [show u i - 1 + 1 = u i by omega] at this
        exact this
      rw [e2]
      exact ih.cons x

/-! ### The least list -/
def leastP (P : List Int → Bool) (all : List Int) : List Int := (List.range (2 ^ all.length)).foldl (fun best b => if (lessB (chosenP all b) best && P (chosenP all b)) = true then chosenP all b else best) all
theorem lessB_irrefl (p : List Int) : lessB p p = false := by
  cases h : lessB p p with
  | false => rfl
  | true =>
    rw [lessB_iff] at h
    rcases h with h | ⟨_, h⟩
    · omega
    · exact (ltF_irrefl h).elim
theorem least_fold (P : List Int → Bool) (all : List Int) (step : List Int → Nat → List Int) (hstep : ∀ best b, step best b = if (lessB (chosenP all b) best && P (chosenP all b)) = true then chosenP all b else best) : ∀ (bs : List Nat) (best : List Int), best.Sublist all → P best = true →
    (bs.foldl step best).Sublist all ∧ P (bs.foldl step best) = true ∧ (bs.foldl step best = best ∨ lessB (bs.foldl step best) best = true) ∧ ∀ b, b ∈ bs → P (chosenP all b) = true → lessB (chosenP all b) (bs.foldl step best) = false
  | [], best, h1, h2 => ⟨h1, h2, .inl rfl, fun b hb => absurd hb List.not_mem_nil⟩
  | b :: bs, best, h1, h2 => by
    simp only [List.foldl_cons]
    by_cases e : (lessB (chosenP all b) best && P (chosenP all b)) = true
    · have hs : step best b = chosenP all b := by rw [hstep, if_pos e]
      rw [Bool.and_eq_true] at e
      rw [hs]
      obtain ⟨r1, r2, r3, r4⟩ := least_fold P all step hstep bs (chosenP all b) (chosenP_sub _ _) e.2
      generalize bs.foldl step (chosenP all b) = r at *
      refine ⟨r1, r2, .inr ?_, fun x hx hp => ?_⟩
      · rcases r3 with r3 | r3
        · rw [r3]; exact e.1
        · exact lessB_trans r3 e.1
      · rcases List.mem_cons.1 hx with rfl | hx
        · rcases r3 with r3 | r3
          · rw [r3]; exact lessB_irrefl _
          · cases h : lessB (chosenP all x) r with
            | false => rfl
            | true =>
              have := lessB_trans h r3
              rw [lessB_irrefl] at this
              cases this
        · exact r4 x hx hp
    · have hs : step best b = best := by rw [hstep, if_neg e]
      rw [hs]
      obtain ⟨r1, r2, r3, r4⟩ := least_fold P all step hstep bs best h1 h2
      generalize bs.foldl step best = r at *
      refine ⟨r1, r2, r3, fun x hx hp => ?_⟩
      rcases List.mem_cons.1 hx with rfl | hx
      · cases h : lessB (chosenP all x) r with
        | false => rfl
        | true =>
          exfalso
          apply e
          rw [hp, Bool.and_true]
          rcases r3 with r3 | r3
          · rw [← r3]; exact h
          · exact lessB_trans h r3
      · exact r4 x hx hp
theorem leastP_spec (P : List Int → Bool) (all : List Int) (hP : P all = true) : (leastP P all).Sublist all ∧ P (leastP P all) = true ∧ ∀ q, q.Sublist all → P q = true → lessB q (leastP P all) = false := by
  obtain ⟨r1, r2, r3, r4⟩ := least_fold P all _ (fun _ _ => rfl) (List.range (2 ^ all.length)) all (List.Sublist.refl _) hP
  refine ⟨r1, r2, fun q hq hp => ?_⟩
  obtain ⟨b, hb, rfl⟩ := sub_chosen hq
  exact r4 b (List.mem_range.2 hb) hp
theorem leastP_unique (P : List Int → Bool) (all p : List Int) (h1 : p.Sublist all) (h2 : P p = true) (h3 : ∀ q, q.Sublist all → P q = true → lessB q p = false) (hP : P all = true) : leastP P all = p := by
  obtain ⟨r1, r2, r3⟩ := leastP_spec P all hP
  rcases lessB_tri (leastP P all) p with h | h | h
  · rw [h3 _ r1 r2] at h; cases h
  · rw [r3 _ h1 h2] at h; cases h
  · exact h
end Go.Proofs.Ytjagffomohbioaa.L

/- Plain lists: strictly increasing lists with the same members are equal; slices.Compact of a sorted list; plain Lean. -/
namespace Go.Proofs.Ytjagffomohbioaa.L

theorem incr_ext : ∀ {xs ys : List Int}, xs.Pairwise (· < ·) → ys.Pairwise (· < ·) → (∀ x, x ∈ xs ↔ x ∈ ys) → xs = ys
  | [], [], _, _, _ => rfl
  | [], y :: ys, _, _, h => absurd ((h y).2 List.mem_cons_self) List.not_mem_nil
  | x :: xs, [], _, _, h => absurd ((h x).1 List.mem_cons_self) List.not_mem_nil
  | x :: xs, y :: ys, hx, hy, h => by
    obtain ⟨hx1, hx2⟩ := List.pairwise_cons.1 hx
    obtain ⟨hy1, hy2⟩ := List.pairwise_cons.1 hy
    have e : x = y := by
      have h1 := (h x).1 List.mem_cons_self
      have h2 := (h y).2 List.mem_cons_self
      rcases List.mem_cons.1 h1 with h1 | h1
      · exact h1
      · rcases List.mem_cons.1 h2 with h2 | h2
        · exact h2.symm
        · have := hx1 y h2
          have := hy1 x h1
          omega
    subst e
    rw [incr_ext hx2 hy2 (fun z => ?_)]
    constructor
    · intro hz
      rcases List.mem_cons.1 ((h z).1 (List.mem_cons_of_mem _ hz)) with hz' | hz'
      · subst hz'
        have := hx1 z hz
        omega
      · exact hz'
    · intro hz
      rcases List.mem_cons.1 ((h z).2 (List.mem_cons_of_mem _ hz)) with hz' | hz'
      · subst hz'
        have := hy1 z hz
        omega
      · exact hz'

open Go.Lib in
theorem compactUpTo_sorted (d : Array Int) (hs : ∀ i j, i ≤ j → j < d.size → d[i]! ≤ d[j]!) : ∀ m, m ≤ d.size → (compactUpTo d m).Pairwise (· < ·) ∧ (∀ x, x ∈ compactUpTo d m ↔ ∃ j, j < m ∧ d[j]! = x)
  | 0, _ => ⟨by simp [compactUpTo], fun x => by simp [compactUpTo]⟩
  | m + 1, hm => by
    obtain ⟨hp, hx⟩ := compactUpTo_sorted d hs m (by omega)
    rw [compactUpTo_succ]
    by_cases hk : keeps d m = true
    · rw [if_pos hk]
      refine ⟨List.pairwise_append.2 ⟨hp, by simp, fun a ha b hb => ?_⟩, fun x => ?_⟩
      · obtain rfl : b = d[m]! := by simpa using hb
        obtain ⟨j, hj, rfl⟩ := (hx a).1 ha
        have hne : d[m]! ≠ d[m - 1]! := by
          have : m = 0 ∨ d[m]! ≠ d[m - 1]! := by simpa [keeps] using hk
          rcases this with h0 | h0
          · omega
          · exact h0
        have h1 := hs j (m - 1) (by omega) (by omega)
        have h2 := hs (m - 1) m (by omega) (by omega)
        omega
      · rw [List.mem_append, hx]
        constructor
        · rintro (⟨j, hj, rfl⟩ | h)
          · exact ⟨j, by omega, rfl⟩
          · exact ⟨m, by omega, (List.mem_singleton.1 h).symm⟩
        · rintro ⟨j, hj, rfl⟩
          by_cases e : j = m
          · subst e; exact .inr (by simp)
          · exact .inl ⟨j, by omega, rfl⟩
    · have hk' : m ≠ 0 ∧ d[m]! = d[m - 1]! := by
        have : ¬ (m = 0 ∨ d[m]! ≠ d[m - 1]!) := by simpa [keeps] using hk
        constructor
        · intro h0; exact this (.inl h0)
        · apply Classical.byContradiction; intro h0; exact this (.inr h0)
      rw [if_neg hk, List.append_nil]
      refine ⟨hp, fun x => ?_⟩
      rw [hx]
      constructor
      · rintro ⟨j, hj, rfl⟩; exact ⟨j, by omega, rfl⟩
      · rintro ⟨j, hj, rfl⟩
        by_cases e : j = m
        · subst e; exact ⟨j - 1, by omega, hk'.2.symm⟩
        · exact ⟨j, by omega, rfl⟩

theorem compact_of_sorted (zs : List Int) (hs : zs.Pairwise (· ≤ ·)) : (Lib.compact zs).Pairwise (· < ·) ∧ ∀ x, x ∈ Lib.compact zs ↔ x ∈ zs := by
  have h := compactUpTo_sorted zs.toArray (fun i j hij hj => by
    have hj' : j < zs.length := by simpa using hj
    rw [getElem!_pos zs.toArray i (by simpa using (by omega : i < zs.length)), getElem!_pos zs.toArray j hj]
    simp only [List.getElem_toArray]
    by_cases e : i = j
    · subst e; exact Int.le_refl _
    · exact List.pairwise_iff_getElem.1 hs i j (by omega) hj' (by omega)) zs.length (by simp)
  refine ⟨h.1, fun x => ?_⟩
  unfold Lib.compact
  rw [h.2]
  constructor
  · rintro ⟨j, hj, rfl⟩
    rw [getElem!_pos zs.toArray j (by simpa using hj)]
    exact List.getElem_mem _
  · intro hx
    obtain ⟨j, hj, rfl⟩ := List.getElem_of_mem hx
    exact ⟨j, hj, by rw [getElem!_pos zs.toArray j (by simpa using hj)]; rfl⟩

theorem compact_mergeSort (zs : List Int) : (Lib.compact (zs.mergeSort fun x y => decide (x ≤ y))).Pairwise (· < ·) ∧ ∀ x, x ∈ Lib.compact (zs.mergeSort fun x y => decide (x ≤ y)) ↔ x ∈ zs := by
  have hs : (zs.mergeSort fun x y => decide (x ≤ y)).Pairwise (· ≤ ·) := by
    have := List.pairwise_mergeSort (le := fun x y : Int => decide (x ≤ y)) (fun a b c => by simp; omega) (fun a b => by simp; omega) zs
    exact this.imp (fun h => by simpa using h)
  obtain ⟨h1, h2⟩ := compact_of_sorted _ hs
  exact ⟨h1, fun x => by rw [h2, List.mem_mergeSort]⟩

theorem range_incr (n : Nat) : ((List.range n).map (fun k : Nat => (k : Int))).Pairwise (· < ·) := by
  rw [List.pairwise_map]
  exact List.pairwise_lt_range.imp (fun h => by omega)
end Go.Proofs.Ytjagffomohbioaa.L

/- Plain: the work list of licence.fine finds just what follows; plain Lean, no program. -/
set_option linter.unusedVariables false
set_option linter.unusedSimpArgs false
namespace Go.Proofs.Ytjagffomohbioaa.L

def bases (M : List ByteArray) : List ByteArray := M.filter (fun s => !(cutP s).2.2)
def nexts (M : List ByteArray) (a : ByteArray) : List ByteArray := (M.filter (fun s => (cutP s).2.2 && decide ((cutP s).1 = a))).map (fun s => (cutP s).2.1)
theorem bases_yes (M : List ByteArray) (s : ByteArray) (h : (cutP s).2.2 = true) : bases (M ++ [s]) = bases M := by simp [bases, h]
theorem bases_no (M : List ByteArray) (s : ByteArray) (h : (cutP s).2.2 = false) : bases (M ++ [s]) = bases M ++ [s] := by simp [bases, h]
theorem nexts_no (M : List ByteArray) (s : ByteArray) (h : (cutP s).2.2 = false) : nexts (M ++ [s]) = nexts M := by
  funext x
  simp [nexts, h]
theorem nexts_yes (M : List ByteArray) (s : ByteArray) (h : (cutP s).2.2 = true) : nexts (M ++ [s]) = fun x => if x = (cutP s).1 then nexts M (cutP s).1 ++ [(cutP s).2.1] else nexts M x := by
  funext x
  by_cases e : x = (cutP s).1
  · subst e
    simp [nexts, h]
  · have e' : ¬ (cutP s).1 = x := fun h => e h.symm
    simp [nexts, h, e, e']
theorem nexts_len (M : List ByteArray) (a : ByteArray) : (nexts M a).length ≤ M.length := by
  unfold nexts
  rw [List.length_map]
  exact List.length_filter_le _ _
theorem bases_len (M : List ByteArray) : (bases M).length ≤ M.length := List.length_filter_le _ _

structure WL (M : List ByteArray) (F : ByteArray → Bool) (L : List ByteArray) : Prop where
  sound : ∀ s, F s = true ∨ s ∈ L → Fol M s
  base : ∀ s, s ∈ M → (cutP s).2.2 = false → F s = true ∨ s ∈ L
  closed : ∀ s, s ∈ M → (cutP s).2.2 = true → F (cutP s).1 = true → F (cutP s).2.1 = true ∨ (cutP s).2.1 ∈ L
def wms (M : List ByteArray) (F : ByteArray → Bool) (L : List ByteArray) : Nat := L.length + (M.filter (fun s => (cutP s).2.2 && !F (cutP s).1)).length

theorem WL.start (M : List ByteArray) : WL M (fun _ => false) (bases M) := by
  refine ⟨fun s h => ?_, fun s h1 h2 => .inr ?_, fun s _ _ h => by cases h⟩
  · rcases h with h | h
    · cases h
    · unfold bases at h
      rw [List.mem_filter] at h
      exact Fol.base s h.1 (by simpa using h.2)
  · unfold bases
    rw [List.mem_filter]
    exact ⟨h1, by simpa using h2⟩
theorem wms_start (M : List ByteArray) : wms M (fun _ => false) (bases M) ≤ 2 * M.length := by
  unfold wms
  have h1 := bases_len M
  have h2 := List.length_filter_le (fun s => (cutP s).2.2 && !((fun _ : ByteArray => false) (cutP s).1)) M
  omega
theorem WL.skip {M : List ByteArray} {F : ByteArray → Bool} {s : ByteArray} {r : List ByteArray} (h : WL M F (s :: r)) (hs : F s = true) : WL M F r := by
  have back : ∀ x, F x = true ∨ x ∈ s :: r → F x = true ∨ x ∈ r := fun x hx => by
    rcases hx with hx | hx
    · exact .inl hx
    · rcases List.mem_cons.1 hx with rfl | hx
      · exact .inl hs
      · exact .inr hx
  exact ⟨fun x hx => h.sound x (hx.imp id (List.mem_cons_of_mem _)), fun x h1 h2 => back x (h.base x h1 h2), fun x h1 h2 h3 => back _ (h.closed x h1 h2 h3)⟩
def putF (F : ByteArray → Bool) (s : ByteArray) : ByteArray → Bool := fun x => if x = s then true else F x
theorem WL.take {M : List ByteArray} {F : ByteArray → Bool} {s : ByteArray} {r : List ByteArray} (h : WL M F (s :: r)) : WL M (putF F s) (r ++ nexts M s) := by
  have hs : Fol M s := h.sound s (.inr List.mem_cons_self)
  have back : ∀ x, F x = true ∨ x ∈ s :: r → putF F s x = true ∨ x ∈ r ++ nexts M s := fun x hx => by
    by_cases e : x = s
    · exact .inl (by simp [putF, e])
    · rcases hx with hx | hx
      · exact .inl (by simp [putF, hx])
      · rcases List.mem_cons.1 hx with hx | hx
        · exact absurd hx e
        · exact .inr (List.mem_append.2 (.inl hx))
  refine ⟨fun x hx => ?_, fun x h1 h2 => back x (h.base x h1 h2), fun x h1 h2 h3 => ?_⟩
  · by_cases e : x = s
    · exact e ▸ hs
    · rcases hx with hx | hx
      · simp only [putF, if_neg e] at hx
        exact h.sound x (.inl hx)
      · rcases List.mem_append.1 hx with hx | hx
        · exact h.sound x (.inr (List.mem_cons_of_mem _ hx))
        · unfold nexts at hx
          obtain ⟨t, ht, rfl⟩ := List.mem_map.1 hx
          rw [List.mem_filter] at ht
          simp only [Bool.and_eq_true, decide_eq_true_eq] at ht
          exact Fol.step t ht.1 ht.2.1 (ht.2.2 ▸ hs)
  · by_cases e : (cutP x).1 = s
    · refine .inr (List.mem_append.2 (.inr ?_))
      unfold nexts
      exact List.mem_map.2 ⟨x, List.mem_filter.2 ⟨h1, by simp [h2, e]⟩, rfl⟩
    · simp only [putF, if_neg e] at h3
      exact back _ (h.closed x h1 h2 h3)
theorem filt_split (M : List ByteArray) (F : ByteArray → Bool) (s : ByteArray) (hs : F s = false) :
    (M.filter (fun x => (cutP x).2.2 && !putF F s (cutP x).1)).length + (nexts M s).length = (M.filter (fun x => (cutP x).2.2 && !F (cutP x).1)).length := by
  unfold nexts
  rw [List.length_map]
  induction M with
  | nil => rfl
  | cons x r ih =>
    simp only [List.filter_cons]
    by_cases h1 : (cutP x).2.2 = true
    · by_cases e : (cutP x).1 = s
      · simp [h1, e, hs, putF] at ih ⊢
        omega
      · by_cases h2 : F (cutP x).1 = true
        · simp [h1, e, h2, putF] at ih ⊢
          omega
        · simp [h1, e, h2, putF] at ih ⊢
          omega
    · simp [h1] at ih ⊢
      omega
theorem wms_take (M : List ByteArray) (F : ByteArray → Bool) (s : ByteArray) (r : List ByteArray) (hs : F s = false) : wms M (putF F s) (r ++ nexts M s) + 1 = wms M F (s :: r) := by
  have := filt_split M F s hs
  unfold wms
  simp only [List.length_append, List.length_cons]
  omega
theorem wms_skip (M : List ByteArray) (F : ByteArray → Bool) (s : ByteArray) (r : List ByteArray) : wms M F r + 1 = wms M F (s :: r) := by
  unfold wms
  simp only [List.length_cons]
  omega
theorem WL.done {M : List ByteArray} {F : ByteArray → Bool} (h : WL M F []) (s : ByteArray) : F s = true ↔ Fol M s := by
  refine ⟨fun hs => h.sound s (.inl hs), fun hs => ?_⟩
  induction hs with
  | base s h1 h2 =>
    rcases h.base s h1 h2 with h | h
    · exact h
    · cases h
  | step s h1 h2 _ ih =>
    rcases h.closed s h1 h2 ih with h | h
    · exact h
    · cases h
theorem WL.memB {M : List ByteArray} {F : ByteArray → Bool} (h : WL M F []) (s : ByteArray) : F s = memB s (folList M) := by
  rw [Bool.eq_iff_iff, h.done, memB_fol]
theorem fineB_any (l : List S36) (sel : List Int) (F : ByteArray → Bool) (h : WL (mustOf l sel) F []) : fineB l sel = !sel.any (fun i => (rd_T36 l i).f2.any F) := by
  have hF : F = fun s => L.memB s (folList (mustOf l sel)) := funext fun s => h.memB s
  unfold fineB notOf
  rw [← hF, List.any_flatMap]
end Go.Proofs.Ytjagffomohbioaa.L

/- Plain: the core of a selection: the least list that is not fine; plain Lean, no program. Blocks of ints as functions. -/
set_option linter.unusedVariables false
set_option linter.unusedSimpArgs false
namespace Go.Proofs.Ytjagffomohbioaa.L
open Go.RowKit Go.Proofs.YtjagffomohbioaaW.PrintWords Go.Proofs.YtjagffomohbioaaW.PrintLast Go.Proofs.YtjagffomohbioaaW.PrintMore

def coreP (l0 : List S36) (l1 : List Int) : List Int :=
  if validP l0 = true then (if (sortedP l0 l1).length ≤ 16 then (if fineB l0 (sortedP l0 l1) = true then [] else leastP (fun x => !fineB l0 x) (sortedP l0 l1)) else []) else []
def licence_Core.f (l0 : List S36) (l1 : List Int) : Option (List Int) := if l0.all boundC = true ∧ l1.length ≤ 1000000 then some (coreP l0 l1) else none

theorem sortedP_incr (l0 : List S36) (l1 : List Int) : (sortedP l0 l1).Pairwise (· < ·) := (range_incr l0.length).sublist List.filter_sublist
theorem sortedP_mem (l0 : List S36) (l1 : List Int) (x : Int) (h : x ∈ sortedP l0 l1) : 0 ≤ x ∧ x < (l0.length : Int) ∧ x ∈ l1 := by
  unfold sortedP at h
  rw [List.mem_filter, List.mem_map] at h
  obtain ⟨⟨k, hk, rfl⟩, h2⟩ := h
  rw [List.mem_range] at hk
  exact ⟨by omega, by omega, by simpa using h2⟩
theorem incr_at {all : List Int} (h : all.Pairwise (· < ·)) {a b : Int} (h0 : 0 ≤ a) (hab : a < b) (hb : b < (all.length : Int)) : rd all a < rd all b := by
  have h1 : a.toNat < all.length := by omega
  have h2 : b.toNat < all.length := by omega
  unfold rd
  rw [List.getD_eq_getElem?_getD, List.getD_eq_getElem?_getD, List.getElem?_eq_getElem h1, List.getElem?_eq_getElem h2]
  exact List.pairwise_iff_getElem.1 h _ _ h1 h2 (by omega)
theorem rd_mem (all : List Int) (k : Int) (h0 : 0 ≤ k) (h1 : k < (all.length : Int)) : rd all k ∈ all := by
  have h2 : k.toNat < all.length := by omega
  unfold rd
  rw [List.getD_eq_getElem?_getD, List.getElem?_eq_getElem h2]
  exact List.getElem_mem h2
theorem pick_lt {all : List Int} (h : all.Pairwise (· < ·)) {n : Nat} {u v : Nat → Int} (hu : IncV all.length n u) (hv : IncV all.length n v) (hl : ltF n (fnOf (pickOf all n u)) (fnOf (pickOf all n v))) : ltF n u v := by
  obtain ⟨i, hi, he, hlt⟩ := hl
  have val : ∀ (a : Nat → Int) j, j < n → fnOf (pickOf all n a) j = rd all (a j) := fun a j hj => by
    unfold fnOf pickOf pickF
    simp [List.getD_eq_getElem?_getD, hj]
  refine ⟨i, hi, fun j hj => ?_, ?_⟩
  · have e := he j hj
    rw [val u j (by omega), val v j (by omega)] at e
    have h1 := hu.2 j (by omega)
    have h2 := hv.2 j (by omega)
    rcases Int.lt_trichotomy (u j) (v j) with h3 | h3 | h3
    · have := incr_at h h1.1 h3 h2.2; omega
    · exact h3
    · have := incr_at h h2.1 h3 h1.2; omega
  · rw [val u i hi, val v i hi] at hlt
    have h1 := hu.2 i hi
    have h2 := hv.2 i hi
    rcases Int.lt_trichotomy (u i) (v i) with h3 | h3 | h3
    · exact h3
    · rw [h3] at hlt; omega
    · have := incr_at h h2.1 h3 h1.2; omega
theorem core_least (P : List Int → Bool) {all : List Int} (h : all.Pairwise (· < ·)) (h0 : P [] = false) (hP : P all = true) {n : Nat} {v : Nat → Int} (hv : IncV all.length n v) (hp : P (pickOf all n v) = true)
    (hs : ∀ n' u, 1 ≤ n' → n' < n → IncV all.length n' u → P (pickOf all n' u) = false) (hu : ∀ u, IncV all.length n u → ltF n u v → P (pickOf all n u) = false) : leastP P all = pickOf all n v := by
  refine leastP_unique P all _ (pick_sub all n v hv) hp (fun q hq hpq => ?_) hP
  obtain ⟨u, hiu, e⟩ := sub_pick hq
  cases hl : lessB q (pickOf all n v) with
  | false => rfl
  | true =>
    exfalso
    rw [lessB_iff, pickOf_len] at hl
    rcases Nat.eq_zero_or_pos q.length with hz | hz
    · rw [List.length_eq_zero_iff.1 hz, h0] at hpq
      cases hpq
    · rcases hl with hl | ⟨hl, hlt⟩
      · have := hs q.length u hz hl hiu
        rw [← e, hpq] at this
        cases this
      · rw [hl] at e hiu hlt
        rw [e] at hlt hpq
        have := hu u hiu (pick_lt h hiu hv hlt)
        rw [hpq] at this
        cases this
theorem pick_all (all : List Int) : pickOf all all.length (fun i => (i : Int)) = all := by
  unfold pickOf pickF rd
  refine List.ext_getElem (by simp) fun i h1 h2 => ?_
  simp [List.getD_eq_getElem?_getD, List.getElem?_eq_getElem h2]

theorem fineB_nil (l0 : List S36) : fineB l0 [] = true := rfl
theorem condP_size {s : ByteArray} (h : condP s = true) : s.size ≤ 64 := by
  unfold condP at h
  rw [Bool.or_eq_true] at h
  have at16 : ∀ x, atomP x = true → x.size ≤ 16 := fun x hx => by
    unfold atomP at hx
    simp only [Bool.and_eq_true, decide_eq_true_eq] at hx
    exact hx.2.1
  rcases h with h | h
  · have := at16 s h; omega
  · simp only [Bool.and_eq_true] at h
    obtain ⟨h1, h2, h3⟩ := h
    have a1 := at16 _ h2
    have a2 := at16 _ h3
    unfold cutP at h1 a1 a2
    split at h1
    case isFalse => cases h1
    rename_i hg
    rw [if_pos hg] at a1 a2
    simp only [ByteArray.size_extract] at a1 a2
    omega
theorem atomP_size {s : ByteArray} (h : atomP s = true) : s.size ≤ 64 := by
  unfold atomP at h
  simp only [Bool.and_eq_true, decide_eq_true_eq] at h
  omega
theorem small_of_valid {l0 : List S36} (h : validP l0 = true) (c : S36) (hc : c ∈ l0) : smallC c = true := by
  unfold validP at h
  simp only [Bool.and_eq_true, decide_eq_true_eq, Bool.not_eq_true', List.any_eq_false] at h
  have hb := h.2 c hc
  unfold badP at hb
  simp only [Bool.not_eq_true, Bool.or_eq_false_iff, decide_eq_false_iff_not, List.any_eq_false, Bool.not_eq_true', Bool.not_eq_false] at hb
  obtain ⟨_, h1, h2, h3, h4⟩ := hb
  unfold smallC
  simp only [Bool.and_eq_true, List.all_eq_true, decide_eq_true_eq]
  exact ⟨by omega, by omega, fun s hs => condP_size (h3 s hs), fun s hs => atomP_size (h4 s hs)⟩
theorem fineOk_of {l0 : List S36} {sel : List Int} (h : validP l0 = true) (hn : sel.length ≤ 1000) (hs : ∀ x, x ∈ sel → 0 ≤ x ∧ x < (l0.length : Int)) : fineOk l0 sel = true := by
  unfold fineOk
  simp only [Bool.and_eq_true, List.all_eq_true, decide_eq_true_eq]
  refine ⟨hn, fun x hx => ⟨(hs x hx).1, (hs x hx).2, ?_⟩⟩
  have h1 : x.toNat < l0.length := by have := hs x hx; omega
  refine small_of_valid h _ ?_
  unfold rd_T36
  rw [List.getD_eq_getElem?_getD, List.getElem?_eq_getElem h1]
  exact List.getElem_mem h1
theorem sortedP_len (l0 : List S36) (l1 : List Int) : (sortedP l0 l1).length ≤ l0.length := by
  unfold sortedP
  have := List.length_filter_le (fun i => decide (i ∈ l1)) ((List.range l0.length).map (fun n : Nat => (n : Int)))
  simpa using this
theorem valid_len {l0 : List S36} (h : validP l0 = true) : l0.length ≤ 32 := by
  unfold validP at h
  simp only [Bool.and_eq_true, decide_eq_true_eq] at h
  exact h.1
theorem fineOk_sorted {l0 : List S36} (l1 : List Int) (h : validP l0 = true) : fineOk l0 (sortedP l0 l1) = true :=
  fineOk_of h (by have := sortedP_len l0 l1; have := valid_len h; omega) (fun x hx => by have := sortedP_mem l0 l1 x hx; exact ⟨this.1, this.2.1⟩)
theorem fineOk_pick {l0 : List S36} (l1 : List Int) (h : validP l0 = true) {n : Nat} {u : Nat → Int} (hu : IncV (sortedP l0 l1).length n u) (hn : n ≤ 1000) : fineOk l0 (pickOf (sortedP l0 l1) n u) = true :=
  fineOk_of h (by rw [pickOf_len]; exact hn) (fun x hx => by
    have := sortedP_mem l0 l1 x ((pick_sub _ n u hu).subset hx)
    exact ⟨this.1, this.2.1⟩)

/-! ### Blocks of ints -/
def IB (W : World) (g n : Nat) (f : Nat → Int) : Prop := W.heap[g]? = some (.cells ((List.range n).map (fun i => Value.int .i64 (f i))).toArray 3 (0, 0))
section
variable {W W' : World} {g n : Nat} {f : Nat → Int}
theorem IB.cell (h : IB W g n f) {j : Nat} (hj : j < n) : W.cell? ⟨g, j, none⟩ = some (.int .i64 (f j)) := by
  rw [blk_cell h j]
  simp [hj]
theorem IB.free (h : IB W g n f) (j : Nat) : W.frozen? ⟨g, j, none⟩ = false := blk_frozen h j
theorem IB.set (h : IB W g n f) (j : Nat) (x : Int) : IB (W.setCell ⟨g, j, none⟩ (.int .i64 x)) g n (fun i => if i = j then x else f i) := by
  have := blk_set h j (.int .i64 x)
  unfold IB
  rw [this]
  congr 2
  refine Array.ext (by simp) fun i h1 h2 => ?_
  by_cases e : i = j
  · subst e
    simp [Array.getElem_setIfInBounds]
  · have e' : ¬ j = i := fun h => e h.symm
    simp [Array.getElem_setIfInBounds, e, e']
theorem IB.far (h : IB W g n f) {p : Addr} (hp : g ≠ p.block) (u : Value) : IB (W.setCell p u) g n f := blk_far h hp u
theorem IB.lt (h : IB W g n f) : g < W.heap.size := blk_lt h
theorem IB.below (h : IB W g n f) (hb : Below W.heap.size W W') : IB W' g n f := (hb.block g h.lt).trans h
theorem IB.alloc (h : IB W g n f) (o : Obj) : IB (W.alloc o) g n f := blk_alloc h o
theorem IB.ext {f' : Nat → Int} (h : IB W g n f) (e : ∀ i, i < n → f i = f' i) : IB W g n f' := by
  unfold IB at *
  rw [h]
  congr 3
  exact List.map_congr_left fun i hi => by rw [e i (List.mem_range.1 hi)]
theorem IB.made (W : World) (n : Nat) : IB (W.alloc (.cells (madeCells #[.int .i64 0] n) 3)) W.heap.size n (fun _ => 0) := by
  have h := heap_alloc_new W (.cells (madeCells #[.int .i64 0] n) 3)
  unfold IB
  rw [h]
  congr 2
  refine Array.ext (by simp [size_madeCells]) fun i h1 h2 => ?_
  simp [madeCells, Nat.mod_one]
theorem IB.take_all (n : Nat) (f : Nat → Value) : ((List.range n).map f).take n = (List.range n).map f := List.take_of_length_le (by simp)
theorem IB.reads (h : IB W g n f) (hn : n ≤ 1000000) : Kd.C (Kd.int .i64) W (some ⟨g, 0, none⟩) n ((List.range n).map f) := by
  have hl : ((List.range n).map f).length = n := by simp
  have ho : W.ownsRow 0 3 1 (.slice (some ⟨g, 0, none⟩) ((List.range n).map f).length n) ((List.range n).map f).length (((List.range n).map f).map (Value.int .i64)) := by
    rw [hl]
    refine ⟨by simp, .inr ⟨g, n, _, rfl, Nat.zero_le _, h, Nat.le_refl _, by unfold maxLen; omega, by simp, ?_⟩⟩
    rw [Nat.mul_one]
    refine (IB.take_all n _).trans ?_
    simp [List.map_map, Function.comp_def]
  have hR : Kd.R (Kd.int .i64) 3 W 0 (fun _ => True) (.slice (some ⟨g, 0, none⟩) ((List.range n).map f).length n) ((List.range n).map f) := Kd.R_of_own ho (fun _ _ => trivial)
  have := (Kd.R_reads' hR).2.2
  rwa [hl] at this
theorem IB.own (h : IB W g n f) (hn : n ≤ 1000000) {base : Nat} (hb : base ≤ g) : Kd.R (Kd.int .i64) 3 W base (fun _ => True) (.slice (some ⟨g, 0, none⟩) n n) ((List.range n).map f) := by
  have hl : ((List.range n).map f).length = n := by simp
  have ho : W.ownsRow base 3 1 (.slice (some ⟨g, 0, none⟩) n n) n (((List.range n).map f).map (Value.int .i64)) := by
    refine ⟨by simp, .inr ⟨g, n, _, rfl, hb, h, Nat.le_refl _, by unfold maxLen; omega, by simp, ?_⟩⟩
    rw [Nat.mul_one]
    refine (IB.take_all n _).trans ?_
    simp [List.map_map, Function.comp_def]
  exact Kd.R_of_own (by rw [hl]; exact ho) (fun _ _ => trivial)
end
end Go.Proofs.Ytjagffomohbioaa.L

/- Walks: slices.IndexFunc and slices.ContainsFunc at strings, ints and clauses, for a function value of which its answers at the elements are known; conditions: the slice reads as a list. -/
set_option linter.unusedVariables false
set_option linter.unusedSimpArgs false
namespace Go.Proofs.Ytjagffomohbioaa.L
open Go.RowKit Go.Proofs.YtjagffomohbioaaW.PrintWords Go.Proofs.YtjagffomohbioaaW.PrintLast Go.Proofs.YtjagffomohbioaaW.PrintMore

/-- The place of the first element at which p holds, or -1. -/
def firstAt {α : Type} (p : α → Bool) : List α → Nat → Int
  | [], _ => -1
  | x :: r, i => if p x then (i : Int) else firstAt p r (i + 1)
theorem firstAt_hit {α : Type} (p : α → Bool) (d : α) : ∀ (xs : List α) (k i : Nat), k < xs.length → p (xs.getD k d) = true → (∀ j, j < k → p (xs.getD j d) = false) → firstAt p xs i = ((i + k : Nat) : Int)
  | [], _, _, h, _, _ => absurd h (Nat.not_lt_zero _)
  | x :: r, 0, i, _, h, _ => by
    have h' : p x = true := by simpa using h
    simp [firstAt, h']
  | x :: r, k + 1, i, hk, h, hj => by
    have h0 : p x = false := by simpa using hj 0 (Nat.succ_pos _)
    have := firstAt_hit p d r k (i + 1) (by simpa using hk) (by simpa using h) (fun j hj' => by simpa using hj (j + 1) (by omega))
    simp only [firstAt, h0]
    rw [this]
    simp
    omega
theorem firstAt_miss {α : Type} (p : α → Bool) (d : α) : ∀ (xs : List α) (i : Nat), (∀ j, j < xs.length → p (xs.getD j d) = false) → firstAt p xs i = -1
  | [], _, _ => rfl
  | x :: r, i, hj => by
    have h0 : p x = false := by simpa using hj 0 (Nat.succ_pos _)
    simp only [firstAt, h0]
    exact firstAt_miss p d r (i + 1) (fun j hj' => by simpa using hj (j + 1) (by simpa using hj'))
theorem firstAt_any {α : Type} (p : α → Bool) : ∀ (xs : List α) (i : Nat), decide (0 ≤ firstAt p xs i) = xs.any p
  | [], _ => rfl
  | x :: r, i => by
    unfold firstAt
    by_cases h : p x = true
    · simp [h]
    · have h' : p x = false := by simpa using h
      have := firstAt_any p r (i + 1)
      simp only [h', List.any_cons, Bool.false_or]
      exact this
theorem getD_mem {α : Type} (d : α) (xs : List α) (k : Nat) (h : k < xs.length) : xs.getD k d ∈ xs := by
  rw [List.getD_eq_getElem?_getD, List.getElem?_eq_getElem h]
  exact List.getElem_mem h

set_option maxHeartbeats 2000000 in
theorem idx46 (p : ByteArray → Bool) (g : Nat) (lb : Array Value) (eg : ∀ args w, (callFunc g args).run Try.prog w = .ok (.enter g args) w) (A : Option Addr) (c : Nat) (xs : List ByteArray) (w : World) (hr : Kd.C Kd.string w A xs.length xs)
    (hp : ∀ x, x ∈ xs → ∀ W, Below w.heap.size w W → Calls Try.prog g (#[.string x] ++ lb) W fun e w' => e = .returned (.bool (p x)) ∧ Below w.heap.size w w') :
    Calls Try.prog 46 #[.slice A xs.length c, .func (.func g) #[] lb] w fun e w' => e = .returned (.int .i64 (firstAt p xs 0)) ∧ Below w.heap.size w w' := by
  have HR := Aside0.mk hr
  have HP := Aside0.mk hp
  have hmax : xs.length ≤ 9223372036854775807 := Kd.C_max hr
  clear hr hp
  go_enter Try.func46, Try.ntmps46
  go_wp2
  go_loopg [5, 8] xs.length (fun gg _ s8 wr => ∃ kk : Nat, kk ≤ xs.length ∧ xs.length - kk ≤ gg ∧ s8 = .int .i64 kk ∧ Aside0 (Below w.heap.size w wr) ∧ Aside0 (∀ j, j < kk → p (xs.getD j ByteArray.empty) = false))
  case atStart => exact ⟨0, Nat.zero_le _, by omega, rfl, ⟨Below.refl _ w⟩, ⟨fun j hj => absurd hj (Nat.not_lt_zero _)⟩⟩
  case round =>
    obtain ⟨kk, hkk, hg, rfl, BW, AF⟩ := hrel
    by_cases hlt : kk < xs.length
    · have hltz : (kk : Int) < (xs.length : Int) := by omega
      obtain ⟨y, Y0⟩ : ∃ y, xs.getD kk ByteArray.empty = y := ⟨_, rfl⟩
      obtain ⟨ad, eA, hcell0⟩ := Kd.at_string HR.out (kk : Int) (by omega) hltz
      subst eA
      have hcell1 : w.cell? (ad.add kk) = some (.string y) := by rw [← Y0]; exact hcell0
      have hcell : wr.cell? (ad.add kk) = some (.string y) := (BW.out.cell (World.block_lt_of_cell? w _ hcell1)).trans hcell1
      have Y := Aside0.mk Y0
      clear Y0 hcell0 hcell1
      have hcall := HP.out y (by rw [← Y.out]; exact getD_mem _ _ _ hlt) wr BW.out
      cases hq : p y with
      | true =>
        rw [hq] at hcall
        go_wp2_with (go_at_fn g; refine hcall.mono ?_; rintro e w' ⟨rfl, hb'⟩)
        go_ret
        refine ⟨?_, hb'⟩
        rw [firstAt_hit p ByteArray.empty xs kk 0 hlt (by rw [Y.out]; exact hq) AF.out, Nat.zero_add]
        rfl
      | false =>
        rw [hq] at hcall
        go_wp2_with (go_at_fn g; refine hcall.mono ?_; rintro e w' ⟨rfl, hb'⟩)
        go_roundg (xs.length - (kk + 1))
        case measure => omega
        case rel =>
          refine ⟨kk + 1, by omega, by omega, by go_num, ⟨hb'⟩, ⟨fun j hj => ?_⟩⟩
          by_cases e : j = kk
          · subst e
            rw [Y.out]; exact hq
          · exact AF.out j (by omega)
    · have hltz : ¬ (kk : Int) < (xs.length : Int) := by omega
      have : kk = xs.length := by omega
      subst this
      go_wp2
      go_ret
      refine ⟨?_, BW.out⟩
      rw [firstAt_miss p ByteArray.empty xs 0 AF.out]
      rfl
set_option maxHeartbeats 1000000 in
theorem contains28 (p : ByteArray → Bool) (g : Nat) (lb : Array Value) (eg : ∀ args w, (callFunc g args).run Try.prog w = .ok (.enter g args) w) (A : Option Addr) (c : Nat) (xs : List ByteArray) (w : World) (hr : Kd.C Kd.string w A xs.length xs)
    (hp : ∀ x, x ∈ xs → ∀ W, Below w.heap.size w W → Calls Try.prog g (#[.string x] ++ lb) W fun e w' => e = .returned (.bool (p x)) ∧ Below w.heap.size w w') :
    Calls Try.prog 28 #[.slice A xs.length c, .func (.func g) #[] lb] w fun e w' => e = .returned (.bool (xs.any p)) ∧ Below w.heap.size w w' := by
  rw [← firstAt_any p xs 0]
  have hcon := idx46 p g lb eg A c xs w hr hp
  clear hp hr
  generalize firstAt p xs 0 = r at hcon ⊢
  go_enter Try.func28, Try.ntmps28
  go_wp2_with (go_at_call 46; refine hcon.mono ?_; rintro e w' ⟨rfl, hb'⟩)
  go_ret
  exact ⟨rfl, hb'⟩

set_option maxHeartbeats 2000000 in
theorem idx63 (p : Int → Bool) (g : Nat) (lb : Array Value) (eg : ∀ args w, (callFunc g args).run Try.prog w = .ok (.enter g args) w) (A : Option Addr) (c : Nat) (xs : List Int) (w : World) (hr : Kd.C (Kd.int .i64) w A xs.length xs)
    (hp : ∀ x, x ∈ xs → ∀ W, Below w.heap.size w W → Calls Try.prog g (#[.int .i64 x] ++ lb) W fun e w' => e = .returned (.bool (p x)) ∧ Below w.heap.size w w') :
    Calls Try.prog 63 #[.slice A xs.length c, .func (.func g) #[] lb] w fun e w' => e = .returned (.int .i64 (firstAt p xs 0)) ∧ Below w.heap.size w w' := by
  have HR := Aside0.mk hr
  have HP := Aside0.mk hp
  have hmax : xs.length ≤ 9223372036854775807 := Kd.C_max hr
  clear hr hp
  go_enter Try.func63, Try.ntmps63
  go_wp2
  go_loopg [5, 8] xs.length (fun gg _ s8 wr => ∃ kk : Nat, kk ≤ xs.length ∧ xs.length - kk ≤ gg ∧ s8 = .int .i64 kk ∧ Aside0 (Below w.heap.size w wr) ∧ Aside0 (∀ j, j < kk → p (xs.getD j 0) = false))
  case atStart => exact ⟨0, Nat.zero_le _, by omega, rfl, ⟨Below.refl _ w⟩, ⟨fun j hj => absurd hj (Nat.not_lt_zero _)⟩⟩
  case round =>
    obtain ⟨kk, hkk, hg, rfl, BW, AF⟩ := hrel
    by_cases hlt : kk < xs.length
    · have hltz : (kk : Int) < (xs.length : Int) := by omega
      obtain ⟨y, Y0⟩ : ∃ y, xs.getD kk 0 = y := ⟨_, rfl⟩
      obtain ⟨ad, eA, hcell0⟩ := Kd.at_int HR.out (kk : Int) (by omega) hltz
      subst eA
      have hcell1 : w.cell? (ad.add kk) = some (.int .i64 y) := by rw [← Y0]; exact hcell0
      have hcell : wr.cell? (ad.add kk) = some (.int .i64 y) := (BW.out.cell (World.block_lt_of_cell? w _ hcell1)).trans hcell1
      have Y := Aside0.mk Y0
      clear Y0 hcell0 hcell1
      have hcall := HP.out y (by rw [← Y.out]; exact getD_mem _ _ _ hlt) wr BW.out
      cases hq : p y with
      | true =>
        rw [hq] at hcall
        go_wp2_with (go_at_fn g; refine hcall.mono ?_; rintro e w' ⟨rfl, hb'⟩)
        go_ret
        refine ⟨?_, hb'⟩
        rw [firstAt_hit p 0 xs kk 0 hlt (by rw [Y.out]; exact hq) AF.out, Nat.zero_add]
        rfl
      | false =>
        rw [hq] at hcall
        go_wp2_with (go_at_fn g; refine hcall.mono ?_; rintro e w' ⟨rfl, hb'⟩)
        go_roundg (xs.length - (kk + 1))
        case measure => omega
        case rel =>
          refine ⟨kk + 1, by omega, by omega, by go_num, ⟨hb'⟩, ⟨fun j hj => ?_⟩⟩
          by_cases e : j = kk
          · subst e
            rw [Y.out]; exact hq
          · exact AF.out j (by omega)
    · have hltz : ¬ (kk : Int) < (xs.length : Int) := by omega
      have : kk = xs.length := by omega
      subst this
      go_wp2
      go_ret
      refine ⟨?_, BW.out⟩
      rw [firstAt_miss p 0 xs 0 AF.out]
      rfl
set_option maxHeartbeats 1000000 in
theorem contains51 (p : Int → Bool) (g : Nat) (lb : Array Value) (eg : ∀ args w, (callFunc g args).run Try.prog w = .ok (.enter g args) w) (A : Option Addr) (c : Nat) (xs : List Int) (w : World) (hr : Kd.C (Kd.int .i64) w A xs.length xs)
    (hp : ∀ x, x ∈ xs → ∀ W, Below w.heap.size w W → Calls Try.prog g (#[.int .i64 x] ++ lb) W fun e w' => e = .returned (.bool (p x)) ∧ Below w.heap.size w w') :
    Calls Try.prog 51 #[.slice A xs.length c, .func (.func g) #[] lb] w fun e w' => e = .returned (.bool (xs.any p)) ∧ Below w.heap.size w w' := by
  rw [← firstAt_any p xs 0]
  have hcon := idx63 p g lb eg A c xs w hr hp
  clear hp hr
  generalize firstAt p xs 0 = r at hcon ⊢
  go_enter Try.func51, Try.ntmps51
  go_wp2_with (go_at_call 63; refine hcon.mono ?_; rintro e w' ⟨rfl, hb'⟩)
  go_ret
  exact ⟨rfl, hb'⟩

set_option maxHeartbeats 2000000 in
theorem idx49 (p : S36 → Bool) (g : Nat) (lb : Array Value) (eg : ∀ args w, (callFunc g args).run Try.prog w = .ok (.enter g args) w) (A : Option Addr) (c : Nat) (xs : List S36) (w : World) (hr : Kd.C k36 w A xs.length xs)
    (hp : ∀ x, x ∈ xs → ∀ W A1 c1 A2 c2, Below w.heap.size w W → x.f1.length ≤ c1 → Kd.string.C W A1 x.f1.length x.f1 → x.f2.length ≤ c2 → Kd.string.C W A2 x.f2.length x.f2 → Calls Try.prog g (#[.agg #[.string x.f0, .slice A1 x.f1.length c1, .slice A2 x.f2.length c2]] ++ lb) W fun e w' => e = .returned (.bool (p x)) ∧ Below w.heap.size w w') :
    Calls Try.prog 49 #[.slice A xs.length c, .func (.func g) #[] lb] w fun e w' => e = .returned (.int .i64 (firstAt p xs 0)) ∧ Below w.heap.size w w' := by
  have HR := Aside0.mk hr
  have HP := Aside0.mk hp
  have hmax : xs.length ≤ 9223372036854775807 := Kd.C_max hr
  clear hr hp
  go_enter Try.func49, Try.ntmps49
  go_wp2
  go_loopg [5, 8] xs.length (fun gg _ s8 wr => ∃ kk : Nat, kk ≤ xs.length ∧ xs.length - kk ≤ gg ∧ s8 = .int .i64 kk ∧ Aside0 (Below w.heap.size w wr) ∧ Aside0 (∀ j, j < kk → p (xs.getD j z36) = false))
  case atStart => exact ⟨0, Nat.zero_le _, by omega, rfl, ⟨Below.refl _ w⟩, ⟨fun j hj => absurd hj (Nat.not_lt_zero _)⟩⟩
  case round =>
    obtain ⟨kk, hkk, hg, rfl, BW, AF⟩ := hrel
    by_cases hlt : kk < xs.length
    · have hltz : (kk : Int) < (xs.length : Int) := by omega
      obtain ⟨y, Y0⟩ : ∃ y, xs.getD kk z36 = y := ⟨_, rfl⟩
      obtain ⟨ad, A1, c1, A2, c2, eA, h0, h1, h2, l1, g1, l2, g2⟩ := at_T36 HR.out (kk : Int) (by omega) hltz
      subst eA
      have e_ : rd_T36 xs (kk : Int) = y := by rw [← Y0]; rfl
      rw [e_, Int.toNat_natCast] at h0 h1 h2
      rw [e_] at l1 g1 l2 g2
      have k0 : wr.cell? (ad.add (kk * 3)) = some (.string y.f0) := (BW.out.cell (World.block_lt_of_cell? w _ h0)).trans h0
      have k1 : wr.cell? ⟨(ad.add (kk * 3)).block, (ad.add (kk * 3)).off + 1, none⟩ = some (.slice A1 y.f1.length c1) := (BW.out.cell (World.block_lt_of_cell? w _ h1)).trans h1
      have k2 : wr.cell? ⟨(ad.add (kk * 3)).block, (ad.add (kk * 3)).off + 2, none⟩ = some (.slice A2 y.f2.length c2) := (BW.out.cell (World.block_lt_of_cell? w _ h2)).trans h2
      have Y := Aside0.mk Y0
      have G1 := Kd.C_below g1 BW.out
      have G2 := Kd.C_below g2 BW.out
      clear Y0 h0 h1 h2 g1 g2 e_
      have hu36 := Try.underlying36
      have hcall := HP.out y (by rw [← Y.out]; exact getD_mem _ _ _ hlt) wr A1 c1 A2 c2 BW.out l1 G1 l2 G2
      clear G1 G2
      cases hq : p y with
      | true =>
        rw [hq] at hcall
        go_wp2_with (go_at_fn g; refine hcall.mono ?_; rintro e w' ⟨rfl, hb'⟩)
        go_ret
        refine ⟨?_, hb'⟩
        rw [firstAt_hit p z36 xs kk 0 hlt (by rw [Y.out]; exact hq) AF.out, Nat.zero_add]
        rfl
      | false =>
        rw [hq] at hcall
        go_wp2_with (go_at_fn g; refine hcall.mono ?_; rintro e w' ⟨rfl, hb'⟩)
        go_roundg (xs.length - (kk + 1))
        case measure => omega
        case rel =>
          refine ⟨kk + 1, by omega, by omega, by go_num, ⟨hb'⟩, ⟨fun j hj => ?_⟩⟩
          by_cases e : j = kk
          · subst e
            rw [Y.out]; exact hq
          · exact AF.out j (by omega)
    · have hltz : ¬ (kk : Int) < (xs.length : Int) := by omega
      have : kk = xs.length := by omega
      subst this
      go_wp2
      go_ret
      refine ⟨?_, BW.out⟩
      rw [firstAt_miss p z36 xs 0 AF.out]
      rfl
set_option maxHeartbeats 1000000 in
theorem contains33 (p : S36 → Bool) (g : Nat) (lb : Array Value) (eg : ∀ args w, (callFunc g args).run Try.prog w = .ok (.enter g args) w) (A : Option Addr) (c : Nat) (xs : List S36) (w : World) (hr : Kd.C k36 w A xs.length xs)
    (hp : ∀ x, x ∈ xs → ∀ W A1 c1 A2 c2, Below w.heap.size w W → x.f1.length ≤ c1 → Kd.string.C W A1 x.f1.length x.f1 → x.f2.length ≤ c2 → Kd.string.C W A2 x.f2.length x.f2 → Calls Try.prog g (#[.agg #[.string x.f0, .slice A1 x.f1.length c1, .slice A2 x.f2.length c2]] ++ lb) W fun e w' => e = .returned (.bool (p x)) ∧ Below w.heap.size w w') :
    Calls Try.prog 33 #[.slice A xs.length c, .func (.func g) #[] lb] w fun e w' => e = .returned (.bool (xs.any p)) ∧ Below w.heap.size w w' := by
  rw [← firstAt_any p xs 0]
  have hcon := idx49 p g lb eg A c xs w hr hp
  clear hp hr
  generalize firstAt p xs 0 = r at hcon ⊢
  go_enter Try.func33, Try.ntmps33
  go_wp2_with (go_at_call 49; refine hcon.mono ?_; rintro e w' ⟨rfl, hb'⟩)
  go_ret
  exact ⟨rfl, hb'⟩

end Go.Proofs.Ytjagffomohbioaa.L

/- A map of the call's own, keyed by strings, as a plain function from strings to values: made, looked up, written; conditions: keys no longer than the greatest length. -/
set_option linter.unusedVariables false
namespace Go.Proofs.Ytjagffomohbioaa.L
open Go.RowKit Go.Maps Go.WideMaps Go.Proofs.YtjagffomohbioaaW.PrintWords Go.Proofs.YtjagffomohbioaaW.PrintLast Go.Proofs.YtjagffomohbioaaW.PrintMore

/-- An element reads as itself. -/
def heldElem (v : Value) : Option (DataW Value × List MemPlace) := some (.held v, [])
/-- The key that a string is. -/
def skey (s : ByteArray) : Lit := .string s.data.toList
theorem skey_inj {s t : ByteArray} (h : skey s = skey t) : s = t := by
  simp only [skey, Lit.string.injEq] at h
  cases s; cases t; simp at h; simp [h]

/-- Block b is a map of at most n entries that holds m: z is the zero value of its elements. -/
def MapIs (P : Program) (kt : TypeId) (w : World) (b n : Nat) (z : Value) (m : ByteArray → Value) : Prop :=
  ∃ D : DataW Value, w.ownsMap P kt heldElem b n D ∧ ∀ s : ByteArray, s.size ≤ maxLen → D.atKey (skey s) (.held z) = .held (m s)

section
variable {P : Program} {kt : TypeId} {w w1 : World} {b n : Nat} {z : Value} {m : ByteArray → Value}

theorem MapIs.made (P : Program) (kt : TypeId) (w : World) (z : Value) : MapIs P kt (w.alloc (.map #[] 0)) w.heap.size 0 z (fun _ => z) :=
  ⟨.map [], World.ownsMap_made _ _ _ _, fun _ _ => rfl⟩
theorem MapIs.kept {row : Option Nat} (h : MapIs P kt w b n z m) (hg : w.grownBy w1 row) (hne : some b ≠ row) : MapIs P kt w1 b n z m := by
  obtain ⟨D, ho, hm⟩ := h
  exact ⟨D, ho.kept hg hne, hm⟩
theorem MapIs.alloc (h : MapIs P kt w b n z m) (o : Obj) : MapIs P kt (w.alloc o) b n z m := h.kept (World.grownBy_alloc w o none) (by simp)
theorem MapIs.lt (h : MapIs P kt w b n z m) : b < w.heap.size := by
  obtain ⟨D, ho, hm⟩ := h
  exact ho.lt
theorem MapIs.block (h : MapIs P kt w b n z m) (hb : w1.heap[b]? = w.heap[b]?) : MapIs P kt w1 b n z m := by
  obtain ⟨D, ⟨es, clock, hh, r⟩, hm⟩ := h
  exact ⟨D, ⟨es, clock, hb.trans hh, r⟩, hm⟩
theorem MapIs.below (h : MapIs P kt w b n z m) (hb : Below w.heap.size w w1) : MapIs P kt w1 b n z m := h.block (hb.block b h.lt)
theorem MapIs.is_map (h : MapIs P kt w b n z m) : ∃ es clock, w.heap[b]? = some (.map es clock) := by
  obtain ⟨D, ⟨es, clock, hh, r⟩, hm⟩ := h
  exact ⟨es, clock, hh⟩

theorem MapIs.look {t e : TypeId} (h : MapIs P kt w b n z m) (hk : P.underlying kt = some .string) (ht : P.underlying t = some (.map kt e)) (hz : (zeroValue e).run P w = .ok z w) (s : ByteArray) (hs : s.size ≤ maxLen) :
    (Instr.lookup t (.map (some b)) (.string s) false).run P w = .ok (m s) w := by
  obtain ⟨D, ho, hm⟩ := h
  obtain ⟨v, ps, hrun, hv⟩ := ho.lookup (string_keyed hk) ht hz (zd := .held z) (zp := []) rfl (keyOf_string_mk hk hs)
  have := hm s hs
  unfold skey at this
  rw [this] at hv
  simp only [heldElem, Option.some.injEq, Prod.mk.injEq, DataW.held.injEq] at hv
  rw [hrun, hv.1]

theorem MapIs.write {t e : TypeId} (h : MapIs P kt w b n z m) (hk : P.underlying kt = some .string) (ht : P.underlying t = some (.map kt e)) (hn : n < maxLen) (s : ByteArray) (hs : s.size ≤ maxLen) (v : Value) :
    ∃ w', (Instr.mapUpdate t (.map (some b)) (.string s) v).run P w = .ok () w' ∧ MapIs P kt w' b (n + 1) z (fun x => if x = s then v else m x) ∧ w.grownBy w' (some b) := by
  obtain ⟨D, ho, hm⟩ := h
  obtain ⟨w', hrun, ho', hg⟩ := ho.update (string_keyed hk) ht hn (keyOf_string_mk hk hs) (val := v) (d := .held v) (ps := []) rfl
  refine ⟨w', hrun, ⟨_, ho', fun x hx => ?_⟩, hg⟩
  by_cases e : x = s
  · subst e
    show _ = DataW.held (if x = x then v else m x)
    rw [if_pos rfl]
    exact atKey_put_same ho.isMap (by simp [WideAt.IsKeyLit]) _ _
  · show _ = DataW.held (if x = s then v else m x)
    rw [if_neg e, ← hm x hx]
    exact atKey_put_other (fun h => e (skey_inj h)) _ _
end

section
variable {P : Program} (w : World) {ops : Array Oper} {rest : List Oper} {o : Oper} {a : Act} {Q : Exit → Act → World → Prop}
theorem map_look (hg : o.guard = none) (mo x : Operand) (t : TypeId) (hop : o.op = Op.lookup t mo x false)
    (kt e : TypeId) (hk : P.underlying kt = some .string) (ht : P.underlying t = some (.map kt e)) {z : Value} (hz : (zeroValue e).run P w = .ok z w) {b n : Nat} {m : ByteArray → Value} (hown : MapIs P kt w b n z m)
    (s : ByteArray) (hs : s.size ≤ maxLen) (hm : a.eval mo = .map (some b)) (hx : a.eval x = .string s)
    (hK : wpList P ops Q rest (a.put o.dst (m s)) w) : wpList P ops Q (o :: rest) a w := by
  refine wpList_plain hg fun K' hK' => ?_
  unfold Oper.wp
  simp [execOp, hop, hm, hx, hown.look hk ht hz s hs, Result.andThen]
  exact hK' _ _ hK
theorem map_write (hg : o.guard = none) (mo x v : Operand) (t : TypeId) (hop : o.op = Op.mapUpdate t mo x v)
    (kt e : TypeId) (hk : P.underlying kt = some .string) (ht : P.underlying t = some (.map kt e)) {z : Value} {b n : Nat} {m : ByteArray → Value} (hown : MapIs P kt w b n z m) (hn : n < maxLen)
    (s : ByteArray) (hs : s.size ≤ maxLen) (val : Value) (hm : a.eval mo = .map (some b)) (hx : a.eval x = .string s) (hv : a.eval v = val)
    (hK : ∀ w', MapIs P kt w' b (n + 1) z (fun x => if x = s then val else m x) → w.grownBy w' (some b) → wpList P ops Q rest (a.put o.dst undef) w') : wpList P ops Q (o :: rest) a w := by
  refine wpList_plain hg fun K' hK' => ?_
  obtain ⟨w', hrun, r1, r2⟩ := hown.write hk ht hn s hs val
  unfold Oper.wp
  simp [execOp, hop, hm, hx, hv, hrun, Result.andThen]
  exact hK' _ _ (hK w' r1 r2)
end
end Go.Proofs.Ytjagffomohbioaa.L

/- Rows of strings of the call's own, which may begin inside their block: read, appended to, cut; conditions: lengths that fit into memory. -/
set_option linter.unusedVariables false
set_option linter.unusedSimpArgs false
namespace Go.Proofs.Ytjagffomohbioaa.L
open Go.RowKit Go.Proofs.YtjagffomohbioaaW.PrintWords Go.Proofs.YtjagffomohbioaaW.PrintLast Go.Proofs.YtjagffomohbioaaW.PrintMore

def strs (L : List ByteArray) : List Value := L.map Value.string
/-- The slice value v owns the strings L; ok: which block its row may be. -/
def SR (w : World) (B : Nat) (ok : Nat → Prop) (v : Value) (L : List ByteArray) : Prop :=
  (∀ k, v.ownBlock = some k → ok k) ∧ QRow w B 9 1 v L.length (strs L)
section
variable {w w1 : World} {B : Nat} {ok ok' : Nat → Prop} {v : Value} {L : List ByteArray}
theorem SR.nil (w : World) (B : Nat) (ok : Nat → Prop) : SR w B ok (.slice none 0 0) [] := ⟨fun k hk => by simp [Value.ownBlock] at hk, q_of_own (own_nil w B 9 1)⟩
theorem SR.typed (h : SR w B ok v L) : ∀ k, v.ownBlock = some k → B ≤ k ∧ ∃ cells, w.heap[k]? = some (.cells cells 9 (0, 0)) := fun k hk => q_typed h.2 k hk
theorem SR.lt (h : SR w B ok v L) : ∀ k, v.ownBlock = some k → k < w.heap.size := fun k hk => q_lt h.2 k hk
theorem SR.move (h : SR w B ok v L) (hm : ∀ k, ok k → k < w.heap.size → w1.heap[k]? = w.heap[k]?) : SR w1 B ok v L := ⟨h.1, q_move h.2 (fun k hk => hm k (h.1 k hk) (h.lt k hk))⟩
theorem SR.mono (h : SR w B ok v L) (hok : ∀ k, ok k → k < w.heap.size → ok' k) : SR w B ok' v L := ⟨fun k hk => hok k (h.1 k hk) (h.lt k hk), h.2⟩
theorem SR.grown (h : SR w B ok v L) {row : Option Nat} (hg : w.grownBy w1 row) (hok : ∀ k, ok k → some k ≠ row) : SR w1 B ok v L := h.move (fun k ho hk => hg.block k hk (hok k ho))
theorem SR.below (h : SR w B ok v L) (hb : Below w.heap.size w w1) : SR w1 B ok v L := h.move (fun k _ hk => hb.block k hk)
theorem SR.slice (h : SR w B ok v L) : ∃ A c, v = .slice A L.length c ∧ L.length ≤ c := q_slice h.2
theorem SR.cells {A : Option Addr} {n c : Nat} (h : SR w B ok (.slice A n c) L) (hn : 0 < L.length) : ∃ ad, A = some ad ∧ ∀ j u, (strs L)[j]? = some u → w.cell? (ad.add j) = some u := by
  obtain ⟨A', c', e, _⟩ := q_slice h.2
  cases e
  exact q_cells h.2 hn
theorem SR.not_block (h : SR w B ok v L) {g t : Nat} {cs : Array Value} {fr : Nat × Nat} (hb : w.heap[g]? = some (.cells cs t fr)) (ht : t ≠ 9) : some g ≠ v.ownBlock := fun e => by
  obtain ⟨_, cells, hc⟩ := h.typed g e.symm
  rw [hb] at hc
  simp only [Option.some.injEq, Obj.cells.injEq] at hc
  exact ht hc.2.1
theorem SR.not_map (h : SR w B ok v L) {g : Nat} {es : Array MapEntry} {cl : Nat} (hb : w.heap[g]? = some (.map es cl)) : some g ≠ v.ownBlock := fun e => by
  obtain ⟨_, cells, hc⟩ := h.typed g e.symm
  rw [hb] at hc
  cases hc
theorem SR.drop1 {A : Option Addr} {n c : Nat} {s : ByteArray} {r : List ByteArray} (h : SR w B ok (.slice A n c) (s :: r)) : SR w B ok (.slice (if c = 1 then A else A.map (·.add 1)) r.length (c - 1)) r := by
  obtain ⟨A', c', e, _⟩ := q_slice h.2
  cases e
  have hq := q_drop (k := 1) h.2 (by simp)
  simp only [List.length_cons, Nat.add_sub_cancel, Nat.mul_one] at hq
  have e2 : (strs (s :: r)).drop 1 = strs r := rfl
  rw [e2] at hq
  refine ⟨fun k hk => h.1 k ?_, hq⟩
  cases A with
  | none => split at hk <;> simp [Value.ownBlock] at hk
  | some a =>
    split at hk
    · simpa [Value.ownBlock] using hk
    · simp only [Option.map_some, Value.ownBlock] at hk ⊢
      rw [← hk]
      unfold Addr.add
      split <;> rfl
end
section
variable {W w0 : World} {B : Nat} {ok : Nat → Prop} {v : Value} {L ys : List ByteArray}
/-- append: what is appended is read at A. -/
theorem SR.append_run (ty : TypeId) (h : SR W B ok v L) (A : Option Addr) (m c : Nat) (hm : ys.length = m) (hA : (A = none ∧ c = 0 ∧ m = 0) ∨ (0 < m ∧ ∃ a, A = some a ∧ ∀ j u, (strs ys)[j]? = some u → W.cell? (a.add j) = some u))
    (hl : (L.length + m) * 16 ≤ 140737488355328) (hbase : B ≤ W.heap.size) (hfresh : ∀ k, W.heap.size ≤ k → ok k) :
    ∃ v1 w1, (Builtin.append_ #[34, 34] ty #[v, .slice A m c]).run Try.prog W = .ok v1 w1 ∧ SR w1 B ok v1 (L ++ ys) ∧ W.grownBy w1 v.ownBlock ∧ (v1.ownBlock = v.ownBlock ∨ ∃ b, v1.ownBlock = some b ∧ W.heap.size ≤ b) := by
  obtain ⟨i0, hi, hz0, hz1, hz2⟩ := info_parts info9
  rcases hA with ⟨rfl, rfl, rfl⟩ | ⟨hpos, a, rfl, hcell⟩
  · obtain rfl : ys = [] := List.eq_nil_of_length_eq_zero hm
    refine ⟨v, W, ?_, by rw [List.append_nil]; exact h, World.grownBy.refl W _, .inl rfl⟩
    rcases h.2.2 with ⟨h0, A', rfl, _⟩ | ⟨g, off, cap, cur, rfl, _, _, hnc, _⟩
    · cases A' <;> simp [Builtin.append_, run_underlying Try.underlying34, sizeOf, typeInfo, hi, Builtin.lenOf, Builtin.firstCells, storeCells]
    · simp [Builtin.append_, run_underlying Try.underlying34, sizeOf, typeInfo, hi, Builtin.lenOf, Builtin.firstCells, hnc, storeCells]
  · obtain ⟨v1, w1, hrun, hq, hg, hat⟩ := q_append (P := Try.prog) W B 34 ty 9 i0 (.string ⟨#[]⟩) 1 16 Try.underlying34 hi hz0 hz1 hz2 rfl (by decide) v L.length (strs L) h.2 a m c (strs ys) (by simp [strs, hm]) hcell
      (fun u hu => by obtain ⟨s, _, rfl⟩ := List.mem_map.1 hu; rfl) hpos (by unfold maxLen; omega) hl hbase
    refine ⟨v1, w1, hrun, ⟨fun k hk => ?_, ?_⟩, hg, hat⟩
    · rcases hat with e | ⟨b, e, hb⟩
      · exact h.1 k (by rw [← e]; exact hk)
      · rw [e] at hk
        cases hk
        exact hfresh _ hb
    · have e1 : (L ++ ys).length = L.length + m := by simp [hm]
      have e2 : strs (L ++ ys) = strs L ++ strs ys := by simp [strs]
      rw [e1, e2]
      exact hq
end
section
variable {W : World} {B : Nat} {ok : Nat → Prop} {v : Value} {L ys : List ByteArray} {ops : Array Oper} {rest : List Oper} {o : Oper} {a : Act} {Q' : Exit → Act → World → Prop}
/-- append at the operation. -/
theorem SR.append (hgd : o.guard = none) (s x : Operand) (ho : o.op = .call { callee := .builtin .append, args := #[s, x], argTypes := #[34, 34] })
    (A : Option Addr) (m c : Nat) (hs : a.eval s = v) (hx : a.eval x = .slice A m c) (h : SR W B ok v L) (hm : ys.length = m) (hA : (A = none ∧ c = 0 ∧ m = 0) ∨ (0 < m ∧ ∃ a, A = some a ∧ ∀ j u, (strs ys)[j]? = some u → W.cell? (a.add j) = some u))
    (hl : (L.length + m) * 16 ≤ 140737488355328) (hbase : B ≤ W.heap.size) (hfresh : ∀ k, W.heap.size ≤ k → ok k)
    (hK : ∀ v1 w1, SR w1 B ok v1 (L ++ ys) → W.grownBy w1 v.ownBlock → (v1.ownBlock = v.ownBlock ∨ ∃ b, v1.ownBlock = some b ∧ W.heap.size ≤ b) → wpList Try.prog ops Q' rest (a.put o.dst v1) w1) :
    wpList Try.prog ops Q' (o :: rest) a W := by
  obtain ⟨v1, w1, hr, h1, h2, h3⟩ := SR.append_run o.type h A m c hm hA hl hbase hfresh
  refine wpList_plain hgd fun K hK' => ?_
  unfold Oper.wp execOp
  simp only [ho, resolve, invoke, builtin, Sem.run_bind, Sem.run_pure, Result.andThen_ok, List.map_toArray, List.map_cons, List.map_nil, hs, hx, hr]
  exact hK' _ _ (hK v1 w1 h1 h2 h3)
end
end Go.Proofs.Ytjagffomohbioaa.L

/- The memory of licence.fine while it runs: two maps, a queue of strings, one row of strings a key; each step keeps it. -/
set_option linter.unusedVariables false
set_option linter.unusedSimpArgs false
namespace Go.Proofs.Ytjagffomohbioaa.L
open Go.RowKit Go.Proofs.YtjagffomohbioaaW.PrintWords Go.Proofs.YtjagffomohbioaaW.PrintLast Go.Proofs.YtjagffomohbioaaW.PrintMore

structure Hold (p : Prop) : Prop where mk :: (out : p)
theorem hold_on {p : Prop} (h : Hold p) : p := h.out

/-- What a block is for: a key's row, the queue, or neither. -/
abbrev Tag := Nat → Option (Option ByteArray)
def tagK (W : World) (tag : Tag) (t : Option (Option ByteArray)) : Tag := fun k => if k < W.heap.size then tag k else t
theorem tagK_old {W : World} {tag : Tag} {t : Option (Option ByteArray)} {k : Nat} (h : k < W.heap.size) : tagK W tag t k = tag k := if_pos h
theorem tagK_new {W : World} {tag : Tag} {t : Option (Option ByteArray)} {k : Nat} (h : W.heap.size ≤ k) : tagK W tag t k = t := if_neg (by omega)

structure FS (w0 wr : World) (A0 : Option Addr) (n c0 : Nat) (tag : Tag) (vl : Value) (L : List ByteArray) (v : ByteArray → Value) (N : ByteArray → List ByteArray) (fF : ByteArray → Value) (nf nn : Nat) : Prop where
  below : Below w0.heap.size w0 wr
  size : w0.heap.size + 4 ≤ wr.heap.size
  box0 : wr.heap[w0.heap.size]? = some (.cells #[.slice A0 n c0] 23 (0, 0))
  boxf : wr.heap[w0.heap.size + 2]? = some (.cells #[.map (some (w0.heap.size + 1))] 63 (0, 0))
  fol : MapIs Try.prog 9 wr (w0.heap.size + 1) nf (.bool false) fF
  nxt : MapIs Try.prog 9 wr (w0.heap.size + 3) nn (.slice none 0 0) v
  own : ∀ s, SR wr w0.heap.size (fun k => tag k = some (some s)) (v s) (N s)
  lst : SR wr w0.heap.size (fun k => tag k = some none) vl L
  vnil : ∀ s, N s = [] → v s = .slice none 0 0

section
variable {w0 wr w1 w2 W : World} {A0 : Option Addr} {n c0 : Nat} {tag : Tag} {vl v1 : Value} {L L1 : List ByteArray} {v : ByteArray → Value} {N : ByteArray → List ByteArray} {fF : ByteArray → Value} {nf nn : Nat}

theorem FS.step (h : FS w0 wr A0 n c0 tag vl L v N fF nf nn) (hb : Below wr.heap.size wr w1) : FS w0 w1 A0 n c0 tag vl L v N fF nf nn where
  below := below_then h.below h.below.size hb
  size := Nat.le_trans h.size hb.size
  box0 := (hb.block _ (blk_lt h.box0)).trans h.box0
  boxf := (hb.block _ (blk_lt h.boxf)).trans h.boxf
  fol := h.fol.below hb
  nxt := h.nxt.below hb
  own := fun s => (h.own s).below hb
  lst := h.lst.below hb
  vnil := h.vnil
theorem FS.alloc (h : FS w0 wr A0 n c0 tag vl L v N fF nf nn) (o : Obj) : FS w0 (wr.alloc o) A0 n c0 tag vl L v N fF nf nn := h.step (below_alloc (Below.refl _ _) o)
theorem FS.drawn (h : FS w0 wr A0 n c0 tag vl L v N fF nf nn) (hd : Drawn0 wr w1) : FS w0 w1 A0 n c0 tag vl L v N fF nf nn := by
  obtain ⟨k, rfl⟩ := hd
  exact h.step (pw_below_drewN (Below.refl _ _) k)
theorem FS.retag (h : FS w0 W A0 n c0 tag vl L v N fF nf nn) (t : Option (Option ByteArray)) : FS w0 W A0 n c0 (tagK W tag t) vl L v N fF nf nn where
  below := h.below
  size := h.size
  box0 := h.box0
  boxf := h.boxf
  fol := h.fol
  nxt := h.nxt
  own := fun s => (h.own s).mono (fun k hk hlt => by rw [tagK_old hlt]; exact hk)
  lst := h.lst.mono (fun k hk hlt => by rw [tagK_old hlt]; exact hk)
  vnil := h.vnil

/-- The queue was appended to. -/
theorem FS.pushed (h : FS w0 W A0 n c0 tag vl L v N fF nf nn) (h1 : SR w1 w0.heap.size (fun k => tag k = some none) v1 L1) (hg : W.grownBy w1 vl.ownBlock) : FS w0 w1 A0 n c0 tag v1 L1 v N fF nf nn where
  below := h.below.grown hg h.below.size (fun k hk => (h.lst.typed k hk).1)
  size := Nat.le_trans h.size hg.size
  box0 := (hg.block _ (blk_lt h.box0) (h.lst.not_block h.box0 (by decide))).trans h.box0
  boxf := (hg.block _ (blk_lt h.boxf) (h.lst.not_block h.boxf (by decide))).trans h.boxf
  fol := by
    obtain ⟨es, cl, hm⟩ := h.fol.is_map
    exact h.fol.kept hg (h.lst.not_map hm)
  nxt := by
    obtain ⟨es, cl, hm⟩ := h.nxt.is_map
    exact h.nxt.kept hg (h.lst.not_map hm)
  own := fun s => (h.own s).grown hg (fun k hk e => by have this : tag k = some none := h.lst.1 k e.symm; rw [hk] at this; simp at this)
  lst := h1
  vnil := h.vnil
/-- The queue is another one (cut). -/
theorem FS.cut (h : FS w0 W A0 n c0 tag vl L v N fF nf nn) (h1 : SR W w0.heap.size (fun k => tag k = some none) v1 L1) : FS w0 W A0 n c0 tag v1 L1 v N fF nf nn :=
  { h with lst := h1 }

/-- A key's row was appended to; its map not yet written. -/
theorem FS.nxt_after (h : FS w0 W A0 n c0 tag vl L v N fF nf nn) (a : ByteArray) (hg : W.grownBy w1 (v a).ownBlock) : MapIs Try.prog 9 w1 (w0.heap.size + 3) nn (.slice none 0 0) v := by
  obtain ⟨es, cl, hm⟩ := h.nxt.is_map
  exact h.nxt.kept hg ((h.own a).not_map hm)

theorem FS.key_store (h : FS w0 W A0 n c0 tag vl L v N fF nf nn) (a : ByteArray) (h1 : SR w1 w0.heap.size (fun k => tag k = some (some a)) v1 L1) (hg : W.grownBy w1 (v a).ownBlock) (hne : L1 ≠ [])
    (hw : MapIs Try.prog 9 w2 (w0.heap.size + 3) (nn + 1) (.slice none 0 0) (fun x => if x = a then v1 else v x)) (hg2 : w1.grownBy w2 (some (w0.heap.size + 3))) :
    FS w0 w2 A0 n c0 tag vl L (fun x => if x = a then v1 else v x) (fun x => if x = a then L1 else N x) fF nf (nn + 1) := by
  obtain ⟨es, cl, hm⟩ := (h.nxt_after a hg).is_map
  have b1 : Below w0.heap.size w0 w1 := h.below.grown hg h.below.size (fun k hk => ((h.own a).typed k hk).1)
  have far : ∀ {u : Value} {ok : Nat → Prop} {X : List ByteArray}, SR w1 w0.heap.size ok u X → SR w2 w0.heap.size ok u X := fun {u ok X} hu =>
    ⟨hu.1, q_move hu.2 (fun k hk => hg2.block k (hu.lt k hk) (fun e => hu.not_map hm (e.symm.trans hk.symm)))⟩
  refine ⟨b1.grown hg2 b1.size (fun k hk => by cases hk; omega), Nat.le_trans h.size (Nat.le_trans hg.size hg2.size), ?_, ?_, ?_, hw, fun s => ?_, ?_, fun s hs => ?_⟩
  · have e1 := (hg.block _ (blk_lt h.box0) ((h.own a).not_block h.box0 (by decide))).trans h.box0
    exact (hg2.block _ (blk_lt e1) (by simp)).trans e1
  · have e1 := (hg.block _ (blk_lt h.boxf) ((h.own a).not_block h.boxf (by decide))).trans h.boxf
    exact (hg2.block _ (blk_lt e1) (by simp)).trans e1
  · obtain ⟨es', cl', hm'⟩ := h.fol.is_map
    exact (h.fol.kept hg ((h.own a).not_map hm')).kept hg2 (by simp)
  · by_cases e : s = a
    · subst e
      simp only [if_pos]
      exact far h1
    · simp only [if_neg e]
      exact far ((h.own s).grown hg (fun k hk e' => by
        have this : tag k = some (some a) := (h.own a).1 k e'.symm
        rw [hk] at this
        simp only [Option.some.injEq] at this
        exact e this))
  · exact far (h.lst.grown hg (fun k hk e' => by have this : tag k = some (some a) := (h.own a).1 k e'.symm; rw [hk] at this; simp at this))
  · by_cases e : s = a
    · subst e
      simp only [if_pos] at hs
      exact absurd hs hne
    · simp only [if_neg e] at hs ⊢
      exact h.vnil s hs

theorem FS.fol_store (h : FS w0 W A0 n c0 tag vl L v N fF nf nn) {gF : ByteArray → Value} (hw : MapIs Try.prog 9 w2 (w0.heap.size + 1) (nf + 1) (.bool false) gF) (hg2 : W.grownBy w2 (some (w0.heap.size + 1))) :
    FS w0 w2 A0 n c0 tag vl L v N gF (nf + 1) nn := by
  obtain ⟨es, cl, hm⟩ := h.fol.is_map
  have far : ∀ {u : Value} {ok : Nat → Prop} {X : List ByteArray}, SR W w0.heap.size ok u X → SR w2 w0.heap.size ok u X := fun {u ok X} hu =>
    ⟨hu.1, q_move hu.2 (fun k hk => hg2.block k (hu.lt k hk) (fun e => hu.not_map hm (e.symm.trans hk.symm)))⟩
  exact ⟨h.below.grown hg2 h.below.size (fun k hk => by cases hk; omega), Nat.le_trans h.size hg2.size, (hg2.block _ (blk_lt h.box0) (by simp)).trans h.box0, (hg2.block _ (blk_lt h.boxf) (by simp)).trans h.boxf, hw,
    h.nxt.kept hg2 (by simp), fun s => far (h.own s), far h.lst, h.vnil⟩
end
end Go.Proofs.Ytjagffomohbioaa.L
