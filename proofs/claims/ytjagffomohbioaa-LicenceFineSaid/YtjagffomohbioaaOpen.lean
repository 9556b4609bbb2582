/- A []Clause argument, opened: whatever reads as a slice of clauses is a row that the walk can read, and its strings have a size. -/
import Derived.Test.YtjagffomohbioaaLx0
import Derived.Test.YtjagffomohbioaaHBase
import Derived.Deep.Slices
import Derived.SliceStrings
set_option linter.unusedVariables false
set_option linter.unusedSimpArgs false
namespace Go.Proofs.Ytjagffomohbioaa.L
open Go.RowKit Go.Proofs.YtjagffomohbioaaW.PrintWords Go.Proofs.YtjagffomohbioaaW.PrintLast Go.Proofs.YtjagffomohbioaaW.PrintMore
open Go.ChangeShapes Go.WideShapes

section
variable {H : Type} {enc : TypeId × Value → H} {w : World} {base : Nat} {spare : Nat → Bool} {held : Bool}
theorem small_max {n : Nat} (h : n ≤ maxLen) : n ≤ 9223372036854775807 := by unfold maxLen at h; omega
/-- A []string. -/
theorem open_texts {fuel : Nat} {cs : List Value} {x : DataW H × List MemPlace} (h : DataW.trod enc Try.prog w base spare held fuel 34 cs = some x) :
    ∃ (A : Option Addr) (c : Nat) (ss : List ByteArray), cs = [.slice A ss.length c] ∧ ss.length ≤ c ∧ Kd.string.C w A ss.length ss ∧ ∀ s ∈ ss, s.size ≤ 9223372036854775807 := by
  rcases open_strings Try.underlying34 Try.underlying9 (by kernel_rfl) h with ⟨rfl, _⟩ | ⟨a, len, cap, ss, rfl, _, hl, hm, hlen, _, hcell, hsz⟩
  · exact ⟨none, 0, [], rfl, Nat.le_refl _, ⟨rfl, Nat.zero_le _, fun hn => absurd hn (Nat.lt_irrefl _)⟩, fun s hs => absurd hs List.not_mem_nil⟩
  · have hle : len ≤ ss.length := by rw [hlen]; split <;> omega
    have ht : (ss.take len).length = len := by rw [List.length_take]; omega
    have hmm := small_max hm
    refine ⟨some a, cap, ss.take len, by rw [ht], by omega, ⟨rfl, by omega, fun _ => ⟨a, rfl, fun j p hj => ⟨[.string p], rfl, rfl, fun i u hu => ?_⟩⟩⟩, fun s hs => small_max (hsz s (List.mem_of_mem_take hs))⟩
    obtain ⟨hi, hu'⟩ := List.getElem?_eq_some_iff.1 hu
    have hi0 : i = 0 := by simp at hi; omega
    subst hi0
    have hjl : j < ss.length := by
      have := (List.getElem?_eq_some_iff.1 hj).1
      rw [ht] at this
      omega
    have hp : ss.getD j ByteArray.empty = p := by
      rw [List.getElem?_take] at hj
      split at hj
      · rw [List.getD_eq_getElem?_getD, hj]
        rfl
      · cases hj
    have hc := hcell j hjl
    rw [hp] at hc
    rw [show j * Kd.string.sz + 0 = j from by show j * 1 + 0 = j; omega, hc]
    exact congrArg some hu'
theorem open_clause {fuel : Nat} {cs : List Value} {x : DataW H × List MemPlace} (h : DataW.trod enc Try.prog w base spare held fuel 36 cs = some x) :
    ∃ c : S36, k36.K w c cs ∧ boundC c = true := by
  obtain ⟨xs, n, _, _, hlen, hxl, hf⟩ := DataW.trod_struct Try.underlying36 h
  have c36 : Try.prog.cellsOf 36 = 3 := by kernel_rfl
  have c9 : Try.prog.cellsOf 9 = 1 := by kernel_rfl
  have c34 : Try.prog.cellsOf 34 = 1 := by kernel_rfl
  rw [c36] at hlen
  have h0 : DataW.trod enc Try.prog w base spare held n 9 ((cs.drop 0).take (Try.prog.cellsOf 9)) = xs[0]? := hf 0 _ rfl
  have h1 : DataW.trod enc Try.prog w base spare held n 34 ((cs.drop 1).take (Try.prog.cellsOf 34)) = xs[1]? := hf 1 _ rfl
  have h2 : DataW.trod enc Try.prog w base spare held n 34 ((cs.drop 2).take (Try.prog.cellsOf 34)) = xs[2]? := hf 2 _ rfl
  rw [c9] at h0
  rw [c34] at h1 h2
  match cs, hlen, xs, hxl with
  | [v0, v1, v2], _, [y0, y1, y2], _ =>
    obtain ⟨s, e0, _, hs⟩ := DataW.trod_string Try.underlying9 (show DataW.trod enc Try.prog w base spare held n 9 [v0] = some y0 from h0)
    obtain ⟨A1, c1, l1, e1, hl1, hC1, hb1⟩ := open_texts (show DataW.trod enc Try.prog w base spare held n 34 [v1] = some y1 from h1)
    obtain ⟨A2, c2, l2, e2, hl2, hC2, hb2⟩ := open_texts (show DataW.trod enc Try.prog w base spare held n 34 [v2] = some y2 from h2)
    injection e0 with e0 _
    injection e1 with e1 _
    injection e2 with e2 _
    subst e0 e1 e2
    refine ⟨⟨s, l1, l2⟩, k36_mk w ⟨s, l1, l2⟩ hl1 hC1 hl2 hC2, ?_⟩
    unfold boundC
    rw [Bool.and_eq_true, List.all_eq_true, List.all_eq_true]
    exact ⟨fun s hs => decide_eq_true (hb1 s hs), fun s hs => decide_eq_true (hb2 s hs)⟩
theorem open_clauses {fuel : Nat} {cs : List Value} {x : DataW H × List MemPlace} (h : DataW.trod enc Try.prog w base spare held fuel 23 cs = some x) :
    ∃ (A : Option Addr) (c : Nat) (l : List S36), cs = [.slice A l.length c] ∧ l.length ≤ c ∧ k36.C w A l.length l ∧ l.all boundC = true := by
  rcases Go.Deep.open_slice Try.underlying23 h with ⟨rfl, _⟩ | ⟨a, len, cap, m, n, D, Pl, rfl, _, hl, hm, hmm, _, hi⟩
  · exact ⟨none, 0, [], rfl, Nat.le_refl _, ⟨rfl, Nat.zero_le _, fun hn => absurd hn (Nat.lt_irrefl _)⟩, rfl⟩
  · have c36 : Try.prog.cellsOf 36 = 3 := by kernel_rfl
    have hle : len ≤ m := by rw [hmm]; split <;> omega
    have hmx := small_max hm
    have each : ∀ i, i < len → ∃ c : S36, (∃ cs', w.cells? base (a.add (i * 3)) 3 = some cs' ∧ k36.K w c cs') ∧ boundC c = true := fun i h => by
      obtain ⟨cs', hc, ht⟩ := hi i (by omega)
      rw [c36] at hc
      obtain ⟨c, hK, hb⟩ := open_clause ht
      exact ⟨c, ⟨cs', hc, hK⟩, hb⟩
    haveI : Inhabited S36 := ⟨z36⟩
    obtain ⟨f, hfa⟩ := Go.Deep.choose_lt each
    have hlf : ((List.range len).map f).length = len := by simp
    refine ⟨some a, cap, (List.range len).map f, by rw [hlf], by omega, ⟨rfl, by omega, fun _ => ⟨a, rfl, fun j p hj => ?_⟩⟩, ?_⟩
    · obtain ⟨hjl, hp⟩ := List.getElem?_eq_some_iff.1 hj
      have hjl' : j < len := by rw [hlf] at hjl; exact hjl
      have hp' : f j = p := by simpa using hp
      obtain ⟨⟨cs', hc, hK⟩, _⟩ := hfa j hjl'
      rw [hp'] at hK
      obtain ⟨_, hcl, hat⟩ := World.cells?_some hc
      refine ⟨cs', hcl, hK, fun i u hu => ?_⟩
      have hi3 : i < 3 := by have := (List.getElem?_eq_some_iff.1 hu).1; omega
      have := hat i hi3
      rw [Go.Deep.add_add] at this
      rw [show k36.sz = 3 from rfl, this, hu]
    · rw [List.all_eq_true]
      intro c hc
      obtain ⟨i, hi', rfl⟩ := List.mem_map.1 hc
      exact (hfa i (List.mem_range.1 hi')).2
end
end Go.Proofs.Ytjagffomohbioaa.L
