/- The printed reference's plain laws and the walk of its Core; conditions: strings that fit, at most a million indices. -/
import Derived.Test.YtjagffomohbioaaHBase
import Derived.Test.YtjagffomohbioaaLx8
import Derived.Test.YtjagffomohbioaaLx9
import Derived.Test.YtjagffomohbioaaLx10
import Derived.Test.YtjagffomohbioaaLx11
import Derived.Test.YtjagffomohbioaaHWalk
import Derived.Deep.LoopGhost
/- Plain laws of printed functions with rounds: from some number of rounds on they tell the same. -/
set_option linter.unusedVariables false
set_option linter.unusedSimpArgs false
namespace Go.Proofs.Ytjagffomohbioaa.L
open Go.RowKit Go.Proofs.YtjagffomohbioaaW.PrintWords Go.Proofs.YtjagffomohbioaaW.PrintLast Go.Proofs.YtjagffomohbioaaW.PrintMore

/-- From some number of rounds on. -/
def Ev {α : Type} (f : Nat → Option α) (r : α) : Prop := ∃ k0, ∀ k, k0 ≤ k → f k = some r
theorem Ev.const {α : Type} {o : Option α} {r : α} (h : o = some r) : Ev (fun _ => o) r := ⟨0, fun _ _ => h⟩
theorem Ev.succ {α : Type} {f g : Nat → Option α} {r : α} (h : ∀ k, f (k + 1) = g k) (hg : Ev g r) : Ev f r := by
  obtain ⟨k0, hk⟩ := hg
  refine ⟨k0 + 1, fun k hk0 => ?_⟩
  obtain ⟨j, rfl⟩ : ∃ j, k = j + 1 := ⟨k - 1, by omega⟩
  rw [h j]
  exact hk j (by omega)
theorem Ev.bind {α β : Type} {f : Nat → Option α} {g : Nat → α → Option β} {a : α} {r : β} (hf : Ev f a) (hg : Ev (fun k => g k a) r) : Ev (fun k => (f k).bind (g k)) r := by
  obtain ⟨k0, h0⟩ := hf
  obtain ⟨k1, h1⟩ := hg
  refine ⟨max k0 k1, fun k hk => ?_⟩
  show (f k).bind (g k) = some r
  rw [h0 k (by omega)]
  exact h1 k (by omega)
theorem Ev.congr {α : Type} {f g : Nat → Option α} {r : α} (h : ∀ k, f k = g k) (hg : Ev g r) : Ev f r := by
  obtain ⟨k0, hk⟩ := hg
  exact ⟨k0, fun k hk0 => (h k).trans (hk k hk0)⟩
theorem Ev.get {α : Type} {f : Nat → Option α} {r : α} (h : Ev f r) : ∃ k, f k = some r := by
  obtain ⟨k0, hk⟩ := h
  exact ⟨k0, hk k0 (Nat.le_refl _)⟩
theorem w64 {n : Int} (h0 : -9223372036854775808 ≤ n) (h1 : n < 9223372036854775808) : wrap64 n = n := by unfold wrap64; omega

theorem drop_cons {α : Type} (d : α) (l : List α) (i : Nat) (h : i < l.length) : l.drop i = l.getD i d :: l.drop (i + 1) := by
  rw [List.drop_eq_getElem_cons h]
  simp [List.getD_eq_getElem?_getD, List.getElem?_eq_getElem h]

/-! ### split, atom, condition -/
theorem cutP_is (s : ByteArray) : (cutP s).2.2 = decide (0 ≤ gtAt s) := by
  unfold cutP
  split
  · rename_i h; simp [h]
  · rename_i h; simp [h]
/-! ### Valid -/
theorem getD_mem' {α : Type} (d : α) (xs : List α) (k : Nat) (h : k < xs.length) : xs.getD k d ∈ xs := by
  rw [List.getD_eq_getElem?_getD, List.getElem?_eq_getElem h]
  exact List.getElem_mem h
/-! ### Sorted -/
def tailS (n : Nat) (sel : List Int) (i : Nat) : List Int := (((List.range n).map (fun k : Nat => (k : Int))).drop i).filter (fun x => decide (x ∈ sel))
/-! ### less, chosen -/
end Go.Proofs.Ytjagffomohbioaa.L

/- Plain laws: the reference's has, Follows, Fine, without. -/
set_option linter.unusedVariables false
set_option linter.unusedSimpArgs false
namespace Go.Proofs.Ytjagffomohbioaa.L
open Go.RowKit Go.Proofs.YtjagffomohbioaaW.PrintWords Go.Proofs.YtjagffomohbioaaW.PrintLast Go.Proofs.YtjagffomohbioaaW.PrintMore

def okOut (must out : List ByteArray) : Prop := out.Nodup ∧ ∀ x, x ∈ out → x ∈ must.map candOf
def nextF (out : List ByteArray) (s : ByteArray) : List ByteArray := if (cutP s).2.2 = true then (if memB (cutP s).1 out = true then (if memB (cutP s).2.1 out = true then out else out ++ [(cutP s).2.1]) else out) else (if memB (cutP s).1 out = true then out else out ++ [(cutP s).1])
theorem roundF_next (out : List ByteArray) (s : ByteArray) (r : List ByteArray) : roundF out (s :: r) = roundF (nextF out s) r := by
  have e0 : roundF out (s :: r) = if (cutP s).2.2 = true then roundF (if memB (cutP s).1 out = true then (if memB (cutP s).2.1 out = true then out else out ++ [(cutP s).2.1]) else out) r else roundF (if memB (cutP s).1 out = true then out else out ++ [(cutP s).1]) r := rfl
  rw [e0]
  unfold nextF
  split <;> rfl
/-- The indices of clauses in a selection. -/
def inR (n : Nat) (sel : List Int) : List Int := sel.filter (fun i => decide (0 ≤ i) && decide (i < (n : Int)))
theorem inR_cons (n : Nat) (x : Int) (r : List Int) : inR n (x :: r) = if 0 ≤ x ∧ x < (n : Int) then x :: inR n r else inR n r := by
  unfold inR
  rw [List.filter_cons]
  by_cases h : 0 ≤ x ∧ x < (n : Int)
  · rw [if_pos h, if_pos (by simp [h.1, h.2])]
  · rw [if_neg h, if_neg (by simp; omega)]
theorem mustOf_cons (l : List S36) (x : Int) (r : List Int) : mustOf l (x :: r) = (rd_T36 l x).f1 ++ mustOf l r := by simp [mustOf]
/-- The reference's Fine. -/
def refFine (l : List S36) (sel : List Int) : Bool := if validP l = true then fineB l (inR l.length sel) else false
end Go.Proofs.Ytjagffomohbioaa.L

/- Walk: spliceryref41.Core: clauses all of whose strings fit, at most a million indices. -/
set_option linter.unusedVariables false
set_option linter.unusedSimpArgs false
namespace Go.Proofs.Ytjagffomohbioaa.L
open Go.RowKit Go.Proofs.YtjagffomohbioaaW.PrintWords Go.Proofs.YtjagffomohbioaaW.PrintLast Go.Proofs.YtjagffomohbioaaW.PrintMore

def spliceryref41_Core.f (k : Nat) (l0 : List S36) (l1 : List Int) : Option (List Int) := if l0.all boundC = true ∧ l0.length ≤ 1000000 ∧ l1.length ≤ 1000000 then some (coreP l0 l1) else none
theorem inR_self {n : Nat} {x : List Int} (h : ∀ i, i ∈ x → 0 ≤ i ∧ i < (n : Int)) : inR n x = x := by
  unfold inR
  refine List.filter_eq_self.2 fun i hi => ?_
  have := h i hi
  simp [this.1, this.2]
def foldC (P : List Int → Bool) (all : List Int) (b : Nat) : List Int := (List.range b).foldl (fun best b => if (lessB (chosenP all b) best && P (chosenP all b)) = true then chosenP all b else best) all
theorem foldC_succ (P : List Int → Bool) (all : List Int) (b : Nat) : foldC P all (b + 1) = if (lessB (chosenP all b) (foldC P all b) && P (chosenP all b)) = true then chosenP all b else foldC P all b := by
  unfold foldC
  rw [List.range_succ, List.foldl_append]
  rfl
end Go.Proofs.Ytjagffomohbioaa.L
