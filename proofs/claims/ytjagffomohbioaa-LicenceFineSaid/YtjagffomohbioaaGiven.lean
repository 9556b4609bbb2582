/- The printed reference's plain laws and the walk of its Core; conditions: strings that fit, at most a million indices. -/
import Derived.Test.YtjagffomohbioaaHBase
import Derived.Test.YtjagffomohbioaaLx8
import Derived.Test.YtjagffomohbioaaLx9
import Derived.Test.YtjagffomohbioaaLx10
import Derived.Test.YtjagffomohbioaaLx11
import Derived.Test.YtjagffomohbioaaHWalk
import Derived.Deep.LoopGhost
/- Plain laws of printed functions with rounds: from some number of rounds on they tell the same. -/
set_option linter.unusedVariables false
set_option linter.unusedSimpArgs false
namespace Go.Proofs.Ytjagffomohbioaa.L
open Go.RowKit Go.Proofs.YtjagffomohbioaaW.PrintWords Go.Proofs.YtjagffomohbioaaW.PrintLast Go.Proofs.YtjagffomohbioaaW.PrintMore

/-- From some number of rounds on. -/
def Ev {α : Type} (f : Nat → Option α) (r : α) : Prop := ∃ k0, ∀ k, k0 ≤ k → f k = some r
theorem Ev.const {α : Type} {o : Option α} {r : α} (h : o = some r) : Ev (fun _ => o) r := ⟨0, fun _ _ => h⟩
theorem Ev.succ {α : Type} {f g : Nat → Option α} {r : α} (h : ∀ k, f (k + 1) = g k) (hg : Ev g r) : Ev f r := by
  obtain ⟨k0, hk⟩ := hg
  refine ⟨k0 + 1, fun k hk0 => ?_⟩
  obtain ⟨j, rfl⟩ : ∃ j, k = j + 1 := ⟨k - 1, by omega⟩
  rw [h j]
  exact hk j (by omega)
theorem Ev.bind {α β : Type} {f : Nat → Option α} {g : Nat → α → Option β} {a : α} {r : β} (hf : Ev f a) (hg : Ev (fun k => g k a) r) : Ev (fun k => (f k).bind (g k)) r := by
  obtain ⟨k0, h0⟩ := hf
  obtain ⟨k1, h1⟩ := hg
  refine ⟨max k0 k1, fun k hk => ?_⟩
  show (f k).bind (g k) = some r
  rw [h0 k (by omega)]
  exact h1 k (by omega)
theorem Ev.congr {α : Type} {f g : Nat → Option α} {r : α} (h : ∀ k, f k = g k) (hg : Ev g r) : Ev f r := by
  obtain ⟨k0, hk⟩ := hg
  exact ⟨k0, fun k hk0 => (h k).trans (hk k hk0)⟩
theorem Ev.get {α : Type} {f : Nat → Option α} {r : α} (h : Ev f r) : ∃ k, f k = some r := by
  obtain ⟨k0, hk⟩ := h
  exact ⟨k0, hk k0 (Nat.le_refl _)⟩
theorem w64 {n : Int} (h0 : -9223372036854775808 ≤ n) (h1 : n < 9223372036854775808) : wrap64 n = n := by unfold wrap64; omega

theorem drop_cons {α : Type} (d : α) (l : List α) (i : Nat) (h : i < l.length) : l.drop i = l.getD i d :: l.drop (i + 1) := by
  rw [List.drop_eq_getElem_cons h]
  simp [List.getD_eq_getElem?_getD, List.getElem?_eq_getElem h]

/-! ### split, atom, condition -/
theorem bt_list (s : ByteArray) (i : Nat) (h : i < s.size) : bt s (i : Int) = 62 ↔ s.data.toList[i]? = some 62 := by
  have h' : i < s.data.toList.length := by simpa using h
  rw [List.getElem?_eq_getElem h']
  unfold bt
  rw [dif_pos (show (i : Int).toNat < s.size by simpa using h)]
  have hd : s.data.toList[i] = s[i]'h := by rw [Array.getElem_toList]; rfl
  rw [hd]
  constructor
  · intro e
    have e1 : (((s[i]'h).toNat : Nat) : Int) = 62 := by simpa using e
    have e2 : (s[i]'h).toNat = (62 : UInt8).toNat := by show _ = 62; omega
    exact congrArg some (UInt8.toNat_inj.1 e2)
  · intro e
    have : s[i]'h = (62 : UInt8) := Option.some.inj e
    simp only [Int.toNat_natCast]
    rw [this]
    rfl
theorem gtAt_first (s : ByteArray) (i : Nat) (h : i < s.size) (hi : bt s (i : Int) = 62) (hj : ∀ j : Nat, j < i → bt s (j : Int) ≠ 62) : gtAt s = (i : Int) := by
  have hge := Lib.indexByte_ge s.data.toList 62
  have hi' := (bt_list s i h).1 hi
  by_cases h0 : 0 ≤ gtAt s
  · obtain ⟨o, ho⟩ : ∃ o : Nat, gtAt s = (o : Int) := ⟨(gtAt s).toNat, by omega⟩
    obtain ⟨h1, h2⟩ := Lib.indexByte_some (l := s.data.toList) (c := 62) (o := o) ho
    have hlt : o < s.size := by simpa using (List.getElem?_eq_some_iff.1 h1).1
    rcases Nat.lt_trichotomy o i with h3 | h3 | h3
    · exact absurd ((bt_list s o hlt).2 h1) (hj o h3)
    · rw [ho, h3]
    · exact absurd hi' (h2 i h3)
  · have hm : gtAt s = -1 := by unfold gtAt at *; omega
    exact absurd hi' (Lib.indexByte_none (l := s.data.toList) (c := 62) hm i)
theorem gtAt_none (s : ByteArray) (hj : ∀ j : Nat, j < s.size → bt s (j : Int) ≠ 62) : ¬ 0 ≤ gtAt s := by
  intro h0
  obtain ⟨o, ho⟩ : ∃ o : Nat, gtAt s = (o : Int) := ⟨(gtAt s).toNat, by omega⟩
  obtain ⟨h1, h2⟩ := Lib.indexByte_some (l := s.data.toList) (c := 62) (o := o) ho
  have hlt : o < s.size := by simpa using (List.getElem?_eq_some_iff.1 h1).1
  exact hj o hlt ((bt_list s o hlt).2 h1)
theorem split_loop (s : ByteArray) (hs : s.size ≤ 9223372036854775807) : ∀ n i : Nat, i + n = s.size → (∀ j : Nat, j < i → bt s (j : Int) ≠ 62) → Ev (fun k => spliceryref41_split.l0 k s (i : Int)) (cutP s)
  | 0, i, hi, hj => by
    refine Ev.succ (g := fun _ => some (cutP s)) (fun k => ?_) (Ev.const rfl)
    have := gtAt_none s (fun j h => hj j (by omega))
    rw [spliceryref41_split.l0, if_neg (by omega)]
    unfold cutP
    rw [if_neg this]
  | n + 1, i, hi, hj => by
    by_cases e : bt s (i : Int) = 62
    · refine Ev.succ (g := fun _ => some (cutP s)) (fun k => ?_) (Ev.const rfl)
      have h1 := gtAt_first s i (by omega) e hj
      rw [spliceryref41_split.l0, if_pos (by omega), if_pos (by omega), if_pos e, if_pos (by omega), w64 (by omega) (by omega), if_pos (by omega), if_pos (by omega)]
      unfold cutP
      rw [h1, if_pos (by omega)]
      rfl
    · refine Ev.succ (fun k => ?_) (split_loop s hs n (i + 1) (by omega) (fun j hj' => ?_))
      · rw [spliceryref41_split.l0, if_pos (by omega), if_pos (by omega), if_neg e, w64 (by omega) (by omega)]
        rfl
      · by_cases e2 : j = i
        · subst e2; exact e
        · exact hj j (by omega)
theorem split_ev (s : ByteArray) (hs : s.size ≤ 9223372036854775807) : Ev (fun k => spliceryref41_split.f k s) (cutP s) := split_loop s hs s.size 0 (by omega) (fun j hj => absurd hj (Nat.not_lt_zero _))
theorem cutP_is (s : ByteArray) : (cutP s).2.2 = decide (0 ≤ gtAt s) := by
  unfold cutP
  split
  · rename_i h; simp [h]
  · rename_i h; simp [h]
theorem atom_ev (s : ByteArray) (hs : s.size ≤ 9223372036854775807) : Ev (fun k => spliceryref41_atom.f k s) (atomP s) := by
  refine Ev.bind (split_ev s hs) (Ev.const ?_)
  rw [cutP_is]
  unfold atomP
  by_cases h1 : 1 ≤ s.size
  · rw [if_pos (by omega)]
    by_cases h2 : s.size ≤ 16
    · rw [if_pos (by omega)]; simp [h1, h2]
    · rw [if_neg (by omega)]; simp [h2]
  · rw [if_neg (by omega)]; simp [h1]
theorem condition_ev (s : ByteArray) (hs : s.size ≤ 9223372036854775807) : Ev (fun k => spliceryref41_condition.f k s) (condP s) := by
  have hc := cutP_snd_size s
  refine Ev.bind (split_ev s hs) (Ev.bind (atom_ev s hs) ?_)
  unfold condP
  cases h1 : atomP s with
  | true => exact Ev.const rfl
  | false =>
    cases h2 : (cutP s).2.2 with
    | false => exact Ev.const rfl
    | true =>
      refine Ev.congr (fun k => by rw [if_neg Bool.false_ne_true, if_pos rfl]) (Ev.bind (atom_ev _ (by omega)) ?_)
      cases h3 : atomP (cutP s).1 with
      | false => exact Ev.const rfl
      | true =>
        refine Ev.congr (fun k => by rw [if_pos rfl]) (Ev.bind (atom_ev _ (by omega)) (Ev.const ?_))
        cases atomP (cutP s).2.1 <;> rfl

/-! ### Valid -/
theorem boundC_at {c : S36} (h : boundC c = true) : (∀ s, s ∈ c.f1 → s.size ≤ 9223372036854775807) ∧ ∀ s, s ∈ c.f2 → s.size ≤ 9223372036854775807 := by
  unfold boundC at h
  simp only [Bool.and_eq_true, List.all_eq_true, decide_eq_true_eq] at h
  exact h
theorem getD_mem' {α : Type} (d : α) (xs : List α) (k : Nat) (h : k < xs.length) : xs.getD k d ∈ xs := by
  rw [List.getD_eq_getElem?_getD, List.getElem?_eq_getElem h]
  exact List.getElem_mem h
theorem valid_l2 (l : List S36) (hl : l.length ≤ 1000000) (i : Nat) (hi : i < l.length) (r : Bool) (hb : boundC (rd_T36 l i) = true) (hlen : (rd_T36 l i).f2.length ≤ 1000000) (hr : Ev (fun k => spliceryref41_Valid.l0 k l ((i + 1 : Nat) : Int)) r) :
    ∀ n j : Nat, j + n = (rd_T36 l i).f2.length → Ev (fun k => spliceryref41_Valid.l2 k l (i : Int) (j : Int)) (!((rd_T36 l i).f2.drop j).any (fun s => !atomP s) && r)
  | 0, j, hj => by
    refine Ev.succ (fun k => ?_) (Ev.congr (fun k => rfl) (g := fun k => spliceryref41_Valid.l0 k l ((i + 1 : Nat) : Int)) ?_)
    · rw [spliceryref41_Valid.l2, if_pos (by omega), if_pos (by omega), if_neg (by omega), w64 (by omega) (by omega)]
      rfl
    · rw [List.drop_eq_nil_of_le (by omega)]
      simpa using hr
  | n + 1, j, hj => by
    have hs := (boundC_at hb).2 _ (getD_mem' ByteArray.empty _ j (by omega))
    rw [drop_cons ByteArray.empty _ j (by omega)]
    refine Ev.succ (g := fun k => (spliceryref41_atom.f k ((rd_T36 l i).f2.getD j ByteArray.empty)).bind fun t489 => (if t489 = true then (spliceryref41_Valid.l2 k l (i : Int) ((j + 1 : Nat) : Int)) else (some false))) (fun k => ?_) ?_
    · rw [spliceryref41_Valid.l2, if_pos (by omega), if_pos (by omega), if_pos (by omega), if_pos (by omega), w64 (by omega) (by omega)]
      rfl
    · refine Ev.bind (atom_ev _ hs) ?_
      rw [List.any_cons]
      cases h : atomP ((rd_T36 l i).f2.getD j ByteArray.empty) with
      | false => exact Ev.const rfl
      | true =>
        refine Ev.congr (fun k => by rw [if_pos rfl]) ?_
        simpa using valid_l2 l hl i hi r hb hlen hr n (j + 1) (by omega)
theorem valid_l1 (l : List S36) (hl : l.length ≤ 1000000) (i : Nat) (hi : i < l.length) (r : Bool) (hb : boundC (rd_T36 l i) = true) (hlen : (rd_T36 l i).f1.length ≤ 1000000) (hlen2 : (rd_T36 l i).f2.length ≤ 1000000) (hr : Ev (fun k => spliceryref41_Valid.l0 k l ((i + 1 : Nat) : Int)) r) :
    ∀ n j : Nat, j + n = (rd_T36 l i).f1.length → Ev (fun k => spliceryref41_Valid.l1 k l (i : Int) (j : Int)) (!((rd_T36 l i).f1.drop j).any (fun s => !condP s) && (!(rd_T36 l i).f2.any (fun s => !atomP s) && r))
  | 0, j, hj => by
    refine Ev.succ (fun k => ?_) (Ev.congr (fun k => rfl) (g := fun k => spliceryref41_Valid.l2 k l (i : Int) ((0 : Nat) : Int)) ?_)
    · rw [spliceryref41_Valid.l1, if_pos (by omega), if_pos (by omega), if_neg (by omega)]
      rfl
    · rw [List.drop_eq_nil_of_le (by omega)]
      simpa using valid_l2 l hl i hi r hb hlen2 hr (rd_T36 l i).f2.length 0 (by omega)
  | n + 1, j, hj => by
    have hs := (boundC_at hb).1 _ (getD_mem' ByteArray.empty _ j (by omega))
    rw [drop_cons ByteArray.empty _ j (by omega)]
    refine Ev.succ (g := fun k => (spliceryref41_condition.f k ((rd_T36 l i).f1.getD j ByteArray.empty)).bind fun t489 => (if t489 = true then (spliceryref41_Valid.l1 k l (i : Int) ((j + 1 : Nat) : Int)) else (some false))) (fun k => ?_) ?_
    · rw [spliceryref41_Valid.l1, if_pos (by omega), if_pos (by omega), if_pos (by omega), if_pos (by omega), w64 (by omega) (by omega)]
      rfl
    · refine Ev.bind (condition_ev _ hs) ?_
      rw [List.any_cons]
      cases h : condP ((rd_T36 l i).f1.getD j ByteArray.empty) with
      | false => exact Ev.const rfl
      | true =>
        refine Ev.congr (fun k => by rw [if_pos rfl]) ?_
        simpa using valid_l1 l hl i hi r hb hlen hlen2 hr n (j + 1) (by omega)
theorem valid_l0 (l : List S36) (hl : l.length ≤ 1000000) (hb : l.all boundC = true) : ∀ n i : Nat, i + n = l.length → Ev (fun k => spliceryref41_Valid.l0 k l (i : Int)) (!(l.drop i).any badP)
  | 0, i, hi => by
    refine Ev.succ (g := fun _ => some _) (fun k => ?_) (Ev.const rfl)
    rw [spliceryref41_Valid.l0, if_neg (by omega), List.drop_eq_nil_of_le (by omega)]
    rfl
  | n + 1, i, hi => by
    have ih := valid_l0 l hl hb n (i + 1) (by omega)
    have hlt : i < l.length := by omega
    have hbc : boundC (rd_T36 l i) = true := List.all_eq_true.1 hb _ (getD_mem' _ l i hlt)
    have e1 : l.drop i = rd_T36 l i :: l.drop (i + 1) := drop_cons _ l i hlt
    rw [e1, List.any_cons]
    have hbad : badP (rd_T36 l i) = (decide (16 < (rd_T36 l i).f0.size) || (decide (8 < (rd_T36 l i).f1.length) || (decide (8 < (rd_T36 l i).f2.length) || ((rd_T36 l i).f1.any (fun s => !condP s) || (rd_T36 l i).f2.any (fun s => !atomP s))))) := rfl
    have tru : Ev (fun k => spliceryref41_Valid.j1 k l (i : Int) true) false := Ev.succ (g := fun _ => some false) (fun k => by rw [spliceryref41_Valid.j1, if_pos rfl]) (Ev.const rfl)
    by_cases h1 : 16 < (rd_T36 l i).f0.size
    · refine Ev.succ (g := fun k => spliceryref41_Valid.j1 k l (i : Int) true) (fun k => ?_) ?_
      · rw [spliceryref41_Valid.l0, if_pos (by omega), if_pos (by omega), if_pos (by omega)]
      · rw [hbad]
        simpa [h1] using tru
    · by_cases h2 : 8 < (rd_T36 l i).f1.length
      · refine Ev.succ (g := fun k => spliceryref41_Valid.j1 k l (i : Int) true) (fun k => ?_) ?_
        · rw [spliceryref41_Valid.l0, if_pos (by omega), if_pos (by omega), if_neg (by omega), if_pos (by omega)]
        · rw [hbad]
          simpa [h2] using tru
      · by_cases h3 : 8 < (rd_T36 l i).f2.length
        · refine Ev.succ (g := fun k => spliceryref41_Valid.j1 k l (i : Int) true) (fun k => ?_) ?_
          · rw [spliceryref41_Valid.l0, if_pos (by omega), if_pos (by omega), if_neg (by omega), if_neg (by omega), decide_eq_true (by omega)]
          · rw [hbad]
            simpa [h3] using tru
        · refine Ev.succ (g := fun k => spliceryref41_Valid.j1 k l (i : Int) false) (fun k => ?_) ?_
          · rw [spliceryref41_Valid.l0, if_pos (by omega), if_pos (by omega), if_neg (by omega), if_neg (by omega), decide_eq_false (by omega)]
          · refine Ev.succ (g := fun k => spliceryref41_Valid.l1 k l (i : Int) ((0 : Nat) : Int)) (fun k => by rw [spliceryref41_Valid.j1, if_neg Bool.false_ne_true]; rfl) ?_
            have := valid_l1 l hl i hlt _ hbc (by omega) (by omega) ih (rd_T36 l i).f1.length 0 (by omega)
            rw [hbad]
            simpa [h1, h2, h3, Bool.and_assoc] using this
theorem valid_ev (l : List S36) (hb : l.all boundC = true) : Ev (fun k => spliceryref41_Valid.f k l) (validP l) := by
  unfold validP
  by_cases h : l.length ≤ 32
  · refine Ev.congr (fun k => ?_) (g := fun k => spliceryref41_Valid.l0 k l ((0 : Nat) : Int)) ?_
    · unfold spliceryref41_Valid.f
      rw [if_neg (by omega)]
      rfl
    · simpa [h] using valid_l0 l (by omega) hb l.length 0 (by omega)
  · refine Ev.congr (fun k => ?_) (g := fun _ => some false) ?_
    · unfold spliceryref41_Valid.f
      rw [if_pos (by omega)]
    · exact Ev.const (by simp [h])

/-! ### Sorted -/
def tailS (n : Nat) (sel : List Int) (i : Nat) : List Int := (((List.range n).map (fun k : Nat => (k : Int))).drop i).filter (fun x => decide (x ∈ sel))
/-! ### less, chosen -/
end Go.Proofs.Ytjagffomohbioaa.L

/- Plain laws: the reference's has, Follows, Fine, without. -/
set_option linter.unusedVariables false
set_option linter.unusedSimpArgs false
namespace Go.Proofs.Ytjagffomohbioaa.L
open Go.RowKit Go.Proofs.YtjagffomohbioaaW.PrintWords Go.Proofs.YtjagffomohbioaaW.PrintLast Go.Proofs.YtjagffomohbioaaW.PrintMore

theorem bytes_eq {a b : ByteArray} : a.toList = b.toList ↔ a = b := by
  rw [ByteArray.toList_eq, ByteArray.toList_eq]
  constructor
  · intro h
    have := Array.toList_inj.1 h
    cases a; cases b; simp at this; simp [this]
  · rintro rfl; rfl
theorem has_l0 (l : List ByteArray) (a : ByteArray) (hl : l.length ≤ 100000000) : ∀ n i : Nat, i + n = l.length → Ev (fun k => spliceryref41_has.l0 k l a (i : Int)) (memB a (l.drop i))
  | 0, i, hi => by
    refine Ev.succ (g := fun _ => some _) (fun k => ?_) (Ev.const rfl)
    rw [spliceryref41_has.l0, if_neg (by omega), List.drop_eq_nil_of_le (by omega)]
    rfl
  | n + 1, i, hi => by
    rw [drop_cons ByteArray.empty _ i (by omega)]
    by_cases e : l.getD i ByteArray.empty = a
    · have e' : (rdOf ByteArray.empty l (i : Int)).toList = a.toList := bytes_eq.2 e
      have hm : memB a (l.getD i ByteArray.empty :: l.drop (i + 1)) = true := by rw [memB_iff, e]; exact List.mem_cons_self
      rw [hm]
      refine Ev.succ (g := fun _ => some true) (fun k => ?_) (Ev.const rfl)
      rw [spliceryref41_has.l0, if_pos (by omega), if_pos (by omega), if_pos e']
    · have e' : ¬ (rdOf ByteArray.empty l (i : Int)).toList = a.toList := fun h => e (bytes_eq.1 h)
      have hm : memB a (l.getD i ByteArray.empty :: l.drop (i + 1)) = memB a (l.drop (i + 1)) := by unfold memB; rw [List.any_cons, decide_eq_false e]; rfl
      rw [hm]
      refine Ev.succ (fun k => ?_) (has_l0 l a hl n (i + 1) (by omega))
      rw [spliceryref41_has.l0, if_pos (by omega), if_pos (by omega), if_neg e', w64 (by omega) (by omega)]
      rfl
theorem has_ev (l : List ByteArray) (a : ByteArray) (hl : l.length ≤ 100000000) : Ev (fun k => spliceryref41_has.f k l a) (memB a l) := by
  have := has_l0 l a hl l.length 0 (by omega)
  simpa [spliceryref41_has.f] using this

def okOut (must out : List ByteArray) : Prop := out.Nodup ∧ ∀ x, x ∈ out → x ∈ must.map candOf
theorem okOut.len {must out : List ByteArray} (h : okOut must out) : out.length ≤ must.length := by
  have := nodup_le out (must.map candOf) h.1 h.2
  simpa using this
theorem okOut.add {must out : List ByteArray} (h : okOut must out) {x : ByteArray} (hx : x ∉ out) (hm : x ∈ must.map candOf) : okOut must (out ++ [x]) := by
  refine ⟨?_, fun y hy => ?_⟩
  · rw [List.nodup_append]
    refine ⟨h.1, by simp, fun a ha b hb => ?_⟩
    obtain rfl : b = x := by simpa using hb
    rintro rfl
    exact hx ha
  · rcases List.mem_append.1 hy with hy | hy
    · exact h.2 y hy
    · obtain rfl : y = x := by simpa using hy
      exact hm
def nextF (out : List ByteArray) (s : ByteArray) : List ByteArray := if (cutP s).2.2 = true then (if memB (cutP s).1 out = true then (if memB (cutP s).2.1 out = true then out else out ++ [(cutP s).2.1]) else out) else (if memB (cutP s).1 out = true then out else out ++ [(cutP s).1])
theorem roundF_next (out : List ByteArray) (s : ByteArray) (r : List ByteArray) : roundF out (s :: r) = roundF (nextF out s) r := by
  have e0 : roundF out (s :: r) = if (cutP s).2.2 = true then roundF (if memB (cutP s).1 out = true then (if memB (cutP s).2.1 out = true then out else out ++ [(cutP s).2.1]) else out) r else roundF (if memB (cutP s).1 out = true then out else out ++ [(cutP s).1]) r := rfl
  rw [e0]
  unfold nextF
  split <;> rfl
theorem okOut.next {must out : List ByteArray} (h : okOut must out) {s : ByteArray} (hs : s ∈ must) : okOut must (nextF out s) := by
  have hc : candOf s ∈ must.map candOf := List.mem_map.2 ⟨s, hs, rfl⟩
  unfold nextF
  cases e : (cutP s).2.2 with
  | true =>
    have hc' : candOf s = (cutP s).2.1 := by unfold candOf; rw [e, if_pos rfl]
    rw [if_pos rfl]
    split
    · split
      · exact h
      · rename_i h2
        exact h.add (fun hx => h2 ((memB_iff _ _).2 hx)) (hc' ▸ hc)
    · exact h
  | false =>
    have hc' : candOf s = (cutP s).1 := by unfold candOf; rw [e, if_neg Bool.false_ne_true]
    rw [if_neg Bool.false_ne_true]
    split
    · exact h
    · rename_i h2
      exact h.add (fun hx => h2 ((memB_iff _ _).2 hx)) (hc' ▸ hc)
theorem follows_l2 (must : List ByteArray) (hm : must.length ≤ 100000000) (hb : ∀ s, s ∈ must → s.size ≤ 9223372036854775807) (r : Nat) (hr : r ≤ must.length) (res : List ByteArray → List ByteArray)
    (hl1 : ∀ out, okOut must out → Ev (fun k => spliceryref41_Follows.l1 k must out ((r + 1 : Nat) : Int)) (res out)) :
    ∀ (n j : Nat) (out : List ByteArray), j + n = must.length → okOut must out → Ev (fun k => spliceryref41_Follows.l2 k must out (r : Int) (j : Int)) (res (roundF out (must.drop j)))
  | 0, j, out, hj, ho => by
    rw [List.drop_eq_nil_of_le (by omega)]
    refine Ev.succ (fun k => ?_) (hl1 out ho)
    rw [spliceryref41_Follows.l2, if_neg (by omega), w64 (by omega) (by omega)]
    rfl
  | n + 1, j, out, hj, ho => by
    rw [drop_cons ByteArray.empty _ j (by omega), roundF_next]
    have hs : must.getD j ByteArray.empty ∈ must := getD_mem' _ _ _ (by omega)
    have ih := fun out' ho' => follows_l2 must hm hb r hr res hl1 n (j + 1) out' (by omega) ho'
    have hsz := hb _ hs
    have hsp := split_ev _ hsz
    have hw : wrap64 ((j : Int) + 1) = ((j + 1 : Nat) : Int) := w64 (by omega) (by omega)
    have hnx := ho.next hs
    have hol := ho.len
    refine Ev.succ (g := fun k => (spliceryref41_split.f k (must.getD j ByteArray.empty)).bind fun bt499 => (if bt499.2.2 = true then ((spliceryref41_has.f k out bt499.1).bind fun t502 => (if t502 = true then ((spliceryref41_has.f k out bt499.2.1).bind fun t503 => (spliceryref41_Follows.j3 k must out (r : Int) (j : Int) bt499.1 bt499.2.1 bt499.2.2 (!t503))) else (spliceryref41_Follows.j3 k must out (r : Int) (j : Int) bt499.1 bt499.2.1 bt499.2.2 false))) else (spliceryref41_Follows.j3 k must out (r : Int) (j : Int) bt499.1 bt499.2.1 bt499.2.2 false))) (fun k => ?_) ?_
    · rw [spliceryref41_Follows.l2, if_pos (by omega), if_pos (by omega)]
      rfl
    · refine Ev.bind hsp ?_
      generalize must.getD j ByteArray.empty = s at *
      cases e : (cutP s).2.2 with
      | true =>
        refine Ev.congr (fun k => by rw [if_pos rfl]) (Ev.bind (has_ev out _ (by omega)) ?_)
        have hn : nextF out s = if memB (cutP s).1 out = true then (if memB (cutP s).2.1 out = true then out else out ++ [(cutP s).2.1]) else out := by unfold nextF; rw [e, if_pos rfl]
        have keep : Ev (fun k => spliceryref41_Follows.j3 k must out (r : Int) (j : Int) (cutP s).1 (cutP s).2.1 true false) (res (roundF out (must.drop (j + 1)))) := by
          refine Ev.succ (fun k => ?_) (ih out ho)
          rw [spliceryref41_Follows.j3, if_neg Bool.false_ne_true, if_pos rfl, hw]
        cases h1 : memB (cutP s).1 out with
        | false =>
          refine Ev.congr (fun k => by rw [if_neg Bool.false_ne_true]) ?_
          rw [hn, h1, if_neg Bool.false_ne_true]
          exact keep
        | true =>
          refine Ev.congr (fun k => by rw [if_pos rfl]) (Ev.bind (has_ev out _ (by omega)) ?_)
          cases h2 : memB (cutP s).2.1 out with
          | true =>
            rw [hn, h1, if_pos rfl, h2, if_pos rfl]
            exact keep
          | false =>
            rw [hn, h1, if_pos rfl, h2, if_neg Bool.false_ne_true] at hnx ⊢
            refine Ev.succ (fun k => ?_) (ih _ hnx)
            rw [spliceryref41_Follows.j3]
            simp only [Bool.not_false, if_true, Option.bind_some]
            rw [if_pos (by omega), hw]
      | false =>
        refine Ev.congr (fun k => by rw [if_neg Bool.false_ne_true]) ?_
        have hn : nextF out s = if memB (cutP s).1 out = true then out else out ++ [(cutP s).1] := by unfold nextF; rw [e, if_neg Bool.false_ne_true]
        refine Ev.succ (g := fun k => (spliceryref41_has.f k out (cutP s).1).bind fun t511 => (if t511 = true then (spliceryref41_Follows.l2 k must out (r : Int) (wrap64 ((j : Int) + 1))) else (if out.length < 8796093022208 then (spliceryref41_Follows.l2 k must (out ++ [(cutP s).1]) (r : Int) (wrap64 ((j : Int) + 1))) else (none)))) (fun k => ?_) ?_
        · rw [spliceryref41_Follows.j3, if_neg Bool.false_ne_true, if_neg Bool.false_ne_true]
        · refine Ev.bind (has_ev out _ (by omega)) ?_
          cases h1 : memB (cutP s).1 out with
          | true =>
            rw [hn, h1, if_pos rfl]
            refine Ev.congr (fun k => ?_) (ih out ho)
            show (if true = true then _ else _) = _
            rw [if_pos rfl, hw]
          | false =>
            rw [hn, h1, if_neg Bool.false_ne_true] at hnx ⊢
            refine Ev.congr (fun k => ?_) (ih _ hnx)
            show (if false = true then _ else _) = _
            rw [if_neg Bool.false_ne_true, if_pos (by omega), hw]
theorem okOut.round {must : List ByteArray} : ∀ (ms out : List ByteArray), (∀ s, s ∈ ms → s ∈ must) → okOut must out → okOut must (roundF out ms)
  | [], out, _, h => h
  | s :: r, out, hs, h => by
    rw [roundF_next]
    exact okOut.round r _ (fun t ht => hs t (List.mem_cons_of_mem _ ht)) (h.next (hs s List.mem_cons_self))
theorem follows_l1 (must : List ByteArray) (hm : must.length ≤ 100000000) (hb : ∀ s, s ∈ must → s.size ≤ 9223372036854775807) :
    ∀ (n r : Nat) (out : List ByteArray), r + n = must.length + 1 → okOut must out → Ev (fun k => spliceryref41_Follows.l1 k must out (r : Int)) (roundsF must n out)
  | 0, r, out, hr, ho => by
    refine Ev.succ (g := fun _ => some out) (fun k => ?_) (Ev.const rfl)
    rw [spliceryref41_Follows.l1, if_neg (by omega)]
  | n + 1, r, out, hr, ho => by
    have := follows_l2 must hm hb r (by omega) (fun out => roundsF must n out) (fun out' ho' => follows_l1 must hm hb n (r + 1) out' (by omega) ho') must.length 0 out (by omega) ho
    refine Ev.succ (g := fun k => spliceryref41_Follows.l2 k must out (r : Int) ((0 : Nat) : Int)) (fun k => ?_) ?_
    · rw [spliceryref41_Follows.l1, if_pos (by omega)]
      rfl
    · simpa [roundsF] using this
/-- The indices of clauses in a selection. -/
def inR (n : Nat) (sel : List Int) : List Int := sel.filter (fun i => decide (0 ≤ i) && decide (i < (n : Int)))
theorem inR_cons (n : Nat) (x : Int) (r : List Int) : inR n (x :: r) = if 0 ≤ x ∧ x < (n : Int) then x :: inR n r else inR n r := by
  unfold inR
  rw [List.filter_cons]
  by_cases h : 0 ≤ x ∧ x < (n : Int)
  · rw [if_pos h, if_pos (by simp [h.1, h.2])]
  · rw [if_neg h, if_neg (by simp; omega)]
theorem mustOf_cons (l : List S36) (x : Int) (r : List Int) : mustOf l (x :: r) = (rd_T36 l x).f1 ++ mustOf l r := by simp [mustOf]
theorem smallC_must {l : List S36} (h : ∀ c, c ∈ l → smallC c = true) (x : Int) (h0 : 0 ≤ x) (h1 : x < (l.length : Int)) : (rd_T36 l x).f1.length ≤ 8 ∧ (rd_T36 l x).f2.length ≤ 8 ∧ (∀ s, s ∈ (rd_T36 l x).f1 → s.size ≤ 64) ∧ ∀ s, s ∈ (rd_T36 l x).f2 → s.size ≤ 64 := by
  have hm : rd_T36 l x ∈ l := getD_mem' _ l x.toNat (by omega)
  have := h _ hm
  unfold smallC at this
  simp only [Bool.and_eq_true, List.all_eq_true, decide_eq_true_eq] at this
  exact this
theorem follows_l0 (l : List S36) (hl : l.length ≤ 1000000) (hsm : ∀ c, c ∈ l → smallC c = true) (sel : List Int) (hs : sel.length ≤ 1000000) :
    ∀ (n i : Nat) (acc : List ByteArray), i + n = sel.length → acc.length ≤ 8 * i → (∀ s, s ∈ acc → s.size ≤ 64) → Ev (fun k => spliceryref41_Follows.l0 k l sel acc (i : Int)) (folList (acc ++ mustOf l (inR l.length (sel.drop i))))
  | 0, i, acc, hi, ha, hsz => by
    have e : mustOf l (inR l.length (sel.drop i)) = [] := by rw [List.drop_eq_nil_of_le (by omega)]; rfl
    rw [e, List.append_nil]
    refine Ev.succ (fun k => ?_) (follows_l1 acc (by omega) (fun s h => Nat.le_trans (hsz s h) (by omega)) (acc.length + 1) 0 [] (by omega) ⟨by simp, by simp⟩)
    rw [spliceryref41_Follows.l0, if_neg (by omega)]
    rfl
  | n + 1, i, acc, hi, ha, hsz => by
    have hw : wrap64 ((i : Int) + 1) = ((i + 1 : Nat) : Int) := w64 (by omega) (by omega)
    rw [drop_cons 0 _ i (by omega), inR_cons]
    have hrd : sel.getD i 0 = rd sel (i : Int) := rfl
    rw [hrd]
    generalize hx : rd sel (i : Int) = x
    by_cases h0 : 0 ≤ x
    · by_cases h1 : x < (l.length : Int)
      · have hc := smallC_must hsm x h0 h1
        rw [if_pos ⟨h0, h1⟩, mustOf_cons, ← List.append_assoc]
        refine Ev.succ (fun k => ?_) (follows_l0 l hl hsm sel hs n (i + 1) (acc ++ (rd_T36 l x).f1) (by omega) (by rw [List.length_append]; omega) (fun s h => ?_))
        · rw [spliceryref41_Follows.l0, if_pos (by omega), if_pos (by omega), hx, if_pos (by omega), if_pos h1, if_pos h0, if_pos (by omega), hw]
        · rcases List.mem_append.1 h with h | h
          · exact hsz s h
          · exact hc.2.2.1 s h
      · rw [if_neg (by omega)]
        refine Ev.succ (fun k => ?_) (follows_l0 l hl hsm sel hs n (i + 1) acc (by omega) (by omega) hsz)
        rw [spliceryref41_Follows.l0, if_pos (by omega), if_pos (by omega), hx, if_pos (by omega), if_neg h1, hw]
    · rw [if_neg (by omega)]
      refine Ev.succ (fun k => ?_) (follows_l0 l hl hsm sel hs n (i + 1) acc (by omega) (by omega) hsz)
      rw [spliceryref41_Follows.l0, if_pos (by omega), if_pos (by omega), hx, if_neg (by omega), hw]
theorem follows_ev (l : List S36) (hl : l.length ≤ 1000000) (hsm : ∀ c, c ∈ l → smallC c = true) (sel : List Int) (hs : sel.length ≤ 1000000) : Ev (fun k => spliceryref41_Follows.f k l sel) (folList (mustOf l (inR l.length sel))) := by
  have := follows_l0 l hl hsm sel hs sel.length 0 [] (by omega) (by simp) (by simp)
  simpa [spliceryref41_Follows.f] using this

theorem fine_l1 (l : List S36) (hl : l.length ≤ 1000000) (sel : List Int) (hs : sel.length ≤ 1000000) (out : List ByteArray) (ho : out.length ≤ 100000000) (i : Nat) (hi : i < sel.length) (h0 : 0 ≤ rd sel (i : Int)) (h1 : rd sel (i : Int) < (l.length : Int))
    (h8 : (rd_T36 l (rd sel (i : Int))).f2.length ≤ 8) (r : Bool) (hr : Ev (fun k => spliceryref41_Fine.l0 k l sel out ((i + 1 : Nat) : Int)) r) :
    ∀ n j : Nat, j + n = (rd_T36 l (rd sel (i : Int))).f2.length → Ev (fun k => spliceryref41_Fine.l1 k l sel out (i : Int) (j : Int)) (!((rd_T36 l (rd sel (i : Int))).f2.drop j).any (fun s => memB s out) && r)
  | 0, j, hj => by
    rw [List.drop_eq_nil_of_le (by omega)]
    refine Ev.succ (fun k => ?_) (by simpa using hr)
    rw [spliceryref41_Fine.l1, if_pos (by omega), if_pos (by omega), if_pos h0, if_pos h1, if_neg (by omega), w64 (by omega) (by omega)]
    try rfl
  | n + 1, j, hj => by
    rw [drop_cons ByteArray.empty _ j (by omega), List.any_cons]
    refine Ev.succ (g := fun k => (spliceryref41_has.f k out ((rd_T36 l (rd sel (i : Int))).f2.getD j ByteArray.empty)).bind fun t526 => (if t526 = true then (some false) else (spliceryref41_Fine.l1 k l sel out (i : Int) ((j + 1 : Nat) : Int)))) (fun k => ?_) ?_
    · rw [spliceryref41_Fine.l1, if_pos (by omega), if_pos (by omega), if_pos h0, if_pos h1, if_pos (by omega), if_pos (by omega), w64 (by omega) (by omega)]
      rfl
    · refine Ev.bind (has_ev out _ ho) ?_
      cases h : memB ((rd_T36 l (rd sel (i : Int))).f2.getD j ByteArray.empty) out with
      | true => exact Ev.const rfl
      | false =>
        refine Ev.congr (fun k => by rw [if_neg Bool.false_ne_true]) ?_
        simpa using fine_l1 l hl sel hs out ho i hi h0 h1 h8 r hr n (j + 1) (by omega)
theorem fine_l0 (l : List S36) (hl : l.length ≤ 1000000) (hsm : ∀ c, c ∈ l → smallC c = true) (sel : List Int) (hs : sel.length ≤ 1000000) (out : List ByteArray) (ho : out.length ≤ 100000000) :
    ∀ n i : Nat, i + n = sel.length → Ev (fun k => spliceryref41_Fine.l0 k l sel out (i : Int)) (!(notOf l (inR l.length (sel.drop i))).any (fun s => memB s out))
  | 0, i, hi => by
    have e : notOf l (inR l.length (sel.drop i)) = [] := by rw [List.drop_eq_nil_of_le (by omega)]; rfl
    rw [e]
    refine Ev.succ (g := fun _ => some true) (fun k => ?_) (Ev.const rfl)
    rw [spliceryref41_Fine.l0, if_neg (by omega)]
  | n + 1, i, hi => by
    have ih := fine_l0 l hl hsm sel hs out ho n (i + 1) (by omega)
    have hw : wrap64 ((i : Int) + 1) = ((i + 1 : Nat) : Int) := w64 (by omega) (by omega)
    have tru : Ev (fun k => spliceryref41_Fine.j1 k l sel out (i : Int) true) (!(notOf l (inR l.length (sel.drop (i + 1)))).any (fun s => memB s out)) := by
      refine Ev.succ (fun k => ?_) ih
      rw [spliceryref41_Fine.j1, if_pos rfl, hw]
    rw [drop_cons 0 _ i (by omega), inR_cons]
    have hrd : sel.getD i 0 = rd sel (i : Int) := rfl
    rw [hrd]
    by_cases h0 : 0 ≤ rd sel (i : Int)
    · by_cases h1 : rd sel (i : Int) < (l.length : Int)
      · have hc := smallC_must hsm _ h0 h1
        rw [if_pos ⟨h0, h1⟩]
        refine Ev.succ (g := fun k => spliceryref41_Fine.j1 k l sel out (i : Int) false) (fun k => ?_) ?_
        · rw [spliceryref41_Fine.l0, if_pos (by omega), if_pos (by omega), if_neg (by omega), decide_eq_false (by omega)]
        · refine Ev.succ (g := fun k => spliceryref41_Fine.l1 k l sel out (i : Int) ((0 : Nat) : Int)) (fun k => by rw [spliceryref41_Fine.j1, if_neg Bool.false_ne_true]; rfl) ?_
          have := fine_l1 l hl sel hs out ho i (by omega) h0 h1 hc.2.1 _ ih (rd_T36 l (rd sel (i : Int))).f2.length 0 (by omega)
          have e2 : notOf l (rd sel (i : Int) :: inR l.length (sel.drop (i + 1))) = (rd_T36 l (rd sel (i : Int))).f2 ++ notOf l (inR l.length (sel.drop (i + 1))) := by simp [notOf]
          rw [e2, List.any_append, Bool.not_or]
          simpa using this
      · rw [if_neg (by omega)]
        refine Ev.succ (fun k => ?_) tru
        rw [spliceryref41_Fine.l0, if_pos (by omega), if_pos (by omega), if_neg (by omega), decide_eq_true (by omega)]
    · rw [if_neg (by omega)]
      refine Ev.succ (fun k => ?_) tru
      rw [spliceryref41_Fine.l0, if_pos (by omega), if_pos (by omega), if_pos (by omega)]
theorem fol_sub (must : List ByteArray) : okOut must (folList must) := by
  have : ∀ n out, okOut must out → okOut must (roundsF must n out) := by
    intro n
    induction n with
    | zero => exact fun out h => h
    | succ n ih => exact fun out h => ih _ (okOut.round must out (fun _ h => h) h)
  exact this _ _ ⟨by simp, by simp⟩
theorem must_len (l : List S36) (hsm : ∀ c, c ∈ l → smallC c = true) : ∀ sel : List Int, (mustOf l (inR l.length sel)).length ≤ 8 * sel.length
  | [] => by simp [mustOf, inR]
  | x :: r => by
    have ih := must_len l hsm r
    rw [inR_cons]
    by_cases h : 0 ≤ x ∧ x < (l.length : Int)
    · have := smallC_must hsm x h.1 h.2
      rw [if_pos h, mustOf_cons, List.length_append, List.length_cons]
      omega
    · rw [if_neg h, List.length_cons]
      omega
/-- The reference's Fine. -/
def refFine (l : List S36) (sel : List Int) : Bool := if validP l = true then fineB l (inR l.length sel) else false
theorem refFine_ev (l : List S36) (hb : l.all boundC = true) (sel : List Int) (hs : sel.length ≤ 1000000) : Ev (fun k => spliceryref41_Fine.f k l sel) (refFine l sel) := by
  refine Ev.bind (valid_ev l hb) ?_
  unfold refFine
  cases hv : validP l with
  | false => exact Ev.const rfl
  | true =>
    have hsm := fun c hc => small_of_valid hv c hc
    have hl := valid_len hv
    refine Ev.congr (fun k => by rw [if_pos rfl]) (Ev.bind (follows_ev l (by omega) hsm sel hs) ?_)
    rw [if_pos rfl]
    have h1 := (fol_sub (mustOf l (inR l.length sel))).len
    have h2 := must_len l hsm sel
    have := fine_l0 l (by omega) hsm sel hs (folList (mustOf l (inR l.length sel))) (by omega) sel.length 0 (by omega)
    unfold fineB
    simpa using this
end Go.Proofs.Ytjagffomohbioaa.L

/- Walk: spliceryref41.Core: clauses all of whose strings fit, at most a million indices. -/
set_option linter.unusedVariables false
set_option linter.unusedSimpArgs false
namespace Go.Proofs.Ytjagffomohbioaa.L
open Go.RowKit Go.Proofs.YtjagffomohbioaaW.PrintWords Go.Proofs.YtjagffomohbioaaW.PrintLast Go.Proofs.YtjagffomohbioaaW.PrintMore

def spliceryref41_Core.f (k : Nat) (l0 : List S36) (l1 : List Int) : Option (List Int) := if l0.all boundC = true ∧ l0.length ≤ 1000000 ∧ l1.length ≤ 1000000 then some (coreP l0 l1) else none
theorem inR_self {n : Nat} {x : List Int} (h : ∀ i, i ∈ x → 0 ≤ i ∧ i < (n : Int)) : inR n x = x := by
  unfold inR
  refine List.filter_eq_self.2 fun i hi => ?_
  have := h i hi
  simp [this.1, this.2]
theorem refFine_sub {l0 : List S36} {l1 x : List Int} (hv : validP l0 = true) (h : x.Sublist (sortedP l0 l1)) : refFine l0 x = fineB l0 x := by
  unfold refFine
  rw [if_pos hv, inR_self (fun i hi => by have := sortedP_mem l0 l1 i (h.subset hi); exact ⟨this.1, this.2.1⟩)]
def foldC (P : List Int → Bool) (all : List Int) (b : Nat) : List Int := (List.range b).foldl (fun best b => if (lessB (chosenP all b) best && P (chosenP all b)) = true then chosenP all b else best) all
theorem foldC_succ (P : List Int → Bool) (all : List Int) (b : Nat) : foldC P all (b + 1) = if (lessB (chosenP all b) (foldC P all b) && P (chosenP all b)) = true then chosenP all b else foldC P all b := by
  unfold foldC
  rw [List.range_succ, List.foldl_append]
  rfl
end Go.Proofs.Ytjagffomohbioaa.L
