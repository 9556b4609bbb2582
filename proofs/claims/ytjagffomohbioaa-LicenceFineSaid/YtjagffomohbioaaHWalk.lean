/- Walks of package licence and of the library functions it calls; conditions: strings that fit, at most a million indices. -/
import Derived.Test.YtjagffomohbioaaHBase
import Derived.Test.YtjagffomohbioaaShelf
import Derived.Shelf.RegionOpenPlain
import Derived.Laws.Strings3
import Derived.IntWalk
import Derived.Test.YtjagffomohbioaaLx0
import Derived.Lib.OwnBridge
import Derived.Sort.OwnSortedInts
import Derived.Lib.SliceRun
import Derived.Carry
import Derived.Lib.AppendZeros
import Derived.Lib.AppendZerosOnto
import Derived.Deep.LoopGhost
/- Walks: strings.Cut and strings.Contains at '>', strings of any length. -/
set_option linter.unusedVariables false
set_option linter.unusedSimpArgs false
namespace Go.Proofs.Ytjagffomohbioaa.L
open Go.RowKit Go.Proofs.YtjagffomohbioaaW.PrintWords Go.Proofs.YtjagffomohbioaaW.PrintLast Go.Proofs.YtjagffomohbioaaW.PrintMore

theorem gtAt_lt (s : ByteArray) (i : Nat) (h : gtAt s = (i : Int)) : i < s.size := by
 have := (Lib.indexByte_some (l := s.data.toList) (c := 62) (o := i) h).1
 have h2 := (List.getElem?_eq_some_iff.1 this).1
 simpa using h2
theorem gtAt_ge (s : ByteArray) : -1 ≤ gtAt s := Lib.indexByte_ge _ _

set_option maxHeartbeats 2000000 in
theorem cut61 (s : ByteArray) (w : World) (hs : s.size ≤ 9223372036854775807) : Calls Try.prog 61 #[.string s, .string ⟨#[62]⟩] w fun e w' => e = .returned (.tuple #[.string (cutP s).1, .string (cutP s).2.1, .bool (cutP s).2.2]) ∧ Drawn0 w w' := by
 have hge := gtAt_ge s
 by_cases h0 : 0 ≤ gtAt s
 ·obtain ⟨i, hi⟩ : ∃ i : Nat, gtAt s = (i : Int) := ⟨(gtAt s).toNat, by omega⟩
  have hlt := gtAt_lt s i hi
  have e1 : cutP s = (s.extract 0 i, s.extract (i + 1) s.size, true) := by unfold cutP; rw [if_pos h0, hi]; rfl
  rw [e1]
  have hcon := Try.stringslite_Index_one s 62
  rw [show Lib.indexByte s.data.toList 62 = (i : Int) from hi] at hcon
  clear hge h0 hi e1
  have c1 : (0 : Int) ≤ ↑i := by omega
  have c2 : (↑i : Int) ≤ ↑s.size := by omega
  have c3 : (0 : Int) ≤ ↑i + 1 := by omega
  have c4 : (↑i + 1 : Int) ≤ ↑s.size := by omega
  have c5 : IntKind.i64.wrap ((i : Int) + 1) = (i : Int) + 1 := IntWalk.i64_in _ (by omega)
  have HC := Aside0.mk hcon
  clear hcon
  go_enter Try.func61, Try.ntmps61
  go_wp2_with (go_at_call 67; refine (HC.out _).mono ?_; rintro e w' ⟨rfl, rfl⟩)
  go_region
  all_goals
   go_wp2
   go_ret3
   exact ⟨rfl, ⟨⟨1, rfl⟩⟩⟩
 ·have hm : gtAt s = -1 := by omega
  have e1 : cutP s = (s, ⟨#[]⟩, false) := by unfold cutP; rw [if_neg h0]
  rw [e1]
  have hcon := Try.stringslite_Index_one s 62
  rw [show Lib.indexByte s.data.toList 62 = -1 from hm] at hcon
  clear hge h0 hm e1
  have HC := Aside0.mk hcon
  clear hcon
  go_enter Try.func61, Try.ntmps61
  go_wp2_with (go_at_call 67; refine (HC.out _).mono ?_; rintro e w' ⟨rfl, rfl⟩)
  go_ret3
  exact ⟨rfl, Drawn0.refl _⟩

set_option maxHeartbeats 1000000 in
theorem strings_Cut.calls (a0 a1 r1 r2 : ByteArray) (r3 : Bool) (w : World) (h : strings_Cut.f a0 a1 = some (r1, r2, r3)) :
  Calls Try.prog 47 #[.string a0, .string a1] w fun e w' => e = .returned (.tuple #[.string r1, .string r2, .bool r3]) ∧ Drawn0 w w' := by
 unfold strings_Cut.f at h
 split at h
 ·rename_i e1
  obtain ⟨rfl, hs⟩ := e1
  simp only [Option.some.injEq] at h
  have hcon := cut61 a0 w hs
  clear hs
  rw [h] at hcon
  clear h
  go_enter Try.func47, Try.ntmps47
  go_wp2_with (go_at_call 61; refine hcon.mono ?_; rintro e w' ⟨rfl, hd⟩)
  go_ret3
  exact ⟨rfl, hd⟩
 ·cases h

theorem strings_Contains.calls (a0 a1 : ByteArray) (r : Bool) (w : World) (h : strings_Contains.f a0 a1 = some r) :
  Calls Try.prog 48 #[.string a0, .string a1] w fun e w' => e = .returned (.bool r) ∧ Drawn0 w w' := by
 unfold strings_Contains.f at h
 split at h
 ·rename_i e1
  subst e1
  simp only [Option.some.injEq] at h
  subst h
  exact (Try.strings_Contains_one a0 62 w).mono fun e w' ⟨he, hw⟩ => ⟨he, hw ▸ Drawn0.refl _⟩
 ·cases h
end Go.Proofs.Ytjagffomohbioaa.L

-- Written by a program of this session (patch_print.py over the kit's print) out of the translation. Not trusted: Lean checks it.
namespace Go.Proofs.Ytjagffomohbioaa.L
open Go.RowKit Go.Proofs.YtjagffomohbioaaW.PrintWords Go.Proofs.YtjagffomohbioaaW.PrintLast Go.Proofs.YtjagffomohbioaaW.PrintMore
attribute [local go_sem] max2_int min2_int max_two min_two max_three min_three max_four min_four   -- for this text's walks alone
set_option linter.unusedVariables false
set_option linter.unusedSimpArgs false

/-! ### licence_atom: function 32 -/
def licence_atom.f (a0 : ByteArray) : Option (Bool) := if (a0.size : Int) ≥ 1 then (if (a0.size : Int) ≤ 16 then ((strings_Contains.f a0 (⟨#[62]⟩ : ByteArray)).bind fun t101 => (some (!t101))) else (some false)) else (some false)
set_option maxHeartbeats 8000000 in
set_option maxRecDepth 100000 in
theorem licence_atom.calls (a0 : ByteArray) (r : Bool) (w : World) (h : licence_atom.f a0 = some r) :
  Calls Try.prog 32 #[.string a0] w fun e w' => e = .returned (.bool r) ∧ Drawn0 w w' := by
 have H : (if (a0.size : Int) ≥ 1 then (if (a0.size : Int) ≤ 16 then ((strings_Contains.f a0 (⟨#[62]⟩ : ByteArray)).bind fun t101 => (some (!t101))) else (some false)) else (some false)) = some r := h
 clear h
 by_cases c2 : (a0.size : Int) ≥ 1
 ·rw [if_pos c2] at H
  have c2b0 : decide (1 ≤ (a0.size : Int)) = true := decide_eq_true c2
  have c2b1 : decide (1 ≤ a0.size) = true := decide_eq_true (by omega)
  clear c2
  by_cases c3 : (a0.size : Int) ≤ 16
  ·rw [if_pos c3] at H
   have c3b0 : decide ((a0.size : Int) ≤ 16) = true := decide_eq_true c3
   have c3b1 : decide (a0.size ≤ 16) = true := decide_eq_true (by omega)
   clear c3
   replace H := Option.bind_eq_some_iff.mp H
   obtain ⟨t101, A40, H⟩ := H
   replace H : (some (!t101)) = some r := H
   have A4 := Aside0.mk A40
   clear A40
   obtain rfl := Option.some.inj H
   go_enter Try.func32, Try.ntmps32
   go_wp2_with (first | (go_at_call 48; (with_reducible refine (strings_Contains.calls a0 (⟨#[62]⟩ : ByteArray) t101 _ A4.out).mono ?_); rintro e w' ⟨rfl, ⟨nd, rfl⟩⟩))
   go_ret
   exact ⟨by first | rfl | (simp; done) | (simp [*]; done), by repeat (first | exact Drawn0.refl _ | apply Drawn0.step)⟩
  ·rw [if_neg c3] at H
   have c3b0 : decide ((a0.size : Int) ≤ 16) = false := decide_eq_false c3
   have c3b1 : decide (a0.size ≤ 16) = false := decide_eq_false (by omega)
   clear c3
   obtain rfl := Option.some.inj H
   go_enter Try.func32, Try.ntmps32
   go_wp2
   go_ret
   exact ⟨by first | rfl | (simp; done) | (simp [*]; done), by repeat (first | exact Drawn0.refl _ | apply Drawn0.step)⟩
 ·rw [if_neg c2] at H
  have c2b0 : decide (1 ≤ (a0.size : Int)) = false := decide_eq_false c2
  have c2b1 : decide (1 ≤ a0.size) = false := decide_eq_false (by omega)
  clear c2
  obtain rfl := Option.some.inj H
  go_enter Try.func32, Try.ntmps32
  go_wp2
  go_ret
  exact ⟨by first | rfl | (simp; done) | (simp [*]; done), by repeat (first | exact Drawn0.refl _ | apply Drawn0.step)⟩

/-! ### licence_condition: function 30 -/
def licence_condition.f (a0 : ByteArray) : Option (Bool) := (strings_Cut.f a0 (⟨#[62]⟩ : ByteArray)).bind fun bt102 => ((licence_atom.f a0).bind fun t105 => (if t105 = true then (some true) else (if bt102.2.2 = true then ((licence_atom.f bt102.1).bind fun t106 => (if t106 = true then ((licence_atom.f bt102.2.1).bind fun t107 => (some t107)) else (some false))) else (some false))))
set_option maxHeartbeats 8000000 in
set_option maxRecDepth 100000 in
theorem licence_condition.calls (a0 : ByteArray) (r : Bool) (w : World) (h : licence_condition.f a0 = some r) :
  Calls Try.prog 30 #[.string a0] w fun e w' => e = .returned (.bool r) ∧ Drawn0 w w' := by
 have H : ((strings_Cut.f a0 (⟨#[62]⟩ : ByteArray)).bind fun bt102 => ((licence_atom.f a0).bind fun t105 => (if t105 = true then (some true) else (if bt102.2.2 = true then ((licence_atom.f bt102.1).bind fun t106 => (if t106 = true then ((licence_atom.f bt102.2.1).bind fun t107 => (some t107)) else (some false))) else (some false))))) = some r := h
 clear h
 replace H := Option.bind_eq_some_iff.mp H
 obtain ⟨⟨t102, t103, t104⟩, A20, H⟩ := H
 replace H : ((licence_atom.f a0).bind fun t105 => (if t105 = true then (some true) else (if t104 = true then ((licence_atom.f t102).bind fun t106 => (if t106 = true then ((licence_atom.f t103).bind fun t107 => (some t107)) else (some false))) else (some false)))) = some r := H
 have A2 := Aside0.mk A20
 clear A20
 replace H := Option.bind_eq_some_iff.mp H
 obtain ⟨t105, A30, H⟩ := H
 replace H : (if t105 = true then (some true) else (if t104 = true then ((licence_atom.f t102).bind fun t106 => (if t106 = true then ((licence_atom.f t103).bind fun t107 => (some t107)) else (some false))) else (some false))) = some r := H
 have A3 := Aside0.mk A30
 clear A30
 by_cases c4 : t105 = true
 ·subst c4
  have H1 : (some true) = some r := by rw [if_pos rfl] at H; exact H
  clear H
  have H := H1
  clear H1
  obtain rfl := Option.some.inj H
  go_enter Try.func30, Try.ntmps30
  go_wp2_with (first | ((with_reducible refine gate_callee (f := 47) rfl ?_); refine goesL_ (some 8) rfl rfl Try.func47 (by kernel_rfl) rfl #[.string a0, .string (⟨#[62]⟩ : ByteArray)] rfl (by (try simp only [List.map_toArray, List.map_cons, List.map_nil]); first | done | rfl | (simp only [List.length_drop, List.length_take]; rfl)) ?_; (with_reducible refine (strings_Cut.calls a0 (⟨#[62]⟩ : ByteArray) t102 t103 t104 _ A2.out).mono ?_); rintro e w' ⟨rfl, ⟨nd, rfl⟩⟩; refine ⟨_, rfl, ?_⟩) | ((with_reducible refine gate_callee (f := 32) rfl ?_); refine goesL_ (some 13) rfl rfl Try.func32 (by kernel_rfl) rfl #[.string a0] rfl (by (try simp only [List.map_toArray, List.map_cons, List.map_nil]); first | done | rfl | (simp only [List.length_drop, List.length_take]; rfl)) ?_; (with_reducible refine (licence_atom.calls a0 true _ A3.out).mono ?_); rintro e w' ⟨rfl, ⟨nd, rfl⟩⟩; refine ⟨_, rfl, ?_⟩))
  go_ret
  exact ⟨by first | rfl | (simp; done) | (simp [*]; done), by repeat (first | exact Drawn0.refl _ | apply Drawn0.step)⟩
 ·replace c4 := Bool.eq_false_iff.mpr c4
  subst c4
  have H1 : (if t104 = true then ((licence_atom.f t102).bind fun t106 => (if t106 = true then ((licence_atom.f t103).bind fun t107 => (some t107)) else (some false))) else (some false)) = some r := by rw [if_neg (show ¬ (false = true) by decide)] at H; exact H
  clear H
  have H := H1
  clear H1
  by_cases c5 : t104 = true
  ·subst c5
   have H1 : ((licence_atom.f t102).bind fun t106 => (if t106 = true then ((licence_atom.f t103).bind fun t107 => (some t107)) else (some false))) = some r := by rw [if_pos rfl] at H; exact H
   clear H
   have H := H1
   clear H1
   replace H := Option.bind_eq_some_iff.mp H
   obtain ⟨t106, A60, H⟩ := H
   replace H : (if t106 = true then ((licence_atom.f t103).bind fun t107 => (some t107)) else (some false)) = some r := H
   have A6 := Aside0.mk A60
   clear A60
   by_cases c7 : t106 = true
   ·subst c7
    have H1 : ((licence_atom.f t103).bind fun t107 => (some t107)) = some r := by rw [if_pos rfl] at H; exact H
    clear H
    have H := H1
    clear H1
    replace H := Option.bind_eq_some_iff.mp H
    obtain ⟨t107, A80, H⟩ := H
    replace H : (some t107) = some r := H
    have A8 := Aside0.mk A80
    clear A80
    obtain rfl := Option.some.inj H
    go_enter Try.func30, Try.ntmps30
    go_wp2_with (first | ((with_reducible refine gate_callee (f := 47) rfl ?_); refine goesL_ (some 8) rfl rfl Try.func47 (by kernel_rfl) rfl #[.string a0, .string (⟨#[62]⟩ : ByteArray)] rfl (by (try simp only [List.map_toArray, List.map_cons, List.map_nil]); first | done | rfl | (simp only [List.length_drop, List.length_take]; rfl)) ?_; (with_reducible refine (strings_Cut.calls a0 (⟨#[62]⟩ : ByteArray) t102 t103 true _ A2.out).mono ?_); rintro e w' ⟨rfl, ⟨nd, rfl⟩⟩; refine ⟨_, rfl, ?_⟩) | ((with_reducible refine gate_callee (f := 32) rfl ?_); refine goesL_ (some 13) rfl rfl Try.func32 (by kernel_rfl) rfl #[.string a0] rfl (by (try simp only [List.map_toArray, List.map_cons, List.map_nil]); first | done | rfl | (simp only [List.length_drop, List.length_take]; rfl)) ?_; (with_reducible refine (licence_atom.calls a0 false _ A3.out).mono ?_); rintro e w' ⟨rfl, ⟨nd, rfl⟩⟩; refine ⟨_, rfl, ?_⟩) | (go_at_call 32; (with_reducible refine (licence_atom.calls t102 true _ A6.out).mono ?_); rintro e w' ⟨rfl, ⟨nd, rfl⟩⟩) | (go_at_call 32; (with_reducible refine (licence_atom.calls t103 t107 _ A8.out).mono ?_); rintro e w' ⟨rfl, ⟨nd, rfl⟩⟩))
    go_ret
    exact ⟨by first | rfl | (simp; done) | (simp [*]; done), by repeat (first | exact Drawn0.refl _ | apply Drawn0.step)⟩
   ·replace c7 := Bool.eq_false_iff.mpr c7
    subst c7
    have H1 : (some false) = some r := by rw [if_neg (show ¬ (false = true) by decide)] at H; exact H
    clear H
    have H := H1
    clear H1
    obtain rfl := Option.some.inj H
    go_enter Try.func30, Try.ntmps30
    go_wp2_with (first | ((with_reducible refine gate_callee (f := 47) rfl ?_); refine goesL_ (some 8) rfl rfl Try.func47 (by kernel_rfl) rfl #[.string a0, .string (⟨#[62]⟩ : ByteArray)] rfl (by (try simp only [List.map_toArray, List.map_cons, List.map_nil]); first | done | rfl | (simp only [List.length_drop, List.length_take]; rfl)) ?_; (with_reducible refine (strings_Cut.calls a0 (⟨#[62]⟩ : ByteArray) t102 t103 true _ A2.out).mono ?_); rintro e w' ⟨rfl, ⟨nd, rfl⟩⟩; refine ⟨_, rfl, ?_⟩) | ((with_reducible refine gate_callee (f := 32) rfl ?_); refine goesL_ (some 13) rfl rfl Try.func32 (by kernel_rfl) rfl #[.string a0] rfl (by (try simp only [List.map_toArray, List.map_cons, List.map_nil]); first | done | rfl | (simp only [List.length_drop, List.length_take]; rfl)) ?_; (with_reducible refine (licence_atom.calls a0 false _ A3.out).mono ?_); rintro e w' ⟨rfl, ⟨nd, rfl⟩⟩; refine ⟨_, rfl, ?_⟩) | (go_at_call 32; (with_reducible refine (licence_atom.calls t102 false _ A6.out).mono ?_); rintro e w' ⟨rfl, ⟨nd, rfl⟩⟩))
    go_ret
    exact ⟨by first | rfl | (simp; done) | (simp [*]; done), by repeat (first | exact Drawn0.refl _ | apply Drawn0.step)⟩
  ·replace c5 := Bool.eq_false_iff.mpr c5
   subst c5
   have H1 : (some false) = some r := by rw [if_neg (show ¬ (false = true) by decide)] at H; exact H
   clear H
   have H := H1
   clear H1
   obtain rfl := Option.some.inj H
   go_enter Try.func30, Try.ntmps30
   go_wp2_with (first | ((with_reducible refine gate_callee (f := 47) rfl ?_); refine goesL_ (some 8) rfl rfl Try.func47 (by kernel_rfl) rfl #[.string a0, .string (⟨#[62]⟩ : ByteArray)] rfl (by (try simp only [List.map_toArray, List.map_cons, List.map_nil]); first | done | rfl | (simp only [List.length_drop, List.length_take]; rfl)) ?_; (with_reducible refine (strings_Cut.calls a0 (⟨#[62]⟩ : ByteArray) t102 t103 false _ A2.out).mono ?_); rintro e w' ⟨rfl, ⟨nd, rfl⟩⟩; refine ⟨_, rfl, ?_⟩) | ((with_reducible refine gate_callee (f := 32) rfl ?_); refine goesL_ (some 13) rfl rfl Try.func32 (by kernel_rfl) rfl #[.string a0] rfl (by (try simp only [List.map_toArray, List.map_cons, List.map_nil]); first | done | rfl | (simp only [List.length_drop, List.length_take]; rfl)) ?_; (with_reducible refine (licence_atom.calls a0 false _ A3.out).mono ?_); rintro e w' ⟨rfl, ⟨nd, rfl⟩⟩; refine ⟨_, rfl, ?_⟩))
   go_ret
   exact ⟨by first | rfl | (simp; done) | (simp [*]; done), by repeat (first | exact Drawn0.refl _ | apply Drawn0.step)⟩

end Go.Proofs.Ytjagffomohbioaa.L

/- Walk: licence.Valid and its closures: clauses all of whose strings have a length that fits. -/
set_option linter.unusedVariables false
set_option linter.unusedSimpArgs false
namespace Go.Proofs.Ytjagffomohbioaa.L
open Go.RowKit Go.Proofs.YtjagffomohbioaaW.PrintWords Go.Proofs.YtjagffomohbioaaW.PrintLast Go.Proofs.YtjagffomohbioaaW.PrintMore

theorem atom_f (s : ByteArray) (hs : s.size ≤ 9223372036854775807) : licence_atom.f s = some (atomP s) := by
 unfold licence_atom.f strings_Contains.f atomP
 by_cases h1 : 1 ≤ s.size
 ·by_cases h2 : s.size ≤ 16
  ·rw [if_pos (by omega), if_pos (by omega)]
   simp [h1, h2]
  ·rw [if_pos (by omega), if_neg (by omega)]
   simp [h2]
 ·rw [if_neg (by omega)]
  simp [h1]
theorem cond_f (s : ByteArray) (hs : s.size ≤ 9223372036854775807) : licence_condition.f s = some (condP s) := by
 have hc := cutP_snd_size s
 unfold licence_condition.f strings_Cut.f condP
 rw [if_pos ⟨rfl, hs⟩, atom_f s hs]
 simp only [Option.bind_some]
 rw [atom_f (cutP s).1 (by omega), atom_f (cutP s).2.1 (by omega)]
 cases atomP s <;> cases (cutP s).2.2 <;> cases atomP (cutP s).1 <;> cases atomP (cutP s).2.1 <;> rfl

theorem drawn_below {B : Nat} {w0 w w' : World} (h : Below B w0 w) (hd : Drawn0 w w') : Below B w0 w' := by
 obtain ⟨n, rfl⟩ := hd
 exact pw_below_drewN h n

set_option maxHeartbeats 1000000 in
theorem valid29 (s : ByteArray) (hs : s.size ≤ 9223372036854775807) (W : World) : Calls Try.prog 29 #[.string s] W fun e w' => e = .returned (.bool (!condP s)) ∧ Drawn0 W w' := by
 have hcon := licence_condition.calls s (condP s) W (cond_f s hs)
 clear hs
 generalize condP s = r at hcon ⊢
 go_enter Try.func29, Try.ntmps29
 go_wp2_with (go_at_call 30; refine hcon.mono ?_; rintro e w' ⟨rfl, hd⟩)
 go_ret
 exact ⟨rfl, hd⟩
set_option maxHeartbeats 1000000 in
theorem valid31 (s : ByteArray) (hs : s.size ≤ 9223372036854775807) (W : World) : Calls Try.prog 31 #[.string s] W fun e w' => e = .returned (.bool (!atomP s)) ∧ Drawn0 W w' := by
 have hcon := licence_atom.calls s (atomP s) W (atom_f s hs)
 clear hs
 generalize atomP s = r at hcon ⊢
 go_enter Try.func31, Try.ntmps31
 go_wp2_with (go_at_call 32; refine hcon.mono ?_; rintro e w' ⟨rfl, hd⟩)
 go_ret
 exact ⟨rfl, hd⟩

set_option maxHeartbeats 4000000 in
set_option maxRecDepth 100000 in
theorem valid27 (c : S36) (hb : boundC c = true) (W : World) (A1 : Option Addr) (c1 : Nat) (A2 : Option Addr) (c2 : Nat) (g1 : Kd.string.C W A1 c.f1.length c.f1) (g2 : Kd.string.C W A2 c.f2.length c.f2) :
  Calls Try.prog 27 #[.agg #[.string c.f0, .slice A1 c.f1.length c1, .slice A2 c.f2.length c2]] W fun e w' => e = .returned (.bool (badP c)) ∧ Below W.heap.size W w' := by
 have e29 : ∀ args w, (callFunc 29 args).run Try.prog w = .ok (.enter 29 args) w := enters_of Try.func29 (by kernel_rfl) rfl
 have e31 : ∀ args w, (callFunc 31 args).run Try.prog w = .ok (.enter 31 args) w := enters_of Try.func31 (by kernel_rfl) rfl
 have hbs : (∀ s, s ∈ c.f1 → s.size ≤ 9223372036854775807) ∧ (∀ s, s ∈ c.f2 → s.size ≤ 9223372036854775807) := by
  unfold boundC at hb
  simp only [Bool.and_eq_true, List.all_eq_true, decide_eq_true_eq] at hb
  exact hb
 have hcon1 : ∀ W1, Below W.heap.size W W1 → Calls Try.prog 28 #[.slice A1 c.f1.length c1, .func (.func 29) #[] #[]] W1 fun e w' => e = .returned (.bool (c.f1.any (fun s => !condP s))) ∧ Below W1.heap.size W1 w' := fun W1 hW =>
  (contains28 (fun s => !condP s) 29 #[] e29 A1 c1 c.f1 W1 (Kd.C_below g1 hW) (fun x hx W2 hW2 => (valid29 x (hbs.1 x hx) W2).mono fun e w' ⟨he, hd⟩ => ⟨he, drawn_below hW2 hd⟩))
 have hcon2 : ∀ W1, Below W.heap.size W W1 → Calls Try.prog 28 #[.slice A2 c.f2.length c2, .func (.func 31) #[] #[]] W1 fun e w' => e = .returned (.bool (c.f2.any (fun s => !atomP s))) ∧ Below W1.heap.size W1 w' := fun W1 hW =>
  (contains28 (fun s => !atomP s) 31 #[] e31 A2 c2 c.f2 W1 (Kd.C_below g2 hW) (fun x hx W2 hW2 => (valid31 x (hbs.2 x hx) W2).mono fun e w' ⟨he, hd⟩ => ⟨he, drawn_below hW2 hd⟩))
 have hbad : badP c = (decide (16 < c.f0.size) || (decide (8 < c.f1.length) || (decide (8 < c.f2.length) || (c.f1.any (fun s => !condP s) || c.f2.any (fun s => !atomP s))))) := rfl
 generalize c.f1.any (fun s => !condP s) = b1 at hcon1 hbad
 generalize c.f2.any (fun s => !atomP s) = b2 at hcon2 hbad
 generalize badP c = r at hbad ⊢
 have H1 := Aside0.mk hcon1
 have H2 := Aside0.mk hcon2
 have hu36 := Try.underlying36
 clear hcon1 hcon2 hbs hb g1 g2 e29 e31
 have HB := Aside0.mk (Below.refl W.heap.size W)
 by_cases t1 : 16 < c.f0.size
 ·have q1 : decide (16 < c.f0.size) = true := decide_eq_true t1
  obtain rfl : r = true := by rw [hbad]; simp [t1]
  clear hbad H1 H2
  go_enter Try.func27, Try.ntmps27
  go_wp2
  go_ret
  exact ⟨rfl, below_alloc HB.out _⟩
 ·have q1 : decide (16 < c.f0.size) = false := decide_eq_false t1
  by_cases t2 : 8 < c.f1.length
  ·have q2 : decide (8 < c.f1.length) = true := decide_eq_true t2
   obtain rfl : r = true := by rw [hbad]; simp [t2]
   clear hbad H1 H2
   go_enter Try.func27, Try.ntmps27
   go_wp2
   go_ret
   exact ⟨rfl, below_alloc HB.out _⟩
  ·have q2 : decide (8 < c.f1.length) = false := decide_eq_false t2
   by_cases t3 : 8 < c.f2.length
   ·have q3 : decide (8 < c.f2.length) = true := decide_eq_true t3
    obtain rfl : r = true := by rw [hbad]; simp [t3]
    clear hbad H1 H2
    go_enter Try.func27, Try.ntmps27
    go_wp2
    go_ret
    exact ⟨rfl, below_alloc HB.out _⟩
   ·have q3 : decide (8 < c.f2.length) = false := decide_eq_false t3
    obtain rfl : r = (b1 || b2) := by rw [hbad]; simp [t1, t2, t3]
    clear hbad
    cases b1 with
    | true =>
     rw [Bool.true_or]
     go_enter Try.func27, Try.ntmps27
     go_wp2_with (go_at_call 28; refine (H1.out _ (below_alloc HB.out _)).mono ?_; rintro e w' ⟨rfl, hd⟩)
     go_ret
     exact ⟨rfl, (below_alloc HB.out _).trans (hd.mono (by simp))⟩
    | false =>
     rw [Bool.false_or]
     go_enter Try.func27, Try.ntmps27
     go_wp2_with fail
     refine (H1.out _ (below_alloc HB.out _)).mono ?_
     rintro e w1 ⟨rfl, hd⟩
     have z2 : w1.cell? ⟨W.heap.size, 2, none⟩ = some (.slice A2 c.f2.length c2) := (hd.cell (p := ⟨W.heap.size, 2, none⟩) (by simp)).trans (by simp)
     have HD := Aside0.mk ((below_alloc HB.out _).trans (hd.mono (by simp)))
     clear hd
     go_wp2_with fail
     refine (H2.out _ HD.out).mono ?_
     rintro e w2 ⟨rfl, hd2⟩
     have HD2 := Aside0.mk (HD.out.trans (hd2.mono HD.out.size))
     clear hd2
     go_wp2
     go_ret
     have i1 : ¬ (16 : Int) < (c.f0.size : Int) := by omega
     have i2 : ¬ (8 : Int) < (c.f1.length : Int) := by omega
     have i3 : ¬ (8 : Int) < (c.f2.length : Int) := by omega
     exact ⟨by simp [i1, i2, i3], HD2.out⟩
set_option maxHeartbeats 4000000 in
theorem licence_Valid.calls (A0 : Option Addr) (c0 : Nat) (l0 : List S36) (r : Bool) (w : World) (hr0 : Kd.C k36 w A0 l0.length l0) (hc0 : l0.length ≤ c0) (h : licence_Valid.f l0 = some r) :
  Calls Try.prog 11 #[.slice A0 l0.length c0] w fun e w' => e = .returned (.bool r) ∧ Below w.heap.size w w' := by
 unfold licence_Valid.f at h
 split at h
 case isFalse => cases h
 rename_i hb
 simp only [Option.some.injEq] at h
 subst h
 have e27 : ∀ args w, (callFunc 27 args).run Try.prog w = .ok (.enter 27 args) w := enters_of Try.func27 (by kernel_rfl) rfl
 have hcon := contains33 badP 27 #[] e27 A0 c0 l0 w hr0 (fun x hx W A1 c1 A2 c2 hW l1 g1 l2 g2 => (valid27 x (List.all_eq_true.1 hb x hx) W A1 c1 A2 c2 g1 g2).mono fun e w' ⟨he, hd⟩ => ⟨he, hW.trans (hd.mono hW.size)⟩)
 have hv : validP l0 = (decide (l0.length ≤ 32) && !l0.any badP) := rfl
 generalize validP l0 = r at hv ⊢
 generalize l0.any badP = b at hcon hv
 have HC := Aside0.mk hcon
 have HB := Aside0.mk (Below.refl w.heap.size w)
 clear hcon hb hr0 e27
 by_cases t1 : l0.length ≤ 32
 ·have q1 : decide (l0.length ≤ 32) = true := decide_eq_true t1
  obtain rfl : r = !b := by rw [hv]; simp [t1]
  clear hv
  go_enter Try.func11, Try.ntmps11
  go_wp2_with (go_at_call 33; refine HC.out.mono ?_; rintro e w' ⟨rfl, hd⟩)
  go_ret
  exact ⟨rfl, hd⟩
 ·have q1 : decide (l0.length ≤ 32) = false := decide_eq_false t1
  obtain rfl : r = false := by rw [hv]; simp [t1]
  clear hv HC
  go_enter Try.func11, Try.ntmps11
  go_wp2
  go_ret
  exact ⟨rfl, HB.out⟩
end Go.Proofs.Ytjagffomohbioaa.L

/- Walks: slices.Clone of ints and licence.sorted, selections of at most a million elements. -/
set_option linter.unusedVariables false
set_option linter.unusedSimpArgs false
namespace Go.Proofs.Ytjagffomohbioaa.L
open Go.RowKit Go.Sort Go.Lib Go.Proofs.YtjagffomohbioaaW.PrintWords Go.Proofs.YtjagffomohbioaaW.PrintLast Go.Proofs.YtjagffomohbioaaW.PrintMore

theorem C_spot {w : World} {A : Option Addr} {xs : List Int} (h : Kd.C (Kd.int .i64) w A xs.length xs) (hp : 0 < xs.length) : ∃ b off, A = some ⟨b, off, none⟩ ∧ ∀ j, j < xs.length → w.cell? ⟨b, off + j, none⟩ = some (.int .i64 (xs.getD j 0)) := by
 obtain ⟨ad, rfl, h0⟩ := Kd.at_int h 0 (by omega) (by omega)
 obtain ⟨b, off, spot⟩ := ad
 cases spot with
 | some k =>
  simp [World.cell?, Addr.add] at h0
  split at h0 <;> simp at h0
 | none =>
  refine ⟨b, off, rfl, fun j hj => ?_⟩
  obtain ⟨ad, e, hj'⟩ := Kd.at_int h (j : Int) (by omega) (by omega)
  cases e
  rw [add_at, Int.toNat_natCast] at hj'
  exact hj'

theorem R_of_ints {w : World} {base : Nat} {v : Value} {xs : List Int} (h : w.ownsRow base 3 1 v xs.length (xs.map (Value.int .i64))) : Kd.R (Kd.int .i64) 3 w base (fun _ => True) v xs := Kd.R_of_own h (fun _ _ => trivial)
theorem ints_of_R {w : World} {base : Nat} {ok : Nat → Prop} {v : Value} {xs : List Int} (h : Kd.R (Kd.int .i64) 3 w base ok v xs) : w.ownsRow base 3 1 v xs.length (xs.map (Value.int .i64)) := Kd.own_of_R h

theorem slices_Clone.calls (A0 : Option Addr) (c0 : Nat) (l0 : List Int) (r : List Int) (w : World) (hr0 : Kd.C (Kd.int .i64) w A0 l0.length l0) (hc0 : l0.length ≤ c0) (h : slices_Clone.f l0 = some r) :
  Calls Try.prog 45 #[.slice A0 l0.length c0] w fun e w' => ∃ v0_ : Value, e = .returned (v0_) ∧ Kd.R (Kd.int .i64) 3 w' w.heap.size (fun _ => True) v0_ r ∧ Below w.heap.size w w' := by
 unfold slices_Clone.f at h
 split at h
 case isFalse => cases h
 rename_i hb
 simp only [Option.some.injEq] at h
 subst h
 rcases A0 with _ | ad
 ·have hn : l0 = [] := by
   rcases Nat.eq_zero_or_pos l0.length with h0 | h0
   ·exact List.length_eq_zero_iff.1 h0
   ·obtain ⟨b, off, e, _⟩ := C_spot hr0 h0
    cases e
  subst hn
  exact (Try.slices_Clone_int_nil 0 c0 w).mono fun e w' ⟨he, hw⟩ => ⟨_, he, Kd.R_nil _ _ _ _ _, hw ▸ Below.refl _ _⟩
 ·rcases Nat.eq_zero_or_pos l0.length with h0 | h0
  ·obtain rfl := List.length_eq_zero_iff.1 h0
   exact (Try.slices_Clone_int_zero ad c0 w).mono fun e w' ⟨v', he, ho, _, hw⟩ => ⟨v', he, R_of_ints ho, hw⟩
  ·obtain ⟨b, off, e, hcell⟩ := C_spot hr0 h0
   cases e
   have hcon := Try.slices_Clone_int b off l0.length c0 l0 w (Nat.le_refl _) (by omega) hcell
   rw [List.take_of_length_le (Nat.le_refl _)] at hcon
   exact hcon.mono fun e w' ⟨v', he, ho, _, hw⟩ => ⟨v', he, R_of_ints ho, hw⟩

/-- What licence.sorted strikes. -/
def outside (n : Nat) (x : Int) : Bool := decide (x < 0) || decide ((n : Int) ≤ x)
set_option maxHeartbeats 1000000 in
theorem gives55 (n c : Nat) (hn : n ≤ 9223372036854775807) (A : Option Addr) (x : Int) (B : Nat) (W : World) (hc : W.cell? ⟨B, 0, none⟩ = some (.slice A n c)) :
  FnGives Try.prog 55 #[.pointer (some ⟨B, 0, none⟩)] #[.int .i64 x] (.bool (outside n x)) W := by
 show Calls Try.prog 55 #[.int .i64 x, .pointer (some ⟨B, 0, none⟩)] W _
 have ho : outside n x = (decide (x < 0) || decide ((n : Int) ≤ x)) := rfl
 generalize outside n x = r at ho ⊢
 by_cases h : x < 0
 ·have h1 : decide (x < 0) = true := decide_eq_true h
  obtain rfl : r = true := by rw [ho, h1]; rfl
  clear ho
  go_enter Try.func55, Try.ntmps55
  go_wp2
  go_ret
  exact ⟨rfl, 0, rfl⟩
 ·have h1 : decide (x < 0) = false := decide_eq_false h
  obtain rfl : r = decide ((n : Int) ≤ x) := by rw [ho, h1]; rfl
  clear ho
  go_enter Try.func55, Try.ntmps55
  go_wp2
  go_ret
  exact ⟨rfl, 0, rfl⟩

set_option maxHeartbeats 1000000 in
theorem delete54_empty (a : Option Addr) (c : Nat) (fv : Value) (w : World) : Calls Try.prog 54 #[.slice a 0 c, fv] w fun e w' => e = .returned (.slice a 0 c) ∧ w' = w := by
 go_enter Try.func54, Try.ntmps54
 go_wp2_with (go_at_call 63; refine (Try.slices_IndexFunc_empty_f63 (α := Int) a c fv _).mono ?_; rintro e w' ⟨rfl, rfl⟩)
 go_ret
 exact ⟨rfl, rfl⟩

/-- slices.DeleteFunc on a row of the call's own. -/
theorem delete54 (n0 c0 : Nat) (hn0 : n0 ≤ 9223372036854775807) (A : Option Addr) (B g cap : Nat) (zs : List Int) (w : World) (hc : w.cell? ⟨B, 0, none⟩ = some (.slice A n0 c0)) (hB : B < w.heap.size) (hne : B ≠ g)
  (base : Nat) (ho : w.ownsRow base 3 1 (.slice (some ⟨g, 0, none⟩) zs.length cap) zs.length (zs.map (Value.int .i64))) :
  Calls Try.prog 54 #[.slice (some ⟨g, 0, none⟩) zs.length cap, .func (.func 55) #[] #[.pointer (some ⟨B, 0, none⟩)]] w fun e w' =>
   e = .returned (.slice (some ⟨g, 0, none⟩) (zs.filter fun x => !outside n0 x).length cap) ∧ w'.ownsRow base 3 1 (.slice (some ⟨g, 0, none⟩) (zs.filter fun x => !outside n0 x).length cap) (zs.filter fun x => !outside n0 x).length ((zs.filter fun x => !outside n0 x).map (Value.int .i64)) ∧ (∀ b, b ≤ g → Below b w w') := by
 have eg : ∀ args w, (callFunc 55 args).run Try.prog w = .ok (.enter 55 args) w := enters_of Try.func55 (by kernel_rfl) rfl
 obtain ⟨g', cap', e, hbg, hlt, hcap, hmax, _, hH⟩ := holds_of_ownsRow ho (by simp)
 cases e
 have hcon := Try.slices_DeleteFunc (Value.int .i64) (fun _ => rfl) (outside n0) 55 #[.pointer (some ⟨B, 0, none⟩)] eg 0 Try.zeroValue3 g 0 cap zs.toArray w
  (fun W x hb => gives55 n0 c0 hn0 A x B W ((hb.cell (p := ⟨B, 0, none⟩) hB).trans hc))
  (fun n os dk x _ => gives55 n0 c0 hn0 A x B _ (by
   unfold sortWorld
   rw [cell?_grow _ _ _ (by show B < (putRow _ _ _ _ _).heap.size; rw [size_putRow]; exact hB), cell?_putRow_other _ _ g 0 _ _ (Or.inl hne)]
   exact hc))
  hH (by unfold maxLen at hmax; simp; omega) (by simpa using hcap)
 have e1 : zs.toArray.toList = zs := rfl
 have e2 : zs.toArray.size = zs.length := by simp
 rw [e1, e2] at hcon
 have hle : (zs.filter fun x => !outside n0 x).length ≤ zs.length := List.length_filter_le _ _
 generalize hys : (zs.filter fun x => !outside n0 x) = ys at hcon hle ⊢
 refine hcon.mono fun e w' ⟨he, q, hw⟩ => ⟨he, ?_, fun b hb => ?_⟩
 ·have := ownsRow_putRow (q := q) (k := ys.length) ho (ys := ys ++ List.replicate (zs.length - ys.length) 0) (by simp; omega) hle
  rw [List.take_append_of_le_length (Nat.le_refl _), List.take_length] at this
  rw [hw]
  exact this
 ·rw [hw]
  exact below_putRow (Below.refl _ _) hb

/-- slices.Sort on a row of the call's own. -/
theorem sort56 (g cap : Nat) (zs : List Int) (w : World) (hl : zs.length ≤ 1000000) (base : Nat) (ho : w.ownsRow base 3 1 (.slice (some ⟨g, 0, none⟩) zs.length cap) zs.length (zs.map (Value.int .i64))) :
  Calls Try.prog 56 #[.slice (some ⟨g, 0, none⟩) zs.length cap] w fun e w' =>
   e = .returned (.tuple #[]) ∧ w'.ownsRow base 3 1 (.slice (some ⟨g, 0, none⟩) (zs.mergeSort fun x y => decide (x ≤ y)).length cap) (zs.mergeSort fun x y => decide (x ≤ y)).length ((zs.mergeSort fun x y => decide (x ≤ y)).map (Value.int .i64)) ∧ (∀ b, b ≤ g → Below b w w') := by
 obtain ⟨g', cap', e, hbg, hlt, hcap, hmax, _, hH⟩ := holds_of_ownsRow ho (by simp)
 cases e
 have hcon := Try.slices_Sort_int g 0 cap zs w hH hlt (by omega)
 have hln : (zs.mergeSort fun x y => decide (x ≤ y)).length = zs.length := List.length_mergeSort _
 generalize (zs.mergeSort fun x y => decide (x ≤ y)) = ys at hcon hln ⊢
 refine hcon.mono fun e w' ⟨he, n, os, hw⟩ => ⟨he, ?_, fun b hb => ?_⟩
 ·obtain ⟨g', cap', cur, e0, hb, hg, hn, hm, hs, ht⟩ : ∃ g' cap' cur, (Value.slice (some ⟨g, 0, none⟩) zs.length cap) = .slice (some ⟨g', 0, none⟩) zs.length cap' ∧ base ≤ g' ∧ w.heap[g']? = some (.cells cur 3 (0, 0)) ∧ zs.length ≤ cap' ∧ cap' ≤ maxLen ∧ cur.size = cap' * 1 ∧ cur.toList.take (zs.length * 1) = zs.map (Value.int .i64) := by
   rcases ho.2 with ⟨e0, _⟩ | h
   ·cases e0
   ·exact h
  cases e0
  rw [hw, hln]
  exact ownsRow_sortedI hln hb hg hn hm hs
 ·rw [hw]
  have h1 : Below b w (putRow (Value.int .i64) (Sort.ahead w n) g 0 ys.toArray) := below_putRow (Below.refl _ _) hb
  exact ⟨h1.os, h1.tape, h1.output, by show _ ≤ (_ ++ os).size; rw [Array.size_append]; exact Nat.le_trans h1.size (Nat.le_add_right _ _), fun k hk => (Sort.heap_grow_old _ os (by rw [size_putRow]; show k < w.heap.size; omega)).trans (h1.block k hk)⟩

/-- slices.Compact on a row of the call's own. -/
theorem compact57 (g cap : Nat) (zs : List Int) (w : World) (base : Nat) (ho : w.ownsRow base 3 1 (.slice (some ⟨g, 0, none⟩) zs.length cap) zs.length (zs.map (Value.int .i64))) :
  Calls Try.prog 57 #[.slice (some ⟨g, 0, none⟩) zs.length cap] w fun e w' =>
   e = .returned (.slice (some ⟨g, 0, none⟩) (Lib.compact zs).length cap) ∧ w'.ownsRow base 3 1 (.slice (some ⟨g, 0, none⟩) (Lib.compact zs).length cap) (Lib.compact zs).length ((Lib.compact zs).map (Value.int .i64)) ∧ (∀ b, b ≤ g → Below b w w') := by
 obtain ⟨g', cap', e, hbg, hlt, hcap, hmax, _, hH⟩ := holds_of_ownsRow ho (by simp)
 cases e
 have hcon := Try.slices_Compact_int g 0 cap zs w hH (by unfold maxLen at hmax; omega) hcap
 have hle := Lib.compact_length_le zs
 generalize Lib.compact zs = ys at hcon hle ⊢
 refine hcon.mono fun e w' ⟨he, q, hw⟩ => ⟨he, ?_, fun b hb => ?_⟩
 ·have := ownsRow_putRow (q := q) (k := ys.length) ho (ys := ys ++ List.replicate (zs.length - ys.length) 0) (by simp; omega) hle
  rw [List.take_append_of_le_length (Nat.le_refl _), List.take_length] at this
  rw [hw]
  exact this
 ·rw [hw]
  exact below_putRow (Below.refl _ _) hb

/-! ### The plain law -/
theorem compact_sorted (zs : List Int) (n : Nat) : Lib.compact ((zs.filter fun x => !outside n x).mergeSort fun x y => decide (x ≤ y)) = ((List.range n).map (fun k : Nat => (k : Int))).filter (fun i => decide (i ∈ zs)) := by
 obtain ⟨h1, h2⟩ := compact_mergeSort (zs.filter fun x => !outside n x)
 refine incr_ext h1 ((range_incr n).sublist List.filter_sublist) (fun x => ?_)
 rw [h2, List.mem_filter, List.mem_filter, List.mem_map]
 simp only [outside, Bool.not_eq_true', Bool.or_eq_false_iff, decide_eq_false_iff_not, decide_eq_true_eq, List.mem_range]
 constructor
 ·rintro ⟨h3, h4, h5⟩
  exact ⟨⟨x.toNat, by omega, by omega⟩, h3⟩
 ·rintro ⟨⟨k, hk, rfl⟩, h3⟩
  exact ⟨h3, by omega, by omega⟩
theorem sortedP_eq (l0 : List S36) (l1 : List Int) : sortedP l0 l1 = Lib.compact ((l1.filter fun x => !outside l0.length x).mergeSort fun x y => decide (x ≤ y)) := (compact_sorted l1 l0.length).symm

set_option maxHeartbeats 2000000 in
theorem licence_sorted.calls (A0 : Option Addr) (c0 : Nat) (l0 : List S36) (A1 : Option Addr) (c1 : Nat) (l1 : List Int) (r : List Int) (w : World) (hr0 : Kd.C k36 w A0 l0.length l0) (hc0 : l0.length ≤ c0) (hr1 : Kd.C (Kd.int .i64) w A1 l1.length l1) (hc1 : l1.length ≤ c1) (h : licence_sorted.f l0 l1 = some r) :
  Calls Try.prog 37 #[.slice A0 l0.length c0, .slice A1 l1.length c1] w fun e w' => ∃ v0_ : Value, e = .returned (v0_) ∧ Kd.R (Kd.int .i64) 3 w' w.heap.size (fun _ => True) v0_ r ∧ Below w.heap.size w w' := by
 unfold licence_sorted.f at h
 split at h
 case isFalse => cases h
 rename_i hb
 simp only [Option.some.injEq] at h
 rw [sortedP_eq] at h
 have hn0 : l0.length ≤ 9223372036854775807 := Kd.C_max hr0
 have hcl := slices_Clone.calls A1 c1 l1 l1 (w.alloc (.cells #[.slice A0 l0.length c0] 23)) (Kd.C_alloc hr1 _) hc1 (by unfold slices_Clone.f; rw [if_pos hb])
 have HC := Aside0.mk hcl
 have HRR := Aside0.mk h
 have HN := Aside0.mk hn0
 have HL := Aside0.mk hb
 have HB0 := Aside0.mk (below_alloc (Below.refl w.heap.size w) (.cells #[.slice A0 l0.length c0] 23))
 clear hcl h hn0 hb hr0 hr1
 go_enter Try.func37, Try.ntmps37
 go_wp2_with fail
 refine HC.out.mono ?_
 rintro e w1 ⟨v1, rfl, hR, hd⟩
 have hb1 : Below w.heap.size w w1 := HB0.out.trans (hd.mono (by simp))
 have hcell : w1.cell? ⟨w.heap.size, 0, none⟩ = some (.slice A0 l0.length c0) := (hd.cell (p := ⟨w.heap.size, 0, none⟩) (by simp)).trans (by simp)
 have hlt : w.heap.size < w1.heap.size := by have := hd.size; simp at this; omega
 have hown := ints_of_R hR
 have hB1 := Aside0.mk hb1
 have HCELL := Aside0.mk hcell
 have HLT := Aside0.mk hlt
 clear hd hR HC hb1 hcell hlt HB0
 rcases hown.2 with ⟨e1, hn⟩ | ⟨g, cap, cur, e1, hg, _⟩
 ·subst e1
  have hl : l1 = [] := List.length_eq_zero_iff.1 hn
  clear hown hn
  subst hl
  go_wp2_with (first | (go_at_call 54; refine (delete54_empty _ _ _ _).mono ?_; rintro e w2 ⟨rfl, rfl⟩) | (go_at_call 56; refine (Try.slices_Sort_int_none _ _ _).mono ?_; rintro e w2 ⟨rfl, rfl⟩) | (go_at_call 57; refine (Try.slices_Compact_int_empty _ _ _).mono ?_; rintro e w2 ⟨rfl, rfl⟩))
  go_ret
  refine ⟨_, rfl, ?_, hB1.out⟩
  have := HRR.out
  simp at this
  rw [← this]
  exact Kd.R_nil _ _ _ _ _
 ·subst e1
  have hg' : w.heap.size + 1 ≤ g := by simpa using hg
  have hdel := delete54 l0.length c0 HN.out A0 w.heap.size g cap l1 w1 HCELL.out HLT.out (by omega) (w.heap.size + 1) (by simpa using hown)
  clear hown hg
  have hfl : (l1.filter fun x => !outside l0.length x).length ≤ l1.length := List.length_filter_le _ _
  have HF := Aside0.mk (Nat.le_trans hfl HL.out)
  clear hfl
  obtain ⟨ys, hys⟩ : ∃ ys, (l1.filter fun x => !outside l0.length x) = ys := ⟨_, rfl⟩
  rw [hys] at hdel HRR HF
  clear hys
  have HD := Aside0.mk hdel
  have HG := Aside0.mk hg'
  clear hdel hg'
  go_wp2_with fail
  refine HD.out.mono ?_
  rintro e w2 ⟨rfl, ho2, hbs2⟩
  have hb2 := Aside0.mk (hB1.out.trans (hbs2 w.heap.size (by have := HG.out; omega)))
  have hsort := sort56 g cap ys w2 HF.out _ ho2
  clear ho2 hbs2 HD
  have hlen : (ys.mergeSort fun x y => decide (x ≤ y)).length = ys.length := List.length_mergeSort _
  obtain ⟨zs, hzs⟩ : ∃ zs, (ys.mergeSort fun x y => decide (x ≤ y)) = zs := ⟨_, rfl⟩
  rw [hzs] at hsort HRR hlen
  have HLEN := Aside0.mk hlen
  clear hzs hlen
  have HS := Aside0.mk hsort
  clear hsort
  go_wp2_with fail
  refine HS.out.mono ?_
  rintro e w3 ⟨rfl, ho3, hbs3⟩
  have hb3 := Aside0.mk (hb2.out.trans (hbs3 w.heap.size (by have := HG.out; omega)))
  have hcomp := compact57 g cap zs w3 _ ho3
  rw [HLEN.out] at hcomp
  clear ho3 hbs3 HS
  have HR2 := Aside0.mk HRR.out
  clear HRR
  rw [show Lib.compact zs = r from HR2.out] at hcomp
  have HP := Aside0.mk hcomp
  clear hcomp
  go_wp2_with fail
  refine HP.out.mono ?_
  rintro e w4 ⟨rfl, ho4, hbs4⟩
  have hb4 := hb3.out.trans (hbs4 w.heap.size (by have := HG.out; omega))
  have hR4 := Kd.R_lower (R_of_ints ho4) (show w.heap.size ≤ w.heap.size + 1 by omega)
  have F4 := Aside0.mk hb4
  have F5 := Aside0.mk hR4
  clear ho4 hbs4 hb4 hR4
  go_wp2
  go_ret
  exact ⟨_, rfl, F5.out, F4.out⟩
end Go.Proofs.Ytjagffomohbioaa.L

/- Walk: licence.fine. -/
set_option linter.unusedVariables false
set_option linter.unusedSimpArgs false
namespace Go.Proofs.Ytjagffomohbioaa.L
open Go.RowKit Go.Maps Go.Proofs.YtjagffomohbioaaW.PrintWords Go.Proofs.YtjagffomohbioaaW.PrintLast Go.Proofs.YtjagffomohbioaaW.PrintMore

theorem cell_one_str (w : World) (s : ByteArray) : ∀ (j : Nat) u, (strs [s])[j]? = some u → (w.alloc (.cells #[.string s] 9)).cell? ((⟨w.heap.size, 0, none⟩ : Addr).add j) = some u := by
 intro j u hu
 simpa using World.news_of_block (cs := #[.string s]) (t := 9) (fr := (0, 0)) (heap_alloc_new w (.cells #[.string s] 9)) j u hu

theorem zero64 (w : World) : (zeroValue 34).run Try.prog w = .ok (.slice none 0 0) w := by kernel_rfl
theorem zero63 (w : World) : (zeroValue 4).run Try.prog w = .ok (.bool false) w := by kernel_rfl

theorem FS.start (w : World) (A0 : Option Addr) (n c0 : Nat) : FS w ((((w.alloc (.cells #[.slice A0 n c0] 23)).alloc (.map #[] 0)).alloc (.cells #[.map (some (w.heap.size + 1))] 63)).alloc (.map #[] 0)) A0 n c0 (fun _ => none) (.slice none 0 0) [] (fun _ => .slice none 0 0) (fun _ => []) (fun _ => .bool false) 0 0 := by
 have e1 : (w.alloc (.cells #[.slice A0 n c0] 23)).heap.size = w.heap.size + 1 := by simp
 have e2 : ((w.alloc (.cells #[.slice A0 n c0] 23)).alloc (.map #[] 0)).heap.size = w.heap.size + 2 := by simp
 have e3 : (((w.alloc (.cells #[.slice A0 n c0] 23)).alloc (.map #[] 0)).alloc (.cells #[.map (some (w.heap.size + 1))] 63)).heap.size = w.heap.size + 3 := by simp
 have m1 := MapIs.made Try.prog 9 (w.alloc (.cells #[.slice A0 n c0] 23)) (.bool false)
 rw [e1] at m1
 have m2 := MapIs.made Try.prog 9 (((w.alloc (.cells #[.slice A0 n c0] 23)).alloc (.map #[] 0)).alloc (.cells #[.map (some (w.heap.size + 1))] 63)) (.slice none 0 0)
 rw [e3] at m2
 have b2 : ((((w.alloc (.cells #[.slice A0 n c0] 23)).alloc (.map #[] 0)).alloc (.cells #[.map (some (w.heap.size + 1))] 63))).heap[w.heap.size + 2]? = some (.cells #[.map (some (w.heap.size + 1))] 63 (0, 0)) := by
  have := blk_new ((w.alloc (.cells #[.slice A0 n c0] 23)).alloc (.map #[] 0)) (.cells #[.map (some (w.heap.size + 1))] 63)
  rw [e2] at this
  exact this
 exact {
  below := below_alloc (below_alloc (below_alloc (below_alloc (Below.refl _ _) _) _) _) _
  size := by simp
  box0 := blk_alloc (blk_alloc (blk_alloc (blk_new w _) _) _) _
  boxf := blk_alloc b2 _
  fol := (m1.alloc _).alloc _
  nxt := m2
  own := fun _ => SR.nil _ _ _
  lst := SR.nil _ _ _
  vnil := fun _ _ => rfl }

theorem fineOk_len {l0 : List S36} {l1 : List Int} (h : fineOk l0 l1 = true) : l1.length ≤ 1000 := by
 unfold fineOk at h
 simp only [Bool.and_eq_true, decide_eq_true_eq] at h
 exact h.1
theorem fineOk_at {l0 : List S36} {l1 : List Int} (h : fineOk l0 l1 = true) (k : Nat) (hk : k < l1.length) : 0 ≤ rd l1 k ∧ rd l1 k < (l0.length : Int) ∧ smallC (rd_T36 l0 (rd l1 k)) = true := by
 unfold fineOk at h
 simp only [Bool.and_eq_true, List.all_eq_true, decide_eq_true_eq] at h
 exact h.2 (rd l1 k) (getD_mem 0 l1 k hk)
theorem smallC_len {c : S36} (h : smallC c = true) : c.f1.length ≤ 8 ∧ c.f2.length ≤ 8 ∧ (∀ s, s ∈ c.f1 → s.size ≤ 64) ∧ (∀ s, s ∈ c.f2 → s.size ≤ 64) := by
 unfold smallC at h
 simp only [Bool.and_eq_true, List.all_eq_true, decide_eq_true_eq] at h
 exact h
theorem mustOf_succ (l0 : List S36) (l1 : List Int) (k : Nat) (hk : k < l1.length) : mustOf l0 (l1.take (k + 1)) = mustOf l0 (l1.take k) ++ (rd_T36 l0 (rd l1 k)).f1 := by
 unfold mustOf
 rw [List.take_succ_eq_append_getElem hk, List.flatMap_append]
 simp only [List.flatMap_cons, List.flatMap_nil, List.append_nil]
 congr 2
 simp [rd, List.getD_eq_getElem?_getD, List.getElem?_eq_getElem hk]

theorem mustOf_size {l0 : List S36} {l1 : List Int} (h : fineOk l0 l1 = true) : ∀ s, s ∈ mustOf l0 l1 → s.size ≤ 64 := by
 intro s hs
 unfold mustOf at hs
 obtain ⟨i, hi, hm⟩ := List.mem_flatMap.1 hs
 unfold fineOk at h
 simp only [Bool.and_eq_true, List.all_eq_true, decide_eq_true_eq] at h
 exact (smallC_len (h.2 i hi).2.2).2.2.1 s hm
theorem putF_bool (F : ByteArray → Bool) (s : ByteArray) : (fun x => if x = s then Value.bool true else Value.bool (F x)) = fun x => Value.bool (putF F s x) := by
 funext x
 unfold putF
 split <;> rfl

theorem FS.at_key {w0 W : World} {A0 : Option Addr} {n c0 : Nat} {tag : Tag} {vl : Value} {L : List ByteArray} {v : ByteArray → Value} {N : ByteArray → List ByteArray} {fF : ByteArray → Value} {nf nn : Nat} (h : FS w0 W A0 n c0 tag vl L v N fF nf nn) (s : ByteArray) :
  ∃ A m c, v s = .slice A m c ∧ (N s).length = m ∧ ((A = none ∧ c = 0 ∧ m = 0) ∨ (0 < m ∧ ∃ a, A = some a ∧ ∀ j u, (strs (N s))[j]? = some u → W.cell? (a.add j) = some u)) := by
 by_cases e : N s = []
 ·exact ⟨none, 0, 0, h.vnil s e, by rw [e]; rfl, .inl ⟨rfl, rfl, rfl⟩⟩
 ·have hp := List.length_pos_iff.2 e
  obtain ⟨A, c, hv, _⟩ := (h.own s).slice
  have := h.own s
  rw [hv] at this
  obtain ⟨a, ha, hc⟩ := this.cells hp
  exact ⟨A, _, c, hv, rfl, .inr ⟨hp, a, ha, hc⟩⟩

set_option maxHeartbeats 1000000 in
theorem lit53 (b bf nf : Nat) (F : ByteArray → Bool) (W : World) (hbox : W.heap[bf]? = some (.cells #[.map (some b)] 63 (0, 0))) (hm : MapIs Try.prog 9 W b nf (.bool false) (fun s => .bool (F s))) (s : ByteArray) (hs : s.size ≤ maxLen) :
  Calls Try.prog 53 #[.string s, .pointer (some ⟨bf, 0, none⟩)] W fun e w' => e = .returned (.bool (F s)) ∧ w' = W := by
 have hc := blk_cell hbox 0
 have hc' : W.cell? ⟨bf, 0, none⟩ = some (.map (some b)) := hc
 have HM := Aside0.mk hm
 clear hm hc hbox
 go_enter Try.func53, Try.ntmps53
 go_wp2_with (at_lookup; refine hold_on ?_)
 refine Hold.mk ?_
 refine map_look _ rfl _ _ 63 rfl 9 4 Try.underlying9 Try.underlying63 (zero63 _) HM.out s hs rfl rfl ?_
 go_wp2
 go_ret
 exact ⟨rfl, rfl⟩

set_option maxHeartbeats 2000000 in
theorem lit52 (A0 : Option Addr) (c0 : Nat) (l0 : List S36) (b0 b bf nf : Nat) (F : ByteArray → Bool) (W : World) (hr0 : Kd.C k36 W A0 l0.length l0) (hbox0 : W.heap[b0]? = some (.cells #[.slice A0 l0.length c0] 23 (0, 0))) (hbox : W.heap[bf]? = some (.cells #[.map (some b)] 63 (0, 0)))
  (hm : MapIs Try.prog 9 W b nf (.bool false) (fun s => .bool (F s))) (i : Int) (h0 : 0 ≤ i) (h1 : i < (l0.length : Int)) (hsm : ∀ s, s ∈ (rd_T36 l0 i).f2 → s.size ≤ 64) :
  Calls Try.prog 52 #[.int .i64 i, .pointer (some ⟨b0, 0, none⟩), .pointer (some ⟨bf, 0, none⟩)] W fun e w' => e = .returned (.bool ((rd_T36 l0 i).f2.any F)) ∧ Below W.heap.size W w' := by
 have hcell : W.cell? ⟨b0, 0, none⟩ = some (.slice A0 l0.length c0) := blk_cell hbox0 0
 have e53 : ∀ args w, (callFunc 53 args).run Try.prog w = .ok (.enter 53 args) w := enters_of Try.func53 (by kernel_rfl) rfl
 obtain ⟨ad0, B1, d1, B2, d2, e0, h0', h1', h2, g1, k1, g2, k2⟩ := at_T36 hr0 i h0 h1
 subst e0
 have hcon := contains28 F 53 #[.pointer (some ⟨bf, 0, none⟩)] e53 B2 d2 (rd_T36 l0 i).f2 W k2 (fun x hx W1 hW1 => by
  refine (lit53 b bf nf F W1 ((hW1.block _ (blk_lt hbox)).trans hbox) (hm.below hW1) x (by have := hsm x hx; unfold maxLen; omega)).mono ?_
  rintro e w' ⟨rfl, rfl⟩
  exact ⟨rfl, hW1⟩)
 have HC := Aside0.mk hcon
 have hu36 := Try.underlying36
 generalize (rd_T36 l0 i).f2.any F = q at HC ⊢
 clear hcon hm hbox hsm g1 k1 k2 h0' h1'
 go_enter Try.func52, Try.ntmps52
 go_wp2_with (go_at_call 28; refine HC.out.mono ?_; rintro e w' ⟨rfl, hb'⟩)
 go_ret
 exact ⟨rfl, hb'⟩

set_option maxHeartbeats 4000000 in
set_option maxRecDepth 100000 in
theorem fine36 (A0 : Option Addr) (c0 : Nat) (l0 : List S36) (A1 : Option Addr) (c1 : Nat) (l1 : List Int) (w : World) (hr0 : Kd.C k36 w A0 l0.length l0) (hr1 : Kd.C (Kd.int .i64) w A1 l1.length l1) (hok : fineOk l0 l1 = true) :
  Calls Try.prog 36 #[.slice A0 l0.length c0, .slice A1 l1.length c1] w fun e w' => e = .returned (.bool (fineB l0 l1)) ∧ Below w.heap.size w w' := by
 have hmm := @run_makeMap Try.prog
 have HR0 := Aside0.mk hr0
 have HR1 := Aside0.mk hr1
 have OK := Aside0.mk hok
 have hl1 := fineOk_len hok
 have START := Aside0.mk (FS.start w A0 l0.length c0)
 clear hr0 hr1 hok
 go_enter Try.func36, Try.ntmps36
 go_wp2
 clear hmm
 go_loopg [7, 20] l1.length (fun gg s7 s20 wr => ∃ (kk : Nat) (tag : Tag) (v : ByteArray → Value) (nn : Nat), kk ≤ l1.length ∧ l1.length - kk ≤ gg ∧ s20 = .int .i64 kk ∧ Aside0 (FS w wr A0 l0.length c0 tag s7 (bases (mustOf l0 (l1.take kk))) v (nexts (mustOf l0 (l1.take kk))) (fun _ => .bool false) 0 nn) ∧ Aside0 (nn ≤ 8 * kk ∧ (mustOf l0 (l1.take kk)).length ≤ 8 * kk))
 case atStart => exact ⟨0, fun _ => none, fun _ => .slice none 0 0, 0, Nat.zero_le _, by omega, rfl, START, ⟨by simp [mustOf]⟩⟩
 case round =>
  clear START
  obtain ⟨kk, tag, v, nn, hkk, hgg, rfl, F, LN⟩ := hrel
  by_cases hlt : kk < l1.length
  ·obtain ⟨q0, q1, q2⟩ := fineOk_at OK.out kk hlt
   obtain ⟨y, hy⟩ : ∃ y, rd l1 kk = y := ⟨_, rfl⟩
   obtain ⟨ad1, e1, hc1⟩ := Kd.at_int HR1.out (kk : Int) (by omega) (by omega)
   subst e1
   rw [hy] at q0 q1 q2 hc1
   rw [Int.toNat_natCast] at hc1
   have hc1' : wr.cell? (ad1.add kk) = some (.int .i64 y) := (F.out.below.cell (World.block_lt_of_cell? w _ hc1)).trans hc1
   have hbox : wr.cell? ⟨w.heap.size, 0, none⟩ = some (.slice A0 l0.length c0) := blk_cell F.out.box0 0
   obtain ⟨ad0, B1, d1, B2, d2, e0, h0, h1, h2, g1, k1, g2, k2⟩ := at_T36 HR0.out y q0 q1
   subst e0
   have h1' := (F.out.below.cell (World.block_lt_of_cell? w _ h1)).trans h1
   obtain ⟨M, hM⟩ : ∃ M, mustOf l0 (l1.take kk) = M := ⟨_, rfl⟩
   have hM1 := mustOf_succ l0 l1 kk hlt
   rw [hM, hy] at hM1
   rw [hM] at F LN
   obtain ⟨Cs, hCs⟩ : ∃ c, rd_T36 l0 y = c := ⟨_, rfl⟩
   rw [hCs] at hM1 h1' g1 k1 q2
   obtain ⟨s1, s2, s3, s4⟩ := smallC_len q2
   have HM1 := Aside0.mk hM1
   have K1 := Aside0.mk k1
   have S3 := Aside0.mk s3
   clear hM1 k1 k2 s4 s3 q2 h0 h1 h2 g2 hCs hM hy hc1
   have hltz : (kk : Int) < (l1.length : Int) := by omega
   have hu36 := Try.underlying36
   have hmax : Cs.f1.length ≤ 9223372036854775807 := by omega
   go_wp2
   obtain ⟨wo, rfl⟩ : ∃ wo : World, wo = wr := ⟨_, rfl⟩
   clear h1' hbox hc1'
   go_loopg [7, 30] Cs.f1.length (fun gg s7 s30 wr => ∃ (jj : Nat) (tag : Tag) (v : ByteArray → Value) (nn : Nat), jj ≤ Cs.f1.length ∧ Cs.f1.length - jj ≤ gg ∧ s30 = .int .i64 jj ∧ Aside0 (FS w wr (some ad0) l0.length c0 tag s7 (bases (M ++ Cs.f1.take jj)) v (nexts (M ++ Cs.f1.take jj)) (fun _ => .bool false) 0 nn) ∧ Aside0 (nn ≤ 8 * kk + jj))
   case atStart => exact ⟨0, tag, v, nn, Nat.zero_le _, by omega, rfl, ⟨by rw [List.take_zero, List.append_nil]; exact F.out⟩, ⟨by have := LN.out.1; omega⟩⟩
   case round =>
    clear F
    obtain ⟨jj, tag, v, nn, hjj, hgj, rfl, F, NN⟩ := hrel
    by_cases hlj : jj < Cs.f1.length
    ·obtain ⟨s, hs⟩ : ∃ s, Cs.f1.getD jj ByteArray.empty = s := ⟨_, rfl⟩
     obtain ⟨ad3, e3, hc3⟩ := Kd.at_string K1.out (jj : Int) (by omega) (by omega)
     subst e3
     have hc3' : w.cell? (ad3.add jj) = some (.string s) := by rw [← hs]; exact hc3
     have hc4 := (F.out.below.cell (World.block_lt_of_cell? w _ hc3')).trans hc3'
     have hsz : s.size ≤ 64 := by rw [← hs]; exact S3.out _ (getD_mem _ _ _ hlj)
     have htake : Cs.f1.take (jj + 1) = Cs.f1.take jj ++ [s] := by
      rw [List.take_succ_eq_append_getElem hlj, ← hs]
      simp [List.getD_eq_getElem?_getD, List.getElem?_eq_getElem hlj]
     have HT := Aside0.mk htake
     have hcsz := cutP_snd_size s
     have hcut : ∀ W, Calls Try.prog 47 #[.string s, .string ⟨#[62]⟩] W fun e w' => e = .returned (.tuple #[.string (cutP s).1, .string (cutP s).2.1, .bool (cutP s).2.2]) ∧ Drawn0 W w' := fun W => strings_Cut.calls s ⟨#[62]⟩ _ _ _ W (by unfold strings_Cut.f; rw [if_pos ⟨rfl, by omega⟩])
     have hML : (M ++ Cs.f1.take jj).length ≤ 8 * kk + 8 := by
      have := LN.out.2
      simp only [List.length_append, List.length_take]
      omega
     obtain ⟨M2, hM2⟩ : ∃ M2, M ++ Cs.f1.take jj = M2 := ⟨_, rfl⟩
     have hM3 : M ++ Cs.f1.take (jj + 1) = M2 ++ [s] := by rw [htake, ← List.append_assoc, hM2]
     rw [hM2] at F hML
     have HM3 := Aside0.mk hM3
     have by_ := bases_yes M2 s
     have bn_ := bases_no M2 s
     have ny_ := nexts_yes M2 s
     have nn_ := nexts_no M2 s
     clear hc3 hc3' hs htake hM2 hM3
     obtain ⟨a, ha⟩ : ∃ a, (cutP s).1 = a := ⟨_, rfl⟩
     obtain ⟨b, hb⟩ : ∃ b, (cutP s).2.1 = b := ⟨_, rfl⟩
     rw [ha] at hcut hcsz ny_
     rw [hb] at hcut hcsz ny_
     have hltj : (jj : Int) < (Cs.f1.length : Int) := by omega
     cases hc : (cutP s).2.2 with
     | true =>
      rw [hc] at hcut
      have BY := Aside0.mk (by_ hc)
      have NY := Aside0.mk (ny_ hc)
      have HCUT := Aside0.mk hcut
      have hsa : a.size ≤ maxLen := by unfold maxLen; omega
      clear by_ bn_ ny_ nn_ hcut ha hb hc
      go_wp2_with (first | (go_at_call 47; refine (HCUT.out _).mono ?_; rintro e w2 ⟨rfl, hd⟩) | (at_lookup; refine hold_on ?_))
      refine Hold.mk ?_
      have F2 := Aside0.mk (F.out.drawn hd)
      clear hd F
      refine map_look _ rfl _ _ 64 rfl 9 34 Try.underlying9 Try.underlying64 (zero64 _) F2.out.nxt a hsa rfl rfl ?_
      go_wp2_with (at_builtin; refine hold_on ?_)
      refine Hold.mk ?_
      have F3 := Aside0.mk ((F2.out.alloc (.cells #[.string b] 9)).retag (some (some a)))
      refine SR.append rfl _ _ rfl (some ⟨w2.heap.size, 0, none⟩) 1 1 rfl rfl (F3.out.own a) (ys := [b]) rfl (.inr ⟨by decide, _, rfl, ?hcell⟩) ?hbound (below_size F3.out.below) (fun k hk => tagK_new hk) ?_
      case hcell => exact cell_one_str w2 b
      case hbound =>
       have := nexts_len M2 a
       omega
      intro v1 w3 hs1 hg hat
      go_wp2_with (at_mapUpdate; refine hold_on ?_)
      refine Hold.mk ?_
      refine map_write _ rfl _ _ _ 64 rfl 9 34 Try.underlying9 Try.underlying64 (F3.out.nxt_after a hg) (by have := NN.out; unfold maxLen; omega) a hsa v1 rfl rfl rfl ?_
      intro w4 hm4 hg4
      have F4 := Aside0.mk (F3.out.key_store a hs1 hg (by simp) hm4 hg4)
      clear F2 F3 hs1 hg hat hm4 hg4 hsa HCUT
      go_wp2
      go_roundg (Cs.f1.length - (jj + 1))
      case measure => omega
      case rel =>
       have F5 := F4.out
       rw [← NY.out, ← BY.out, ← HM3.out] at F5
       exact ⟨jj + 1, _, _, nn + 1, by omega, by omega, by go_num, ⟨F5⟩, ⟨by have := NN.out; omega⟩⟩
     | false =>
      rw [hc] at hcut
      have BN := Aside0.mk (bn_ hc)
      have NN_ := Aside0.mk (nn_ hc)
      have HCUT := Aside0.mk hcut
      clear by_ bn_ ny_ nn_ hcut ha hb hc
      go_wp2_with (first | (go_at_call 47; refine (HCUT.out _).mono ?_; rintro e w2 ⟨rfl, hd⟩) | (at_builtin; refine hold_on ?_))
      refine Hold.mk ?_
      have F2 := Aside0.mk (((F.out.drawn hd).alloc (.cells #[.string s] 9)).retag (some none))
      clear hd F
      refine SR.append rfl _ _ rfl (some ⟨w2.heap.size, 0, none⟩) 1 1 rfl rfl F2.out.lst (ys := [s]) rfl (.inr ⟨by decide, _, rfl, ?hcell⟩) ?hbound (below_size F2.out.below) (fun k hk => tagK_new hk) ?_
      case hcell => exact cell_one_str w2 s
      case hbound =>
       have := bases_len M2
       omega
      intro v1 w3 hs1 hg hat
      have F4 := Aside0.mk (F2.out.pushed hs1 hg)
      clear F2 hs1 hg hat HCUT
      go_wp2
      go_roundg (Cs.f1.length - (jj + 1))
      case measure => omega
      case rel =>
       have F5 := F4.out
       rw [← NN_.out, ← BN.out, ← HM3.out] at F5
       exact ⟨jj + 1, _, _, nn, by omega, by omega, by go_num, ⟨F5⟩, ⟨by have := NN.out; omega⟩⟩
    ·obtain rfl : jj = Cs.f1.length := by omega
     have hltj : ¬ (Cs.f1.length : Int) < (Cs.f1.length : Int) := by omega
     rw [List.take_length] at F
     go_wp2
     go_roundg (l1.length - (kk + 1))
     case measure => omega
     case rel =>
      refine ⟨kk + 1, tag, v, nn, by omega, by omega, by go_num, ⟨?_⟩, ⟨?_⟩⟩
      ·rw [HM1.out]; exact F.out
      ·rw [HM1.out]
       have := NN.out
       have := LN.out.2
       simp only [List.length_append]
       omega
  ·obtain rfl : kk = l1.length := by omega
   have hltz : ¬ (l1.length : Int) < (l1.length : Int) := by omega
   rw [List.take_length] at F LN
   have MS := Aside0.mk (mustOf_size OK.out)
   obtain ⟨M, hM⟩ : ∃ M, mustOf l0 l1 = M := ⟨_, rfl⟩
   rw [hM] at F LN MS
   have HMM := Aside0.mk hM
   clear hM
   go_wp2
   obtain ⟨wo, rfl⟩ : ∃ wo : World, wo = wr := ⟨_, rfl⟩
   go_loopg [7] (2 * M.length) (fun gg s7 wr => ∃ (tag : Tag) (L : List ByteArray) (G : ByteArray → Bool) (nf : Nat), Aside0 (FS w wr A0 l0.length c0 tag s7 L v (nexts M) (fun s => .bool (G s)) nf nn) ∧ Aside0 (WL M G L) ∧ wms M G L ≤ gg ∧ nf + wms M G L ≤ 2 * M.length)
   case atStart => exact ⟨tag, bases M, fun _ => false, 0, F, ⟨WL.start M⟩, wms_start M, by have := wms_start M; omega⟩
   case round =>
    clear F
    obtain ⟨tag, L, G, nf, F, WW, hms, hnf⟩ := hrel
    obtain ⟨A, c, rfl, hc⟩ := F.out.lst.slice
    have hbf := blk_cell F.out.boxf 0
    have hbf' : wr.cell? ⟨w.heap.size + 2, 0, none⟩ = some (.map (some (w.heap.size + 1))) := hbf
    cases L with
    | nil =>
     have hz : ([] : List ByteArray).length = 0 := rfl
     rw [hz]
     have e52 : ∀ args w, (callFunc 52 args).run Try.prog w = .ok (.enter 52 args) w := enters_of Try.func52 (by kernel_rfl) rfl
     have hB := F.out.below
     have hcon := contains51 (fun i => (rd_T36 l0 i).f2.any G) 52 #[.pointer (some ⟨w.heap.size, 0, none⟩), .pointer (some ⟨w.heap.size + 2, 0, none⟩)] e52 A1 c1 l1 wr (Kd.C_below HR1.out hB) (fun x hx W1 hW1 => by
      obtain ⟨k, hk, rfl⟩ : ∃ k, k < l1.length ∧ x = rd l1 k := by
       obtain ⟨k, hk, rfl⟩ := List.getElem_of_mem hx
       exact ⟨k, hk, by simp [rd, List.getD_eq_getElem?_getD, List.getElem?_eq_getElem hk]⟩
      obtain ⟨q0, q1, q2⟩ := fineOk_at OK.out k hk
      refine (lit52 A0 c0 l0 w.heap.size (w.heap.size + 1) (w.heap.size + 2) nf G W1 (Kd.C_below (Kd.C_below HR0.out hB) hW1) ((hW1.block _ (blk_lt F.out.box0)).trans F.out.box0) ((hW1.block _ (blk_lt F.out.boxf)).trans F.out.boxf) (F.out.fol.below hW1) (rd l1 k) q0 q1 (smallC_len q2).2.2.2).mono ?_
      rintro e w' ⟨rfl, hb'⟩
      exact ⟨rfl, below_then hW1 hW1.size hb'⟩)
     have HC := Aside0.mk hcon
     have HF := Aside0.mk (fineB_any l0 l1 G (by rw [HMM.out]; exact WW.out))
     have HB := Aside0.mk hB
     have HSZ := Aside0.mk F.out.size
     clear hcon hB F WW
     go_wp2_with (go_at_call 51; refine HC.out.mono ?_; rintro e w' ⟨rfl, hb'⟩)
     go_ret
     exact ⟨by rw [HF.out]; rfl, below_then HB.out (by have := HSZ.out; omega) hb'⟩
    | cons s r =>
     obtain ⟨m, hm⟩ : ∃ m, (s :: r).length = m := ⟨_, rfl⟩
     have hm1 : m = r.length + 1 := by rw [← hm]; rfl
     have hpos : (0 : Int) < (m : Int) := by omega
     have hS : s.size ≤ 64 := Fol.size MS.out (WW.out.sound s (.inr List.mem_cons_self))
     have hSm : s.size ≤ maxLen := by unfold maxLen; omega
     obtain ⟨ad, rfl, hcl⟩ := F.out.lst.cells (by rw [List.length_cons]; omega)
     have hs0 : wr.cell? (ad.add 0) = some (.string s) := hcl 0 _ rfl
     have had : ad.add 0 = ad := by simp [Addr.add]
     have hs1 : wr.cell? ad = some (.string s) := by rw [← hs0, had]
     obtain ⟨i0, hi0, _, hsz0, _⟩ := info_parts info9
     have hslt := F.out.lst
     obtain ⟨gF, hgF⟩ : ∃ gF : ByteArray → Value, gF = fun s => .bool (G s) := ⟨_, rfl⟩
     rw [← hgF] at F
     have HGF := Aside0.mk hgF
     rw [hm] at F hc ⊢
     have HM := Aside0.mk hm
     have HM1 := Aside0.mk hm1
     cases hG : G s with
     | true =>
      have hgs : gF s = .bool true := by rw [hgF, ← hG]
      obtain ⟨B1, hB1⟩ : ∃ B1 : Option Addr, B1 = if c = 1 then some ad else (some ad).map (·.add 1) := ⟨_, rfl⟩
      obtain ⟨d1, hd1⟩ : ∃ d1, d1 = c - 1 := ⟨_, rfl⟩
      have hcut : ∀ W, (Instr.slice 34 (.slice (some ad) m c) (some (.int .i64 1)) none none).run Try.prog W = .ok (.slice B1 r.length d1) W := by
       intro W
       have := cut_from (P := Try.prog) 34 9 .i64 Try.underlying34 hi0 1 hsz0 (some ad) m c 1 (by omega) (by omega) W
       rw [this, hB1, hd1, hm1]
       rfl
      have hd := hslt.drop1
      rw [← hB1, ← hd1] at hd
      have F2 := Aside0.mk (F.out.cut hd)
      have HGS := Aside0.mk hgs
      clear hB1 hd1 hd hslt hgF hgs hm hm1
      go_wp2_with (at_lookup; refine hold_on ?_)
      refine Hold.mk ?_
      refine map_look _ rfl _ _ 63 rfl 9 4 Try.underlying9 Try.underlying63 (zero63 _) F.out.fol s hSm rfl rfl ?_
      rw [HGS.out]
      clear F
      go_wp2
      go_roundg (wms M G r)
      case measure =>
       have := wms_skip M G s r
       omega
      case rel =>
       have F3 := F2.out
       rw [HGF.out] at F3
       have := wms_skip M G s r
       exact ⟨tag, r, G, nf, ⟨F3⟩, ⟨WW.out.skip hG⟩, Nat.le_refl _, by omega⟩
     | false =>
      have hgs : gF s = .bool false := by rw [hgF, ← hG]
      have HGS := Aside0.mk hgs
      clear hslt hgF hgs hm hm1
      go_wp2_with (at_lookup; refine hold_on ?_)
      refine Hold.mk ?_
      refine map_look _ rfl _ _ 63 rfl 9 4 Try.underlying9 Try.underlying63 (zero63 _) F.out.fol s hSm rfl rfl ?_
      rw [HGS.out]
      go_wp2_with (at_mapUpdate; refine hold_on ?_)
      refine Hold.mk ?_
      refine map_write _ rfl _ _ _ 63 rfl 9 4 Try.underlying9 Try.underlying63 F.out.fol (by have := LN.out.2; have := fineOk_len OK.out; unfold maxLen; omega) s hSm (.bool true) rfl rfl rfl ?_
      intro w4 hm4 hg4
      have F2 := Aside0.mk ((F.out.fol_store hm4 hg4).retag (some none))
      clear hm4 hg4 F hbf hbf' hs0 hs1 hcl
      obtain ⟨An, mn, cn, hv, hmn, hA⟩ := F2.out.at_key s
      have HV := Aside0.mk hv
      have HMN := Aside0.mk hmn
      have HA := Aside0.mk hA
      clear hv hmn hA
      go_wp2_with (at_lookup; refine hold_on ?_)
      refine Hold.mk ?_
      refine map_look _ rfl _ _ 64 rfl 9 34 Try.underlying9 Try.underlying64 (zero64 _) F2.out.nxt s hSm rfl rfl ?_
      rw [HV.out]
      go_wp2_with (at_builtin; refine hold_on ?_)
      refine Hold.mk ?_
      refine SR.append rfl _ _ rfl An mn cn rfl rfl F2.out.lst (ys := nexts M s) HMN.out HA.out ?hbound (below_size F2.out.below) (fun k hk => tagK_new hk) ?_
      case hbound =>
       have h1 := nexts_len M s
       have h2 := HMN.out
       have h3 := LN.out.2
       have h4 : (s :: r).length ≤ wms M G (s :: r) := Nat.le_add_right _ _
       have h5 := hl1
       omega
      intro v1 w3 hs1 hg hat
      obtain ⟨A3, c3, rfl, hc3⟩ := hs1.slice
      have F4 := Aside0.mk (F2.out.pushed hs1 hg)
      clear F2 hg hat HV HMN HA
      obtain ⟨m3, hm3⟩ : ∃ m3, (s :: r ++ nexts M s).length = m3 := ⟨_, rfl⟩
      rw [hm3] at hs1 F4 hc3 ⊢
      have hm4 : m3 = (r ++ nexts M s).length + 1 := by rw [← hm3]; rfl
      obtain ⟨B1, hB1⟩ : ∃ B1 : Option Addr, B1 = if c3 = 1 then A3 else A3.map (·.add 1) := ⟨_, rfl⟩
      obtain ⟨d1, hd1⟩ : ∃ d1, d1 = c3 - 1 := ⟨_, rfl⟩
      have hcut : ∀ W, (Instr.slice 34 (.slice A3 m3 c3) (some (.int .i64 1)) none none).run Try.prog W = .ok (.slice B1 (r ++ nexts M s).length d1) W := by
       intro W
       have := cut_from (P := Try.prog) 34 9 .i64 Try.underlying34 hi0 1 hsz0 A3 m3 c3 1 (by omega) (by omega) W
       rw [this, hB1, hd1, hm4]
       rfl
      have hd := SR.drop1 (s := s) (r := r ++ nexts M s) hs1
      rw [← hB1, ← hd1] at hd
      have F5 := Aside0.mk (F4.out.cut hd)
      clear F4 hd hs1 hm3 hm4 hB1 hd1
      go_wp2
      go_roundg (wms M (putF G s) (r ++ nexts M s))
      case measure =>
       have := wms_take M G s r hG
       omega
      case rel =>
       have F6 := F5.out
       rw [HGF.out, putF_bool, List.length_append] at F6
       have := wms_take M G s r hG
       exact ⟨_, r ++ nexts M s, putF G s, nf + 1, ⟨F6⟩, ⟨WW.out.take⟩, Nat.le_refl _, by omega⟩

theorem licence_fine.calls (A0 : Option Addr) (c0 : Nat) (l0 : List S36) (A1 : Option Addr) (c1 : Nat) (l1 : List Int) (r : Bool) (w : World) (hr0 : Kd.C k36 w A0 l0.length l0) (hc0 : l0.length ≤ c0) (hr1 : Kd.C (Kd.int .i64) w A1 l1.length l1) (hc1 : l1.length ≤ c1) (h : licence_fine.f l0 l1 = some r) :
  Calls Try.prog 36 #[.slice A0 l0.length c0, .slice A1 l1.length c1] w fun e w' => e = .returned (.bool r) ∧ Below w.heap.size w w' := by
 unfold licence_fine.f at h
 split at h
 case isFalse => cases h
 rename_i hb
 simp only [Option.some.injEq] at h
 subst h
 exact fine36 A0 c0 l0 A1 c1 l1 w hr0 hr1 hb
end Go.Proofs.Ytjagffomohbioaa.L

/- Walk: slices.Concat (and slices.Grow at the nil slice): at most a million elements. -/
set_option linter.unusedVariables false
set_option linter.unusedSimpArgs false
namespace Go.Proofs.Ytjagffomohbioaa.L
open Go.RowKit Go.Lib Go.Proofs.YtjagffomohbioaaW.PrintWords Go.Proofs.YtjagffomohbioaaW.PrintLast Go.Proofs.YtjagffomohbioaaW.PrintMore

set_option maxHeartbeats 4000000 in
set_option maxRecDepth 100000 in
/-- slices.Grow of nil. -/
theorem grow60 (n : Nat) (hn : n ≤ 1000000) (w : World) :
  Calls Try.prog 60 #[.slice none 0 0, .int .i64 n] w fun e w' => ∃ v, e = .returned v ∧ Kd.R (Kd.int .i64) 3 w' w.heap.size (fun _ => True) v [] ∧ Below w.heap.size w w' := by
 rcases Nat.eq_zero_or_pos n with rfl | hpos
 ·go_enter Try.func60, Try.ntmps60
  go_wp2
  go_ret
  exact ⟨_, rfl, Kd.R_nil _ _ _ _ _, Below.refl _ _⟩
 ·have h1 : ¬ ((n : Int) < 0) := by omega
  have h4 : (0 : Int) < (n : Int) := by omega
  obtain ⟨i0, hi, hz0, hz1, hz2⟩ := info_parts info3
  have hge := grownCap_ge w (0 + n) 0 3
  have hle := grownCap_le_maxLen w (0 + n) 0 3 (by unfold maxLen; omega)
  have hrz : ∀ ty, (Builtin.append_ #[22, 3] ty #[.slice none 0 0, .int .i64 n]).run Try.prog w = .ok (.slice (some ⟨w.heap.size, 0, none⟩) (0 + n) (grownCap w (0 + n) 0 3)) (w.drew.alloc (.cells (([] : List Value).toArray ++ Builtin.zeroCells (Value.int .i64 0).cells n ++ Builtin.zeroCells (Value.int .i64 0).cells (grownCap w (0 + n) 0 3 - (0 + n))) 3)) := fun ty =>
   run_append_grow_zeros w 22 3 ty 3 i0 (.int .i64 0) .i64 .i64 Try.underlying22 Try.underlying3 hi hz0 none 0 0 [] (run_firstCells_none w.drew i0.size 0 0 0) n hpos (by omega) (by omega) (by omega) (by rw [hz2]; omega)
    (growslice_fits (by omega) (by rw [hz2]; omega))
  generalize grownCap w (0 + n) 0 3 = G at hrz hge hle
  have hown : (w.drew.alloc (.cells (([] : List Value).toArray ++ Builtin.zeroCells (Value.int .i64 0).cells n ++ Builtin.zeroCells (Value.int .i64 0).cells (G - (0 + n))) 3)).ownsRow w.heap.size 3 1 (.slice (some ⟨w.heap.size, 0, none⟩) 0 G) 0 [] := by
   refine ⟨rfl, .inr ⟨w.heap.size, G, _, rfl, Nat.le_refl _, heap_alloc_new w.drew _, Nat.zero_le _, hle, ?_, rfl⟩⟩
   have hzc : (Value.int .i64 0).cells.size = 1 := rfl
   simp only [Array.size_append, size_zeroCells, hzc]
   simp
   omega
  have hB : Below w.heap.size w (w.drew.alloc (.cells (([] : List Value).toArray ++ Builtin.zeroCells (Value.int .i64 0).cells n ++ Builtin.zeroCells (Value.int .i64 0).cells (G - (0 + n))) 3)) := below_alloc (below_drew (Below.refl _ _)) _
  generalize (w.drew.alloc (.cells (([] : List Value).toArray ++ Builtin.zeroCells (Value.int .i64 0).cells n ++ Builtin.zeroCells (Value.int .i64 0).cells (G - (0 + n))) 3)) = W1 at hrz hown hB
  rw [Nat.zero_add] at hrz hge
  have HO := Aside0.mk hown
  have HB := Aside0.mk hB
  clear hown hB
  have hG63 : G ≤ 9223372036854775807 := by unfold maxLen at hle; omega
  go_enter Try.func60, Try.ntmps60
  go_wp2_with (at_builtin; refine Lib.wpList_append_run _ rfl _ _ _ _ rfl _ _ rfl rfl _ _ (hrz _) ?_)
  go_ret
  exact ⟨_, rfl, Kd.R_of_own HO.out (fun _ _ => trivial), HB.out⟩

theorem flatten_take_succ (l0 : List (List Int)) (k : Nat) (hk : k < l0.length) : (l0.take (k + 1)).flatten = (l0.take k).flatten ++ rd_L4 l0 k := by
 rw [List.take_succ_eq_append_getElem hk, List.flatten_append]
 simp [rd_L4, List.getD_eq_getElem?_getD, List.getElem?_eq_getElem hk]
theorem flatten_take_le (l0 : List (List Int)) (k : Nat) : (l0.take k).flatten.length ≤ l0.flatten.length := by
 have h : (l0.take k ++ l0.drop k).flatten = l0.flatten := by rw [List.take_append_drop]
 have := congrArg List.length h
 rw [List.flatten_append, List.length_append] at this
 omega

set_option maxHeartbeats 4000000 in
set_option maxRecDepth 100000 in
theorem slices_Concat.calls (A0 : Option Addr) (c0 : Nat) (l0 : List (List Int)) (r : List Int) (w : World) (hr0 : Kd.C (Kd.slice 3 (Kd.int .i64)) w A0 l0.length l0) (hc0 : l0.length ≤ c0) (h : slices_Concat.f l0 = some r) :
  Calls Try.prog 43 #[.slice A0 l0.length c0] w fun e w' => ∃ v0_ : Value, e = .returned (v0_) ∧ Kd.R (Kd.int .i64) 3 w' w.heap.size (fun _ => True) v0_ r ∧ Below w.heap.size w w' := by
 unfold slices_Concat.f at h
 split at h
 case isFalse => cases h
 rename_i hb
 simp only [Option.some.injEq] at h
 subst h
 have HR := Aside0.mk hr0
 have HB0 := Aside0.mk hb.1
 have hl0 := hb.2
 clear hr0 hb
 go_enter Try.func43, Try.ntmps43
 go_wp2
 go_loopg [3, 11] l0.length (fun gg s3 s11 wr => ∃ kk : Nat, kk ≤ l0.length ∧ l0.length - kk ≤ gg ∧ wr = w ∧ s11 = .int .i64 kk ∧ s3 = .int .i64 ((l0.take kk).flatten.length : Nat))
 case atStart => exact ⟨0, Nat.zero_le _, by omega, rfl, rfl, rfl⟩
 case round =>
  obtain ⟨kk, hkk, hgg, rfl, rfl, rfl⟩ := hrel
  by_cases hlt : kk < l0.length
  ·obtain ⟨ad, A1, c1, rfl, hcell, hc1, hC1⟩ := at_L4 HR.out (kk : Int) (by omega) (by omega)
   rw [Int.toNat_natCast] at hcell
   have hltz : (kk : Int) < (l0.length : Int) := by omega
   have hs := flatten_take_succ l0 kk hlt
   have hle := flatten_take_le l0 (kk + 1)
   have hB := HB0.out
   have hl := congrArg List.length hs
   rw [List.length_append] at hl
   obtain ⟨m, hm⟩ : ∃ m, (rd_L4 l0 kk).length = m := ⟨_, rfl⟩
   obtain ⟨q, hq⟩ : ∃ q, (l0.take kk).flatten.length = q := ⟨_, rfl⟩
   obtain ⟨q1, hq1⟩ : ∃ q, (l0.take (kk + 1)).flatten.length = q := ⟨_, rfl⟩
   have HQ1 := Aside0.mk hq1
   rw [hm] at hcell hl hc1
   rw [hq, hq1] at hl
   rw [hq1] at hle
   rw [hq]
   have hsum : IntKind.i64.wrap ((q : Int) + (m : Int)) = (q1 : Int) := by rw [IntKind.wrap_i64]; omega
   have hpos : ¬ ((q1 : Int) < 0) := by omega
   clear hs hC1 hq hq1 hm hB
   go_wp2
   go_roundg (l0.length - (kk + 1))
   case measure => omega
   case rel => exact ⟨kk + 1, by omega, by omega, rfl, by go_num, by rw [HQ1.out, ← hsum]; first | rfl | go_num | (rw [IntKind.wrap_i64]; go_num)⟩
  ·obtain rfl : kk = l0.length := by omega
   have hltz : ¬ (l0.length : Int) < (l0.length : Int) := by omega
   rw [List.take_length]
   have HG := Aside0.mk (grow60 l0.flatten.length HB0.out wr)
   obtain ⟨q, hq⟩ : ∃ q, l0.flatten.length = q := ⟨_, rfl⟩
   rw [hq] at HG HB0 ⊢
   have HQ := Aside0.mk hq
   clear hq
   go_wp2_with fail
   refine HG.out.mono ?_
   rintro e w1 ⟨v1, rfl, hR, hB⟩
   have RR := Aside0.mk hR
   have BB := Aside0.mk hB
   clear hR hB HG
   go_wp2
   obtain ⟨w, rfl⟩ : ∃ w : World, w = wr := ⟨_, rfl⟩
   go_loopg [6, 27] l0.length (fun gg s6 s27 wr => ∃ kk : Nat, kk ≤ l0.length ∧ l0.length - kk ≤ gg ∧ s27 = .int .i64 kk ∧ Aside0 (Kd.R (Kd.int .i64) 3 wr w.heap.size (fun _ => True) s6 (l0.take kk).flatten) ∧ Aside0 (Below w.heap.size w wr))
   case atStart => exact ⟨0, Nat.zero_le _, by omega, rfl, RR, BB⟩
   case round =>
    clear RR BB
    obtain ⟨kk, hkk, hgg, rfl, RR, BB⟩ := hrel
    by_cases hlt : kk < l0.length
    ·obtain ⟨ad, A1, c1, rfl, hcell0, hc1, hC1⟩ := at_L4 HR.out (kk : Int) (by omega) (by omega)
     rw [Int.toNat_natCast] at hcell0
     have hcell := (BB.out.cell (World.block_lt_of_cell? w _ hcell0)).trans hcell0
     have hltz : (kk : Int) < (l0.length : Int) := by omega
     have hs := flatten_take_succ l0 kk hlt
     have hle := flatten_take_le l0 (kk + 1)
     rw [hs, List.length_append] at hle
     have HS := Aside0.mk hs
     have HLE := Aside0.mk (Nat.le_trans hle (by rw [HQ.out]; exact HB0.out))
     have HC := Aside0.mk (Kd.C_below hC1 BB.out)
     clear hs hle hcell0 hC1
     obtain ⟨m, hm⟩ : ∃ m, (rd_L4 l0 kk).length = m := ⟨_, rfl⟩
     rw [hm] at hcell hc1 HC HLE
     clear hm
     go_wp2_with (at_builtin; refine Kd.R_append_row (w0 := w) (Value.int .i64) 0 w.heap.size rfl _ _ 22 3 (.int .i64 0) 8 rfl Try.underlying22 info3 rfl (by decide) _ _ (rd_L4 l0 kk) A1 m c1 (fun _ => True) rfl rfl (fun _ _ => trivial) RR.out HC.out BB.out (below_size BB.out) ?hl ?_)
     case hl =>
      have := HLE.out
      omega
     intro v1 w3 hR hB2 hg hat
     have RR2 := Aside0.mk hR
     have BB2 := Aside0.mk hB2
     clear hR hB2 hg hat RR BB HC HLE
     go_wp2
     go_roundg (l0.length - (kk + 1))
     case measure => omega
     case rel => exact ⟨kk + 1, by omega, by omega, by go_num, ⟨by rw [HS.out]; exact RR2.out⟩, BB2⟩
    ·obtain rfl : kk = l0.length := by omega
     have hltz : ¬ (l0.length : Int) < (l0.length : Int) := by omega
     rw [List.take_length] at RR
     go_wp2
     go_ret
     exact ⟨_, rfl, RR.out, BB.out⟩
end Go.Proofs.Ytjagffomohbioaa.L

/- Walk: licence.Core. -/
set_option linter.unusedVariables false
set_option linter.unusedSimpArgs false
namespace Go.Proofs.Ytjagffomohbioaa.L
open Go.RowKit Go.Proofs.YtjagffomohbioaaW.PrintWords Go.Proofs.YtjagffomohbioaaW.PrintLast Go.Proofs.YtjagffomohbioaaW.PrintMore

structure CW (w wr : World) (S : Nat) (A2 : Option Addr) (c2 : Nat) (all : List Int) : Prop where
 below : Below w.heap.size w wr
 base : w.heap.size ≤ S
 size : S ≤ wr.heap.size
 ra : Kd.R (Kd.int .i64) 3 wr w.heap.size (fun k => k < S) (.slice A2 all.length c2) all
section
variable {w wr w1 : World} {S : Nat} {A2 : Option Addr} {c2 : Nat} {all : List Int}
theorem CW.step (h : CW w wr S A2 c2 all) (hb : Below wr.heap.size wr w1) : CW w w1 S A2 c2 all :=
 ⟨below_then h.below (below_size h.below) hb, h.base, Nat.le_trans h.size hb.size, Kd.R_below h.ra hb⟩
theorem CW.alloc (h : CW w wr S A2 c2 all) (o : Obj) : CW w (wr.alloc o) S A2 c2 all := h.step (below_alloc (Below.refl _ _) o)
theorem CW.set (h : CW w wr S A2 c2 all) {g : Nat} (hg : S ≤ g) (j : Nat) (u : Value) : CW w (wr.setCell ⟨g, j, none⟩ u) S A2 c2 all :=
 ⟨below_set h.below (Nat.le_trans h.base hg), h.base, by simpa [World.setCell] using h.size, Kd.R_far h.ra (fun k hk => by show k ≠ g; omega) u⟩
theorem CW.at_ (h : CW w wr S A2 c2 all) (i : Int) (h0 : 0 ≤ i) (h1 : i < (all.length : Int)) : ∃ ad, A2 = some ad ∧ wr.cell? (ad.add i.toNat) = some (.int .i64 (rd all i)) := by
 have := Kd.at_int (Kd.R_reads' h.ra).2.2 i h0 h1
 exact this
end

set_option maxHeartbeats 4000000 in
set_option maxRecDepth 100000 in
theorem core18 (A0 : Option Addr) (c0 : Nat) (l0 : List S36) (A1 : Option Addr) (c1 : Nat) (l1 : List Int) (w : World) (hr0 : Kd.C k36 w A0 l0.length l0) (hc0 : l0.length ≤ c0) (hr1 : Kd.C (Kd.int .i64) w A1 l1.length l1) (hc1 : l1.length ≤ c1) (hb : l0.all boundC = true) (hl : l1.length ≤ 1000000) :
  Calls Try.prog 18 #[.slice A0 l0.length c0, .slice A1 l1.length c1] w fun e w' => ∃ v0_ : Value, e = .returned (v0_) ∧ Kd.R (Kd.int .i64) 3 w' w.heap.size (fun _ => True) v0_ (coreP l0 l1) ∧ Below w.heap.size w w' := by
 have HS := Aside0.mk (licence_sorted.calls A0 c0 l0 A1 c1 l1 (sortedP l0 l1) w hr0 hc0 hr1 hc1 (by unfold licence_sorted.f; rw [if_pos hl]))
 have HR0 := Aside0.mk hr0
 have HB := Aside0.mk hb
 have HC0 := Aside0.mk hc0
 have INC := Aside0.mk (sortedP_incr l0 l1)
 have FOK := Aside0.mk (fun h => fineOk_sorted l1 (l0 := l0) h)
 have FPK := Aside0.mk (fun (h : validP l0 = true) n u (hn : n ≤ 1000) hu => fineOk_pick l1 h (n := n) (u := u) hu hn)
 have CP : coreP l0 l1 = if validP l0 = true then (if (sortedP l0 l1).length ≤ 16 then (if fineB l0 (sortedP l0 l1) = true then [] else leastP (fun x => !fineB l0 x) (sortedP l0 l1)) else []) else [] := rfl
 obtain ⟨core, hcore⟩ : ∃ c, coreP l0 l1 = c := ⟨_, rfl⟩
 rw [hcore] at CP ⊢
 obtain ⟨all, hall⟩ : ∃ a, sortedP l0 l1 = a := ⟨_, rfl⟩
 rw [hall] at CP HS INC FOK FPK
 have CPA := Aside0.mk CP
 clear CP hr0 hc0 hr1 hb hcore hall hc1 hl
 go_enter Try.func18, Try.ntmps18
 go_wp2
 go_step3
 go_wp2_with fail
 refine HS.out.mono ?_
 rintro e w1 ⟨v1, rfl, hR, hB⟩
 obtain ⟨A2, c2, rfl, hc2, hC2⟩ := Kd.R_reads hR
 have RA := Aside0.mk (Kd.R_mono (Kd.R_bound hR) (fun k hk => hk.2.2.1))
 have BW := Aside0.mk hB
 have C2 := Aside0.mk hC2
 clear hR hB hC2 HS
 have HV := Aside0.mk (licence_Valid.calls A0 c0 l0 (validP l0) w1 (Kd.C_below HR0.out BW.out) HC0.out (by unfold licence_Valid.f; rw [if_pos HB.out]))
 cases hv : validP l0 with
 | false =>
  rw [hv] at HV
  go_wp2_with (go_at_call 11; refine HV.out.mono ?_; rintro e w2 ⟨rfl, hB2⟩)
  rw [Exit.noGoto_ret]
  go_ret
  refine ⟨_, rfl, ?_, below_then BW.out (below_size BW.out) hB2⟩
  have h := CPA.out
  rw [hv, if_neg Bool.false_ne_true] at h
  rw [h]
  exact Kd.R_nil _ _ _ _ _
 | true =>
  rw [hv] at HV
  by_cases h16 : all.length ≤ 16
  ·have HF := fun w2 (hB2 : Below w1.heap.size w1 w2) => licence_fine.calls A0 c0 l0 A2 c2 all (fineB l0 all) w2 (Kd.C_below (Kd.C_below HR0.out BW.out) hB2) HC0.out (Kd.C_below C2.out hB2) hc2 (by unfold licence_fine.f; rw [if_pos (FOK.out hv)])
   have HFA := Aside0.mk HF
   clear HF
   have h16z : ¬ ((all.length : Int) > 16) := by omega
   cases hf : fineB l0 all with
   | true =>
    rw [hf] at HFA
    go_wp2_with (first | (go_at_call 11; refine HV.out.mono ?_; rintro e w2 ⟨rfl, hB2⟩) | (go_at_call 36; refine (HFA.out _ hB2).mono ?_; rintro e w3 ⟨rfl, hB3⟩))
    rw [Exit.noGoto_ret]
    go_ret
    refine ⟨_, rfl, ?_, below_then (below_then BW.out (below_size BW.out) hB2) (Nat.le_trans (below_size BW.out) hB2.size) hB3⟩
    have h := CPA.out
    rw [hv, if_pos rfl, if_pos h16, hf, if_pos rfl] at h
    rw [h]
    exact Kd.R_nil _ _ _ _ _
   | false =>
    rw [hf] at HFA
    go_wp2_with (first | (go_at_call 11; refine HV.out.mono ?_; rintro e w2 ⟨rfl, hB2⟩) | (go_at_call 36; refine (HFA.out _ hB2).mono ?_; rintro e w3 ⟨rfl, hB3⟩))
    obtain ⟨S, hS⟩ : ∃ S, w3.heap.size = S := ⟨_, rfl⟩
    have hBB := below_then (below_then BW.out (below_size BW.out) hB2) (Nat.le_trans (below_size BW.out) hB2.size) hB3
    have CC := Aside0.mk (show CW w w3 S A2 c2 all from ⟨hBB, by rw [← hS]; exact below_size hBB, Nat.le_of_eq hS.symm, Kd.R_mono (Kd.R_bound (Kd.R_below (Kd.R_below RA.out hB2) hB3)) (fun k hk => by rw [← hS]; exact hk.2.2.1)⟩)
    clear hB2 hB3 hBB RA BW C2 HV HFA hS
    go_wp2
    go_step3
    go_wp2
    obtain ⟨m, hm⟩ : ∃ m, all.length = m := ⟨_, rfl⟩
    rw [hm]
    go_loopg [7] (m + 1) (fun gg s7 wr => ∃ nn : Nat, 1 ≤ nn ∧ nn ≤ m + 1 ∧ m + 1 - nn ≤ gg ∧ s7 = .int .i64 nn ∧ Aside0 (CW w wr S A2 c2 all) ∧ Aside0 (∀ n' u, 1 ≤ n' → n' < nn → IncV m n' u → fineB l0 (pickOf all n' u) = true))
    case atStart => exact ⟨1, Nat.le_refl _, by omega, by omega, rfl, CC, ⟨fun n' u h1 h2 => by omega⟩⟩
    case round =>
     clear CC
     obtain ⟨nn, hn1, hnm, hgg, rfl, CC, SM⟩ := hrel
     by_cases hle : nn ≤ m
     case neg =>
      exfalso
      have := SM.out m (fun i => (i : Int)) (by
       rcases Nat.eq_zero_or_pos m with h | h
       ·rw [h] at hm
        rw [List.length_eq_zero_iff.1 hm, fineB_nil] at hf
        cases hf
       ·exact h) (by omega) (IncV.first (Nat.le_refl _))
      rw [← hm, pick_all, hf] at this
      cases this
     case pos =>
      have hlez : (nn : Int) ≤ (all.length : Int) := by omega
      have hmk := print_make (P := Try.prog) 22 3 .i64 8 Try.underlying22 info3 (by decide) nn (by omega)
      go_wp2
      obtain ⟨wo, rfl⟩ : ∃ wo : World, wo = wr := ⟨_, rfl⟩
      have hgS := CC.out.size
      have IB0 := Aside0.mk (IB.made wo nn)
      have CC0 := Aside0.mk (CC.out.alloc (.cells (madeCells #[.int .i64 0] nn) 3))
      obtain ⟨g, hg⟩ : ∃ g, wo.heap.size = g := ⟨_, rfl⟩
      rw [hg] at IB0 hgS ⊢
      go_loopg [41] nn (fun gg s41 W => ∃ k : Nat, k ≤ nn ∧ nn - k ≤ gg ∧ s41 = .int .i64 k ∧ Aside0 (CW w W S A2 c2 all) ∧ Aside0 (IB W g nn (fun i => if i < k then (i : Int) else 0)))
      case atStart => exact ⟨0, Nat.zero_le _, by omega, rfl, CC0, ⟨IB0.out.ext (fun i hi => by simp)⟩⟩
      case round =>
       clear CC0 IB0 CC
       obtain ⟨k, hk, hgk, rfl, CC, I1⟩ := hrel
       by_cases hlt : k < nn
       ·have hltz : (k : Int) < (nn : Int) := by omega
        have hcell := I1.out.cell hlt
        have hfree := I1.out.free k
        go_wp2
        have I2 := Aside0.mk (I1.out.set k (k : Int))
        have CC2 := Aside0.mk (CC.out.set (g := g) hgS k (.int .i64 (k : Int)))
        clear CC I1
        go_roundg (nn - (k + 1))
        case measure => omega
        case rel =>
         refine ⟨k + 1, by omega, by omega, by go_num, CC2, ⟨I2.out.ext (fun i hi => ?_)⟩⟩
         by_cases e : i = k
         ·subst e
          rw [if_pos rfl, if_pos (by omega)]
         ·rw [if_neg e]
          by_cases e2 : i < k
          ·rw [if_pos e2, if_pos (by omega)]
          ·rw [if_neg e2, if_neg (by omega)]
       ·obtain rfl : k = nn := by omega
        have hltz : ¬ (k : Int) < (k : Int) := by omega
        have I2 := Aside0.mk (I1.out.ext (f' := fun i => (i : Int)) (fun i hi => if_pos hi))
        clear I1
        go_wp2
        clear hmk
        have hmk := print_make (P := Try.prog) 22 3 .i64 8 Try.underlying22 info3 (by decide) k (by omega)
        have V1 := IncV.first (show k ≤ m by omega)
        go_loopg [53] (16 ^ k) (fun gg s53 W => ∃ v : Nat → Int, IncV m k v ∧ 16 ^ k - numV k v ≤ gg ∧ Aside0 (CW w W S A2 c2 all) ∧ Aside0 (IB W g k v) ∧ Aside0 (∀ u, IncV m k u → ltF k u v → fineB l0 (pickOf all k u) = true))
        case atStart => exact ⟨fun i => (i : Int), V1, Nat.sub_le _ _, CC, I2, ⟨fun u hu h => absurd h (first_least hu)⟩⟩
        case round =>
         clear CC I2 V1
         obtain ⟨v, hv1, hgv, CC, I1, LT⟩ := hrel
         go_wp2
         obtain ⟨w4, rfl⟩ : ∃ w4 : World, w4 = wr := ⟨_, rfl⟩
         have hgW := I1.out.lt
         have hS2 := CC.out.size
         have P0 := Aside0.mk (IB.made w4 k)
         have CC0 := Aside0.mk (CC.out.alloc (.cells (madeCells #[.int .i64 0] k) 3))
         have I0 := Aside0.mk (I1.out.alloc (.cells (madeCells #[.int .i64 0] k) 3))
         obtain ⟨g2, hg2⟩ : ∃ g, w4.heap.size = g := ⟨_, rfl⟩
         rw [hg2] at P0 hS2 hgW ⊢
         go_loopg [53] k (fun gg s53 W => ∃ j : Nat, j ≤ k ∧ k - j ≤ gg ∧ s53 = .int .i64 j ∧ Aside0 (CW w W S A2 c2 all) ∧ Aside0 (IB W g k v) ∧ Aside0 (IB W g2 k (fun i => if i < j then pickF all v i else 0)))
         case atStart => exact ⟨0, Nat.zero_le _, by omega, rfl, CC0, I0, ⟨P0.out.ext (fun i hi => by simp)⟩⟩
         case round =>
          clear CC0 P0 I0 CC I1
          obtain ⟨j, hj, hgj, rfl, CC, I1, P1⟩ := hrel
          by_cases hlt : j < k
          ·have hltz : (j : Int) < (k : Int) := by omega
           have hcell := I1.out.cell hlt
           have hpc := P1.out.cell hlt
           have hpf := P1.out.free j
           have hv2 := hv1.2 j hlt
           obtain ⟨ad, hA, hac⟩ := CC.out.at_ (v j) hv2.1 (by rw [hm]; exact hv2.2)
           subst hA
           obtain ⟨q, hq⟩ : ∃ q, v j = q := ⟨_, rfl⟩
           obtain ⟨y, hy⟩ : ∃ y, rd all q = y := ⟨_, rfl⟩
           rw [hq] at hcell hac hv2
           rw [hy] at hac
           have hq1 : q < (all.length : Int) := by omega
           go_wp2
           have P2 := Aside0.mk (P1.out.set j y)
           have CC2 := Aside0.mk (CC.out.set (g := g2) hS2 j (.int .i64 y))
           have I2 := Aside0.mk (I1.out.far (p := ⟨g2, j, none⟩) (show g ≠ g2 by omega) (.int .i64 y))
           clear CC I1 P1
           go_roundg (k - (j + 1))
           case measure => omega
           case rel =>
            refine ⟨j + 1, by omega, by omega, by go_num, CC2, I2, ⟨P2.out.ext (fun i hi => ?_)⟩⟩
            by_cases e : i = j
            ·subst e
             rw [if_pos rfl, if_pos (by omega)]
             unfold pickF
             rw [hq, hy]
            ·rw [if_neg e]
             by_cases e2 : i < j
             ·rw [if_pos e2, if_pos (by omega)]
             ·rw [if_neg e2, if_neg (by omega)]
          ·obtain rfl : j = k := by omega
           have hltz : ¬ (j : Int) < (j : Int) := by omega
           have P2 := Aside0.mk (P1.out.ext (f' := pickF all v) (fun i hi => if_pos hi))
           clear P1
           have hv1' : IncV all.length j v := by rw [hm]; exact hv1
           have HF := licence_fine.calls A0 c0 l0 (some ⟨g2, 0, none⟩) j (pickOf all j v) (fineB l0 (pickOf all j v)) wr (Kd.C_below HR0.out CC.out.below) HC0.out (by rw [pickOf_len]; exact P2.out.reads (by omega)) (by rw [pickOf_len]; exact Nat.le_refl _) (by unfold licence_fine.f; rw [if_pos (FPK.out hv j v (by omega) hv1')])
           rw [pickOf_len] at HF
           have HFA := Aside0.mk HF
           clear HF hv1'
           cases hfp : fineB l0 (pickOf all j v) with
           | false =>
            rw [hfp] at HFA
            go_wp2_with (go_at_call 36; refine HFA.out.mono ?_; rintro e w5 ⟨rfl, hB5⟩)
            try rw [Exit.noGoto_ret]
            go_ret
            refine ⟨_, rfl, ?_, (CC.out.step hB5).below⟩
            have h := CPA.out
            rw [hv, if_pos rfl, if_pos h16, hf, if_neg Bool.false_ne_true, core_least (fun x => !fineB l0 x) INC.out rfl (by rw [hf]; rfl) (by rw [hm]; exact hv1) (by rw [hfp]; rfl) (fun n' u h1 h2 h3 => by rw [SM.out n' u h1 h2 (by rw [← hm]; exact h3)]; rfl) (fun u h1 h2 => by rw [LT.out u (by rw [← hm]; exact h1) h2]; rfl)] at h
            rw [h]
            exact (P2.out.below hB5).own (by omega) (Nat.le_trans CC.out.base hS2)
           | true =>
            rw [hfp] at HFA
            have hjm : IntKind.i64.wrap ((j : Int) - 1) = (j : Int) - 1 := by rw [IntKind.wrap_i64]; omega
            go_wp2_with (go_at_call 36; refine HFA.out.mono ?_; rintro e w5 ⟨rfl, hB5⟩)
            have CC5 := Aside0.mk (CC.out.step hB5)
            have I5 := Aside0.mk (I1.out.below hB5)
            clear CC I1 P2 hB5 HFA
            obtain ⟨w6, rfl⟩ : ∃ w6 : World, w6 = w5 := ⟨_, rfl⟩
            go_loopg [13] (j + 1) (fun gg s13 W => ∃ i : Int, -1 ≤ i ∧ i < (j : Int) ∧ (i + 1).toNat ≤ gg ∧ W = w6 ∧ s13 = .int .i64 i ∧ Aside0 (∀ t : Nat, i < (t : Int) → t < j → v t = (m : Int) - j + t))
            case atStart => exact ⟨(j : Int) - 1, by omega, by omega, by omega, rfl, by go_num, ⟨fun t h1 h2 => by omega⟩⟩
            case round =>
             obtain ⟨i, hi0, hi1, hgi, rfl, rfl, MX⟩ := hrel
             by_cases hneg : 0 ≤ i
             ·obtain ⟨t, rfl⟩ : ∃ t : Nat, i = (t : Int) := ⟨i.toNat, by omega⟩
              have htj : t < j := by omega
              have hcell := I5.out.cell htj
              have hv2 := hv1.2 t htj
              have hw1 : IntKind.i64.wrap ((m : Int) - (j : Int)) = (m : Int) - j := by rw [IntKind.wrap_i64]; omega
              have hw2 : IntKind.i64.wrap ((m : Int) - (j : Int) + (t : Int)) = (m : Int) - j + t := by rw [IntKind.wrap_i64]; omega
              have hge : (t : Int) ≥ 0 := by omega
              by_cases heq : v t = (m : Int) - j + t
              ·rw [heq] at hcell
               go_wp2
               go_roundg t
               case measure => omega
               case rel =>
                refine ⟨(t : Int) - 1, by omega, by omega, by omega, rfl, by go_num, ⟨fun t' h1 h2 => ?_⟩⟩
                by_cases e : t' = t
                ·rw [e]; exact heq
                ·exact MX.out t' (by omega) h2
              ·have hvt : ∃ q, v t = q := ⟨_, rfl⟩
               obtain ⟨q, hq⟩ := hvt
               rw [hq] at hcell heq hv2
               have hw3 : IntKind.i64.wrap (q + 1) = q + 1 := by rw [IntKind.wrap_i64]; omega
               have hfree := I5.out.free t
               go_wp2
               have I6 := Aside0.mk (I5.out.set t (q + 1))
               have CC6 := Aside0.mk (CC5.out.set (g := g) hgS t (.int .i64 (q + 1)))
               go_loopg [14] j (fun gg s14 W => ∃ k : Nat, t + 1 ≤ k ∧ k ≤ j ∧ j - k ≤ gg ∧ s14 = .int .i64 k ∧ Aside0 (CW w W S A2 c2 all) ∧ Aside0 (IB W g j (fun i => if i < k then nextV v t i else v i)))
               case atStart =>
                refine ⟨t + 1, Nat.le_refl _, by omega, by omega, by go_num, CC6, ⟨I6.out.ext (fun i hi => ?_)⟩⟩
                unfold nextV
                by_cases e : i = t
                ·subst e
                 rw [if_pos rfl, if_pos (by omega), if_neg (by omega), hq]
                 omega
                ·rw [if_neg e]
                 by_cases e2 : i < t
                 ·rw [if_pos (by omega), if_pos e2]
                 ·rw [if_neg (by omega)]
               case round =>
                clear CC6 I6 CC5 I5 hcell hfree
                obtain ⟨k, hk1, hk2, hgk, rfl, CC, I1⟩ := hrel
                by_cases hlt : k < j
                ·obtain ⟨k', rfl⟩ : ∃ k', k = k' + 1 := ⟨k - 1, by omega⟩
                 have hltz : ((k' + 1 : Nat) : Int) < (j : Int) := by omega
                 have hsub : IntKind.i64.wrap (((k' + 1 : Nat) : Int) - 1) = (k' : Int) := by rw [IntKind.wrap_i64]; omega
                 have hc1 := I1.out.cell (show k' < j by omega)
                 have hc2 := I1.out.cell hlt
                 have hf2 := I1.out.free (k' + 1)
                 have hval : (if k' < k' + 1 then nextV v t k' else v k') = q + 1 + ((k' - t : Nat) : Int) := by
                  unfold nextV
                  rw [if_pos (by omega), if_neg (by omega), hq]
                 rw [hval] at hc1
                 have hle1 := hv1.le t htj
                 rw [hq] at hle1
                 have hw4 : IntKind.i64.wrap (q + 1 + ((k' - t : Nat) : Int) + 1) = q + 1 + ((k' + 1 - t : Nat) : Int) := by rw [IntKind.wrap_i64]; omega
                 go_wp2
                 have I2 := Aside0.mk (I1.out.set (k' + 1) (q + 1 + ((k' + 1 - t : Nat) : Int)))
                 have CC2 := Aside0.mk (CC.out.set (g := g) hgS (k' + 1) (.int .i64 (q + 1 + ((k' + 1 - t : Nat) : Int))))
                 clear CC I1
                 go_roundg (j - (k' + 1 + 1))
                 case measure => omega
                 case rel =>
                  refine ⟨k' + 1 + 1, by omega, by omega, by omega, by go_num, CC2, ⟨I2.out.ext (fun i hi => ?_)⟩⟩
                  by_cases e : i = k' + 1
                  ·subst e
                   rw [if_pos rfl, if_pos (by omega)]
                   unfold nextV
                   rw [if_neg (by omega), hq]
                  ·rw [if_neg e]
                   by_cases e2 : i < k' + 1
                   ·rw [if_pos e2, if_pos (by omega)]
                   ·rw [if_neg e2, if_neg (by omega)]
                ·obtain rfl : k = j := by omega
                 have hltz : ¬ (k : Int) < (k : Int) := by omega
                 have I2 := Aside0.mk (I1.out.ext (f' := nextV v t) (fun i hi => if_pos hi))
                 clear I1
                 go_wp2
                 have hnx := nextV_inc hv1 htj (by rw [hq]; exact heq)
                 go_roundg (16 ^ k - numV k (nextV v t))
                 case measure =>
                  have hb16 : ∀ {u : Nat → Int}, IncV m k u → ∀ i, i < k → 0 ≤ u i ∧ u i < 16 := fun hu i hi => by have := hu.2 i hi; omega
                  have h1 := numV_bound (hb16 hnx)
                  have h2 := numV_lt k v (nextV v t) (hb16 hv1) (hb16 hnx) (nextV_lt htj)
                  omega
                 case rel =>
                  refine ⟨nextV v t, hnx, Nat.le_refl _, CC, I2, ⟨fun u hu hl => ?_⟩⟩
                  rcases nextV_gap hu htj (fun t' h1 h2 => MX.out t' (by omega) h2) hl with h | h
                  ·rw [pickOf_congr h]; exact hfp
                  ·exact LT.out u hu h
             ·obtain rfl : i = -1 := by omega
              go_wp2
              go_roundg (m - j)
              case measure => omega
              case rel =>
               refine ⟨j + 1, by omega, by omega, by omega, by go_num, CC5, ⟨fun n' u h1 h2 h3 => ?_⟩⟩
               by_cases e : n' = j
               ·subst e
                rcases last_le h3 (fun t ht => MX.out t (by omega) ht) with h | h
                ·rw [pickOf_congr h]; exact hfp
                ·exact LT.out u h3 h
               ·exact SM.out n' u h1 (by omega) h3
  ·have h16z : (all.length : Int) > 16 := by omega
   go_wp2_with (go_at_call 11; refine HV.out.mono ?_; rintro e w2 ⟨rfl, hB2⟩)
   rw [Exit.noGoto_ret]
   go_ret
   refine ⟨_, rfl, ?_, below_then BW.out (below_size BW.out) hB2⟩
   have h := CPA.out
   rw [hv, if_pos rfl, if_neg h16] at h
   rw [h]
   exact Kd.R_nil _ _ _ _ _
theorem licence_Core.calls (A0 : Option Addr) (c0 : Nat) (l0 : List S36) (A1 : Option Addr) (c1 : Nat) (l1 : List Int) (r : List Int) (w : World) (hr0 : Kd.C k36 w A0 l0.length l0) (hc0 : l0.length ≤ c0) (hr1 : Kd.C (Kd.int .i64) w A1 l1.length l1) (hc1 : l1.length ≤ c1) (h : licence_Core.f l0 l1 = some r) :
  Calls Try.prog 18 #[.slice A0 l0.length c0, .slice A1 l1.length c1] w fun e w' => ∃ v0_ : Value, e = .returned (v0_) ∧ Kd.R (Kd.int .i64) 3 w' w.heap.size (fun _ => True) v0_ r ∧ Below w.heap.size w w' := by
 unfold licence_Core.f at h
 split at h
 case isFalse => cases h
 rename_i hb
 simp only [Option.some.injEq] at h
 subst h
 exact core18 A0 c0 l0 A1 c1 l1 w hr0 hc0 hr1 hc1 hb.1 hb.2
end Go.Proofs.Ytjagffomohbioaa.L
