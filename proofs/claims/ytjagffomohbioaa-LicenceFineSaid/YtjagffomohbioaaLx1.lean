-- Written by a program of this session (patch_print.py over the kit's print) out of the translation. Not trusted: Lean checks it.
import Derived.Test.YtjagffomohbioaaLx0
namespace Go.Proofs.Ytjagffomohbioaa.L
open Go.RowKit Go.Proofs.YtjagffomohbioaaW.PrintWords Go.Proofs.YtjagffomohbioaaW.PrintLast Go.Proofs.YtjagffomohbioaaW.PrintMore
attribute [local go_sem] max2_int min2_int max_two min_two max_three min_three max_four min_four   -- for this text's walks alone
set_option linter.unusedVariables false
set_option linter.unusedSimpArgs false

/-! ### spliceryref01_Around: function 25 -/
def spliceryref01_Around.f (a0 : Int) (a1 : Int) : Option (Int) := if a0 < 0 then (if a1 = 0 then (none) else (some (Int.tmod (wrap64 (-(wrap64 (a0 + 1)))) a1))) else (if a1 = 0 then (none) else (some (Int.tmod a0 a1)))
set_option maxHeartbeats 8000000 in
set_option maxRecDepth 100000 in
theorem spliceryref01_Around.calls (a0 : Int) (a1 : Int) (r : Int) (w : World) (h : spliceryref01_Around.f a0 a1 = some r) :
  Calls Try.prog 25 #[.int .i64 a0, .int .i64 a1] w fun e w' => e = .returned (.int .i64 r) ∧ Drawn0 w w' := by
 have H : (if a0 < 0 then (if a1 = 0 then (none) else (some (Int.tmod (wrap64 (-(wrap64 (a0 + 1)))) a1))) else (if a1 = 0 then (none) else (some (Int.tmod a0 a1)))) = some r := h
 clear h
 by_cases c3 : a0 < 0
 ·rw [if_pos c3] at H
  have c3b0 : decide (a0 < 0) = true := decide_eq_true c3
  clear c3
  by_cases c4 : a1 = 0
  ·rw [if_pos c4] at H
   exact absurd H (by simp)
  ·rw [if_neg c4] at H
   have c4b0 : (a1 == 0) = false := beq_eq_false_iff_ne.mpr c4
   have c4b1 : (a1 != 0) = true := bne_iff_ne.mpr c4
   obtain rfl := Option.some.inj H
   go_enter Try.func25, Try.ntmps25
   go_wp2
   go_ret
   exact ⟨by first | rfl | (simp; done) | (simp [*]; done), by repeat (first | exact Drawn0.refl _ | apply Drawn0.step)⟩
 ·rw [if_neg c3] at H
  have c3b0 : decide (a0 < 0) = false := decide_eq_false c3
  clear c3
  by_cases c5 : a1 = 0
  ·rw [if_pos c5] at H
   exact absurd H (by simp)
  ·rw [if_neg c5] at H
   have c5b0 : (a1 == 0) = false := beq_eq_false_iff_ne.mpr c5
   have c5b1 : (a1 != 0) = true := bne_iff_ne.mpr c5
   obtain rfl := Option.some.inj H
   go_enter Try.func25, Try.ntmps25
   go_wp2
   go_ret
   exact ⟨by first | rfl | (simp; done) | (simp [*]; done), by repeat (first | exact Drawn0.refl _ | apply Drawn0.step)⟩

/-! ### spliceryref01_At: function 26 -/
def spliceryref01_At.f (l0 : List Int) (a1 : Int) (a2 : Int) : Option (Int) := if a1 < 0 then (some 0) else (if a1 ≥ (l0.length : Int) then (some 0) else (if 0 ≤ a1 then (if a1 < (l0.length : Int) then ((spliceryref01_Around.f (rd l0 a1) a2).bind fun t102 => (some t102)) else (none)) else (none)))
set_option maxHeartbeats 8000000 in
set_option maxRecDepth 100000 in
theorem spliceryref01_At.calls (A0 : Option Addr) (c0 : Nat) (l0 : List Int) (a1 : Int) (a2 : Int) (r : Int) (w : World) (hr0 : Kd.C (Kd.int .i64) w A0 l0.length l0) (hc0 : l0.length ≤ c0) (h : spliceryref01_At.f l0 a1 a2 = some r) :
  Calls Try.prog 26 #[.slice A0 l0.length c0, .int .i64 a1, .int .i64 a2] w fun e w' => e = .returned (.int .i64 r) ∧ Drawn0 w w' := by
 have HR0 := Aside0.mk hr0
 have HC0 := Aside0.mk hc0
 clear hr0 hc0
 have H : (if a1 < 0 then (some 0) else (if a1 ≥ (l0.length : Int) then (some 0) else (if 0 ≤ a1 then (if a1 < (l0.length : Int) then ((spliceryref01_Around.f (rd l0 a1) a2).bind fun t102 => (some t102)) else (none)) else (none)))) = some r := h
 clear h
 by_cases c4 : a1 < 0
 ·rw [if_pos c4] at H
  have c4b0 : decide (a1 < 0) = true := decide_eq_true c4
  clear c4
  obtain rfl := Option.some.inj H
  go_enter Try.func26, Try.ntmps26
  go_wp2
  go_ret
  exact ⟨by first | rfl | (simp; done) | (simp [*]; done), by repeat (first | exact Drawn0.refl _ | apply Drawn0.step)⟩
 ·rw [if_neg c4] at H
  have c4b0 : decide (a1 < 0) = false := decide_eq_false c4
  clear c4
  by_cases c5 : a1 ≥ (l0.length : Int)
  ·rw [if_pos c5] at H
   have c5b0 : decide ((l0.length : Int) ≤ a1) = true := decide_eq_true c5
   clear c5
   obtain rfl := Option.some.inj H
   go_enter Try.func26, Try.ntmps26
   go_wp2
   go_ret
   exact ⟨by first | rfl | (simp; done) | (simp [*]; done), by repeat (first | exact Drawn0.refl _ | apply Drawn0.step)⟩
  ·rw [if_neg c5] at H
   have c5b0 : decide ((l0.length : Int) ≤ a1) = false := decide_eq_false c5
   clear c5
   by_cases c6 : 0 ≤ a1
   ·rw [if_pos c6] at H
    have c6b0 : decide (0 ≤ a1) = true := decide_eq_true c6
    clear c6
    by_cases c7 : a1 < (l0.length : Int)
    ·rw [if_pos c7] at H
     have c7b0 : decide (a1 < (l0.length : Int)) = true := decide_eq_true c7
     clear c7
     replace H := Option.bind_eq_some_iff.mp H
     obtain ⟨t102, A80, H⟩ := H
     replace H : (some t102) = some r := H
     have A8 := Aside0.mk A80
     clear A80
     obtain rfl := Option.some.inj H
     have p101 : 0 ≤ (a1 : Int) := of_decide_eq_true (by first | (with_reducible assumption) | assumption)
     have q101 : a1 < (l0.length : Int) := of_decide_eq_true (by first | (with_reducible assumption) | assumption)
     obtain ⟨ad101, e101, hx101_0⟩ := Kd.at_int HR0.out a1 p101 q101
     cases e101
     replace p101 := eq_true p101
     replace q101 := eq_true q101
     go_enter Try.func26, Try.ntmps26
     go_wp2_with (first | ((with_reducible refine gate_callee (f := 25) rfl ?_); refine goesL_ (some 20) rfl rfl Try.func25 (by kernel_rfl) rfl #[.int .i64 (rd l0 a1), .int .i64 a2] rfl (by (try simp only [List.map_toArray, List.map_cons, List.map_nil]); first | done | rfl | (simp only [List.length_drop, List.length_take]; rfl)) ?_; (with_reducible refine (spliceryref01_Around.calls (rd l0 a1) a2 t102 _ A8.out).mono ?_); rintro e w' ⟨rfl, ⟨nd, rfl⟩⟩; refine ⟨_, rfl, ?_⟩))
     go_ret
     exact ⟨by first | rfl | (simp; done) | (simp [*]; done), by repeat (first | exact Drawn0.refl _ | apply Drawn0.step)⟩
    ·rw [if_neg c7] at H
     exact absurd H (by simp)
   ·rw [if_neg c6] at H
    exact absurd H (by simp)

/-! ### spliceryref41_Clauses: function 9 -/
mutual
def spliceryref41_Clauses.l0 : Nat → List Int → List ByteArray → List (S36) → Int → Int → Option ((List (S36)))
 | 0, _, _, _, _, _ => none
 | k + 1, x0, x3, x4, x5, x6 => if x6 < x5 then (if 0 ≤ (Int.tmod x6 6) then (if (Int.tmod x6 6) < (x3.length : Int) then (spliceryref41_Clauses.l1 k x0 x3 x4 x5 x6 0 (rdOf ByteArray.empty x3 (Int.tmod x6 6)) ([] : List ByteArray)) else (none)) else (none)) else (some x4)
def spliceryref41_Clauses.l1 : Nat → List Int → List ByteArray → List (S36) → Int → Int → Int → ByteArray → List ByteArray → Option ((List (S36)))
 | 0, _, _, _, _, _, _, _, _ => none
 | k + 1, x0, x3, x4, x5, x6, x8, x109000, x109001 => (spliceryref01_At.f x0 (wrap64 (1 + x6)) 4).bind fun t109 => (if x8 < t109 then ((spliceryref01_At.f x0 (wrap64 ((wrap64 (9 + (wrap64 (3 * x6)))) + x8)) 180).bind fun t110 => (if 0 ≤ (Int.tmod t110 6) then (if (Int.tmod t110 6) < (x3.length : Int) then (if (Int.tmod t110 5) > 0 then (if (rdOf ByteArray.empty x3 (Int.tmod t110 6)).size + 1 ≤ 9223372036854775807 then (if 0 ≤ (Int.tmod (wrap64 (Int.tdiv t110 6)) 6) then (if (Int.tmod (wrap64 (Int.tdiv t110 6)) 6) < (x3.length : Int) then (if ((rdOf ByteArray.empty x3 (Int.tmod t110 6)) ++ (⟨#[62]⟩ : ByteArray)).size + (rdOf ByteArray.empty x3 (Int.tmod (wrap64 (Int.tdiv t110 6)) 6)).size ≤ 9223372036854775807 then (if x109001.length < 8796093022208 then (spliceryref41_Clauses.l1 k x0 x3 x4 x5 x6 (wrap64 (x8 + 1)) x109000 (x109001 ++ [((rdOf ByteArray.empty x3 (Int.tmod t110 6)) ++ (⟨#[62]⟩ : ByteArray)) ++ (rdOf ByteArray.empty x3 (Int.tmod (wrap64 (Int.tdiv t110 6)) 6))])) else (none)) else (none)) else (none)) else (none)) else (none)) else (if x109001.length < 8796093022208 then (spliceryref41_Clauses.l1 k x0 x3 x4 x5 x6 (wrap64 (x8 + 1)) x109000 (x109001 ++ [rdOf ByteArray.empty x3 (Int.tmod t110 6)])) else (none))) else (none)) else (none))) else ((spliceryref01_At.f x0 (wrap64 (40 + x6)) 24).bind fun t119 => (if (Int.tmod t119 2) = 0 then (if 0 ≤ (Int.tmod (wrap64 (Int.tdiv t119 2)) 6) then (if (Int.tmod (wrap64 (Int.tdiv t119 2)) 6) < (x3.length : Int) then (if ([] : List ByteArray).length < 8796093022208 then (if x4.length < 2199023255552 then (spliceryref41_Clauses.l0 k x0 x3 (x4 ++ [(⟨x109000, x109001, (([] : List ByteArray) ++ [rdOf ByteArray.empty x3 (Int.tmod (wrap64 (Int.tdiv t119 2)) 6)])⟩ : S36)]) x5 (wrap64 (x6 + 1))) else (none)) else (none)) else (none)) else (none)) else (if x4.length < 2199023255552 then (spliceryref41_Clauses.l0 k x0 x3 (x4 ++ [(⟨x109000, x109001, ([] : List ByteArray)⟩ : S36)]) x5 (wrap64 (x6 + 1))) else (none)))))
end
def spliceryref41_Clauses.f (k : Nat) (l0 : List Int) : Option ((List (S36))) := (spliceryref01_At.f l0 0 9).bind fun t106 => (spliceryref41_Clauses.l0 k l0 (([(⟨#[97]⟩ : ByteArray), (⟨#[98]⟩ : ByteArray), (⟨#[99]⟩ : ByteArray), (⟨#[100]⟩ : ByteArray), (⟨#[101]⟩ : ByteArray), (⟨#[102]⟩ : ByteArray)] : List ByteArray)) ([] : List (S36)) t106 0)
def spliceryref41_Clauses.T18 : Bool × List (List Nat × List Nat) := (true, [([], []), ([0], [0]), ([], []), ([], []), ([3], [3]), ([4], [4]), ([2, 5], [2, 5]), ([6], [6]), ([7], [7]), ([1, 8], [1, 8]), ([0, 1, 2, 3, 4, 5, 6, 7, 8, 9], []), ([10, 9, 9, 0, 1, 2, 3, 4, 5, 6, 7, 8, 9], [9, 10])])
def spliceryref41_Clauses.B18 : List Nat := [0, 1, 0, 0, 8, 24, 60, 124, 252, 511, 1023, 2047]
theorem spliceryref41_Clauses.tab18 : rtab .any (opsOf Try.f9 18) = spliceryref41_Clauses.T18 := by kernel_rfl
theorem spliceryref41_Clauses.bits18 : waitsOk spliceryref41_Clauses.T18.2 spliceryref41_Clauses.B18 = true := by kernel_rfl
set_option maxHeartbeats 8000000 in
set_option maxRecDepth 100000 in
theorem spliceryref41_Clauses.calls (k : Nat) (A0 : Option Addr) (c0 : Nat) (l0 : List Int) (r : List (S36)) (w : World) (hr0 : Kd.C (Kd.int .i64) w A0 l0.length l0) (hc0 : l0.length ≤ c0) (h : spliceryref41_Clauses.f k l0 = some r) :
  Calls Try.prog 9 #[.slice A0 l0.length c0] w fun e w' => ∃ v0_ : Value, e = .returned (v0_) ∧ Kd.S k36 36 w' w.heap.size (fun _ => True) v0_ r ∧ Below w.heap.size w w' := by
 have hu36 := Try.underlying36
 have HR0 := Aside0.mk hr0
 have HC0 := Aside0.mk hc0
 clear hr0 hc0
 have HB := Aside0.mk (Below.refl w.heap.size w)
 have H : ((spliceryref01_At.f l0 0 9).bind fun t106 => (spliceryref41_Clauses.l0 k l0 (([(⟨#[97]⟩ : ByteArray), (⟨#[98]⟩ : ByteArray), (⟨#[99]⟩ : ByteArray), (⟨#[100]⟩ : ByteArray), (⟨#[101]⟩ : ByteArray), (⟨#[102]⟩ : ByteArray)] : List ByteArray)) ([] : List (S36)) t106 0)) = some r := h
 clear h
 obtain ⟨y103, hy103⟩ : ∃ y_ : List ByteArray, y_ = (([(⟨#[97]⟩ : ByteArray), (⟨#[98]⟩ : ByteArray), (⟨#[99]⟩ : ByteArray), (⟨#[100]⟩ : ByteArray), (⟨#[101]⟩ : ByteArray), (⟨#[102]⟩ : ByteArray)] : List ByteArray)) := ⟨_, rfl⟩
 replace H : ((spliceryref01_At.f l0 0 9).bind fun t106 => (spliceryref41_Clauses.l0 k l0 y103 ([] : List (S36)) t106 0)) = some r := by first | (rw [hy103]; with_reducible exact H) | (have H2_ := (Option.bind_some _ _).symm.trans H; rw [hy103]; with_reducible exact H2_) | (have H2_ := (Option.bind_some _ _).symm.trans H; with_reducible exact H2_) | with_reducible exact H | (rw [hy103]; exact H) | exact H
 have Ny103 := Aside0.mk hy103
 clear hy103
 replace H := Option.bind_eq_some_iff.mp H
 obtain ⟨t106, A20, H⟩ := H
 replace H : (spliceryref41_Clauses.l0 k l0 y103 ([] : List (S36)) t106 0) = some r := H
 have A2 := Aside0.mk A20
 clear A20
 have H' := Aside0.mk H
 clear H
 go_enter Try.func9, Try.ntmps9
 go_wp2_with (first | ((with_reducible refine gate_dst (N := 12) rfl ?_); refine Kd.R_lit Kd.string _ 9 ?hg (N := 12) ?hd (xs := ([(⟨#[97]⟩ : ByteArray), (⟨#[98]⟩ : ByteArray), (⟨#[99]⟩ : ByteArray), (⟨#[100]⟩ : ByteArray), (⟨#[101]⟩ : ByteArray), (⟨#[102]⟩ : ByteArray)] : List ByteArray)) (inner := [.string (⟨#[97]⟩ : ByteArray), .string (⟨#[98]⟩ : ByteArray), .string (⟨#[99]⟩ : ByteArray), .string (⟨#[100]⟩ : ByteArray), .string (⟨#[101]⟩ : ByteArray), .string (⟨#[102]⟩ : ByteArray)]) (ok := fun _ => True) (okp := fun _ => True) ?hr ?hp (fun _ hk => by first | exact hk | simp [hk]) trivial (Below.refl _ _) (Nat.le_refl _) (by simp) ?_; (case hd => rfl); (case hg => rfl); (case hr => first | (go_simp; done) | (go_simp; rfl)); (case hp => exact (Reps.one (show Kd.M Kd.string _ _ _ (⟨#[97]⟩ : ByteArray) [.string (⟨#[97]⟩ : ByteArray)] from rfl) (Reps.one (show Kd.M Kd.string _ _ _ (⟨#[98]⟩ : ByteArray) [.string (⟨#[98]⟩ : ByteArray)] from rfl) (Reps.one (show Kd.M Kd.string _ _ _ (⟨#[99]⟩ : ByteArray) [.string (⟨#[99]⟩ : ByteArray)] from rfl) (Reps.one (show Kd.M Kd.string _ _ _ (⟨#[100]⟩ : ByteArray) [.string (⟨#[100]⟩ : ByteArray)] from rfl) (Reps.one (show Kd.M Kd.string _ _ _ (⟨#[101]⟩ : ByteArray) [.string (⟨#[101]⟩ : ByteArray)] from rfl) (Reps.one (show Kd.M Kd.string _ _ _ (⟨#[102]⟩ : ByteArray) [.string (⟨#[102]⟩ : ByteArray)] from rfl) (Reps.none _ _)))))))); intro v104 w3 ho4 hb hg_ hnew_; clear hg_ hnew_; (first | rw [← Ny103.out] at ho4 | (simp only [Int.reduceToNat] at ho4; rw [← Ny103.out] at ho4)); have n0_ := Aside0.mk (Kd.R_lower ho4 (below_size (chB HB))); have n1_ := Aside0.mk (below_step (chB HB) hb); clear HB; have HO105 := n0_; have HB := n1_; clear n0_ n1_; clear hb ho4) | ((with_reducible refine gate_callee (f := 26) rfl ?_); refine goesL_ (some 14) rfl rfl Try.func26 (by kernel_rfl) rfl #[.slice A0 l0.length c0, .int .i64 0, .int .i64 9] rfl (by (try simp only [List.map_toArray, List.map_cons, List.map_nil]); first | done | rfl | (simp only [List.length_drop, List.length_take]; rfl)) ?_; (with_reducible refine (spliceryref01_At.calls _ _ l0 0 9 t106 _ ?side1 ?side2 A2.out).mono ?_); (case side1 => repeat (first | exact (Kd.C_below HR0.out HB.out) | (with_reducible refine Kd.C_alloc ?_ _) | (with_reducible refine Kd.C_drewN ?_ _) | (with_reducible refine Kd.C_drew ?_))); (case side2 => exact HC0.out); rintro e w' ⟨rfl, ⟨nd, rfl⟩⟩; refine ⟨_, rfl, ?_⟩))
 go_loopg [4, 6] k (fun kq v4 v6 w' => ∃ (x4_1 : List (S36)) (x6_1 : Int), v6 = .int .i64 x6_1 ∧ Aside0 (spliceryref41_Clauses.l0 kq l0 y103 x4_1 t106 x6_1 = some r) ∧ Aside0 (kq ≤ k) ∧ Aside0 (Kd.R Kd.string 9 w' w.heap.size (fun _ => True) v104 y103) ∧ Aside0 (Kd.S k36 36 w' w.heap.size (fun k_ => some k_ ≠ (v104 : Value).ownBlock) v4 x4_1) ∧ Aside0 (Below w.heap.size w w'))
 case atStart => exact ⟨(([] : List (S36))), (0), (by first | rfl | (simp; done) | (simp [*]; done)), H', ⟨Nat.le_refl _⟩, ⟨chR HO105⟩, ⟨by first | exact Kd.S_nil _ _ _ _ _ | exact Kd.N_nil _ _ _ _ _ | exact Kd.V_nil _ _ _ _ _ | exact Kd.Q_nil _ _ _ _ _ | exact Kd.R_nil _ _ _ _ _⟩, ⟨chB HB⟩⟩
 case round =>
  clear H'
  try clear c2
  try clear p2
  obtain ⟨x4_1, x6_1, rfl, HA, HK1, HO_3, HO_4, HB⟩ := hrel
  cases gk with
  | zero => exact absurd HA.out (by simp [spliceryref41_Clauses.l0])
  | succ k1 =>
   have H := HA.out
   clear HA
   simp only [spliceryref41_Clauses.l0] at H
   by_cases c5 : x6_1 < t106
   ·rw [if_pos c5] at H
    have c5b0 : decide (x6_1 < t106) = true := decide_eq_true c5
    clear c5
    obtain ⟨ji6, hji6⟩ : ∃ j_ : Int, (Int.tmod x6_1 6) = j_ := ⟨_, rfl⟩
    replace H : (if 0 ≤ (ji6) then (if (ji6) < (y103.length : Int) then (spliceryref41_Clauses.l1 k1 l0 y103 x4_1 t106 x6_1 0 (rdOf ByteArray.empty y103 (ji6)) ([] : List ByteArray)) else (none)) else (none)) = some r := by first | (rw [hji6] at H; exact H) | (simp only [hji6] at H ⊢; exact H)
    by_cases c7 : 0 ≤ (ji6)
    ·rw [if_pos c7] at H
     have c7b0 : decide (0 ≤ (ji6)) = true := decide_eq_true c7
     clear c7
     by_cases c8 : (ji6) < (y103.length : Int)
     ·rw [if_pos c8] at H
      have c8b0 : decide ((ji6) < (y103.length : Int)) = true := decide_eq_true c8
      clear c8
      have H' := Aside0.mk H
      clear H
      obtain ⟨Ao9, co9, eo9⟩ := Kd.R_slice HO_3.out
      subst eo9
      have p107 : 0 ≤ ((ji6) : Int) := of_decide_eq_true (by first | (with_reducible assumption) | assumption)
      have q107 : (ji6) < (y103.length : Int) := of_decide_eq_true (by first | (with_reducible assumption) | assumption)
      obtain ⟨ad107, e107, hx107_0⟩ := Kd.at_string (Kd.R_reads' HO_3.out).2.2 (ji6) p107 q107
      cases e107
      replace p107 := eq_true p107
      replace q107 := eq_true q107
      go_wp2_with (first | ((with_reducible refine gate_dst (N := 7) rfl ?_); refine box_event ?hg (N := 7) ?hd (cs := #[.string (⟨#[]⟩ : ByteArray), .slice none 0 0, .slice none 0 0]) (t := 36) ?hr ?_; (case hd => rfl); (case hg => rfl); (case hr => first | (go_simp; done) | (go_simp; rfl)); intro gb108 hg w10 hbox hb; have n0_ := Aside0.mk (Kd.R_below (chR HO_3) hb); have n1_ := Aside0.mk (Kd.S_below (Kd.S_elderB (by (with_reducible repeat (first | apply Kd.S_alloc | apply Kd.S_drewN | apply Kd.S_drew)); exact HO_4.out) gb108 (Nat.le_of_eq hg.symm)) hb); have n2_ := Aside0.mk (below_step (chB HB) hb); have n3_ := Aside0.mk (hbox); have n4_ := Aside0.mk ((by rw [hg]; exact (below_size (chB HB)) : w.heap.size ≤ gb108)); have n5_ := Aside0.mk ((by rw [hg]; exact (below_size (chB HB)) : w.heap.size ≤ gb108)); clear HO_3; clear HO_4; clear HB; have HO_3 := n0_; have HO_4 := n1_; have HB := n2_; have BK108 := n3_; have GW108 := n4_; have GE108 := n5_; clear n0_ n1_ n2_ n3_ n4_ n5_; clear hb hbox hg; have hcz11_0 : w10.cell? ⟨gb108, 0, none⟩ = some (.string (⟨#[]⟩ : ByteArray)) := (blk_cell BK108.out 0).trans rfl; have hcz11_1 : w10.cell? ⟨gb108, 1, none⟩ = some (.slice none 0 0) := (blk_cell BK108.out 1).trans rfl; have hcz11_2 : w10.cell? ⟨gb108, 2, none⟩ = some (.slice none 0 0) := (blk_cell BK108.out 2).trans rfl; have hfz11_0 := blk_frozen BK108.out 0; have hfz11_1 := blk_frozen BK108.out 1; have hfz11_2 := blk_frozen BK108.out 2))
      go_loopg [8] k1 (fun kq v8 w' => ∃ (x8_2 : Int) (x109001_2 : List ByteArray) (u109001 : Value), v8 = .int .i64 x8_2 ∧ Aside0 (spliceryref41_Clauses.l1 kq l0 y103 x4_1 t106 x6_1 x8_2 (rdOf ByteArray.empty y103 (ji6)) x109001_2 = some r) ∧ Aside0 (kq ≤ k1) ∧ Aside0 (Kd.R Kd.string 9 w' w.heap.size (fun k_ => some k_ ≠ (u109001 : Value).ownBlock) (.slice (some ad107) y103.length co9) y103) ∧ Aside0 (Kd.S k36 36 w' w.heap.size (fun k_ => some k_ ≠ ((.slice (some ad107) y103.length co9) : Value).ownBlock ∧ some k_ ≠ (u109001 : Value).ownBlock ∧ k_ ≠ gb108) u4 x4_1) ∧ Aside0 (Kd.R Kd.string 9 w' w.heap.size (fun k_ => some k_ ≠ ((.slice (some ad107) y103.length co9) : Value).ownBlock) u109001 x109001_2) ∧ Aside0 (w'.heap[gb108]? = some (.cells #[.string (rdOf ByteArray.empty y103 (ji6)), u109001, (.slice none 0 0)] 36 (0, 0))) ∧ Aside0 (Below w.heap.size w w'))
      case atStart => exact ⟨(0), (([] : List ByteArray)), (.slice none 0 0), (by first | rfl | (simp; done) | (simp [*]; done)), H', ⟨Nat.le_refl _⟩, ⟨by (with_reducible repeat (first | apply Kd.R_alloc | apply Kd.R_drewN | apply Kd.R_drew)); exact Kd.R_mono (Kd.R_far (p := ⟨gb108, 2, none⟩) (Kd.R_far (p := ⟨gb108, 1, none⟩) (Kd.R_far (p := ⟨gb108, 0, none⟩) (Kd.R_types HO_3.out BK108.out (by decide)) (fun _ hk => by first | exact hk | simp [hk]) (.string (rdOf ByteArray.empty y103 (ji6)))) (fun _ hk => by first | exact hk | simp [hk]) (.slice none 0 0)) (fun _ hk => by first | exact hk | simp [hk]) (.slice none 0 0)) (fun _ hk => (by simp [Value.ownBlock]))⟩, ⟨by (with_reducible repeat (first | apply Kd.S_alloc | apply Kd.S_drewN | apply Kd.S_drew)); exact Kd.S_mono (Kd.S_far (p := ⟨gb108, 2, none⟩) (Kd.S_far (p := ⟨gb108, 1, none⟩) (Kd.S_far (p := ⟨gb108, 0, none⟩) (Kd.S_mono HO_4.out (fun k_ hk => (⟨hk, hk.2⟩ : _ ∧ k_ ≠ gb108))) (fun _ hk => by first | exact hk | simp [hk]) (.string (rdOf ByteArray.empty y103 (ji6)))) (fun _ hk => by first | exact hk | simp [hk]) (.slice none 0 0)) (fun _ hk => by first | exact hk | simp [hk]) (.slice none 0 0)) (fun _ hk => ⟨hk.1.1, ⟨(by simp [Value.ownBlock]), hk.1.2⟩⟩)⟩, ⟨by first | exact Kd.R_nil _ _ _ _ _ | exact Kd.N_nil _ _ _ _ _ | exact Kd.V_nil _ _ _ _ _ | exact Kd.Q_nil _ _ _ _ _ | exact Kd.S_nil _ _ _ _ _⟩, ⟨by (with_reducible repeat (first | refine blk_drewN ?_ _ | refine blk_drew ?_ | refine blk_alloc ?_ _)); refine blk_put (cs := #[.string (rdOf ByteArray.empty y103 (ji6)), .slice none 0 0, .slice none 0 0]) ?_ 2 _ rfl; (with_reducible repeat (first | refine blk_drewN ?_ _ | refine blk_drew ?_ | refine blk_alloc ?_ _)); refine blk_put (cs := #[.string (rdOf ByteArray.empty y103 (ji6)), .slice none 0 0, .slice none 0 0]) ?_ 1 _ rfl; (with_reducible repeat (first | refine blk_drewN ?_ _ | refine blk_drew ?_ | refine blk_alloc ?_ _)); refine blk_put (cs := #[.string (⟨#[]⟩ : ByteArray), .slice none 0 0, .slice none 0 0]) ?_ 0 _ rfl; (with_reducible repeat (first | refine blk_drewN ?_ _ | refine blk_drew ?_ | refine blk_alloc ?_ _)); exact BK108.out⟩, ⟨by repeat (first | (with_reducible first | exact HB.out | apply below_alloc | apply pw_below_drewN | apply below_drew1 | refine below_set ?_ GE108.out) | exact HB.out)⟩⟩
      case round =>
       clear H'
       try clear p1
       try clear q1
       try clear hx1
       try clear c2
       try clear p2
       try clear c5
       try clear c5b0
       try clear c7
       try clear c7b0
       try clear c8
       try clear c8b0
       try clear c9
       try clear p10
       try clear q10
       try clear hx10
       try clear hcz11_0
       try clear hcz11_1
       try clear hcz11_2
       try clear hfz11_0
       try clear hfz11_1
       try clear hfz11_2
       try clear hx107_0
       try clear p107
       try clear p2
       try clear q107
       obtain ⟨x8_2, x109001_2, u109001, rfl, HA, HK2, HO_3, HO_4, HO_109001, BK108, HB⟩ := hrel
       cases gk with
       | zero => exact absurd HA.out (by simp [spliceryref41_Clauses.l1])
       | succ k2 =>
        have H := HA.out
        clear HA
        simp only [spliceryref41_Clauses.l1] at H
        replace H := Option.bind_eq_some_iff.mp H
        obtain ⟨t109, A120, H⟩ := H
        replace H : (if x8_2 < t109 then ((spliceryref01_At.f l0 (wrap64 ((wrap64 (9 + (wrap64 (3 * x6_1)))) + x8_2)) 180).bind fun t110 => (if 0 ≤ (Int.tmod t110 6) then (if (Int.tmod t110 6) < (y103.length : Int) then (if (Int.tmod t110 5) > 0 then (if (rdOf ByteArray.empty y103 (Int.tmod t110 6)).size + 1 ≤ 9223372036854775807 then (if 0 ≤ (Int.tmod (wrap64 (Int.tdiv t110 6)) 6) then (if (Int.tmod (wrap64 (Int.tdiv t110 6)) 6) < (y103.length : Int) then (if ((rdOf ByteArray.empty y103 (Int.tmod t110 6)) ++ (⟨#[62]⟩ : ByteArray)).size + (rdOf ByteArray.empty y103 (Int.tmod (wrap64 (Int.tdiv t110 6)) 6)).size ≤ 9223372036854775807 then (if x109001_2.length < 8796093022208 then (spliceryref41_Clauses.l1 k2 l0 y103 x4_1 t106 x6_1 (wrap64 (x8_2 + 1)) (rdOf ByteArray.empty y103 (ji6)) (x109001_2 ++ [((rdOf ByteArray.empty y103 (Int.tmod t110 6)) ++ (⟨#[62]⟩ : ByteArray)) ++ (rdOf ByteArray.empty y103 (Int.tmod (wrap64 (Int.tdiv t110 6)) 6))])) else (none)) else (none)) else (none)) else (none)) else (none)) else (if x109001_2.length < 8796093022208 then (spliceryref41_Clauses.l1 k2 l0 y103 x4_1 t106 x6_1 (wrap64 (x8_2 + 1)) (rdOf ByteArray.empty y103 (ji6)) (x109001_2 ++ [rdOf ByteArray.empty y103 (Int.tmod t110 6)])) else (none))) else (none)) else (none))) else ((spliceryref01_At.f l0 (wrap64 (40 + x6_1)) 24).bind fun t119 => (if (Int.tmod t119 2) = 0 then (if 0 ≤ (Int.tmod (wrap64 (Int.tdiv t119 2)) 6) then (if (Int.tmod (wrap64 (Int.tdiv t119 2)) 6) < (y103.length : Int) then (if ([] : List ByteArray).length < 8796093022208 then (if x4_1.length < 2199023255552 then (spliceryref41_Clauses.l0 k2 l0 y103 (x4_1 ++ [(⟨(rdOf ByteArray.empty y103 (ji6)), x109001_2, (([] : List ByteArray) ++ [rdOf ByteArray.empty y103 (Int.tmod (wrap64 (Int.tdiv t119 2)) 6)])⟩ : S36)]) t106 (wrap64 (x6_1 + 1))) else (none)) else (none)) else (none)) else (none)) else (if x4_1.length < 2199023255552 then (spliceryref41_Clauses.l0 k2 l0 y103 (x4_1 ++ [(⟨(rdOf ByteArray.empty y103 (ji6)), x109001_2, ([] : List ByteArray)⟩ : S36)]) t106 (wrap64 (x6_1 + 1))) else (none))))) = some r := H
        have A12 := Aside0.mk A120
        clear A120
        by_cases c13 : x8_2 < t109
        ·rw [if_pos c13] at H
         have c13b0 : decide (x8_2 < t109) = true := decide_eq_true c13
         clear c13
         replace H := Option.bind_eq_some_iff.mp H
         obtain ⟨t110, A140, H⟩ := H
         replace H : (if 0 ≤ (Int.tmod t110 6) then (if (Int.tmod t110 6) < (y103.length : Int) then (if (Int.tmod t110 5) > 0 then (if (rdOf ByteArray.empty y103 (Int.tmod t110 6)).size + 1 ≤ 9223372036854775807 then (if 0 ≤ (Int.tmod (wrap64 (Int.tdiv t110 6)) 6) then (if (Int.tmod (wrap64 (Int.tdiv t110 6)) 6) < (y103.length : Int) then (if ((rdOf ByteArray.empty y103 (Int.tmod t110 6)) ++ (⟨#[62]⟩ : ByteArray)).size + (rdOf ByteArray.empty y103 (Int.tmod (wrap64 (Int.tdiv t110 6)) 6)).size ≤ 9223372036854775807 then (if x109001_2.length < 8796093022208 then (spliceryref41_Clauses.l1 k2 l0 y103 x4_1 t106 x6_1 (wrap64 (x8_2 + 1)) (rdOf ByteArray.empty y103 (ji6)) (x109001_2 ++ [((rdOf ByteArray.empty y103 (Int.tmod t110 6)) ++ (⟨#[62]⟩ : ByteArray)) ++ (rdOf ByteArray.empty y103 (Int.tmod (wrap64 (Int.tdiv t110 6)) 6))])) else (none)) else (none)) else (none)) else (none)) else (none)) else (if x109001_2.length < 8796093022208 then (spliceryref41_Clauses.l1 k2 l0 y103 x4_1 t106 x6_1 (wrap64 (x8_2 + 1)) (rdOf ByteArray.empty y103 (ji6)) (x109001_2 ++ [rdOf ByteArray.empty y103 (Int.tmod t110 6)])) else (none))) else (none)) else (none)) = some r := H
         have A14 := Aside0.mk A140
         clear A140
         obtain ⟨ji15, hji15⟩ : ∃ j_ : Int, (Int.tmod t110 6) = j_ := ⟨_, rfl⟩
         replace H : (if 0 ≤ (ji15) then (if (ji15) < (y103.length : Int) then (if (Int.tmod t110 5) > 0 then (if (rdOf ByteArray.empty y103 (ji15)).size + 1 ≤ 9223372036854775807 then (if 0 ≤ (Int.tmod (wrap64 (Int.tdiv t110 6)) 6) then (if (Int.tmod (wrap64 (Int.tdiv t110 6)) 6) < (y103.length : Int) then (if ((rdOf ByteArray.empty y103 (ji15)) ++ (⟨#[62]⟩ : ByteArray)).size + (rdOf ByteArray.empty y103 (Int.tmod (wrap64 (Int.tdiv t110 6)) 6)).size ≤ 9223372036854775807 then (if x109001_2.length < 8796093022208 then (spliceryref41_Clauses.l1 k2 l0 y103 x4_1 t106 x6_1 (wrap64 (x8_2 + 1)) (rdOf ByteArray.empty y103 (ji6)) (x109001_2 ++ [((rdOf ByteArray.empty y103 (ji15)) ++ (⟨#[62]⟩ : ByteArray)) ++ (rdOf ByteArray.empty y103 (Int.tmod (wrap64 (Int.tdiv t110 6)) 6))])) else (none)) else (none)) else (none)) else (none)) else (none)) else (if x109001_2.length < 8796093022208 then (spliceryref41_Clauses.l1 k2 l0 y103 x4_1 t106 x6_1 (wrap64 (x8_2 + 1)) (rdOf ByteArray.empty y103 (ji6)) (x109001_2 ++ [rdOf ByteArray.empty y103 (ji15)])) else (none))) else (none)) else (none)) = some r := by first | (rw [hji15] at H; exact H) | (simp only [hji15] at H ⊢; exact H)
         (try rw [hji15] at A12)
         (try rw [hji15] at A14)
         by_cases c16 : 0 ≤ (ji15)
         ·rw [if_pos c16] at H
          have c16b0 : decide (0 ≤ (ji15)) = true := decide_eq_true c16
          clear c16
          by_cases c17 : (ji15) < (y103.length : Int)
          ·rw [if_pos c17] at H
           have c17b0 : decide ((ji15) < (y103.length : Int)) = true := decide_eq_true c17
           clear c17
           by_cases c18 : (Int.tmod t110 5) > 0
           ·rw [if_pos c18] at H
            have c18b0 : decide (0 < (Int.tmod t110 5)) = true := decide_eq_true c18
            clear c18
            by_cases c19 : (rdOf ByteArray.empty y103 (ji15)).size + 1 ≤ 9223372036854775807
            ·rw [if_pos c19] at H
             have c19b0 := eq_true c19
             have c19b1 : decide ((rdOf ByteArray.empty y103 (ji15)).size + 1 ≤ 9223372036854775807) = true := decide_eq_true c19
             try have c19b2 : (9223372036854775807 < (rdOf ByteArray.empty y103 (ji15)).size + 1) = False := eq_false (Nat.not_lt.2 c19)
             obtain ⟨ji20, hji20⟩ : ∃ j_ : Int, (Int.tmod (wrap64 (Int.tdiv t110 6)) 6) = j_ := ⟨_, rfl⟩
             replace H : (if 0 ≤ (ji20) then (if (ji20) < (y103.length : Int) then (if ((rdOf ByteArray.empty y103 (ji15)) ++ (⟨#[62]⟩ : ByteArray)).size + (rdOf ByteArray.empty y103 (ji20)).size ≤ 9223372036854775807 then (if x109001_2.length < 8796093022208 then (spliceryref41_Clauses.l1 k2 l0 y103 x4_1 t106 x6_1 (wrap64 (x8_2 + 1)) (rdOf ByteArray.empty y103 (ji6)) (x109001_2 ++ [((rdOf ByteArray.empty y103 (ji15)) ++ (⟨#[62]⟩ : ByteArray)) ++ (rdOf ByteArray.empty y103 (ji20))])) else (none)) else (none)) else (none)) else (none)) = some r := by first | (rw [hji20] at H; exact H) | (simp only [hji20] at H ⊢; exact H)
             (try rw [hji20] at A12)
             (try rw [hji20] at A14)
             by_cases c21 : 0 ≤ (ji20)
             ·rw [if_pos c21] at H
              have c21b0 : decide (0 ≤ (ji20)) = true := decide_eq_true c21
              clear c21
              by_cases c22 : (ji20) < (y103.length : Int)
              ·rw [if_pos c22] at H
               have c22b0 : decide ((ji20) < (y103.length : Int)) = true := decide_eq_true c22
               clear c22
               by_cases c23 : ((rdOf ByteArray.empty y103 (ji15)) ++ (⟨#[62]⟩ : ByteArray)).size + (rdOf ByteArray.empty y103 (ji20)).size ≤ 9223372036854775807
               ·rw [if_pos c23] at H
                have c23b0 := eq_true c23
                have c23b1 : decide (((rdOf ByteArray.empty y103 (ji15)) ++ (⟨#[62]⟩ : ByteArray)).size + (rdOf ByteArray.empty y103 (ji20)).size ≤ 9223372036854775807) = true := decide_eq_true c23
                try have c23b2 : (9223372036854775807 < ((rdOf ByteArray.empty y103 (ji15)) ++ (⟨#[62]⟩ : ByteArray)).size + (rdOf ByteArray.empty y103 (ji20)).size) = False := eq_false (Nat.not_lt.2 c23)
                by_cases c24 : x109001_2.length < 8796093022208
                ·rw [if_pos c24] at H
                 have LMc24 := Aside0.mk c24
                 clear c24
                 obtain ⟨y113, hy113⟩ : ∃ y_ : List ByteArray, y_ = (x109001_2 ++ [((rdOf ByteArray.empty y103 (ji15)) ++ (⟨#[62]⟩ : ByteArray)) ++ (rdOf ByteArray.empty y103 (ji20))]) := ⟨_, rfl⟩
                 replace H : (spliceryref41_Clauses.l1 k2 l0 y103 x4_1 t106 x6_1 (wrap64 (x8_2 + 1)) (rdOf ByteArray.empty y103 (ji6)) y113) = some r := by first | (rw [hy113]; with_reducible exact H) | (have H2_ := (Option.bind_some _ _).symm.trans H; rw [hy113]; with_reducible exact H2_) | (have H2_ := (Option.bind_some _ _).symm.trans H; with_reducible exact H2_) | with_reducible exact H | (rw [hy113]; exact H) | exact H
                 have Ny113 := Aside0.mk hy113
                 clear hy113
                 have H' := Aside0.mk H
                 clear H
                 go_wp2_with (first | ((with_reducible refine gate_callee (f := 26) rfl ?_); refine goesL_ (some 30) rfl rfl Try.func26 (by kernel_rfl) rfl #[.slice A0 l0.length c0, .int .i64 (wrap64 (1 + x6_1)), .int .i64 4] rfl (by (try simp only [List.map_toArray, List.map_cons, List.map_nil]); first | done | rfl | (simp only [List.length_drop, List.length_take]; rfl)) ?_; (with_reducible refine (spliceryref01_At.calls _ _ l0 (wrap64 (1 + x6_1)) 4 t109 _ ?side1 ?side2 A12.out).mono ?_); (case side1 => repeat (first | exact (Kd.C_below HR0.out HB.out) | (with_reducible refine Kd.C_alloc ?_ _) | (with_reducible refine Kd.C_drewN ?_ _) | (with_reducible refine Kd.C_drew ?_))); (case side2 => exact HC0.out); rintro e w' ⟨rfl, ⟨nd, rfl⟩⟩; refine ⟨_, rfl, ?_⟩; (try (rw [drewN_self wr]; generalize hq_ : World.drewN wr _ = wr; have n0_ : Aside0 (Kd.R Kd.string 9 wr w.heap.size (fun k_ => some k_ ≠ (.slice (some ad107) y103.length co9 : Value).ownBlock) u109001 x109001_2) := ⟨by rw [← hq_]; exact (chR HO_109001)⟩; have n1_ : Aside0 (Kd.R Kd.string 9 wr w.heap.size (fun k_ => some k_ ≠ (u109001 : Value).ownBlock) (.slice (some ad107) y103.length co9) y103) := ⟨by rw [← hq_]; exact (chR HO_3)⟩; have n2_ : Aside0 (Kd.S k36 36 wr w.heap.size (fun k_ => some k_ ≠ (u109001 : Value).ownBlock ∧ some k_ ≠ (.slice (some ad107) y103.length co9 : Value).ownBlock ∧ k_ ≠ gb108) u4 x4_1) := ⟨by rw [← hq_]; exact (by (with_reducible repeat (first | apply Kd.S_alloc | apply Kd.S_drewN | apply Kd.S_drew)); exact Kd.S_mono HO_4.out (fun _ hk => by refine ⟨?_, ⟨?_, ?_⟩⟩ <;> (first | exact hk | simp [hk])))⟩; have n3_ : Aside0 (wr.heap[gb108]? = some (.cells #[.string (rdOf ByteArray.empty y103 (ji6)), u109001, .slice none 0 0] 36 (0, 0))) := ⟨by rw [← hq_]; exact (by (with_reducible repeat (first | refine blk_drewN ?_ _ | refine blk_drew ?_ | refine blk_alloc ?_ _)); exact BK108.out)⟩; have n4_ : Aside0 (Below w.heap.size w wr) := ⟨by rw [← hq_]; exact (by repeat (first | (with_reducible first | exact HB.out | apply below_alloc | apply pw_below_drewN | apply below_drew1 | refine below_set ?_ GE108.out) | exact HB.out))⟩; clear HO_109001 HO_3 HO_4 BK108 HB hq_; have HO_109001 := n0_; have HO_3 := n1_; have HO_4 := n2_; have BK108 := n3_; have HB := n4_; clear n0_ n1_ n2_ n3_ n4_))) | ((with_reducible refine gate_callee (f := 26) rfl ?_); refine goesL_ (some 40) rfl rfl Try.func26 (by kernel_rfl) rfl #[.slice A0 l0.length c0, .int .i64 (wrap64 ((wrap64 (9 + (wrap64 (3 * x6_1)))) + x8_2)), .int .i64 180] rfl (by (try simp only [List.map_toArray, List.map_cons, List.map_nil]); first | done | rfl | (simp only [List.length_drop, List.length_take]; rfl)) ?_; (with_reducible refine (spliceryref01_At.calls _ _ l0 (wrap64 ((wrap64 (9 + (wrap64 (3 * x6_1)))) + x8_2)) 180 t110 _ ?side1 ?side2 A14.out).mono ?_); (case side1 => repeat (first | exact (Kd.C_below HR0.out HB.out) | (with_reducible refine Kd.C_alloc ?_ _) | (with_reducible refine Kd.C_drewN ?_ _) | (with_reducible refine Kd.C_drew ?_))); (case side2 => exact HC0.out); rintro e w' ⟨rfl, ⟨nd, rfl⟩⟩; refine ⟨_, rfl, ?_⟩; (try (rw [drewN_self wr]; generalize hq_ : World.drewN wr _ = wr; have n0_ : Aside0 (Kd.R Kd.string 9 wr w.heap.size (fun k_ => some k_ ≠ (.slice (some ad107) y103.length co9 : Value).ownBlock) u109001 x109001_2) := ⟨by rw [← hq_]; exact (chR HO_109001)⟩; have n1_ : Aside0 (Kd.R Kd.string 9 wr w.heap.size (fun k_ => some k_ ≠ (u109001 : Value).ownBlock) (.slice (some ad107) y103.length co9) y103) := ⟨by rw [← hq_]; exact (chR HO_3)⟩; have n2_ : Aside0 (Kd.S k36 36 wr w.heap.size (fun k_ => some k_ ≠ (u109001 : Value).ownBlock ∧ some k_ ≠ (.slice (some ad107) y103.length co9 : Value).ownBlock ∧ k_ ≠ gb108) u4 x4_1) := ⟨by rw [← hq_]; exact (by (with_reducible repeat (first | apply Kd.S_alloc | apply Kd.S_drewN | apply Kd.S_drew)); exact Kd.S_mono HO_4.out (fun _ hk => by refine ⟨?_, ⟨?_, ?_⟩⟩ <;> (first | exact hk | simp [hk])))⟩; have n3_ : Aside0 (wr.heap[gb108]? = some (.cells #[.string (rdOf ByteArray.empty y103 (ji6)), u109001, .slice none 0 0] 36 (0, 0))) := ⟨by rw [← hq_]; exact (by (with_reducible repeat (first | refine blk_drewN ?_ _ | refine blk_drew ?_ | refine blk_alloc ?_ _)); exact BK108.out)⟩; have n4_ : Aside0 (Below w.heap.size w wr) := ⟨by rw [← hq_]; exact (by repeat (first | (with_reducible first | exact HB.out | apply below_alloc | apply pw_below_drewN | apply below_drew1 | refine below_set ?_ GE108.out) | exact HB.out))⟩; clear HO_109001 HO_3 HO_4 BK108 HB hq_; have HO_109001 := n0_; have HO_3 := n1_; have HO_4 := n2_; have BK108 := n3_; have HB := n4_; clear n0_ n1_ n2_ n3_ n4_)); have p111 : 0 ≤ ((ji15) : Int) := of_decide_eq_true (by first | (with_reducible assumption) | assumption); have q111 : (ji15) < (y103.length : Int) := of_decide_eq_true (by first | (with_reducible assumption) | assumption); obtain ⟨ad111, e111, hx111_0⟩ := Kd.at_string (Kd.R_reads' HO_3.out).2.2 (ji15) p111 q111; obtain rfl : ad107 = ad111 := (by injection e111); replace p111 := eq_true p111; replace q111 := eq_true q111; have p112 : 0 ≤ ((ji20) : Int) := of_decide_eq_true (by first | (with_reducible assumption) | assumption); have q112 : (ji20) < (y103.length : Int) := of_decide_eq_true (by first | (with_reducible assumption) | assumption); obtain ⟨ad112, e112, hx112_0⟩ := Kd.at_string (Kd.R_reads' HO_3.out).2.2 (ji20) p112 q112; obtain rfl : ad107 = ad112 := (by injection e112); replace p112 := eq_true p112; replace q112 := eq_true q112; have hcz25_0 : wr.cell? ⟨gb108, 0, none⟩ = some (.string (rdOf ByteArray.empty y103 (ji6))) := (blk_cell BK108.out 0).trans rfl; have hcz25_1 : wr.cell? ⟨gb108, 1, none⟩ = some (u109001) := (blk_cell BK108.out 1).trans rfl; have hcz25_2 : wr.cell? ⟨gb108, 2, none⟩ = some (.slice none 0 0) := (blk_cell BK108.out 2).trans rfl; have hfz25_0 := blk_frozen BK108.out 0; have hfz25_1 := blk_frozen BK108.out 1; have hfz25_2 := blk_frozen BK108.out 2) | ((with_reducible refine gate_builtin (b := .append) (xs := #[.tmp 59, .tmp 61]) rfl ?_); at_builtin; refine Kd.R_append Kd.string (w0 := w) w.heap.size rfl (.tmp 59) (.tmp 61) 34 9 (.string ⟨#[]⟩) 16 rfl Try.underlying34 info9 rfl (by decide) (by omega) u109001 x109001_2 (((rdOf ByteArray.empty y103 (ji15)) ++ (⟨#[62]⟩ : ByteArray)) ++ (rdOf ByteArray.empty y103 (ji20))) [.string (((rdOf ByteArray.empty y103 (ji15)) ++ (⟨#[62]⟩ : ByteArray)) ++ (rdOf ByteArray.empty y103 (ji20)))] (fun k_ => some k_ ≠ (.slice (some ad107) y103.length co9 : Value).ownBlock) (fun _ => False) rfl rfl ?aP (fun _ hk => hk.elim) ?aF ?aO ?aB ?aS ?aL ?_; (case aP => exact rfl); (case aB => exact (by repeat (first | (with_reducible first | exact HB.out | apply below_alloc | apply pw_below_drewN | apply below_drew1 | refine below_set ?_ GE108.out) | exact HB.out))); (case aF => exact (fun k_ hk => Kd.fresh' (Kd.R_lt (chR HO_3)) k_ hk)); (case aO => exact (chR HO_109001)); (case aS => exact (below_size (by repeat (first | (with_reducible first | exact HB.out | apply below_alloc | apply pw_below_drewN | apply below_drew1 | refine below_set ?_ GE108.out) | exact HB.out)))); (case aL => have := LMc24.out; omega); intro v114 w26 ho hb hg hat; rw [← Ny113.out] at ho; have n0_ := Aside0.mk (Kd.R_after (ok := (fun _ => True)) (by (with_reducible repeat (first | apply Kd.R_alloc | apply Kd.R_drewN | apply Kd.R_drew)); exact Kd.R_mono HO_3.out (fun _ hk => ⟨trivial, hk⟩)) hg hat); have n1_ := Aside0.mk (Kd.S_after (ok := (fun k_ => some k_ ≠ (.slice (some ad107) y103.length co9 : Value).ownBlock ∧ k_ ≠ gb108)) (by (with_reducible repeat (first | apply Kd.S_alloc | apply Kd.S_drewN | apply Kd.S_drew)); exact Kd.S_mono HO_4.out (fun _ hk => by refine ⟨⟨?_, ?_⟩, ?_⟩ <;> (first | exact hk | simp [hk]))) hg hat); have n2_ := Aside0.mk (blk_grown (g := gb108) (o := .cells #[.string (rdOf ByteArray.empty y103 (ji6)), u109001, .slice none 0 0] 36 (0, 0)) (by (with_reducible repeat (first | refine blk_drewN ?_ _ | refine blk_drew ?_ | refine blk_alloc ?_ _)); exact BK108.out) hg (Kd.R_ne HO_109001.out BK108.out (by decide))); have n3_ := Aside0.mk (hb); have n4_ := Aside0.mk (ho); clear HO_3; clear HO_4; clear BK108; clear HB; clear HO_109001; have HO_3 := n0_; have HO_4 := n1_; have BK108 := n2_; have HB := n3_; have HO115 := n4_; clear n0_ n1_ n2_ n3_ n4_; clear ho hb hg hat; obtain ⟨Ao27, co27, eo27⟩ := Kd.R_slice HO115.out; subst eo27; have hcz28_0 : w26.cell? ⟨gb108, 0, none⟩ = some (.string (rdOf ByteArray.empty y103 (ji6))) := (blk_cell BK108.out 0).trans rfl; have hcz28_1 : w26.cell? ⟨gb108, 1, none⟩ = some (u109001) := (blk_cell BK108.out 1).trans rfl; have hcz28_2 : w26.cell? ⟨gb108, 2, none⟩ = some (.slice none 0 0) := (blk_cell BK108.out 2).trans rfl; have hfz28_0 := blk_frozen BK108.out 0; have hfz28_1 := blk_frozen BK108.out 1; have hfz28_2 := blk_frozen BK108.out 2))
                 go_roundg k2
                 case measure => have := HK1.out; have := HK2.out; omega
                 case rel => exact ⟨(wrap64 (x8_2 + 1)), (y113), (.slice Ao27 y113.length co27), (by first | rfl | (simp; done) | (simp [*]; done)), H', ⟨by have := HK1.out; have := HK2.out; omega⟩, ⟨by (with_reducible repeat (first | apply Kd.R_alloc | apply Kd.R_drewN | apply Kd.R_drew)); exact Kd.R_mono (Kd.R_far (p := ⟨gb108, 1, none⟩) (Kd.R_types HO_3.out BK108.out (by decide)) (fun _ hk => by first | exact hk | simp [hk]) (.slice Ao27 y113.length co27)) (fun _ hk => by first | exact hk | simp [hk])⟩, ⟨by (with_reducible repeat (first | apply Kd.S_alloc | apply Kd.S_drewN | apply Kd.S_drew)); exact Kd.S_mono (Kd.S_far (p := ⟨gb108, 1, none⟩) (Kd.S_mono HO_4.out (fun k_ hk => (⟨hk, hk.1.2⟩ : _ ∧ k_ ≠ gb108))) (fun _ hk => by first | exact hk | simp [hk]) (.slice Ao27 y113.length co27)) (fun _ hk => by refine ⟨?_, ⟨?_, ?_⟩⟩ <;> (first | exact hk | simp [hk]))⟩, ⟨by (with_reducible repeat (first | apply Kd.R_alloc | apply Kd.R_drewN | apply Kd.R_drew)); exact Kd.R_mono (Kd.R_far (p := ⟨gb108, 1, none⟩) (Kd.R_types HO115.out BK108.out (by decide)) (fun _ hk => by first | exact hk | simp [hk]) (.slice Ao27 y113.length co27)) (fun _ hk => by first | exact hk | simp [hk])⟩, ⟨by (with_reducible repeat (first | refine blk_drewN ?_ _ | refine blk_drew ?_ | refine blk_alloc ?_ _)); refine blk_put (cs := #[.string (rdOf ByteArray.empty y103 (ji6)), u109001, .slice none 0 0]) ?_ 1 _ rfl; (with_reducible repeat (first | refine blk_drewN ?_ _ | refine blk_drew ?_ | refine blk_alloc ?_ _)); exact BK108.out⟩, ⟨by repeat (first | (with_reducible first | exact HB.out | apply below_alloc | apply pw_below_drewN | apply below_drew1 | refine below_set ?_ GE108.out) | exact HB.out)⟩⟩
                ·rw [if_neg c24] at H
                 exact absurd H (by simp)
               ·rw [if_neg c23] at H
                exact absurd H (by simp)
              ·rw [if_neg c22] at H
               exact absurd H (by simp)
             ·rw [if_neg c21] at H
              exact absurd H (by simp)
            ·rw [if_neg c19] at H
             exact absurd H (by simp)
           ·rw [if_neg c18] at H
            have c18b0 : decide (0 < (Int.tmod t110 5)) = false := decide_eq_false c18
            clear c18
            by_cases c29 : x109001_2.length < 8796093022208
            ·rw [if_pos c29] at H
             have LMc29 := Aside0.mk c29
             clear c29
             obtain ⟨y116, hy116⟩ : ∃ y_ : List ByteArray, y_ = (x109001_2 ++ [rdOf ByteArray.empty y103 (ji15)]) := ⟨_, rfl⟩
             replace H : (spliceryref41_Clauses.l1 k2 l0 y103 x4_1 t106 x6_1 (wrap64 (x8_2 + 1)) (rdOf ByteArray.empty y103 (ji6)) y116) = some r := by first | (rw [hy116]; with_reducible exact H) | (have H2_ := (Option.bind_some _ _).symm.trans H; rw [hy116]; with_reducible exact H2_) | (have H2_ := (Option.bind_some _ _).symm.trans H; with_reducible exact H2_) | with_reducible exact H | (rw [hy116]; exact H) | exact H
             have Ny116 := Aside0.mk hy116
             clear hy116
             have H' := Aside0.mk H
             clear H
             go_wp2_with (first | ((with_reducible refine gate_callee (f := 26) rfl ?_); refine goesL_ (some 30) rfl rfl Try.func26 (by kernel_rfl) rfl #[.slice A0 l0.length c0, .int .i64 (wrap64 (1 + x6_1)), .int .i64 4] rfl (by (try simp only [List.map_toArray, List.map_cons, List.map_nil]); first | done | rfl | (simp only [List.length_drop, List.length_take]; rfl)) ?_; (with_reducible refine (spliceryref01_At.calls _ _ l0 (wrap64 (1 + x6_1)) 4 t109 _ ?side1 ?side2 A12.out).mono ?_); (case side1 => repeat (first | exact (Kd.C_below HR0.out HB.out) | (with_reducible refine Kd.C_alloc ?_ _) | (with_reducible refine Kd.C_drewN ?_ _) | (with_reducible refine Kd.C_drew ?_))); (case side2 => exact HC0.out); rintro e w' ⟨rfl, ⟨nd, rfl⟩⟩; refine ⟨_, rfl, ?_⟩; (try (rw [drewN_self wr]; generalize hq_ : World.drewN wr _ = wr; have n0_ : Aside0 (Kd.R Kd.string 9 wr w.heap.size (fun k_ => some k_ ≠ (.slice (some ad107) y103.length co9 : Value).ownBlock) u109001 x109001_2) := ⟨by rw [← hq_]; exact (chR HO_109001)⟩; have n1_ : Aside0 (Kd.R Kd.string 9 wr w.heap.size (fun k_ => some k_ ≠ (u109001 : Value).ownBlock) (.slice (some ad107) y103.length co9) y103) := ⟨by rw [← hq_]; exact (chR HO_3)⟩; have n2_ : Aside0 (Kd.S k36 36 wr w.heap.size (fun k_ => some k_ ≠ (u109001 : Value).ownBlock ∧ some k_ ≠ (.slice (some ad107) y103.length co9 : Value).ownBlock ∧ k_ ≠ gb108) u4 x4_1) := ⟨by rw [← hq_]; exact (by (with_reducible repeat (first | apply Kd.S_alloc | apply Kd.S_drewN | apply Kd.S_drew)); exact Kd.S_mono HO_4.out (fun _ hk => by refine ⟨?_, ⟨?_, ?_⟩⟩ <;> (first | exact hk | simp [hk])))⟩; have n3_ : Aside0 (wr.heap[gb108]? = some (.cells #[.string (rdOf ByteArray.empty y103 (ji6)), u109001, .slice none 0 0] 36 (0, 0))) := ⟨by rw [← hq_]; exact (by (with_reducible repeat (first | refine blk_drewN ?_ _ | refine blk_drew ?_ | refine blk_alloc ?_ _)); exact BK108.out)⟩; have n4_ : Aside0 (Below w.heap.size w wr) := ⟨by rw [← hq_]; exact (by repeat (first | (with_reducible first | exact HB.out | apply below_alloc | apply pw_below_drewN | apply below_drew1 | refine below_set ?_ GE108.out) | exact HB.out))⟩; clear HO_109001 HO_3 HO_4 BK108 HB hq_; have HO_109001 := n0_; have HO_3 := n1_; have HO_4 := n2_; have BK108 := n3_; have HB := n4_; clear n0_ n1_ n2_ n3_ n4_))) | ((with_reducible refine gate_callee (f := 26) rfl ?_); refine goesL_ (some 40) rfl rfl Try.func26 (by kernel_rfl) rfl #[.slice A0 l0.length c0, .int .i64 (wrap64 ((wrap64 (9 + (wrap64 (3 * x6_1)))) + x8_2)), .int .i64 180] rfl (by (try simp only [List.map_toArray, List.map_cons, List.map_nil]); first | done | rfl | (simp only [List.length_drop, List.length_take]; rfl)) ?_; (with_reducible refine (spliceryref01_At.calls _ _ l0 (wrap64 ((wrap64 (9 + (wrap64 (3 * x6_1)))) + x8_2)) 180 t110 _ ?side1 ?side2 A14.out).mono ?_); (case side1 => repeat (first | exact (Kd.C_below HR0.out HB.out) | (with_reducible refine Kd.C_alloc ?_ _) | (with_reducible refine Kd.C_drewN ?_ _) | (with_reducible refine Kd.C_drew ?_))); (case side2 => exact HC0.out); rintro e w' ⟨rfl, ⟨nd, rfl⟩⟩; refine ⟨_, rfl, ?_⟩; (try (rw [drewN_self wr]; generalize hq_ : World.drewN wr _ = wr; have n0_ : Aside0 (Kd.R Kd.string 9 wr w.heap.size (fun k_ => some k_ ≠ (.slice (some ad107) y103.length co9 : Value).ownBlock) u109001 x109001_2) := ⟨by rw [← hq_]; exact (chR HO_109001)⟩; have n1_ : Aside0 (Kd.R Kd.string 9 wr w.heap.size (fun k_ => some k_ ≠ (u109001 : Value).ownBlock) (.slice (some ad107) y103.length co9) y103) := ⟨by rw [← hq_]; exact (chR HO_3)⟩; have n2_ : Aside0 (Kd.S k36 36 wr w.heap.size (fun k_ => some k_ ≠ (u109001 : Value).ownBlock ∧ some k_ ≠ (.slice (some ad107) y103.length co9 : Value).ownBlock ∧ k_ ≠ gb108) u4 x4_1) := ⟨by rw [← hq_]; exact (by (with_reducible repeat (first | apply Kd.S_alloc | apply Kd.S_drewN | apply Kd.S_drew)); exact Kd.S_mono HO_4.out (fun _ hk => by refine ⟨?_, ⟨?_, ?_⟩⟩ <;> (first | exact hk | simp [hk])))⟩; have n3_ : Aside0 (wr.heap[gb108]? = some (.cells #[.string (rdOf ByteArray.empty y103 (ji6)), u109001, .slice none 0 0] 36 (0, 0))) := ⟨by rw [← hq_]; exact (by (with_reducible repeat (first | refine blk_drewN ?_ _ | refine blk_drew ?_ | refine blk_alloc ?_ _)); exact BK108.out)⟩; have n4_ : Aside0 (Below w.heap.size w wr) := ⟨by rw [← hq_]; exact (by repeat (first | (with_reducible first | exact HB.out | apply below_alloc | apply pw_below_drewN | apply below_drew1 | refine below_set ?_ GE108.out) | exact HB.out))⟩; clear HO_109001 HO_3 HO_4 BK108 HB hq_; have HO_109001 := n0_; have HO_3 := n1_; have HO_4 := n2_; have BK108 := n3_; have HB := n4_; clear n0_ n1_ n2_ n3_ n4_)); have p111 : 0 ≤ ((ji15) : Int) := of_decide_eq_true (by first | (with_reducible assumption) | assumption); have q111 : (ji15) < (y103.length : Int) := of_decide_eq_true (by first | (with_reducible assumption) | assumption); obtain ⟨ad111, e111, hx111_0⟩ := Kd.at_string (Kd.R_reads' HO_3.out).2.2 (ji15) p111 q111; obtain rfl : ad107 = ad111 := (by injection e111); replace p111 := eq_true p111; replace q111 := eq_true q111; have hcz30_0 : wr.cell? ⟨gb108, 0, none⟩ = some (.string (rdOf ByteArray.empty y103 (ji6))) := (blk_cell BK108.out 0).trans rfl; have hcz30_1 : wr.cell? ⟨gb108, 1, none⟩ = some (u109001) := (blk_cell BK108.out 1).trans rfl; have hcz30_2 : wr.cell? ⟨gb108, 2, none⟩ = some (.slice none 0 0) := (blk_cell BK108.out 2).trans rfl; have hfz30_0 := blk_frozen BK108.out 0; have hfz30_1 := blk_frozen BK108.out 1; have hfz30_2 := blk_frozen BK108.out 2) | ((with_reducible refine gate_builtin (b := .append) (xs := #[.tmp 59, .tmp 61]) rfl ?_); at_builtin; refine Kd.R_append Kd.string (w0 := w) w.heap.size rfl (.tmp 59) (.tmp 61) 34 9 (.string ⟨#[]⟩) 16 rfl Try.underlying34 info9 rfl (by decide) (by omega) u109001 x109001_2 (rdOf ByteArray.empty y103 (ji15)) [.string (rdOf ByteArray.empty y103 (ji15))] (fun k_ => some k_ ≠ (.slice (some ad107) y103.length co9 : Value).ownBlock) (fun _ => False) rfl rfl ?aP (fun _ hk => hk.elim) ?aF ?aO ?aB ?aS ?aL ?_; (case aP => exact rfl); (case aB => exact (by repeat (first | (with_reducible first | exact HB.out | apply below_alloc | apply pw_below_drewN | apply below_drew1 | refine below_set ?_ GE108.out) | exact HB.out))); (case aF => exact (fun k_ hk => Kd.fresh' (Kd.R_lt (chR HO_3)) k_ hk)); (case aO => exact (chR HO_109001)); (case aS => exact (below_size (by repeat (first | (with_reducible first | exact HB.out | apply below_alloc | apply pw_below_drewN | apply below_drew1 | refine below_set ?_ GE108.out) | exact HB.out)))); (case aL => have := LMc29.out; omega); intro v117 w31 ho hb hg hat; rw [← Ny116.out] at ho; have n0_ := Aside0.mk (Kd.R_after (ok := (fun _ => True)) (by (with_reducible repeat (first | apply Kd.R_alloc | apply Kd.R_drewN | apply Kd.R_drew)); exact Kd.R_mono HO_3.out (fun _ hk => ⟨trivial, hk⟩)) hg hat); have n1_ := Aside0.mk (Kd.S_after (ok := (fun k_ => some k_ ≠ (.slice (some ad107) y103.length co9 : Value).ownBlock ∧ k_ ≠ gb108)) (by (with_reducible repeat (first | apply Kd.S_alloc | apply Kd.S_drewN | apply Kd.S_drew)); exact Kd.S_mono HO_4.out (fun _ hk => by refine ⟨⟨?_, ?_⟩, ?_⟩ <;> (first | exact hk | simp [hk]))) hg hat); have n2_ := Aside0.mk (blk_grown (g := gb108) (o := .cells #[.string (rdOf ByteArray.empty y103 (ji6)), u109001, .slice none 0 0] 36 (0, 0)) (by (with_reducible repeat (first | refine blk_drewN ?_ _ | refine blk_drew ?_ | refine blk_alloc ?_ _)); exact BK108.out) hg (Kd.R_ne HO_109001.out BK108.out (by decide))); have n3_ := Aside0.mk (hb); have n4_ := Aside0.mk (ho); clear HO_3; clear HO_4; clear BK108; clear HB; clear HO_109001; have HO_3 := n0_; have HO_4 := n1_; have BK108 := n2_; have HB := n3_; have HO118 := n4_; clear n0_ n1_ n2_ n3_ n4_; clear ho hb hg hat; obtain ⟨Ao32, co32, eo32⟩ := Kd.R_slice HO118.out; subst eo32; have hcz33_0 : w31.cell? ⟨gb108, 0, none⟩ = some (.string (rdOf ByteArray.empty y103 (ji6))) := (blk_cell BK108.out 0).trans rfl; have hcz33_1 : w31.cell? ⟨gb108, 1, none⟩ = some (u109001) := (blk_cell BK108.out 1).trans rfl; have hcz33_2 : w31.cell? ⟨gb108, 2, none⟩ = some (.slice none 0 0) := (blk_cell BK108.out 2).trans rfl; have hfz33_0 := blk_frozen BK108.out 0; have hfz33_1 := blk_frozen BK108.out 1; have hfz33_2 := blk_frozen BK108.out 2))
             go_roundg k2
             case measure => have := HK1.out; have := HK2.out; omega
             case rel => exact ⟨(wrap64 (x8_2 + 1)), (y116), (.slice Ao32 y116.length co32), (by first | rfl | (simp; done) | (simp [*]; done)), H', ⟨by have := HK1.out; have := HK2.out; omega⟩, ⟨by (with_reducible repeat (first | apply Kd.R_alloc | apply Kd.R_drewN | apply Kd.R_drew)); exact Kd.R_mono (Kd.R_far (p := ⟨gb108, 1, none⟩) (Kd.R_types HO_3.out BK108.out (by decide)) (fun _ hk => by first | exact hk | simp [hk]) (.slice Ao32 y116.length co32)) (fun _ hk => by first | exact hk | simp [hk])⟩, ⟨by (with_reducible repeat (first | apply Kd.S_alloc | apply Kd.S_drewN | apply Kd.S_drew)); exact Kd.S_mono (Kd.S_far (p := ⟨gb108, 1, none⟩) (Kd.S_mono HO_4.out (fun k_ hk => (⟨hk, hk.1.2⟩ : _ ∧ k_ ≠ gb108))) (fun _ hk => by first | exact hk | simp [hk]) (.slice Ao32 y116.length co32)) (fun _ hk => by refine ⟨?_, ⟨?_, ?_⟩⟩ <;> (first | exact hk | simp [hk]))⟩, ⟨by (with_reducible repeat (first | apply Kd.R_alloc | apply Kd.R_drewN | apply Kd.R_drew)); exact Kd.R_mono (Kd.R_far (p := ⟨gb108, 1, none⟩) (Kd.R_types HO118.out BK108.out (by decide)) (fun _ hk => by first | exact hk | simp [hk]) (.slice Ao32 y116.length co32)) (fun _ hk => by first | exact hk | simp [hk])⟩, ⟨by (with_reducible repeat (first | refine blk_drewN ?_ _ | refine blk_drew ?_ | refine blk_alloc ?_ _)); refine blk_put (cs := #[.string (rdOf ByteArray.empty y103 (ji6)), u109001, .slice none 0 0]) ?_ 1 _ rfl; (with_reducible repeat (first | refine blk_drewN ?_ _ | refine blk_drew ?_ | refine blk_alloc ?_ _)); exact BK108.out⟩, ⟨by repeat (first | (with_reducible first | exact HB.out | apply below_alloc | apply pw_below_drewN | apply below_drew1 | refine below_set ?_ GE108.out) | exact HB.out)⟩⟩
            ·rw [if_neg c29] at H
             exact absurd H (by simp)
          ·rw [if_neg c17] at H
           exact absurd H (by simp)
         ·rw [if_neg c16] at H
          exact absurd H (by simp)
        ·rw [if_neg c13] at H
         have c13b0 : decide (x8_2 < t109) = false := decide_eq_false c13
         clear c13
         replace H := Option.bind_eq_some_iff.mp H
         obtain ⟨t119, A340, H⟩ := H
         replace H : (if (Int.tmod t119 2) = 0 then (if 0 ≤ (Int.tmod (wrap64 (Int.tdiv t119 2)) 6) then (if (Int.tmod (wrap64 (Int.tdiv t119 2)) 6) < (y103.length : Int) then (if ([] : List ByteArray).length < 8796093022208 then (if x4_1.length < 2199023255552 then (spliceryref41_Clauses.l0 k2 l0 y103 (x4_1 ++ [(⟨(rdOf ByteArray.empty y103 (ji6)), x109001_2, (([] : List ByteArray) ++ [rdOf ByteArray.empty y103 (Int.tmod (wrap64 (Int.tdiv t119 2)) 6)])⟩ : S36)]) t106 (wrap64 (x6_1 + 1))) else (none)) else (none)) else (none)) else (none)) else (if x4_1.length < 2199023255552 then (spliceryref41_Clauses.l0 k2 l0 y103 (x4_1 ++ [(⟨(rdOf ByteArray.empty y103 (ji6)), x109001_2, ([] : List ByteArray)⟩ : S36)]) t106 (wrap64 (x6_1 + 1))) else (none))) = some r := H
         have A34 := Aside0.mk A340
         clear A340
         by_cases c35 : (Int.tmod t119 2) = 0
         ·rw [if_pos c35] at H
          have c35b0 : ((Int.tmod t119 2) == 0) = true := beq_iff_eq.mpr c35
          have c35b1 : ((Int.tmod t119 2) != 0) = false := bne_eq_false_iff_eq.mpr c35
          clear c35
          obtain ⟨ji36, hji36⟩ : ∃ j_ : Int, (Int.tmod (wrap64 (Int.tdiv t119 2)) 6) = j_ := ⟨_, rfl⟩
          replace H : (if 0 ≤ (ji36) then (if (ji36) < (y103.length : Int) then (if ([] : List ByteArray).length < 8796093022208 then (if x4_1.length < 2199023255552 then (spliceryref41_Clauses.l0 k2 l0 y103 (x4_1 ++ [(⟨(rdOf ByteArray.empty y103 (ji6)), x109001_2, (([] : List ByteArray) ++ [rdOf ByteArray.empty y103 (ji36)])⟩ : S36)]) t106 (wrap64 (x6_1 + 1))) else (none)) else (none)) else (none)) else (none)) = some r := by first | (rw [hji36] at H; exact H) | (simp only [hji36] at H ⊢; exact H)
          (try rw [hji36] at A12)
          (try rw [hji36] at A34)
          by_cases c37 : 0 ≤ (ji36)
          ·rw [if_pos c37] at H
           have c37b0 : decide (0 ≤ (ji36)) = true := decide_eq_true c37
           clear c37
           by_cases c38 : (ji36) < (y103.length : Int)
           ·rw [if_pos c38] at H
            have c38b0 : decide ((ji36) < (y103.length : Int)) = true := decide_eq_true c38
            clear c38
            by_cases c39 : ([] : List ByteArray).length < 8796093022208
            ·rw [if_pos c39] at H
             have LMc39 := Aside0.mk c39
             clear c39
             obtain ⟨y121, hy121⟩ : ∃ y_ : List ByteArray, y_ = (([] : List ByteArray) ++ [rdOf ByteArray.empty y103 (ji36)]) := ⟨_, rfl⟩
             replace H : (if x4_1.length < 2199023255552 then (spliceryref41_Clauses.l0 k2 l0 y103 (x4_1 ++ [(⟨(rdOf ByteArray.empty y103 (ji6)), x109001_2, y121⟩ : S36)]) t106 (wrap64 (x6_1 + 1))) else (none)) = some r := by first | (rw [hy121]; with_reducible exact H) | (have H2_ := (Option.bind_some _ _).symm.trans H; rw [hy121]; with_reducible exact H2_) | (have H2_ := (Option.bind_some _ _).symm.trans H; with_reducible exact H2_) | with_reducible exact H | (rw [hy121]; exact H) | exact H
             have Ny121 := Aside0.mk hy121
             clear hy121
             by_cases c40 : x4_1.length < 2199023255552
             ·rw [if_pos c40] at H
              have LMc40 := Aside0.mk c40
              clear c40
              obtain ⟨y124, hy124⟩ : ∃ y_ : List (S36), y_ = (x4_1 ++ [(⟨(rdOf ByteArray.empty y103 (ji6)), x109001_2, y121⟩ : S36)]) := ⟨_, rfl⟩
              replace H : (spliceryref41_Clauses.l0 k2 l0 y103 y124 t106 (wrap64 (x6_1 + 1))) = some r := by first | (rw [hy124]; with_reducible exact H) | (have H2_ := (Option.bind_some _ _).symm.trans H; rw [hy124]; with_reducible exact H2_) | (have H2_ := (Option.bind_some _ _).symm.trans H; with_reducible exact H2_) | with_reducible exact H | (rw [hy124]; exact H) | exact H
              have Ny124 := Aside0.mk hy124
              clear hy124
              have H' := Aside0.mk H
              clear H
              try go_wp2_with (first | ((with_reducible refine gate_callee (f := 26) rfl ?_); refine goesL_ (some 30) rfl rfl Try.func26 (by kernel_rfl) rfl #[.slice A0 l0.length c0, .int .i64 (wrap64 (1 + x6_1)), .int .i64 4] rfl (by (try simp only [List.map_toArray, List.map_cons, List.map_nil]); first | done | rfl | (simp only [List.length_drop, List.length_take]; rfl)) ?_; (with_reducible refine (spliceryref01_At.calls _ _ l0 (wrap64 (1 + x6_1)) 4 t109 _ ?side1 ?side2 A12.out).mono ?_); (case side1 => repeat (first | exact (Kd.C_below HR0.out HB.out) | (with_reducible refine Kd.C_alloc ?_ _) | (with_reducible refine Kd.C_drewN ?_ _) | (with_reducible refine Kd.C_drew ?_))); (case side2 => exact HC0.out); rintro e w' ⟨rfl, ⟨nd, rfl⟩⟩; refine ⟨_, rfl, ?_⟩; (try (rw [drewN_self wr]; generalize hq_ : World.drewN wr _ = wr; have n0_ : Aside0 (Kd.R Kd.string 9 wr w.heap.size (fun k_ => some k_ ≠ (.slice (some ad107) y103.length co9 : Value).ownBlock) u109001 x109001_2) := ⟨by rw [← hq_]; exact (chR HO_109001)⟩; have n1_ : Aside0 (Kd.R Kd.string 9 wr w.heap.size (fun k_ => some k_ ≠ (u109001 : Value).ownBlock) (.slice (some ad107) y103.length co9) y103) := ⟨by rw [← hq_]; exact (chR HO_3)⟩; have n2_ : Aside0 (Kd.S k36 36 wr w.heap.size (fun k_ => some k_ ≠ (u109001 : Value).ownBlock ∧ some k_ ≠ (.slice (some ad107) y103.length co9 : Value).ownBlock ∧ k_ ≠ gb108) u4 x4_1) := ⟨by rw [← hq_]; exact (by (with_reducible repeat (first | apply Kd.S_alloc | apply Kd.S_drewN | apply Kd.S_drew)); exact Kd.S_mono HO_4.out (fun _ hk => by refine ⟨?_, ⟨?_, ?_⟩⟩ <;> (first | exact hk | simp [hk])))⟩; have n3_ : Aside0 (wr.heap[gb108]? = some (.cells #[.string (rdOf ByteArray.empty y103 (ji6)), u109001, .slice none 0 0] 36 (0, 0))) := ⟨by rw [← hq_]; exact (by (with_reducible repeat (first | refine blk_drewN ?_ _ | refine blk_drew ?_ | refine blk_alloc ?_ _)); exact BK108.out)⟩; have n4_ : Aside0 (Below w.heap.size w wr) := ⟨by rw [← hq_]; exact (by repeat (first | (with_reducible first | exact HB.out | apply below_alloc | apply pw_below_drewN | apply below_drew1 | refine below_set ?_ GE108.out) | exact HB.out))⟩; clear HO_109001 HO_3 HO_4 BK108 HB hq_; have HO_109001 := n0_; have HO_3 := n1_; have HO_4 := n2_; have BK108 := n3_; have HB := n4_; clear n0_ n1_ n2_ n3_ n4_))) | ((with_reducible refine gate_callee (f := 26) rfl ?_); refine goesL_ (some 67) rfl rfl Try.func26 (by kernel_rfl) rfl #[.slice A0 l0.length c0, .int .i64 (wrap64 (40 + x6_1)), .int .i64 24] rfl (by (try simp only [List.map_toArray, List.map_cons, List.map_nil]); first | done | rfl | (simp only [List.length_drop, List.length_take]; rfl)) ?_; (with_reducible refine (spliceryref01_At.calls _ _ l0 (wrap64 (40 + x6_1)) 24 t119 _ ?side1 ?side2 A34.out).mono ?_); (case side1 => repeat (first | exact (Kd.C_below HR0.out HB.out) | (with_reducible refine Kd.C_alloc ?_ _) | (with_reducible refine Kd.C_drewN ?_ _) | (with_reducible refine Kd.C_drew ?_))); (case side2 => exact HC0.out); rintro e w' ⟨rfl, ⟨nd, rfl⟩⟩; refine ⟨_, rfl, ?_⟩; (try (rw [drewN_self wr]; generalize hq_ : World.drewN wr _ = wr; have n0_ : Aside0 (Kd.R Kd.string 9 wr w.heap.size (fun k_ => some k_ ≠ (.slice (some ad107) y103.length co9 : Value).ownBlock) u109001 x109001_2) := ⟨by rw [← hq_]; exact (chR HO_109001)⟩; have n1_ : Aside0 (Kd.R Kd.string 9 wr w.heap.size (fun k_ => some k_ ≠ (u109001 : Value).ownBlock) (.slice (some ad107) y103.length co9) y103) := ⟨by rw [← hq_]; exact (chR HO_3)⟩; have n2_ : Aside0 (Kd.S k36 36 wr w.heap.size (fun k_ => some k_ ≠ (u109001 : Value).ownBlock ∧ some k_ ≠ (.slice (some ad107) y103.length co9 : Value).ownBlock ∧ k_ ≠ gb108) u4 x4_1) := ⟨by rw [← hq_]; exact (by (with_reducible repeat (first | apply Kd.S_alloc | apply Kd.S_drewN | apply Kd.S_drew)); exact Kd.S_mono HO_4.out (fun _ hk => by refine ⟨?_, ⟨?_, ?_⟩⟩ <;> (first | exact hk | simp [hk])))⟩; have n3_ : Aside0 (wr.heap[gb108]? = some (.cells #[.string (rdOf ByteArray.empty y103 (ji6)), u109001, .slice none 0 0] 36 (0, 0))) := ⟨by rw [← hq_]; exact (by (with_reducible repeat (first | refine blk_drewN ?_ _ | refine blk_drew ?_ | refine blk_alloc ?_ _)); exact BK108.out)⟩; have n4_ : Aside0 (Below w.heap.size w wr) := ⟨by rw [← hq_]; exact (by repeat (first | (with_reducible first | exact HB.out | apply below_alloc | apply pw_below_drewN | apply below_drew1 | refine below_set ?_ GE108.out) | exact HB.out))⟩; clear HO_109001 HO_3 HO_4 BK108 HB hq_; have HO_109001 := n0_; have HO_3 := n1_; have HO_4 := n2_; have BK108 := n3_; have HB := n4_; clear n0_ n1_ n2_ n3_ n4_))))
              have n0_ := Aside0.mk (Kd.R_drew HO_3.out)
              have n1_ := Aside0.mk (Kd.S_drew HO_4.out)
              have n2_ := Aside0.mk (Kd.R_drew HO_109001.out)
              have n3_ := Aside0.mk (blk_drew BK108.out)
              have n4_ := Aside0.mk (below_drew1 HB.out)
              clear HO_3
              clear HO_4
              clear HO_109001
              clear BK108
              clear HB
              have HO_3 := n0_
              have HO_4 := n1_
              have HO_109001 := n2_
              have BK108 := n3_
              have HB := n4_
              clear n0_ n1_ n2_ n3_ n4_
              have p120 : 0 ≤ ((ji36) : Int) := of_decide_eq_true (by first | (with_reducible assumption) | assumption)
              have q120 : (ji36) < (y103.length : Int) := of_decide_eq_true (by first | (with_reducible assumption) | assumption)
              obtain ⟨ad120, e120, hx120_0⟩ := Kd.at_string (Kd.R_reads' HO_3.out).2.2 (ji36) p120 q120
              obtain rfl : ad107 = ad120 := (by injection e120)
              replace p120 := eq_true p120
              replace q120 := eq_true q120
              refine start_ (n := 12) (S := fun w' => w'.cell? ⟨gb108, 0, none⟩ = some (.string (rdOf ByteArray.empty y103 (ji6))) ∧ w'.cell? ⟨gb108, 1, none⟩ = some (u109001) ∧ w'.cell? ⟨gb108, 2, none⟩ = some (.slice none 0 0) ∧ w'.cell? (ad107.add ((ji36)).toNat) = some (.string (rdOf ByteArray.empty y103 (ji36)))) (ds := [9, 11]) #[false, false, false, false, false, false, false, false, false, false, false, false] (by kernel_rfl) rfl rfl ⟨(blk_cell BK108.out 0).trans rfl, (blk_cell BK108.out 1).trans rfl, (blk_cell BK108.out 2).trans rfl, hx120_0⟩ (fun hHeld => ?_); refine with_tabW spliceryref41_Clauses.tab18 spliceryref41_Clauses.bits18 (fun HT_ HW_ => ?_)
              generalize wr.drew = w41 at HO_3 HO_4 HO_109001 BK108 HB hx120_0 hHeld ⊢
              refine pure_ (i := 0) (N := some 71) (v := ?_) (a' := ?_) #[true, false, false, false, false, false, false, false, false, false, false, false] rfl rfl (any_of HT_.out (by kernel_rfl)) (fun _ _ _ h => h) (Or.inl ⟨by rfl, ?_⟩) ?_ ?_
              rotate_left
              ·intro w'
               go_simp
               with_reducible rfl
              rotate_left
              ·simp only [Act.put, List.setIfInBounds_toArray, List.set_cons_zero, List.set_cons_succ, i64_w, i32_w]
               rfl
              refine pure_ (i := 2) (N := some 73) (v := ?_) (a' := ?_) #[true, false, true, false, false, false, false, false, false, false, false, false] rfl rfl (any_of HT_.out (by kernel_rfl)) (fun _ _ _ h => h) (Or.inl ⟨by rfl, ?_⟩) ?_ ?_
              rotate_left
              ·intro w'
               go_simp
               with_reducible rfl
              rotate_left
              ·simp only [Act.put, List.setIfInBounds_toArray, List.set_cons_zero, List.set_cons_succ, i64_w, i32_w]
               rfl
              refine pure_ (i := 3) (N := some 74) (v := ?_) (a' := ?_) #[true, false, true, true, false, false, false, false, false, false, false, false] rfl rfl (any_of HT_.out (by kernel_rfl)) (fun _ _ _ h => h) (Or.inl ⟨by rfl, ?_⟩) ?_ ?_
              rotate_left
              ·intro w'
               go_simp
               with_reducible rfl
              rotate_left
              ·simp only [Act.put, List.setIfInBounds_toArray, List.set_cons_zero, List.set_cons_succ, i64_w, i32_w]
               rfl
              refine pure_ (i := 4) (N := some 75) (v := ?_) (a' := ?_) #[true, false, true, true, true, false, false, false, false, false, false, false] rfl rfl (any_of HT_.out (by kernel_rfl)) (fun _ _ _ h => h) (Or.inl ⟨by rfl, ?_⟩) ?_ ?_
              rotate_left
              ·intro w'
               go_simp
               with_reducible rfl
              rotate_left
              ·simp only [Act.put, List.setIfInBounds_toArray, List.set_cons_zero, List.set_cons_succ, i64_w, i32_w]
               rfl
              refine pure_ (i := 5) (N := some 76) (v := ?_) (a' := ?_) #[true, false, true, true, true, true, false, false, false, false, false, false] rfl rfl (any_of HT_.out (by kernel_rfl)) (fun _ _ _ h => h) (Or.inl ⟨by rfl, ?_⟩) ?_ ?_
              rotate_left
              ·intro w'
               go_simp
               with_reducible rfl
              rotate_left
              ·simp only [Act.put, List.setIfInBounds_toArray, List.set_cons_zero, List.set_cons_succ, i64_w, i32_w]
               rfl
              refine pure_ (i := 6) (N := some 77) (v := ?_) (a' := ?_) #[true, false, true, true, true, true, true, false, false, false, false, false] rfl rfl (any_of HT_.out (by kernel_rfl)) (fun _ _ _ h => h) (Or.inl ⟨by rfl, ?_⟩) ?_ ?_
              rotate_left
              ·intro w'
               go_simp
               with_reducible rfl
              rotate_left
              ·simp only [Act.put, List.setIfInBounds_toArray, List.set_cons_zero, List.set_cons_succ, i64_w, i32_w]
               rfl
              refine take_ (i := 1) (N := some 72) (v := ?_) (a' := ?_) #[true, true, true, true, true, true, true, false, false, false, false, false] rfl rfl (take_ofW HT_.out HW_.out (by kernel_rfl)) (fun _ _ _ h => h) (Or.inl ⟨by rfl, ?_⟩) hHeld ?_ ?_
              rotate_left
              ·rintro w' ⟨s0, s1, s2, s3⟩
               go_simp
               with_reducible rfl
              rotate_left
              ·simp only [Act.put, List.setIfInBounds_toArray, List.set_cons_zero, List.set_cons_succ, i64_w, i32_w]
               rfl
              refine take_ (i := 7) (N := some 78) (v := ?_) (a' := ?_) #[true, true, true, true, true, true, true, true, false, false, false, false] rfl rfl (take_ofW HT_.out HW_.out (by kernel_rfl)) (fun _ _ _ h => h) (Or.inl ⟨by rfl, ?_⟩) hHeld ?_ ?_
              rotate_left
              ·rintro w' ⟨s0, s1, s2, s3⟩
               go_simp
               with_reducible rfl
              rotate_left
              ·simp only [Act.put, List.setIfInBounds_toArray, List.set_cons_zero, List.set_cons_succ, i64_w, i32_w]
               rfl
              refine one_ (i := 8) (N := some 79) #[true, true, true, true, true, true, true, true, true, false, false, false] rfl rfl (one_of HT_.out (by kernel_rfl)) (by decide) (fun K hK => ?_)
              refine value_ (w1 := ?_) (v := ?_) (by rfl) rfl ?_ ?_
              rotate_left 2
              ·go_simp
               constructor
               ·rfl
               ·rfl
              refine hK.out _ _ ⟨(blk_cell (blk_alloc BK108.out _) 0).trans rfl, (blk_cell (blk_alloc BK108.out _) 1).trans rfl, (blk_cell (blk_alloc BK108.out _) 2).trans rfl, (World.cell?_alloc_lt _ _ _ (World.block_lt_of_cell? _ _ (hHeld.2.2.2))).trans (hHeld.2.2.2)⟩ (fun hHeld => ?_)
              clear hK K
              refine norm_ (a' := ?_) ?_ ?_
              rotate_left
              ·show Act.put _ (some 79) _ = _
               simp only [Act.put, List.setIfInBounds_toArray, List.set_cons_zero, List.set_cons_succ, i64_w, i32_w]
               rfl
              refine last_ (i := 9) (N := some 80) #[true, true, true, true, true, true, true, true, true, true, false, false] rfl rfl (one_of HT_.out (by kernel_rfl)) (by decide) (fun K hK => ?_)
              refine Kd.R_append_step Kd.string (w0 := w) w.heap.size (by rfl) (.tmp 72) (.tmp 79) 34 9 (.string ⟨#[]⟩) 16 rfl Try.underlying34 info9 rfl (by decide) (by omega) (.slice none 0 0) ([] : List ByteArray) (rdOf ByteArray.empty y103 (ji36)) [.string (rdOf ByteArray.empty y103 (ji36))] (fun k_ => some k_ ≠ (.slice (some ad107) y103.length co9 : Value).ownBlock ∧ some k_ ≠ (u109001 : Value).ownBlock) (fun _ => False) rfl rfl ?aP (fun _ hk => hk.elim) ?aF ?aO ?aB ?aS ?aL ?_
              (case aP => exact rfl)
              (case aB => exact (by repeat (first | (with_reducible first | exact HB.out | apply below_alloc | apply pw_below_drewN | apply below_drew1 | refine below_set ?_ GE108.out) | exact HB.out)))
              (case aF => exact (fun k_ hk => ⟨Kd.fresh' (Kd.R_lt (chR HO_3)) k_ hk, Kd.fresh' (Kd.R_lt (chR HO_109001)) k_ hk⟩))
              (case aO => exact ((Kd.R_nil _ _ _ _ (fun k_ => some k_ ≠ (.slice (some ad107) y103.length co9 : Value).ownBlock ∧ some k_ ≠ (u109001 : Value).ownBlock))))
              (case aS => exact (below_size (by repeat (first | (with_reducible first | exact HB.out | apply below_alloc | apply pw_below_drewN | apply below_drew1 | refine below_set ?_ GE108.out) | exact HB.out))))
              (case aL => have := LMc39.out; omega)
              intro v122 w42 ho hb hg hat
              rw [← Ny121.out] at ho
              have n0_ := Aside0.mk (Kd.R_after (Kd.R_apart_nil (chR HO_3)) hg hat)
              have n1_ := Aside0.mk (Kd.S_after (Kd.S_apart_nil (by (with_reducible repeat (first | apply Kd.S_alloc | apply Kd.S_drewN | apply Kd.S_drew)); exact HO_4.out)) hg hat)
              have n2_ := Aside0.mk (Kd.R_after (Kd.R_apart_nil (chR HO_109001)) hg hat)
              have n3_ := Aside0.mk (blk_grown (g := gb108) (o := .cells #[.string (rdOf ByteArray.empty y103 (ji6)), u109001, .slice none 0 0] 36 (0, 0)) (by (with_reducible repeat (first | refine blk_drewN ?_ _ | refine blk_drew ?_ | refine blk_alloc ?_ _)); exact BK108.out) hg (by simp [Value.ownBlock]))
              have n4_ := Aside0.mk (hb)
              have n5_ := Aside0.mk (ho)
              clear HO_3
              clear HO_4
              clear HO_109001
              clear BK108
              clear HB
              have HO_3 := n0_
              have HO_4 := n1_
              have HO_109001 := n2_
              have BK108 := n3_
              have HB := n4_
              have HO123 := n5_
              clear n0_ n1_ n2_ n3_ n4_ n5_
              clear ho hb hg hat
              obtain ⟨Ao43, co43, eo43⟩ := Kd.R_slice HO123.out
              (first | subst eo43 | (injection eo43 with f1_ f2_ f3_; have f4_ := f1_.symm; have f5_ := f3_.symm; clear f1_ f2_ f3_; subst f4_; subst f5_))
              refine hK.out _ _ ?_
              clear hK K
              refine norm_ (a' := ?_) ?_ ?_
              rotate_left
              ·show Act.put _ (some 80) _ = _
               simp only [Act.put, List.setIfInBounds_toArray, List.set_cons_zero, List.set_cons_succ, i64_w, i32_w]
               rfl
              refine pure_ (i := 10) (N := some 81) (v := ?_) (a' := ?_) #[true, true, true, true, true, true, true, true, true, true, true, false] rfl rfl (any_of HT_.out (by kernel_rfl)) (fun _ _ _ h => h) (Or.inl ⟨by rfl, ?_⟩) ?_ ?_
              rotate_left
              ·intro w'
               go_simp
               with_reducible rfl
              rotate_left
              ·simp only [Act.put, List.setIfInBounds_toArray, List.set_cons_zero, List.set_cons_succ, i64_w, i32_w]
               rfl
              refine last_ (i := 11) (N := none) #[true, true, true, true, true, true, true, true, true, true, true, true] rfl rfl (one_of HT_.out (by kernel_rfl)) (by decide) (fun K hK => ?_)
              have hs44 : w42.cell? ⟨gb108, 2, none⟩ = some (.slice none 0 0) := (blk_cell BK108.out 2).trans rfl
              have hfs44 := blk_frozen BK108.out 2
              refine skip_ (w1 := ?_) (by rfl) rfl ?_ ?_
              rotate_left
              ·go_simp
               rfl
              refine hK.out _ _ ?_
              clear hK K
              refine done_ (done_of HT_.out (by kernel_rfl)) ?_
              have n0_ : Aside0 (Kd.R Kd.string 9 (w42.setCell ⟨gb108, 2, none⟩ (.slice Ao43 y121.length co43)) w.heap.size (fun k_ => some k_ ≠ (u109001 : Value).ownBlock ∧ some k_ ≠ (.slice Ao43 y121.length co43 : Value).ownBlock) (.slice (some ad107) y103.length co9) y103) := ⟨by (with_reducible repeat (first | apply Kd.R_alloc | apply Kd.R_drewN | apply Kd.R_drew)); exact Kd.R_mono (Kd.R_far (p := ⟨gb108, 2, none⟩) (Kd.R_types HO_3.out BK108.out (by decide)) (fun _ hk => by first | exact hk | simp [hk]) (.slice Ao43 y121.length co43)) (fun _ hk => by refine ⟨?_, ?_⟩ <;> (first | exact hk | simp [hk]))⟩
              have n1_ : Aside0 (Kd.S k36 36 (w42.setCell ⟨gb108, 2, none⟩ (.slice Ao43 y121.length co43)) w.heap.size (fun k_ => some k_ ≠ (.slice (some ad107) y103.length co9 : Value).ownBlock ∧ some k_ ≠ (u109001 : Value).ownBlock ∧ some k_ ≠ (.slice Ao43 y121.length co43 : Value).ownBlock ∧ k_ ≠ gb108) u4 x4_1) := ⟨by (with_reducible repeat (first | apply Kd.S_alloc | apply Kd.S_drewN | apply Kd.S_drew)); exact Kd.S_mono (Kd.S_far (p := ⟨gb108, 2, none⟩) (Kd.S_mono HO_4.out (fun k_ hk => (⟨hk, hk.1.2.2⟩ : _ ∧ k_ ≠ gb108))) (fun _ hk => by first | exact hk | simp [hk]) (.slice Ao43 y121.length co43)) (fun _ hk => by refine ⟨?_, ⟨?_, ⟨?_, ?_⟩⟩⟩ <;> (first | exact hk | simp [hk]))⟩
              have n2_ : Aside0 (Kd.R Kd.string 9 (w42.setCell ⟨gb108, 2, none⟩ (.slice Ao43 y121.length co43)) w.heap.size (fun k_ => some k_ ≠ (.slice (some ad107) y103.length co9 : Value).ownBlock ∧ some k_ ≠ (.slice Ao43 y121.length co43 : Value).ownBlock) u109001 x109001_2) := ⟨by (with_reducible repeat (first | apply Kd.R_alloc | apply Kd.R_drewN | apply Kd.R_drew)); exact Kd.R_mono (Kd.R_far (p := ⟨gb108, 2, none⟩) (Kd.R_types HO_109001.out BK108.out (by decide)) (fun _ hk => by first | exact hk | simp [hk]) (.slice Ao43 y121.length co43)) (fun _ hk => by refine ⟨?_, ?_⟩ <;> (first | exact hk | simp [hk]))⟩
              have n3_ : Aside0 (Kd.R Kd.string 9 (w42.setCell ⟨gb108, 2, none⟩ (.slice Ao43 y121.length co43)) w.heap.size (fun k_ => some k_ ≠ (.slice (some ad107) y103.length co9 : Value).ownBlock ∧ some k_ ≠ (u109001 : Value).ownBlock) (.slice Ao43 y121.length co43) y121) := ⟨by (with_reducible repeat (first | apply Kd.R_alloc | apply Kd.R_drewN | apply Kd.R_drew)); exact Kd.R_mono (Kd.R_far (p := ⟨gb108, 2, none⟩) (Kd.R_types HO123.out BK108.out (by decide)) (fun _ hk => by first | exact hk | simp [hk]) (.slice Ao43 y121.length co43)) (fun _ hk => by refine ⟨?_, ?_⟩ <;> (first | exact hk | simp [hk]))⟩
              have n4_ : Aside0 ((w42.setCell ⟨gb108, 2, none⟩ (.slice Ao43 y121.length co43)).heap[gb108]? = some (.cells #[.string (rdOf ByteArray.empty y103 (ji6)), u109001, .slice Ao43 y121.length co43] 36 (0, 0))) := ⟨by (with_reducible repeat (first | refine blk_drewN ?_ _ | refine blk_drew ?_ | refine blk_alloc ?_ _)); refine blk_put (cs := #[.string (rdOf ByteArray.empty y103 (ji6)), u109001, .slice none 0 0]) ?_ 2 _ rfl; (with_reducible repeat (first | refine blk_drewN ?_ _ | refine blk_drew ?_ | refine blk_alloc ?_ _)); exact BK108.out⟩
              have n5_ : Aside0 (Below w.heap.size w (w42.setCell ⟨gb108, 2, none⟩ (.slice Ao43 y121.length co43))) := ⟨by repeat (first | (with_reducible first | exact HB.out | apply below_alloc | apply pw_below_drewN | apply below_drew1 | refine below_set ?_ GE108.out) | exact HB.out)⟩
              (try clear HO_3)
              (try clear HO_4)
              (try clear HO_109001)
              (try clear HO123)
              (try clear BK108)
              (try clear HB)
              generalize (w42.setCell ⟨gb108, 2, none⟩ (.slice Ao43 y121.length co43)) = w45 at n0_ n1_ n2_ n3_ n4_ n5_ ⊢
              have HO_3 := n0_
              have HO_4 := n1_
              have HO_109001 := n2_
              have HO123 := n3_
              have BK108 := n4_
              have HB := n5_
              clear n0_ n1_ n2_ n3_ n4_ n5_
              have hcz46_0 : w45.cell? ⟨gb108, 0, none⟩ = some (.string (rdOf ByteArray.empty y103 (ji6))) := (blk_cell BK108.out 0).trans rfl
              have hcz46_1 : w45.cell? ⟨gb108, 1, none⟩ = some (u109001) := (blk_cell BK108.out 1).trans rfl
              have hcz46_2 : w45.cell? ⟨gb108, 2, none⟩ = some (.slice Ao43 y121.length co43) := (blk_cell BK108.out 2).trans rfl
              have hfz46_0 := blk_frozen BK108.out 0
              have hfz46_1 := blk_frozen BK108.out 1
              have hfz46_2 := blk_frozen BK108.out 2
              obtain ⟨Ao48, co48, eo48⟩ := Kd.R_slice HO_109001.out
              subst eo48
              try go_wp2_with (first | ((with_reducible refine gate_builtin (b := .append) (xs := #[.tmp 82, .tmp 84]) rfl ?_); at_builtin; refine Kd.S_append k36 (w0 := w) w.heap.size rfl (.tmp 82) (.tmp 84) 23 36 (.agg #[(.string ⟨#[]⟩), (.slice none 0 0), (.slice none 0 0)]) 64 rfl Try.underlying23 info36 rfl (by decide) (by omega) u4 x4_1 (⟨(rdOf ByteArray.empty y103 (ji6)), x109001_2, y121⟩ : S36) [.string (rdOf ByteArray.empty y103 (ji6)), .slice Ao48 x109001_2.length co48, .slice Ao43 y121.length co43] (fun k_ => some k_ ≠ (.slice (some ad107) y103.length co9 : Value).ownBlock ∧ k_ ≠ gb108) (fun k_ => some k_ = (.slice Ao48 x109001_2.length co48 : Value).ownBlock ∨ some k_ = (.slice Ao43 y121.length co43 : Value).ownBlock) rfl rfl ?aP (fun k_ hk_ => hk_.elim (fun h_ => ((Kd.R_mono (ok' := fun k_ => ((fun k_ => some k_ ≠ (.slice (some ad107) y103.length co9 : Value).ownBlock ∧ k_ ≠ gb108)) k_ ∧ some k_ ≠ (u4 : Value).ownBlock) (Kd.R_types (Kd.R_apart' (HO_109001.out) (Kd.S_typed HO_4.out) (by decide)) BK108.out (by decide)) (fun k_ hk => ⟨⟨hk.1.1.1, hk.2⟩, hk.1.2⟩))).1 k_ h_.symm) (fun h_ => ((Kd.R_mono (ok' := fun k_ => ((fun k_ => some k_ ≠ (.slice (some ad107) y103.length co9 : Value).ownBlock ∧ k_ ≠ gb108)) k_ ∧ some k_ ≠ (u4 : Value).ownBlock) (Kd.R_types (Kd.R_apart' (HO123.out) (Kd.S_typed HO_4.out) (by decide)) BK108.out (by decide)) (fun k_ hk => ⟨⟨hk.1.1.1, hk.2⟩, hk.1.2⟩))).1 k_ h_.symm)) ?aF ?aO ?aB ?aS ?aL ?_; (case aP => exact k36_mkM _ _ _ (⟨(rdOf ByteArray.empty y103 (ji6)), x109001_2, y121⟩ : S36) (Kd.R_mono (Kd.R_tight rfl (Kd.R_mono (ok' := fun k_ => ((fun k_ => some k_ ≠ (.slice (some ad107) y103.length co9 : Value).ownBlock ∧ k_ ≠ gb108)) k_ ∧ some k_ ≠ (u4 : Value).ownBlock) (Kd.R_types (Kd.R_apart' (HO_109001.out) (Kd.S_typed HO_4.out) (by decide)) BK108.out (by decide)) (fun k_ hk => ⟨⟨hk.1.1.1, hk.2⟩, hk.1.2⟩))) (fun _ h_ => Or.inl h_)) (Kd.R_mono (Kd.R_tight rfl (Kd.R_mono (ok' := fun k_ => ((fun k_ => some k_ ≠ (.slice (some ad107) y103.length co9 : Value).ownBlock ∧ k_ ≠ gb108)) k_ ∧ some k_ ≠ (u4 : Value).ownBlock) (Kd.R_types (Kd.R_apart' (HO123.out) (Kd.S_typed HO_4.out) (by decide)) BK108.out (by decide)) (fun k_ hk => ⟨⟨hk.1.1.1, hk.2⟩, hk.1.2⟩))) (fun _ h_ => Or.inr (h_)))); (case aB => exact (by repeat (first | (with_reducible first | exact HB.out | apply below_alloc | apply pw_below_drewN | apply below_drew1 | refine below_set ?_ GE108.out) | exact HB.out))); (case aF => exact (fun k_ hk => ⟨Kd.fresh' (Kd.R_lt (chR HO_3)) k_ hk, Kd.freshB (g := gb108) (o := .cells #[.string (rdOf ByteArray.empty y103 (ji6)), .slice Ao48 x109001_2.length co48, .slice Ao43 y121.length co43] 36 (0, 0)) (by (with_reducible repeat (first | refine blk_drewN ?_ _ | refine blk_drew ?_ | refine blk_alloc ?_ _)); exact BK108.out) k_ hk⟩)); (case aO => exact (by (with_reducible repeat (first | apply Kd.S_alloc | apply Kd.S_drewN | apply Kd.S_drew)); exact Kd.S_mono HO_4.out (fun k_ hk => ⟨⟨hk.1, hk.2.2.2⟩, fun e_ => e_.elim (fun h_ => hk.2.1 h_) (fun h_ => hk.2.2.1 h_)⟩))); (case aS => exact (below_size (by repeat (first | (with_reducible first | exact HB.out | apply below_alloc | apply pw_below_drewN | apply below_drew1 | refine below_set ?_ GE108.out) | exact HB.out)))); (case aL => have := LMc40.out; omega); intro v125 w47 ho hb hg hat; rw [← Ny124.out] at ho; have n0_ := Aside0.mk (Kd.R_over' (chR HO_3) (Kd.S_typed (by (with_reducible repeat (first | apply Kd.S_alloc | apply Kd.S_drewN | apply Kd.S_drew)); exact HO_4.out)) (by decide) hg); have n1_ := Aside0.mk (blk_grown (g := gb108) (o := .cells #[.string (rdOf ByteArray.empty y103 (ji6)), .slice Ao48 x109001_2.length co48, .slice Ao43 y121.length co43] 36 (0, 0)) (by (with_reducible repeat (first | refine blk_drewN ?_ _ | refine blk_drew ?_ | refine blk_alloc ?_ _)); exact BK108.out) hg (Kd.S_away HO_4.out (fun _ hk => by first | exact hk | simp [hk]))); have n2_ := Aside0.mk (hb); have n3_ := Aside0.mk (ho); clear HO_3; clear BK108; clear HB; clear HO_4; clear HO123; clear HO_109001; have HO_3 := n0_; have BK108 := n1_; have HB := n2_; have HO126 := n3_; clear n0_ n1_ n2_ n3_; clear ho hb hg hat))
              go_roundg k2
              case measure => have := HK1.out; have := HK2.out; omega
              case rel => exact ⟨(y124), (wrap64 (x6_1 + 1)), (by first | rfl | (simp; done) | (simp [*]; done)), H', ⟨by have := HK1.out; have := HK2.out; omega⟩, ⟨by (with_reducible repeat (first | apply Kd.R_alloc | apply Kd.R_drewN | apply Kd.R_drew)); exact Kd.R_mono HO_3.out (fun _ hk => trivial)⟩, ⟨by (with_reducible repeat (first | apply Kd.S_alloc | apply Kd.S_drewN | apply Kd.S_drew)); exact Kd.S_mono HO126.out (fun _ hk => by first | exact hk | simp [hk])⟩, ⟨by repeat (first | (with_reducible first | exact HB.out | apply below_alloc | apply pw_below_drewN | apply below_drew1 | refine below_set ?_ GE108.out) | exact HB.out)⟩⟩
             ·rw [if_neg c40] at H
              exact absurd H (by simp)
            ·rw [if_neg c39] at H
             exact absurd H (by simp)
           ·rw [if_neg c38] at H
            exact absurd H (by simp)
          ·rw [if_neg c37] at H
           exact absurd H (by simp)
         ·rw [if_neg c35] at H
          have c35b0 : ((Int.tmod t119 2) == 0) = false := beq_eq_false_iff_ne.mpr c35
          have c35b1 : ((Int.tmod t119 2) != 0) = true := bne_iff_ne.mpr c35
          by_cases c49 : x4_1.length < 2199023255552
          ·rw [if_pos c49] at H
           have LMc49 := Aside0.mk c49
           clear c49
           obtain ⟨y127, hy127⟩ : ∃ y_ : List (S36), y_ = (x4_1 ++ [(⟨(rdOf ByteArray.empty y103 (ji6)), x109001_2, ([] : List ByteArray)⟩ : S36)]) := ⟨_, rfl⟩
           replace H : (spliceryref41_Clauses.l0 k2 l0 y103 y127 t106 (wrap64 (x6_1 + 1))) = some r := by first | (rw [hy127]; with_reducible exact H) | (have H2_ := (Option.bind_some _ _).symm.trans H; rw [hy127]; with_reducible exact H2_) | (have H2_ := (Option.bind_some _ _).symm.trans H; with_reducible exact H2_) | with_reducible exact H | (rw [hy127]; exact H) | exact H
           have Ny127 := Aside0.mk hy127
           clear hy127
           have H' := Aside0.mk H
           clear H
           go_wp2_with (first | ((with_reducible refine gate_callee (f := 26) rfl ?_); refine goesL_ (some 30) rfl rfl Try.func26 (by kernel_rfl) rfl #[.slice A0 l0.length c0, .int .i64 (wrap64 (1 + x6_1)), .int .i64 4] rfl (by (try simp only [List.map_toArray, List.map_cons, List.map_nil]); first | done | rfl | (simp only [List.length_drop, List.length_take]; rfl)) ?_; (with_reducible refine (spliceryref01_At.calls _ _ l0 (wrap64 (1 + x6_1)) 4 t109 _ ?side1 ?side2 A12.out).mono ?_); (case side1 => repeat (first | exact (Kd.C_below HR0.out HB.out) | (with_reducible refine Kd.C_alloc ?_ _) | (with_reducible refine Kd.C_drewN ?_ _) | (with_reducible refine Kd.C_drew ?_))); (case side2 => exact HC0.out); rintro e w' ⟨rfl, ⟨nd, rfl⟩⟩; refine ⟨_, rfl, ?_⟩) | ((with_reducible refine gate_callee (f := 26) rfl ?_); refine goesL_ (some 67) rfl rfl Try.func26 (by kernel_rfl) rfl #[.slice A0 l0.length c0, .int .i64 (wrap64 (40 + x6_1)), .int .i64 24] rfl (by (try simp only [List.map_toArray, List.map_cons, List.map_nil]); first | done | rfl | (simp only [List.length_drop, List.length_take]; rfl)) ?_; (with_reducible refine (spliceryref01_At.calls _ _ l0 (wrap64 (40 + x6_1)) 24 t119 _ ?side1 ?side2 A34.out).mono ?_); (case side1 => repeat (first | exact (Kd.C_below HR0.out (by repeat (first | (with_reducible first | exact HB.out | apply below_alloc | apply pw_below_drewN | apply below_drew1 | refine below_set ?_ GE108.out) | exact HB.out))) | (with_reducible refine Kd.C_alloc ?_ _) | (with_reducible refine Kd.C_drewN ?_ _) | (with_reducible refine Kd.C_drew ?_))); (case side2 => exact HC0.out); rintro e w' ⟨rfl, ⟨nd, rfl⟩⟩; refine ⟨_, rfl, ?_⟩; have hcz50_0 : wr.cell? ⟨gb108, 0, none⟩ = some (.string (rdOf ByteArray.empty y103 (ji6))) := (blk_cell BK108.out 0).trans rfl; have hcz50_1 : wr.cell? ⟨gb108, 1, none⟩ = some (u109001) := (blk_cell BK108.out 1).trans rfl; have hcz50_2 : wr.cell? ⟨gb108, 2, none⟩ = some (.slice none 0 0) := (blk_cell BK108.out 2).trans rfl; have hfz50_0 := blk_frozen BK108.out 0; have hfz50_1 := blk_frozen BK108.out 1; have hfz50_2 := blk_frozen BK108.out 2; obtain ⟨Ao52, co52, eo52⟩ := Kd.R_slice HO_109001.out; subst eo52) | ((with_reducible refine gate_builtin (b := .append) (xs := #[.tmp 82, .tmp 84]) rfl ?_); at_builtin; refine Kd.S_append k36 (w0 := w) w.heap.size rfl (.tmp 82) (.tmp 84) 23 36 (.agg #[(.string ⟨#[]⟩), (.slice none 0 0), (.slice none 0 0)]) 64 rfl Try.underlying23 info36 rfl (by decide) (by omega) u4 x4_1 (⟨(rdOf ByteArray.empty y103 (ji6)), x109001_2, ([] : List ByteArray)⟩ : S36) [.string (rdOf ByteArray.empty y103 (ji6)), .slice Ao52 x109001_2.length co52, .slice none 0 0] (fun k_ => some k_ ≠ (.slice (some ad107) y103.length co9 : Value).ownBlock ∧ k_ ≠ gb108) (fun k_ => some k_ = (.slice Ao52 x109001_2.length co52 : Value).ownBlock) rfl rfl ?aP (fun k_ hk_ => ((Kd.R_mono (ok' := fun k_ => ((fun k_ => some k_ ≠ (.slice (some ad107) y103.length co9 : Value).ownBlock ∧ k_ ≠ gb108)) k_ ∧ some k_ ≠ (u4 : Value).ownBlock) (Kd.R_types (Kd.R_apart' (HO_109001.out) (Kd.S_typed HO_4.out) (by decide)) BK108.out (by decide)) (fun k_ hk => ⟨⟨hk.1.1, hk.2⟩, hk.1.2⟩))).1 k_ hk_.symm) ?aF ?aO ?aB ?aS ?aL ?_; (case aP => exact k36_mkM _ _ _ (⟨(rdOf ByteArray.empty y103 (ji6)), x109001_2, ([] : List ByteArray)⟩ : S36) (Kd.R_mono (Kd.R_tight rfl (Kd.R_mono (ok' := fun k_ => ((fun k_ => some k_ ≠ (.slice (some ad107) y103.length co9 : Value).ownBlock ∧ k_ ≠ gb108)) k_ ∧ some k_ ≠ (u4 : Value).ownBlock) (Kd.R_types (Kd.R_apart' (HO_109001.out) (Kd.S_typed HO_4.out) (by decide)) BK108.out (by decide)) (fun k_ hk => ⟨⟨hk.1.1, hk.2⟩, hk.1.2⟩))) (fun _ h_ => h_)) (Kd.R_nil _ _ _ _ _)); (case aB => exact (by repeat (first | (with_reducible first | exact HB.out | apply below_alloc | apply pw_below_drewN | apply below_drew1 | refine below_set ?_ GE108.out) | exact HB.out))); (case aF => exact (fun k_ hk => ⟨Kd.fresh' (Kd.R_lt (chR HO_3)) k_ hk, Kd.freshB (g := gb108) (o := .cells #[.string (rdOf ByteArray.empty y103 (ji6)), .slice Ao52 x109001_2.length co52, .slice none 0 0] 36 (0, 0)) (by (with_reducible repeat (first | refine blk_drewN ?_ _ | refine blk_drew ?_ | refine blk_alloc ?_ _)); exact BK108.out) k_ hk⟩)); (case aO => exact (by (with_reducible repeat (first | apply Kd.S_alloc | apply Kd.S_drewN | apply Kd.S_drew)); exact Kd.S_mono HO_4.out (fun k_ hk => ⟨⟨hk.1, hk.2.2⟩, fun e_ => hk.2.1 e_⟩))); (case aS => exact (below_size (by repeat (first | (with_reducible first | exact HB.out | apply below_alloc | apply pw_below_drewN | apply below_drew1 | refine below_set ?_ GE108.out) | exact HB.out)))); (case aL => have := LMc49.out; omega); intro v128 w51 ho hb hg hat; rw [← Ny127.out] at ho; have n0_ := Aside0.mk (Kd.R_over' (chR HO_3) (Kd.S_typed (by (with_reducible repeat (first | apply Kd.S_alloc | apply Kd.S_drewN | apply Kd.S_drew)); exact HO_4.out)) (by decide) hg); have n1_ := Aside0.mk (blk_grown (g := gb108) (o := .cells #[.string (rdOf ByteArray.empty y103 (ji6)), .slice Ao52 x109001_2.length co52, .slice none 0 0] 36 (0, 0)) (by (with_reducible repeat (first | refine blk_drewN ?_ _ | refine blk_drew ?_ | refine blk_alloc ?_ _)); exact BK108.out) hg (Kd.S_away HO_4.out (fun _ hk => by first | exact hk | simp [hk]))); have n2_ := Aside0.mk (hb); have n3_ := Aside0.mk (ho); clear HO_3; clear BK108; clear HB; clear HO_4; clear HO_109001; have HO_3 := n0_; have BK108 := n1_; have HB := n2_; have HO129 := n3_; clear n0_ n1_ n2_ n3_; clear ho hb hg hat))
           go_roundg k2
           case measure => have := HK1.out; have := HK2.out; omega
           case rel => exact ⟨(y127), (wrap64 (x6_1 + 1)), (by first | rfl | (simp; done) | (simp [*]; done)), H', ⟨by have := HK1.out; have := HK2.out; omega⟩, ⟨by (with_reducible repeat (first | apply Kd.R_alloc | apply Kd.R_drewN | apply Kd.R_drew)); exact Kd.R_mono HO_3.out (fun _ hk => trivial)⟩, ⟨by (with_reducible repeat (first | apply Kd.S_alloc | apply Kd.S_drewN | apply Kd.S_drew)); exact Kd.S_mono HO129.out (fun _ hk => by first | exact hk | simp [hk])⟩, ⟨by repeat (first | (with_reducible first | exact HB.out | apply below_alloc | apply pw_below_drewN | apply below_drew1 | refine below_set ?_ GE108.out) | exact HB.out)⟩⟩
          ·rw [if_neg c49] at H
           exact absurd H (by simp)
     ·rw [if_neg c8] at H
      exact absurd H (by simp)
    ·rw [if_neg c7] at H
     exact absurd H (by simp)
   ·rw [if_neg c5] at H
    have c5b0 : decide (x6_1 < t106) = false := decide_eq_false c5
    clear c5
    obtain rfl := Option.some.inj H
    go_wp2
    go_ret
    exact ⟨_, by first | rfl | (simp [errW_none, errW_some] <;> rfl) | (simp [*, errW_none, errW_some] <;> rfl), by (with_reducible repeat (first | apply Kd.S_alloc | apply Kd.S_drewN | apply Kd.S_drew)); exact Kd.S_mono HO_4.out (fun _ hk => trivial), chB HB⟩

end Go.Proofs.Ytjagffomohbioaa.L
