-- Written by a program of this session (patch_print.py over the kit's print) out of the translation. Not trusted: Lean checks it.
import Derived.Test.YtjagffomohbioaaLx0
import Derived.Test.YtjagffomohbioaaLx8
namespace Go.Proofs.Ytjagffomohbioaa.L
open Go.RowKit Go.Proofs.YtjagffomohbioaaW.PrintWords Go.Proofs.YtjagffomohbioaaW.PrintLast Go.Proofs.YtjagffomohbioaaW.PrintMore
attribute [local go_sem] max2_int min2_int max_two min_two max_three min_three max_four min_four   -- for this text's walks alone
set_option linter.unusedVariables false
set_option linter.unusedSimpArgs false

/-! ### spliceryref41_has: function 39 -/
def spliceryref41_has.l0 : Nat → List ByteArray → ByteArray → Int → Option (Bool)
 | 0, _, _, _ => none
 | k + 1, x0, x1, x5 => if x5 < (x0.length : Int) then (if 0 ≤ x5 then (if (rdOf ByteArray.empty x0 x5).toList = x1.toList then (some true) else (spliceryref41_has.l0 k x0 x1 (wrap64 (x5 + 1)))) else (none)) else (some false)
def spliceryref41_has.f (k : Nat) (l0 : List ByteArray) (a1 : ByteArray) : Option (Bool) := spliceryref41_has.l0 k l0 a1 0
set_option maxHeartbeats 8000000 in
set_option maxRecDepth 100000 in
theorem spliceryref41_has.calls (k : Nat) (A0 : Option Addr) (c0 : Nat) (l0 : List ByteArray) (a1 : ByteArray) (r : Bool) (w : World) (hr0 : Kd.C Kd.string w A0 l0.length l0) (hc0 : l0.length ≤ c0) (h : spliceryref41_has.f k l0 a1 = some r) :
  Calls Try.prog 39 #[.slice A0 l0.length c0, .string a1] w fun e w' => e = .returned (.bool r) ∧ Drawn0 w w' := by
 have HR0 := Aside0.mk hr0
 have HC0 := Aside0.mk hc0
 clear hr0 hc0
 have H : (spliceryref41_has.l0 k l0 a1 0) = some r := h
 clear h
 have H' := Aside0.mk H
 clear H
 go_enter Try.func39, Try.ntmps39
 go_wp2
 go_loopg [5] k (fun kq v5 w' => ∃ (x5_1 : Int), v5 = .int .i64 x5_1 ∧ Aside0 (spliceryref41_has.l0 kq l0 a1 x5_1 = some r) ∧ Aside0 (kq ≤ k) ∧ Drawn0 w w')
 case atStart => exact ⟨(0), (by first | rfl | (simp; done) | (simp [*]; done)), H', ⟨Nat.le_refl _⟩, by repeat (first | exact Drawn0.refl _ | apply Drawn0.step)⟩
 case round =>
  clear H'
  try clear p2
  obtain ⟨x5_1, rfl, HA, HK1, ⟨m1, rfl⟩⟩ := hrel
  cases gk with
  | zero => exact absurd HA.out (by simp [spliceryref41_has.l0])
  | succ k1 =>
   have H := HA.out
   clear HA
   simp only [spliceryref41_has.l0] at H
   by_cases c3 : x5_1 < (l0.length : Int)
   ·rw [if_pos c3] at H
    have c3b0 : decide (x5_1 < (l0.length : Int)) = true := decide_eq_true c3
    clear c3
    by_cases c4 : 0 ≤ x5_1
    ·rw [if_pos c4] at H
     have c4b0 : decide (0 ≤ x5_1) = true := decide_eq_true c4
     clear c4
     by_cases c5 : (rdOf ByteArray.empty l0 x5_1).toList = a1.toList
     ·rw [if_pos c5] at H
      have c5b0 : ((rdOf ByteArray.empty l0 x5_1).toList == a1.toList) = true := beq_iff_eq.mpr c5
      have c5b1 : ((rdOf ByteArray.empty l0 x5_1).toList != a1.toList) = false := bne_eq_false_iff_eq.mpr c5
      clear c5
      obtain rfl := Option.some.inj H
      have p490 : 0 ≤ (x5_1 : Int) := of_decide_eq_true (by first | (with_reducible assumption) | assumption)
      have q490 : x5_1 < (l0.length : Int) := of_decide_eq_true (by first | (with_reducible assumption) | assumption)
      obtain ⟨ad490, e490, hx490_0⟩ := Kd.at_string HR0.out x5_1 p490 q490
      cases e490
      replace p490 := eq_true p490
      replace q490 := eq_true q490
      go_wp2
      go_ret
      exact ⟨by first | rfl | (simp; done) | (simp [*]; done), by repeat (first | exact Drawn0.refl _ | apply Drawn0.step)⟩
     ·rw [if_neg c5] at H
      have c5b0 : ((rdOf ByteArray.empty l0 x5_1).toList == a1.toList) = false := beq_eq_false_iff_ne.mpr c5
      have c5b1 : ((rdOf ByteArray.empty l0 x5_1).toList != a1.toList) = true := bne_iff_ne.mpr c5
      have H' := Aside0.mk H
      clear H
      have p490 : 0 ≤ (x5_1 : Int) := of_decide_eq_true (by first | (with_reducible assumption) | assumption)
      have q490 : x5_1 < (l0.length : Int) := of_decide_eq_true (by first | (with_reducible assumption) | assumption)
      obtain ⟨ad490, e490, hx490_0⟩ := Kd.at_string HR0.out x5_1 p490 q490
      cases e490
      replace p490 := eq_true p490
      replace q490 := eq_true q490
      go_wp2
      go_roundg k1
      case measure => have := HK1.out; omega
      case rel => exact ⟨(wrap64 (x5_1 + 1)), (by first | rfl | (simp; done) | (simp [*]; done)), H', ⟨by have := HK1.out; omega⟩, by repeat (first | exact Drawn0.refl _ | apply Drawn0.step)⟩
    ·rw [if_neg c4] at H
     exact absurd H (by simp)
   ·rw [if_neg c3] at H
    have c3b0 : decide (x5_1 < (l0.length : Int)) = false := decide_eq_false c3
    clear c3
    obtain rfl := Option.some.inj H
    go_wp2
    go_ret
    exact ⟨by first | rfl | (simp; done) | (simp [*]; done), by repeat (first | exact Drawn0.refl _ | apply Drawn0.step)⟩

/-! ### spliceryref41_Follows: function 38 -/
mutual
def spliceryref41_Follows.l0 : Nat → List (S36) → List Int → List ByteArray → Int → Option (List ByteArray)
 | 0, _, _, _, _ => none
 | k + 1, x0, x1, x5, x6 => if x6 < (x1.length : Int) then (if 0 ≤ x6 then (if (rd x1 x6) ≥ 0 then (if (rd x1 x6) < (x0.length : Int) then (if 0 ≤ (rd x1 x6) then (if x5.length + ((rd_T36 x0 (rd x1 x6)).f1).length < 8796093022208 then (spliceryref41_Follows.l0 k x0 x1 (x5 ++ ((rd_T36 x0 (rd x1 x6)).f1)) (wrap64 (x6 + 1))) else (none)) else (none)) else (spliceryref41_Follows.l0 k x0 x1 x5 (wrap64 (x6 + 1)))) else (spliceryref41_Follows.l0 k x0 x1 x5 (wrap64 (x6 + 1)))) else (none)) else (spliceryref41_Follows.l1 k x5 ([] : List ByteArray) 0)
def spliceryref41_Follows.l1 : Nat → List ByteArray → List ByteArray → Int → Option (List ByteArray)
 | 0, _, _, _ => none
 | k + 1, x5, x7, x8 => if x8 ≤ (x5.length : Int) then (spliceryref41_Follows.l2 k x5 x7 x8 0) else (some x7)
def spliceryref41_Follows.l2 : Nat → List ByteArray → List ByteArray → Int → Int → Option (List ByteArray)
 | 0, _, _, _, _ => none
 | k + 1, x5, x7, x8, x9 => if x9 < (x5.length : Int) then (if 0 ≤ x9 then ((spliceryref41_split.f k (rdOf ByteArray.empty x5 x9)).bind fun bt499 => (if bt499.2.2 = true then ((spliceryref41_has.f k x7 bt499.1).bind fun t502 => (if t502 = true then ((spliceryref41_has.f k x7 bt499.2.1).bind fun t503 => (spliceryref41_Follows.j3 k x5 x7 x8 x9 bt499.1 bt499.2.1 bt499.2.2 (!t503))) else (spliceryref41_Follows.j3 k x5 x7 x8 x9 bt499.1 bt499.2.1 bt499.2.2 false))) else (spliceryref41_Follows.j3 k x5 x7 x8 x9 bt499.1 bt499.2.1 bt499.2.2 false))) else (none)) else (spliceryref41_Follows.l1 k x5 x7 (wrap64 (x8 + 1)))
def spliceryref41_Follows.j3 : Nat → List ByteArray → List ByteArray → Int → Int → ByteArray → ByteArray → Bool → Bool → Option (List ByteArray)
 | 0, _, _, _, _, _, _, _, _ => none
 | k + 1, x5, x7, x8, x9, x10, x11, x12, x75 => if x75 = true then (if x7.length < 8796093022208 then ((some (x7 ++ [x11] : List ByteArray)).bind fun y504 => (if x12 = true then (spliceryref41_Follows.l2 k x5 y504 x8 (wrap64 (x9 + 1))) else ((spliceryref41_has.f k y504 x10).bind fun t507 => (if t507 = true then (spliceryref41_Follows.l2 k x5 y504 x8 (wrap64 (x9 + 1))) else (if y504.length < 8796093022208 then (spliceryref41_Follows.l2 k x5 (y504 ++ [x10]) x8 (wrap64 (x9 + 1))) else (none)))))) else (none)) else (if x12 = true then (spliceryref41_Follows.l2 k x5 x7 x8 (wrap64 (x9 + 1))) else ((spliceryref41_has.f k x7 x10).bind fun t511 => (if t511 = true then (spliceryref41_Follows.l2 k x5 x7 x8 (wrap64 (x9 + 1))) else (if x7.length < 8796093022208 then (spliceryref41_Follows.l2 k x5 (x7 ++ [x10]) x8 (wrap64 (x9 + 1))) else (none)))))
end
def spliceryref41_Follows.f (k : Nat) (l0 : List (S36)) (l1 : List Int) : Option (List ByteArray) := spliceryref41_Follows.l0 k l0 l1 ([] : List ByteArray) 0
set_option maxHeartbeats 8000000 in
set_option maxRecDepth 100000 in
theorem spliceryref41_Follows.calls (k : Nat) (A0 : Option Addr) (c0 : Nat) (l0 : List (S36)) (A1 : Option Addr) (c1 : Nat) (l1 : List Int) (r : List ByteArray) (w : World) (hr0 : Kd.C k36 w A0 l0.length l0) (hc0 : l0.length ≤ c0) (hr1 : Kd.C (Kd.int .i64) w A1 l1.length l1) (hc1 : l1.length ≤ c1) (h : spliceryref41_Follows.f k l0 l1 = some r) :
  Calls Try.prog 38 #[.slice A0 l0.length c0, .slice A1 l1.length c1] w fun e w' => ∃ v0_ : Value, e = .returned (v0_) ∧ Kd.R Kd.string 9 w' w.heap.size (fun _ => True) v0_ r ∧ Below w.heap.size w w' := by
 have HR0 := Aside0.mk hr0
 have HC0 := Aside0.mk hc0
 clear hr0 hc0
 have HR1 := Aside0.mk hr1
 have HC1 := Aside0.mk hc1
 clear hr1 hc1
 have HB := Aside0.mk (Below.refl w.heap.size w)
 have H : (spliceryref41_Follows.l0 k l0 l1 ([] : List ByteArray) 0) = some r := h
 clear h
 have H' := Aside0.mk H
 clear H
 go_enter Try.func38, Try.ntmps38
 go_wp2
 go_loopg [5, 6] k (fun kq v5 v6 w' => ∃ (x5_1 : List ByteArray) (x6_1 : Int), v6 = .int .i64 x6_1 ∧ Aside0 (spliceryref41_Follows.l0 kq l0 l1 x5_1 x6_1 = some r) ∧ Aside0 (kq ≤ k) ∧ Aside0 (Kd.R Kd.string 9 w' w.heap.size (fun _ => True) v5 x5_1) ∧ Aside0 (Below w.heap.size w w'))
 case atStart => exact ⟨(([] : List ByteArray)), (0), (by first | rfl | (simp; done) | (simp [*]; done)), H', ⟨Nat.le_refl _⟩, ⟨by first | exact Kd.R_nil _ _ _ _ _ | exact Kd.N_nil _ _ _ _ _ | exact Kd.V_nil _ _ _ _ _ | exact Kd.Q_nil _ _ _ _ _ | exact Kd.S_nil _ _ _ _ _⟩, ⟨chB HB⟩⟩
 case round =>
  clear H'
  try clear c1
  try clear p2
  obtain ⟨x5_1, x6_1, rfl, HA, HK1, HO_5, HB⟩ := hrel
  cases gk with
  | zero => exact absurd HA.out (by simp [spliceryref41_Follows.l0])
  | succ k1 =>
   have H := HA.out
   clear HA
   simp only [spliceryref41_Follows.l0] at H
   by_cases c3 : x6_1 < (l1.length : Int)
   ·rw [if_pos c3] at H
    have c3b0 : decide (x6_1 < (l1.length : Int)) = true := decide_eq_true c3
    clear c3
    by_cases c4 : 0 ≤ x6_1
    ·rw [if_pos c4] at H
     have c4b0 : decide (0 ≤ x6_1) = true := decide_eq_true c4
     clear c4
     by_cases c5 : (rd l1 x6_1) ≥ 0
     ·rw [if_pos c5] at H
      have c5b0 : decide (0 ≤ (rd l1 x6_1)) = true := decide_eq_true c5
      clear c5
      by_cases c6 : (rd l1 x6_1) < (l0.length : Int)
      ·rw [if_pos c6] at H
       have c6b0 : decide ((rd l1 x6_1) < (l0.length : Int)) = true := decide_eq_true c6
       clear c6
       by_cases c7 : 0 ≤ (rd l1 x6_1)
       ·rw [if_pos c7] at H
        have c7b0 : decide (0 ≤ (rd l1 x6_1)) = true := decide_eq_true c7
        clear c7
        by_cases c8 : x5_1.length + ((rd_T36 l0 (rd l1 x6_1)).f1).length < 8796093022208
        ·rw [if_pos c8] at H
         have LMc8 := Aside0.mk c8
         clear c8
         obtain ⟨y495, hy495⟩ : ∃ y_ : List ByteArray, y_ = (x5_1 ++ ((rd_T36 l0 (rd l1 x6_1)).f1)) := ⟨_, rfl⟩
         replace H : (spliceryref41_Follows.l0 k1 l0 l1 y495 (wrap64 (x6_1 + 1))) = some r := by first | (rw [hy495]; with_reducible exact H) | (have H2_ := (Option.bind_some _ _).symm.trans H; rw [hy495]; with_reducible exact H2_) | (have H2_ := (Option.bind_some _ _).symm.trans H; with_reducible exact H2_) | with_reducible exact H | (rw [hy495]; exact H) | exact H
         have Ny495 := Aside0.mk hy495
         clear hy495
         have H' := Aside0.mk H
         clear H
         have p491 : 0 ≤ (x6_1 : Int) := of_decide_eq_true (by first | (with_reducible assumption) | assumption)
         have q491 : x6_1 < (l1.length : Int) := of_decide_eq_true (by first | (with_reducible assumption) | assumption)
         obtain ⟨ad491, e491, hx491_0⟩ := Kd.at_int HR1.out x6_1 p491 q491
         cases e491
         replace hx491_0 := (HB.out.cell (World.block_lt_of_cell? w _ hx491_0)).trans hx491_0
         replace p491 := eq_true p491
         replace q491 := eq_true q491
         have p492 : 0 ≤ (x6_1 : Int) := of_decide_eq_true (by first | (with_reducible assumption) | assumption)
         have q492 : x6_1 < (l1.length : Int) := of_decide_eq_true (by first | (with_reducible assumption) | assumption)
         obtain ⟨ad492, e492, hx492_0⟩ := Kd.at_int HR1.out x6_1 p492 q492
         obtain rfl : ad491 = ad492 := (by injection e492)
         replace hx492_0 := (HB.out.cell (World.block_lt_of_cell? w _ hx492_0)).trans hx492_0
         replace p492 := eq_true p492
         replace q492 := eq_true q492
         have p493 : 0 ≤ (x6_1 : Int) := of_decide_eq_true (by first | (with_reducible assumption) | assumption)
         have q493 : x6_1 < (l1.length : Int) := of_decide_eq_true (by first | (with_reducible assumption) | assumption)
         obtain ⟨ad493, e493, hx493_0⟩ := Kd.at_int HR1.out x6_1 p493 q493
         obtain rfl : ad491 = ad493 := (by injection e493)
         replace hx493_0 := (HB.out.cell (World.block_lt_of_cell? w _ hx493_0)).trans hx493_0
         replace p493 := eq_true p493
         replace q493 := eq_true q493
         have p494 : 0 ≤ ((rd l1 x6_1) : Int) := of_decide_eq_true (by first | (with_reducible assumption) | assumption)
         have q494 : (rd l1 x6_1) < (l0.length : Int) := of_decide_eq_true (by first | (with_reducible assumption) | assumption)
         obtain ⟨ad494, A494_1, c494_1, A494_2, c494_2, e494, hx494_0, hx494_1, hx494_2, hl494_1, hi494_1, hl494_2, hi494_2⟩ := at_T36 HR0.out (rd l1 x6_1) p494 q494
         cases e494
         replace hx494_0 := (HB.out.cell (World.block_lt_of_cell? w _ hx494_0)).trans hx494_0
         replace hx494_1 := (HB.out.cell (World.block_lt_of_cell? w _ hx494_1)).trans hx494_1
         replace hx494_2 := (HB.out.cell (World.block_lt_of_cell? w _ hx494_2)).trans hx494_2
         have HR494_1 := Aside0.mk hi494_1
         have HC494_1 := Aside0.mk hl494_1
         clear hi494_1 hl494_1
         have HR494_2 := Aside0.mk hi494_2
         have HC494_2 := Aside0.mk hl494_2
         clear hi494_2 hl494_2
         replace p494 := eq_true p494
         replace q494 := eq_true q494
         go_wp2_with (first | ((with_reducible refine gate_builtin (b := .append) (xs := #[.tmp 33, .tmp 41]) rfl ?_); (try (refine gate_guard (by rfl) ?_; dsimp only)); at_builtin; refine Kd.R_append_rows Kd.string (w0 := w) w.heap.size rfl (.tmp 33) (.tmp 41) 34 9 (.string ⟨#[]⟩) 16 rfl Try.underlying34 info9 rfl (by decide) (by omega) u5 x5_1 ((rd_T36 l0 (rd l1 x6_1)).f1) _ _ _ (fun _ => True) (fun _ => False) rfl rfl ?aO ?aR (fun _ _ h => h) (fun _ h => h.elim) ?aF ?aB ?aS ?aL ?_; (case aR => repeat (first | exact (Kd.C_below HR494_1.out HB.out) | (with_reducible refine Kd.C_alloc ?_ _) | (with_reducible refine Kd.C_drewN ?_ _) | (with_reducible refine Kd.C_drew ?_))); (case aB => exact (chB HB)); (case aF => exact (fun _ _ => trivial)); (case aO => exact (chR HO_5)); (case aS => exact (below_size (chB HB))); (case aL => have := LMc8.out; omega); intro v496 w9 ho hb hg hat; rw [← Ny495.out] at ho; have n0_ := Aside0.mk (hb); have n1_ := Aside0.mk (ho); clear HB; clear HO_5; have HB := n0_; have HO497 := n1_; clear n0_ n1_; clear ho hb hg hat))
         go_roundg k1
         case measure => have := HK1.out; omega
         case rel => exact ⟨(y495), (wrap64 (x6_1 + 1)), (by first | rfl | (simp; done) | (simp [*]; done)), H', ⟨by have := HK1.out; omega⟩, ⟨chR HO497⟩, ⟨chB HB⟩⟩
        ·rw [if_neg c8] at H
         exact absurd H (by simp)
       ·rw [if_neg c7] at H
        exact absurd H (by simp)
      ·rw [if_neg c6] at H
       have c6b0 : decide ((rd l1 x6_1) < (l0.length : Int)) = false := decide_eq_false c6
       clear c6
       have H' := Aside0.mk H
       clear H
       have p491 : 0 ≤ (x6_1 : Int) := of_decide_eq_true (by first | (with_reducible assumption) | assumption)
       have q491 : x6_1 < (l1.length : Int) := of_decide_eq_true (by first | (with_reducible assumption) | assumption)
       obtain ⟨ad491, e491, hx491_0⟩ := Kd.at_int HR1.out x6_1 p491 q491
       cases e491
       replace hx491_0 := (HB.out.cell (World.block_lt_of_cell? w _ hx491_0)).trans hx491_0
       replace p491 := eq_true p491
       replace q491 := eq_true q491
       have p492 : 0 ≤ (x6_1 : Int) := of_decide_eq_true (by first | (with_reducible assumption) | assumption)
       have q492 : x6_1 < (l1.length : Int) := of_decide_eq_true (by first | (with_reducible assumption) | assumption)
       obtain ⟨ad492, e492, hx492_0⟩ := Kd.at_int HR1.out x6_1 p492 q492
       obtain rfl : ad491 = ad492 := (by injection e492)
       replace hx492_0 := (HB.out.cell (World.block_lt_of_cell? w _ hx492_0)).trans hx492_0
       replace p492 := eq_true p492
       replace q492 := eq_true q492
       go_wp2
       go_roundg k1
       case measure => have := HK1.out; omega
       case rel => exact ⟨(x5_1), (wrap64 (x6_1 + 1)), (by first | rfl | (simp; done) | (simp [*]; done)), H', ⟨by have := HK1.out; omega⟩, ⟨chR HO_5⟩, ⟨chB HB⟩⟩
     ·rw [if_neg c5] at H
      have c5b0 : decide (0 ≤ (rd l1 x6_1)) = false := decide_eq_false c5
      clear c5
      have H' := Aside0.mk H
      clear H
      have p491 : 0 ≤ (x6_1 : Int) := of_decide_eq_true (by first | (with_reducible assumption) | assumption)
      have q491 : x6_1 < (l1.length : Int) := of_decide_eq_true (by first | (with_reducible assumption) | assumption)
      obtain ⟨ad491, e491, hx491_0⟩ := Kd.at_int HR1.out x6_1 p491 q491
      cases e491
      replace hx491_0 := (HB.out.cell (World.block_lt_of_cell? w _ hx491_0)).trans hx491_0
      replace p491 := eq_true p491
      replace q491 := eq_true q491
      go_wp2
      go_roundg k1
      case measure => have := HK1.out; omega
      case rel => exact ⟨(x5_1), (wrap64 (x6_1 + 1)), (by first | rfl | (simp; done) | (simp [*]; done)), H', ⟨by have := HK1.out; omega⟩, ⟨chR HO_5⟩, ⟨chB HB⟩⟩
    ·rw [if_neg c4] at H
     exact absurd H (by simp)
   ·rw [if_neg c3] at H
    have c3b0 : decide (x6_1 < (l1.length : Int)) = false := decide_eq_false c3
    clear c3
    have H' := Aside0.mk H
    clear H
    go_wp2
    go_loopg [7, 8] k1 (fun kq v7 v8 w' => ∃ (x7_2 : List ByteArray) (x8_2 : Int), v8 = .int .i64 x8_2 ∧ Aside0 (spliceryref41_Follows.l1 kq x5_1 x7_2 x8_2 = some r) ∧ Aside0 (kq ≤ k1) ∧ Aside0 (Kd.R Kd.string 9 w' w.heap.size (fun k_ => some k_ ≠ (v7 : Value).ownBlock) u5 x5_1) ∧ Aside0 (Kd.R Kd.string 9 w' w.heap.size (fun k_ => some k_ ≠ (u5 : Value).ownBlock) v7 x7_2) ∧ Aside0 (Below w.heap.size w w'))
    case atStart => exact ⟨(([] : List ByteArray)), (0), (by first | rfl | (simp; done) | (simp [*]; done)), H', ⟨Nat.le_refl _⟩, ⟨by (with_reducible repeat (first | apply Kd.R_alloc | apply Kd.R_drewN | apply Kd.R_drew)); exact Kd.R_mono HO_5.out (fun _ hk => (by simp [Value.ownBlock]))⟩, ⟨by first | exact Kd.R_nil _ _ _ _ _ | exact Kd.N_nil _ _ _ _ _ | exact Kd.V_nil _ _ _ _ _ | exact Kd.Q_nil _ _ _ _ _ | exact Kd.S_nil _ _ _ _ _⟩, ⟨chB HB⟩⟩
    case round =>
     clear H'
     try clear c1
     try clear p2
     try clear c3
     try clear c3b0
     try clear c4
     try clear c4b0
     try clear p4
     try clear q4
     try clear hx4
     try clear c5
     try clear c5b0
     try clear c6
     try clear c6b0
     try clear p6
     try clear c7
     try clear c7b0
     try clear c8
     try clear hx491_0
     try clear hx492_0
     try clear hx493_0
     try clear hx494_0
     try clear hx494_1
     try clear hx494_2
     try clear p2
     try clear p491
     try clear p492
     try clear p493
     try clear p494
     try clear q491
     try clear q492
     try clear q493
     try clear q494
     obtain ⟨x7_2, x8_2, rfl, HA, HK2, HO_5, HO_7, HB⟩ := hrel
     cases gk with
     | zero => exact absurd HA.out (by simp [spliceryref41_Follows.l1])
     | succ k2 =>
      have H := HA.out
      clear HA
      simp only [spliceryref41_Follows.l1] at H
      by_cases c10 : x8_2 ≤ (x5_1.length : Int)
      ·rw [if_pos c10] at H
       have c10b0 : decide (x8_2 ≤ (x5_1.length : Int)) = true := decide_eq_true c10
       clear c10
       have H' := Aside0.mk H
       clear H
       obtain ⟨Ao11, co11, eo11⟩ := Kd.R_slice HO_5.out
       subst eo11
       go_wp2
       go_loopg [7, 9] k2 (fun kq v7 v9 w' => ∃ (x7_3 : List ByteArray) (x9_3 : Int), v9 = .int .i64 x9_3 ∧ Aside0 (spliceryref41_Follows.l2 kq x5_1 x7_3 x8_2 x9_3 = some r) ∧ Aside0 (kq ≤ k2) ∧ Aside0 (Kd.R Kd.string 9 w' w.heap.size (fun k_ => some k_ ≠ (v7 : Value).ownBlock) (.slice Ao11 x5_1.length co11) x5_1) ∧ Aside0 (Kd.R Kd.string 9 w' w.heap.size (fun k_ => some k_ ≠ ((.slice Ao11 x5_1.length co11) : Value).ownBlock) v7 x7_3) ∧ Aside0 (Below w.heap.size w w'))
       case atStart => exact ⟨(x7_2), (0), (by first | rfl | (simp; done) | (simp [*]; done)), H', ⟨Nat.le_refl _⟩, ⟨chR HO_5⟩, ⟨chR HO_7⟩, ⟨chB HB⟩⟩
       case round =>
        clear H'
        try clear c1
        try clear p2
        try clear c3
        try clear c3b0
        try clear c4
        try clear c4b0
        try clear p4
        try clear q4
        try clear hx4
        try clear c5
        try clear c5b0
        try clear c6
        try clear c6b0
        try clear p6
        try clear c7
        try clear c7b0
        try clear c8
        try clear c10
        try clear c10b0
        try clear hx491_0
        try clear hx492_0
        try clear hx493_0
        try clear hx494_0
        try clear hx494_1
        try clear hx494_2
        try clear p2
        try clear p4
        try clear p491
        try clear p492
        try clear p493
        try clear p494
        try clear p6
        try clear q4
        try clear q491
        try clear q492
        try clear q493
        try clear q494
        obtain ⟨x7_3, x9_3, rfl, HA, HK3, HO_5, HO_7, HB⟩ := hrel
        cases gk with
        | zero => exact absurd HA.out (by simp [spliceryref41_Follows.l2])
        | succ k3 =>
         have H := HA.out
         clear HA
         simp only [spliceryref41_Follows.l2] at H
         by_cases c12 : x9_3 < (x5_1.length : Int)
         ·rw [if_pos c12] at H
          have c12b0 : decide (x9_3 < (x5_1.length : Int)) = true := decide_eq_true c12
          clear c12
          by_cases c13 : 0 ≤ x9_3
          ·rw [if_pos c13] at H
           have c13b0 : decide (0 ≤ x9_3) = true := decide_eq_true c13
           clear c13
           replace H := Option.bind_eq_some_iff.mp H
           obtain ⟨⟨t499, t500, t501⟩, A140, H⟩ := H
           replace H : (if t501 = true then ((spliceryref41_has.f k3 x7_3 t499).bind fun t502 => (if t502 = true then ((spliceryref41_has.f k3 x7_3 t500).bind fun t503 => (spliceryref41_Follows.j3 k3 x5_1 x7_3 x8_2 x9_3 t499 t500 t501 (!t503))) else (spliceryref41_Follows.j3 k3 x5_1 x7_3 x8_2 x9_3 t499 t500 t501 false))) else (spliceryref41_Follows.j3 k3 x5_1 x7_3 x8_2 x9_3 t499 t500 t501 false)) = some r := H
           have A14 := Aside0.mk A140
           clear A140
           have HC15 := Aside0.mk H
           clear H
           have p498 : 0 ≤ (x9_3 : Int) := of_decide_eq_true (by first | (with_reducible assumption) | assumption)
           have q498 : x9_3 < (x5_1.length : Int) := of_decide_eq_true (by first | (with_reducible assumption) | assumption)
           obtain ⟨ad498, e498, hx498_0⟩ := Kd.at_string (Kd.R_reads' HO_5.out).2.2 x9_3 p498 q498
           cases e498
           replace p498 := eq_true p498
           replace q498 := eq_true q498
           go_upto_region 15 with (first | ((with_reducible refine gate_callee (f := 50) rfl ?_); refine goesL_ (some 60) rfl rfl Try.func50 (by kernel_rfl) rfl #[.string (rdOf ByteArray.empty x5_1 x9_3)] rfl (by (try simp only [List.map_toArray, List.map_cons, List.map_nil]); first | done | rfl | (simp only [List.length_drop, List.length_take]; rfl)) ?_; (with_reducible refine (spliceryref41_split.calls k3 (rdOf ByteArray.empty x5_1 x9_3) t499 t500 t501 _ A14.out).mono ?_); rintro e w' ⟨rfl, ⟨nd, rfl⟩⟩; refine ⟨_, rfl, ?_⟩))
           (try simp only [Act.put, List.setIfInBounds_toArray, List.set_cons_zero, List.set_cons_succ])
           go_cut [75] (fun v75 wc => ∃ (kq : Nat) (x75_14 : Bool), v75 = .bool x75_14 ∧ Aside0 (spliceryref41_Follows.j3 kq x5_1 x7_3 x8_2 x9_3 t499 t500 t501 x75_14 = some r) ∧ Aside0 (kq ≤ k3) ∧ Aside0 (Kd.R Kd.string 9 wc w.heap.size (fun k_ => some k_ ≠ (u7 : Value).ownBlock) (.slice (some ad498) x5_1.length co11) x5_1) ∧ Aside0 (Kd.R Kd.string 9 wc w.heap.size (fun k_ => some k_ ≠ ((.slice (some ad498) x5_1.length co11) : Value).ownBlock) u7 x7_3) ∧ Aside0 (Below w.heap.size w wc))
           case first =>
            have H := HC15.out
            clear HC15
            by_cases c16 : t501 = true
            ·subst c16
             have H1 : ((spliceryref41_has.f k3 x7_3 t499).bind fun t502 => (if t502 = true then ((spliceryref41_has.f k3 x7_3 t500).bind fun t503 => (spliceryref41_Follows.j3 k3 x5_1 x7_3 x8_2 x9_3 t499 t500 true (!t503))) else (spliceryref41_Follows.j3 k3 x5_1 x7_3 x8_2 x9_3 t499 t500 true false))) = some r := by rw [if_pos rfl] at H; exact H
             clear H
             have H := H1
             clear H1
             replace H := Option.bind_eq_some_iff.mp H
             obtain ⟨t502, A170, H⟩ := H
             replace H : (if t502 = true then ((spliceryref41_has.f k3 x7_3 t500).bind fun t503 => (spliceryref41_Follows.j3 k3 x5_1 x7_3 x8_2 x9_3 t499 t500 true (!t503))) else (spliceryref41_Follows.j3 k3 x5_1 x7_3 x8_2 x9_3 t499 t500 true false)) = some r := H
             have A17 := Aside0.mk A170
             clear A170
             by_cases c18 : t502 = true
             ·subst c18
              have H1 : ((spliceryref41_has.f k3 x7_3 t500).bind fun t503 => (spliceryref41_Follows.j3 k3 x5_1 x7_3 x8_2 x9_3 t499 t500 true (!t503))) = some r := by rw [if_pos rfl] at H; exact H
              clear H
              have H := H1
              clear H1
              replace H := Option.bind_eq_some_iff.mp H
              obtain ⟨t503, A190, H⟩ := H
              replace H : (spliceryref41_Follows.j3 k3 x5_1 x7_3 x8_2 x9_3 t499 t500 true (!t503)) = some r := H
              have A19 := Aside0.mk A190
              clear A190
              have H' := Aside0.mk H
              clear H
              obtain ⟨Ao20, co20, eo20⟩ := Kd.R_slice HO_7.out
              subst eo20
              go_wp2_with (first | (go_at_call 39; (with_reducible refine (spliceryref41_has.calls k3 _ _ x7_3 t499 true _ ?side1 ?side2 A17.out).mono ?_); (case side1 => repeat (first | exact (Kd.R_reads' HO_7.out).2.2 | (with_reducible refine Kd.C_alloc ?_ _) | (with_reducible refine Kd.C_drewN ?_ _) | (with_reducible refine Kd.C_drew ?_))); (case side2 => exact (Kd.R_reads' HO_7.out).2.1); rintro e w' ⟨rfl, ⟨nd, rfl⟩⟩) | (go_at_call 39; (with_reducible refine (spliceryref41_has.calls k3 _ _ x7_3 t500 t503 _ ?side1 ?side2 A19.out).mono ?_); (case side1 => repeat (first | exact (Kd.R_reads' HO_7.out).2.2 | (with_reducible refine Kd.C_alloc ?_ _) | (with_reducible refine Kd.C_drewN ?_ _) | (with_reducible refine Kd.C_drew ?_))); (case side2 => exact (Kd.R_reads' HO_7.out).2.1); rintro e w' ⟨rfl, ⟨nd, rfl⟩⟩))
              go_meet
              case rel => exact ⟨_, (!t503), (by first | rfl | (simp; done) | (simp [*]; done)), H', ⟨by have := HK1.out; have := HK2.out; have := HK3.out; first | omega | exact Nat.le_refl _⟩, ⟨chR HO_5⟩, ⟨chR HO_7⟩, ⟨chB HB⟩⟩
             ·replace c18 := Bool.eq_false_iff.mpr c18
              subst c18
              have H1 : (spliceryref41_Follows.j3 k3 x5_1 x7_3 x8_2 x9_3 t499 t500 true false) = some r := by rw [if_neg (show ¬ (false = true) by decide)] at H; exact H
              clear H
              have H := H1
              clear H1
              have H' := Aside0.mk H
              clear H
              obtain ⟨Ao21, co21, eo21⟩ := Kd.R_slice HO_7.out
              subst eo21
              go_wp2_with (first | (go_at_call 39; (with_reducible refine (spliceryref41_has.calls k3 _ _ x7_3 t499 false _ ?side1 ?side2 A17.out).mono ?_); (case side1 => repeat (first | exact (Kd.R_reads' HO_7.out).2.2 | (with_reducible refine Kd.C_alloc ?_ _) | (with_reducible refine Kd.C_drewN ?_ _) | (with_reducible refine Kd.C_drew ?_))); (case side2 => exact (Kd.R_reads' HO_7.out).2.1); rintro e w' ⟨rfl, ⟨nd, rfl⟩⟩))
              go_meet
              case rel => exact ⟨_, (false), (by first | rfl | (simp; done) | (simp [*]; done)), H', ⟨by have := HK1.out; have := HK2.out; have := HK3.out; first | omega | exact Nat.le_refl _⟩, ⟨chR HO_5⟩, ⟨chR HO_7⟩, ⟨chB HB⟩⟩
            ·replace c16 := Bool.eq_false_iff.mpr c16
             subst c16
             have H1 : (spliceryref41_Follows.j3 k3 x5_1 x7_3 x8_2 x9_3 t499 t500 false false) = some r := by rw [if_neg (show ¬ (false = true) by decide)] at H; exact H
             clear H
             have H := H1
             clear H1
             have H' := Aside0.mk H
             clear H
             go_wp2
             go_meet
             case rel => exact ⟨_, (false), (by first | rfl | (simp; done) | (simp [*]; done)), H', ⟨by have := HK1.out; have := HK2.out; have := HK3.out; first | omega | exact Nat.le_refl _⟩, ⟨chR HO_5⟩, ⟨chR HO_7⟩, ⟨chB HB⟩⟩
           case rest =>
            clear HC15
            try clear c1
            try clear p2
            try clear c3
            try clear c3b0
            try clear c4
            try clear c4b0
            try clear p4
            try clear q4
            try clear hx4
            try clear c5
            try clear c5b0
            try clear c6
            try clear c6b0
            try clear p6
            try clear c7
            try clear c7b0
            try clear c8
            try clear c10
            try clear c10b0
            try clear c12
            try clear c12b0
            try clear c13
            try clear c13b0
            try clear c16
            try clear c18
            try clear hx491_0
            try clear hx492_0
            try clear hx493_0
            try clear hx494_0
            try clear hx494_1
            try clear hx494_2
            try clear hx498_0
            try clear p2
            try clear p4
            try clear p491
            try clear p492
            try clear p493
            try clear p494
            try clear p498
            try clear p6
            try clear q4
            try clear q491
            try clear q492
            try clear q493
            try clear q494
            try clear q498
            obtain ⟨kq, x75_14, rfl, HA, HJ14, HO_5, HO_7, HB⟩ := hcut
            cases kq with
            | zero => exact absurd HA.out (by simp [spliceryref41_Follows.j3])
            | succ kj14 =>
             have H := HA.out
             clear HA
             simp only [spliceryref41_Follows.j3] at H
             by_cases c22 : x75_14 = true
             ·subst c22
              have H1 : (if x7_3.length < 8796093022208 then ((some (x7_3 ++ [t500] : List ByteArray)).bind fun y504 => (if t501 = true then (spliceryref41_Follows.l2 kj14 x5_1 y504 x8_2 (wrap64 (x9_3 + 1))) else ((spliceryref41_has.f kj14 y504 t499).bind fun t507 => (if t507 = true then (spliceryref41_Follows.l2 kj14 x5_1 y504 x8_2 (wrap64 (x9_3 + 1))) else (if y504.length < 8796093022208 then (spliceryref41_Follows.l2 kj14 x5_1 (y504 ++ [t499]) x8_2 (wrap64 (x9_3 + 1))) else (none)))))) else (none)) = some r := by rw [if_pos rfl] at H; exact H
              clear H
              have H := H1
              clear H1
              by_cases c23 : x7_3.length < 8796093022208
              ·rw [if_pos c23] at H
               have LMc23 := Aside0.mk c23
               clear c23
               obtain ⟨y504, hy504⟩ : ∃ y_ : List ByteArray, y_ = (x7_3 ++ [t500]) := ⟨_, rfl⟩
               replace H : (if t501 = true then (spliceryref41_Follows.l2 kj14 x5_1 y504 x8_2 (wrap64 (x9_3 + 1))) else ((spliceryref41_has.f kj14 y504 t499).bind fun t507 => (if t507 = true then (spliceryref41_Follows.l2 kj14 x5_1 y504 x8_2 (wrap64 (x9_3 + 1))) else (if y504.length < 8796093022208 then (spliceryref41_Follows.l2 kj14 x5_1 (y504 ++ [t499]) x8_2 (wrap64 (x9_3 + 1))) else (none))))) = some r := by first | (rw [hy504]; with_reducible exact H) | (have H2_ := (Option.bind_some _ _).symm.trans H; rw [hy504]; with_reducible exact H2_) | (have H2_ := (Option.bind_some _ _).symm.trans H; with_reducible exact H2_) | with_reducible exact H | (rw [hy504]; exact H) | exact H
               have Ny504 := Aside0.mk hy504
               clear hy504
               by_cases c24 : t501 = true
               ·subst c24
                have H1 : (spliceryref41_Follows.l2 kj14 x5_1 y504 x8_2 (wrap64 (x9_3 + 1))) = some r := by rw [if_pos rfl] at H; exact H
                clear H
                have H := H1
                clear H1
                have H' := Aside0.mk H
                clear H
                go_wp2_with (first | ((with_reducible refine gate_builtin (b := .append) (xs := #[.tmp 76, .tmp 78]) rfl ?_); (try (refine gate_guard (by rfl) ?_; dsimp only)); at_builtin; refine Kd.R_append Kd.string (w0 := w) w.heap.size rfl (.tmp 76) (.tmp 78) 34 9 (.string ⟨#[]⟩) 16 rfl Try.underlying34 info9 rfl (by decide) (by omega) u7 x7_3 t500 [.string t500] (fun k_ => some k_ ≠ (.slice (some ad498) x5_1.length co11 : Value).ownBlock) (fun _ => False) rfl rfl ?aP (fun _ hk => hk.elim) ?aF ?aO ?aB ?aS ?aL ?_; (case aP => exact rfl); (case aB => exact (chB HB)); (case aF => exact (fun k_ hk => Kd.fresh' (Kd.R_lt (chR HO_5)) k_ hk)); (case aO => exact (chR HO_7)); (case aS => exact (below_size (chB HB))); (case aL => have := LMc23.out; omega); intro v505 w25 ho hb hg hat; rw [← Ny504.out] at ho; have n0_ := Aside0.mk (Kd.R_after (ok := (fun _ => True)) (by (with_reducible repeat (first | apply Kd.R_alloc | apply Kd.R_drewN | apply Kd.R_drew)); exact Kd.R_mono HO_5.out (fun _ hk => ⟨trivial, hk⟩)) hg hat); have n1_ := Aside0.mk (hb); have n2_ := Aside0.mk (ho); clear HO_5; clear HB; clear HO_7; have HO_5 := n0_; have HB := n1_; have HO506 := n2_; clear n0_ n1_ n2_; clear ho hb hg hat))
                go_roundg kj14
                case measure => have := HK1.out; have := HK2.out; have := HK3.out; have := HJ14.out; omega
                case rel => exact ⟨(y504), (wrap64 (x9_3 + 1)), (by first | rfl | (simp; done) | (simp [*]; done)), H', ⟨by have := HK1.out; have := HK2.out; have := HK3.out; have := HJ14.out; omega⟩, ⟨by (with_reducible repeat (first | apply Kd.R_alloc | apply Kd.R_drewN | apply Kd.R_drew)); exact Kd.R_mono HO_5.out (fun _ hk => hk.2)⟩, ⟨chR HO506⟩, ⟨chB HB⟩⟩
               ·replace c24 := Bool.eq_false_iff.mpr c24
                subst c24
                have H1 : ((spliceryref41_has.f kj14 y504 t499).bind fun t507 => (if t507 = true then (spliceryref41_Follows.l2 kj14 x5_1 y504 x8_2 (wrap64 (x9_3 + 1))) else (if y504.length < 8796093022208 then (spliceryref41_Follows.l2 kj14 x5_1 (y504 ++ [t499]) x8_2 (wrap64 (x9_3 + 1))) else (none)))) = some r := by rw [if_neg (show ¬ (false = true) by decide)] at H; exact H
                clear H
                have H := H1
                clear H1
                replace H := Option.bind_eq_some_iff.mp H
                obtain ⟨t507, A260, H⟩ := H
                replace H : (if t507 = true then (spliceryref41_Follows.l2 kj14 x5_1 y504 x8_2 (wrap64 (x9_3 + 1))) else (if y504.length < 8796093022208 then (spliceryref41_Follows.l2 kj14 x5_1 (y504 ++ [t499]) x8_2 (wrap64 (x9_3 + 1))) else (none))) = some r := H
                have A26 := Aside0.mk A260
                clear A260
                by_cases c27 : t507 = true
                ·subst c27
                 have H1 : (spliceryref41_Follows.l2 kj14 x5_1 y504 x8_2 (wrap64 (x9_3 + 1))) = some r := by rw [if_pos rfl] at H; exact H
                 clear H
                 have H := H1
                 clear H1
                 have H' := Aside0.mk H
                 clear H
                 go_wp2_with (first | ((with_reducible refine gate_builtin (b := .append) (xs := #[.tmp 76, .tmp 78]) rfl ?_); (try (refine gate_guard (by rfl) ?_; dsimp only)); at_builtin; refine Kd.R_append Kd.string (w0 := w) w.heap.size rfl (.tmp 76) (.tmp 78) 34 9 (.string ⟨#[]⟩) 16 rfl Try.underlying34 info9 rfl (by decide) (by omega) u7 x7_3 t500 [.string t500] (fun k_ => some k_ ≠ (.slice (some ad498) x5_1.length co11 : Value).ownBlock) (fun _ => False) rfl rfl ?aP (fun _ hk => hk.elim) ?aF ?aO ?aB ?aS ?aL ?_; (case aP => exact rfl); (case aB => exact (chB HB)); (case aF => exact (fun k_ hk => Kd.fresh' (Kd.R_lt (chR HO_5)) k_ hk)); (case aO => exact (chR HO_7)); (case aS => exact (below_size (chB HB))); (case aL => have := LMc23.out; omega); intro v505 w28 ho hb hg hat; rw [← Ny504.out] at ho; have n0_ := Aside0.mk (Kd.R_after (ok := (fun _ => True)) (by (with_reducible repeat (first | apply Kd.R_alloc | apply Kd.R_drewN | apply Kd.R_drew)); exact Kd.R_mono HO_5.out (fun _ hk => ⟨trivial, hk⟩)) hg hat); have n1_ := Aside0.mk (hb); have n2_ := Aside0.mk (ho); clear HO_5; clear HB; clear HO_7; have HO_5 := n0_; have HB := n1_; have HO506 := n2_; clear n0_ n1_ n2_; clear ho hb hg hat; obtain ⟨Ao29, co29, eo29⟩ := Kd.R_slice HO506.out; subst eo29) | (go_at_call 39; (with_reducible refine (spliceryref41_has.calls kj14 _ _ y504 t499 true _ ?side1 ?side2 A26.out).mono ?_); (case side1 => repeat (first | exact (Kd.R_reads' HO506.out).2.2 | (with_reducible refine Kd.C_alloc ?_ _) | (with_reducible refine Kd.C_drewN ?_ _) | (with_reducible refine Kd.C_drew ?_))); (case side2 => exact (Kd.R_reads' HO506.out).2.1); rintro e w' ⟨rfl, ⟨nd, rfl⟩⟩))
                 go_roundg kj14
                 case measure => have := HK1.out; have := HK2.out; have := HK3.out; have := HJ14.out; omega
                 case rel => exact ⟨(y504), (wrap64 (x9_3 + 1)), (by first | rfl | (simp; done) | (simp [*]; done)), H', ⟨by have := HK1.out; have := HK2.out; have := HK3.out; have := HJ14.out; omega⟩, ⟨by (with_reducible repeat (first | apply Kd.R_alloc | apply Kd.R_drewN | apply Kd.R_drew)); exact Kd.R_mono HO_5.out (fun _ hk => hk.2)⟩, ⟨chR HO506⟩, ⟨chB HB⟩⟩
                ·replace c27 := Bool.eq_false_iff.mpr c27
                 subst c27
                 have H1 : (if y504.length < 8796093022208 then (spliceryref41_Follows.l2 kj14 x5_1 (y504 ++ [t499]) x8_2 (wrap64 (x9_3 + 1))) else (none)) = some r := by rw [if_neg (show ¬ (false = true) by decide)] at H; exact H
                 clear H
                 have H := H1
                 clear H1
                 by_cases c30 : y504.length < 8796093022208
                 ·rw [if_pos c30] at H
                  have LMc30 := Aside0.mk c30
                  clear c30
                  obtain ⟨y508, hy508⟩ : ∃ y_ : List ByteArray, y_ = (y504 ++ [t499]) := ⟨_, rfl⟩
                  replace H : (spliceryref41_Follows.l2 kj14 x5_1 y508 x8_2 (wrap64 (x9_3 + 1))) = some r := by first | (rw [hy508]; with_reducible exact H) | (have H2_ := (Option.bind_some _ _).symm.trans H; rw [hy508]; with_reducible exact H2_) | (have H2_ := (Option.bind_some _ _).symm.trans H; with_reducible exact H2_) | with_reducible exact H | (rw [hy508]; exact H) | exact H
                  have Ny508 := Aside0.mk hy508
                  clear hy508
                  have H' := Aside0.mk H
                  clear H
                  go_wp2_with (first | ((with_reducible refine gate_builtin (b := .append) (xs := #[.tmp 76, .tmp 78]) rfl ?_); (try (refine gate_guard (by rfl) ?_; dsimp only)); at_builtin; refine Kd.R_append Kd.string (w0 := w) w.heap.size rfl (.tmp 76) (.tmp 78) 34 9 (.string ⟨#[]⟩) 16 rfl Try.underlying34 info9 rfl (by decide) (by omega) u7 x7_3 t500 [.string t500] (fun k_ => some k_ ≠ (.slice (some ad498) x5_1.length co11 : Value).ownBlock) (fun _ => False) rfl rfl ?aP (fun _ hk => hk.elim) ?aF ?aO ?aB ?aS ?aL ?_; (case aP => exact rfl); (case aB => exact (chB HB)); (case aF => exact (fun k_ hk => Kd.fresh' (Kd.R_lt (chR HO_5)) k_ hk)); (case aO => exact (chR HO_7)); (case aS => exact (below_size (chB HB))); (case aL => have := LMc23.out; omega); intro v505 w31 ho hb hg hat; rw [← Ny504.out] at ho; have n0_ := Aside0.mk (Kd.R_after (ok := (fun _ => True)) (by (with_reducible repeat (first | apply Kd.R_alloc | apply Kd.R_drewN | apply Kd.R_drew)); exact Kd.R_mono HO_5.out (fun _ hk => ⟨trivial, hk⟩)) hg hat); have n1_ := Aside0.mk (hb); have n2_ := Aside0.mk (ho); clear HO_5; clear HB; clear HO_7; have HO_5 := n0_; have HB := n1_; have HO506 := n2_; clear n0_ n1_ n2_; clear ho hb hg hat; obtain ⟨Ao32, co32, eo32⟩ := Kd.R_slice HO506.out; subst eo32) | (go_at_call 39; (with_reducible refine (spliceryref41_has.calls kj14 _ _ y504 t499 false _ ?side1 ?side2 A26.out).mono ?_); (case side1 => repeat (first | exact (Kd.R_reads' HO506.out).2.2 | (with_reducible refine Kd.C_alloc ?_ _) | (with_reducible refine Kd.C_drewN ?_ _) | (with_reducible refine Kd.C_drew ?_))); (case side2 => exact (Kd.R_reads' HO506.out).2.1); rintro e w' ⟨rfl, ⟨nd, rfl⟩⟩) | ((with_reducible refine gate_builtin (b := .append) (xs := #[.tmp 88, .tmp 90]) rfl ?_); (try (refine gate_guard (by rfl) ?_; dsimp only)); at_builtin; refine Kd.R_append Kd.string (w0 := w) w.heap.size rfl (.tmp 88) (.tmp 90) 34 9 (.string ⟨#[]⟩) 16 rfl Try.underlying34 info9 rfl (by decide) (by omega) (.slice Ao32 y504.length co32) y504 t499 [.string t499] (fun k_ => some k_ ≠ (.slice (some ad498) x5_1.length co11 : Value).ownBlock) (fun _ => False) rfl rfl ?aP (fun _ hk => hk.elim) ?aF ?aO ?aB ?aS ?aL ?_; (case aP => exact rfl); (case aB => exact (chB HB)); (case aF => exact (fun k_ hk => Kd.fresh' (Kd.R_lt (chR HO_5)) k_ hk)); (case aO => exact (chR HO506)); (case aS => exact (below_size (chB HB))); (case aL => have := LMc30.out; omega); intro v509 w33 ho hb hg hat; rw [← Ny508.out] at ho; have n0_ := Aside0.mk (Kd.R_after (ok := (fun _ => True)) (chR HO_5) hg hat); have n1_ := Aside0.mk (hb); have n2_ := Aside0.mk (ho); clear HO_5; clear HB; clear HO506; have HO_5 := n0_; have HB := n1_; have HO510 := n2_; clear n0_ n1_ n2_; clear ho hb hg hat))
                  go_roundg kj14
                  case measure => have := HK1.out; have := HK2.out; have := HK3.out; have := HJ14.out; omega
                  case rel => exact ⟨(y508), (wrap64 (x9_3 + 1)), (by first | rfl | (simp; done) | (simp [*]; done)), H', ⟨by have := HK1.out; have := HK2.out; have := HK3.out; have := HJ14.out; omega⟩, ⟨by (with_reducible repeat (first | apply Kd.R_alloc | apply Kd.R_drewN | apply Kd.R_drew)); exact Kd.R_mono HO_5.out (fun _ hk => hk.2)⟩, ⟨chR HO510⟩, ⟨chB HB⟩⟩
                 ·rw [if_neg c30] at H
                  exact absurd H (by simp)
              ·rw [if_neg c23] at H
               exact absurd H (by simp)
             ·replace c22 := Bool.eq_false_iff.mpr c22
              subst c22
              have H1 : (if t501 = true then (spliceryref41_Follows.l2 kj14 x5_1 x7_3 x8_2 (wrap64 (x9_3 + 1))) else ((spliceryref41_has.f kj14 x7_3 t499).bind fun t511 => (if t511 = true then (spliceryref41_Follows.l2 kj14 x5_1 x7_3 x8_2 (wrap64 (x9_3 + 1))) else (if x7_3.length < 8796093022208 then (spliceryref41_Follows.l2 kj14 x5_1 (x7_3 ++ [t499]) x8_2 (wrap64 (x9_3 + 1))) else (none))))) = some r := by rw [if_neg (show ¬ (false = true) by decide)] at H; exact H
              clear H
              have H := H1
              clear H1
              by_cases c34 : t501 = true
              ·subst c34
               have H1 : (spliceryref41_Follows.l2 kj14 x5_1 x7_3 x8_2 (wrap64 (x9_3 + 1))) = some r := by rw [if_pos rfl] at H; exact H
               clear H
               have H := H1
               clear H1
               have H' := Aside0.mk H
               clear H
               go_wp2
               go_roundg kj14
               case measure => have := HK1.out; have := HK2.out; have := HK3.out; have := HJ14.out; omega
               case rel => exact ⟨(x7_3), (wrap64 (x9_3 + 1)), (by first | rfl | (simp; done) | (simp [*]; done)), H', ⟨by have := HK1.out; have := HK2.out; have := HK3.out; have := HJ14.out; omega⟩, ⟨chR HO_5⟩, ⟨chR HO_7⟩, ⟨chB HB⟩⟩
              ·replace c34 := Bool.eq_false_iff.mpr c34
               subst c34
               have H1 : ((spliceryref41_has.f kj14 x7_3 t499).bind fun t511 => (if t511 = true then (spliceryref41_Follows.l2 kj14 x5_1 x7_3 x8_2 (wrap64 (x9_3 + 1))) else (if x7_3.length < 8796093022208 then (spliceryref41_Follows.l2 kj14 x5_1 (x7_3 ++ [t499]) x8_2 (wrap64 (x9_3 + 1))) else (none)))) = some r := by rw [if_neg (show ¬ (false = true) by decide)] at H; exact H
               clear H
               have H := H1
               clear H1
               replace H := Option.bind_eq_some_iff.mp H
               obtain ⟨t511, A350, H⟩ := H
               replace H : (if t511 = true then (spliceryref41_Follows.l2 kj14 x5_1 x7_3 x8_2 (wrap64 (x9_3 + 1))) else (if x7_3.length < 8796093022208 then (spliceryref41_Follows.l2 kj14 x5_1 (x7_3 ++ [t499]) x8_2 (wrap64 (x9_3 + 1))) else (none))) = some r := H
               have A35 := Aside0.mk A350
               clear A350
               by_cases c36 : t511 = true
               ·subst c36
                have H1 : (spliceryref41_Follows.l2 kj14 x5_1 x7_3 x8_2 (wrap64 (x9_3 + 1))) = some r := by rw [if_pos rfl] at H; exact H
                clear H
                have H := H1
                clear H1
                have H' := Aside0.mk H
                clear H
                obtain ⟨Ao37, co37, eo37⟩ := Kd.R_slice HO_7.out
                subst eo37
                go_wp2_with (first | (go_at_call 39; (with_reducible refine (spliceryref41_has.calls kj14 _ _ x7_3 t499 true _ ?side1 ?side2 A35.out).mono ?_); (case side1 => repeat (first | exact (Kd.R_reads' HO_7.out).2.2 | (with_reducible refine Kd.C_alloc ?_ _) | (with_reducible refine Kd.C_drewN ?_ _) | (with_reducible refine Kd.C_drew ?_))); (case side2 => exact (Kd.R_reads' HO_7.out).2.1); rintro e w' ⟨rfl, ⟨nd, rfl⟩⟩))
                go_roundg kj14
                case measure => have := HK1.out; have := HK2.out; have := HK3.out; have := HJ14.out; omega
                case rel => exact ⟨(x7_3), (wrap64 (x9_3 + 1)), (by first | rfl | (simp; done) | (simp [*]; done)), H', ⟨by have := HK1.out; have := HK2.out; have := HK3.out; have := HJ14.out; omega⟩, ⟨chR HO_5⟩, ⟨chR HO_7⟩, ⟨chB HB⟩⟩
               ·replace c36 := Bool.eq_false_iff.mpr c36
                subst c36
                have H1 : (if x7_3.length < 8796093022208 then (spliceryref41_Follows.l2 kj14 x5_1 (x7_3 ++ [t499]) x8_2 (wrap64 (x9_3 + 1))) else (none)) = some r := by rw [if_neg (show ¬ (false = true) by decide)] at H; exact H
                clear H
                have H := H1
                clear H1
                by_cases c38 : x7_3.length < 8796093022208
                ·rw [if_pos c38] at H
                 have LMc38 := Aside0.mk c38
                 clear c38
                 obtain ⟨y512, hy512⟩ : ∃ y_ : List ByteArray, y_ = (x7_3 ++ [t499]) := ⟨_, rfl⟩
                 replace H : (spliceryref41_Follows.l2 kj14 x5_1 y512 x8_2 (wrap64 (x9_3 + 1))) = some r := by first | (rw [hy512]; with_reducible exact H) | (have H2_ := (Option.bind_some _ _).symm.trans H; rw [hy512]; with_reducible exact H2_) | (have H2_ := (Option.bind_some _ _).symm.trans H; with_reducible exact H2_) | with_reducible exact H | (rw [hy512]; exact H) | exact H
                 have Ny512 := Aside0.mk hy512
                 clear hy512
                 have H' := Aside0.mk H
                 clear H
                 obtain ⟨Ao39, co39, eo39⟩ := Kd.R_slice HO_7.out
                 subst eo39
                 go_wp2_with (first | (go_at_call 39; (with_reducible refine (spliceryref41_has.calls kj14 _ _ x7_3 t499 false _ ?side1 ?side2 A35.out).mono ?_); (case side1 => repeat (first | exact (Kd.R_reads' HO_7.out).2.2 | (with_reducible refine Kd.C_alloc ?_ _) | (with_reducible refine Kd.C_drewN ?_ _) | (with_reducible refine Kd.C_drew ?_))); (case side2 => exact (Kd.R_reads' HO_7.out).2.1); rintro e w' ⟨rfl, ⟨nd, rfl⟩⟩) | ((with_reducible refine gate_builtin (b := .append) (xs := #[.tmp 88, .tmp 90]) rfl ?_); (try (refine gate_guard (by rfl) ?_; dsimp only)); at_builtin; refine Kd.R_append Kd.string (w0 := w) w.heap.size rfl (.tmp 88) (.tmp 90) 34 9 (.string ⟨#[]⟩) 16 rfl Try.underlying34 info9 rfl (by decide) (by omega) (.slice Ao39 x7_3.length co39) x7_3 t499 [.string t499] (fun k_ => some k_ ≠ (.slice (some ad498) x5_1.length co11 : Value).ownBlock) (fun _ => False) rfl rfl ?aP (fun _ hk => hk.elim) ?aF ?aO ?aB ?aS ?aL ?_; (case aP => exact rfl); (case aB => exact (chB HB)); (case aF => exact (fun k_ hk => Kd.fresh' (Kd.R_lt (chR HO_5)) k_ hk)); (case aO => exact (chR HO_7)); (case aS => exact (below_size (chB HB))); (case aL => have := LMc38.out; omega); intro v513 w40 ho hb hg hat; rw [← Ny512.out] at ho; have n0_ := Aside0.mk (Kd.R_after (ok := (fun _ => True)) (by (with_reducible repeat (first | apply Kd.R_alloc | apply Kd.R_drewN | apply Kd.R_drew)); exact Kd.R_mono HO_5.out (fun _ hk => ⟨trivial, hk⟩)) hg hat); have n1_ := Aside0.mk (hb); have n2_ := Aside0.mk (ho); clear HO_5; clear HB; clear HO_7; have HO_5 := n0_; have HB := n1_; have HO514 := n2_; clear n0_ n1_ n2_; clear ho hb hg hat))
                 go_roundg kj14
                 case measure => have := HK1.out; have := HK2.out; have := HK3.out; have := HJ14.out; omega
                 case rel => exact ⟨(y512), (wrap64 (x9_3 + 1)), (by first | rfl | (simp; done) | (simp [*]; done)), H', ⟨by have := HK1.out; have := HK2.out; have := HK3.out; have := HJ14.out; omega⟩, ⟨by (with_reducible repeat (first | apply Kd.R_alloc | apply Kd.R_drewN | apply Kd.R_drew)); exact Kd.R_mono HO_5.out (fun _ hk => hk.2)⟩, ⟨chR HO514⟩, ⟨chB HB⟩⟩
                ·rw [if_neg c38] at H
                 exact absurd H (by simp)
          ·rw [if_neg c13] at H
           exact absurd H (by simp)
         ·rw [if_neg c12] at H
          have c12b0 : decide (x9_3 < (x5_1.length : Int)) = false := decide_eq_false c12
          clear c12
          have H' := Aside0.mk H
          clear H
          go_wp2
          go_roundg k3
          case measure => have := HK1.out; have := HK2.out; have := HK3.out; omega
          case rel => exact ⟨(x7_3), (wrap64 (x8_2 + 1)), (by first | rfl | (simp; done) | (simp [*]; done)), H', ⟨by have := HK1.out; have := HK2.out; have := HK3.out; omega⟩, ⟨chR HO_5⟩, ⟨chR HO_7⟩, ⟨chB HB⟩⟩
      ·rw [if_neg c10] at H
       have c10b0 : decide (x8_2 ≤ (x5_1.length : Int)) = false := decide_eq_false c10
       clear c10
       obtain rfl := Option.some.inj H
       obtain ⟨Ao41, co41, eo41⟩ := Kd.R_slice HO_5.out
       subst eo41
       go_wp2
       go_ret
       exact ⟨_, by first | rfl | (simp [errW_none, errW_some] <;> rfl) | (simp [*, errW_none, errW_some] <;> rfl), by (with_reducible repeat (first | apply Kd.R_alloc | apply Kd.R_drewN | apply Kd.R_drew)); exact Kd.R_mono HO_7.out (fun _ hk => trivial), chB HB⟩

end Go.Proofs.Ytjagffomohbioaa.L
