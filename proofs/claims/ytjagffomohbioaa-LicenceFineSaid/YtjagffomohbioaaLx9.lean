-- Written by a program of this session (patch_print.py over the kit's print) out of the translation. Not trusted: Lean checks it.
import Derived.Test.YtjagffomohbioaaLx0
import Derived.Test.YtjagffomohbioaaLx8
namespace Go.Proofs.Ytjagffomohbioaa.L
open Go.RowKit Go.Proofs.YtjagffomohbioaaW.PrintWords Go.Proofs.YtjagffomohbioaaW.PrintLast Go.Proofs.YtjagffomohbioaaW.PrintMore
attribute [local go_sem] max2_int min2_int max_two min_two max_three min_three max_four min_four   -- for this text's walks alone
set_option linter.unusedVariables false
set_option linter.unusedSimpArgs false

/-! ### spliceryref41_Valid: function 12 -/
mutual
def spliceryref41_Valid.l0 : Nat → List (S36) → Int → Option (Bool)
 | 0, _, _ => none
 | k + 1, x0, x3 => if x3 < (x0.length : Int) then (if 0 ≤ x3 then (if (((rd_T36 x0 x3).f0).size : Int) > 16 then (spliceryref41_Valid.j1 k x0 x3 true) else (if (((rd_T36 x0 x3).f1).length : Int) > 8 then (spliceryref41_Valid.j1 k x0 x3 true) else (spliceryref41_Valid.j1 k x0 x3 (decide ((((rd_T36 x0 x3).f2).length : Int) > 8))))) else (none)) else (some true)
def spliceryref41_Valid.j1 : Nat → List (S36) → Int → Bool → Option (Bool)
 | 0, _, _, _ => none
 | k + 1, x0, x3, x39 => if x39 = true then (some false) else (spliceryref41_Valid.l1 k x0 x3 0)
def spliceryref41_Valid.l1 : Nat → List (S36) → Int → Int → Option (Bool)
 | 0, _, _, _ => none
 | k + 1, x0, x3, x4 => if 0 ≤ x3 then (if x3 < (x0.length : Int) then (if x4 < (((rd_T36 x0 x3).f1).length : Int) then (if 0 ≤ x4 then ((spliceryref41_condition.f k (rdOf ByteArray.empty ((rd_T36 x0 x3).f1) x4)).bind fun t485 => (if t485 = true then (spliceryref41_Valid.l1 k x0 x3 (wrap64 (x4 + 1))) else (some false))) else (none)) else (spliceryref41_Valid.l2 k x0 x3 0)) else (none)) else (none)
def spliceryref41_Valid.l2 : Nat → List (S36) → Int → Int → Option (Bool)
 | 0, _, _, _ => none
 | k + 1, x0, x3, x5 => if 0 ≤ x3 then (if x3 < (x0.length : Int) then (if x5 < (((rd_T36 x0 x3).f2).length : Int) then (if 0 ≤ x5 then ((spliceryref41_atom.f k (rdOf ByteArray.empty ((rd_T36 x0 x3).f2) x5)).bind fun t489 => (if t489 = true then (spliceryref41_Valid.l2 k x0 x3 (wrap64 (x5 + 1))) else (some false))) else (none)) else (spliceryref41_Valid.l0 k x0 (wrap64 (x3 + 1)))) else (none)) else (none)
end
def spliceryref41_Valid.f (k : Nat) (l0 : List (S36)) : Option (Bool) := if (l0.length : Int) > 32 then (some false) else (spliceryref41_Valid.l0 k l0 0)
set_option maxHeartbeats 8000000 in
set_option maxRecDepth 100000 in
theorem spliceryref41_Valid.calls (k : Nat) (A0 : Option Addr) (c0 : Nat) (l0 : List (S36)) (r : Bool) (w : World) (hr0 : Kd.C k36 w A0 l0.length l0) (hc0 : l0.length ≤ c0) (h : spliceryref41_Valid.f k l0 = some r) :
  Calls Try.prog 12 #[.slice A0 l0.length c0] w fun e w' => e = .returned (.bool r) ∧ Drawn0 w w' := by
 have HR0 := Aside0.mk hr0
 have HC0 := Aside0.mk hc0
 clear hr0 hc0
 have H : (if (l0.length : Int) > 32 then (some false) else (spliceryref41_Valid.l0 k l0 0)) = some r := h
 clear h
 by_cases c2 : (l0.length : Int) > 32
 ·rw [if_pos c2] at H
  have c2b0 : decide (32 < (l0.length : Int)) = true := decide_eq_true c2
  have c2b1 : decide (32 < l0.length) = true := decide_eq_true (by omega)
  clear c2
  obtain rfl := Option.some.inj H
  go_enter Try.func12, Try.ntmps12
  go_wp2
  go_ret
  exact ⟨by first | rfl | (simp; done) | (simp [*]; done), by repeat (first | exact Drawn0.refl _ | apply Drawn0.step)⟩
 ·rw [if_neg c2] at H
  have c2b0 : decide (32 < (l0.length : Int)) = false := decide_eq_false c2
  have c2b1 : decide (32 < l0.length) = false := decide_eq_false (by omega)
  clear c2
  have H' := Aside0.mk H
  clear H
  go_enter Try.func12, Try.ntmps12
  go_wp2
  go_loopg [3] k (fun kq v3 w' => ∃ (x3_1 : Int), v3 = .int .i64 x3_1 ∧ Aside0 (spliceryref41_Valid.l0 kq l0 x3_1 = some r) ∧ Aside0 (kq ≤ k) ∧ Drawn0 w w')
  case atStart => exact ⟨(0), (by first | rfl | (simp; done) | (simp [*]; done)), H', ⟨Nat.le_refl _⟩, by repeat (first | exact Drawn0.refl _ | apply Drawn0.step)⟩
  case round =>
   clear H'
   try clear c1
   try clear c2
   try clear c2b0
   try clear c2b1
   try clear p2
   obtain ⟨x3_1, rfl, HA, HK1, ⟨m1, rfl⟩⟩ := hrel
   cases gk with
   | zero => exact absurd HA.out (by simp [spliceryref41_Valid.l0])
   | succ k1 =>
    have H := HA.out
    clear HA
    simp only [spliceryref41_Valid.l0] at H
    by_cases c3 : x3_1 < (l0.length : Int)
    ·rw [if_pos c3] at H
     have c3b0 : decide (x3_1 < (l0.length : Int)) = true := decide_eq_true c3
     clear c3
     have HC4 := Aside0.mk H
     clear H
     go_upto_region 6 with (fail)
     go_cut [39] (fun v39 wc => ∃ (kq : Nat) (x39_3 : Bool), v39 = .bool x39_3 ∧ Aside0 (spliceryref41_Valid.j1 kq l0 x3_1 x39_3 = some r) ∧ Aside0 (kq ≤ k1) ∧ Drawn0 w wc)
     case first =>
      have H := HC4.out
      clear HC4
      by_cases c5 : 0 ≤ x3_1
      ·rw [if_pos c5] at H
       have c5b0 : decide (0 ≤ x3_1) = true := decide_eq_true c5
       clear c5
       (first | rw [c5b0] | (simp only [i64_w, i32_w]; rw [c5b0]) | skip)
       by_cases c6 : (((rd_T36 l0 x3_1).f0).size : Int) > 16
       ·rw [if_pos c6] at H
        have c6b0 : decide (16 < (((rd_T36 l0 x3_1).f0).size : Int)) = true := decide_eq_true c6
        have c6b1 : decide (16 < ((rd_T36 l0 x3_1).f0).size) = true := decide_eq_true (by omega)
        clear c6
        have H' := Aside0.mk H
        clear H
        have p479 : 0 ≤ (x3_1 : Int) := of_decide_eq_true (by first | (with_reducible assumption) | assumption)
        have q479 : x3_1 < (l0.length : Int) := of_decide_eq_true (by first | (with_reducible assumption) | assumption)
        obtain ⟨ad479, A479_1, c479_1, A479_2, c479_2, e479, hx479_0, hx479_1, hx479_2, hl479_1, hi479_1, hl479_2, hi479_2⟩ := at_T36 HR0.out x3_1 p479 q479
        cases e479
        have HR479_1 := Aside0.mk hi479_1
        have HC479_1 := Aside0.mk hl479_1
        clear hi479_1 hl479_1
        have HR479_2 := Aside0.mk hi479_2
        have HC479_2 := Aside0.mk hl479_2
        clear hi479_2 hl479_2
        replace p479 := eq_true p479
        replace q479 := eq_true q479
        go_wp2
        go_meet
        case rel => exact ⟨_, (true), (by first | rfl | (simp; done) | (simp [*]; done)), H', ⟨by have := HK1.out; first | omega | exact Nat.le_refl _⟩, by repeat (first | exact Drawn0.refl _ | apply Drawn0.step)⟩
       ·rw [if_neg c6] at H
        have c6b0 : decide (16 < (((rd_T36 l0 x3_1).f0).size : Int)) = false := decide_eq_false c6
        have c6b1 : decide (16 < ((rd_T36 l0 x3_1).f0).size) = false := decide_eq_false (by omega)
        clear c6
        by_cases c7 : (((rd_T36 l0 x3_1).f1).length : Int) > 8
        ·rw [if_pos c7] at H
         have c7b0 : decide (8 < (((rd_T36 l0 x3_1).f1).length : Int)) = true := decide_eq_true c7
         have c7b1 : decide (8 < ((rd_T36 l0 x3_1).f1).length) = true := decide_eq_true (by omega)
         clear c7
         have H' := Aside0.mk H
         clear H
         have p479 : 0 ≤ (x3_1 : Int) := of_decide_eq_true (by first | (with_reducible assumption) | assumption)
         have q479 : x3_1 < (l0.length : Int) := of_decide_eq_true (by first | (with_reducible assumption) | assumption)
         obtain ⟨ad479, A479_1, c479_1, A479_2, c479_2, e479, hx479_0, hx479_1, hx479_2, hl479_1, hi479_1, hl479_2, hi479_2⟩ := at_T36 HR0.out x3_1 p479 q479
         cases e479
         have HR479_1 := Aside0.mk hi479_1
         have HC479_1 := Aside0.mk hl479_1
         clear hi479_1 hl479_1
         have HR479_2 := Aside0.mk hi479_2
         have HC479_2 := Aside0.mk hl479_2
         clear hi479_2 hl479_2
         replace p479 := eq_true p479
         replace q479 := eq_true q479
         have p480 : 0 ≤ (x3_1 : Int) := of_decide_eq_true (by first | (with_reducible assumption) | assumption)
         have q480 : x3_1 < (l0.length : Int) := of_decide_eq_true (by first | (with_reducible assumption) | assumption)
         obtain ⟨ad480, A480_1, c480_1, A480_2, c480_2, e480, hx480_0, hx480_1, hx480_2, hl480_1, hi480_1, hl480_2, hi480_2⟩ := at_T36 HR0.out x3_1 p480 q480
         obtain rfl : ad479 = ad480 := (by injection e480)
         have HR480_1 := Aside0.mk hi480_1
         have HC480_1 := Aside0.mk hl480_1
         clear hi480_1 hl480_1
         have HR480_2 := Aside0.mk hi480_2
         have HC480_2 := Aside0.mk hl480_2
         clear hi480_2 hl480_2
         replace p480 := eq_true p480
         replace q480 := eq_true q480
         have ea_ := Option.some.inj (hx479_1.symm.trans hx480_1)
         injection ea_ with ea_ en_ ec_
         subst ea_
         subst ec_
         clear en_
         have ea_ := Option.some.inj (hx479_2.symm.trans hx480_2)
         injection ea_ with ea_ en_ ec_
         subst ea_
         subst ec_
         clear en_
         go_wp2
         go_meet
         case rel => exact ⟨_, (true), (by first | rfl | (simp; done) | (simp [*]; done)), H', ⟨by have := HK1.out; first | omega | exact Nat.le_refl _⟩, by repeat (first | exact Drawn0.refl _ | apply Drawn0.step)⟩
        ·rw [if_neg c7] at H
         have c7b0 : decide (8 < (((rd_T36 l0 x3_1).f1).length : Int)) = false := decide_eq_false c7
         have c7b1 : decide (8 < ((rd_T36 l0 x3_1).f1).length) = false := decide_eq_false (by omega)
         clear c7
         have H' := Aside0.mk H
         clear H
         have p479 : 0 ≤ (x3_1 : Int) := of_decide_eq_true (by first | (with_reducible assumption) | assumption)
         have q479 : x3_1 < (l0.length : Int) := of_decide_eq_true (by first | (with_reducible assumption) | assumption)
         obtain ⟨ad479, A479_1, c479_1, A479_2, c479_2, e479, hx479_0, hx479_1, hx479_2, hl479_1, hi479_1, hl479_2, hi479_2⟩ := at_T36 HR0.out x3_1 p479 q479
         cases e479
         have HR479_1 := Aside0.mk hi479_1
         have HC479_1 := Aside0.mk hl479_1
         clear hi479_1 hl479_1
         have HR479_2 := Aside0.mk hi479_2
         have HC479_2 := Aside0.mk hl479_2
         clear hi479_2 hl479_2
         replace p479 := eq_true p479
         replace q479 := eq_true q479
         have p480 : 0 ≤ (x3_1 : Int) := of_decide_eq_true (by first | (with_reducible assumption) | assumption)
         have q480 : x3_1 < (l0.length : Int) := of_decide_eq_true (by first | (with_reducible assumption) | assumption)
         obtain ⟨ad480, A480_1, c480_1, A480_2, c480_2, e480, hx480_0, hx480_1, hx480_2, hl480_1, hi480_1, hl480_2, hi480_2⟩ := at_T36 HR0.out x3_1 p480 q480
         obtain rfl : ad479 = ad480 := (by injection e480)
         have HR480_1 := Aside0.mk hi480_1
         have HC480_1 := Aside0.mk hl480_1
         clear hi480_1 hl480_1
         have HR480_2 := Aside0.mk hi480_2
         have HC480_2 := Aside0.mk hl480_2
         clear hi480_2 hl480_2
         replace p480 := eq_true p480
         replace q480 := eq_true q480
         have ea_ := Option.some.inj (hx479_1.symm.trans hx480_1)
         injection ea_ with ea_ en_ ec_
         subst ea_
         subst ec_
         clear en_
         have ea_ := Option.some.inj (hx479_2.symm.trans hx480_2)
         injection ea_ with ea_ en_ ec_
         subst ea_
         subst ec_
         clear en_
         have p481 : 0 ≤ (x3_1 : Int) := of_decide_eq_true (by first | (with_reducible assumption) | assumption)
         have q481 : x3_1 < (l0.length : Int) := of_decide_eq_true (by first | (with_reducible assumption) | assumption)
         obtain ⟨ad481, A481_1, c481_1, A481_2, c481_2, e481, hx481_0, hx481_1, hx481_2, hl481_1, hi481_1, hl481_2, hi481_2⟩ := at_T36 HR0.out x3_1 p481 q481
         obtain rfl : ad479 = ad481 := (by injection e481)
         have HR481_1 := Aside0.mk hi481_1
         have HC481_1 := Aside0.mk hl481_1
         clear hi481_1 hl481_1
         have HR481_2 := Aside0.mk hi481_2
         have HC481_2 := Aside0.mk hl481_2
         clear hi481_2 hl481_2
         replace p481 := eq_true p481
         replace q481 := eq_true q481
         have ea_ := Option.some.inj (hx479_1.symm.trans hx481_1)
         injection ea_ with ea_ en_ ec_
         subst ea_
         subst ec_
         clear en_
         have ea_ := Option.some.inj (hx479_2.symm.trans hx481_2)
         injection ea_ with ea_ en_ ec_
         subst ea_
         subst ec_
         clear en_
         go_wp2
         go_meet
         case rel => exact ⟨_, (decide ((((rd_T36 l0 x3_1).f2).length : Int) > 8)), (by first | rfl | (simp; done) | (simp [*]; done)), H', ⟨by have := HK1.out; first | omega | exact Nat.le_refl _⟩, by repeat (first | exact Drawn0.refl _ | apply Drawn0.step)⟩
      ·rw [if_neg c5] at H
       exact absurd H (by simp)
     case rest =>
      clear HC4
      try clear c1
      try clear c2
      try clear c2b0
      try clear c2b1
      try clear p2
      try clear c3
      try clear c3b0
      try clear c4
      try clear p4
      try clear q4
      try clear hx4
      try clear c5
      try clear c5b0
      try clear c6
      try clear c6b0
      try clear c6b1
      try clear c7
      try clear c7b0
      try clear c7b1
      try clear hx479_0
      try clear hx479_1
      try clear hx479_2
      try clear hx480_0
      try clear hx480_1
      try clear hx480_2
      try clear hx481_0
      try clear hx481_1
      try clear hx481_2
      try clear p2
      try clear p479
      try clear p480
      try clear p481
      try clear q479
      try clear q480
      try clear q481
      obtain ⟨kq, x39_3, rfl, HA, HJ3, ⟨mc3, rfl⟩⟩ := hcut
      cases kq with
      | zero => exact absurd HA.out (by simp [spliceryref41_Valid.j1])
      | succ kj3 =>
       have H := HA.out
       clear HA
       simp only [spliceryref41_Valid.j1] at H
       by_cases c8 : x39_3 = true
       ·subst c8
        have H1 : (some false) = some r := by rw [if_pos rfl] at H; exact H
        clear H
        have H := H1
        clear H1
        obtain rfl := Option.some.inj H
        go_wp2
        go_ret
        exact ⟨by first | rfl | (simp; done) | (simp [*]; done), by repeat (first | exact Drawn0.refl _ | apply Drawn0.step)⟩
       ·replace c8 := Bool.eq_false_iff.mpr c8
        subst c8
        have H1 : (spliceryref41_Valid.l1 kj3 l0 x3_1 0) = some r := by rw [if_neg (show ¬ (false = true) by decide)] at H; exact H
        clear H
        have H := H1
        clear H1
        have H' := Aside0.mk H
        clear H
        go_wp2
        go_loopg [4] kj3 (fun kq v4 w' => ∃ (x4_3 : Int), v4 = .int .i64 x4_3 ∧ Aside0 (spliceryref41_Valid.l1 kq l0 x3_1 x4_3 = some r) ∧ Aside0 (kq ≤ kj3) ∧ Drawn0 w w')
        case atStart => exact ⟨(0), (by first | rfl | (simp; done) | (simp [*]; done)), H', ⟨Nat.le_refl _⟩, by repeat (first | exact Drawn0.refl _ | apply Drawn0.step)⟩
        case round =>
         clear H'
         try clear c1
         try clear c2
         try clear c2b0
         try clear c2b1
         try clear p2
         try clear c3
         try clear c3b0
         try clear c4
         try clear p4
         try clear q4
         try clear hx4
         try clear c5
         try clear c5b0
         try clear c6
         try clear c6b0
         try clear c6b1
         try clear c7
         try clear c7b0
         try clear c7b1
         try clear c8
         try clear hx479_0
         try clear hx479_1
         try clear hx479_2
         try clear hx480_0
         try clear hx480_1
         try clear hx480_2
         try clear hx481_0
         try clear hx481_1
         try clear hx481_2
         try clear p2
         try clear p4
         try clear p479
         try clear p480
         try clear p481
         try clear q4
         try clear q479
         try clear q480
         try clear q481
         obtain ⟨x4_3, rfl, HA, HK3, ⟨m3, rfl⟩⟩ := hrel
         cases gk with
         | zero => exact absurd HA.out (by simp [spliceryref41_Valid.l1])
         | succ k3 =>
          have H := HA.out
          clear HA
          simp only [spliceryref41_Valid.l1] at H
          by_cases c9 : 0 ≤ x3_1
          ·rw [if_pos c9] at H
           have c9b0 : decide (0 ≤ x3_1) = true := decide_eq_true c9
           clear c9
           by_cases c10 : x3_1 < (l0.length : Int)
           ·rw [if_pos c10] at H
            have c10b0 : decide (x3_1 < (l0.length : Int)) = true := decide_eq_true c10
            clear c10
            by_cases c11 : x4_3 < (((rd_T36 l0 x3_1).f1).length : Int)
            ·rw [if_pos c11] at H
             have c11b0 : decide (x4_3 < (((rd_T36 l0 x3_1).f1).length : Int)) = true := decide_eq_true c11
             clear c11
             by_cases c12 : 0 ≤ x4_3
             ·rw [if_pos c12] at H
              have c12b0 : decide (0 ≤ x4_3) = true := decide_eq_true c12
              clear c12
              replace H := Option.bind_eq_some_iff.mp H
              obtain ⟨t485, A130, H⟩ := H
              replace H : (if t485 = true then (spliceryref41_Valid.l1 k3 l0 x3_1 (wrap64 (x4_3 + 1))) else (some false)) = some r := H
              have A13 := Aside0.mk A130
              clear A130
              by_cases c14 : t485 = true
              ·subst c14
               have H1 : (spliceryref41_Valid.l1 k3 l0 x3_1 (wrap64 (x4_3 + 1))) = some r := by rw [if_pos rfl] at H; exact H
               clear H
               have H := H1
               clear H1
               have H' := Aside0.mk H
               clear H
               have p482 : 0 ≤ (x3_1 : Int) := of_decide_eq_true (by first | (with_reducible assumption) | assumption)
               have q482 : x3_1 < (l0.length : Int) := of_decide_eq_true (by first | (with_reducible assumption) | assumption)
               obtain ⟨ad482, A482_1, c482_1, A482_2, c482_2, e482, hx482_0, hx482_1, hx482_2, hl482_1, hi482_1, hl482_2, hi482_2⟩ := at_T36 HR0.out x3_1 p482 q482
               cases e482
               have HR482_1 := Aside0.mk hi482_1
               have HC482_1 := Aside0.mk hl482_1
               clear hi482_1 hl482_1
               have HR482_2 := Aside0.mk hi482_2
               have HC482_2 := Aside0.mk hl482_2
               clear hi482_2 hl482_2
               replace p482 := eq_true p482
               replace q482 := eq_true q482
               have p483 : 0 ≤ (x3_1 : Int) := of_decide_eq_true (by first | (with_reducible assumption) | assumption)
               have q483 : x3_1 < (l0.length : Int) := of_decide_eq_true (by first | (with_reducible assumption) | assumption)
               obtain ⟨ad483, A483_1, c483_1, A483_2, c483_2, e483, hx483_0, hx483_1, hx483_2, hl483_1, hi483_1, hl483_2, hi483_2⟩ := at_T36 HR0.out x3_1 p483 q483
               obtain rfl : ad482 = ad483 := (by injection e483)
               have HR483_1 := Aside0.mk hi483_1
               have HC483_1 := Aside0.mk hl483_1
               clear hi483_1 hl483_1
               have HR483_2 := Aside0.mk hi483_2
               have HC483_2 := Aside0.mk hl483_2
               clear hi483_2 hl483_2
               replace p483 := eq_true p483
               replace q483 := eq_true q483
               have ea_ := Option.some.inj (hx482_1.symm.trans hx483_1)
               injection ea_ with ea_ en_ ec_
               subst ea_
               subst ec_
               clear en_
               have ea_ := Option.some.inj (hx482_2.symm.trans hx483_2)
               injection ea_ with ea_ en_ ec_
               subst ea_
               subst ec_
               clear en_
               have p484 : 0 ≤ (x4_3 : Int) := of_decide_eq_true (by first | (with_reducible assumption) | assumption)
               have q484 : x4_3 < (((rd_T36 l0 x3_1).f1).length : Int) := of_decide_eq_true (by first | (with_reducible assumption) | assumption)
               obtain ⟨ad484, e484, hx484_0⟩ := Kd.at_string HR483_1.out x4_3 p484 q484
               cases e484
               replace p484 := eq_true p484
               replace q484 := eq_true q484
               go_wp2_with (first | ((with_reducible refine gate_callee (f := 34) rfl ?_); refine goesL_ (some 58) rfl rfl Try.func34 (by kernel_rfl) rfl #[.string (rdOf ByteArray.empty ((rd_T36 l0 x3_1).f1) x4_3)] rfl (by (try simp only [List.map_toArray, List.map_cons, List.map_nil]); first | done | rfl | (simp only [List.length_drop, List.length_take]; rfl)) ?_; (with_reducible refine (spliceryref41_condition.calls k3 (rdOf ByteArray.empty ((rd_T36 l0 x3_1).f1) x4_3) true _ A13.out).mono ?_); rintro e w' ⟨rfl, ⟨nd, rfl⟩⟩; refine ⟨_, rfl, ?_⟩))
               go_roundg k3
               case measure => have := HK1.out; have := HJ3.out; have := HK3.out; omega
               case rel => exact ⟨(wrap64 (x4_3 + 1)), (by first | rfl | (simp; done) | (simp [*]; done)), H', ⟨by have := HK1.out; have := HJ3.out; have := HK3.out; omega⟩, by repeat (first | exact Drawn0.refl _ | apply Drawn0.step)⟩
              ·replace c14 := Bool.eq_false_iff.mpr c14
               subst c14
               have H1 : (some false) = some r := by rw [if_neg (show ¬ (false = true) by decide)] at H; exact H
               clear H
               have H := H1
               clear H1
               obtain rfl := Option.some.inj H
               have p482 : 0 ≤ (x3_1 : Int) := of_decide_eq_true (by first | (with_reducible assumption) | assumption)
               have q482 : x3_1 < (l0.length : Int) := of_decide_eq_true (by first | (with_reducible assumption) | assumption)
               obtain ⟨ad482, A482_1, c482_1, A482_2, c482_2, e482, hx482_0, hx482_1, hx482_2, hl482_1, hi482_1, hl482_2, hi482_2⟩ := at_T36 HR0.out x3_1 p482 q482
               cases e482
               have HR482_1 := Aside0.mk hi482_1
               have HC482_1 := Aside0.mk hl482_1
               clear hi482_1 hl482_1
               have HR482_2 := Aside0.mk hi482_2
               have HC482_2 := Aside0.mk hl482_2
               clear hi482_2 hl482_2
               replace p482 := eq_true p482
               replace q482 := eq_true q482
               have p483 : 0 ≤ (x3_1 : Int) := of_decide_eq_true (by first | (with_reducible assumption) | assumption)
               have q483 : x3_1 < (l0.length : Int) := of_decide_eq_true (by first | (with_reducible assumption) | assumption)
               obtain ⟨ad483, A483_1, c483_1, A483_2, c483_2, e483, hx483_0, hx483_1, hx483_2, hl483_1, hi483_1, hl483_2, hi483_2⟩ := at_T36 HR0.out x3_1 p483 q483
               obtain rfl : ad482 = ad483 := (by injection e483)
               have HR483_1 := Aside0.mk hi483_1
               have HC483_1 := Aside0.mk hl483_1
               clear hi483_1 hl483_1
               have HR483_2 := Aside0.mk hi483_2
               have HC483_2 := Aside0.mk hl483_2
               clear hi483_2 hl483_2
               replace p483 := eq_true p483
               replace q483 := eq_true q483
               have ea_ := Option.some.inj (hx482_1.symm.trans hx483_1)
               injection ea_ with ea_ en_ ec_
               subst ea_
               subst ec_
               clear en_
               have ea_ := Option.some.inj (hx482_2.symm.trans hx483_2)
               injection ea_ with ea_ en_ ec_
               subst ea_
               subst ec_
               clear en_
               have p484 : 0 ≤ (x4_3 : Int) := of_decide_eq_true (by first | (with_reducible assumption) | assumption)
               have q484 : x4_3 < (((rd_T36 l0 x3_1).f1).length : Int) := of_decide_eq_true (by first | (with_reducible assumption) | assumption)
               obtain ⟨ad484, e484, hx484_0⟩ := Kd.at_string HR483_1.out x4_3 p484 q484
               cases e484
               replace p484 := eq_true p484
               replace q484 := eq_true q484
               go_wp2_with (first | ((with_reducible refine gate_callee (f := 34) rfl ?_); refine goesL_ (some 58) rfl rfl Try.func34 (by kernel_rfl) rfl #[.string (rdOf ByteArray.empty ((rd_T36 l0 x3_1).f1) x4_3)] rfl (by (try simp only [List.map_toArray, List.map_cons, List.map_nil]); first | done | rfl | (simp only [List.length_drop, List.length_take]; rfl)) ?_; (with_reducible refine (spliceryref41_condition.calls k3 (rdOf ByteArray.empty ((rd_T36 l0 x3_1).f1) x4_3) false _ A13.out).mono ?_); rintro e w' ⟨rfl, ⟨nd, rfl⟩⟩; refine ⟨_, rfl, ?_⟩))
               go_ret
               exact ⟨by first | rfl | (simp; done) | (simp [*]; done), by repeat (first | exact Drawn0.refl _ | apply Drawn0.step)⟩
             ·rw [if_neg c12] at H
              exact absurd H (by simp)
            ·rw [if_neg c11] at H
             have c11b0 : decide (x4_3 < (((rd_T36 l0 x3_1).f1).length : Int)) = false := decide_eq_false c11
             clear c11
             have H' := Aside0.mk H
             clear H
             have p482 : 0 ≤ (x3_1 : Int) := of_decide_eq_true (by first | (with_reducible assumption) | assumption)
             have q482 : x3_1 < (l0.length : Int) := of_decide_eq_true (by first | (with_reducible assumption) | assumption)
             obtain ⟨ad482, A482_1, c482_1, A482_2, c482_2, e482, hx482_0, hx482_1, hx482_2, hl482_1, hi482_1, hl482_2, hi482_2⟩ := at_T36 HR0.out x3_1 p482 q482
             cases e482
             have HR482_1 := Aside0.mk hi482_1
             have HC482_1 := Aside0.mk hl482_1
             clear hi482_1 hl482_1
             have HR482_2 := Aside0.mk hi482_2
             have HC482_2 := Aside0.mk hl482_2
             clear hi482_2 hl482_2
             replace p482 := eq_true p482
             replace q482 := eq_true q482
             go_wp2
             go_loopg [5] k3 (fun kq v5 w' => ∃ (x5_4 : Int), v5 = .int .i64 x5_4 ∧ Aside0 (spliceryref41_Valid.l2 kq l0 x3_1 x5_4 = some r) ∧ Aside0 (kq ≤ k3) ∧ Drawn0 w w')
             case atStart => exact ⟨(0), (by first | rfl | (simp; done) | (simp [*]; done)), H', ⟨Nat.le_refl _⟩, by repeat (first | exact Drawn0.refl _ | apply Drawn0.step)⟩
             case round =>
              clear H'
              try clear c1
              try clear c2
              try clear c2b0
              try clear c2b1
              try clear p2
              try clear c3
              try clear c3b0
              try clear c4
              try clear p4
              try clear q4
              try clear hx4
              try clear c5
              try clear c5b0
              try clear c6
              try clear c6b0
              try clear c6b1
              try clear p6
              try clear c7
              try clear c7b0
              try clear c7b1
              try clear c8
              try clear c9
              try clear c9b0
              try clear c10
              try clear c10b0
              try clear c11
              try clear c11b0
              try clear c12
              try clear c12b0
              try clear c14
              try clear hx479_0
              try clear hx479_1
              try clear hx479_2
              try clear hx480_0
              try clear hx480_1
              try clear hx480_2
              try clear hx481_0
              try clear hx481_1
              try clear hx481_2
              try clear hx482_0
              try clear hx482_1
              try clear hx482_2
              try clear hx483_0
              try clear hx483_1
              try clear hx483_2
              try clear hx484_0
              try clear p2
              try clear p4
              try clear p479
              try clear p480
              try clear p481
              try clear p482
              try clear p483
              try clear p484
              try clear q4
              try clear q479
              try clear q480
              try clear q481
              try clear q482
              try clear q483
              try clear q484
              obtain ⟨x5_4, rfl, HA, HK4, ⟨m4, rfl⟩⟩ := hrel
              cases gk with
              | zero => exact absurd HA.out (by simp [spliceryref41_Valid.l2])
              | succ k4 =>
               have H := HA.out
               clear HA
               simp only [spliceryref41_Valid.l2] at H
               by_cases c15 : 0 ≤ x3_1
               ·rw [if_pos c15] at H
                have c15b0 : decide (0 ≤ x3_1) = true := decide_eq_true c15
                clear c15
                by_cases c16 : x3_1 < (l0.length : Int)
                ·rw [if_pos c16] at H
                 have c16b0 : decide (x3_1 < (l0.length : Int)) = true := decide_eq_true c16
                 clear c16
                 by_cases c17 : x5_4 < (((rd_T36 l0 x3_1).f2).length : Int)
                 ·rw [if_pos c17] at H
                  have c17b0 : decide (x5_4 < (((rd_T36 l0 x3_1).f2).length : Int)) = true := decide_eq_true c17
                  clear c17
                  by_cases c18 : 0 ≤ x5_4
                  ·rw [if_pos c18] at H
                   have c18b0 : decide (0 ≤ x5_4) = true := decide_eq_true c18
                   clear c18
                   replace H := Option.bind_eq_some_iff.mp H
                   obtain ⟨t489, A190, H⟩ := H
                   replace H : (if t489 = true then (spliceryref41_Valid.l2 k4 l0 x3_1 (wrap64 (x5_4 + 1))) else (some false)) = some r := H
                   have A19 := Aside0.mk A190
                   clear A190
                   by_cases c20 : t489 = true
                   ·subst c20
                    have H1 : (spliceryref41_Valid.l2 k4 l0 x3_1 (wrap64 (x5_4 + 1))) = some r := by rw [if_pos rfl] at H; exact H
                    clear H
                    have H := H1
                    clear H1
                    have H' := Aside0.mk H
                    clear H
                    have p486 : 0 ≤ (x3_1 : Int) := of_decide_eq_true (by first | (with_reducible assumption) | assumption)
                    have q486 : x3_1 < (l0.length : Int) := of_decide_eq_true (by first | (with_reducible assumption) | assumption)
                    obtain ⟨ad486, A486_1, c486_1, A486_2, c486_2, e486, hx486_0, hx486_1, hx486_2, hl486_1, hi486_1, hl486_2, hi486_2⟩ := at_T36 HR0.out x3_1 p486 q486
                    obtain rfl : ad482 = ad486 := (by injection e486)
                    have HR486_1 := Aside0.mk hi486_1
                    have HC486_1 := Aside0.mk hl486_1
                    clear hi486_1 hl486_1
                    have HR486_2 := Aside0.mk hi486_2
                    have HC486_2 := Aside0.mk hl486_2
                    clear hi486_2 hl486_2
                    replace p486 := eq_true p486
                    replace q486 := eq_true q486
                    have p487 : 0 ≤ (x3_1 : Int) := of_decide_eq_true (by first | (with_reducible assumption) | assumption)
                    have q487 : x3_1 < (l0.length : Int) := of_decide_eq_true (by first | (with_reducible assumption) | assumption)
                    obtain ⟨ad487, A487_1, c487_1, A487_2, c487_2, e487, hx487_0, hx487_1, hx487_2, hl487_1, hi487_1, hl487_2, hi487_2⟩ := at_T36 HR0.out x3_1 p487 q487
                    obtain rfl : ad482 = ad487 := (by injection e487)
                    have HR487_1 := Aside0.mk hi487_1
                    have HC487_1 := Aside0.mk hl487_1
                    clear hi487_1 hl487_1
                    have HR487_2 := Aside0.mk hi487_2
                    have HC487_2 := Aside0.mk hl487_2
                    clear hi487_2 hl487_2
                    replace p487 := eq_true p487
                    replace q487 := eq_true q487
                    have ea_ := Option.some.inj (hx486_1.symm.trans hx487_1)
                    injection ea_ with ea_ en_ ec_
                    subst ea_
                    subst ec_
                    clear en_
                    have ea_ := Option.some.inj (hx486_2.symm.trans hx487_2)
                    injection ea_ with ea_ en_ ec_
                    subst ea_
                    subst ec_
                    clear en_
                    have p488 : 0 ≤ (x5_4 : Int) := of_decide_eq_true (by first | (with_reducible assumption) | assumption)
                    have q488 : x5_4 < (((rd_T36 l0 x3_1).f2).length : Int) := of_decide_eq_true (by first | (with_reducible assumption) | assumption)
                    obtain ⟨ad488, e488, hx488_0⟩ := Kd.at_string HR487_2.out x5_4 p488 q488
                    cases e488
                    replace p488 := eq_true p488
                    replace q488 := eq_true q488
                    go_wp2_with (first | ((with_reducible refine gate_callee (f := 35) rfl ?_); refine goesL_ (some 78) rfl rfl Try.func35 (by kernel_rfl) rfl #[.string (rdOf ByteArray.empty ((rd_T36 l0 x3_1).f2) x5_4)] rfl (by (try simp only [List.map_toArray, List.map_cons, List.map_nil]); first | done | rfl | (simp only [List.length_drop, List.length_take]; rfl)) ?_; (with_reducible refine (spliceryref41_atom.calls k4 (rdOf ByteArray.empty ((rd_T36 l0 x3_1).f2) x5_4) true _ A19.out).mono ?_); rintro e w' ⟨rfl, ⟨nd, rfl⟩⟩; refine ⟨_, rfl, ?_⟩))
                    go_roundg k4
                    case measure => have := HK1.out; have := HJ3.out; have := HK3.out; have := HK4.out; omega
                    case rel => exact ⟨(wrap64 (x5_4 + 1)), (by first | rfl | (simp; done) | (simp [*]; done)), H', ⟨by have := HK1.out; have := HJ3.out; have := HK3.out; have := HK4.out; omega⟩, by repeat (first | exact Drawn0.refl _ | apply Drawn0.step)⟩
                   ·replace c20 := Bool.eq_false_iff.mpr c20
                    subst c20
                    have H1 : (some false) = some r := by rw [if_neg (show ¬ (false = true) by decide)] at H; exact H
                    clear H
                    have H := H1
                    clear H1
                    obtain rfl := Option.some.inj H
                    have p486 : 0 ≤ (x3_1 : Int) := of_decide_eq_true (by first | (with_reducible assumption) | assumption)
                    have q486 : x3_1 < (l0.length : Int) := of_decide_eq_true (by first | (with_reducible assumption) | assumption)
                    obtain ⟨ad486, A486_1, c486_1, A486_2, c486_2, e486, hx486_0, hx486_1, hx486_2, hl486_1, hi486_1, hl486_2, hi486_2⟩ := at_T36 HR0.out x3_1 p486 q486
                    obtain rfl : ad482 = ad486 := (by injection e486)
                    have HR486_1 := Aside0.mk hi486_1
                    have HC486_1 := Aside0.mk hl486_1
                    clear hi486_1 hl486_1
                    have HR486_2 := Aside0.mk hi486_2
                    have HC486_2 := Aside0.mk hl486_2
                    clear hi486_2 hl486_2
                    replace p486 := eq_true p486
                    replace q486 := eq_true q486
                    have p487 : 0 ≤ (x3_1 : Int) := of_decide_eq_true (by first | (with_reducible assumption) | assumption)
                    have q487 : x3_1 < (l0.length : Int) := of_decide_eq_true (by first | (with_reducible assumption) | assumption)
                    obtain ⟨ad487, A487_1, c487_1, A487_2, c487_2, e487, hx487_0, hx487_1, hx487_2, hl487_1, hi487_1, hl487_2, hi487_2⟩ := at_T36 HR0.out x3_1 p487 q487
                    obtain rfl : ad482 = ad487 := (by injection e487)
                    have HR487_1 := Aside0.mk hi487_1
                    have HC487_1 := Aside0.mk hl487_1
                    clear hi487_1 hl487_1
                    have HR487_2 := Aside0.mk hi487_2
                    have HC487_2 := Aside0.mk hl487_2
                    clear hi487_2 hl487_2
                    replace p487 := eq_true p487
                    replace q487 := eq_true q487
                    have ea_ := Option.some.inj (hx486_1.symm.trans hx487_1)
                    injection ea_ with ea_ en_ ec_
                    subst ea_
                    subst ec_
                    clear en_
                    have ea_ := Option.some.inj (hx486_2.symm.trans hx487_2)
                    injection ea_ with ea_ en_ ec_
                    subst ea_
                    subst ec_
                    clear en_
                    have p488 : 0 ≤ (x5_4 : Int) := of_decide_eq_true (by first | (with_reducible assumption) | assumption)
                    have q488 : x5_4 < (((rd_T36 l0 x3_1).f2).length : Int) := of_decide_eq_true (by first | (with_reducible assumption) | assumption)
                    obtain ⟨ad488, e488, hx488_0⟩ := Kd.at_string HR487_2.out x5_4 p488 q488
                    cases e488
                    replace p488 := eq_true p488
                    replace q488 := eq_true q488
                    go_wp2_with (first | ((with_reducible refine gate_callee (f := 35) rfl ?_); refine goesL_ (some 78) rfl rfl Try.func35 (by kernel_rfl) rfl #[.string (rdOf ByteArray.empty ((rd_T36 l0 x3_1).f2) x5_4)] rfl (by (try simp only [List.map_toArray, List.map_cons, List.map_nil]); first | done | rfl | (simp only [List.length_drop, List.length_take]; rfl)) ?_; (with_reducible refine (spliceryref41_atom.calls k4 (rdOf ByteArray.empty ((rd_T36 l0 x3_1).f2) x5_4) false _ A19.out).mono ?_); rintro e w' ⟨rfl, ⟨nd, rfl⟩⟩; refine ⟨_, rfl, ?_⟩))
                    go_ret
                    exact ⟨by first | rfl | (simp; done) | (simp [*]; done), by repeat (first | exact Drawn0.refl _ | apply Drawn0.step)⟩
                  ·rw [if_neg c18] at H
                   exact absurd H (by simp)
                 ·rw [if_neg c17] at H
                  have c17b0 : decide (x5_4 < (((rd_T36 l0 x3_1).f2).length : Int)) = false := decide_eq_false c17
                  clear c17
                  have H' := Aside0.mk H
                  clear H
                  have p486 : 0 ≤ (x3_1 : Int) := of_decide_eq_true (by first | (with_reducible assumption) | assumption)
                  have q486 : x3_1 < (l0.length : Int) := of_decide_eq_true (by first | (with_reducible assumption) | assumption)
                  obtain ⟨ad486, A486_1, c486_1, A486_2, c486_2, e486, hx486_0, hx486_1, hx486_2, hl486_1, hi486_1, hl486_2, hi486_2⟩ := at_T36 HR0.out x3_1 p486 q486
                  obtain rfl : ad482 = ad486 := (by injection e486)
                  have HR486_1 := Aside0.mk hi486_1
                  have HC486_1 := Aside0.mk hl486_1
                  clear hi486_1 hl486_1
                  have HR486_2 := Aside0.mk hi486_2
                  have HC486_2 := Aside0.mk hl486_2
                  clear hi486_2 hl486_2
                  replace p486 := eq_true p486
                  replace q486 := eq_true q486
                  go_wp2
                  go_roundg k4
                  case measure => have := HK1.out; have := HJ3.out; have := HK3.out; have := HK4.out; omega
                  case rel => exact ⟨(wrap64 (x3_1 + 1)), (by first | rfl | (simp; done) | (simp [*]; done)), H', ⟨by have := HK1.out; have := HJ3.out; have := HK3.out; have := HK4.out; omega⟩, by repeat (first | exact Drawn0.refl _ | apply Drawn0.step)⟩
                ·rw [if_neg c16] at H
                 exact absurd H (by simp)
               ·rw [if_neg c15] at H
                exact absurd H (by simp)
           ·rw [if_neg c10] at H
            exact absurd H (by simp)
          ·rw [if_neg c9] at H
           exact absurd H (by simp)
    ·rw [if_neg c3] at H
     have c3b0 : decide (x3_1 < (l0.length : Int)) = false := decide_eq_false c3
     clear c3
     obtain rfl := Option.some.inj H
     go_wp2
     go_ret
     exact ⟨by first | rfl | (simp; done) | (simp [*]; done), by repeat (first | exact Drawn0.refl _ | apply Drawn0.step)⟩

end Go.Proofs.Ytjagffomohbioaa.L
