-- Written by a program of this session (patch_print.py over the kit's print) out of the translation. Not trusted: Lean checks it.
import Derived.Test.YtjagffomohbioaaLx0
import Derived.Test.YtjagffomohbioaaLx1
import Derived.Test.YtjagffomohbioaaLx2
import Derived.Test.YtjagffomohbioaaLx3
import Derived.Test.YtjagffomohbioaaLx4
import Derived.Test.YtjagffomohbioaaLx5
import Derived.Test.YtjagffomohbioaaLx8
import Derived.Test.YtjagffomohbioaaLx12
import Derived.Test.YtjagffomohbioaaGiven
namespace Go.Proofs.Ytjagffomohbioaa.L
open Go.RowKit Go.Proofs.YtjagffomohbioaaW.PrintWords Go.Proofs.YtjagffomohbioaaW.PrintLast Go.Proofs.YtjagffomohbioaaW.PrintMore
attribute [local go_sem] max2_int min2_int max_two min_two max_three min_three max_four min_four   -- for this text's walks alone
set_option linter.unusedVariables false
set_option linter.unusedSimpArgs false

/-! ### splicerylaw41_LicenceChecks: function 5 -/
def splicerylaw41_LicenceChecks.l0 : Nat → List (S36) → List Int → List Int → List (List Int) → List (S36) → Int → Option (Bool)
 | 0, _, _, _, _, _, _ => none
 | k + 1, x11, x12, x13, x14, x15, x16 => if x16 < (x14.length : Int) then (if 0 ≤ x16 then ((licence_Check.f k x11 x12 (rd_L4 x14 x16)).bind fun t448 => ((spliceryref41_Check.f k x11 x12 (rd_L4 x14 x16)).bind fun t450 => (if t448 = t450 then ((licence_Check.f k x15 x12 (rd_L4 x14 x16)).bind fun t452 => ((spliceryref41_Check.f k x15 x12 (rd_L4 x14 x16)).bind fun t454 => (if t452 = t454 then ((licence_Check.f k x11 (rd_L4 x14 x16) (rd_L4 x14 x16)).bind fun t457 => ((spliceryref41_Check.f k x11 (rd_L4 x14 x16) (rd_L4 x14 x16)).bind fun t460 => (if t457 = t460 then (splicerylaw41_LicenceChecks.l0 k x11 x12 x13 x14 x15 (wrap64 (x16 + 1))) else (some false)))) else (some false)))) else (some false)))) else (none)) else (if (x13.length : Int) = 0 then ((splicerylaw41_lives.f k).bind fun t444 => (some t444)) else ((licence_Check.f k x11 x12 x13).bind fun t445 => (if t445 = 0 then ((splicerylaw41_lives.f k).bind fun t446 => (some t446)) else (some false))))
def splicerylaw41_LicenceChecks.f (k : Nat) (l0 : List Int) (l1 : List Int) (l2 : List Int) (a3 : Int) (a4 : Int) : Option (Bool) := (spliceryref41_Clauses.f k l0).bind fun t411 => ((spliceryref41_Picks.f k l1).bind fun t414 => ((spliceryref41_Core.f k t411 t414).bind fun t417 => ((spliceryref41_Picks.f k l2).bind fun t420 => ((spliceryref41_Sorted.f k t411 t420).bind fun t423 => ((spliceryref41_Picks.f k l2).bind fun t426 => ((some (([] : List Int) : List Int)).bind fun y429 => (if y429.length + t417.length < 17592186044416 then ((some (y429 ++ t417 : List Int)).bind fun y432 => (if y432.length < 17592186044416 then ((spliceryref41_Spoilt.f k t411 a3 a4).bind fun t441 => (splicerylaw41_LicenceChecks.l0 k t411 t414 t417 (([t417, t423, t426, [], (y432 ++ [a4])] : List (List Int))) t441 0)) else (none))) else (none))))))))
def splicerylaw41_LicenceChecks.T9 : Bool × List (List Nat × List Nat) := (true, [([], []), ([], []), ([], []), ([], []), ([2, 3], [2, 3]), ([4], [4]), ([0, 1, 5], [0, 1, 5]), ([], []), ([], []), ([], []), ([], []), ([9, 10], [9, 10]), ([11], [11]), ([7, 8, 12, 6], [7, 8, 12]), ([6, 13], [6, 13]), ([14, 13], [14]), ([15], [15]), ([15], [15]), ([15], [15]), ([15], [15]), ([18, 19, 15], [15, 18, 19]), ([20, 15], [15, 20]), ([16, 17, 21, 15, 15], [15, 16, 17, 21]), ([15], [15]), ([15], [15]), ([15], [15]), ([15], [15]), ([25, 26, 15], [15, 25, 26]), ([27, 15], [15, 27]), ([23, 24, 28, 22, 15], [15, 23, 24, 28]), ([22, 29, 15], [15, 22, 29]), ([15, 30], [15, 30]), ([31, 29], [31]), ([32], [32]), ([32], [32]), ([32], [32]), ([34, 35, 32], [32, 34, 35]), ([36, 32], [32, 36]), ([32], [32]), ([32], [32]), ([38, 39, 32], [32, 38, 39]), ([40, 32], [32, 40]), ([33, 37, 41, 32, 32], [32, 33, 37, 41]), ([32], [32]), ([32], [32]), ([32], [32]), ([44, 45, 32], [32, 44, 45]), ([46, 32], [32, 46]), ([32], [32]), ([32], [32]), ([48, 49, 32], [32, 48, 49]), ([50, 32], [32, 50]), ([43, 47, 51, 42, 32], [32, 43, 47, 51]), ([42, 52, 32], [32, 42, 52]), ([32, 53], [32, 53])])
def splicerylaw41_LicenceChecks.B9 : List Nat := [0, 0, 0, 0, 12, 28, 63, 0, 0, 0, 0, 1536, 3584, 8191, 16383, 32767, 65535, 65535, 65535, 65535, 851967, 1900543, 4194303, 65535, 65535, 65535, 65535, 100728831, 234946559, 536870911, 1073741823, 2147483647, 4294967295, 8589934591, 8589934591, 8589934591, 60129542143, 128849018879, 8589934591, 8589934591, 833223655423, 1932735283199, 4398046511103, 8589934591, 8589934591, 8589934591, 52785148067839, 123153892245503, 8589934591, 8589934591, 844433520066559, 1970333426909183, 4503599627370495, 9007199254740991, 18014398509481983]
theorem splicerylaw41_LicenceChecks.tab9 : rtab .any (opsOf Try.f5 9) = splicerylaw41_LicenceChecks.T9 := by kernel_rfl
theorem splicerylaw41_LicenceChecks.bits9 : waitsOk splicerylaw41_LicenceChecks.T9.2 splicerylaw41_LicenceChecks.B9 = true := by kernel_rfl
set_option maxHeartbeats 8000000 in
set_option maxRecDepth 100000 in
theorem splicerylaw41_LicenceChecks.calls (k : Nat) (A0 : Option Addr) (c0 : Nat) (l0 : List Int) (A1 : Option Addr) (c1 : Nat) (l1 : List Int) (A2 : Option Addr) (c2 : Nat) (l2 : List Int) (a3 : Int) (a4 : Int) (r : Bool) (w : World) (hr0 : Kd.C (Kd.int .i64) w A0 l0.length l0) (hc0 : l0.length ≤ c0) (hr1 : Kd.C (Kd.int .i64) w A1 l1.length l1) (hc1 : l1.length ≤ c1) (hr2 : Kd.C (Kd.int .i64) w A2 l2.length l2) (hc2 : l2.length ≤ c2) (h : splicerylaw41_LicenceChecks.f k l0 l1 l2 a3 a4 = some r) (hrt : r = true) :
  Calls Try.prog 5 #[.slice A0 l0.length c0, .slice A1 l1.length c1, .slice A2 l2.length c2, .int .i64 a3, .int .i64 a4] w fun e w' => e = .returned (.bool r) ∧ Below w.heap.size w w' := by
 have HRT := Aside0.mk hrt
 clear hrt
 have HR0 := Aside0.mk hr0
 have HC0 := Aside0.mk hc0
 clear hr0 hc0
 have HR1 := Aside0.mk hr1
 have HC1 := Aside0.mk hc1
 clear hr1 hc1
 have HR2 := Aside0.mk hr2
 have HC2 := Aside0.mk hc2
 clear hr2 hc2
 have HB := Aside0.mk (Below.refl w.heap.size w)
 have H : ((spliceryref41_Clauses.f k l0).bind fun t411 => ((spliceryref41_Picks.f k l1).bind fun t414 => ((spliceryref41_Core.f k t411 t414).bind fun t417 => ((spliceryref41_Picks.f k l2).bind fun t420 => ((spliceryref41_Sorted.f k t411 t420).bind fun t423 => ((spliceryref41_Picks.f k l2).bind fun t426 => ((some (([] : List Int) : List Int)).bind fun y429 => (if y429.length + t417.length < 17592186044416 then ((some (y429 ++ t417 : List Int)).bind fun y432 => (if y432.length < 17592186044416 then ((spliceryref41_Spoilt.f k t411 a3 a4).bind fun t441 => (splicerylaw41_LicenceChecks.l0 k t411 t414 t417 (([t417, t423, t426, [], (y432 ++ [a4])] : List (List Int))) t441 0)) else (none))) else (none))))))))) = some r := h
 clear h
 replace H := Option.bind_eq_some_iff.mp H
 obtain ⟨t411, A60, H⟩ := H
 replace H : ((spliceryref41_Picks.f k l1).bind fun t414 => ((spliceryref41_Core.f k t411 t414).bind fun t417 => ((spliceryref41_Picks.f k l2).bind fun t420 => ((spliceryref41_Sorted.f k t411 t420).bind fun t423 => ((spliceryref41_Picks.f k l2).bind fun t426 => ((some (([] : List Int) : List Int)).bind fun y429 => (if y429.length + t417.length < 17592186044416 then ((some (y429 ++ t417 : List Int)).bind fun y432 => (if y432.length < 17592186044416 then ((spliceryref41_Spoilt.f k t411 a3 a4).bind fun t441 => (splicerylaw41_LicenceChecks.l0 k t411 t414 t417 (([t417, t423, t426, [], (y432 ++ [a4])] : List (List Int))) t441 0)) else (none))) else (none)))))))) = some r := H
 have A6 := Aside0.mk A60
 clear A60
 replace H := Option.bind_eq_some_iff.mp H
 obtain ⟨t414, A70, H⟩ := H
 replace H : ((spliceryref41_Core.f k t411 t414).bind fun t417 => ((spliceryref41_Picks.f k l2).bind fun t420 => ((spliceryref41_Sorted.f k t411 t420).bind fun t423 => ((spliceryref41_Picks.f k l2).bind fun t426 => ((some (([] : List Int) : List Int)).bind fun y429 => (if y429.length + t417.length < 17592186044416 then ((some (y429 ++ t417 : List Int)).bind fun y432 => (if y432.length < 17592186044416 then ((spliceryref41_Spoilt.f k t411 a3 a4).bind fun t441 => (splicerylaw41_LicenceChecks.l0 k t411 t414 t417 (([t417, t423, t426, [], (y432 ++ [a4])] : List (List Int))) t441 0)) else (none))) else (none))))))) = some r := H
 have A7 := Aside0.mk A70
 clear A70
 replace H := Option.bind_eq_some_iff.mp H
 obtain ⟨t417, A80, H⟩ := H
 replace H : ((spliceryref41_Picks.f k l2).bind fun t420 => ((spliceryref41_Sorted.f k t411 t420).bind fun t423 => ((spliceryref41_Picks.f k l2).bind fun t426 => ((some (([] : List Int) : List Int)).bind fun y429 => (if y429.length + t417.length < 17592186044416 then ((some (y429 ++ t417 : List Int)).bind fun y432 => (if y432.length < 17592186044416 then ((spliceryref41_Spoilt.f k t411 a3 a4).bind fun t441 => (splicerylaw41_LicenceChecks.l0 k t411 t414 t417 (([t417, t423, t426, [], (y432 ++ [a4])] : List (List Int))) t441 0)) else (none))) else (none)))))) = some r := H
 have A8 := Aside0.mk A80
 clear A80
 replace H := Option.bind_eq_some_iff.mp H
 obtain ⟨t420, A90, H⟩ := H
 replace H : ((spliceryref41_Sorted.f k t411 t420).bind fun t423 => ((spliceryref41_Picks.f k l2).bind fun t426 => ((some (([] : List Int) : List Int)).bind fun y429 => (if y429.length + t417.length < 17592186044416 then ((some (y429 ++ t417 : List Int)).bind fun y432 => (if y432.length < 17592186044416 then ((spliceryref41_Spoilt.f k t411 a3 a4).bind fun t441 => (splicerylaw41_LicenceChecks.l0 k t411 t414 t417 (([t417, t423, t426, [], (y432 ++ [a4])] : List (List Int))) t441 0)) else (none))) else (none))))) = some r := H
 have A9 := Aside0.mk A90
 clear A90
 replace H := Option.bind_eq_some_iff.mp H
 obtain ⟨t423, A100, H⟩ := H
 replace H : ((spliceryref41_Picks.f k l2).bind fun t426 => ((some (([] : List Int) : List Int)).bind fun y429 => (if y429.length + t417.length < 17592186044416 then ((some (y429 ++ t417 : List Int)).bind fun y432 => (if y432.length < 17592186044416 then ((spliceryref41_Spoilt.f k t411 a3 a4).bind fun t441 => (splicerylaw41_LicenceChecks.l0 k t411 t414 t417 (([t417, t423, t426, [], (y432 ++ [a4])] : List (List Int))) t441 0)) else (none))) else (none)))) = some r := H
 have A10 := Aside0.mk A100
 clear A100
 replace H := Option.bind_eq_some_iff.mp H
 obtain ⟨t426, A110, H⟩ := H
 replace H : ((some (([] : List Int) : List Int)).bind fun y429 => (if y429.length + t417.length < 17592186044416 then ((some (y429 ++ t417 : List Int)).bind fun y432 => (if y432.length < 17592186044416 then ((spliceryref41_Spoilt.f k t411 a3 a4).bind fun t441 => (splicerylaw41_LicenceChecks.l0 k t411 t414 t417 (([t417, t423, t426, [], (y432 ++ [a4])] : List (List Int))) t441 0)) else (none))) else (none))) = some r := H
 have A11 := Aside0.mk A110
 clear A110
 obtain ⟨y429, hy429⟩ : ∃ y_ : List Int, y_ = (([] : List Int)) := ⟨_, rfl⟩
 replace H : (if y429.length + t417.length < 17592186044416 then ((some (y429 ++ t417 : List Int)).bind fun y432 => (if y432.length < 17592186044416 then ((spliceryref41_Spoilt.f k t411 a3 a4).bind fun t441 => (splicerylaw41_LicenceChecks.l0 k t411 t414 t417 (([t417, t423, t426, [], (y432 ++ [a4])] : List (List Int))) t441 0)) else (none))) else (none)) = some r := by first | (rw [hy429]; with_reducible exact H) | (have H2_ := (Option.bind_some _ _).symm.trans H; rw [hy429]; with_reducible exact H2_) | (have H2_ := (Option.bind_some _ _).symm.trans H; with_reducible exact H2_) | with_reducible exact H | (rw [hy429]; exact H) | exact H
 have Ny429 := Aside0.mk hy429
 clear hy429
 by_cases c12 : y429.length + t417.length < 17592186044416
 ·rw [if_pos c12] at H
  have LMc12 := Aside0.mk c12
  clear c12
  obtain ⟨y432, hy432⟩ : ∃ y_ : List Int, y_ = (y429 ++ t417) := ⟨_, rfl⟩
  replace H : (if y432.length < 17592186044416 then ((spliceryref41_Spoilt.f k t411 a3 a4).bind fun t441 => (splicerylaw41_LicenceChecks.l0 k t411 t414 t417 (([t417, t423, t426, [], (y432 ++ [a4])] : List (List Int))) t441 0)) else (none)) = some r := by first | (rw [hy432]; with_reducible exact H) | (have H2_ := (Option.bind_some _ _).symm.trans H; rw [hy432]; with_reducible exact H2_) | (have H2_ := (Option.bind_some _ _).symm.trans H; with_reducible exact H2_) | with_reducible exact H | (rw [hy432]; exact H) | exact H
  have Ny432 := Aside0.mk hy432
  clear hy432
  by_cases c13 : y432.length < 17592186044416
  ·rw [if_pos c13] at H
   have LMc13 := Aside0.mk c13
   clear c13
   obtain ⟨y435, hy435⟩ : ∃ y_ : List Int, y_ = (y432 ++ [a4]) := ⟨_, rfl⟩
   replace H : ((spliceryref41_Spoilt.f k t411 a3 a4).bind fun t441 => (splicerylaw41_LicenceChecks.l0 k t411 t414 t417 (([t417, t423, t426, [], y435] : List (List Int))) t441 0)) = some r := by first | (rw [hy435]; with_reducible exact H) | (have H2_ := (Option.bind_some _ _).symm.trans H; rw [hy435]; with_reducible exact H2_) | (have H2_ := (Option.bind_some _ _).symm.trans H; with_reducible exact H2_) | with_reducible exact H | (rw [hy435]; exact H) | exact H
   have Ny435 := Aside0.mk hy435
   clear hy435
   obtain ⟨y438, hy438⟩ : ∃ y_ : List (List Int), y_ = (([t417, t423, t426, [], y435] : List (List Int))) := ⟨_, rfl⟩
   replace H : ((spliceryref41_Spoilt.f k t411 a3 a4).bind fun t441 => (splicerylaw41_LicenceChecks.l0 k t411 t414 t417 y438 t441 0)) = some r := by first | (rw [hy438]; with_reducible exact H) | (have H2_ := (Option.bind_some _ _).symm.trans H; rw [hy438]; with_reducible exact H2_) | (have H2_ := (Option.bind_some _ _).symm.trans H; with_reducible exact H2_) | with_reducible exact H | (rw [hy438]; exact H) | exact H
   have Ny438 := Aside0.mk hy438
   clear hy438
   replace H := Option.bind_eq_some_iff.mp H
   obtain ⟨t441, A140, H⟩ := H
   replace H : (splicerylaw41_LicenceChecks.l0 k t411 t414 t417 y438 t441 0) = some r := H
   have A14 := Aside0.mk A140
   clear A140
   have H' := Aside0.mk H
   clear H
   go_enter Try.func5, Try.ntmps5
   go_wp2_with (first | ((with_reducible refine gate_callee (f := 9) rfl ?_); refine goesL_ (some 18) rfl rfl Try.func9 (by kernel_rfl) rfl #[.slice A0 l0.length c0] rfl (by (try simp only [List.map_toArray, List.map_cons, List.map_nil]); first | done | rfl | (simp only [List.length_drop, List.length_take]; rfl)) ?_; (with_reducible refine (spliceryref41_Clauses.calls k _ _ l0 t411 _ ?side1 ?side2 A6.out).mono ?_); (case side1 => repeat (first | exact HR0.out | (with_reducible refine Kd.C_alloc ?_ _) | (with_reducible refine Kd.C_drewN ?_ _) | (with_reducible refine Kd.C_drew ?_))); (case side2 => exact HC0.out); rintro e w15 ⟨v412, rfl, ho0, hb⟩; refine ⟨_, rfl, ?_⟩; have n0_ := Aside0.mk (Kd.N_lower (Kd.N_mono (ok' := fun k_ => True) (Kd.S_N (Kd.S_bound ho0)) (fun k_ hk_ => trivial)) (below_size (chB HB))); have n1_ := Aside0.mk (below_step (chB HB) hb); clear HB; have HO413 := n0_; have HB := n1_; clear n0_ n1_; (try clear hb); (try clear hb2); (try clear hk); (try clear hi); (try clear ho0)) | ((with_reducible refine gate_callee (f := 14) rfl ?_); refine goesL_ (some 20) rfl rfl Try.func14 (by kernel_rfl) rfl #[.slice A1 l1.length c1] rfl (by (try simp only [List.map_toArray, List.map_cons, List.map_nil]); first | done | rfl | (simp only [List.length_drop, List.length_take]; rfl)) ?_; (with_reducible refine (spliceryref41_Picks.calls k _ _ l1 t414 _ ?side1 ?side2 A7.out).mono ?_); (case side1 => repeat (first | exact (Kd.C_below HR1.out HB.out) | (with_reducible refine Kd.C_alloc ?_ _) | (with_reducible refine Kd.C_drewN ?_ _) | (with_reducible refine Kd.C_drew ?_))); (case side2 => exact HC1.out); rintro e w16 ⟨v415, rfl, ho0, hb⟩; refine ⟨_, rfl, ?_⟩; have n0_ := Aside0.mk (Kd.N_elder' (chN HO413) (Kd.R_base ho0) hb); have n1_ := Aside0.mk (Kd.R_lower ho0 (below_size (chB HB))); have n2_ := Aside0.mk (below_step (chB HB) hb); clear HO413; clear HB; have HO413 := n0_; have HO416 := n1_; have HB := n2_; clear n0_ n1_ n2_; (try clear hb); (try clear hb2); (try clear hk); (try clear hi); (try clear ho0); obtain ⟨Ao17, co17, eo17⟩ := Kd.N_slice HO413.out; subst eo17; obtain ⟨Ao18, co18, eo18⟩ := Kd.R_slice HO416.out; subst eo18) | ((with_reducible refine gate_callee (f := 19) rfl ?_); refine goesL_ (some 23) rfl rfl Try.func19 (by kernel_rfl) rfl #[.slice Ao17 t411.length co17, .slice Ao18 t414.length co18] rfl (by (try simp only [List.map_toArray, List.map_cons, List.map_nil]); first | done | rfl | (simp only [List.length_drop, List.length_take]; rfl)) ?_; (with_reducible refine (spliceryref41_Core.calls k _ _ t411 _ _ t414 t417 _ ?side1 ?side2 ?side3 ?side4 A8.out).mono ?_); (case side1 => repeat (first | exact (Kd.N_reads' HO413.out).2.2 | (with_reducible refine Kd.C_alloc ?_ _) | (with_reducible refine Kd.C_drewN ?_ _) | (with_reducible refine Kd.C_drew ?_))); (case side2 => exact (Kd.N_reads' HO413.out).2.1); (case side3 => repeat (first | exact (Kd.R_reads' HO416.out).2.2 | (with_reducible refine Kd.C_alloc ?_ _) | (with_reducible refine Kd.C_drewN ?_ _) | (with_reducible refine Kd.C_drew ?_))); (case side4 => exact (Kd.R_reads' HO416.out).2.1); rintro e w19 ⟨v418, rfl, ho0, hb⟩; refine ⟨_, rfl, ?_⟩; have n0_ := Aside0.mk (Kd.N_elder' (chN HO413) (Kd.R_base ho0) hb); have n1_ := Aside0.mk (Kd.R_elder' (chR HO416) (Kd.R_base ho0) hb); have n2_ := Aside0.mk (Kd.R_lower (Kd.R_new' ho0 (Kd.R_lt (chR HO416))) (below_size (chB HB))); have n3_ := Aside0.mk (below_step (chB HB) hb); clear HO413; clear HO416; clear HB; have HO413 := n0_; have HO416 := n1_; have HO419 := n2_; have HB := n3_; clear n0_ n1_ n2_ n3_; (try clear hb); (try clear hb2); (try clear hk); (try clear hi); (try clear ho0)) | ((with_reducible refine gate_callee (f := 14) rfl ?_); refine goesL_ (some 27) rfl rfl Try.func14 (by kernel_rfl) rfl #[.slice A2 l2.length c2] rfl (by (try simp only [List.map_toArray, List.map_cons, List.map_nil]); first | done | rfl | (simp only [List.length_drop, List.length_take]; rfl)) ?_; (with_reducible refine (spliceryref41_Picks.calls k _ _ l2 t420 _ ?side1 ?side2 A9.out).mono ?_); (case side1 => repeat (first | exact (Kd.C_below HR2.out HB.out) | (with_reducible refine Kd.C_alloc ?_ _) | (with_reducible refine Kd.C_drewN ?_ _) | (with_reducible refine Kd.C_drew ?_))); (case side2 => exact HC2.out); rintro e w20 ⟨v421, rfl, ho0, hb⟩; refine ⟨_, rfl, ?_⟩; have n0_ := Aside0.mk (Kd.N_elder' (chN HO413) (Kd.R_base ho0) hb); have n1_ := Aside0.mk (Kd.R_elder' (chR HO416) (Kd.R_base ho0) hb); have n2_ := Aside0.mk (Kd.R_elder' (chR HO419) (Kd.R_base ho0) hb); have n3_ := Aside0.mk (Kd.R_lower (Kd.R_new' (Kd.R_new' ho0 (Kd.R_lt (chR HO416))) (Kd.R_lt (chR HO419))) (below_size (chB HB))); have n4_ := Aside0.mk (below_step (chB HB) hb); clear HO413; clear HO416; clear HO419; clear HB; have HO413 := n0_; have HO416 := n1_; have HO419 := n2_; have HO422 := n3_; have HB := n4_; clear n0_ n1_ n2_ n3_ n4_; (try clear hb); (try clear hb2); (try clear hk); (try clear hi); (try clear ho0); obtain ⟨Ao21, co21, eo21⟩ := Kd.R_slice HO422.out; subst eo21) | ((with_reducible refine gate_callee (f := 20) rfl ?_); refine goesL_ (some 28) rfl rfl Try.func20 (by kernel_rfl) rfl #[.slice Ao17 t411.length co17, .slice Ao21 t420.length co21] rfl (by (try simp only [List.map_toArray, List.map_cons, List.map_nil]); first | done | rfl | (simp only [List.length_drop, List.length_take]; rfl)) ?_; (with_reducible refine (spliceryref41_Sorted.calls k _ _ t411 _ _ t420 t423 _ ?side1 ?side2 ?side3 ?side4 A10.out).mono ?_); (case side1 => repeat (first | exact (Kd.N_reads' HO413.out).2.2 | (with_reducible refine Kd.C_alloc ?_ _) | (with_reducible refine Kd.C_drewN ?_ _) | (with_reducible refine Kd.C_drew ?_))); (case side2 => exact (Kd.N_reads' HO413.out).2.1); (case side3 => repeat (first | exact (Kd.R_reads' HO422.out).2.2 | (with_reducible refine Kd.C_alloc ?_ _) | (with_reducible refine Kd.C_drewN ?_ _) | (with_reducible refine Kd.C_drew ?_))); (case side4 => exact (Kd.R_reads' HO422.out).2.1); rintro e w22 ⟨v424, rfl, ho0, hb⟩; refine ⟨_, rfl, ?_⟩; have n0_ := Aside0.mk (Kd.N_elder' (chN HO413) (Kd.R_base ho0) hb); have n1_ := Aside0.mk (Kd.R_elder' (chR HO416) (Kd.R_base ho0) hb); have n2_ := Aside0.mk (Kd.R_elder' (chR HO419) (Kd.R_base ho0) hb); have n3_ := Aside0.mk (Kd.R_elder' (chR HO422) (Kd.R_base ho0) hb); have n4_ := Aside0.mk (Kd.R_lower (Kd.R_new' (Kd.R_new' (Kd.R_new' ho0 (Kd.R_lt (chR HO416))) (Kd.R_lt (chR HO419))) (Kd.R_lt (chR HO422))) (below_size (chB HB))); have n5_ := Aside0.mk (below_step (chB HB) hb); clear HO413; clear HO416; clear HO419; clear HO422; clear HB; have HO413 := n0_; have HO416 := n1_; have HO419 := n2_; have HO422 := n3_; have HO425 := n4_; have HB := n5_; clear n0_ n1_ n2_ n3_ n4_ n5_; (try clear hb); (try clear hb2); (try clear hk); (try clear hi); (try clear ho0)) | ((with_reducible refine gate_callee (f := 14) rfl ?_); refine goesL_ (some 30) rfl rfl Try.func14 (by kernel_rfl) rfl #[.slice A2 l2.length c2] rfl (by (try simp only [List.map_toArray, List.map_cons, List.map_nil]); first | done | rfl | (simp only [List.length_drop, List.length_take]; rfl)) ?_; (with_reducible refine (spliceryref41_Picks.calls k _ _ l2 t426 _ ?side1 ?side2 A11.out).mono ?_); (case side1 => repeat (first | exact (Kd.C_below HR2.out HB.out) | (with_reducible refine Kd.C_alloc ?_ _) | (with_reducible refine Kd.C_drewN ?_ _) | (with_reducible refine Kd.C_drew ?_))); (case side2 => exact HC2.out); rintro e w23 ⟨v427, rfl, ho0, hb⟩; refine ⟨_, rfl, ?_⟩; have n0_ := Aside0.mk (Kd.N_elder' (chN HO413) (Kd.R_base ho0) hb); have n1_ := Aside0.mk (Kd.R_elder' (chR HO416) (Kd.R_base ho0) hb); have n2_ := Aside0.mk (Kd.R_elder' (chR HO419) (Kd.R_base ho0) hb); have n3_ := Aside0.mk (Kd.R_elder' (chR HO422) (Kd.R_base ho0) hb); have n4_ := Aside0.mk (Kd.R_elder' (chR HO425) (Kd.R_base ho0) hb); have n5_ := Aside0.mk (Kd.R_lower (Kd.R_new' (Kd.R_new' (Kd.R_new' (Kd.R_new' ho0 (Kd.R_lt (chR HO416))) (Kd.R_lt (chR HO419))) (Kd.R_lt (chR HO422))) (Kd.R_lt (chR HO425))) (below_size (chB HB))); have n6_ := Aside0.mk (below_step (chB HB) hb); clear HO413; clear HO416; clear HO419; clear HO422; clear HO425; clear HB; have HO413 := n0_; have HO416 := n1_; have HO419 := n2_; have HO422 := n3_; have HO425 := n4_; have HO428 := n5_; have HB := n6_; clear n0_ n1_ n2_ n3_ n4_ n5_ n6_; (try clear hb); (try clear hb2); (try clear hk); (try clear hi); (try clear ho0)) | ((with_reducible refine gate_dst (N := 31) rfl ?_); refine Kd.R_lit (Kd.int .i64) _ 3 ?hg (N := 31) ?hd (xs := ([] : List Int)) (inner := []) (ok := fun _ => True) (okp := fun _ => True) ?hr ?hp (fun _ hk => hk) trivial (Below.refl _ _) (Nat.le_refl _) (by simp) ?_; (case hd => rfl); (case hg => rfl); (case hr => first | (go_simp; done) | (go_simp; rfl)); (case hp => exact (Reps.none _ _)); intro v430 w24 ho25 hb hg_ hnew_; clear hg_ hnew_; (first | rw [← Ny429.out] at ho25 | (simp only [Int.reduceToNat] at ho25; rw [← Ny429.out] at ho25)); have n0_ := Aside0.mk (Kd.N_elder' (chN HO413) (Kd.R_base ho25) hb); have n1_ := Aside0.mk (Kd.R_elder' (chR HO416) (Kd.R_base ho25) hb); have n2_ := Aside0.mk (Kd.R_elder' (chR HO419) (Kd.R_base ho25) hb); have n3_ := Aside0.mk (Kd.R_elder' (chR HO422) (Kd.R_base ho25) hb); have n4_ := Aside0.mk (Kd.R_elder' (chR HO425) (Kd.R_base ho25) hb); have n5_ := Aside0.mk (Kd.R_elder' (chR HO428) (Kd.R_base ho25) hb); have n6_ := Aside0.mk (Kd.R_lower (Kd.R_new' (Kd.R_new' (Kd.R_new' (Kd.R_new' (Kd.R_new' ho25 (Kd.R_lt (chR HO416))) (Kd.R_lt (chR HO419))) (Kd.R_lt (chR HO422))) (Kd.R_lt (chR HO425))) (Kd.R_lt (chR HO428))) (below_size (chB HB))); have n7_ := Aside0.mk (below_step (chB HB) hb); clear HO413; clear HO416; clear HO419; clear HO422; clear HO425; clear HO428; clear HB; have HO413 := n0_; have HO416 := n1_; have HO419 := n2_; have HO422 := n3_; have HO425 := n4_; have HO428 := n5_; have HO431 := n6_; have HB := n7_; clear n0_ n1_ n2_ n3_ n4_ n5_ n6_ n7_; clear hb ho25; obtain ⟨Ao27, co27, eo27⟩ := Kd.R_slice HO419.out; subst eo27) | ((with_reducible refine gate_builtin (b := .append) (xs := #[.tmp 31, .tmp 32]) rfl ?_); at_builtin; refine Kd.R_append_rows (Kd.int .i64) (w0 := w) w.heap.size rfl (.tmp 31) (.tmp 32) 22 3 (.int .i64 0) 8 rfl Try.underlying22 info3 rfl (by decide) (by omega) v430 y429 t417 _ _ _ (fun k_ => some k_ ≠ (.slice Ao18 t414.length co18 : Value).ownBlock ∧ some k_ ≠ (.slice Ao27 t417.length co27 : Value).ownBlock ∧ some k_ ≠ (.slice Ao21 t420.length co21 : Value).ownBlock ∧ some k_ ≠ (v424 : Value).ownBlock ∧ some k_ ≠ (v427 : Value).ownBlock) (fun _ => False) rfl rfl ?aO ?aR (fun _ _ h => h) (fun _ h => h.elim) ?aF ?aB ?aS ?aL ?_; (case aR => repeat (first | exact (Kd.R_reads' HO419.out).2.2 | (with_reducible refine Kd.C_alloc ?_ _) | (with_reducible refine Kd.C_drewN ?_ _) | (with_reducible refine Kd.C_drew ?_))); (case aB => exact (chB HB)); (case aF => exact (fun k_ hk => ⟨Kd.fresh' (Kd.R_lt (chR HO416)) k_ hk, Kd.fresh' (Kd.R_lt (chR HO419)) k_ hk, Kd.fresh' (Kd.R_lt (chR HO422)) k_ hk, Kd.fresh' (Kd.R_lt (chR HO425)) k_ hk, Kd.fresh' (Kd.R_lt (chR HO428)) k_ hk⟩)); (case aO => exact (by (with_reducible repeat (first | apply Kd.R_alloc | apply Kd.R_drewN | apply Kd.R_drew)); exact Kd.R_mono HO431.out (fun _ hk => ⟨hk.1.1.1.1.2, ⟨hk.1.1.1.2, ⟨hk.1.1.2, ⟨hk.1.2, hk.2⟩⟩⟩⟩))); (case aS => exact (below_size (chB HB))); (case aL => have := LMc12.out; omega); intro v433 w26 ho hb hg hat; rw [← Ny432.out] at ho; have n0_ := Aside0.mk (Kd.N_afterv (ok := (fun k_ => some k_ ≠ (.slice Ao18 t414.length co18 : Value).ownBlock ∧ some k_ ≠ (.slice Ao27 t417.length co27 : Value).ownBlock ∧ some k_ ≠ (.slice Ao21 t420.length co21 : Value).ownBlock ∧ some k_ ≠ (v424 : Value).ownBlock ∧ some k_ ≠ (v427 : Value).ownBlock)) (by (with_reducible repeat (first | apply Kd.N_alloc | apply Kd.N_drewN | apply Kd.N_drew)); exact Kd.N_mono HO413.out (fun _ hk => ⟨⟨hk.1.1.1.1.1.2, ⟨hk.1.1.1.1.2, ⟨hk.1.1.1.2, ⟨hk.1.1.2, hk.1.2⟩⟩⟩⟩, hk.2⟩)) hg hat); have n1_ := Aside0.mk (Kd.R_after (ok := (fun k_ => some k_ ≠ (.slice Ao27 t417.length co27 : Value).ownBlock ∧ some k_ ≠ (.slice Ao21 t420.length co21 : Value).ownBlock ∧ some k_ ≠ (v424 : Value).ownBlock ∧ some k_ ≠ (v427 : Value).ownBlock)) (by (with_reducible repeat (first | apply Kd.R_alloc | apply Kd.R_drewN | apply Kd.R_drew)); exact Kd.R_mono HO416.out (fun _ hk => ⟨⟨hk.1.1.1.1.2, ⟨hk.1.1.1.2, ⟨hk.1.1.2, hk.1.2⟩⟩⟩, hk.2⟩)) hg hat); have n2_ := Aside0.mk (Kd.R_after (ok := (fun k_ => some k_ ≠ (.slice Ao18 t414.length co18 : Value).ownBlock ∧ some k_ ≠ (.slice Ao21 t420.length co21 : Value).ownBlock ∧ some k_ ≠ (v424 : Value).ownBlock ∧ some k_ ≠ (v427 : Value).ownBlock)) (by (with_reducible repeat (first | apply Kd.R_alloc | apply Kd.R_drewN | apply Kd.R_drew)); exact Kd.R_mono HO419.out (fun _ hk => ⟨⟨hk.1.1.1.1.2, ⟨hk.1.1.1.2, ⟨hk.1.1.2, hk.1.2⟩⟩⟩, hk.2⟩)) hg hat); have n3_ := Aside0.mk (Kd.R_after (ok := (fun k_ => some k_ ≠ (.slice Ao18 t414.length co18 : Value).ownBlock ∧ some k_ ≠ (.slice Ao27 t417.length co27 : Value).ownBlock ∧ some k_ ≠ (v424 : Value).ownBlock ∧ some k_ ≠ (v427 : Value).ownBlock)) (by (with_reducible repeat (first | apply Kd.R_alloc | apply Kd.R_drewN | apply Kd.R_drew)); exact Kd.R_mono HO422.out (fun _ hk => ⟨⟨hk.1.1.1.1.2, ⟨hk.1.1.1.2, ⟨hk.1.1.2, hk.1.2⟩⟩⟩, hk.2⟩)) hg hat); have n4_ := Aside0.mk (Kd.R_after (ok := (fun k_ => some k_ ≠ (.slice Ao18 t414.length co18 : Value).ownBlock ∧ some k_ ≠ (.slice Ao27 t417.length co27 : Value).ownBlock ∧ some k_ ≠ (.slice Ao21 t420.length co21 : Value).ownBlock ∧ some k_ ≠ (v427 : Value).ownBlock)) (by (with_reducible repeat (first | apply Kd.R_alloc | apply Kd.R_drewN | apply Kd.R_drew)); exact Kd.R_mono HO425.out (fun _ hk => ⟨⟨hk.1.1.1.1.2, ⟨hk.1.1.1.2, ⟨hk.1.1.2, hk.1.2⟩⟩⟩, hk.2⟩)) hg hat); have n5_ := Aside0.mk (Kd.R_after (ok := (fun k_ => some k_ ≠ (.slice Ao18 t414.length co18 : Value).ownBlock ∧ some k_ ≠ (.slice Ao27 t417.length co27 : Value).ownBlock ∧ some k_ ≠ (.slice Ao21 t420.length co21 : Value).ownBlock ∧ some k_ ≠ (v424 : Value).ownBlock)) (by (with_reducible repeat (first | apply Kd.R_alloc | apply Kd.R_drewN | apply Kd.R_drew)); exact Kd.R_mono HO428.out (fun _ hk => ⟨⟨hk.1.1.1.1.2, ⟨hk.1.1.1.2, ⟨hk.1.1.2, hk.1.2⟩⟩⟩, hk.2⟩)) hg hat); have n6_ := Aside0.mk (hb); have n7_ := Aside0.mk (ho); clear HO413; clear HO416; clear HO419; clear HO422; clear HO425; clear HO428; clear HB; clear HO431; have HO413 := n0_; have HO416 := n1_; have HO419 := n2_; have HO422 := n3_; have HO425 := n4_; have HO428 := n5_; have HB := n6_; have HO434 := n7_; clear n0_ n1_ n2_ n3_ n4_ n5_ n6_ n7_; clear ho hb hg hat) | ((with_reducible refine gate_builtin (b := .append) (xs := #[.tmp 33, .tmp 35]) rfl ?_); at_builtin; refine Kd.R_append (Kd.int .i64) (w0 := w) w.heap.size rfl (.tmp 33) (.tmp 35) 22 3 (.int .i64 0) 8 rfl Try.underlying22 info3 rfl (by decide) (by omega) v433 y432 a4 [.int .i64 a4] (fun k_ => some k_ ≠ (.slice Ao18 t414.length co18 : Value).ownBlock ∧ some k_ ≠ (.slice Ao27 t417.length co27 : Value).ownBlock ∧ some k_ ≠ (.slice Ao21 t420.length co21 : Value).ownBlock ∧ some k_ ≠ (v424 : Value).ownBlock ∧ some k_ ≠ (v427 : Value).ownBlock) (fun _ => False) rfl rfl ?aP (fun _ hk => hk.elim) ?aF ?aO ?aB ?aS ?aL ?_; (case aP => exact rfl); (case aB => exact (chB HB)); (case aF => exact (fun k_ hk => ⟨Kd.fresh' (Kd.R_lt (chR HO416)) k_ hk, Kd.fresh' (Kd.R_lt (chR HO419)) k_ hk, Kd.fresh' (Kd.R_lt (chR HO422)) k_ hk, Kd.fresh' (Kd.R_lt (chR HO425)) k_ hk, Kd.fresh' (Kd.R_lt (chR HO428)) k_ hk⟩)); (case aO => exact (chR HO434)); (case aS => exact (below_size (chB HB))); (case aL => have := LMc13.out; omega); intro v436 w28 ho hb hg hat; rw [← Ny435.out] at ho; have n0_ := Aside0.mk (Kd.N_afterv (ok := (fun k_ => some k_ ≠ (.slice Ao18 t414.length co18 : Value).ownBlock ∧ some k_ ≠ (.slice Ao27 t417.length co27 : Value).ownBlock ∧ some k_ ≠ (.slice Ao21 t420.length co21 : Value).ownBlock ∧ some k_ ≠ (v424 : Value).ownBlock ∧ some k_ ≠ (v427 : Value).ownBlock)) (chN HO413) hg hat); have n1_ := Aside0.mk (Kd.R_after (ok := (fun k_ => some k_ ≠ (.slice Ao27 t417.length co27 : Value).ownBlock ∧ some k_ ≠ (.slice Ao21 t420.length co21 : Value).ownBlock ∧ some k_ ≠ (v424 : Value).ownBlock ∧ some k_ ≠ (v427 : Value).ownBlock)) (chR HO416) hg hat); have n2_ := Aside0.mk (Kd.R_after (ok := (fun k_ => some k_ ≠ (.slice Ao18 t414.length co18 : Value).ownBlock ∧ some k_ ≠ (.slice Ao21 t420.length co21 : Value).ownBlock ∧ some k_ ≠ (v424 : Value).ownBlock ∧ some k_ ≠ (v427 : Value).ownBlock)) (chR HO419) hg hat); have n3_ := Aside0.mk (Kd.R_after (ok := (fun k_ => some k_ ≠ (.slice Ao18 t414.length co18 : Value).ownBlock ∧ some k_ ≠ (.slice Ao27 t417.length co27 : Value).ownBlock ∧ some k_ ≠ (v424 : Value).ownBlock ∧ some k_ ≠ (v427 : Value).ownBlock)) (chR HO422) hg hat); have n4_ := Aside0.mk (Kd.R_after (ok := (fun k_ => some k_ ≠ (.slice Ao18 t414.length co18 : Value).ownBlock ∧ some k_ ≠ (.slice Ao27 t417.length co27 : Value).ownBlock ∧ some k_ ≠ (.slice Ao21 t420.length co21 : Value).ownBlock ∧ some k_ ≠ (v427 : Value).ownBlock)) (chR HO425) hg hat); have n5_ := Aside0.mk (Kd.R_after (ok := (fun k_ => some k_ ≠ (.slice Ao18 t414.length co18 : Value).ownBlock ∧ some k_ ≠ (.slice Ao27 t417.length co27 : Value).ownBlock ∧ some k_ ≠ (.slice Ao21 t420.length co21 : Value).ownBlock ∧ some k_ ≠ (v424 : Value).ownBlock)) (chR HO428) hg hat); have n6_ := Aside0.mk (hb); have n7_ := Aside0.mk (ho); clear HO413; clear HO416; clear HO419; clear HO422; clear HO425; clear HO428; clear HB; clear HO434; have HO413 := n0_; have HO416 := n1_; have HO419 := n2_; have HO422 := n3_; have HO425 := n4_; have HO428 := n5_; have HB := n6_; have HO437 := n7_; clear n0_ n1_ n2_ n3_ n4_ n5_ n6_ n7_; clear ho hb hg hat; obtain ⟨Ao29, co29, eo29⟩ := Kd.R_slice HO425.out; subst eo29; obtain ⟨Ao30, co30, eo30⟩ := Kd.R_slice HO428.out; subst eo30; obtain ⟨Ao31, co31, eo31⟩ := Kd.R_slice HO437.out; subst eo31) | ((with_reducible refine gate_dst (N := 37) rfl ?_); refine Kd.N_lit (Kd.slice 3 (Kd.int .i64)) _ 22 ?hg (N' := 37) ?hd (xs := ([t417, t423, t426, [], y435] : List (List Int))) (inner := [.slice Ao27 t417.length co27, .slice Ao29 t423.length co29, .slice Ao30 t426.length co30, .slice none 0 0, .slice Ao31 y435.length co31]) (ok := (fun k_ => some k_ ≠ (.slice Ao17 t411.length co17 : Value).ownBlock ∧ some k_ ≠ (.slice Ao18 t414.length co18 : Value).ownBlock ∧ some k_ ≠ (.slice Ao21 t420.length co21 : Value).ownBlock)) (okp := (fun k_ => some k_ ≠ (.slice Ao17 t411.length co17 : Value).ownBlock ∧ some k_ ≠ (.slice Ao18 t414.length co18 : Value).ownBlock ∧ some k_ ≠ (.slice Ao21 t420.length co21 : Value).ownBlock)) ?hr ?hp (fun _ hk => hk) ((show ∀ k_, w28.heap.size ≤ k_ → (fun k_ => some k_ ≠ (.slice Ao17 t411.length co17 : Value).ownBlock ∧ some k_ ≠ (.slice Ao18 t414.length co18 : Value).ownBlock ∧ some k_ ≠ (.slice Ao21 t420.length co21 : Value).ownBlock) k_ from fun k_ hk => ⟨Kd.fresh' (Kd.N_lt (chN HO413)) k_ hk, Kd.fresh' (Kd.R_lt (chR HO416)) k_ hk, Kd.fresh' (Kd.R_lt (chR HO422)) k_ hk⟩) _ (Nat.le_refl _)) (Below.refl _ _) (Nat.le_refl _) (by simp) ?_; (case hd => rfl); (case hg => rfl); (case hr => first | (go_simp; done) | (go_simp; rfl)); (case hp => exact (Reps.one (show Kd.FK (Kd.slice 3 (Kd.int .i64)) _ _ t417 [.slice Ao27 t417.length co27] from (Kd.FK_slice_mk (Kd.R_reads' (Kd.R_mono (ok' := (fun k_ => some k_ ≠ (.slice Ao17 t411.length co17 : Value).ownBlock ∧ some k_ ≠ (.slice Ao18 t414.length co18 : Value).ownBlock ∧ some k_ ≠ (.slice Ao21 t420.length co21 : Value).ownBlock)) (Kd.R_apart' (HO419.out) (Kd.N_typed HO413.out) (by decide)) (fun k_ hk => ⟨hk.2, ⟨hk.1.1.1, hk.1.1.2.1⟩⟩))).2.1 (Kd.R_F (Kd.R_mono (ok' := (fun k_ => some k_ ≠ (.slice Ao17 t411.length co17 : Value).ownBlock ∧ some k_ ≠ (.slice Ao18 t414.length co18 : Value).ownBlock ∧ some k_ ≠ (.slice Ao21 t420.length co21 : Value).ownBlock)) (Kd.R_apart' (HO419.out) (Kd.N_typed HO413.out) (by decide)) (fun k_ hk => ⟨hk.2, ⟨hk.1.1.1, hk.1.1.2.1⟩⟩))))) (Reps.one (show Kd.FK (Kd.slice 3 (Kd.int .i64)) _ _ t423 [.slice Ao29 t423.length co29] from (Kd.FK_slice_mk (Kd.R_reads' (Kd.R_mono (ok' := (fun k_ => some k_ ≠ (.slice Ao17 t411.length co17 : Value).ownBlock ∧ some k_ ≠ (.slice Ao18 t414.length co18 : Value).ownBlock ∧ some k_ ≠ (.slice Ao21 t420.length co21 : Value).ownBlock)) (Kd.R_apart' (HO425.out) (Kd.N_typed HO413.out) (by decide)) (fun k_ hk => ⟨hk.2, ⟨hk.1.1.1, hk.1.1.2.2.1⟩⟩))).2.1 (Kd.R_F (Kd.R_mono (ok' := (fun k_ => some k_ ≠ (.slice Ao17 t411.length co17 : Value).ownBlock ∧ some k_ ≠ (.slice Ao18 t414.length co18 : Value).ownBlock ∧ some k_ ≠ (.slice Ao21 t420.length co21 : Value).ownBlock)) (Kd.R_apart' (HO425.out) (Kd.N_typed HO413.out) (by decide)) (fun k_ hk => ⟨hk.2, ⟨hk.1.1.1, hk.1.1.2.2.1⟩⟩))))) (Reps.one (show Kd.FK (Kd.slice 3 (Kd.int .i64)) _ _ t426 [.slice Ao30 t426.length co30] from (Kd.FK_slice_mk (Kd.R_reads' (Kd.R_mono (ok' := (fun k_ => some k_ ≠ (.slice Ao17 t411.length co17 : Value).ownBlock ∧ some k_ ≠ (.slice Ao18 t414.length co18 : Value).ownBlock ∧ some k_ ≠ (.slice Ao21 t420.length co21 : Value).ownBlock)) (Kd.R_apart' (HO428.out) (Kd.N_typed HO413.out) (by decide)) (fun k_ hk => ⟨hk.2, ⟨hk.1.1.1, hk.1.1.2.2.1⟩⟩))).2.1 (Kd.R_F (Kd.R_mono (ok' := (fun k_ => some k_ ≠ (.slice Ao17 t411.length co17 : Value).ownBlock ∧ some k_ ≠ (.slice Ao18 t414.length co18 : Value).ownBlock ∧ some k_ ≠ (.slice Ao21 t420.length co21 : Value).ownBlock)) (Kd.R_apart' (HO428.out) (Kd.N_typed HO413.out) (by decide)) (fun k_ hk => ⟨hk.2, ⟨hk.1.1.1, hk.1.1.2.2.1⟩⟩))))) (Reps.one (show Kd.FK (Kd.slice 3 (Kd.int .i64)) _ _ [] [.slice none 0 0] from (Kd.FK_slice_mk (Nat.le_refl _) (Kd.F_nil _ _ _))) (Reps.one (show Kd.FK (Kd.slice 3 (Kd.int .i64)) _ _ y435 [.slice Ao31 y435.length co31] from (Kd.FK_slice_mk (Kd.R_reads' (Kd.R_mono (ok' := (fun k_ => some k_ ≠ (.slice Ao17 t411.length co17 : Value).ownBlock ∧ some k_ ≠ (.slice Ao18 t414.length co18 : Value).ownBlock ∧ some k_ ≠ (.slice Ao21 t420.length co21 : Value).ownBlock)) (Kd.R_apart' (HO437.out) (Kd.N_typed HO413.out) (by decide)) (fun k_ hk => ⟨hk.2, ⟨hk.1.1, hk.1.2.2.1⟩⟩))).2.1 (Kd.R_F (Kd.R_mono (ok' := (fun k_ => some k_ ≠ (.slice Ao17 t411.length co17 : Value).ownBlock ∧ some k_ ≠ (.slice Ao18 t414.length co18 : Value).ownBlock ∧ some k_ ≠ (.slice Ao21 t420.length co21 : Value).ownBlock)) (Kd.R_apart' (HO437.out) (Kd.N_typed HO413.out) (by decide)) (fun k_ hk => ⟨hk.2, ⟨hk.1.1, hk.1.2.2.1⟩⟩))))) (Reps.none _ _))))))); intro v439 w32 ho33 hb hg_ hnew_; clear hg_ hnew_; (first | rw [← Ny438.out] at ho33 | (simp only [Int.reduceToNat] at ho33; rw [← Ny438.out] at ho33)); have n0_ := Aside0.mk (Kd.N_elder' (chN HO413) (Kd.N_base ho33) hb); have n1_ := Aside0.mk (Kd.R_below (chR HO416) hb); have n2_ := Aside0.mk (Kd.R_below (chR HO419) hb); have n3_ := Aside0.mk (Kd.R_below (chR HO422) hb); have n4_ := Aside0.mk (Kd.N_lower ho33 (below_size (chB HB))); have n5_ := Aside0.mk (below_step (chB HB) hb); clear HO413; clear HO416; clear HO419; clear HO422; clear HB; clear HO425; clear HO428; clear HO437; have HO413 := n0_; have HO416 := n1_; have HO419 := n2_; have HO422 := n3_; have HO440 := n4_; have HB := n5_; clear n0_ n1_ n2_ n3_ n4_ n5_; clear hb ho33) | ((with_reducible refine gate_callee (f := 10) rfl ?_); refine goesL_ (some 41) rfl rfl Try.func10 (by kernel_rfl) rfl #[.slice Ao17 t411.length co17, .int .i64 a3, .int .i64 a4] rfl (by (try simp only [List.map_toArray, List.map_cons, List.map_nil]); first | done | rfl | (simp only [List.length_drop, List.length_take]; rfl)) ?_; (with_reducible refine (spliceryref41_Spoilt.calls k (fun k_ => ((some k_ ≠ (.slice Ao18 t414.length co18 : Value).ownBlock ∧ (some k_ ≠ (.slice Ao27 t417.length co27 : Value).ownBlock ∧ some k_ ≠ (.slice Ao21 t420.length co21 : Value).ownBlock)) ∧ some k_ ≠ (v439 : Value).ownBlock)) _ _ t411 a3 a4 t441 _ ?side1 A14.out).mono ?_); (case side1 => exact Kd.N_V ((Kd.N_mono HO413.out (fun _ hk => ⟨⟨hk.1.1.1, ⟨hk.1.1.2.1, hk.1.1.2.2.1⟩⟩, hk.2⟩)))); rintro e w34 ⟨v442, rfl, ho0, hb⟩; refine ⟨_, rfl, ?_⟩; have n0_ := Aside0.mk (Kd.N_below (chN HO413) hb); have n1_ := Aside0.mk (Kd.R_below (chR HO416) hb); have n2_ := Aside0.mk (Kd.R_below (chR HO419) hb); have n3_ := Aside0.mk (Kd.R_below (chR HO422) hb); have n4_ := Aside0.mk (Kd.N_below (chN HO440) hb); have n5_ := Aside0.mk (Kd.V_lower (Kd.V_mono (ok' := fun k_ => some k_ ≠ (.slice Ao18 t414.length co18 : Value).ownBlock ∧ some k_ ≠ (.slice Ao27 t417.length co27 : Value).ownBlock ∧ some k_ ≠ (.slice Ao21 t420.length co21 : Value).ownBlock ∧ some k_ ≠ (v439 : Value).ownBlock) ho0 (fun k_ hk_ => ⟨Or.elim hk_ (fun hs_ => hs_.1.1) (fun hn_ => (Kd.fresh' (Kd.R_lt (chR HO416)) k_ hn_)), Or.elim hk_ (fun hs_ => hs_.1.2.1) (fun hn_ => (Kd.fresh' (Kd.R_lt (chR HO419)) k_ hn_)), Or.elim hk_ (fun hs_ => hs_.1.2.2) (fun hn_ => (Kd.fresh' (Kd.R_lt (chR HO422)) k_ hn_)), Or.elim hk_ (fun hs_ => hs_.2) (fun hn_ => (Kd.fresh' (Kd.N_lt (chN HO440)) k_ hn_))⟩)) (below_size (chB HB))); have n6_ := Aside0.mk (below_step (chB HB) hb); clear HO413; clear HO416; clear HO419; clear HO422; clear HO440; clear HB; have HO413 := n0_; have HO416 := n1_; have HO419 := n2_; have HO422 := n3_; have HO440 := n4_; have HO443 := n5_; have HB := n6_; clear n0_ n1_ n2_ n3_ n4_ n5_ n6_; (try clear hb); (try clear hb2); (try clear hk); (try clear hi); (try clear ho0)))
   go_loopg [16] k (fun kq v16 w' => ∃ (x16_1 : Int), v16 = .int .i64 x16_1 ∧ Aside0 (splicerylaw41_LicenceChecks.l0 kq t411 t414 t417 y438 t441 x16_1 = some r) ∧ Aside0 (kq ≤ k) ∧ Aside0 (Kd.N k36 36 w' w.heap.size (fun k_ => some k_ ≠ ((.slice Ao18 t414.length co18) : Value).ownBlock ∧ some k_ ≠ ((.slice Ao27 t417.length co27) : Value).ownBlock ∧ some k_ ≠ (v439 : Value).ownBlock) (.slice Ao17 t411.length co17) t411) ∧ Aside0 (Kd.R (Kd.int .i64) 3 w' w.heap.size (fun k_ => some k_ ≠ ((.slice Ao27 t417.length co27) : Value).ownBlock) (.slice Ao18 t414.length co18) t414) ∧ Aside0 (Kd.R (Kd.int .i64) 3 w' w.heap.size (fun k_ => some k_ ≠ ((.slice Ao18 t414.length co18) : Value).ownBlock) (.slice Ao27 t417.length co27) t417) ∧ Aside0 (Kd.N (Kd.slice 3 (Kd.int .i64)) 22 w' w.heap.size (fun k_ => some k_ ≠ ((.slice Ao17 t411.length co17) : Value).ownBlock ∧ some k_ ≠ ((.slice Ao18 t414.length co18) : Value).ownBlock) v439 y438) ∧ Aside0 (Kd.V k36 36 w' w.heap.size (fun k_ => some k_ ≠ ((.slice Ao18 t414.length co18) : Value).ownBlock ∧ some k_ ≠ ((.slice Ao27 t417.length co27) : Value).ownBlock ∧ some k_ ≠ (v439 : Value).ownBlock) v442 t441) ∧ Aside0 (Below w.heap.size w w'))
   case atStart => exact ⟨(0), (by first | rfl | (simp; done) | (simp [*]; done)), H', ⟨Nat.le_refl _⟩, ⟨by (with_reducible repeat (first | apply Kd.N_alloc | apply Kd.N_drewN | apply Kd.N_drew)); exact Kd.N_mono HO413.out (fun _ hk => ⟨hk.1.1.1, ⟨hk.1.1.2.1, hk.2⟩⟩)⟩, ⟨by (with_reducible repeat (first | apply Kd.R_alloc | apply Kd.R_drewN | apply Kd.R_drew)); exact Kd.R_mono HO416.out (fun _ hk => hk.1.1)⟩, ⟨by (with_reducible repeat (first | apply Kd.R_alloc | apply Kd.R_drewN | apply Kd.R_drew)); exact Kd.R_mono HO419.out (fun _ hk => hk.1.1)⟩, ⟨by (with_reducible repeat (first | apply Kd.N_alloc | apply Kd.N_drewN | apply Kd.N_drew)); exact Kd.N_mono HO440.out (fun _ hk => ⟨hk.1, hk.2.1⟩)⟩, ⟨by (with_reducible repeat (first | apply Kd.V_alloc | apply Kd.V_drewN | apply Kd.V_drew)); exact Kd.V_mono HO443.out (fun _ hk => ⟨hk.1, ⟨hk.2.1, hk.2.2.2⟩⟩)⟩, ⟨chB HB⟩⟩
   case round =>
    clear H'
    try clear c1
    try clear c2
    try clear p2
    try clear c5
    try clear c9
    try clear c10
    try clear c12
    try clear c13
    try clear c14
    try clear c19
    try clear c20
    obtain ⟨x16_1, rfl, HA, HK1, HO_11, HO_12, HO_13, HO_14, HO_15, HB⟩ := hrel
    cases gk with
    | zero => exact absurd HA.out (by simp [splicerylaw41_LicenceChecks.l0])
    | succ k1 =>
     have H := HA.out
     clear HA
     simp only [splicerylaw41_LicenceChecks.l0] at H
     by_cases c35 : x16_1 < (y438.length : Int)
     ·rw [if_pos c35] at H
      have c35b0 : decide (x16_1 < (y438.length : Int)) = true := decide_eq_true c35
      clear c35
      by_cases c36 : 0 ≤ x16_1
      ·rw [if_pos c36] at H
       have c36b0 : decide (0 ≤ x16_1) = true := decide_eq_true c36
       clear c36
       replace H := Option.bind_eq_some_iff.mp H
       obtain ⟨t448, A370, H⟩ := H
       replace H : ((spliceryref41_Check.f k1 t411 t414 (rd_L4 y438 x16_1)).bind fun t450 => (if t448 = t450 then ((licence_Check.f k1 t441 t414 (rd_L4 y438 x16_1)).bind fun t452 => ((spliceryref41_Check.f k1 t441 t414 (rd_L4 y438 x16_1)).bind fun t454 => (if t452 = t454 then ((licence_Check.f k1 t411 (rd_L4 y438 x16_1) (rd_L4 y438 x16_1)).bind fun t457 => ((spliceryref41_Check.f k1 t411 (rd_L4 y438 x16_1) (rd_L4 y438 x16_1)).bind fun t460 => (if t457 = t460 then (splicerylaw41_LicenceChecks.l0 k1 t411 t414 t417 y438 t441 (wrap64 (x16_1 + 1))) else (some false)))) else (some false)))) else (some false))) = some r := H
       have A37 := Aside0.mk A370
       clear A370
       replace H := Option.bind_eq_some_iff.mp H
       obtain ⟨t450, A380, H⟩ := H
       replace H : (if t448 = t450 then ((licence_Check.f k1 t441 t414 (rd_L4 y438 x16_1)).bind fun t452 => ((spliceryref41_Check.f k1 t441 t414 (rd_L4 y438 x16_1)).bind fun t454 => (if t452 = t454 then ((licence_Check.f k1 t411 (rd_L4 y438 x16_1) (rd_L4 y438 x16_1)).bind fun t457 => ((spliceryref41_Check.f k1 t411 (rd_L4 y438 x16_1) (rd_L4 y438 x16_1)).bind fun t460 => (if t457 = t460 then (splicerylaw41_LicenceChecks.l0 k1 t411 t414 t417 y438 t441 (wrap64 (x16_1 + 1))) else (some false)))) else (some false)))) else (some false)) = some r := H
       have A38 := Aside0.mk A380
       clear A380
       by_cases c39 : t448 = t450
       ·rw [if_pos c39] at H
        have c39b0 : (t448 == t450) = true := beq_iff_eq.mpr c39
        have c39b1 : (t448 != t450) = false := bne_eq_false_iff_eq.mpr c39
        clear c39
        replace H := Option.bind_eq_some_iff.mp H
        obtain ⟨t452, A400, H⟩ := H
        replace H : ((spliceryref41_Check.f k1 t441 t414 (rd_L4 y438 x16_1)).bind fun t454 => (if t452 = t454 then ((licence_Check.f k1 t411 (rd_L4 y438 x16_1) (rd_L4 y438 x16_1)).bind fun t457 => ((spliceryref41_Check.f k1 t411 (rd_L4 y438 x16_1) (rd_L4 y438 x16_1)).bind fun t460 => (if t457 = t460 then (splicerylaw41_LicenceChecks.l0 k1 t411 t414 t417 y438 t441 (wrap64 (x16_1 + 1))) else (some false)))) else (some false))) = some r := H
        have A40 := Aside0.mk A400
        clear A400
        replace H := Option.bind_eq_some_iff.mp H
        obtain ⟨t454, A410, H⟩ := H
        replace H : (if t452 = t454 then ((licence_Check.f k1 t411 (rd_L4 y438 x16_1) (rd_L4 y438 x16_1)).bind fun t457 => ((spliceryref41_Check.f k1 t411 (rd_L4 y438 x16_1) (rd_L4 y438 x16_1)).bind fun t460 => (if t457 = t460 then (splicerylaw41_LicenceChecks.l0 k1 t411 t414 t417 y438 t441 (wrap64 (x16_1 + 1))) else (some false)))) else (some false)) = some r := H
        have A41 := Aside0.mk A410
        clear A410
        by_cases c42 : t452 = t454
        ·rw [if_pos c42] at H
         have c42b0 : (t452 == t454) = true := beq_iff_eq.mpr c42
         have c42b1 : (t452 != t454) = false := bne_eq_false_iff_eq.mpr c42
         clear c42
         replace H := Option.bind_eq_some_iff.mp H
         obtain ⟨t457, A430, H⟩ := H
         replace H : ((spliceryref41_Check.f k1 t411 (rd_L4 y438 x16_1) (rd_L4 y438 x16_1)).bind fun t460 => (if t457 = t460 then (splicerylaw41_LicenceChecks.l0 k1 t411 t414 t417 y438 t441 (wrap64 (x16_1 + 1))) else (some false))) = some r := H
         have A43 := Aside0.mk A430
         clear A430
         replace H := Option.bind_eq_some_iff.mp H
         obtain ⟨t460, A440, H⟩ := H
         replace H : (if t457 = t460 then (splicerylaw41_LicenceChecks.l0 k1 t411 t414 t417 y438 t441 (wrap64 (x16_1 + 1))) else (some false)) = some r := H
         have A44 := Aside0.mk A440
         clear A440
         by_cases c45 : t457 = t460
         ·rw [if_pos c45] at H
          have c45b0 : (t457 == t460) = true := beq_iff_eq.mpr c45
          have c45b1 : (t457 != t460) = false := bne_eq_false_iff_eq.mpr c45
          clear c45
          have H' := Aside0.mk H
          clear H
          obtain ⟨Ao46, co46, eo46⟩ := Kd.N_slice HO_14.out
          subst eo46
          try go_wp2
          have n0_ := Aside0.mk (Kd.N_drew HO_11.out)
          have n1_ := Aside0.mk (Kd.R_drew HO_12.out)
          have n2_ := Aside0.mk (Kd.R_drew HO_13.out)
          have n3_ := Aside0.mk (Kd.N_drew HO_14.out)
          have n4_ := Aside0.mk (Kd.V_drew HO_15.out)
          have n5_ := Aside0.mk (below_drew1 HB.out)
          clear HO_11
          clear HO_12
          clear HO_13
          clear HO_14
          clear HO_15
          clear HB
          have HO_11 := n0_
          have HO_12 := n1_
          have HO_13 := n2_
          have HO_14 := n3_
          have HO_15 := n4_
          have HB := n5_
          clear n0_ n1_ n2_ n3_ n4_ n5_
          have p447 : 0 ≤ (x16_1 : Int) := of_decide_eq_true (by first | (with_reducible assumption) | assumption)
          have q447 : x16_1 < (y438.length : Int) := of_decide_eq_true (by first | (with_reducible assumption) | assumption)
          obtain ⟨ad447, A447_0, c447_0, e447, hx447_0, hl447_0, hi447_0⟩ := at_L4 (Kd.N_reads' HO_14.out).2.2 x16_1 p447 q447
          cases e447
          obtain ⟨ce447, hce447, hMe447, hcc447⟩ := Kd.N_get HO_14.out [] x16_1 p447 (by first | exact q447 | exact of_decide_eq_true (by first | (with_reducible assumption) | assumption) | (have e_ := (Kd.N_reads' HO_14.out).1; omega))
          obtain ⟨ua447_0, uc447_0, rfl, ul447_0, ge447_0⟩ := Kd.FK_slice_open hMe447
          have hv447_0 := hcc447 0 _ rfl
          rw [Nat.add_zero, show ((Kd.slice 3 (Kd.int .i64))).sz = 1 from rfl, Nat.mul_one] at hv447_0
          replace hv447_0 := Option.some.inj (hv447_0.symm.trans hx447_0)
          injection hv447_0 with hva_ hvn_ hvc_
          rw [hva_] at ge447_0
          rw [hvc_] at ul447_0
          have HL447_0 := Aside0.mk (show Kd.V (Kd.int .i64) 3 _ w.heap.size _ _ (rd_L4 y438 x16_1) from Kd.V_mk ul447_0 ge447_0)
          clear hva_ hvn_ hvc_ ge447_0 ul447_0
          clear hcc447 hce447
          have HR447_0 := Aside0.mk hi447_0
          have HC447_0 := Aside0.mk hl447_0
          clear hi447_0 hl447_0
          replace p447 := eq_true p447
          replace q447 := eq_true q447
          have p449 : 0 ≤ (x16_1 : Int) := of_decide_eq_true (by first | (with_reducible assumption) | assumption)
          have q449 : x16_1 < (y438.length : Int) := of_decide_eq_true (by first | (with_reducible assumption) | assumption)
          obtain ⟨ad449, A449_0, c449_0, e449, hx449_0, hl449_0, hi449_0⟩ := at_L4 (Kd.N_reads' HO_14.out).2.2 x16_1 p449 q449
          obtain rfl : ad447 = ad449 := (by injection e449)
          obtain ⟨ce449, hce449, hMe449, hcc449⟩ := Kd.N_get HO_14.out [] x16_1 p449 (by first | exact q449 | exact of_decide_eq_true (by first | (with_reducible assumption) | assumption) | (have e_ := (Kd.N_reads' HO_14.out).1; omega))
          obtain ⟨ua449_0, uc449_0, rfl, ul449_0, ge449_0⟩ := Kd.FK_slice_open hMe449
          have hv449_0 := hcc449 0 _ rfl
          rw [Nat.add_zero, show ((Kd.slice 3 (Kd.int .i64))).sz = 1 from rfl, Nat.mul_one] at hv449_0
          replace hv449_0 := Option.some.inj (hv449_0.symm.trans hx449_0)
          injection hv449_0 with hva_ hvn_ hvc_
          rw [hva_] at ge449_0
          rw [hvc_] at ul449_0
          have HL449_0 := Aside0.mk (show Kd.V (Kd.int .i64) 3 _ w.heap.size _ _ (rd_L4 y438 x16_1) from Kd.V_mk ul449_0 ge449_0)
          clear hva_ hvn_ hvc_ ge449_0 ul449_0
          clear hcc449 hce449
          have HR449_0 := Aside0.mk hi449_0
          have HC449_0 := Aside0.mk hl449_0
          clear hi449_0 hl449_0
          replace p449 := eq_true p449
          replace q449 := eq_true q449
          have ea_ := Option.some.inj (hx447_0.symm.trans hx449_0)
          injection ea_ with ea_ en_ ec_
          subst ea_
          subst ec_
          clear en_
          have p451 : 0 ≤ (x16_1 : Int) := of_decide_eq_true (by first | (with_reducible assumption) | assumption)
          have q451 : x16_1 < (y438.length : Int) := of_decide_eq_true (by first | (with_reducible assumption) | assumption)
          obtain ⟨ad451, A451_0, c451_0, e451, hx451_0, hl451_0, hi451_0⟩ := at_L4 (Kd.N_reads' HO_14.out).2.2 x16_1 p451 q451
          obtain rfl : ad447 = ad451 := (by injection e451)
          obtain ⟨ce451, hce451, hMe451, hcc451⟩ := Kd.N_get HO_14.out [] x16_1 p451 (by first | exact q451 | exact of_decide_eq_true (by first | (with_reducible assumption) | assumption) | (have e_ := (Kd.N_reads' HO_14.out).1; omega))
          obtain ⟨ua451_0, uc451_0, rfl, ul451_0, ge451_0⟩ := Kd.FK_slice_open hMe451
          have hv451_0 := hcc451 0 _ rfl
          rw [Nat.add_zero, show ((Kd.slice 3 (Kd.int .i64))).sz = 1 from rfl, Nat.mul_one] at hv451_0
          replace hv451_0 := Option.some.inj (hv451_0.symm.trans hx451_0)
          injection hv451_0 with hva_ hvn_ hvc_
          rw [hva_] at ge451_0
          rw [hvc_] at ul451_0
          have HL451_0 := Aside0.mk (show Kd.V (Kd.int .i64) 3 _ w.heap.size _ _ (rd_L4 y438 x16_1) from Kd.V_mk ul451_0 ge451_0)
          clear hva_ hvn_ hvc_ ge451_0 ul451_0
          clear hcc451 hce451
          have HR451_0 := Aside0.mk hi451_0
          have HC451_0 := Aside0.mk hl451_0
          clear hi451_0 hl451_0
          replace p451 := eq_true p451
          replace q451 := eq_true q451
          have ea_ := Option.some.inj (hx447_0.symm.trans hx451_0)
          injection ea_ with ea_ en_ ec_
          subst ea_
          subst ec_
          clear en_
          have p453 : 0 ≤ (x16_1 : Int) := of_decide_eq_true (by first | (with_reducible assumption) | assumption)
          have q453 : x16_1 < (y438.length : Int) := of_decide_eq_true (by first | (with_reducible assumption) | assumption)
          obtain ⟨ad453, A453_0, c453_0, e453, hx453_0, hl453_0, hi453_0⟩ := at_L4 (Kd.N_reads' HO_14.out).2.2 x16_1 p453 q453
          obtain rfl : ad447 = ad453 := (by injection e453)
          obtain ⟨ce453, hce453, hMe453, hcc453⟩ := Kd.N_get HO_14.out [] x16_1 p453 (by first | exact q453 | exact of_decide_eq_true (by first | (with_reducible assumption) | assumption) | (have e_ := (Kd.N_reads' HO_14.out).1; omega))
          obtain ⟨ua453_0, uc453_0, rfl, ul453_0, ge453_0⟩ := Kd.FK_slice_open hMe453
          have hv453_0 := hcc453 0 _ rfl
          rw [Nat.add_zero, show ((Kd.slice 3 (Kd.int .i64))).sz = 1 from rfl, Nat.mul_one] at hv453_0
          replace hv453_0 := Option.some.inj (hv453_0.symm.trans hx453_0)
          injection hv453_0 with hva_ hvn_ hvc_
          rw [hva_] at ge453_0
          rw [hvc_] at ul453_0
          have HL453_0 := Aside0.mk (show Kd.V (Kd.int .i64) 3 _ w.heap.size _ _ (rd_L4 y438 x16_1) from Kd.V_mk ul453_0 ge453_0)
          clear hva_ hvn_ hvc_ ge453_0 ul453_0
          clear hcc453 hce453
          have HR453_0 := Aside0.mk hi453_0
          have HC453_0 := Aside0.mk hl453_0
          clear hi453_0 hl453_0
          replace p453 := eq_true p453
          replace q453 := eq_true q453
          have ea_ := Option.some.inj (hx447_0.symm.trans hx453_0)
          injection ea_ with ea_ en_ ec_
          subst ea_
          subst ec_
          clear en_
          have p455 : 0 ≤ (x16_1 : Int) := of_decide_eq_true (by first | (with_reducible assumption) | assumption)
          have q455 : x16_1 < (y438.length : Int) := of_decide_eq_true (by first | (with_reducible assumption) | assumption)
          obtain ⟨ad455, A455_0, c455_0, e455, hx455_0, hl455_0, hi455_0⟩ := at_L4 (Kd.N_reads' HO_14.out).2.2 x16_1 p455 q455
          obtain rfl : ad447 = ad455 := (by injection e455)
          obtain ⟨ce455, hce455, hMe455, hcc455⟩ := Kd.N_get HO_14.out [] x16_1 p455 (by first | exact q455 | exact of_decide_eq_true (by first | (with_reducible assumption) | assumption) | (have e_ := (Kd.N_reads' HO_14.out).1; omega))
          obtain ⟨ua455_0, uc455_0, rfl, ul455_0, ge455_0⟩ := Kd.FK_slice_open hMe455
          have hv455_0 := hcc455 0 _ rfl
          rw [Nat.add_zero, show ((Kd.slice 3 (Kd.int .i64))).sz = 1 from rfl, Nat.mul_one] at hv455_0
          replace hv455_0 := Option.some.inj (hv455_0.symm.trans hx455_0)
          injection hv455_0 with hva_ hvn_ hvc_
          rw [hva_] at ge455_0
          rw [hvc_] at ul455_0
          have HL455_0 := Aside0.mk (show Kd.V (Kd.int .i64) 3 _ w.heap.size _ _ (rd_L4 y438 x16_1) from Kd.V_mk ul455_0 ge455_0)
          clear hva_ hvn_ hvc_ ge455_0 ul455_0
          clear hcc455 hce455
          have HR455_0 := Aside0.mk hi455_0
          have HC455_0 := Aside0.mk hl455_0
          clear hi455_0 hl455_0
          replace p455 := eq_true p455
          replace q455 := eq_true q455
          have ea_ := Option.some.inj (hx447_0.symm.trans hx455_0)
          injection ea_ with ea_ en_ ec_
          subst ea_
          subst ec_
          clear en_
          have p456 : 0 ≤ (x16_1 : Int) := of_decide_eq_true (by first | (with_reducible assumption) | assumption)
          have q456 : x16_1 < (y438.length : Int) := of_decide_eq_true (by first | (with_reducible assumption) | assumption)
          obtain ⟨ad456, A456_0, c456_0, e456, hx456_0, hl456_0, hi456_0⟩ := at_L4 (Kd.N_reads' HO_14.out).2.2 x16_1 p456 q456
          obtain rfl : ad447 = ad456 := (by injection e456)
          obtain ⟨ce456, hce456, hMe456, hcc456⟩ := Kd.N_get HO_14.out [] x16_1 p456 (by first | exact q456 | exact of_decide_eq_true (by first | (with_reducible assumption) | assumption) | (have e_ := (Kd.N_reads' HO_14.out).1; omega))
          obtain ⟨ua456_0, uc456_0, rfl, ul456_0, ge456_0⟩ := Kd.FK_slice_open hMe456
          have hv456_0 := hcc456 0 _ rfl
          rw [Nat.add_zero, show ((Kd.slice 3 (Kd.int .i64))).sz = 1 from rfl, Nat.mul_one] at hv456_0
          replace hv456_0 := Option.some.inj (hv456_0.symm.trans hx456_0)
          injection hv456_0 with hva_ hvn_ hvc_
          rw [hva_] at ge456_0
          rw [hvc_] at ul456_0
          have HL456_0 := Aside0.mk (show Kd.V (Kd.int .i64) 3 _ w.heap.size _ _ (rd_L4 y438 x16_1) from Kd.V_mk ul456_0 ge456_0)
          clear hva_ hvn_ hvc_ ge456_0 ul456_0
          clear hcc456 hce456
          have HR456_0 := Aside0.mk hi456_0
          have HC456_0 := Aside0.mk hl456_0
          clear hi456_0 hl456_0
          replace p456 := eq_true p456
          replace q456 := eq_true q456
          have ea_ := Option.some.inj (hx455_0.symm.trans hx456_0)
          injection ea_ with ea_ en_ ec_
          subst ea_
          subst ec_
          clear en_
          have p458 : 0 ≤ (x16_1 : Int) := of_decide_eq_true (by first | (with_reducible assumption) | assumption)
          have q458 : x16_1 < (y438.length : Int) := of_decide_eq_true (by first | (with_reducible assumption) | assumption)
          obtain ⟨ad458, A458_0, c458_0, e458, hx458_0, hl458_0, hi458_0⟩ := at_L4 (Kd.N_reads' HO_14.out).2.2 x16_1 p458 q458
          obtain rfl : ad447 = ad458 := (by injection e458)
          obtain ⟨ce458, hce458, hMe458, hcc458⟩ := Kd.N_get HO_14.out [] x16_1 p458 (by first | exact q458 | exact of_decide_eq_true (by first | (with_reducible assumption) | assumption) | (have e_ := (Kd.N_reads' HO_14.out).1; omega))
          obtain ⟨ua458_0, uc458_0, rfl, ul458_0, ge458_0⟩ := Kd.FK_slice_open hMe458
          have hv458_0 := hcc458 0 _ rfl
          rw [Nat.add_zero, show ((Kd.slice 3 (Kd.int .i64))).sz = 1 from rfl, Nat.mul_one] at hv458_0
          replace hv458_0 := Option.some.inj (hv458_0.symm.trans hx458_0)
          injection hv458_0 with hva_ hvn_ hvc_
          rw [hva_] at ge458_0
          rw [hvc_] at ul458_0
          have HL458_0 := Aside0.mk (show Kd.V (Kd.int .i64) 3 _ w.heap.size _ _ (rd_L4 y438 x16_1) from Kd.V_mk ul458_0 ge458_0)
          clear hva_ hvn_ hvc_ ge458_0 ul458_0
          clear hcc458 hce458
          have HR458_0 := Aside0.mk hi458_0
          have HC458_0 := Aside0.mk hl458_0
          clear hi458_0 hl458_0
          replace p458 := eq_true p458
          replace q458 := eq_true q458
          have ea_ := Option.some.inj (hx447_0.symm.trans hx458_0)
          injection ea_ with ea_ en_ ec_
          subst ea_
          subst ec_
          clear en_
          have p459 : 0 ≤ (x16_1 : Int) := of_decide_eq_true (by first | (with_reducible assumption) | assumption)
          have q459 : x16_1 < (y438.length : Int) := of_decide_eq_true (by first | (with_reducible assumption) | assumption)
          obtain ⟨ad459, A459_0, c459_0, e459, hx459_0, hl459_0, hi459_0⟩ := at_L4 (Kd.N_reads' HO_14.out).2.2 x16_1 p459 q459
          obtain rfl : ad447 = ad459 := (by injection e459)
          obtain ⟨ce459, hce459, hMe459, hcc459⟩ := Kd.N_get HO_14.out [] x16_1 p459 (by first | exact q459 | exact of_decide_eq_true (by first | (with_reducible assumption) | assumption) | (have e_ := (Kd.N_reads' HO_14.out).1; omega))
          obtain ⟨ua459_0, uc459_0, rfl, ul459_0, ge459_0⟩ := Kd.FK_slice_open hMe459
          have hv459_0 := hcc459 0 _ rfl
          rw [Nat.add_zero, show ((Kd.slice 3 (Kd.int .i64))).sz = 1 from rfl, Nat.mul_one] at hv459_0
          replace hv459_0 := Option.some.inj (hv459_0.symm.trans hx459_0)
          injection hv459_0 with hva_ hvn_ hvc_
          rw [hva_] at ge459_0
          rw [hvc_] at ul459_0
          have HL459_0 := Aside0.mk (show Kd.V (Kd.int .i64) 3 _ w.heap.size _ _ (rd_L4 y438 x16_1) from Kd.V_mk ul459_0 ge459_0)
          clear hva_ hvn_ hvc_ ge459_0 ul459_0
          clear hcc459 hce459
          have HR459_0 := Aside0.mk hi459_0
          have HC459_0 := Aside0.mk hl459_0
          clear hi459_0 hl459_0
          replace p459 := eq_true p459
          replace q459 := eq_true q459
          have ea_ := Option.some.inj (hx458_0.symm.trans hx459_0)
          injection ea_ with ea_ en_ ec_
          subst ea_
          subst ec_
          clear en_
          refine start_ (n := 55) (S := fun w' => w'.cell? (ad447.add (x16_1).toNat) = some (.slice A447_0 (rd_L4 y438 x16_1).length c447_0) ∧ w'.cell? (ad447.add (x16_1).toNat) = some (.slice A447_0 (rd_L4 y438 x16_1).length c447_0) ∧ w'.cell? (ad447.add (x16_1).toNat) = some (.slice A447_0 (rd_L4 y438 x16_1).length c447_0) ∧ w'.cell? (ad447.add (x16_1).toNat) = some (.slice A447_0 (rd_L4 y438 x16_1).length c447_0) ∧ w'.cell? (ad447.add (x16_1).toNat) = some (.slice A447_0 (rd_L4 y438 x16_1).length c447_0) ∧ w'.cell? (ad447.add (x16_1).toNat) = some (.slice A447_0 (rd_L4 y438 x16_1).length c447_0) ∧ w'.cell? (ad447.add (x16_1).toNat) = some (.slice A447_0 (rd_L4 y438 x16_1).length c447_0) ∧ w'.cell? (ad447.add (x16_1).toNat) = some (.slice A447_0 (rd_L4 y438 x16_1).length c447_0)) (ds := []) #[false, false, false, false, false, false, false, false, false, false, false, false, false, false, false, false, false, false, false, false, false, false, false, false, false, false, false, false, false, false, false, false, false, false, false, false, false, false, false, false, false, false, false, false, false, false, false, false, false, false, false, false, false, false, false] (by kernel_rfl) rfl rfl ⟨hx447_0, hx449_0, hx451_0, hx453_0, hx455_0, hx456_0, hx458_0, hx459_0⟩ (fun hHeld => ?_); refine with_tabW splicerylaw41_LicenceChecks.tab9 splicerylaw41_LicenceChecks.bits9 (fun HT_ HW_ => ?_)
          generalize wr.drew = w47 at HO_11 HO_12 HO_13 HO_14 HO_15 HB HL447_0 HL449_0 HL451_0 HL453_0 HL455_0 HL456_0 HL458_0 HL459_0 HR447_0 HR449_0 HR451_0 HR453_0 HR455_0 HR456_0 HR458_0 HR459_0 hx447_0 hx449_0 hx451_0 hx453_0 hx455_0 hx456_0 hx458_0 hx459_0 hHeld ⊢
          refine pure_ (i := 0) (N := some 48) (v := ?_) (a' := ?_) #[true, false, false, false, false, false, false, false, false, false, false, false, false, false, false, false, false, false, false, false, false, false, false, false, false, false, false, false, false, false, false, false, false, false, false, false, false, false, false, false, false, false, false, false, false, false, false, false, false, false, false, false, false, false, false] rfl rfl (any_of HT_.out (by kernel_rfl)) (fun _ _ _ h => h) (Or.inl ⟨by rfl, ?_⟩) ?_ ?_
          rotate_left
          ·intro w'
           go_simp
           with_reducible rfl
          rotate_left
          ·simp only [Act.put, List.setIfInBounds_toArray, List.set_cons_zero, List.set_cons_succ, i64_w, i32_w]
           rfl
          refine pure_ (i := 1) (N := some 49) (v := ?_) (a' := ?_) #[true, true, false, false, false, false, false, false, false, false, false, false, false, false, false, false, false, false, false, false, false, false, false, false, false, false, false, false, false, false, false, false, false, false, false, false, false, false, false, false, false, false, false, false, false, false, false, false, false, false, false, false, false, false, false] rfl rfl (any_of HT_.out (by kernel_rfl)) (fun _ _ _ h => h) (Or.inl ⟨by rfl, ?_⟩) ?_ ?_
          rotate_left
          ·intro w'
           go_simp
           with_reducible rfl
          rotate_left
          ·simp only [Act.put, List.setIfInBounds_toArray, List.set_cons_zero, List.set_cons_succ, i64_w, i32_w]
           rfl
          refine pure_ (i := 2) (N := some 50) (v := ?_) (a' := ?_) #[true, true, true, false, false, false, false, false, false, false, false, false, false, false, false, false, false, false, false, false, false, false, false, false, false, false, false, false, false, false, false, false, false, false, false, false, false, false, false, false, false, false, false, false, false, false, false, false, false, false, false, false, false, false, false] rfl rfl (any_of HT_.out (by kernel_rfl)) (fun _ _ _ h => h) (Or.inl ⟨by rfl, ?_⟩) ?_ ?_
          rotate_left
          ·intro w'
           go_simp
           with_reducible rfl
          rotate_left
          ·simp only [Act.put, List.setIfInBounds_toArray, List.set_cons_zero, List.set_cons_succ, i64_w, i32_w]
           rfl
          refine pure_ (i := 3) (N := some 51) (v := ?_) (a' := ?_) #[true, true, true, true, false, false, false, false, false, false, false, false, false, false, false, false, false, false, false, false, false, false, false, false, false, false, false, false, false, false, false, false, false, false, false, false, false, false, false, false, false, false, false, false, false, false, false, false, false, false, false, false, false, false, false] rfl rfl (any_of HT_.out (by kernel_rfl)) (fun _ _ _ h => h) (Or.inl ⟨by rfl, ?_⟩) ?_ ?_
          rotate_left
          ·intro w'
           go_simp
           with_reducible rfl
          rotate_left
          ·simp only [Act.put, List.setIfInBounds_toArray, List.set_cons_zero, List.set_cons_succ, i64_w, i32_w]
           rfl
          refine pure_ (i := 4) (N := some 52) (v := ?_) (a' := ?_) #[true, true, true, true, true, false, false, false, false, false, false, false, false, false, false, false, false, false, false, false, false, false, false, false, false, false, false, false, false, false, false, false, false, false, false, false, false, false, false, false, false, false, false, false, false, false, false, false, false, false, false, false, false, false, false] rfl rfl (any_of HT_.out (by kernel_rfl)) (fun _ _ _ h => h) (Or.inl ⟨by rfl, ?_⟩) ?_ ?_
          rotate_left
          ·intro w'
           go_simp
           with_reducible rfl
          rotate_left
          ·simp only [Act.put, List.setIfInBounds_toArray, List.set_cons_zero, List.set_cons_succ, i64_w, i32_w]
           rfl
          refine pure_ (i := 7) (N := some 55) (v := ?_) (a' := ?_) #[true, true, true, true, true, false, false, true, false, false, false, false, false, false, false, false, false, false, false, false, false, false, false, false, false, false, false, false, false, false, false, false, false, false, false, false, false, false, false, false, false, false, false, false, false, false, false, false, false, false, false, false, false, false, false] rfl rfl (any_of HT_.out (by kernel_rfl)) (fun _ _ _ h => h) (Or.inl ⟨by rfl, ?_⟩) ?_ ?_
          rotate_left
          ·intro w'
           go_simp
           with_reducible rfl
          rotate_left
          ·simp only [Act.put, List.setIfInBounds_toArray, List.set_cons_zero, List.set_cons_succ, i64_w, i32_w]
           rfl
          refine pure_ (i := 8) (N := some 56) (v := ?_) (a' := ?_) #[true, true, true, true, true, false, false, true, true, false, false, false, false, false, false, false, false, false, false, false, false, false, false, false, false, false, false, false, false, false, false, false, false, false, false, false, false, false, false, false, false, false, false, false, false, false, false, false, false, false, false, false, false, false, false] rfl rfl (any_of HT_.out (by kernel_rfl)) (fun _ _ _ h => h) (Or.inl ⟨by rfl, ?_⟩) ?_ ?_
          rotate_left
          ·intro w'
           go_simp
           with_reducible rfl
          rotate_left
          ·simp only [Act.put, List.setIfInBounds_toArray, List.set_cons_zero, List.set_cons_succ, i64_w, i32_w]
           rfl
          refine pure_ (i := 9) (N := some 57) (v := ?_) (a' := ?_) #[true, true, true, true, true, false, false, true, true, true, false, false, false, false, false, false, false, false, false, false, false, false, false, false, false, false, false, false, false, false, false, false, false, false, false, false, false, false, false, false, false, false, false, false, false, false, false, false, false, false, false, false, false, false, false] rfl rfl (any_of HT_.out (by kernel_rfl)) (fun _ _ _ h => h) (Or.inl ⟨by rfl, ?_⟩) ?_ ?_
          rotate_left
          ·intro w'
           go_simp
           with_reducible rfl
          rotate_left
          ·simp only [Act.put, List.setIfInBounds_toArray, List.set_cons_zero, List.set_cons_succ, i64_w, i32_w]
           rfl
          refine pure_ (i := 10) (N := some 58) (v := ?_) (a' := ?_) #[true, true, true, true, true, false, false, true, true, true, true, false, false, false, false, false, false, false, false, false, false, false, false, false, false, false, false, false, false, false, false, false, false, false, false, false, false, false, false, false, false, false, false, false, false, false, false, false, false, false, false, false, false, false, false] rfl rfl (any_of HT_.out (by kernel_rfl)) (fun _ _ _ h => h) (Or.inl ⟨by rfl, ?_⟩) ?_ ?_
          rotate_left
          ·intro w'
           go_simp
           with_reducible rfl
          rotate_left
          ·simp only [Act.put, List.setIfInBounds_toArray, List.set_cons_zero, List.set_cons_succ, i64_w, i32_w]
           rfl
          refine pure_ (i := 11) (N := some 59) (v := ?_) (a' := ?_) #[true, true, true, true, true, false, false, true, true, true, true, true, false, false, false, false, false, false, false, false, false, false, false, false, false, false, false, false, false, false, false, false, false, false, false, false, false, false, false, false, false, false, false, false, false, false, false, false, false, false, false, false, false, false, false] rfl rfl (any_of HT_.out (by kernel_rfl)) (fun _ _ _ h => h) (Or.inl ⟨by rfl, ?_⟩) ?_ ?_
          rotate_left
          ·intro w'
           go_simp
           with_reducible rfl
          rotate_left
          ·simp only [Act.put, List.setIfInBounds_toArray, List.set_cons_zero, List.set_cons_succ, i64_w, i32_w]
           rfl
          refine take_ (i := 5) (N := some 53) (v := ?_) (a' := ?_) #[true, true, true, true, true, true, false, true, true, true, true, true, false, false, false, false, false, false, false, false, false, false, false, false, false, false, false, false, false, false, false, false, false, false, false, false, false, false, false, false, false, false, false, false, false, false, false, false, false, false, false, false, false, false, false] rfl rfl (take_ofW HT_.out HW_.out (by kernel_rfl)) (fun _ _ _ h => h) (Or.inl ⟨by rfl, ?_⟩) hHeld ?_ ?_
          rotate_left
          ·rintro w' ⟨s0, s1, s2, s3, s4, s5, s6, s7⟩
           go_simp
           with_reducible rfl
          rotate_left
          ·simp only [Act.put, List.setIfInBounds_toArray, List.set_cons_zero, List.set_cons_succ, i64_w, i32_w]
           rfl
          refine take_ (i := 12) (N := some 60) (v := ?_) (a' := ?_) #[true, true, true, true, true, true, false, true, true, true, true, true, true, false, false, false, false, false, false, false, false, false, false, false, false, false, false, false, false, false, false, false, false, false, false, false, false, false, false, false, false, false, false, false, false, false, false, false, false, false, false, false, false, false, false] rfl rfl (take_ofW HT_.out HW_.out (by kernel_rfl)) (fun _ _ _ h => h) (Or.inl ⟨by rfl, ?_⟩) hHeld ?_ ?_
          rotate_left
          ·rintro w' ⟨s0, s1, s2, s3, s4, s5, s6, s7⟩
           go_simp
           with_reducible rfl
          rotate_left
          ·simp only [Act.put, List.setIfInBounds_toArray, List.set_cons_zero, List.set_cons_succ, i64_w, i32_w]
           rfl
          refine one_ (i := 6) (N := some 54) #[true, true, true, true, true, true, true, true, true, true, true, true, true, false, false, false, false, false, false, false, false, false, false, false, false, false, false, false, false, false, false, false, false, false, false, false, false, false, false, false, false, false, false, false, false, false, false, false, false, false, false, false, false, false, false] rfl rfl (one_of HT_.out (by kernel_rfl)) (by decide) (fun K hK => ?_)
          refine goes_ Try.func21 (by kernel_rfl) rfl #[.slice Ao17 t411.length co17, .slice Ao18 t414.length co18, .slice A447_0 (rd_L4 y438 x16_1).length c447_0] (by rfl) rfl rfl (by (try simp only [List.map_toArray, List.map_cons, List.map_nil]); first | done | rfl | (simp only [List.length_drop, List.length_take]; rfl)) ?_
          with_reducible refine (licence_Check.calls k1 _ _ t411 _ _ t414 (fun k_ => ((some k_ ≠ (.slice Ao17 t411.length co17 : Value).ownBlock ∧ some k_ ≠ (.slice Ao18 t414.length co18 : Value).ownBlock) ∧ some k_ ≠ (.slice (some ad447) y438.length co46 : Value).ownBlock)) _ _ (rd_L4 y438 x16_1) t448 _ ?side1 ?side2 ?side3 ?side4 ?side5 A37.out).mono ?_
          (case side1 => repeat (first | exact (Kd.N_reads' HO_11.out).2.2 | (with_reducible refine Kd.C_alloc ?_ _) | (with_reducible refine Kd.C_drewN ?_ _) | (with_reducible refine Kd.C_drew ?_)))
          (case side2 => exact (Kd.N_reads' HO_11.out).2.1)
          (case side3 => repeat (first | exact (Kd.R_reads' HO_12.out).2.2 | (with_reducible refine Kd.C_alloc ?_ _) | (with_reducible refine Kd.C_drewN ?_ _) | (with_reducible refine Kd.C_drew ?_)))
          (case side4 => exact (Kd.R_reads' HO_12.out).2.1)
          (case side5 => exact HL447_0.out)
          rintro e w48 ⟨rfl, hb⟩
          have HS0_ := (hb.cell (World.block_lt_of_cell? _ _ (hHeld.1))).trans (hHeld.1)
          have HS1_ := (hb.cell (World.block_lt_of_cell? _ _ (hHeld.2.1))).trans (hHeld.2.1)
          have HS2_ := (hb.cell (World.block_lt_of_cell? _ _ (hHeld.2.2.1))).trans (hHeld.2.2.1)
          have HS3_ := (hb.cell (World.block_lt_of_cell? _ _ (hHeld.2.2.2.1))).trans (hHeld.2.2.2.1)
          have HS4_ := (hb.cell (World.block_lt_of_cell? _ _ (hHeld.2.2.2.2.1))).trans (hHeld.2.2.2.2.1)
          have HS5_ := (hb.cell (World.block_lt_of_cell? _ _ (hHeld.2.2.2.2.2.1))).trans (hHeld.2.2.2.2.2.1)
          have HS6_ := (hb.cell (World.block_lt_of_cell? _ _ (hHeld.2.2.2.2.2.2.1))).trans (hHeld.2.2.2.2.2.2.1)
          have HS7_ := (hb.cell (World.block_lt_of_cell? _ _ (hHeld.2.2.2.2.2.2.2))).trans (hHeld.2.2.2.2.2.2.2)
          refine ⟨_, rfl, ?_⟩
          have n0_ := Aside0.mk (Kd.N_below (chN HO_11) hb)
          have n1_ := Aside0.mk (Kd.R_below (chR HO_12) hb)
          have n2_ := Aside0.mk (Kd.R_below (chR HO_13) hb)
          have n3_ := Aside0.mk (Kd.N_below (chN HO_14) hb)
          have n4_ := Aside0.mk (Kd.V_below (chV HO_15) hb)
          have n5_ := Aside0.mk (Kd.V_below (chV HL447_0) hb)
          have n6_ := Aside0.mk (Kd.V_below (chV HL449_0) hb)
          have n7_ := Aside0.mk (Kd.C_below (by repeat (first | (with_reducible exact HR447_0.out) | (with_reducible refine Kd.C_alloc ?_ _) | (with_reducible refine Kd.C_drewN ?_ _) | (with_reducible refine Kd.C_drew ?_) | exact HR447_0.out)) hb)
          have n8_ := Aside0.mk (Kd.C_below (by repeat (first | (with_reducible exact HR449_0.out) | (with_reducible refine Kd.C_alloc ?_ _) | (with_reducible refine Kd.C_drewN ?_ _) | (with_reducible refine Kd.C_drew ?_) | exact HR449_0.out)) hb)
          have n9_ := Aside0.mk (below_step (chB HB) hb)
          have mHL451_0_ := Aside0.mk (Kd.V_below (chV HL451_0) hb)
          clear HL451_0
          have HL451_0 := mHL451_0_
          clear mHL451_0_
          have mHL453_0_ := Aside0.mk (Kd.V_below (chV HL453_0) hb)
          clear HL453_0
          have HL453_0 := mHL453_0_
          clear mHL453_0_
          have mHL455_0_ := Aside0.mk (Kd.V_below (chV HL455_0) hb)
          clear HL455_0
          have HL455_0 := mHL455_0_
          clear mHL455_0_
          have mHL456_0_ := Aside0.mk (Kd.V_below (chV HL456_0) hb)
          clear HL456_0
          have HL456_0 := mHL456_0_
          clear mHL456_0_
          have mHL458_0_ := Aside0.mk (Kd.V_below (chV HL458_0) hb)
          clear HL458_0
          have HL458_0 := mHL458_0_
          clear mHL458_0_
          have mHL459_0_ := Aside0.mk (Kd.V_below (chV HL459_0) hb)
          clear HL459_0
          have HL459_0 := mHL459_0_
          clear mHL459_0_
          have mHR451_0_ := Aside0.mk (Kd.C_below (by repeat (first | (with_reducible exact HR451_0.out) | (with_reducible refine Kd.C_alloc ?_ _) | (with_reducible refine Kd.C_drewN ?_ _) | (with_reducible refine Kd.C_drew ?_) | exact HR451_0.out)) hb)
          clear HR451_0
          have HR451_0 := mHR451_0_
          clear mHR451_0_
          have mHR453_0_ := Aside0.mk (Kd.C_below (by repeat (first | (with_reducible exact HR453_0.out) | (with_reducible refine Kd.C_alloc ?_ _) | (with_reducible refine Kd.C_drewN ?_ _) | (with_reducible refine Kd.C_drew ?_) | exact HR453_0.out)) hb)
          clear HR453_0
          have HR453_0 := mHR453_0_
          clear mHR453_0_
          have mHR455_0_ := Aside0.mk (Kd.C_below (by repeat (first | (with_reducible exact HR455_0.out) | (with_reducible refine Kd.C_alloc ?_ _) | (with_reducible refine Kd.C_drewN ?_ _) | (with_reducible refine Kd.C_drew ?_) | exact HR455_0.out)) hb)
          clear HR455_0
          have HR455_0 := mHR455_0_
          clear mHR455_0_
          have mHR456_0_ := Aside0.mk (Kd.C_below (by repeat (first | (with_reducible exact HR456_0.out) | (with_reducible refine Kd.C_alloc ?_ _) | (with_reducible refine Kd.C_drewN ?_ _) | (with_reducible refine Kd.C_drew ?_) | exact HR456_0.out)) hb)
          clear HR456_0
          have HR456_0 := mHR456_0_
          clear mHR456_0_
          have mHR458_0_ := Aside0.mk (Kd.C_below (by repeat (first | (with_reducible exact HR458_0.out) | (with_reducible refine Kd.C_alloc ?_ _) | (with_reducible refine Kd.C_drewN ?_ _) | (with_reducible refine Kd.C_drew ?_) | exact HR458_0.out)) hb)
          clear HR458_0
          have HR458_0 := mHR458_0_
          clear mHR458_0_
          have mHR459_0_ := Aside0.mk (Kd.C_below (by repeat (first | (with_reducible exact HR459_0.out) | (with_reducible refine Kd.C_alloc ?_ _) | (with_reducible refine Kd.C_drewN ?_ _) | (with_reducible refine Kd.C_drew ?_) | exact HR459_0.out)) hb)
          clear HR459_0
          have HR459_0 := mHR459_0_
          clear mHR459_0_
          clear HO_11
          clear HO_12
          clear HO_13
          clear HO_14
          clear HO_15
          clear HL447_0
          clear HL449_0
          clear HR447_0
          clear HR449_0
          clear HB
          have HO_11 := n0_
          have HO_12 := n1_
          have HO_13 := n2_
          have HO_14 := n3_
          have HO_15 := n4_
          have HL447_0 := n5_
          have HL449_0 := n6_
          have HR447_0 := n7_
          have HR449_0 := n8_
          have HB := n9_
          clear n0_ n1_ n2_ n3_ n4_ n5_ n6_ n7_ n8_ n9_
          (try clear hb)
          (try clear hb2)
          (try clear hk)
          (try clear hi)
          refine hK.out _ _ ⟨HS0_, HS1_, HS2_, HS3_, HS4_, HS5_, HS6_, HS7_⟩ (fun hHeld => ?_)
          clear hK K
          refine norm_ (a' := ?_) ?_ ?_
          rotate_left
          ·show Act.put _ (some 54) _ = _
           simp only [Act.put, List.setIfInBounds_toArray, List.set_cons_zero, List.set_cons_succ, i64_w, i32_w]
           rfl
          refine one_ (i := 13) (N := some 61) #[true, true, true, true, true, true, true, true, true, true, true, true, true, true, false, false, false, false, false, false, false, false, false, false, false, false, false, false, false, false, false, false, false, false, false, false, false, false, false, false, false, false, false, false, false, false, false, false, false, false, false, false, false, false, false] rfl rfl (one_of HT_.out (by kernel_rfl)) (by decide) (fun K hK => ?_)
          refine goes_ Try.func22 (by kernel_rfl) rfl #[.slice Ao17 t411.length co17, .slice Ao18 t414.length co18, .slice A447_0 (rd_L4 y438 x16_1).length c447_0] (by rfl) rfl rfl (by (try simp only [List.map_toArray, List.map_cons, List.map_nil]); first | done | rfl | (simp only [List.length_drop, List.length_take]; rfl)) ?_
          with_reducible refine (spliceryref41_Check.calls k1 _ _ t411 _ _ t414 _ _ (rd_L4 y438 x16_1) t450 _ ?side1 ?side2 ?side3 ?side4 ?side5 ?side6 A38.out).mono ?_
          (case side1 => repeat (first | exact (Kd.N_reads' HO_11.out).2.2 | (with_reducible refine Kd.C_alloc ?_ _) | (with_reducible refine Kd.C_drewN ?_ _) | (with_reducible refine Kd.C_drew ?_)))
          (case side2 => exact (Kd.N_reads' HO_11.out).2.1)
          (case side3 => repeat (first | exact (Kd.R_reads' HO_12.out).2.2 | (with_reducible refine Kd.C_alloc ?_ _) | (with_reducible refine Kd.C_drewN ?_ _) | (with_reducible refine Kd.C_drew ?_)))
          (case side4 => exact (Kd.R_reads' HO_12.out).2.1)
          (case side5 => repeat (first | exact (by repeat (first | (with_reducible exact HR449_0.out) | (with_reducible refine Kd.C_alloc ?_ _) | (with_reducible refine Kd.C_drewN ?_ _) | (with_reducible refine Kd.C_drew ?_) | exact HR449_0.out)) | (with_reducible refine Kd.C_alloc ?_ _) | (with_reducible refine Kd.C_drewN ?_ _) | (with_reducible refine Kd.C_drew ?_)))
          (case side6 => exact HC449_0.out)
          rintro e w49 ⟨rfl, hb⟩
          have HS0_ := (hb.cell (World.block_lt_of_cell? _ _ (hHeld.1))).trans (hHeld.1)
          have HS1_ := (hb.cell (World.block_lt_of_cell? _ _ (hHeld.2.1))).trans (hHeld.2.1)
          have HS2_ := (hb.cell (World.block_lt_of_cell? _ _ (hHeld.2.2.1))).trans (hHeld.2.2.1)
          have HS3_ := (hb.cell (World.block_lt_of_cell? _ _ (hHeld.2.2.2.1))).trans (hHeld.2.2.2.1)
          have HS4_ := (hb.cell (World.block_lt_of_cell? _ _ (hHeld.2.2.2.2.1))).trans (hHeld.2.2.2.2.1)
          have HS5_ := (hb.cell (World.block_lt_of_cell? _ _ (hHeld.2.2.2.2.2.1))).trans (hHeld.2.2.2.2.2.1)
          have HS6_ := (hb.cell (World.block_lt_of_cell? _ _ (hHeld.2.2.2.2.2.2.1))).trans (hHeld.2.2.2.2.2.2.1)
          have HS7_ := (hb.cell (World.block_lt_of_cell? _ _ (hHeld.2.2.2.2.2.2.2))).trans (hHeld.2.2.2.2.2.2.2)
          refine ⟨_, rfl, ?_⟩
          have n0_ := Aside0.mk (Kd.N_below (chN HO_11) hb)
          have n1_ := Aside0.mk (Kd.R_below (chR HO_12) hb)
          have n2_ := Aside0.mk (Kd.R_below (chR HO_13) hb)
          have n3_ := Aside0.mk (Kd.N_below (chN HO_14) hb)
          have n4_ := Aside0.mk (Kd.V_below (chV HO_15) hb)
          have n5_ := Aside0.mk (Kd.V_below (chV HL447_0) hb)
          have n6_ := Aside0.mk (Kd.V_below (chV HL449_0) hb)
          have n7_ := Aside0.mk (Kd.C_below (by repeat (first | (with_reducible exact HR447_0.out) | (with_reducible refine Kd.C_alloc ?_ _) | (with_reducible refine Kd.C_drewN ?_ _) | (with_reducible refine Kd.C_drew ?_) | exact HR447_0.out)) hb)
          have n8_ := Aside0.mk (Kd.C_below (by repeat (first | (with_reducible exact HR449_0.out) | (with_reducible refine Kd.C_alloc ?_ _) | (with_reducible refine Kd.C_drewN ?_ _) | (with_reducible refine Kd.C_drew ?_) | exact HR449_0.out)) hb)
          have n9_ := Aside0.mk (below_step (chB HB) hb)
          have mHL451_0_ := Aside0.mk (Kd.V_below (chV HL451_0) hb)
          clear HL451_0
          have HL451_0 := mHL451_0_
          clear mHL451_0_
          have mHL453_0_ := Aside0.mk (Kd.V_below (chV HL453_0) hb)
          clear HL453_0
          have HL453_0 := mHL453_0_
          clear mHL453_0_
          have mHL455_0_ := Aside0.mk (Kd.V_below (chV HL455_0) hb)
          clear HL455_0
          have HL455_0 := mHL455_0_
          clear mHL455_0_
          have mHL456_0_ := Aside0.mk (Kd.V_below (chV HL456_0) hb)
          clear HL456_0
          have HL456_0 := mHL456_0_
          clear mHL456_0_
          have mHL458_0_ := Aside0.mk (Kd.V_below (chV HL458_0) hb)
          clear HL458_0
          have HL458_0 := mHL458_0_
          clear mHL458_0_
          have mHL459_0_ := Aside0.mk (Kd.V_below (chV HL459_0) hb)
          clear HL459_0
          have HL459_0 := mHL459_0_
          clear mHL459_0_
          have mHR451_0_ := Aside0.mk (Kd.C_below (by repeat (first | (with_reducible exact HR451_0.out) | (with_reducible refine Kd.C_alloc ?_ _) | (with_reducible refine Kd.C_drewN ?_ _) | (with_reducible refine Kd.C_drew ?_) | exact HR451_0.out)) hb)
          clear HR451_0
          have HR451_0 := mHR451_0_
          clear mHR451_0_
          have mHR453_0_ := Aside0.mk (Kd.C_below (by repeat (first | (with_reducible exact HR453_0.out) | (with_reducible refine Kd.C_alloc ?_ _) | (with_reducible refine Kd.C_drewN ?_ _) | (with_reducible refine Kd.C_drew ?_) | exact HR453_0.out)) hb)
          clear HR453_0
          have HR453_0 := mHR453_0_
          clear mHR453_0_
          have mHR455_0_ := Aside0.mk (Kd.C_below (by repeat (first | (with_reducible exact HR455_0.out) | (with_reducible refine Kd.C_alloc ?_ _) | (with_reducible refine Kd.C_drewN ?_ _) | (with_reducible refine Kd.C_drew ?_) | exact HR455_0.out)) hb)
          clear HR455_0
          have HR455_0 := mHR455_0_
          clear mHR455_0_
          have mHR456_0_ := Aside0.mk (Kd.C_below (by repeat (first | (with_reducible exact HR456_0.out) | (with_reducible refine Kd.C_alloc ?_ _) | (with_reducible refine Kd.C_drewN ?_ _) | (with_reducible refine Kd.C_drew ?_) | exact HR456_0.out)) hb)
          clear HR456_0
          have HR456_0 := mHR456_0_
          clear mHR456_0_
          have mHR458_0_ := Aside0.mk (Kd.C_below (by repeat (first | (with_reducible exact HR458_0.out) | (with_reducible refine Kd.C_alloc ?_ _) | (with_reducible refine Kd.C_drewN ?_ _) | (with_reducible refine Kd.C_drew ?_) | exact HR458_0.out)) hb)
          clear HR458_0
          have HR458_0 := mHR458_0_
          clear mHR458_0_
          have mHR459_0_ := Aside0.mk (Kd.C_below (by repeat (first | (with_reducible exact HR459_0.out) | (with_reducible refine Kd.C_alloc ?_ _) | (with_reducible refine Kd.C_drewN ?_ _) | (with_reducible refine Kd.C_drew ?_) | exact HR459_0.out)) hb)
          clear HR459_0
          have HR459_0 := mHR459_0_
          clear mHR459_0_
          clear HO_11
          clear HO_12
          clear HO_13
          clear HO_14
          clear HO_15
          clear HL447_0
          clear HL449_0
          clear HR447_0
          clear HR449_0
          clear HB
          have HO_11 := n0_
          have HO_12 := n1_
          have HO_13 := n2_
          have HO_14 := n3_
          have HO_15 := n4_
          have HL447_0 := n5_
          have HL449_0 := n6_
          have HR447_0 := n7_
          have HR449_0 := n8_
          have HB := n9_
          clear n0_ n1_ n2_ n3_ n4_ n5_ n6_ n7_ n8_ n9_
          (try clear hb)
          (try clear hb2)
          (try clear hk)
          (try clear hi)
          obtain ⟨Ao50, co50, eo50⟩ := Kd.V_slice HO_15.out
          (first | subst eo50 | (injection eo50 with f1_ f2_ f3_; have f4_ := f1_.symm; have f5_ := f3_.symm; clear f1_ f2_ f3_; subst f4_; subst f5_))
          refine hK.out _ _ ⟨HS0_, HS1_, HS2_, HS3_, HS4_, HS5_, HS6_, HS7_⟩ (fun hHeld => ?_)
          clear hK K
          refine norm_ (a' := ?_) ?_ ?_
          rotate_left
          ·show Act.put _ (some 61) _ = _
           simp only [Act.put, List.setIfInBounds_toArray, List.set_cons_zero, List.set_cons_succ, i64_w, i32_w]
           rfl
          refine pure_ (i := 14) (N := some 62) (v := ?_) (a' := ?_) #[true, true, true, true, true, true, true, true, true, true, true, true, true, true, true, false, false, false, false, false, false, false, false, false, false, false, false, false, false, false, false, false, false, false, false, false, false, false, false, false, false, false, false, false, false, false, false, false, false, false, false, false, false, false, false] rfl rfl (any_of HT_.out (by kernel_rfl)) (fun _ _ _ h => h) (Or.inl ⟨by rfl, ?_⟩) ?_ ?_
          rotate_left
          ·intro w'
           go_simp
           with_reducible rfl
          rotate_left
          ·simp only [Act.put, List.setIfInBounds_toArray, List.set_cons_zero, List.set_cons_succ, i64_w, i32_w]
           rfl
          refine pure_ (i := 15) (N := some 63) (v := ?_) (a' := ?_) #[true, true, true, true, true, true, true, true, true, true, true, true, true, true, true, true, false, false, false, false, false, false, false, false, false, false, false, false, false, false, false, false, false, false, false, false, false, false, false, false, false, false, false, false, false, false, false, false, false, false, false, false, false, false, false] rfl rfl (any_of HT_.out (by kernel_rfl)) (fun _ _ _ h => h) (Or.inl ⟨by rfl, ?_⟩) ?_ ?_
          rotate_left
          ·intro w'
           go_simp
           with_reducible rfl
          rotate_left
          ·simp only [Act.put, List.setIfInBounds_toArray, List.set_cons_zero, List.set_cons_succ, i64_w, i32_w]
           rfl
          refine pure_ (i := 16) (N := some 64) (v := ?_) (a' := ?_) #[true, true, true, true, true, true, true, true, true, true, true, true, true, true, true, true, true, false, false, false, false, false, false, false, false, false, false, false, false, false, false, false, false, false, false, false, false, false, false, false, false, false, false, false, false, false, false, false, false, false, false, false, false, false, false] rfl rfl (any_of HT_.out (by kernel_rfl)) (fun _ _ _ h => h) (Or.inl ⟨by rfl, ?_⟩) ?_ ?_
          rotate_left
          ·intro w'
           go_simp
           with_reducible rfl
          rotate_left
          ·simp only [Act.put, List.setIfInBounds_toArray, List.set_cons_zero, List.set_cons_succ, i64_w, i32_w]
           rfl
          refine pure_ (i := 17) (N := some 65) (v := ?_) (a' := ?_) #[true, true, true, true, true, true, true, true, true, true, true, true, true, true, true, true, true, true, false, false, false, false, false, false, false, false, false, false, false, false, false, false, false, false, false, false, false, false, false, false, false, false, false, false, false, false, false, false, false, false, false, false, false, false, false] rfl rfl (any_of HT_.out (by kernel_rfl)) (fun _ _ _ h => h) (Or.inl ⟨by rfl, ?_⟩) ?_ ?_
          rotate_left
          ·intro w'
           go_simp
           with_reducible rfl
          rotate_left
          ·simp only [Act.put, List.setIfInBounds_toArray, List.set_cons_zero, List.set_cons_succ, i64_w, i32_w]
           rfl
          refine pure_ (i := 18) (N := some 66) (v := ?_) (a' := ?_) #[true, true, true, true, true, true, true, true, true, true, true, true, true, true, true, true, true, true, true, false, false, false, false, false, false, false, false, false, false, false, false, false, false, false, false, false, false, false, false, false, false, false, false, false, false, false, false, false, false, false, false, false, false, false, false] rfl rfl (any_of HT_.out (by kernel_rfl)) (fun _ _ _ h => h) (Or.inl ⟨by rfl, ?_⟩) ?_ ?_
          rotate_left
          ·intro w'
           go_simp
           with_reducible rfl
          rotate_left
          ·simp only [Act.put, List.setIfInBounds_toArray, List.set_cons_zero, List.set_cons_succ, i64_w, i32_w]
           rfl
          refine pure_ (i := 19) (N := some 67) (v := ?_) (a' := ?_) #[true, true, true, true, true, true, true, true, true, true, true, true, true, true, true, true, true, true, true, true, false, false, false, false, false, false, false, false, false, false, false, false, false, false, false, false, false, false, false, false, false, false, false, false, false, false, false, false, false, false, false, false, false, false, false] rfl rfl (any_of HT_.out (by kernel_rfl)) (fun _ _ _ h => h) (Or.inl ⟨by rfl, ?_⟩) ?_ ?_
          rotate_left
          ·intro w'
           go_simp
           with_reducible rfl
          rotate_left
          ·simp only [Act.put, List.setIfInBounds_toArray, List.set_cons_zero, List.set_cons_succ, i64_w, i32_w]
           rfl
          refine pure_ (i := 20) (N := some 68) (v := ?_) (a' := ?_) #[true, true, true, true, true, true, true, true, true, true, true, true, true, true, true, true, true, true, true, true, true, false, false, false, false, false, false, false, false, false, false, false, false, false, false, false, false, false, false, false, false, false, false, false, false, false, false, false, false, false, false, false, false, false, false] rfl rfl (any_of HT_.out (by kernel_rfl)) (fun _ _ _ h => h) (Or.inl ⟨by rfl, ?_⟩) ?_ ?_
          rotate_left
          ·intro w'
           go_simp
           with_reducible rfl
          rotate_left
          ·simp only [Act.put, List.setIfInBounds_toArray, List.set_cons_zero, List.set_cons_succ, i64_w, i32_w]
           rfl
          refine pure_ (i := 23) (N := some 71) (v := ?_) (a' := ?_) #[true, true, true, true, true, true, true, true, true, true, true, true, true, true, true, true, true, true, true, true, true, false, false, true, false, false, false, false, false, false, false, false, false, false, false, false, false, false, false, false, false, false, false, false, false, false, false, false, false, false, false, false, false, false, false] rfl rfl (any_of HT_.out (by kernel_rfl)) (fun _ _ _ h => h) (Or.inl ⟨by rfl, ?_⟩) ?_ ?_
          rotate_left
          ·intro w'
           go_simp
           with_reducible rfl
          rotate_left
          ·simp only [Act.put, List.setIfInBounds_toArray, List.set_cons_zero, List.set_cons_succ, i64_w, i32_w]
           rfl
          refine pure_ (i := 24) (N := some 72) (v := ?_) (a' := ?_) #[true, true, true, true, true, true, true, true, true, true, true, true, true, true, true, true, true, true, true, true, true, false, false, true, true, false, false, false, false, false, false, false, false, false, false, false, false, false, false, false, false, false, false, false, false, false, false, false, false, false, false, false, false, false, false] rfl rfl (any_of HT_.out (by kernel_rfl)) (fun _ _ _ h => h) (Or.inl ⟨by rfl, ?_⟩) ?_ ?_
          rotate_left
          ·intro w'
           go_simp
           with_reducible rfl
          rotate_left
          ·simp only [Act.put, List.setIfInBounds_toArray, List.set_cons_zero, List.set_cons_succ, i64_w, i32_w]
           rfl
          refine pure_ (i := 25) (N := some 73) (v := ?_) (a' := ?_) #[true, true, true, true, true, true, true, true, true, true, true, true, true, true, true, true, true, true, true, true, true, false, false, true, true, true, false, false, false, false, false, false, false, false, false, false, false, false, false, false, false, false, false, false, false, false, false, false, false, false, false, false, false, false, false] rfl rfl (any_of HT_.out (by kernel_rfl)) (fun _ _ _ h => h) (Or.inl ⟨by rfl, ?_⟩) ?_ ?_
          rotate_left
          ·intro w'
           go_simp
           with_reducible rfl
          rotate_left
          ·simp only [Act.put, List.setIfInBounds_toArray, List.set_cons_zero, List.set_cons_succ, i64_w, i32_w]
           rfl
          refine pure_ (i := 26) (N := some 74) (v := ?_) (a' := ?_) #[true, true, true, true, true, true, true, true, true, true, true, true, true, true, true, true, true, true, true, true, true, false, false, true, true, true, true, false, false, false, false, false, false, false, false, false, false, false, false, false, false, false, false, false, false, false, false, false, false, false, false, false, false, false, false] rfl rfl (any_of HT_.out (by kernel_rfl)) (fun _ _ _ h => h) (Or.inl ⟨by rfl, ?_⟩) ?_ ?_
          rotate_left
          ·intro w'
           go_simp
           with_reducible rfl
          rotate_left
          ·simp only [Act.put, List.setIfInBounds_toArray, List.set_cons_zero, List.set_cons_succ, i64_w, i32_w]
           rfl
          refine pure_ (i := 27) (N := some 75) (v := ?_) (a' := ?_) #[true, true, true, true, true, true, true, true, true, true, true, true, true, true, true, true, true, true, true, true, true, false, false, true, true, true, true, true, false, false, false, false, false, false, false, false, false, false, false, false, false, false, false, false, false, false, false, false, false, false, false, false, false, false, false] rfl rfl (any_of HT_.out (by kernel_rfl)) (fun _ _ _ h => h) (Or.inl ⟨by rfl, ?_⟩) ?_ ?_
          rotate_left
          ·intro w'
           go_simp
           with_reducible rfl
          rotate_left
          ·simp only [Act.put, List.setIfInBounds_toArray, List.set_cons_zero, List.set_cons_succ, i64_w, i32_w]
           rfl
          refine take_ (i := 21) (N := some 69) (v := ?_) (a' := ?_) #[true, true, true, true, true, true, true, true, true, true, true, true, true, true, true, true, true, true, true, true, true, true, false, true, true, true, true, true, false, false, false, false, false, false, false, false, false, false, false, false, false, false, false, false, false, false, false, false, false, false, false, false, false, false, false] rfl rfl (take_ofW HT_.out HW_.out (by kernel_rfl)) (fun _ _ _ h => h) (Or.inl ⟨by rfl, ?_⟩) hHeld ?_ ?_
          rotate_left
          ·rintro w' ⟨s0, s1, s2, s3, s4, s5, s6, s7⟩
           go_simp
           with_reducible rfl
          rotate_left
          ·simp only [Act.put, List.setIfInBounds_toArray, List.set_cons_zero, List.set_cons_succ, i64_w, i32_w]
           rfl
          refine take_ (i := 28) (N := some 76) (v := ?_) (a' := ?_) #[true, true, true, true, true, true, true, true, true, true, true, true, true, true, true, true, true, true, true, true, true, true, false, true, true, true, true, true, true, false, false, false, false, false, false, false, false, false, false, false, false, false, false, false, false, false, false, false, false, false, false, false, false, false, false] rfl rfl (take_ofW HT_.out HW_.out (by kernel_rfl)) (fun _ _ _ h => h) (Or.inl ⟨by rfl, ?_⟩) hHeld ?_ ?_
          rotate_left
          ·rintro w' ⟨s0, s1, s2, s3, s4, s5, s6, s7⟩
           go_simp
           with_reducible rfl
          rotate_left
          ·simp only [Act.put, List.setIfInBounds_toArray, List.set_cons_zero, List.set_cons_succ, i64_w, i32_w]
           rfl
          refine one_ (i := 22) (N := some 70) #[true, true, true, true, true, true, true, true, true, true, true, true, true, true, true, true, true, true, true, true, true, true, true, true, true, true, true, true, true, false, false, false, false, false, false, false, false, false, false, false, false, false, false, false, false, false, false, false, false, false, false, false, false, false, false] rfl rfl (one_of HT_.out (by kernel_rfl)) (by decide) (fun K hK => ?_)
          refine goes_ Try.func21 (by kernel_rfl) rfl #[.slice Ao50 t441.length co50, .slice Ao18 t414.length co18, .slice A447_0 (rd_L4 y438 x16_1).length c447_0] (by rfl) rfl rfl (by (try simp only [List.map_toArray, List.map_cons, List.map_nil]); first | done | rfl | (simp only [List.length_drop, List.length_take]; rfl)) ?_
          with_reducible refine (licence_Check.calls k1 _ _ t441 _ _ t414 (fun k_ => ((some k_ ≠ (.slice Ao17 t411.length co17 : Value).ownBlock ∧ some k_ ≠ (.slice Ao18 t414.length co18 : Value).ownBlock) ∧ some k_ ≠ (.slice (some ad447) y438.length co46 : Value).ownBlock)) _ _ (rd_L4 y438 x16_1) t452 _ ?side1 ?side2 ?side3 ?side4 ?side5 A40.out).mono ?_
          (case side1 => repeat (first | exact (Kd.V_reads' HO_15.out).2.2 | (with_reducible refine Kd.C_alloc ?_ _) | (with_reducible refine Kd.C_drewN ?_ _) | (with_reducible refine Kd.C_drew ?_)))
          (case side2 => exact (Kd.V_reads' HO_15.out).2.1)
          (case side3 => repeat (first | exact (Kd.R_reads' HO_12.out).2.2 | (with_reducible refine Kd.C_alloc ?_ _) | (with_reducible refine Kd.C_drewN ?_ _) | (with_reducible refine Kd.C_drew ?_)))
          (case side4 => exact (Kd.R_reads' HO_12.out).2.1)
          (case side5 => exact HL451_0.out)
          rintro e w51 ⟨rfl, hb⟩
          have HS0_ := (hb.cell (World.block_lt_of_cell? _ _ (hHeld.1))).trans (hHeld.1)
          have HS1_ := (hb.cell (World.block_lt_of_cell? _ _ (hHeld.2.1))).trans (hHeld.2.1)
          have HS2_ := (hb.cell (World.block_lt_of_cell? _ _ (hHeld.2.2.1))).trans (hHeld.2.2.1)
          have HS3_ := (hb.cell (World.block_lt_of_cell? _ _ (hHeld.2.2.2.1))).trans (hHeld.2.2.2.1)
          have HS4_ := (hb.cell (World.block_lt_of_cell? _ _ (hHeld.2.2.2.2.1))).trans (hHeld.2.2.2.2.1)
          have HS5_ := (hb.cell (World.block_lt_of_cell? _ _ (hHeld.2.2.2.2.2.1))).trans (hHeld.2.2.2.2.2.1)
          have HS6_ := (hb.cell (World.block_lt_of_cell? _ _ (hHeld.2.2.2.2.2.2.1))).trans (hHeld.2.2.2.2.2.2.1)
          have HS7_ := (hb.cell (World.block_lt_of_cell? _ _ (hHeld.2.2.2.2.2.2.2))).trans (hHeld.2.2.2.2.2.2.2)
          refine ⟨_, rfl, ?_⟩
          have n0_ := Aside0.mk (Kd.N_below (chN HO_11) hb)
          have n1_ := Aside0.mk (Kd.R_below (chR HO_12) hb)
          have n2_ := Aside0.mk (Kd.R_below (chR HO_13) hb)
          have n3_ := Aside0.mk (Kd.N_below (chN HO_14) hb)
          have n4_ := Aside0.mk (Kd.V_below (chV HO_15) hb)
          have n5_ := Aside0.mk (Kd.V_below (chV HL447_0) hb)
          have n6_ := Aside0.mk (Kd.V_below (chV HL449_0) hb)
          have n7_ := Aside0.mk (Kd.V_below (chV HL451_0) hb)
          have n8_ := Aside0.mk (Kd.C_below (by repeat (first | (with_reducible exact HR447_0.out) | (with_reducible refine Kd.C_alloc ?_ _) | (with_reducible refine Kd.C_drewN ?_ _) | (with_reducible refine Kd.C_drew ?_) | exact HR447_0.out)) hb)
          have n9_ := Aside0.mk (Kd.C_below (by repeat (first | (with_reducible exact HR449_0.out) | (with_reducible refine Kd.C_alloc ?_ _) | (with_reducible refine Kd.C_drewN ?_ _) | (with_reducible refine Kd.C_drew ?_) | exact HR449_0.out)) hb)
          have n10_ := Aside0.mk (Kd.C_below (by repeat (first | (with_reducible exact HR451_0.out) | (with_reducible refine Kd.C_alloc ?_ _) | (with_reducible refine Kd.C_drewN ?_ _) | (with_reducible refine Kd.C_drew ?_) | exact HR451_0.out)) hb)
          have n11_ := Aside0.mk (below_step (chB HB) hb)
          have mHL453_0_ := Aside0.mk (Kd.V_below (chV HL453_0) hb)
          clear HL453_0
          have HL453_0 := mHL453_0_
          clear mHL453_0_
          have mHL455_0_ := Aside0.mk (Kd.V_below (chV HL455_0) hb)
          clear HL455_0
          have HL455_0 := mHL455_0_
          clear mHL455_0_
          have mHL456_0_ := Aside0.mk (Kd.V_below (chV HL456_0) hb)
          clear HL456_0
          have HL456_0 := mHL456_0_
          clear mHL456_0_
          have mHL458_0_ := Aside0.mk (Kd.V_below (chV HL458_0) hb)
          clear HL458_0
          have HL458_0 := mHL458_0_
          clear mHL458_0_
          have mHL459_0_ := Aside0.mk (Kd.V_below (chV HL459_0) hb)
          clear HL459_0
          have HL459_0 := mHL459_0_
          clear mHL459_0_
          have mHR453_0_ := Aside0.mk (Kd.C_below (by repeat (first | (with_reducible exact HR453_0.out) | (with_reducible refine Kd.C_alloc ?_ _) | (with_reducible refine Kd.C_drewN ?_ _) | (with_reducible refine Kd.C_drew ?_) | exact HR453_0.out)) hb)
          clear HR453_0
          have HR453_0 := mHR453_0_
          clear mHR453_0_
          have mHR455_0_ := Aside0.mk (Kd.C_below (by repeat (first | (with_reducible exact HR455_0.out) | (with_reducible refine Kd.C_alloc ?_ _) | (with_reducible refine Kd.C_drewN ?_ _) | (with_reducible refine Kd.C_drew ?_) | exact HR455_0.out)) hb)
          clear HR455_0
          have HR455_0 := mHR455_0_
          clear mHR455_0_
          have mHR456_0_ := Aside0.mk (Kd.C_below (by repeat (first | (with_reducible exact HR456_0.out) | (with_reducible refine Kd.C_alloc ?_ _) | (with_reducible refine Kd.C_drewN ?_ _) | (with_reducible refine Kd.C_drew ?_) | exact HR456_0.out)) hb)
          clear HR456_0
          have HR456_0 := mHR456_0_
          clear mHR456_0_
          have mHR458_0_ := Aside0.mk (Kd.C_below (by repeat (first | (with_reducible exact HR458_0.out) | (with_reducible refine Kd.C_alloc ?_ _) | (with_reducible refine Kd.C_drewN ?_ _) | (with_reducible refine Kd.C_drew ?_) | exact HR458_0.out)) hb)
          clear HR458_0
          have HR458_0 := mHR458_0_
          clear mHR458_0_
          have mHR459_0_ := Aside0.mk (Kd.C_below (by repeat (first | (with_reducible exact HR459_0.out) | (with_reducible refine Kd.C_alloc ?_ _) | (with_reducible refine Kd.C_drewN ?_ _) | (with_reducible refine Kd.C_drew ?_) | exact HR459_0.out)) hb)
          clear HR459_0
          have HR459_0 := mHR459_0_
          clear mHR459_0_
          clear HO_11
          clear HO_12
          clear HO_13
          clear HO_14
          clear HO_15
          clear HL447_0
          clear HL449_0
          clear HL451_0
          clear HR447_0
          clear HR449_0
          clear HR451_0
          clear HB
          have HO_11 := n0_
          have HO_12 := n1_
          have HO_13 := n2_
          have HO_14 := n3_
          have HO_15 := n4_
          have HL447_0 := n5_
          have HL449_0 := n6_
          have HL451_0 := n7_
          have HR447_0 := n8_
          have HR449_0 := n9_
          have HR451_0 := n10_
          have HB := n11_
          clear n0_ n1_ n2_ n3_ n4_ n5_ n6_ n7_ n8_ n9_ n10_ n11_
          (try clear hb)
          (try clear hb2)
          (try clear hk)
          (try clear hi)
          refine hK.out _ _ ⟨HS0_, HS1_, HS2_, HS3_, HS4_, HS5_, HS6_, HS7_⟩ (fun hHeld => ?_)
          clear hK K
          refine norm_ (a' := ?_) ?_ ?_
          rotate_left
          ·show Act.put _ (some 70) _ = _
           simp only [Act.put, List.setIfInBounds_toArray, List.set_cons_zero, List.set_cons_succ, i64_w, i32_w]
           rfl
          refine one_ (i := 29) (N := some 77) #[true, true, true, true, true, true, true, true, true, true, true, true, true, true, true, true, true, true, true, true, true, true, true, true, true, true, true, true, true, true, false, false, false, false, false, false, false, false, false, false, false, false, false, false, false, false, false, false, false, false, false, false, false, false, false] rfl rfl (one_of HT_.out (by kernel_rfl)) (by decide) (fun K hK => ?_)
          refine goes_ Try.func22 (by kernel_rfl) rfl #[.slice Ao50 t441.length co50, .slice Ao18 t414.length co18, .slice A447_0 (rd_L4 y438 x16_1).length c447_0] (by rfl) rfl rfl (by (try simp only [List.map_toArray, List.map_cons, List.map_nil]); first | done | rfl | (simp only [List.length_drop, List.length_take]; rfl)) ?_
          with_reducible refine (spliceryref41_Check.calls k1 _ _ t441 _ _ t414 _ _ (rd_L4 y438 x16_1) t454 _ ?side1 ?side2 ?side3 ?side4 ?side5 ?side6 A41.out).mono ?_
          (case side1 => repeat (first | exact (Kd.V_reads' HO_15.out).2.2 | (with_reducible refine Kd.C_alloc ?_ _) | (with_reducible refine Kd.C_drewN ?_ _) | (with_reducible refine Kd.C_drew ?_)))
          (case side2 => exact (Kd.V_reads' HO_15.out).2.1)
          (case side3 => repeat (first | exact (Kd.R_reads' HO_12.out).2.2 | (with_reducible refine Kd.C_alloc ?_ _) | (with_reducible refine Kd.C_drewN ?_ _) | (with_reducible refine Kd.C_drew ?_)))
          (case side4 => exact (Kd.R_reads' HO_12.out).2.1)
          (case side5 => repeat (first | exact (by repeat (first | (with_reducible exact HR453_0.out) | (with_reducible refine Kd.C_alloc ?_ _) | (with_reducible refine Kd.C_drewN ?_ _) | (with_reducible refine Kd.C_drew ?_) | exact HR453_0.out)) | (with_reducible refine Kd.C_alloc ?_ _) | (with_reducible refine Kd.C_drewN ?_ _) | (with_reducible refine Kd.C_drew ?_)))
          (case side6 => exact HC453_0.out)
          rintro e w52 ⟨rfl, hb⟩
          have HS0_ := (hb.cell (World.block_lt_of_cell? _ _ (hHeld.1))).trans (hHeld.1)
          have HS1_ := (hb.cell (World.block_lt_of_cell? _ _ (hHeld.2.1))).trans (hHeld.2.1)
          have HS2_ := (hb.cell (World.block_lt_of_cell? _ _ (hHeld.2.2.1))).trans (hHeld.2.2.1)
          have HS3_ := (hb.cell (World.block_lt_of_cell? _ _ (hHeld.2.2.2.1))).trans (hHeld.2.2.2.1)
          have HS4_ := (hb.cell (World.block_lt_of_cell? _ _ (hHeld.2.2.2.2.1))).trans (hHeld.2.2.2.2.1)
          have HS5_ := (hb.cell (World.block_lt_of_cell? _ _ (hHeld.2.2.2.2.2.1))).trans (hHeld.2.2.2.2.2.1)
          have HS6_ := (hb.cell (World.block_lt_of_cell? _ _ (hHeld.2.2.2.2.2.2.1))).trans (hHeld.2.2.2.2.2.2.1)
          have HS7_ := (hb.cell (World.block_lt_of_cell? _ _ (hHeld.2.2.2.2.2.2.2))).trans (hHeld.2.2.2.2.2.2.2)
          refine ⟨_, rfl, ?_⟩
          have n0_ := Aside0.mk (Kd.N_below (chN HO_11) hb)
          have n1_ := Aside0.mk (Kd.R_below (chR HO_12) hb)
          have n2_ := Aside0.mk (Kd.R_below (chR HO_13) hb)
          have n3_ := Aside0.mk (Kd.N_below (chN HO_14) hb)
          have n4_ := Aside0.mk (Kd.V_below (chV HO_15) hb)
          have n5_ := Aside0.mk (Kd.V_below (chV HL447_0) hb)
          have n6_ := Aside0.mk (Kd.V_below (chV HL449_0) hb)
          have n7_ := Aside0.mk (Kd.V_below (chV HL451_0) hb)
          have n8_ := Aside0.mk (Kd.V_below (chV HL453_0) hb)
          have n9_ := Aside0.mk (Kd.C_below (by repeat (first | (with_reducible exact HR447_0.out) | (with_reducible refine Kd.C_alloc ?_ _) | (with_reducible refine Kd.C_drewN ?_ _) | (with_reducible refine Kd.C_drew ?_) | exact HR447_0.out)) hb)
          have n10_ := Aside0.mk (Kd.C_below (by repeat (first | (with_reducible exact HR449_0.out) | (with_reducible refine Kd.C_alloc ?_ _) | (with_reducible refine Kd.C_drewN ?_ _) | (with_reducible refine Kd.C_drew ?_) | exact HR449_0.out)) hb)
          have n11_ := Aside0.mk (Kd.C_below (by repeat (first | (with_reducible exact HR451_0.out) | (with_reducible refine Kd.C_alloc ?_ _) | (with_reducible refine Kd.C_drewN ?_ _) | (with_reducible refine Kd.C_drew ?_) | exact HR451_0.out)) hb)
          have n12_ := Aside0.mk (Kd.C_below (by repeat (first | (with_reducible exact HR453_0.out) | (with_reducible refine Kd.C_alloc ?_ _) | (with_reducible refine Kd.C_drewN ?_ _) | (with_reducible refine Kd.C_drew ?_) | exact HR453_0.out)) hb)
          have n13_ := Aside0.mk (below_step (chB HB) hb)
          have mHL455_0_ := Aside0.mk (Kd.V_below (chV HL455_0) hb)
          clear HL455_0
          have HL455_0 := mHL455_0_
          clear mHL455_0_
          have mHL456_0_ := Aside0.mk (Kd.V_below (chV HL456_0) hb)
          clear HL456_0
          have HL456_0 := mHL456_0_
          clear mHL456_0_
          have mHL458_0_ := Aside0.mk (Kd.V_below (chV HL458_0) hb)
          clear HL458_0
          have HL458_0 := mHL458_0_
          clear mHL458_0_
          have mHL459_0_ := Aside0.mk (Kd.V_below (chV HL459_0) hb)
          clear HL459_0
          have HL459_0 := mHL459_0_
          clear mHL459_0_
          have mHR455_0_ := Aside0.mk (Kd.C_below (by repeat (first | (with_reducible exact HR455_0.out) | (with_reducible refine Kd.C_alloc ?_ _) | (with_reducible refine Kd.C_drewN ?_ _) | (with_reducible refine Kd.C_drew ?_) | exact HR455_0.out)) hb)
          clear HR455_0
          have HR455_0 := mHR455_0_
          clear mHR455_0_
          have mHR456_0_ := Aside0.mk (Kd.C_below (by repeat (first | (with_reducible exact HR456_0.out) | (with_reducible refine Kd.C_alloc ?_ _) | (with_reducible refine Kd.C_drewN ?_ _) | (with_reducible refine Kd.C_drew ?_) | exact HR456_0.out)) hb)
          clear HR456_0
          have HR456_0 := mHR456_0_
          clear mHR456_0_
          have mHR458_0_ := Aside0.mk (Kd.C_below (by repeat (first | (with_reducible exact HR458_0.out) | (with_reducible refine Kd.C_alloc ?_ _) | (with_reducible refine Kd.C_drewN ?_ _) | (with_reducible refine Kd.C_drew ?_) | exact HR458_0.out)) hb)
          clear HR458_0
          have HR458_0 := mHR458_0_
          clear mHR458_0_
          have mHR459_0_ := Aside0.mk (Kd.C_below (by repeat (first | (with_reducible exact HR459_0.out) | (with_reducible refine Kd.C_alloc ?_ _) | (with_reducible refine Kd.C_drewN ?_ _) | (with_reducible refine Kd.C_drew ?_) | exact HR459_0.out)) hb)
          clear HR459_0
          have HR459_0 := mHR459_0_
          clear mHR459_0_
          clear HO_11
          clear HO_12
          clear HO_13
          clear HO_14
          clear HO_15
          clear HL447_0
          clear HL449_0
          clear HL451_0
          clear HL453_0
          clear HR447_0
          clear HR449_0
          clear HR451_0
          clear HR453_0
          clear HB
          have HO_11 := n0_
          have HO_12 := n1_
          have HO_13 := n2_
          have HO_14 := n3_
          have HO_15 := n4_
          have HL447_0 := n5_
          have HL449_0 := n6_
          have HL451_0 := n7_
          have HL453_0 := n8_
          have HR447_0 := n9_
          have HR449_0 := n10_
          have HR451_0 := n11_
          have HR453_0 := n12_
          have HB := n13_
          clear n0_ n1_ n2_ n3_ n4_ n5_ n6_ n7_ n8_ n9_ n10_ n11_ n12_ n13_
          (try clear hb)
          (try clear hb2)
          (try clear hk)
          (try clear hi)
          refine hK.out _ _ ⟨HS0_, HS1_, HS2_, HS3_, HS4_, HS5_, HS6_, HS7_⟩ (fun hHeld => ?_)
          clear hK K
          refine norm_ (a' := ?_) ?_ ?_
          rotate_left
          ·show Act.put _ (some 77) _ = _
           simp only [Act.put, List.setIfInBounds_toArray, List.set_cons_zero, List.set_cons_succ, i64_w, i32_w]
           rfl
          refine pure_ (i := 30) (N := some 78) (v := ?_) (a' := ?_) #[true, true, true, true, true, true, true, true, true, true, true, true, true, true, true, true, true, true, true, true, true, true, true, true, true, true, true, true, true, true, true, false, false, false, false, false, false, false, false, false, false, false, false, false, false, false, false, false, false, false, false, false, false, false, false] rfl rfl (any_of HT_.out (by kernel_rfl)) (fun _ _ _ h => h) (Or.inl ⟨by rfl, ?_⟩) ?_ ?_
          rotate_left
          ·intro w'
           go_simp
           with_reducible rfl
          rotate_left
          ·simp only [Act.put, List.setIfInBounds_toArray, List.set_cons_zero, List.set_cons_succ, i64_w, i32_w]
           rfl
          refine pure_ (i := 31) (N := some 79) (v := ?_) (a' := ?_) #[true, true, true, true, true, true, true, true, true, true, true, true, true, true, true, true, true, true, true, true, true, true, true, true, true, true, true, true, true, true, true, true, false, false, false, false, false, false, false, false, false, false, false, false, false, false, false, false, false, false, false, false, false, false, false] rfl rfl (any_of HT_.out (by kernel_rfl)) (fun _ _ _ h => h) (Or.inl ⟨by rfl, ?_⟩) ?_ ?_
          rotate_left
          ·intro w'
           go_simp
           with_reducible rfl
          rotate_left
          ·simp only [Act.put, List.setIfInBounds_toArray, List.set_cons_zero, List.set_cons_succ, i64_w, i32_w]
           rfl
          refine pure_ (i := 32) (N := some 80) (v := ?_) (a' := ?_) #[true, true, true, true, true, true, true, true, true, true, true, true, true, true, true, true, true, true, true, true, true, true, true, true, true, true, true, true, true, true, true, true, true, false, false, false, false, false, false, false, false, false, false, false, false, false, false, false, false, false, false, false, false, false, false] rfl rfl (any_of HT_.out (by kernel_rfl)) (fun _ _ _ h => h) (Or.inl ⟨by rfl, ?_⟩) ?_ ?_
          rotate_left
          ·intro w'
           go_simp
           with_reducible rfl
          rotate_left
          ·simp only [Act.put, List.setIfInBounds_toArray, List.set_cons_zero, List.set_cons_succ, i64_w, i32_w]
           rfl
          refine pure_ (i := 33) (N := some 81) (v := ?_) (a' := ?_) #[true, true, true, true, true, true, true, true, true, true, true, true, true, true, true, true, true, true, true, true, true, true, true, true, true, true, true, true, true, true, true, true, true, true, false, false, false, false, false, false, false, false, false, false, false, false, false, false, false, false, false, false, false, false, false] rfl rfl (any_of HT_.out (by kernel_rfl)) (fun _ _ _ h => h) (Or.inl ⟨by rfl, ?_⟩) ?_ ?_
          rotate_left
          ·intro w'
           go_simp
           with_reducible rfl
          rotate_left
          ·simp only [Act.put, List.setIfInBounds_toArray, List.set_cons_zero, List.set_cons_succ, i64_w, i32_w]
           rfl
          refine pure_ (i := 34) (N := some 82) (v := ?_) (a' := ?_) #[true, true, true, true, true, true, true, true, true, true, true, true, true, true, true, true, true, true, true, true, true, true, true, true, true, true, true, true, true, true, true, true, true, true, true, false, false, false, false, false, false, false, false, false, false, false, false, false, false, false, false, false, false, false, false] rfl rfl (any_of HT_.out (by kernel_rfl)) (fun _ _ _ h => h) (Or.inl ⟨by rfl, ?_⟩) ?_ ?_
          rotate_left
          ·intro w'
           go_simp
           with_reducible rfl
          rotate_left
          ·simp only [Act.put, List.setIfInBounds_toArray, List.set_cons_zero, List.set_cons_succ, i64_w, i32_w]
           rfl
          refine pure_ (i := 35) (N := some 83) (v := ?_) (a' := ?_) #[true, true, true, true, true, true, true, true, true, true, true, true, true, true, true, true, true, true, true, true, true, true, true, true, true, true, true, true, true, true, true, true, true, true, true, true, false, false, false, false, false, false, false, false, false, false, false, false, false, false, false, false, false, false, false] rfl rfl (any_of HT_.out (by kernel_rfl)) (fun _ _ _ h => h) (Or.inl ⟨by rfl, ?_⟩) ?_ ?_
          rotate_left
          ·intro w'
           go_simp
           with_reducible rfl
          rotate_left
          ·simp only [Act.put, List.setIfInBounds_toArray, List.set_cons_zero, List.set_cons_succ, i64_w, i32_w]
           rfl
          refine pure_ (i := 36) (N := some 84) (v := ?_) (a' := ?_) #[true, true, true, true, true, true, true, true, true, true, true, true, true, true, true, true, true, true, true, true, true, true, true, true, true, true, true, true, true, true, true, true, true, true, true, true, true, false, false, false, false, false, false, false, false, false, false, false, false, false, false, false, false, false, false] rfl rfl (any_of HT_.out (by kernel_rfl)) (fun _ _ _ h => h) (Or.inl ⟨by rfl, ?_⟩) ?_ ?_
          rotate_left
          ·intro w'
           go_simp
           with_reducible rfl
          rotate_left
          ·simp only [Act.put, List.setIfInBounds_toArray, List.set_cons_zero, List.set_cons_succ, i64_w, i32_w]
           rfl
          refine pure_ (i := 38) (N := some 86) (v := ?_) (a' := ?_) #[true, true, true, true, true, true, true, true, true, true, true, true, true, true, true, true, true, true, true, true, true, true, true, true, true, true, true, true, true, true, true, true, true, true, true, true, true, false, true, false, false, false, false, false, false, false, false, false, false, false, false, false, false, false, false] rfl rfl (any_of HT_.out (by kernel_rfl)) (fun _ _ _ h => h) (Or.inl ⟨by rfl, ?_⟩) ?_ ?_
          rotate_left
          ·intro w'
           go_simp
           with_reducible rfl
          rotate_left
          ·simp only [Act.put, List.setIfInBounds_toArray, List.set_cons_zero, List.set_cons_succ, i64_w, i32_w]
           rfl
          refine pure_ (i := 39) (N := some 87) (v := ?_) (a' := ?_) #[true, true, true, true, true, true, true, true, true, true, true, true, true, true, true, true, true, true, true, true, true, true, true, true, true, true, true, true, true, true, true, true, true, true, true, true, true, false, true, true, false, false, false, false, false, false, false, false, false, false, false, false, false, false, false] rfl rfl (any_of HT_.out (by kernel_rfl)) (fun _ _ _ h => h) (Or.inl ⟨by rfl, ?_⟩) ?_ ?_
          rotate_left
          ·intro w'
           go_simp
           with_reducible rfl
          rotate_left
          ·simp only [Act.put, List.setIfInBounds_toArray, List.set_cons_zero, List.set_cons_succ, i64_w, i32_w]
           rfl
          refine pure_ (i := 40) (N := some 88) (v := ?_) (a' := ?_) #[true, true, true, true, true, true, true, true, true, true, true, true, true, true, true, true, true, true, true, true, true, true, true, true, true, true, true, true, true, true, true, true, true, true, true, true, true, false, true, true, true, false, false, false, false, false, false, false, false, false, false, false, false, false, false] rfl rfl (any_of HT_.out (by kernel_rfl)) (fun _ _ _ h => h) (Or.inl ⟨by rfl, ?_⟩) ?_ ?_
          rotate_left
          ·intro w'
           go_simp
           with_reducible rfl
          rotate_left
          ·simp only [Act.put, List.setIfInBounds_toArray, List.set_cons_zero, List.set_cons_succ, i64_w, i32_w]
           rfl
          refine pure_ (i := 43) (N := some 91) (v := ?_) (a' := ?_) #[true, true, true, true, true, true, true, true, true, true, true, true, true, true, true, true, true, true, true, true, true, true, true, true, true, true, true, true, true, true, true, true, true, true, true, true, true, false, true, true, true, false, false, true, false, false, false, false, false, false, false, false, false, false, false] rfl rfl (any_of HT_.out (by kernel_rfl)) (fun _ _ _ h => h) (Or.inl ⟨by rfl, ?_⟩) ?_ ?_
          rotate_left
          ·intro w'
           go_simp
           with_reducible rfl
          rotate_left
          ·simp only [Act.put, List.setIfInBounds_toArray, List.set_cons_zero, List.set_cons_succ, i64_w, i32_w]
           rfl
          refine pure_ (i := 44) (N := some 92) (v := ?_) (a' := ?_) #[true, true, true, true, true, true, true, true, true, true, true, true, true, true, true, true, true, true, true, true, true, true, true, true, true, true, true, true, true, true, true, true, true, true, true, true, true, false, true, true, true, false, false, true, true, false, false, false, false, false, false, false, false, false, false] rfl rfl (any_of HT_.out (by kernel_rfl)) (fun _ _ _ h => h) (Or.inl ⟨by rfl, ?_⟩) ?_ ?_
          rotate_left
          ·intro w'
           go_simp
           with_reducible rfl
          rotate_left
          ·simp only [Act.put, List.setIfInBounds_toArray, List.set_cons_zero, List.set_cons_succ, i64_w, i32_w]
           rfl
          refine pure_ (i := 45) (N := some 93) (v := ?_) (a' := ?_) #[true, true, true, true, true, true, true, true, true, true, true, true, true, true, true, true, true, true, true, true, true, true, true, true, true, true, true, true, true, true, true, true, true, true, true, true, true, false, true, true, true, false, false, true, true, true, false, false, false, false, false, false, false, false, false] rfl rfl (any_of HT_.out (by kernel_rfl)) (fun _ _ _ h => h) (Or.inl ⟨by rfl, ?_⟩) ?_ ?_
          rotate_left
          ·intro w'
           go_simp
           with_reducible rfl
          rotate_left
          ·simp only [Act.put, List.setIfInBounds_toArray, List.set_cons_zero, List.set_cons_succ, i64_w, i32_w]
           rfl
          refine pure_ (i := 46) (N := some 94) (v := ?_) (a' := ?_) #[true, true, true, true, true, true, true, true, true, true, true, true, true, true, true, true, true, true, true, true, true, true, true, true, true, true, true, true, true, true, true, true, true, true, true, true, true, false, true, true, true, false, false, true, true, true, true, false, false, false, false, false, false, false, false] rfl rfl (any_of HT_.out (by kernel_rfl)) (fun _ _ _ h => h) (Or.inl ⟨by rfl, ?_⟩) ?_ ?_
          rotate_left
          ·intro w'
           go_simp
           with_reducible rfl
          rotate_left
          ·simp only [Act.put, List.setIfInBounds_toArray, List.set_cons_zero, List.set_cons_succ, i64_w, i32_w]
           rfl
          refine pure_ (i := 48) (N := some 96) (v := ?_) (a' := ?_) #[true, true, true, true, true, true, true, true, true, true, true, true, true, true, true, true, true, true, true, true, true, true, true, true, true, true, true, true, true, true, true, true, true, true, true, true, true, false, true, true, true, false, false, true, true, true, true, false, true, false, false, false, false, false, false] rfl rfl (any_of HT_.out (by kernel_rfl)) (fun _ _ _ h => h) (Or.inl ⟨by rfl, ?_⟩) ?_ ?_
          rotate_left
          ·intro w'
           go_simp
           with_reducible rfl
          rotate_left
          ·simp only [Act.put, List.setIfInBounds_toArray, List.set_cons_zero, List.set_cons_succ, i64_w, i32_w]
           rfl
          refine pure_ (i := 49) (N := some 97) (v := ?_) (a' := ?_) #[true, true, true, true, true, true, true, true, true, true, true, true, true, true, true, true, true, true, true, true, true, true, true, true, true, true, true, true, true, true, true, true, true, true, true, true, true, false, true, true, true, false, false, true, true, true, true, false, true, true, false, false, false, false, false] rfl rfl (any_of HT_.out (by kernel_rfl)) (fun _ _ _ h => h) (Or.inl ⟨by rfl, ?_⟩) ?_ ?_
          rotate_left
          ·intro w'
           go_simp
           with_reducible rfl
          rotate_left
          ·simp only [Act.put, List.setIfInBounds_toArray, List.set_cons_zero, List.set_cons_succ, i64_w, i32_w]
           rfl
          refine pure_ (i := 50) (N := some 98) (v := ?_) (a' := ?_) #[true, true, true, true, true, true, true, true, true, true, true, true, true, true, true, true, true, true, true, true, true, true, true, true, true, true, true, true, true, true, true, true, true, true, true, true, true, false, true, true, true, false, false, true, true, true, true, false, true, true, true, false, false, false, false] rfl rfl (any_of HT_.out (by kernel_rfl)) (fun _ _ _ h => h) (Or.inl ⟨by rfl, ?_⟩) ?_ ?_
          rotate_left
          ·intro w'
           go_simp
           with_reducible rfl
          rotate_left
          ·simp only [Act.put, List.setIfInBounds_toArray, List.set_cons_zero, List.set_cons_succ, i64_w, i32_w]
           rfl
          refine take_ (i := 37) (N := some 85) (v := ?_) (a' := ?_) #[true, true, true, true, true, true, true, true, true, true, true, true, true, true, true, true, true, true, true, true, true, true, true, true, true, true, true, true, true, true, true, true, true, true, true, true, true, true, true, true, true, false, false, true, true, true, true, false, true, true, true, false, false, false, false] rfl rfl (take_ofW HT_.out HW_.out (by kernel_rfl)) (fun _ _ _ h => h) (Or.inl ⟨by rfl, ?_⟩) hHeld ?_ ?_
          rotate_left
          ·rintro w' ⟨s0, s1, s2, s3, s4, s5, s6, s7⟩
           go_simp
           with_reducible rfl
          rotate_left
          ·simp only [Act.put, List.setIfInBounds_toArray, List.set_cons_zero, List.set_cons_succ, i64_w, i32_w]
           rfl
          refine take_ (i := 41) (N := some 89) (v := ?_) (a' := ?_) #[true, true, true, true, true, true, true, true, true, true, true, true, true, true, true, true, true, true, true, true, true, true, true, true, true, true, true, true, true, true, true, true, true, true, true, true, true, true, true, true, true, true, false, true, true, true, true, false, true, true, true, false, false, false, false] rfl rfl (take_ofW HT_.out HW_.out (by kernel_rfl)) (fun _ _ _ h => h) (Or.inl ⟨by rfl, ?_⟩) hHeld ?_ ?_
          rotate_left
          ·rintro w' ⟨s0, s1, s2, s3, s4, s5, s6, s7⟩
           go_simp
           with_reducible rfl
          rotate_left
          ·simp only [Act.put, List.setIfInBounds_toArray, List.set_cons_zero, List.set_cons_succ, i64_w, i32_w]
           rfl
          refine take_ (i := 47) (N := some 95) (v := ?_) (a' := ?_) #[true, true, true, true, true, true, true, true, true, true, true, true, true, true, true, true, true, true, true, true, true, true, true, true, true, true, true, true, true, true, true, true, true, true, true, true, true, true, true, true, true, true, false, true, true, true, true, true, true, true, true, false, false, false, false] rfl rfl (take_ofW HT_.out HW_.out (by kernel_rfl)) (fun _ _ _ h => h) (Or.inl ⟨by rfl, ?_⟩) hHeld ?_ ?_
          rotate_left
          ·rintro w' ⟨s0, s1, s2, s3, s4, s5, s6, s7⟩
           go_simp
           with_reducible rfl
          rotate_left
          ·simp only [Act.put, List.setIfInBounds_toArray, List.set_cons_zero, List.set_cons_succ, i64_w, i32_w]
           rfl
          refine take_ (i := 51) (N := some 99) (v := ?_) (a' := ?_) #[true, true, true, true, true, true, true, true, true, true, true, true, true, true, true, true, true, true, true, true, true, true, true, true, true, true, true, true, true, true, true, true, true, true, true, true, true, true, true, true, true, true, false, true, true, true, true, true, true, true, true, true, false, false, false] rfl rfl (take_ofW HT_.out HW_.out (by kernel_rfl)) (fun _ _ _ h => h) (Or.inl ⟨by rfl, ?_⟩) hHeld ?_ ?_
          rotate_left
          ·rintro w' ⟨s0, s1, s2, s3, s4, s5, s6, s7⟩
           go_simp
           with_reducible rfl
          rotate_left
          ·simp only [Act.put, List.setIfInBounds_toArray, List.set_cons_zero, List.set_cons_succ, i64_w, i32_w]
           rfl
          refine one_ (i := 42) (N := some 90) #[true, true, true, true, true, true, true, true, true, true, true, true, true, true, true, true, true, true, true, true, true, true, true, true, true, true, true, true, true, true, true, true, true, true, true, true, true, true, true, true, true, true, true, true, true, true, true, true, true, true, true, true, false, false, false] rfl rfl (one_of HT_.out (by kernel_rfl)) (by decide) (fun K hK => ?_)
          refine goes_ Try.func21 (by kernel_rfl) rfl #[.slice Ao17 t411.length co17, .slice A447_0 (rd_L4 y438 x16_1).length c447_0, .slice A447_0 (rd_L4 y438 x16_1).length c447_0] (by rfl) rfl rfl (by (try simp only [List.map_toArray, List.map_cons, List.map_nil]); first | done | rfl | (simp only [List.length_drop, List.length_take]; rfl)) ?_
          with_reducible refine (licence_Check.calls k1 _ _ t411 _ _ (rd_L4 y438 x16_1) (fun k_ => ((some k_ ≠ (.slice Ao17 t411.length co17 : Value).ownBlock ∧ some k_ ≠ (.slice Ao18 t414.length co18 : Value).ownBlock) ∧ some k_ ≠ (.slice (some ad447) y438.length co46 : Value).ownBlock)) _ _ (rd_L4 y438 x16_1) t457 _ ?side1 ?side2 ?side3 ?side4 ?side5 A43.out).mono ?_
          (case side1 => repeat (first | exact (Kd.N_reads' HO_11.out).2.2 | (with_reducible refine Kd.C_alloc ?_ _) | (with_reducible refine Kd.C_drewN ?_ _) | (with_reducible refine Kd.C_drew ?_)))
          (case side2 => exact (Kd.N_reads' HO_11.out).2.1)
          (case side3 => repeat (first | exact (by repeat (first | (with_reducible exact HR455_0.out) | (with_reducible refine Kd.C_alloc ?_ _) | (with_reducible refine Kd.C_drewN ?_ _) | (with_reducible refine Kd.C_drew ?_) | exact HR455_0.out)) | (with_reducible refine Kd.C_alloc ?_ _) | (with_reducible refine Kd.C_drewN ?_ _) | (with_reducible refine Kd.C_drew ?_)))
          (case side4 => exact HC455_0.out)
          (case side5 => exact HL456_0.out)
          rintro e w53 ⟨rfl, hb⟩
          have HS0_ := (hb.cell (World.block_lt_of_cell? _ _ (hHeld.1))).trans (hHeld.1)
          have HS1_ := (hb.cell (World.block_lt_of_cell? _ _ (hHeld.2.1))).trans (hHeld.2.1)
          have HS2_ := (hb.cell (World.block_lt_of_cell? _ _ (hHeld.2.2.1))).trans (hHeld.2.2.1)
          have HS3_ := (hb.cell (World.block_lt_of_cell? _ _ (hHeld.2.2.2.1))).trans (hHeld.2.2.2.1)
          have HS4_ := (hb.cell (World.block_lt_of_cell? _ _ (hHeld.2.2.2.2.1))).trans (hHeld.2.2.2.2.1)
          have HS5_ := (hb.cell (World.block_lt_of_cell? _ _ (hHeld.2.2.2.2.2.1))).trans (hHeld.2.2.2.2.2.1)
          have HS6_ := (hb.cell (World.block_lt_of_cell? _ _ (hHeld.2.2.2.2.2.2.1))).trans (hHeld.2.2.2.2.2.2.1)
          have HS7_ := (hb.cell (World.block_lt_of_cell? _ _ (hHeld.2.2.2.2.2.2.2))).trans (hHeld.2.2.2.2.2.2.2)
          refine ⟨_, rfl, ?_⟩
          have n0_ := Aside0.mk (Kd.N_below (chN HO_11) hb)
          have n1_ := Aside0.mk (Kd.R_below (chR HO_12) hb)
          have n2_ := Aside0.mk (Kd.R_below (chR HO_13) hb)
          have n3_ := Aside0.mk (Kd.N_below (chN HO_14) hb)
          have n4_ := Aside0.mk (Kd.V_below (chV HO_15) hb)
          have n5_ := Aside0.mk (Kd.V_below (chV HL447_0) hb)
          have n6_ := Aside0.mk (Kd.V_below (chV HL449_0) hb)
          have n7_ := Aside0.mk (Kd.V_below (chV HL451_0) hb)
          have n8_ := Aside0.mk (Kd.V_below (chV HL453_0) hb)
          have n9_ := Aside0.mk (Kd.V_below (chV HL455_0) hb)
          have n10_ := Aside0.mk (Kd.V_below (chV HL456_0) hb)
          have n11_ := Aside0.mk (Kd.C_below (by repeat (first | (with_reducible exact HR447_0.out) | (with_reducible refine Kd.C_alloc ?_ _) | (with_reducible refine Kd.C_drewN ?_ _) | (with_reducible refine Kd.C_drew ?_) | exact HR447_0.out)) hb)
          have n12_ := Aside0.mk (Kd.C_below (by repeat (first | (with_reducible exact HR449_0.out) | (with_reducible refine Kd.C_alloc ?_ _) | (with_reducible refine Kd.C_drewN ?_ _) | (with_reducible refine Kd.C_drew ?_) | exact HR449_0.out)) hb)
          have n13_ := Aside0.mk (Kd.C_below (by repeat (first | (with_reducible exact HR451_0.out) | (with_reducible refine Kd.C_alloc ?_ _) | (with_reducible refine Kd.C_drewN ?_ _) | (with_reducible refine Kd.C_drew ?_) | exact HR451_0.out)) hb)
          have n14_ := Aside0.mk (Kd.C_below (by repeat (first | (with_reducible exact HR453_0.out) | (with_reducible refine Kd.C_alloc ?_ _) | (with_reducible refine Kd.C_drewN ?_ _) | (with_reducible refine Kd.C_drew ?_) | exact HR453_0.out)) hb)
          have n15_ := Aside0.mk (Kd.C_below (by repeat (first | (with_reducible exact HR455_0.out) | (with_reducible refine Kd.C_alloc ?_ _) | (with_reducible refine Kd.C_drewN ?_ _) | (with_reducible refine Kd.C_drew ?_) | exact HR455_0.out)) hb)
          have n16_ := Aside0.mk (Kd.C_below (by repeat (first | (with_reducible exact HR456_0.out) | (with_reducible refine Kd.C_alloc ?_ _) | (with_reducible refine Kd.C_drewN ?_ _) | (with_reducible refine Kd.C_drew ?_) | exact HR456_0.out)) hb)
          have n17_ := Aside0.mk (below_step (chB HB) hb)
          have mHL458_0_ := Aside0.mk (Kd.V_below (chV HL458_0) hb)
          clear HL458_0
          have HL458_0 := mHL458_0_
          clear mHL458_0_
          have mHL459_0_ := Aside0.mk (Kd.V_below (chV HL459_0) hb)
          clear HL459_0
          have HL459_0 := mHL459_0_
          clear mHL459_0_
          have mHR458_0_ := Aside0.mk (Kd.C_below (by repeat (first | (with_reducible exact HR458_0.out) | (with_reducible refine Kd.C_alloc ?_ _) | (with_reducible refine Kd.C_drewN ?_ _) | (with_reducible refine Kd.C_drew ?_) | exact HR458_0.out)) hb)
          clear HR458_0
          have HR458_0 := mHR458_0_
          clear mHR458_0_
          have mHR459_0_ := Aside0.mk (Kd.C_below (by repeat (first | (with_reducible exact HR459_0.out) | (with_reducible refine Kd.C_alloc ?_ _) | (with_reducible refine Kd.C_drewN ?_ _) | (with_reducible refine Kd.C_drew ?_) | exact HR459_0.out)) hb)
          clear HR459_0
          have HR459_0 := mHR459_0_
          clear mHR459_0_
          clear HO_11
          clear HO_12
          clear HO_13
          clear HO_14
          clear HO_15
          clear HL447_0
          clear HL449_0
          clear HL451_0
          clear HL453_0
          clear HL455_0
          clear HL456_0
          clear HR447_0
          clear HR449_0
          clear HR451_0
          clear HR453_0
          clear HR455_0
          clear HR456_0
          clear HB
          have HO_11 := n0_
          have HO_12 := n1_
          have HO_13 := n2_
          have HO_14 := n3_
          have HO_15 := n4_
          have HL447_0 := n5_
          have HL449_0 := n6_
          have HL451_0 := n7_
          have HL453_0 := n8_
          have HL455_0 := n9_
          have HL456_0 := n10_
          have HR447_0 := n11_
          have HR449_0 := n12_
          have HR451_0 := n13_
          have HR453_0 := n14_
          have HR455_0 := n15_
          have HR456_0 := n16_
          have HB := n17_
          clear n0_ n1_ n2_ n3_ n4_ n5_ n6_ n7_ n8_ n9_ n10_ n11_ n12_ n13_ n14_ n15_ n16_ n17_
          (try clear hb)
          (try clear hb2)
          (try clear hk)
          (try clear hi)
          refine hK.out _ _ ⟨HS0_, HS1_, HS2_, HS3_, HS4_, HS5_, HS6_, HS7_⟩ (fun hHeld => ?_)
          clear hK K
          refine norm_ (a' := ?_) ?_ ?_
          rotate_left
          ·show Act.put _ (some 90) _ = _
           simp only [Act.put, List.setIfInBounds_toArray, List.set_cons_zero, List.set_cons_succ, i64_w, i32_w]
           rfl
          refine one_ (i := 52) (N := some 100) #[true, true, true, true, true, true, true, true, true, true, true, true, true, true, true, true, true, true, true, true, true, true, true, true, true, true, true, true, true, true, true, true, true, true, true, true, true, true, true, true, true, true, true, true, true, true, true, true, true, true, true, true, true, false, false] rfl rfl (one_of HT_.out (by kernel_rfl)) (by decide) (fun K hK => ?_)
          refine goes_ Try.func22 (by kernel_rfl) rfl #[.slice Ao17 t411.length co17, .slice A447_0 (rd_L4 y438 x16_1).length c447_0, .slice A447_0 (rd_L4 y438 x16_1).length c447_0] (by rfl) rfl rfl (by (try simp only [List.map_toArray, List.map_cons, List.map_nil]); first | done | rfl | (simp only [List.length_drop, List.length_take]; rfl)) ?_
          with_reducible refine (spliceryref41_Check.calls k1 _ _ t411 _ _ (rd_L4 y438 x16_1) _ _ (rd_L4 y438 x16_1) t460 _ ?side1 ?side2 ?side3 ?side4 ?side5 ?side6 A44.out).mono ?_
          (case side1 => repeat (first | exact (Kd.N_reads' HO_11.out).2.2 | (with_reducible refine Kd.C_alloc ?_ _) | (with_reducible refine Kd.C_drewN ?_ _) | (with_reducible refine Kd.C_drew ?_)))
          (case side2 => exact (Kd.N_reads' HO_11.out).2.1)
          (case side3 => repeat (first | exact (by repeat (first | (with_reducible exact HR458_0.out) | (with_reducible refine Kd.C_alloc ?_ _) | (with_reducible refine Kd.C_drewN ?_ _) | (with_reducible refine Kd.C_drew ?_) | exact HR458_0.out)) | (with_reducible refine Kd.C_alloc ?_ _) | (with_reducible refine Kd.C_drewN ?_ _) | (with_reducible refine Kd.C_drew ?_)))
          (case side4 => exact HC458_0.out)
          (case side5 => repeat (first | exact (by repeat (first | (with_reducible exact HR459_0.out) | (with_reducible refine Kd.C_alloc ?_ _) | (with_reducible refine Kd.C_drewN ?_ _) | (with_reducible refine Kd.C_drew ?_) | exact HR459_0.out)) | (with_reducible refine Kd.C_alloc ?_ _) | (with_reducible refine Kd.C_drewN ?_ _) | (with_reducible refine Kd.C_drew ?_)))
          (case side6 => exact HC459_0.out)
          rintro e w54 ⟨rfl, hb⟩
          have HS0_ := (hb.cell (World.block_lt_of_cell? _ _ (hHeld.1))).trans (hHeld.1)
          have HS1_ := (hb.cell (World.block_lt_of_cell? _ _ (hHeld.2.1))).trans (hHeld.2.1)
          have HS2_ := (hb.cell (World.block_lt_of_cell? _ _ (hHeld.2.2.1))).trans (hHeld.2.2.1)
          have HS3_ := (hb.cell (World.block_lt_of_cell? _ _ (hHeld.2.2.2.1))).trans (hHeld.2.2.2.1)
          have HS4_ := (hb.cell (World.block_lt_of_cell? _ _ (hHeld.2.2.2.2.1))).trans (hHeld.2.2.2.2.1)
          have HS5_ := (hb.cell (World.block_lt_of_cell? _ _ (hHeld.2.2.2.2.2.1))).trans (hHeld.2.2.2.2.2.1)
          have HS6_ := (hb.cell (World.block_lt_of_cell? _ _ (hHeld.2.2.2.2.2.2.1))).trans (hHeld.2.2.2.2.2.2.1)
          have HS7_ := (hb.cell (World.block_lt_of_cell? _ _ (hHeld.2.2.2.2.2.2.2))).trans (hHeld.2.2.2.2.2.2.2)
          refine ⟨_, rfl, ?_⟩
          have n0_ := Aside0.mk (Kd.N_below (chN HO_11) hb)
          have n1_ := Aside0.mk (Kd.R_below (chR HO_12) hb)
          have n2_ := Aside0.mk (Kd.R_below (chR HO_13) hb)
          have n3_ := Aside0.mk (Kd.N_below (chN HO_14) hb)
          have n4_ := Aside0.mk (Kd.V_below (chV HO_15) hb)
          have n5_ := Aside0.mk (Kd.V_below (chV HL447_0) hb)
          have n6_ := Aside0.mk (Kd.V_below (chV HL449_0) hb)
          have n7_ := Aside0.mk (Kd.V_below (chV HL451_0) hb)
          have n8_ := Aside0.mk (Kd.V_below (chV HL453_0) hb)
          have n9_ := Aside0.mk (Kd.V_below (chV HL455_0) hb)
          have n10_ := Aside0.mk (Kd.V_below (chV HL456_0) hb)
          have n11_ := Aside0.mk (Kd.V_below (chV HL458_0) hb)
          have n12_ := Aside0.mk (Kd.V_below (chV HL459_0) hb)
          have n13_ := Aside0.mk (Kd.C_below (by repeat (first | (with_reducible exact HR447_0.out) | (with_reducible refine Kd.C_alloc ?_ _) | (with_reducible refine Kd.C_drewN ?_ _) | (with_reducible refine Kd.C_drew ?_) | exact HR447_0.out)) hb)
          have n14_ := Aside0.mk (Kd.C_below (by repeat (first | (with_reducible exact HR449_0.out) | (with_reducible refine Kd.C_alloc ?_ _) | (with_reducible refine Kd.C_drewN ?_ _) | (with_reducible refine Kd.C_drew ?_) | exact HR449_0.out)) hb)
          have n15_ := Aside0.mk (Kd.C_below (by repeat (first | (with_reducible exact HR451_0.out) | (with_reducible refine Kd.C_alloc ?_ _) | (with_reducible refine Kd.C_drewN ?_ _) | (with_reducible refine Kd.C_drew ?_) | exact HR451_0.out)) hb)
          have n16_ := Aside0.mk (Kd.C_below (by repeat (first | (with_reducible exact HR453_0.out) | (with_reducible refine Kd.C_alloc ?_ _) | (with_reducible refine Kd.C_drewN ?_ _) | (with_reducible refine Kd.C_drew ?_) | exact HR453_0.out)) hb)
          have n17_ := Aside0.mk (Kd.C_below (by repeat (first | (with_reducible exact HR455_0.out) | (with_reducible refine Kd.C_alloc ?_ _) | (with_reducible refine Kd.C_drewN ?_ _) | (with_reducible refine Kd.C_drew ?_) | exact HR455_0.out)) hb)
          have n18_ := Aside0.mk (Kd.C_below (by repeat (first | (with_reducible exact HR456_0.out) | (with_reducible refine Kd.C_alloc ?_ _) | (with_reducible refine Kd.C_drewN ?_ _) | (with_reducible refine Kd.C_drew ?_) | exact HR456_0.out)) hb)
          have n19_ := Aside0.mk (Kd.C_below (by repeat (first | (with_reducible exact HR458_0.out) | (with_reducible refine Kd.C_alloc ?_ _) | (with_reducible refine Kd.C_drewN ?_ _) | (with_reducible refine Kd.C_drew ?_) | exact HR458_0.out)) hb)
          have n20_ := Aside0.mk (Kd.C_below (by repeat (first | (with_reducible exact HR459_0.out) | (with_reducible refine Kd.C_alloc ?_ _) | (with_reducible refine Kd.C_drewN ?_ _) | (with_reducible refine Kd.C_drew ?_) | exact HR459_0.out)) hb)
          have n21_ := Aside0.mk (below_step (chB HB) hb)
          clear HO_11
          clear HO_12
          clear HO_13
          clear HO_14
          clear HO_15
          clear HL447_0
          clear HL449_0
          clear HL451_0
          clear HL453_0
          clear HL455_0
          clear HL456_0
          clear HL458_0
          clear HL459_0
          clear HR447_0
          clear HR449_0
          clear HR451_0
          clear HR453_0
          clear HR455_0
          clear HR456_0
          clear HR458_0
          clear HR459_0
          clear HB
          have HO_11 := n0_
          have HO_12 := n1_
          have HO_13 := n2_
          have HO_14 := n3_
          have HO_15 := n4_
          have HL447_0 := n5_
          have HL449_0 := n6_
          have HL451_0 := n7_
          have HL453_0 := n8_
          have HL455_0 := n9_
          have HL456_0 := n10_
          have HL458_0 := n11_
          have HL459_0 := n12_
          have HR447_0 := n13_
          have HR449_0 := n14_
          have HR451_0 := n15_
          have HR453_0 := n16_
          have HR455_0 := n17_
          have HR456_0 := n18_
          have HR458_0 := n19_
          have HR459_0 := n20_
          have HB := n21_
          clear n0_ n1_ n2_ n3_ n4_ n5_ n6_ n7_ n8_ n9_ n10_ n11_ n12_ n13_ n14_ n15_ n16_ n17_ n18_ n19_ n20_ n21_
          (try clear hb)
          (try clear hb2)
          (try clear hk)
          (try clear hi)
          refine hK.out _ _ ⟨HS0_, HS1_, HS2_, HS3_, HS4_, HS5_, HS6_, HS7_⟩ (fun hHeld => ?_)
          clear hK K
          refine norm_ (a' := ?_) ?_ ?_
          rotate_left
          ·show Act.put _ (some 100) _ = _
           simp only [Act.put, List.setIfInBounds_toArray, List.set_cons_zero, List.set_cons_succ, i64_w, i32_w]
           rfl
          refine pure_ (i := 53) (N := some 101) (v := ?_) (a' := ?_) #[true, true, true, true, true, true, true, true, true, true, true, true, true, true, true, true, true, true, true, true, true, true, true, true, true, true, true, true, true, true, true, true, true, true, true, true, true, true, true, true, true, true, true, true, true, true, true, true, true, true, true, true, true, true, false] rfl rfl (any_of HT_.out (by kernel_rfl)) (fun _ _ _ h => h) (Or.inl ⟨by rfl, ?_⟩) ?_ ?_
          rotate_left
          ·intro w'
           go_simp
           with_reducible rfl
          rotate_left
          ·simp only [Act.put, List.setIfInBounds_toArray, List.set_cons_zero, List.set_cons_succ, i64_w, i32_w]
           rfl
          refine pure_ (i := 54) (N := some 102) (v := ?_) (a' := ?_) #[true, true, true, true, true, true, true, true, true, true, true, true, true, true, true, true, true, true, true, true, true, true, true, true, true, true, true, true, true, true, true, true, true, true, true, true, true, true, true, true, true, true, true, true, true, true, true, true, true, true, true, true, true, true, true] rfl rfl (any_of HT_.out (by kernel_rfl)) (fun _ _ _ h => h) (Or.inl ⟨by rfl, ?_⟩) ?_ ?_
          rotate_left
          ·intro w'
           go_simp
           with_reducible rfl
          rotate_left
          ·simp only [Act.put, List.setIfInBounds_toArray, List.set_cons_zero, List.set_cons_succ, i64_w, i32_w]
           rfl
          refine done_ (done_of HT_.out (by kernel_rfl)) ?_
          try go_wp2
          go_roundg k1
          case measure => have := HK1.out; omega
          case rel => exact ⟨(wrap64 (x16_1 + 1)), (by first | rfl | (simp; done) | (simp [*]; done)), H', ⟨by have := HK1.out; omega⟩, ⟨chN HO_11⟩, ⟨chR HO_12⟩, ⟨chR HO_13⟩, ⟨chN HO_14⟩, ⟨chV HO_15⟩, ⟨chB HB⟩⟩
         ·rw [if_neg c45] at H
          have c45b0 : (t457 == t460) = false := beq_eq_false_iff_ne.mpr c45
          have c45b1 : (t457 != t460) = true := bne_iff_ne.mpr c45
          obtain rfl := Option.some.inj H
          exact absurd HRT.out (by decide)
        ·rw [if_neg c42] at H
         have c42b0 : (t452 == t454) = false := beq_eq_false_iff_ne.mpr c42
         have c42b1 : (t452 != t454) = true := bne_iff_ne.mpr c42
         obtain rfl := Option.some.inj H
         exact absurd HRT.out (by decide)
       ·rw [if_neg c39] at H
        have c39b0 : (t448 == t450) = false := beq_eq_false_iff_ne.mpr c39
        have c39b1 : (t448 != t450) = true := bne_iff_ne.mpr c39
        obtain rfl := Option.some.inj H
        exact absurd HRT.out (by decide)
      ·rw [if_neg c36] at H
       exact absurd H (by simp)
     ·rw [if_neg c35] at H
      have c35b0 : decide (x16_1 < (y438.length : Int)) = false := decide_eq_false c35
      clear c35
      by_cases c75 : (t417.length : Int) = 0
      ·rw [if_pos c75] at H
       have c75b0 : ((t417.length : Int) == 0) = true := beq_iff_eq.mpr c75
       have c75b1 : ((t417.length : Int) != 0) = false := bne_eq_false_iff_eq.mpr c75
       clear c75
       replace H := Option.bind_eq_some_iff.mp H
       obtain ⟨t444, A760, H⟩ := H
       replace H : (some t444) = some r := H
       have A76 := Aside0.mk A760
       clear A760
       obtain rfl := Option.some.inj H
       obtain ⟨Ao77, co77, eo77⟩ := Kd.N_slice HO_14.out
       subst eo77
       go_wp2_with (first | (go_at_call 16; (with_reducible refine (splicerylaw41_lives.calls k1  t444 _ A76.out HRT.out).mono ?_); rintro e w78 ⟨rfl, hb⟩; have n0_ := Aside0.mk (Kd.N_below (chN HO_11) hb); have n1_ := Aside0.mk (Kd.R_below (chR HO_12) hb); have n2_ := Aside0.mk (Kd.R_below (chR HO_13) hb); have n3_ := Aside0.mk (Kd.N_below (chN HO_14) hb); have n4_ := Aside0.mk (Kd.V_below (chV HO_15) hb); have n5_ := Aside0.mk (below_step (chB HB) hb); clear HO_11; clear HO_12; clear HO_13; clear HO_14; clear HO_15; clear HB; have HO_11 := n0_; have HO_12 := n1_; have HO_13 := n2_; have HO_14 := n3_; have HO_15 := n4_; have HB := n5_; clear n0_ n1_ n2_ n3_ n4_ n5_; (try clear hb); (try clear hb2); (try clear hk); (try clear hi)))
       go_ret
       exact ⟨by first | rfl | (simp [errW_none, errW_some] <;> rfl) | (simp [*, errW_none, errW_some] <;> rfl), chB HB⟩
      ·rw [if_neg c75] at H
       have c75b0 : ((t417.length : Int) == 0) = false := beq_eq_false_iff_ne.mpr c75
       have c75b1 : ((t417.length : Int) != 0) = true := bne_iff_ne.mpr c75
       have c75b2 : ¬ (t417 = []) := fun h_ => c75 (by rw [h_]; rfl)
       replace H := Option.bind_eq_some_iff.mp H
       obtain ⟨t445, A790, H⟩ := H
       replace H : (if t445 = 0 then ((splicerylaw41_lives.f k1).bind fun t446 => (some t446)) else (some false)) = some r := H
       have A79 := Aside0.mk A790
       clear A790
       by_cases c80 : t445 = 0
       ·rw [if_pos c80] at H
        have c80b0 : (t445 == 0) = true := beq_iff_eq.mpr c80
        have c80b1 : (t445 != 0) = false := bne_eq_false_iff_eq.mpr c80
        clear c80
        replace H := Option.bind_eq_some_iff.mp H
        obtain ⟨t446, A810, H⟩ := H
        replace H : (some t446) = some r := H
        have A81 := Aside0.mk A810
        clear A810
        obtain rfl := Option.some.inj H
        obtain ⟨Ao82, co82, eo82⟩ := Kd.N_slice HO_14.out
        subst eo82
        go_wp2_with (first | (go_at_call 21; (with_reducible refine (licence_Check.calls k1 _ _ t411 _ _ t414 (fun k_ => some k_ = (.slice Ao27 t417.length co27 : Value).ownBlock) _ _ t417 t445 _ ?side1 ?side2 ?side3 ?side4 ?side5 A79.out).mono ?_); (case side1 => repeat (first | exact (Kd.N_reads' HO_11.out).2.2 | (with_reducible refine Kd.C_alloc ?_ _) | (with_reducible refine Kd.C_drewN ?_ _) | (with_reducible refine Kd.C_drew ?_))); (case side2 => exact (Kd.N_reads' HO_11.out).2.1); (case side3 => repeat (first | exact (Kd.R_reads' HO_12.out).2.2 | (with_reducible refine Kd.C_alloc ?_ _) | (with_reducible refine Kd.C_drewN ?_ _) | (with_reducible refine Kd.C_drew ?_))); (case side4 => exact (Kd.R_reads' HO_12.out).2.1); (case side5 => exact Kd.R_V (Kd.R_tight rfl (Kd.R_apart' (Kd.R_apart' (HO_13.out) (Kd.N_typed HO_11.out) (by decide)) (Kd.N_typed HO_14.out) (by decide)))); rintro e w83 ⟨rfl, hb⟩; have n0_ := Aside0.mk (Kd.N_below (chN HO_11) hb); have n1_ := Aside0.mk (Kd.R_below (chR HO_12) hb); have n2_ := Aside0.mk (Kd.R_below (chR HO_13) hb); have n3_ := Aside0.mk (Kd.N_below (chN HO_14) hb); have n4_ := Aside0.mk (Kd.V_below (chV HO_15) hb); have n5_ := Aside0.mk (below_step (chB HB) hb); clear HO_11; clear HO_12; clear HO_13; clear HO_14; clear HO_15; clear HB; have HO_11 := n0_; have HO_12 := n1_; have HO_13 := n2_; have HO_14 := n3_; have HO_15 := n4_; have HB := n5_; clear n0_ n1_ n2_ n3_ n4_ n5_; (try clear hb); (try clear hb2); (try clear hk); (try clear hi)) | (go_at_call 16; (with_reducible refine (splicerylaw41_lives.calls k1  t446 _ A81.out HRT.out).mono ?_); rintro e w84 ⟨rfl, hb⟩; have n0_ := Aside0.mk (Kd.N_below (chN HO_11) hb); have n1_ := Aside0.mk (Kd.R_below (chR HO_12) hb); have n2_ := Aside0.mk (Kd.R_below (chR HO_13) hb); have n3_ := Aside0.mk (Kd.N_below (chN HO_14) hb); have n4_ := Aside0.mk (Kd.V_below (chV HO_15) hb); have n5_ := Aside0.mk (below_step (chB HB) hb); clear HO_11; clear HO_12; clear HO_13; clear HO_14; clear HO_15; clear HB; have HO_11 := n0_; have HO_12 := n1_; have HO_13 := n2_; have HO_14 := n3_; have HO_15 := n4_; have HB := n5_; clear n0_ n1_ n2_ n3_ n4_ n5_; (try clear hb); (try clear hb2); (try clear hk); (try clear hi)))
        go_ret
        exact ⟨by first | rfl | (simp [errW_none, errW_some] <;> rfl) | (simp [*, errW_none, errW_some] <;> rfl), chB HB⟩
       ·rw [if_neg c80] at H
        have c80b0 : (t445 == 0) = false := beq_eq_false_iff_ne.mpr c80
        have c80b1 : (t445 != 0) = true := bne_iff_ne.mpr c80
        obtain rfl := Option.some.inj H
        exact absurd HRT.out (by decide)
  ·rw [if_neg c13] at H
   exact absurd H (by simp)
 ·rw [if_neg c12] at H
  exact absurd H (by simp)

/-- THE ONE PURE STATEMENT of splicerylaw41_LicenceChecks: yours. -/
def splicerylaw41_LicenceChecks.Pure : Prop := ∀ (l0 : List Int) (l1 : List Int) (l2 : List Int) (a3 : Int) (a4 : Int), l0.length ≤ maxLen → l0.length * 8 ≤ 140737488351232 → (∀ x ∈ l0, (Lit.int .i64 x).wf = true) → l1.length ≤ maxLen → l1.length * 8 ≤ 140737488351232 → (∀ x ∈ l1, (Lit.int .i64 x).wf = true) → l2.length ≤ maxLen → l2.length * 8 ≤ 140737488351232 → (∀ x ∈ l2, (Lit.int .i64 x).wf = true) → (Lit.int .i64 a3).wf = true → (Lit.int .i64 a4).wf = true → ∃ k, splicerylaw41_LicenceChecks.f k l0 l1 l2 a3 a4 = some true
theorem splicerylaw41_LicenceChecks.walk (P : splicerylaw41_LicenceChecks.Pure) (a0 : Option Addr) (len0 cap0 : Nat) (z0 : List Int) (a1 : Option Addr) (len1 cap1 : Nat) (z1 : List Int) (a2 : Option Addr) (len2 cap2 : Nat) (z2 : List Int) (a3 : Int) (a4 : Int) (w : World) (w0 : (a0 = none ∧ len0 = 0 ∧ cap0 = 0 ∧ z0 = []) ∨ ∃ x, a0 = some x ∧ len0 ≤ cap0 ∧ cap0 ≤ maxLen ∧ z0.length = cap0 ∧ (∀ i, i < z0.length → w.cell? (x.add i) = some (.int .i64 (z0.getD i 0))) ∧ ∀ n ∈ z0, (Lit.int .i64 n).wf = true) (y0 : len0 * 8 ≤ 140737488351232) (w1 : (a1 = none ∧ len1 = 0 ∧ cap1 = 0 ∧ z1 = []) ∨ ∃ x, a1 = some x ∧ len1 ≤ cap1 ∧ cap1 ≤ maxLen ∧ z1.length = cap1 ∧ (∀ i, i < z1.length → w.cell? (x.add i) = some (.int .i64 (z1.getD i 0))) ∧ ∀ n ∈ z1, (Lit.int .i64 n).wf = true) (y1 : len1 * 8 ≤ 140737488351232) (w2 : (a2 = none ∧ len2 = 0 ∧ cap2 = 0 ∧ z2 = []) ∨ ∃ x, a2 = some x ∧ len2 ≤ cap2 ∧ cap2 ≤ maxLen ∧ z2.length = cap2 ∧ (∀ i, i < z2.length → w.cell? (x.add i) = some (.int .i64 (z2.getD i 0))) ∧ ∀ n ∈ z2, (Lit.int .i64 n).wf = true) (y2 : len2 * 8 ≤ 140737488351232) (w3 : (Lit.int .i64 a3).wf = true) (w4 : (Lit.int .i64 a4).wf = true) :
  Calls Try.prog 5 #[.slice a0 len0 cap0, .slice a1 len1 cap1, .slice a2 len2 cap2, .int .i64 a3, .int .i64 a4] w fun e w' => e = .returned (.bool true) ∧ Below w.heap.size w w' := by
 obtain ⟨l0, rfl, hr0, hm0, hw0, hc0⟩ := ReadsInt.ofRowC w0
 obtain ⟨l1, rfl, hr1, hm1, hw1, hc1⟩ := ReadsInt.ofRowC w1
 obtain ⟨l2, rfl, hr2, hm2, hw2, hc2⟩ := ReadsInt.ofRowC w2
 obtain ⟨k, h⟩ := P l0 l1 l2 a3 a4 hm0 y0 hw0 hm1 y1 hw1 hm2 y2 hw2 w3 w4
 refine (splicerylaw41_LicenceChecks.calls k _ _ l0 _ _ l1 _ _ l2 a3 a4 true w (Kd.C_of_reads (d := (0 : Int)) (h1 := fun _ => rfl) hr0) hc0 (Kd.C_of_reads (d := (0 : Int)) (h1 := fun _ => rfl) hr1) hc1 (Kd.C_of_reads (d := (0 : Int)) (h1 := fun _ => rfl) hr2) hc2 h rfl).mono ?_
 rintro e w' ⟨rfl, hd⟩
 exact ⟨rfl, hd⟩

end Go.Proofs.Ytjagffomohbioaa.L
