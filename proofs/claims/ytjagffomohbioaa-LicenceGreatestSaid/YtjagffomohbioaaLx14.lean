-- Written by a program of this session (patch_print.py over the kit's print) out of the translation. Not trusted: Lean checks it.
import Derived.Test.YtjagffomohbioaaLx0
import Derived.Test.YtjagffomohbioaaLx1
import Derived.Test.YtjagffomohbioaaLx2
import Derived.Test.YtjagffomohbioaaLx3
import Derived.Test.YtjagffomohbioaaLx5
import Derived.Test.YtjagffomohbioaaLx8
import Derived.Test.YtjagffomohbioaaLx13
import Derived.Test.YtjagffomohbioaaGiven
namespace Go.Proofs.Ytjagffomohbioaa.L
open Go.RowKit Go.Proofs.YtjagffomohbioaaW.PrintWords Go.Proofs.YtjagffomohbioaaW.PrintLast Go.Proofs.YtjagffomohbioaaW.PrintMore
attribute [local go_sem] max2_int min2_int max_two min_two max_three min_three max_four min_four   -- for this text's walks alone
set_option linter.unusedVariables false
set_option linter.unusedSimpArgs false

/-! ### splicerylaw41_LicenceGreatest: function 6 -/
mutual
def splicerylaw41_LicenceGreatest.j0 : Nat → List (S36) → List Int → List Int → Bool → Option (Bool)
 | 0, _, _, _, _ => none
 | k + 1, x9, x10, x12, x49 => if x49 = true then (some false) else ((spliceryref41_Sorted.f k x9 x10).bind fun t432 => (splicerylaw41_LicenceGreatest.l0 k x9 x12 t432 0))
def splicerylaw41_LicenceGreatest.l0 : Nat → List (S36) → List Int → List Int → Int → Option (Bool)
 | 0, _, _, _, _ => none
 | k + 1, x9, x12, x13, x14 => if x14 < (x13.length : Int) then (splicerylaw41_LicenceGreatest.l1 k x9 x12 x13 x14 false 0) else ((splicerylaw41_lives.f k).bind fun t435 => (some t435))
def splicerylaw41_LicenceGreatest.l1 : Nat → List (S36) → List Int → List Int → Int → Bool → Int → Option (Bool)
 | 0, _, _, _, _, _, _ => none
 | k + 1, x9, x12, x13, x14, x15, x16 => if x16 < (x12.length : Int) then (if x15 = true then (splicerylaw41_LicenceGreatest.l1 k x9 x12 x13 x14 true (wrap64 (x16 + 1))) else (if 0 ≤ x16 then (if 0 ≤ x14 then (if x14 < (x13.length : Int) then (splicerylaw41_LicenceGreatest.l1 k x9 x12 x13 x14 ((rd x12 x16) == (rd x13 x14)) (wrap64 (x16 + 1))) else (none)) else (none)) else (none))) else (if x15 = true then (splicerylaw41_LicenceGreatest.l0 k x9 x12 x13 (wrap64 (x14 + 1))) else ((some (([] : List Int) : List Int)).bind fun y438 => (if y438.length + x12.length < 17592186044416 then ((some (y438 ++ x12 : List Int)).bind fun y441 => (if 0 ≤ x14 then (if x14 < (x13.length : Int) then ((some (([rd x13 x14] : List Int) : List Int)).bind fun y445 => (if y441.length + y445.length < 17592186044416 then ((licence_Fine.f x9 (y441 ++ y445)).bind fun t451 => (if t451 = true then (some false) else (splicerylaw41_LicenceGreatest.l0 k x9 x12 x13 (wrap64 (x14 + 1))))) else (none))) else (none)) else (none))) else (none))))
end
def splicerylaw41_LicenceGreatest.f (k : Nat) (l0 : List Int) (l1 : List Int) (a2 : Int) (a3 : Int) : Option (Bool) := (spliceryref41_Clauses.f k l0).bind fun t408 => ((spliceryref41_Picks.f k l1).bind fun t411 => ((spliceryref41_Spoilt.f k t408 a2 a3).bind fun t414 => ((licence_Greatest.f k t408 t411).bind fun t417 => ((spliceryref41_Greatest.f k t408 t411).bind fun t420 => ((spliceryref01_SameInts.f k t417 t420).bind fun t423 => (if t423 = true then ((licence_Greatest.f k t414 t411).bind fun t424 => ((spliceryref41_Greatest.f k t414 t411).bind fun t427 => ((spliceryref01_SameInts.f k t424 t427).bind fun t430 => (if t430 = true then ((licence_Fine.f t408 t417).bind fun t431 => (splicerylaw41_LicenceGreatest.j0 k t408 t411 t417 (!t431))) else (splicerylaw41_LicenceGreatest.j0 k t408 t411 t417 true))))) else (splicerylaw41_LicenceGreatest.j0 k t408 t411 t417 true)))))))
def splicerylaw41_LicenceGreatest.T15 : Bool × List (List Nat × List Nat) := (true, [([], []), ([0], [0]), ([1], [1]), ([1], [1]), ([2, 3, 1], [1, 2, 3]), ([4, 1], [1, 4]), ([1], [1]), ([1], [1]), ([6, 7, 1], [1, 6, 7]), ([8, 1], [1, 8]), ([5, 9, 1], [1, 5, 9]), ([1, 10], [1, 10]), ([11, 1, 0, 1, 2, 3, 4, 5, 6, 7, 8, 9, 10, 11], [0, 11])])
def splicerylaw41_LicenceGreatest.B15 : List Nat := [0, 1, 3, 3, 15, 31, 3, 3, 195, 451, 1023, 2047, 4095]
theorem splicerylaw41_LicenceGreatest.tab15 : rtab .any (opsOf Try.f6 15) = splicerylaw41_LicenceGreatest.T15 := by kernel_rfl
theorem splicerylaw41_LicenceGreatest.bits15 : waitsOk splicerylaw41_LicenceGreatest.T15.2 splicerylaw41_LicenceGreatest.B15 = true := by kernel_rfl
def splicerylaw41_LicenceGreatest.T16 : Bool × List (List Nat × List Nat) := (true, [([], []), ([0], [0]), ([1], [1]), ([2], [2]), ([2], [2]), ([2], [2]), ([4, 5, 2, 2], [2, 4, 5]), ([2], [2]), ([2], [2]), ([7, 8, 2], [2, 7, 8]), ([9, 2], [2, 9]), ([10, 2], [2, 10]), ([6, 11, 6, 2], [2, 6, 11]), ([3, 12, 12, 2], [2, 3, 12]), ([2, 13], [2, 13])])
def splicerylaw41_LicenceGreatest.B16 : List Nat := [0, 1, 3, 7, 7, 7, 55, 7, 7, 391, 903, 1927, 4087, 8191, 16383]
theorem splicerylaw41_LicenceGreatest.tab16 : rtab .any (opsOf Try.f6 16) = splicerylaw41_LicenceGreatest.T16 := by kernel_rfl
theorem splicerylaw41_LicenceGreatest.bits16 : waitsOk splicerylaw41_LicenceGreatest.T16.2 splicerylaw41_LicenceGreatest.B16 = true := by kernel_rfl
set_option maxHeartbeats 8000000 in
set_option maxRecDepth 100000 in
theorem splicerylaw41_LicenceGreatest.calls (k : Nat) (A0 : Option Addr) (c0 : Nat) (l0 : List Int) (A1 : Option Addr) (c1 : Nat) (l1 : List Int) (a2 : Int) (a3 : Int) (r : Bool) (w : World) (hr0 : Kd.C (Kd.int .i64) w A0 l0.length l0) (hc0 : l0.length ≤ c0) (hr1 : Kd.C (Kd.int .i64) w A1 l1.length l1) (hc1 : l1.length ≤ c1) (h : splicerylaw41_LicenceGreatest.f k l0 l1 a2 a3 = some r) :
  Calls Try.prog 6 #[.slice A0 l0.length c0, .slice A1 l1.length c1, .int .i64 a2, .int .i64 a3] w fun e w' => e = .returned (.bool r) ∧ Below w.heap.size w w' := by
 have HR0 := Aside0.mk hr0
 have HC0 := Aside0.mk hc0
 clear hr0 hc0
 have HR1 := Aside0.mk hr1
 have HC1 := Aside0.mk hc1
 clear hr1 hc1
 have HB := Aside0.mk (Below.refl w.heap.size w)
 have H : ((spliceryref41_Clauses.f k l0).bind fun t408 => ((spliceryref41_Picks.f k l1).bind fun t411 => ((spliceryref41_Spoilt.f k t408 a2 a3).bind fun t414 => ((licence_Greatest.f k t408 t411).bind fun t417 => ((spliceryref41_Greatest.f k t408 t411).bind fun t420 => ((spliceryref01_SameInts.f k t417 t420).bind fun t423 => (if t423 = true then ((licence_Greatest.f k t414 t411).bind fun t424 => ((spliceryref41_Greatest.f k t414 t411).bind fun t427 => ((spliceryref01_SameInts.f k t424 t427).bind fun t430 => (if t430 = true then ((licence_Fine.f t408 t417).bind fun t431 => (splicerylaw41_LicenceGreatest.j0 k t408 t411 t417 (!t431))) else (splicerylaw41_LicenceGreatest.j0 k t408 t411 t417 true))))) else (splicerylaw41_LicenceGreatest.j0 k t408 t411 t417 true)))))))) = some r := h
 clear h
 replace H := Option.bind_eq_some_iff.mp H
 obtain ⟨t408, A50, H⟩ := H
 replace H : ((spliceryref41_Picks.f k l1).bind fun t411 => ((spliceryref41_Spoilt.f k t408 a2 a3).bind fun t414 => ((licence_Greatest.f k t408 t411).bind fun t417 => ((spliceryref41_Greatest.f k t408 t411).bind fun t420 => ((spliceryref01_SameInts.f k t417 t420).bind fun t423 => (if t423 = true then ((licence_Greatest.f k t414 t411).bind fun t424 => ((spliceryref41_Greatest.f k t414 t411).bind fun t427 => ((spliceryref01_SameInts.f k t424 t427).bind fun t430 => (if t430 = true then ((licence_Fine.f t408 t417).bind fun t431 => (splicerylaw41_LicenceGreatest.j0 k t408 t411 t417 (!t431))) else (splicerylaw41_LicenceGreatest.j0 k t408 t411 t417 true))))) else (splicerylaw41_LicenceGreatest.j0 k t408 t411 t417 true))))))) = some r := H
 have A5 := Aside0.mk A50
 clear A50
 replace H := Option.bind_eq_some_iff.mp H
 obtain ⟨t411, A60, H⟩ := H
 replace H : ((spliceryref41_Spoilt.f k t408 a2 a3).bind fun t414 => ((licence_Greatest.f k t408 t411).bind fun t417 => ((spliceryref41_Greatest.f k t408 t411).bind fun t420 => ((spliceryref01_SameInts.f k t417 t420).bind fun t423 => (if t423 = true then ((licence_Greatest.f k t414 t411).bind fun t424 => ((spliceryref41_Greatest.f k t414 t411).bind fun t427 => ((spliceryref01_SameInts.f k t424 t427).bind fun t430 => (if t430 = true then ((licence_Fine.f t408 t417).bind fun t431 => (splicerylaw41_LicenceGreatest.j0 k t408 t411 t417 (!t431))) else (splicerylaw41_LicenceGreatest.j0 k t408 t411 t417 true))))) else (splicerylaw41_LicenceGreatest.j0 k t408 t411 t417 true)))))) = some r := H
 have A6 := Aside0.mk A60
 clear A60
 replace H := Option.bind_eq_some_iff.mp H
 obtain ⟨t414, A70, H⟩ := H
 replace H : ((licence_Greatest.f k t408 t411).bind fun t417 => ((spliceryref41_Greatest.f k t408 t411).bind fun t420 => ((spliceryref01_SameInts.f k t417 t420).bind fun t423 => (if t423 = true then ((licence_Greatest.f k t414 t411).bind fun t424 => ((spliceryref41_Greatest.f k t414 t411).bind fun t427 => ((spliceryref01_SameInts.f k t424 t427).bind fun t430 => (if t430 = true then ((licence_Fine.f t408 t417).bind fun t431 => (splicerylaw41_LicenceGreatest.j0 k t408 t411 t417 (!t431))) else (splicerylaw41_LicenceGreatest.j0 k t408 t411 t417 true))))) else (splicerylaw41_LicenceGreatest.j0 k t408 t411 t417 true))))) = some r := H
 have A7 := Aside0.mk A70
 clear A70
 replace H := Option.bind_eq_some_iff.mp H
 obtain ⟨t417, A80, H⟩ := H
 replace H : ((spliceryref41_Greatest.f k t408 t411).bind fun t420 => ((spliceryref01_SameInts.f k t417 t420).bind fun t423 => (if t423 = true then ((licence_Greatest.f k t414 t411).bind fun t424 => ((spliceryref41_Greatest.f k t414 t411).bind fun t427 => ((spliceryref01_SameInts.f k t424 t427).bind fun t430 => (if t430 = true then ((licence_Fine.f t408 t417).bind fun t431 => (splicerylaw41_LicenceGreatest.j0 k t408 t411 t417 (!t431))) else (splicerylaw41_LicenceGreatest.j0 k t408 t411 t417 true))))) else (splicerylaw41_LicenceGreatest.j0 k t408 t411 t417 true)))) = some r := H
 have A8 := Aside0.mk A80
 clear A80
 have HC9 := Aside0.mk H
 clear H
 go_enter Try.func6, Try.ntmps6
 go_upto_region 5 with (first | ((with_reducible refine gate_callee (f := 9) rfl ?_); refine goesL_ (some 18) rfl rfl Try.func9 (by kernel_rfl) rfl #[.slice A0 l0.length c0] rfl (by (try simp only [List.map_toArray, List.map_cons, List.map_nil]); first | done | rfl | (simp only [List.length_drop, List.length_take]; rfl)) ?_; (with_reducible refine (spliceryref41_Clauses.calls k _ _ l0 t408 _ ?side1 ?side2 A5.out).mono ?_); (case side1 => repeat (first | exact HR0.out | (with_reducible refine Kd.C_alloc ?_ _) | (with_reducible refine Kd.C_drewN ?_ _) | (with_reducible refine Kd.C_drew ?_))); (case side2 => exact HC0.out); rintro e w10 ⟨v409, rfl, ho0, hb⟩; refine ⟨_, rfl, ?_⟩; have n0_ := Aside0.mk (Kd.S_lower ho0 (below_size (chB HB))); have n1_ := Aside0.mk (below_step (chB HB) hb); clear HB; have HO410 := n0_; have HB := n1_; clear n0_ n1_; (try clear hb); (try clear hb2); (try clear hk); (try clear hi); (try clear ho0)) | ((with_reducible refine gate_callee (f := 14) rfl ?_); refine goesL_ (some 20) rfl rfl Try.func14 (by kernel_rfl) rfl #[.slice A1 l1.length c1] rfl (by (try simp only [List.map_toArray, List.map_cons, List.map_nil]); first | done | rfl | (simp only [List.length_drop, List.length_take]; rfl)) ?_; (with_reducible refine (spliceryref41_Picks.calls k _ _ l1 t411 _ ?side1 ?side2 A6.out).mono ?_); (case side1 => repeat (first | exact (Kd.C_below HR1.out HB.out) | (with_reducible refine Kd.C_alloc ?_ _) | (with_reducible refine Kd.C_drewN ?_ _) | (with_reducible refine Kd.C_drew ?_))); (case side2 => exact HC1.out); rintro e w11 ⟨v412, rfl, ho0, hb⟩; refine ⟨_, rfl, ?_⟩; have n0_ := Aside0.mk (Kd.S_below (by (with_reducible repeat (first | apply Kd.S_alloc | apply Kd.S_drewN | apply Kd.S_drew)); exact HO410.out) hb); have n1_ := Aside0.mk (Kd.R_lower ho0 (below_size (chB HB))); have n2_ := Aside0.mk (below_step (chB HB) hb); clear HO410; clear HB; have HO410 := n0_; have HO413 := n1_; have HB := n2_; clear n0_ n1_ n2_; (try clear hb); (try clear hb2); (try clear hk); (try clear hi); (try clear ho0); obtain ⟨Ao12, co12, eo12⟩ := Kd.S_slice HO410.out; subst eo12) | ((with_reducible refine gate_callee (f := 10) rfl ?_); refine goesL_ (some 24) rfl rfl Try.func10 (by kernel_rfl) rfl #[.slice Ao12 t408.length co12, .int .i64 a2, .int .i64 a3] rfl (by (try simp only [List.map_toArray, List.map_cons, List.map_nil]); first | done | rfl | (simp only [List.length_drop, List.length_take]; rfl)) ?_; (with_reducible refine (spliceryref41_Spoilt.calls k (fun k_ => (True ∧ some k_ ≠ (v412 : Value).ownBlock)) _ _ t408 a2 a3 t414 _ ?side1 A7.out).mono ?_); (case side1 => exact Kd.S_V (Kd.S_apart' (HO410.out) (Kd.R_typed HO413.out) (by decide))); rintro e w13 ⟨v415, rfl, ho0, hb⟩; refine ⟨_, rfl, ?_⟩; have n0_ := Aside0.mk (Kd.S_below (by (with_reducible repeat (first | apply Kd.S_alloc | apply Kd.S_drewN | apply Kd.S_drew)); exact HO410.out) hb); have n1_ := Aside0.mk (Kd.R_below (chR HO413) hb); have n2_ := Aside0.mk (Kd.V_lower (Kd.V_mono (ok' := fun k_ => some k_ ≠ (v412 : Value).ownBlock) ho0 (fun k_ hk_ => Or.elim hk_ (fun hs_ => hs_.2) (fun hn_ => (Kd.fresh' (Kd.R_lt (chR HO413)) k_ hn_)))) (below_size (chB HB))); have n3_ := Aside0.mk (below_step (chB HB) hb); clear HO410; clear HO413; clear HB; have HO410 := n0_; have HO413 := n1_; have HO416 := n2_; have HB := n3_; clear n0_ n1_ n2_ n3_; (try clear hb); (try clear hb2); (try clear hk); (try clear hi); (try clear ho0); obtain ⟨Ao14, co14, eo14⟩ := Kd.R_slice HO413.out; subst eo14) | ((with_reducible refine gate_callee (f := 23) rfl ?_); refine goesL_ (some 27) rfl rfl Try.func23 (by kernel_rfl) rfl #[.slice Ao12 t408.length co12, .slice Ao14 t411.length co14] rfl (by (try simp only [List.map_toArray, List.map_cons, List.map_nil]); first | done | rfl | (simp only [List.length_drop, List.length_take]; rfl)) ?_; (with_reducible refine (licence_Greatest.calls k _ _ t408 _ _ t411 t417 _ ?side1 ?side2 ?side3 ?side4 A8.out).mono ?_); (case side1 => repeat (first | exact (Kd.S_reads' HO410.out).2.2 | (with_reducible refine Kd.C_alloc ?_ _) | (with_reducible refine Kd.C_drewN ?_ _) | (with_reducible refine Kd.C_drew ?_))); (case side2 => exact (Kd.S_reads' HO410.out).2.1); (case side3 => repeat (first | exact (Kd.R_reads' HO413.out).2.2 | (with_reducible refine Kd.C_alloc ?_ _) | (with_reducible refine Kd.C_drewN ?_ _) | (with_reducible refine Kd.C_drew ?_))); (case side4 => exact (Kd.R_reads' HO413.out).2.1); rintro e w15 ⟨v418, rfl, ho0, hb⟩; refine ⟨_, rfl, ?_⟩; have n0_ := Aside0.mk (Kd.S_below (by (with_reducible repeat (first | apply Kd.S_alloc | apply Kd.S_drewN | apply Kd.S_drew)); exact HO410.out) hb); have n1_ := Aside0.mk (Kd.R_elder' (chR HO413) (Kd.R_base ho0) hb); have n2_ := Aside0.mk (Kd.V_elder' (chV HO416) (Kd.R_base ho0) hb); have n3_ := Aside0.mk (Kd.R_lower (Kd.R_new' ho0 (Kd.R_lt (chR HO413))) (below_size (chB HB))); have n4_ := Aside0.mk (below_step (chB HB) hb); clear HO410; clear HO413; clear HO416; clear HB; have HO410 := n0_; have HO413 := n1_; have HO416 := n2_; have HO419 := n3_; have HB := n4_; clear n0_ n1_ n2_ n3_ n4_; (try clear hb); (try clear hb2); (try clear hk); (try clear hi); (try clear ho0)))
 (try simp only [Act.put, List.setIfInBounds_toArray, List.set_cons_zero, List.set_cons_succ])
 go_cut [49] (fun v49 wc => ∃ (kq : Nat) (x49_8 : Bool), v49 = .bool x49_8 ∧ Aside0 (splicerylaw41_LicenceGreatest.j0 kq t408 t411 t417 x49_8 = some r) ∧ Aside0 (kq ≤ k) ∧ Aside0 (Kd.S k36 36 wc w.heap.size (fun _ => True) (.slice Ao12 t408.length co12) t408) ∧ Aside0 (Kd.R (Kd.int .i64) 3 wc w.heap.size (fun k_ => some k_ ≠ (v418 : Value).ownBlock) (.slice Ao14 t411.length co14) t411) ∧ Aside0 (Kd.R (Kd.int .i64) 3 wc w.heap.size (fun k_ => some k_ ≠ ((.slice Ao14 t411.length co14) : Value).ownBlock) v418 t417) ∧ Aside0 (Below w.heap.size w wc))
 case first =>
  have H := HC9.out
  clear HC9
  replace H := Option.bind_eq_some_iff.mp H
  obtain ⟨t420, A160, H⟩ := H
  replace H : ((spliceryref01_SameInts.f k t417 t420).bind fun t423 => (if t423 = true then ((licence_Greatest.f k t414 t411).bind fun t424 => ((spliceryref41_Greatest.f k t414 t411).bind fun t427 => ((spliceryref01_SameInts.f k t424 t427).bind fun t430 => (if t430 = true then ((licence_Fine.f t408 t417).bind fun t431 => (splicerylaw41_LicenceGreatest.j0 k t408 t411 t417 (!t431))) else (splicerylaw41_LicenceGreatest.j0 k t408 t411 t417 true))))) else (splicerylaw41_LicenceGreatest.j0 k t408 t411 t417 true))) = some r := H
  have A16 := Aside0.mk A160
  clear A160
  replace H := Option.bind_eq_some_iff.mp H
  obtain ⟨t423, A170, H⟩ := H
  replace H : (if t423 = true then ((licence_Greatest.f k t414 t411).bind fun t424 => ((spliceryref41_Greatest.f k t414 t411).bind fun t427 => ((spliceryref01_SameInts.f k t424 t427).bind fun t430 => (if t430 = true then ((licence_Fine.f t408 t417).bind fun t431 => (splicerylaw41_LicenceGreatest.j0 k t408 t411 t417 (!t431))) else (splicerylaw41_LicenceGreatest.j0 k t408 t411 t417 true))))) else (splicerylaw41_LicenceGreatest.j0 k t408 t411 t417 true)) = some r := H
  have A17 := Aside0.mk A170
  clear A170
  by_cases c18 : t423 = true
  ·subst c18
   have H1 : ((licence_Greatest.f k t414 t411).bind fun t424 => ((spliceryref41_Greatest.f k t414 t411).bind fun t427 => ((spliceryref01_SameInts.f k t424 t427).bind fun t430 => (if t430 = true then ((licence_Fine.f t408 t417).bind fun t431 => (splicerylaw41_LicenceGreatest.j0 k t408 t411 t417 (!t431))) else (splicerylaw41_LicenceGreatest.j0 k t408 t411 t417 true))))) = some r := by rw [if_pos rfl] at H; exact H
   clear H
   have H := H1
   clear H1
   replace H := Option.bind_eq_some_iff.mp H
   obtain ⟨t424, A190, H⟩ := H
   replace H : ((spliceryref41_Greatest.f k t414 t411).bind fun t427 => ((spliceryref01_SameInts.f k t424 t427).bind fun t430 => (if t430 = true then ((licence_Fine.f t408 t417).bind fun t431 => (splicerylaw41_LicenceGreatest.j0 k t408 t411 t417 (!t431))) else (splicerylaw41_LicenceGreatest.j0 k t408 t411 t417 true)))) = some r := H
   have A19 := Aside0.mk A190
   clear A190
   replace H := Option.bind_eq_some_iff.mp H
   obtain ⟨t427, A200, H⟩ := H
   replace H : ((spliceryref01_SameInts.f k t424 t427).bind fun t430 => (if t430 = true then ((licence_Fine.f t408 t417).bind fun t431 => (splicerylaw41_LicenceGreatest.j0 k t408 t411 t417 (!t431))) else (splicerylaw41_LicenceGreatest.j0 k t408 t411 t417 true))) = some r := H
   have A20 := Aside0.mk A200
   clear A200
   replace H := Option.bind_eq_some_iff.mp H
   obtain ⟨t430, A210, H⟩ := H
   replace H : (if t430 = true then ((licence_Fine.f t408 t417).bind fun t431 => (splicerylaw41_LicenceGreatest.j0 k t408 t411 t417 (!t431))) else (splicerylaw41_LicenceGreatest.j0 k t408 t411 t417 true)) = some r := H
   have A21 := Aside0.mk A210
   clear A210
   by_cases c22 : t430 = true
   ·subst c22
    have H1 : ((licence_Fine.f t408 t417).bind fun t431 => (splicerylaw41_LicenceGreatest.j0 k t408 t411 t417 (!t431))) = some r := by rw [if_pos rfl] at H; exact H
    clear H
    have H := H1
    clear H1
    replace H := Option.bind_eq_some_iff.mp H
    obtain ⟨t431, A230, H⟩ := H
    replace H : (splicerylaw41_LicenceGreatest.j0 k t408 t411 t417 (!t431)) = some r := H
    have A23 := Aside0.mk A230
    clear A230
    have H' := Aside0.mk H
    clear H
    go_wp2_with (first | ((with_reducible refine gate_callee (f := 24) rfl ?_); refine goesL_ (some 31) rfl rfl Try.func24 (by kernel_rfl) rfl #[.slice Ao12 t408.length co12, .slice Ao14 t411.length co14] rfl (by (try simp only [List.map_toArray, List.map_cons, List.map_nil]); first | done | rfl | (simp only [List.length_drop, List.length_take]; rfl)) ?_; (with_reducible refine (spliceryref41_Greatest.calls k _ _ t408 _ _ t411 t420 _ ?side1 ?side2 ?side3 ?side4 A16.out).mono ?_); (case side1 => repeat (first | exact (Kd.S_reads' HO410.out).2.2 | (with_reducible refine Kd.C_alloc ?_ _) | (with_reducible refine Kd.C_drewN ?_ _) | (with_reducible refine Kd.C_drew ?_))); (case side2 => exact (Kd.S_reads' HO410.out).2.1); (case side3 => repeat (first | exact (Kd.R_reads' HO413.out).2.2 | (with_reducible refine Kd.C_alloc ?_ _) | (with_reducible refine Kd.C_drewN ?_ _) | (with_reducible refine Kd.C_drew ?_))); (case side4 => exact (Kd.R_reads' HO413.out).2.1); rintro e w24 ⟨v421, rfl, ho0, hb⟩; refine ⟨_, rfl, ?_⟩; have n0_ := Aside0.mk (Kd.S_below (by (with_reducible repeat (first | apply Kd.S_alloc | apply Kd.S_drewN | apply Kd.S_drew)); exact HO410.out) hb); have n1_ := Aside0.mk (Kd.R_elder' (chR HO413) (Kd.R_base ho0) hb); have n2_ := Aside0.mk (Kd.V_elder' (chV HO416) (Kd.R_base ho0) hb); have n3_ := Aside0.mk (Kd.R_elder' (chR HO419) (Kd.R_base ho0) hb); have n4_ := Aside0.mk (Kd.R_lower (Kd.R_new' (Kd.R_new' ho0 (Kd.R_lt (chR HO413))) (Kd.R_lt (chR HO419))) (below_size (chB HB))); have n5_ := Aside0.mk (below_step (chB HB) hb); clear HO410; clear HO413; clear HO416; clear HO419; clear HB; have HO410 := n0_; have HO413 := n1_; have HO416 := n2_; have HO419 := n3_; have HO422 := n4_; have HB := n5_; clear n0_ n1_ n2_ n3_ n4_ n5_; (try clear hb); (try clear hb2); (try clear hk); (try clear hi); (try clear ho0); obtain ⟨Ao25, co25, eo25⟩ := Kd.R_slice HO419.out; subst eo25; obtain ⟨Ao26, co26, eo26⟩ := Kd.R_slice HO422.out; subst eo26) | ((with_reducible refine gate_callee (f := 17) rfl ?_); refine goesL_ (some 32) rfl rfl Try.func17 (by kernel_rfl) rfl #[.slice Ao25 t417.length co25, .slice Ao26 t420.length co26] rfl (by (try simp only [List.map_toArray, List.map_cons, List.map_nil]); first | done | rfl | (simp only [List.length_drop, List.length_take]; rfl)) ?_; (with_reducible refine (spliceryref01_SameInts.calls k _ _ t417 _ _ t420 true _ ?side1 ?side2 ?side3 ?side4 A17.out).mono ?_); (case side1 => repeat (first | exact (Kd.R_reads' HO419.out).2.2 | (with_reducible refine Kd.C_alloc ?_ _) | (with_reducible refine Kd.C_drewN ?_ _) | (with_reducible refine Kd.C_drew ?_))); (case side2 => exact (Kd.R_reads' HO419.out).2.1); (case side3 => repeat (first | exact (Kd.R_reads' HO422.out).2.2 | (with_reducible refine Kd.C_alloc ?_ _) | (with_reducible refine Kd.C_drewN ?_ _) | (with_reducible refine Kd.C_drew ?_))); (case side4 => exact (Kd.R_reads' HO422.out).2.1); rintro e w' ⟨rfl, ⟨nd, rfl⟩⟩; refine ⟨_, rfl, ?_⟩; obtain ⟨Ao27, co27, eo27⟩ := Kd.V_slice HO416.out; subst eo27) | (go_at_call 23; (with_reducible refine (licence_Greatest.calls k _ _ t414 _ _ t411 t424 _ ?side1 ?side2 ?side3 ?side4 A19.out).mono ?_); (case side1 => repeat (first | exact (Kd.V_reads' HO416.out).2.2 | (with_reducible refine Kd.C_alloc ?_ _) | (with_reducible refine Kd.C_drewN ?_ _) | (with_reducible refine Kd.C_drew ?_))); (case side2 => exact (Kd.V_reads' HO416.out).2.1); (case side3 => repeat (first | exact (Kd.R_reads' HO413.out).2.2 | (with_reducible refine Kd.C_alloc ?_ _) | (with_reducible refine Kd.C_drewN ?_ _) | (with_reducible refine Kd.C_drew ?_))); (case side4 => exact (Kd.R_reads' HO413.out).2.1); rintro e w28 ⟨v425, rfl, ho0, hb⟩; have n0_ := Aside0.mk (Kd.S_below (by (with_reducible repeat (first | apply Kd.S_alloc | apply Kd.S_drewN | apply Kd.S_drew)); exact HO410.out) hb); have n1_ := Aside0.mk (Kd.R_elder' (chR HO413) (Kd.R_base ho0) hb); have n2_ := Aside0.mk (Kd.V_elder' (chV HO416) (Kd.R_base ho0) hb); have n3_ := Aside0.mk (Kd.R_elder' (chR HO419) (Kd.R_base ho0) hb); have n4_ := Aside0.mk (Kd.R_elder' (chR HO422) (Kd.R_base ho0) hb); have n5_ := Aside0.mk (Kd.R_lower (Kd.R_new' (Kd.R_new' (Kd.R_new' ho0 (Kd.R_lt (chR HO413))) (Kd.R_lt (chR HO419))) (Kd.R_lt (chR HO422))) (below_size (chB HB))); have n6_ := Aside0.mk (below_step (chB HB) hb); clear HO410; clear HO413; clear HO416; clear HO419; clear HO422; clear HB; have HO410 := n0_; have HO413 := n1_; have HO416 := n2_; have HO419 := n3_; have HO422 := n4_; have HO426 := n5_; have HB := n6_; clear n0_ n1_ n2_ n3_ n4_ n5_ n6_; (try clear hb); (try clear hb2); (try clear hk); (try clear hi); (try clear ho0)) | (go_at_call 24; (with_reducible refine (spliceryref41_Greatest.calls k _ _ t414 _ _ t411 t427 _ ?side1 ?side2 ?side3 ?side4 A20.out).mono ?_); (case side1 => repeat (first | exact (Kd.V_reads' HO416.out).2.2 | (with_reducible refine Kd.C_alloc ?_ _) | (with_reducible refine Kd.C_drewN ?_ _) | (with_reducible refine Kd.C_drew ?_))); (case side2 => exact (Kd.V_reads' HO416.out).2.1); (case side3 => repeat (first | exact (Kd.R_reads' HO413.out).2.2 | (with_reducible refine Kd.C_alloc ?_ _) | (with_reducible refine Kd.C_drewN ?_ _) | (with_reducible refine Kd.C_drew ?_))); (case side4 => exact (Kd.R_reads' HO413.out).2.1); rintro e w29 ⟨v428, rfl, ho0, hb⟩; have n0_ := Aside0.mk (Kd.S_below (by (with_reducible repeat (first | apply Kd.S_alloc | apply Kd.S_drewN | apply Kd.S_drew)); exact HO410.out) hb); have n1_ := Aside0.mk (Kd.R_elder' (chR HO413) (Kd.R_base ho0) hb); have n2_ := Aside0.mk (Kd.V_elder' (chV HO416) (Kd.R_base ho0) hb); have n3_ := Aside0.mk (Kd.R_elder' (chR HO419) (Kd.R_base ho0) hb); have n4_ := Aside0.mk (Kd.R_elder' (chR HO422) (Kd.R_base ho0) hb); have n5_ := Aside0.mk (Kd.R_elder' (chR HO426) (Kd.R_base ho0) hb); have n6_ := Aside0.mk (Kd.R_lower (Kd.R_new' (Kd.R_new' (Kd.R_new' (Kd.R_new' ho0 (Kd.R_lt (chR HO413))) (Kd.R_lt (chR HO419))) (Kd.R_lt (chR HO422))) (Kd.R_lt (chR HO426))) (below_size (chB HB))); have n7_ := Aside0.mk (below_step (chB HB) hb); clear HO410; clear HO413; clear HO416; clear HO419; clear HO422; clear HO426; clear HB; have HO410 := n0_; have HO413 := n1_; have HO416 := n2_; have HO419 := n3_; have HO422 := n4_; have HO426 := n5_; have HO429 := n6_; have HB := n7_; clear n0_ n1_ n2_ n3_ n4_ n5_ n6_ n7_; (try clear hb); (try clear hb2); (try clear hk); (try clear hi); (try clear ho0); obtain ⟨Ao30, co30, eo30⟩ := Kd.R_slice HO426.out; subst eo30; obtain ⟨Ao31, co31, eo31⟩ := Kd.R_slice HO429.out; subst eo31) | (go_at_call 17; (with_reducible refine (spliceryref01_SameInts.calls k _ _ t424 _ _ t427 true _ ?side1 ?side2 ?side3 ?side4 A21.out).mono ?_); (case side1 => repeat (first | exact (Kd.R_reads' HO426.out).2.2 | (with_reducible refine Kd.C_alloc ?_ _) | (with_reducible refine Kd.C_drewN ?_ _) | (with_reducible refine Kd.C_drew ?_))); (case side2 => exact (Kd.R_reads' HO426.out).2.1); (case side3 => repeat (first | exact (Kd.R_reads' HO429.out).2.2 | (with_reducible refine Kd.C_alloc ?_ _) | (with_reducible refine Kd.C_drewN ?_ _) | (with_reducible refine Kd.C_drew ?_))); (case side4 => exact (Kd.R_reads' HO429.out).2.1); rintro e w' ⟨rfl, ⟨nd, rfl⟩⟩) | (go_at_call 13; (with_reducible refine (licence_Fine.calls _ _ t408 _ _ t417 t431 _ ?side1 ?side2 ?side3 ?side4 A23.out).mono ?_); (case side1 => repeat (first | exact (Kd.S_reads' HO410.out).2.2 | (with_reducible refine Kd.C_alloc ?_ _) | (with_reducible refine Kd.C_drewN ?_ _) | (with_reducible refine Kd.C_drew ?_))); (case side2 => exact (Kd.S_reads' HO410.out).2.1); (case side3 => repeat (first | exact (Kd.R_reads' HO419.out).2.2 | (with_reducible refine Kd.C_alloc ?_ _) | (with_reducible refine Kd.C_drewN ?_ _) | (with_reducible refine Kd.C_drew ?_))); (case side4 => exact (Kd.R_reads' HO419.out).2.1); rintro e w32 ⟨rfl, hb⟩; have n0_ := Aside0.mk (Kd.S_below (by (with_reducible repeat (first | apply Kd.S_alloc | apply Kd.S_drewN | apply Kd.S_drew)); exact HO410.out) hb); have n1_ := Aside0.mk (Kd.R_below (chR HO413) hb); have n2_ := Aside0.mk (Kd.V_below (chV HO416) hb); have n3_ := Aside0.mk (Kd.R_below (chR HO419) hb); have n4_ := Aside0.mk (Kd.R_below (chR HO422) hb); have n5_ := Aside0.mk (Kd.R_below (chR HO426) hb); have n6_ := Aside0.mk (Kd.R_below (chR HO429) hb); have n7_ := Aside0.mk (below_step (chB HB) hb); clear HO410; clear HO413; clear HO416; clear HO419; clear HO422; clear HO426; clear HO429; clear HB; have HO410 := n0_; have HO413 := n1_; have HO416 := n2_; have HO419 := n3_; have HO422 := n4_; have HO426 := n5_; have HO429 := n6_; have HB := n7_; clear n0_ n1_ n2_ n3_ n4_ n5_ n6_ n7_; (try clear hb); (try clear hb2); (try clear hk); (try clear hi)))
    go_meet
    case rel => exact ⟨_, (!t431), (by first | rfl | (simp; done) | (simp [*]; done)), H', ⟨by first | omega | exact Nat.le_refl _⟩, ⟨by (with_reducible repeat (first | apply Kd.S_alloc | apply Kd.S_drewN | apply Kd.S_drew)); exact HO410.out⟩, ⟨by (with_reducible repeat (first | apply Kd.R_alloc | apply Kd.R_drewN | apply Kd.R_drew)); exact Kd.R_mono HO413.out (fun _ hk => hk.1.1.1.2)⟩, ⟨by (with_reducible repeat (first | apply Kd.R_alloc | apply Kd.R_drewN | apply Kd.R_drew)); exact Kd.R_mono HO419.out (fun _ hk => hk.1.1.1.2)⟩, ⟨chB HB⟩⟩
   ·replace c22 := Bool.eq_false_iff.mpr c22
    subst c22
    have H1 : (splicerylaw41_LicenceGreatest.j0 k t408 t411 t417 true) = some r := by rw [if_neg (show ¬ (false = true) by decide)] at H; exact H
    clear H
    have H := H1
    clear H1
    have H' := Aside0.mk H
    clear H
    go_wp2_with (first | ((with_reducible refine gate_callee (f := 24) rfl ?_); refine goesL_ (some 31) rfl rfl Try.func24 (by kernel_rfl) rfl #[.slice Ao12 t408.length co12, .slice Ao14 t411.length co14] rfl (by (try simp only [List.map_toArray, List.map_cons, List.map_nil]); first | done | rfl | (simp only [List.length_drop, List.length_take]; rfl)) ?_; (with_reducible refine (spliceryref41_Greatest.calls k _ _ t408 _ _ t411 t420 _ ?side1 ?side2 ?side3 ?side4 A16.out).mono ?_); (case side1 => repeat (first | exact (Kd.S_reads' HO410.out).2.2 | (with_reducible refine Kd.C_alloc ?_ _) | (with_reducible refine Kd.C_drewN ?_ _) | (with_reducible refine Kd.C_drew ?_))); (case side2 => exact (Kd.S_reads' HO410.out).2.1); (case side3 => repeat (first | exact (Kd.R_reads' HO413.out).2.2 | (with_reducible refine Kd.C_alloc ?_ _) | (with_reducible refine Kd.C_drewN ?_ _) | (with_reducible refine Kd.C_drew ?_))); (case side4 => exact (Kd.R_reads' HO413.out).2.1); rintro e w33 ⟨v421, rfl, ho0, hb⟩; refine ⟨_, rfl, ?_⟩; have n0_ := Aside0.mk (Kd.S_below (by (with_reducible repeat (first | apply Kd.S_alloc | apply Kd.S_drewN | apply Kd.S_drew)); exact HO410.out) hb); have n1_ := Aside0.mk (Kd.R_elder' (chR HO413) (Kd.R_base ho0) hb); have n2_ := Aside0.mk (Kd.V_elder' (chV HO416) (Kd.R_base ho0) hb); have n3_ := Aside0.mk (Kd.R_elder' (chR HO419) (Kd.R_base ho0) hb); have n4_ := Aside0.mk (Kd.R_lower (Kd.R_new' (Kd.R_new' ho0 (Kd.R_lt (chR HO413))) (Kd.R_lt (chR HO419))) (below_size (chB HB))); have n5_ := Aside0.mk (below_step (chB HB) hb); clear HO410; clear HO413; clear HO416; clear HO419; clear HB; have HO410 := n0_; have HO413 := n1_; have HO416 := n2_; have HO419 := n3_; have HO422 := n4_; have HB := n5_; clear n0_ n1_ n2_ n3_ n4_ n5_; (try clear hb); (try clear hb2); (try clear hk); (try clear hi); (try clear ho0); obtain ⟨Ao34, co34, eo34⟩ := Kd.R_slice HO419.out; subst eo34; obtain ⟨Ao35, co35, eo35⟩ := Kd.R_slice HO422.out; subst eo35) | ((with_reducible refine gate_callee (f := 17) rfl ?_); refine goesL_ (some 32) rfl rfl Try.func17 (by kernel_rfl) rfl #[.slice Ao34 t417.length co34, .slice Ao35 t420.length co35] rfl (by (try simp only [List.map_toArray, List.map_cons, List.map_nil]); first | done | rfl | (simp only [List.length_drop, List.length_take]; rfl)) ?_; (with_reducible refine (spliceryref01_SameInts.calls k _ _ t417 _ _ t420 true _ ?side1 ?side2 ?side3 ?side4 A17.out).mono ?_); (case side1 => repeat (first | exact (Kd.R_reads' HO419.out).2.2 | (with_reducible refine Kd.C_alloc ?_ _) | (with_reducible refine Kd.C_drewN ?_ _) | (with_reducible refine Kd.C_drew ?_))); (case side2 => exact (Kd.R_reads' HO419.out).2.1); (case side3 => repeat (first | exact (Kd.R_reads' HO422.out).2.2 | (with_reducible refine Kd.C_alloc ?_ _) | (with_reducible refine Kd.C_drewN ?_ _) | (with_reducible refine Kd.C_drew ?_))); (case side4 => exact (Kd.R_reads' HO422.out).2.1); rintro e w' ⟨rfl, ⟨nd, rfl⟩⟩; refine ⟨_, rfl, ?_⟩; obtain ⟨Ao36, co36, eo36⟩ := Kd.V_slice HO416.out; subst eo36) | (go_at_call 23; (with_reducible refine (licence_Greatest.calls k _ _ t414 _ _ t411 t424 _ ?side1 ?side2 ?side3 ?side4 A19.out).mono ?_); (case side1 => repeat (first | exact (Kd.V_reads' HO416.out).2.2 | (with_reducible refine Kd.C_alloc ?_ _) | (with_reducible refine Kd.C_drewN ?_ _) | (with_reducible refine Kd.C_drew ?_))); (case side2 => exact (Kd.V_reads' HO416.out).2.1); (case side3 => repeat (first | exact (Kd.R_reads' HO413.out).2.2 | (with_reducible refine Kd.C_alloc ?_ _) | (with_reducible refine Kd.C_drewN ?_ _) | (with_reducible refine Kd.C_drew ?_))); (case side4 => exact (Kd.R_reads' HO413.out).2.1); rintro e w37 ⟨v425, rfl, ho0, hb⟩; have n0_ := Aside0.mk (Kd.S_below (by (with_reducible repeat (first | apply Kd.S_alloc | apply Kd.S_drewN | apply Kd.S_drew)); exact HO410.out) hb); have n1_ := Aside0.mk (Kd.R_elder' (chR HO413) (Kd.R_base ho0) hb); have n2_ := Aside0.mk (Kd.V_elder' (chV HO416) (Kd.R_base ho0) hb); have n3_ := Aside0.mk (Kd.R_elder' (chR HO419) (Kd.R_base ho0) hb); have n4_ := Aside0.mk (Kd.R_elder' (chR HO422) (Kd.R_base ho0) hb); have n5_ := Aside0.mk (Kd.R_lower (Kd.R_new' (Kd.R_new' (Kd.R_new' ho0 (Kd.R_lt (chR HO413))) (Kd.R_lt (chR HO419))) (Kd.R_lt (chR HO422))) (below_size (chB HB))); have n6_ := Aside0.mk (below_step (chB HB) hb); clear HO410; clear HO413; clear HO416; clear HO419; clear HO422; clear HB; have HO410 := n0_; have HO413 := n1_; have HO416 := n2_; have HO419 := n3_; have HO422 := n4_; have HO426 := n5_; have HB := n6_; clear n0_ n1_ n2_ n3_ n4_ n5_ n6_; (try clear hb); (try clear hb2); (try clear hk); (try clear hi); (try clear ho0)) | (go_at_call 24; (with_reducible refine (spliceryref41_Greatest.calls k _ _ t414 _ _ t411 t427 _ ?side1 ?side2 ?side3 ?side4 A20.out).mono ?_); (case side1 => repeat (first | exact (Kd.V_reads' HO416.out).2.2 | (with_reducible refine Kd.C_alloc ?_ _) | (with_reducible refine Kd.C_drewN ?_ _) | (with_reducible refine Kd.C_drew ?_))); (case side2 => exact (Kd.V_reads' HO416.out).2.1); (case side3 => repeat (first | exact (Kd.R_reads' HO413.out).2.2 | (with_reducible refine Kd.C_alloc ?_ _) | (with_reducible refine Kd.C_drewN ?_ _) | (with_reducible refine Kd.C_drew ?_))); (case side4 => exact (Kd.R_reads' HO413.out).2.1); rintro e w38 ⟨v428, rfl, ho0, hb⟩; have n0_ := Aside0.mk (Kd.S_below (by (with_reducible repeat (first | apply Kd.S_alloc | apply Kd.S_drewN | apply Kd.S_drew)); exact HO410.out) hb); have n1_ := Aside0.mk (Kd.R_elder' (chR HO413) (Kd.R_base ho0) hb); have n2_ := Aside0.mk (Kd.V_elder' (chV HO416) (Kd.R_base ho0) hb); have n3_ := Aside0.mk (Kd.R_elder' (chR HO419) (Kd.R_base ho0) hb); have n4_ := Aside0.mk (Kd.R_elder' (chR HO422) (Kd.R_base ho0) hb); have n5_ := Aside0.mk (Kd.R_elder' (chR HO426) (Kd.R_base ho0) hb); have n6_ := Aside0.mk (Kd.R_lower (Kd.R_new' (Kd.R_new' (Kd.R_new' (Kd.R_new' ho0 (Kd.R_lt (chR HO413))) (Kd.R_lt (chR HO419))) (Kd.R_lt (chR HO422))) (Kd.R_lt (chR HO426))) (below_size (chB HB))); have n7_ := Aside0.mk (below_step (chB HB) hb); clear HO410; clear HO413; clear HO416; clear HO419; clear HO422; clear HO426; clear HB; have HO410 := n0_; have HO413 := n1_; have HO416 := n2_; have HO419 := n3_; have HO422 := n4_; have HO426 := n5_; have HO429 := n6_; have HB := n7_; clear n0_ n1_ n2_ n3_ n4_ n5_ n6_ n7_; (try clear hb); (try clear hb2); (try clear hk); (try clear hi); (try clear ho0); obtain ⟨Ao39, co39, eo39⟩ := Kd.R_slice HO426.out; subst eo39; obtain ⟨Ao40, co40, eo40⟩ := Kd.R_slice HO429.out; subst eo40) | (go_at_call 17; (with_reducible refine (spliceryref01_SameInts.calls k _ _ t424 _ _ t427 false _ ?side1 ?side2 ?side3 ?side4 A21.out).mono ?_); (case side1 => repeat (first | exact (Kd.R_reads' HO426.out).2.2 | (with_reducible refine Kd.C_alloc ?_ _) | (with_reducible refine Kd.C_drewN ?_ _) | (with_reducible refine Kd.C_drew ?_))); (case side2 => exact (Kd.R_reads' HO426.out).2.1); (case side3 => repeat (first | exact (Kd.R_reads' HO429.out).2.2 | (with_reducible refine Kd.C_alloc ?_ _) | (with_reducible refine Kd.C_drewN ?_ _) | (with_reducible refine Kd.C_drew ?_))); (case side4 => exact (Kd.R_reads' HO429.out).2.1); rintro e w' ⟨rfl, ⟨nd, rfl⟩⟩))
    go_meet
    case rel => exact ⟨_, (true), (by first | rfl | (simp; done) | (simp [*]; done)), H', ⟨by first | omega | exact Nat.le_refl _⟩, ⟨by (with_reducible repeat (first | apply Kd.S_alloc | apply Kd.S_drewN | apply Kd.S_drew)); exact HO410.out⟩, ⟨by (with_reducible repeat (first | apply Kd.R_alloc | apply Kd.R_drewN | apply Kd.R_drew)); exact Kd.R_mono HO413.out (fun _ hk => hk.1.1.1.2)⟩, ⟨by (with_reducible repeat (first | apply Kd.R_alloc | apply Kd.R_drewN | apply Kd.R_drew)); exact Kd.R_mono HO419.out (fun _ hk => hk.1.1.1.2)⟩, ⟨chB HB⟩⟩
  ·replace c18 := Bool.eq_false_iff.mpr c18
   subst c18
   have H1 : (splicerylaw41_LicenceGreatest.j0 k t408 t411 t417 true) = some r := by rw [if_neg (show ¬ (false = true) by decide)] at H; exact H
   clear H
   have H := H1
   clear H1
   have H' := Aside0.mk H
   clear H
   go_wp2_with (first | ((with_reducible refine gate_callee (f := 24) rfl ?_); refine goesL_ (some 31) rfl rfl Try.func24 (by kernel_rfl) rfl #[.slice Ao12 t408.length co12, .slice Ao14 t411.length co14] rfl (by (try simp only [List.map_toArray, List.map_cons, List.map_nil]); first | done | rfl | (simp only [List.length_drop, List.length_take]; rfl)) ?_; (with_reducible refine (spliceryref41_Greatest.calls k _ _ t408 _ _ t411 t420 _ ?side1 ?side2 ?side3 ?side4 A16.out).mono ?_); (case side1 => repeat (first | exact (Kd.S_reads' HO410.out).2.2 | (with_reducible refine Kd.C_alloc ?_ _) | (with_reducible refine Kd.C_drewN ?_ _) | (with_reducible refine Kd.C_drew ?_))); (case side2 => exact (Kd.S_reads' HO410.out).2.1); (case side3 => repeat (first | exact (Kd.R_reads' HO413.out).2.2 | (with_reducible refine Kd.C_alloc ?_ _) | (with_reducible refine Kd.C_drewN ?_ _) | (with_reducible refine Kd.C_drew ?_))); (case side4 => exact (Kd.R_reads' HO413.out).2.1); rintro e w41 ⟨v421, rfl, ho0, hb⟩; refine ⟨_, rfl, ?_⟩; have n0_ := Aside0.mk (Kd.S_below (by (with_reducible repeat (first | apply Kd.S_alloc | apply Kd.S_drewN | apply Kd.S_drew)); exact HO410.out) hb); have n1_ := Aside0.mk (Kd.R_elder' (chR HO413) (Kd.R_base ho0) hb); have n2_ := Aside0.mk (Kd.V_elder' (chV HO416) (Kd.R_base ho0) hb); have n3_ := Aside0.mk (Kd.R_elder' (chR HO419) (Kd.R_base ho0) hb); have n4_ := Aside0.mk (Kd.R_lower (Kd.R_new' (Kd.R_new' ho0 (Kd.R_lt (chR HO413))) (Kd.R_lt (chR HO419))) (below_size (chB HB))); have n5_ := Aside0.mk (below_step (chB HB) hb); clear HO410; clear HO413; clear HO416; clear HO419; clear HB; have HO410 := n0_; have HO413 := n1_; have HO416 := n2_; have HO419 := n3_; have HO422 := n4_; have HB := n5_; clear n0_ n1_ n2_ n3_ n4_ n5_; (try clear hb); (try clear hb2); (try clear hk); (try clear hi); (try clear ho0); obtain ⟨Ao42, co42, eo42⟩ := Kd.R_slice HO419.out; subst eo42; obtain ⟨Ao43, co43, eo43⟩ := Kd.R_slice HO422.out; subst eo43) | ((with_reducible refine gate_callee (f := 17) rfl ?_); refine goesL_ (some 32) rfl rfl Try.func17 (by kernel_rfl) rfl #[.slice Ao42 t417.length co42, .slice Ao43 t420.length co43] rfl (by (try simp only [List.map_toArray, List.map_cons, List.map_nil]); first | done | rfl | (simp only [List.length_drop, List.length_take]; rfl)) ?_; (with_reducible refine (spliceryref01_SameInts.calls k _ _ t417 _ _ t420 false _ ?side1 ?side2 ?side3 ?side4 A17.out).mono ?_); (case side1 => repeat (first | exact (Kd.R_reads' HO419.out).2.2 | (with_reducible refine Kd.C_alloc ?_ _) | (with_reducible refine Kd.C_drewN ?_ _) | (with_reducible refine Kd.C_drew ?_))); (case side2 => exact (Kd.R_reads' HO419.out).2.1); (case side3 => repeat (first | exact (Kd.R_reads' HO422.out).2.2 | (with_reducible refine Kd.C_alloc ?_ _) | (with_reducible refine Kd.C_drewN ?_ _) | (with_reducible refine Kd.C_drew ?_))); (case side4 => exact (Kd.R_reads' HO422.out).2.1); rintro e w' ⟨rfl, ⟨nd, rfl⟩⟩; refine ⟨_, rfl, ?_⟩))
   go_meet
   case rel => exact ⟨_, (true), (by first | rfl | (simp; done) | (simp [*]; done)), H', ⟨by first | omega | exact Nat.le_refl _⟩, ⟨by (with_reducible repeat (first | apply Kd.S_alloc | apply Kd.S_drewN | apply Kd.S_drew)); exact HO410.out⟩, ⟨by (with_reducible repeat (first | apply Kd.R_alloc | apply Kd.R_drewN | apply Kd.R_drew)); exact Kd.R_mono HO413.out (fun _ hk => hk.1.2)⟩, ⟨by (with_reducible repeat (first | apply Kd.R_alloc | apply Kd.R_drewN | apply Kd.R_drew)); exact Kd.R_mono HO419.out (fun _ hk => hk.1.2)⟩, ⟨chB HB⟩⟩
 case rest =>
  clear HC9
  try clear c1
  try clear c2
  try clear p2
  try clear c6
  try clear c9
  try clear c10
  try clear c14
  try clear c17
  try clear c18
  try clear c22
  try clear c23
  try clear c24
  obtain ⟨kq, x49_8, rfl, HA, HJ8, HO_9, HO_10, HO_12, HB⟩ := hcut
  cases kq with
  | zero => exact absurd HA.out (by simp [splicerylaw41_LicenceGreatest.j0])
  | succ kj8 =>
   have H := HA.out
   clear HA
   simp only [splicerylaw41_LicenceGreatest.j0] at H
   by_cases c44 : x49_8 = true
   ·subst c44
    have H1 : (some false) = some r := by rw [if_pos rfl] at H; exact H
    clear H
    have H := H1
    clear H1
    obtain rfl := Option.some.inj H
    go_wp2
    go_ret
    exact ⟨by first | rfl | (simp [errW_none, errW_some] <;> rfl) | (simp [*, errW_none, errW_some] <;> rfl), chB HB⟩
   ·replace c44 := Bool.eq_false_iff.mpr c44
    subst c44
    have H1 : ((spliceryref41_Sorted.f kj8 t408 t411).bind fun t432 => (splicerylaw41_LicenceGreatest.l0 kj8 t408 t417 t432 0)) = some r := by rw [if_neg (show ¬ (false = true) by decide)] at H; exact H
    clear H
    have H := H1
    clear H1
    replace H := Option.bind_eq_some_iff.mp H
    obtain ⟨t432, A450, H⟩ := H
    replace H : (splicerylaw41_LicenceGreatest.l0 kj8 t408 t417 t432 0) = some r := H
    have A45 := Aside0.mk A450
    clear A450
    have H' := Aside0.mk H
    clear H
    go_wp2_with (first | ((with_reducible refine gate_callee (f := 20) rfl ?_); refine goesL_ (some 52) rfl rfl Try.func20 (by kernel_rfl) rfl #[.slice Ao12 t408.length co12, .slice Ao14 t411.length co14] rfl (by (try simp only [List.map_toArray, List.map_cons, List.map_nil]); first | done | rfl | (simp only [List.length_drop, List.length_take]; rfl)) ?_; (with_reducible refine (spliceryref41_Sorted.calls kj8 _ _ t408 _ _ t411 t432 _ ?side1 ?side2 ?side3 ?side4 A45.out).mono ?_); (case side1 => repeat (first | exact (Kd.S_reads' HO_9.out).2.2 | (with_reducible refine Kd.C_alloc ?_ _) | (with_reducible refine Kd.C_drewN ?_ _) | (with_reducible refine Kd.C_drew ?_))); (case side2 => exact (Kd.S_reads' HO_9.out).2.1); (case side3 => repeat (first | exact (Kd.R_reads' HO_10.out).2.2 | (with_reducible refine Kd.C_alloc ?_ _) | (with_reducible refine Kd.C_drewN ?_ _) | (with_reducible refine Kd.C_drew ?_))); (case side4 => exact (Kd.R_reads' HO_10.out).2.1); rintro e w46 ⟨v433, rfl, ho0, hb⟩; refine ⟨_, rfl, ?_⟩; have n0_ := Aside0.mk (Kd.S_below (by (with_reducible repeat (first | apply Kd.S_alloc | apply Kd.S_drewN | apply Kd.S_drew)); exact HO_9.out) hb); have n1_ := Aside0.mk (Kd.R_elder' (chR HO_10) (Kd.R_base ho0) hb); have n2_ := Aside0.mk (Kd.R_elder' (chR HO_12) (Kd.R_base ho0) hb); have n3_ := Aside0.mk (Kd.R_lower (Kd.R_new' (Kd.R_new' ho0 (Kd.R_lt (chR HO_10))) (Kd.R_lt (chR HO_12))) (below_size (chB HB))); have n4_ := Aside0.mk (below_step (chB HB) hb); clear HO_9; clear HO_10; clear HO_12; clear HB; have HO_9 := n0_; have HO_10 := n1_; have HO_12 := n2_; have HO434 := n3_; have HB := n4_; clear n0_ n1_ n2_ n3_ n4_; (try clear hb); (try clear hb2); (try clear hk); (try clear hi); (try clear ho0)))
    go_loopg [14] kj8 (fun kq v14 w' => ∃ (x14_2 : Int), v14 = .int .i64 x14_2 ∧ Aside0 (splicerylaw41_LicenceGreatest.l0 kq t408 t417 t432 x14_2 = some r) ∧ Aside0 (kq ≤ kj8) ∧ Aside0 (Kd.S k36 36 w' w.heap.size (fun _ => True) (.slice Ao12 t408.length co12) t408) ∧ Aside0 (Kd.R (Kd.int .i64) 3 w' w.heap.size (fun k_ => some k_ ≠ (v433 : Value).ownBlock) v418 t417) ∧ Aside0 (Kd.R (Kd.int .i64) 3 w' w.heap.size (fun k_ => some k_ ≠ (v418 : Value).ownBlock) v433 t432) ∧ Aside0 (Below w.heap.size w w'))
    case atStart => exact ⟨(0), (by first | rfl | (simp; done) | (simp [*]; done)), H', ⟨Nat.le_refl _⟩, ⟨by (with_reducible repeat (first | apply Kd.S_alloc | apply Kd.S_drewN | apply Kd.S_drew)); exact HO_9.out⟩, ⟨by (with_reducible repeat (first | apply Kd.R_alloc | apply Kd.R_drewN | apply Kd.R_drew)); exact Kd.R_mono HO_12.out (fun _ hk => hk.2)⟩, ⟨by (with_reducible repeat (first | apply Kd.R_alloc | apply Kd.R_drewN | apply Kd.R_drew)); exact Kd.R_mono HO434.out (fun _ hk => hk.2)⟩, ⟨chB HB⟩⟩
    case round =>
     clear H'
     try clear c1
     try clear c2
     try clear p2
     try clear c4
     try clear c6
     try clear c9
     try clear c10
     try clear c14
     try clear c17
     try clear c18
     try clear c20
     try clear c22
     try clear c23
     try clear c24
     try clear c44
     try clear p2
     obtain ⟨x14_2, rfl, HA, HK2, HO_9, HO_12, HO_13, HB⟩ := hrel
     cases gk with
     | zero => exact absurd HA.out (by simp [splicerylaw41_LicenceGreatest.l0])
     | succ k2 =>
      have H := HA.out
      clear HA
      simp only [splicerylaw41_LicenceGreatest.l0] at H
      by_cases c47 : x14_2 < (t432.length : Int)
      ·rw [if_pos c47] at H
       have c47b0 : decide (x14_2 < (t432.length : Int)) = true := decide_eq_true c47
       clear c47
       have H' := Aside0.mk H
       clear H
       obtain ⟨Ao48, co48, eo48⟩ := Kd.R_slice HO_13.out
       subst eo48
       go_wp2
       go_loopg [15, 16] k2 (fun kq v15 v16 w' => ∃ (x15_3 : Bool) (x16_3 : Int), v15 = .bool x15_3 ∧ v16 = .int .i64 x16_3 ∧ Aside0 (splicerylaw41_LicenceGreatest.l1 kq t408 t417 t432 x14_2 x15_3 x16_3 = some r) ∧ Aside0 (kq ≤ k2) ∧ Aside0 (Kd.S k36 36 w' w.heap.size (fun _ => True) (.slice Ao12 t408.length co12) t408) ∧ Aside0 (Kd.R (Kd.int .i64) 3 w' w.heap.size (fun k_ => some k_ ≠ ((.slice Ao48 t432.length co48) : Value).ownBlock) v418 t417) ∧ Aside0 (Kd.R (Kd.int .i64) 3 w' w.heap.size (fun k_ => some k_ ≠ (v418 : Value).ownBlock) (.slice Ao48 t432.length co48) t432) ∧ Aside0 (Below w.heap.size w w'))
       case atStart => exact ⟨(false), (0), (by first | rfl | (simp; done) | (simp [*]; done)), (by first | rfl | (simp; done) | (simp [*]; done)), H', ⟨Nat.le_refl _⟩, ⟨by (with_reducible repeat (first | apply Kd.S_alloc | apply Kd.S_drewN | apply Kd.S_drew)); exact HO_9.out⟩, ⟨chR HO_12⟩, ⟨chR HO_13⟩, ⟨chB HB⟩⟩
       case round =>
        clear H'
        try clear c1
        try clear c2
        try clear p2
        try clear c4
        try clear c6
        try clear c9
        try clear c10
        try clear c14
        try clear c17
        try clear c18
        try clear c20
        try clear c22
        try clear c23
        try clear c24
        try clear c44
        try clear c47
        try clear c47b0
        try clear p2
        obtain ⟨x15_3, x16_3, rfl, rfl, HA, HK3, HO_9, HO_12, HO_13, HB⟩ := hrel
        cases gk with
        | zero => exact absurd HA.out (by simp [splicerylaw41_LicenceGreatest.l1])
        | succ k3 =>
         have H := HA.out
         clear HA
         simp only [splicerylaw41_LicenceGreatest.l1] at H
         by_cases c49 : x16_3 < (t417.length : Int)
         ·rw [if_pos c49] at H
          have c49b0 : decide (x16_3 < (t417.length : Int)) = true := decide_eq_true c49
          clear c49
          by_cases c50 : x15_3 = true
          ·subst c50
           have H1 : (splicerylaw41_LicenceGreatest.l1 k3 t408 t417 t432 x14_2 true (wrap64 (x16_3 + 1))) = some r := by rw [if_pos rfl] at H; exact H
           clear H
           have H := H1
           clear H1
           have H' := Aside0.mk H
           clear H
           obtain ⟨Ao51, co51, eo51⟩ := Kd.R_slice HO_12.out
           subst eo51
           try go_wp2
           have n0_ := Aside0.mk (Kd.S_drew HO_9.out)
           have n1_ := Aside0.mk (Kd.R_drew HO_12.out)
           have n2_ := Aside0.mk (Kd.R_drew HO_13.out)
           have n3_ := Aside0.mk (below_drew1 HB.out)
           clear HO_9
           clear HO_12
           clear HO_13
           clear HB
           have HO_9 := n0_
           have HO_12 := n1_
           have HO_13 := n2_
           have HB := n3_
           clear n0_ n1_ n2_ n3_
           refine start_ (n := 13) (S := fun w' => True) (ds := []) #[false, false, false, false, false, false, false, false, false, false, false, false, false] (by kernel_rfl) rfl rfl trivial (fun hHeld => ?_); refine with_tabW splicerylaw41_LicenceGreatest.tab15 splicerylaw41_LicenceGreatest.bits15 (fun HT_ HW_ => ?_)
           generalize wr.drew = w52 at HO_9 HO_12 HO_13 HB hHeld ⊢
           refine pure_ (i := 0) (N := some 65) (v := ?_) (a' := ?_) #[true, false, false, false, false, false, false, false, false, false, false, false, false] rfl rfl (any_of HT_.out (by kernel_rfl)) (fun _ _ _ h => h) (Or.inl ⟨by rfl, ?_⟩) ?_ ?_
           rotate_left
           ·intro w'
            go_simp
            with_reducible rfl
           rotate_left
           ·simp only [Act.put, List.setIfInBounds_toArray, List.set_cons_zero, List.set_cons_succ, i64_w, i32_w]
            rfl
           refine pure_ (i := 1) (N := some 66) (v := ?_) (a' := ?_) #[true, true, false, false, false, false, false, false, false, false, false, false, false] rfl rfl (any_of HT_.out (by kernel_rfl)) (fun _ _ _ h => h) (Or.inl ⟨by rfl, ?_⟩) ?_ ?_
           rotate_left
           ·intro w'
            go_simp
            with_reducible rfl
           rotate_left
           ·simp only [Act.put, List.setIfInBounds_toArray, List.set_cons_zero, List.set_cons_succ, i64_w, i32_w]
            rfl
           refine pure_ (i := 2) (N := some 67) (v := undef) (a' := ?_) #[true, true, true, false, false, false, false, false, false, false, false, false, false] rfl rfl (any_of HT_.out (by kernel_rfl)) (fun _ _ _ h => h) (Or.inr ⟨by rfl, rfl⟩) ?_ ?_
           rotate_left
           ·simp only [Act.put, List.setIfInBounds_toArray, List.set_cons_zero, List.set_cons_succ, i64_w, i32_w]
            rfl
           refine pure_ (i := 3) (N := some 68) (v := undef) (a' := ?_) #[true, true, true, true, false, false, false, false, false, false, false, false, false] rfl rfl (any_of HT_.out (by kernel_rfl)) (fun _ _ _ h => h) (Or.inr ⟨by rfl, rfl⟩) ?_ ?_
           rotate_left
           ·simp only [Act.put, List.setIfInBounds_toArray, List.set_cons_zero, List.set_cons_succ, i64_w, i32_w]
            rfl
           refine pure_ (i := 4) (N := some 69) (v := undef) (a' := ?_) #[true, true, true, true, true, false, false, false, false, false, false, false, false] rfl rfl (any_of HT_.out (by kernel_rfl)) (fun _ _ _ h => h) (Or.inr ⟨by rfl, rfl⟩) ?_ ?_
           rotate_left
           ·simp only [Act.put, List.setIfInBounds_toArray, List.set_cons_zero, List.set_cons_succ, i64_w, i32_w]
            rfl
           refine pure_ (i := 5) (N := some 70) (v := undef) (a' := ?_) #[true, true, true, true, true, true, false, false, false, false, false, false, false] rfl rfl (any_of HT_.out (by kernel_rfl)) (fun _ _ _ h => h) (Or.inr ⟨by rfl, rfl⟩) ?_ ?_
           rotate_left
           ·simp only [Act.put, List.setIfInBounds_toArray, List.set_cons_zero, List.set_cons_succ, i64_w, i32_w]
            rfl
           refine pure_ (i := 6) (N := some 71) (v := undef) (a' := ?_) #[true, true, true, true, true, true, true, false, false, false, false, false, false] rfl rfl (any_of HT_.out (by kernel_rfl)) (fun _ _ _ h => h) (Or.inr ⟨by rfl, rfl⟩) ?_ ?_
           rotate_left
           ·simp only [Act.put, List.setIfInBounds_toArray, List.set_cons_zero, List.set_cons_succ, i64_w, i32_w]
            rfl
           refine pure_ (i := 7) (N := some 72) (v := undef) (a' := ?_) #[true, true, true, true, true, true, true, true, false, false, false, false, false] rfl rfl (any_of HT_.out (by kernel_rfl)) (fun _ _ _ h => h) (Or.inr ⟨by rfl, rfl⟩) ?_ ?_
           rotate_left
           ·simp only [Act.put, List.setIfInBounds_toArray, List.set_cons_zero, List.set_cons_succ, i64_w, i32_w]
            rfl
           refine pure_ (i := 8) (N := some 73) (v := undef) (a' := ?_) #[true, true, true, true, true, true, true, true, true, false, false, false, false] rfl rfl (any_of HT_.out (by kernel_rfl)) (fun _ _ _ h => h) (Or.inr ⟨by rfl, rfl⟩) ?_ ?_
           rotate_left
           ·simp only [Act.put, List.setIfInBounds_toArray, List.set_cons_zero, List.set_cons_succ, i64_w, i32_w]
            rfl
           refine pure_ (i := 9) (N := some 74) (v := undef) (a' := ?_) #[true, true, true, true, true, true, true, true, true, true, false, false, false] rfl rfl (any_of HT_.out (by kernel_rfl)) (fun _ _ _ h => h) (Or.inr ⟨by rfl, rfl⟩) ?_ ?_
           rotate_left
           ·simp only [Act.put, List.setIfInBounds_toArray, List.set_cons_zero, List.set_cons_succ, i64_w, i32_w]
            rfl
           refine pure_ (i := 10) (N := some 75) (v := undef) (a' := ?_) #[true, true, true, true, true, true, true, true, true, true, true, false, false] rfl rfl (any_of HT_.out (by kernel_rfl)) (fun _ _ _ h => h) (Or.inr ⟨by rfl, rfl⟩) ?_ ?_
           rotate_left
           ·simp only [Act.put, List.setIfInBounds_toArray, List.set_cons_zero, List.set_cons_succ, i64_w, i32_w]
            rfl
           refine pure_ (i := 11) (N := some 76) (v := ?_) (a' := ?_) #[true, true, true, true, true, true, true, true, true, true, true, true, false] rfl rfl (any_of HT_.out (by kernel_rfl)) (fun _ _ _ h => h) (Or.inl ⟨by rfl, ?_⟩) ?_ ?_
           rotate_left
           ·intro w'
            go_simp
            with_reducible rfl
           rotate_left
           ·simp only [Act.put, List.setIfInBounds_toArray, List.set_cons_zero, List.set_cons_succ, i64_w, i32_w]
            rfl
           refine pure_ (i := 12) (N := some 15) (v := ?_) (a' := ?_) #[true, true, true, true, true, true, true, true, true, true, true, true, true] rfl rfl (any_of HT_.out (by kernel_rfl)) (fun _ _ _ h => h) (Or.inl ⟨by rfl, ?_⟩) ?_ ?_
           rotate_left
           ·intro w'
            go_simp
            with_reducible rfl
           rotate_left
           ·simp only [Act.put, List.setIfInBounds_toArray, List.set_cons_zero, List.set_cons_succ, i64_w, i32_w]
            rfl
           refine done_ (done_of HT_.out (by kernel_rfl)) ?_
           try go_wp2
           go_roundg k3
           case measure => have := HJ8.out; have := HK2.out; have := HK3.out; omega
           case rel => exact ⟨(true), (wrap64 (x16_3 + 1)), (by first | rfl | (simp; done) | (simp [*]; done)), (by first | rfl | (simp; done) | (simp [*]; done)), H', ⟨by have := HJ8.out; have := HK2.out; have := HK3.out; omega⟩, ⟨by (with_reducible repeat (first | apply Kd.S_alloc | apply Kd.S_drewN | apply Kd.S_drew)); exact HO_9.out⟩, ⟨chR HO_12⟩, ⟨chR HO_13⟩, ⟨chB HB⟩⟩
          ·replace c50 := Bool.eq_false_iff.mpr c50
           subst c50
           have H1 : (if 0 ≤ x16_3 then (if 0 ≤ x14_2 then (if x14_2 < (t432.length : Int) then (splicerylaw41_LicenceGreatest.l1 k3 t408 t417 t432 x14_2 ((rd t417 x16_3) == (rd t432 x14_2)) (wrap64 (x16_3 + 1))) else (none)) else (none)) else (none)) = some r := by rw [if_neg (show ¬ (false = true) by decide)] at H; exact H
           clear H
           have H := H1
           clear H1
           by_cases c53 : 0 ≤ x16_3
           ·rw [if_pos c53] at H
            have c53b0 : decide (0 ≤ x16_3) = true := decide_eq_true c53
            clear c53
            by_cases c54 : 0 ≤ x14_2
            ·rw [if_pos c54] at H
             have c54b0 : decide (0 ≤ x14_2) = true := decide_eq_true c54
             clear c54
             by_cases c55 : x14_2 < (t432.length : Int)
             ·rw [if_pos c55] at H
              have c55b0 : decide (x14_2 < (t432.length : Int)) = true := decide_eq_true c55
              clear c55
              have H' := Aside0.mk H
              clear H
              obtain ⟨Ao56, co56, eo56⟩ := Kd.R_slice HO_12.out
              subst eo56
              try go_wp2
              have n0_ := Aside0.mk (Kd.S_drew HO_9.out)
              have n1_ := Aside0.mk (Kd.R_drew HO_12.out)
              have n2_ := Aside0.mk (Kd.R_drew HO_13.out)
              have n3_ := Aside0.mk (below_drew1 HB.out)
              clear HO_9
              clear HO_12
              clear HO_13
              clear HB
              have HO_9 := n0_
              have HO_12 := n1_
              have HO_13 := n2_
              have HB := n3_
              clear n0_ n1_ n2_ n3_
              have p436 : 0 ≤ (x16_3 : Int) := of_decide_eq_true (by first | (with_reducible assumption) | assumption)
              have q436 : x16_3 < (t417.length : Int) := of_decide_eq_true (by first | (with_reducible assumption) | assumption)
              obtain ⟨ad436, e436, hx436_0⟩ := Kd.at_int (Kd.R_reads' HO_12.out).2.2 x16_3 p436 q436
              cases e436
              replace p436 := eq_true p436
              replace q436 := eq_true q436
              have p437 : 0 ≤ (x14_2 : Int) := of_decide_eq_true (by first | (with_reducible assumption) | assumption)
              have q437 : x14_2 < (t432.length : Int) := of_decide_eq_true (by first | (with_reducible assumption) | assumption)
              obtain ⟨ad437, e437, hx437_0⟩ := Kd.at_int (Kd.R_reads' HO_13.out).2.2 x14_2 p437 q437
              cases e437
              replace p437 := eq_true p437
              replace q437 := eq_true q437
              refine start_ (n := 13) (S := fun w' => w'.cell? (ad436.add (x16_3).toNat) = some (.int .i64 (rd t417 x16_3)) ∧ w'.cell? (ad437.add (x14_2).toNat) = some (.int .i64 (rd t432 x14_2))) (ds := []) #[false, false, false, false, false, false, false, false, false, false, false, false, false] (by kernel_rfl) rfl rfl ⟨hx436_0, hx437_0⟩ (fun hHeld => ?_); refine with_tabW splicerylaw41_LicenceGreatest.tab15 splicerylaw41_LicenceGreatest.bits15 (fun HT_ HW_ => ?_)
              generalize wr.drew = w57 at HO_9 HO_12 HO_13 HB hx436_0 hx437_0 hHeld ⊢
              refine pure_ (i := 0) (N := some 65) (v := ?_) (a' := ?_) #[true, false, false, false, false, false, false, false, false, false, false, false, false] rfl rfl (any_of HT_.out (by kernel_rfl)) (fun _ _ _ h => h) (Or.inl ⟨by rfl, ?_⟩) ?_ ?_
              rotate_left
              ·intro w'
               go_simp
               with_reducible rfl
              rotate_left
              ·simp only [Act.put, List.setIfInBounds_toArray, List.set_cons_zero, List.set_cons_succ, i64_w, i32_w]
               rfl
              refine pure_ (i := 1) (N := some 66) (v := ?_) (a' := ?_) #[true, true, false, false, false, false, false, false, false, false, false, false, false] rfl rfl (any_of HT_.out (by kernel_rfl)) (fun _ _ _ h => h) (Or.inl ⟨by rfl, ?_⟩) ?_ ?_
              rotate_left
              ·intro w'
               go_simp
               with_reducible rfl
              rotate_left
              ·simp only [Act.put, List.setIfInBounds_toArray, List.set_cons_zero, List.set_cons_succ, i64_w, i32_w]
               rfl
              refine pure_ (i := 2) (N := some 67) (v := ?_) (a' := ?_) #[true, true, true, false, false, false, false, false, false, false, false, false, false] rfl rfl (any_of HT_.out (by kernel_rfl)) (fun _ _ _ h => h) (Or.inl ⟨by rfl, ?_⟩) ?_ ?_
              rotate_left
              ·intro w'
               go_simp
               with_reducible rfl
              rotate_left
              ·simp only [Act.put, List.setIfInBounds_toArray, List.set_cons_zero, List.set_cons_succ, i64_w, i32_w]
               rfl
              refine pure_ (i := 3) (N := some 68) (v := ?_) (a' := ?_) #[true, true, true, true, false, false, false, false, false, false, false, false, false] rfl rfl (any_of HT_.out (by kernel_rfl)) (fun _ _ _ h => h) (Or.inl ⟨by rfl, ?_⟩) ?_ ?_
              rotate_left
              ·intro w'
               go_simp
               with_reducible rfl
              rotate_left
              ·simp only [Act.put, List.setIfInBounds_toArray, List.set_cons_zero, List.set_cons_succ, i64_w, i32_w]
               rfl
              refine pure_ (i := 4) (N := some 69) (v := ?_) (a' := ?_) #[true, true, true, true, true, false, false, false, false, false, false, false, false] rfl rfl (any_of HT_.out (by kernel_rfl)) (fun _ _ _ h => h) (Or.inl ⟨by rfl, ?_⟩) ?_ ?_
              rotate_left
              ·intro w'
               go_simp
               with_reducible rfl
              rotate_left
              ·simp only [Act.put, List.setIfInBounds_toArray, List.set_cons_zero, List.set_cons_succ, i64_w, i32_w]
               rfl
              refine pure_ (i := 6) (N := some 71) (v := ?_) (a' := ?_) #[true, true, true, true, true, false, true, false, false, false, false, false, false] rfl rfl (any_of HT_.out (by kernel_rfl)) (fun _ _ _ h => h) (Or.inl ⟨by rfl, ?_⟩) ?_ ?_
              rotate_left
              ·intro w'
               go_simp
               with_reducible rfl
              rotate_left
              ·simp only [Act.put, List.setIfInBounds_toArray, List.set_cons_zero, List.set_cons_succ, i64_w, i32_w]
               rfl
              refine pure_ (i := 7) (N := some 72) (v := ?_) (a' := ?_) #[true, true, true, true, true, false, true, true, false, false, false, false, false] rfl rfl (any_of HT_.out (by kernel_rfl)) (fun _ _ _ h => h) (Or.inl ⟨by rfl, ?_⟩) ?_ ?_
              rotate_left
              ·intro w'
               go_simp
               with_reducible rfl
              rotate_left
              ·simp only [Act.put, List.setIfInBounds_toArray, List.set_cons_zero, List.set_cons_succ, i64_w, i32_w]
               rfl
              refine pure_ (i := 8) (N := some 73) (v := ?_) (a' := ?_) #[true, true, true, true, true, false, true, true, true, false, false, false, false] rfl rfl (any_of HT_.out (by kernel_rfl)) (fun _ _ _ h => h) (Or.inl ⟨by rfl, ?_⟩) ?_ ?_
              rotate_left
              ·intro w'
               go_simp
               with_reducible rfl
              rotate_left
              ·simp only [Act.put, List.setIfInBounds_toArray, List.set_cons_zero, List.set_cons_succ, i64_w, i32_w]
               rfl
              refine take_ (i := 5) (N := some 70) (v := ?_) (a' := ?_) #[true, true, true, true, true, true, true, true, true, false, false, false, false] rfl rfl (take_ofW HT_.out HW_.out (by kernel_rfl)) (fun _ _ _ h => h) (Or.inl ⟨by rfl, ?_⟩) hHeld ?_ ?_
              rotate_left
              ·rintro w' ⟨s0, s1⟩
               go_simp
               with_reducible rfl
              rotate_left
              ·simp only [Act.put, List.setIfInBounds_toArray, List.set_cons_zero, List.set_cons_succ, i64_w, i32_w]
               rfl
              refine take_ (i := 9) (N := some 74) (v := ?_) (a' := ?_) #[true, true, true, true, true, true, true, true, true, true, false, false, false] rfl rfl (take_ofW HT_.out HW_.out (by kernel_rfl)) (fun _ _ _ h => h) (Or.inl ⟨by rfl, ?_⟩) hHeld ?_ ?_
              rotate_left
              ·rintro w' ⟨s0, s1⟩
               go_simp
               with_reducible rfl
              rotate_left
              ·simp only [Act.put, List.setIfInBounds_toArray, List.set_cons_zero, List.set_cons_succ, i64_w, i32_w]
               rfl
              refine pure_ (i := 10) (N := some 75) (v := ?_) (a' := ?_) #[true, true, true, true, true, true, true, true, true, true, true, false, false] rfl rfl (any_of HT_.out (by kernel_rfl)) (fun _ _ _ h => h) (Or.inl ⟨by rfl, ?_⟩) ?_ ?_
              rotate_left
              ·intro w'
               go_simp
               with_reducible rfl
              rotate_left
              ·simp only [Act.put, List.setIfInBounds_toArray, List.set_cons_zero, List.set_cons_succ, i64_w, i32_w]
               rfl
              refine pure_ (i := 11) (N := some 76) (v := ?_) (a' := ?_) #[true, true, true, true, true, true, true, true, true, true, true, true, false] rfl rfl (any_of HT_.out (by kernel_rfl)) (fun _ _ _ h => h) (Or.inl ⟨by rfl, ?_⟩) ?_ ?_
              rotate_left
              ·intro w'
               go_simp
               with_reducible rfl
              rotate_left
              ·simp only [Act.put, List.setIfInBounds_toArray, List.set_cons_zero, List.set_cons_succ, i64_w, i32_w]
               rfl
              refine pure_ (i := 12) (N := some 15) (v := ?_) (a' := ?_) #[true, true, true, true, true, true, true, true, true, true, true, true, true] rfl rfl (any_of HT_.out (by kernel_rfl)) (fun _ _ _ h => h) (Or.inl ⟨by rfl, ?_⟩) ?_ ?_
              rotate_left
              ·intro w'
               go_simp
               with_reducible rfl
              rotate_left
              ·simp only [Act.put, List.setIfInBounds_toArray, List.set_cons_zero, List.set_cons_succ, i64_w, i32_w]
               rfl
              refine done_ (done_of HT_.out (by kernel_rfl)) ?_
              try go_wp2
              go_roundg k3
              case measure => have := HJ8.out; have := HK2.out; have := HK3.out; omega
              case rel => exact ⟨(((rd t417 x16_3) == (rd t432 x14_2))), (wrap64 (x16_3 + 1)), (by first | rfl | (simp; done) | (simp [*]; done)), (by first | rfl | (simp; done) | (simp [*]; done)), H', ⟨by have := HJ8.out; have := HK2.out; have := HK3.out; omega⟩, ⟨by (with_reducible repeat (first | apply Kd.S_alloc | apply Kd.S_drewN | apply Kd.S_drew)); exact HO_9.out⟩, ⟨chR HO_12⟩, ⟨chR HO_13⟩, ⟨chB HB⟩⟩
             ·rw [if_neg c55] at H
              exact absurd H (by simp)
            ·rw [if_neg c54] at H
             exact absurd H (by simp)
           ·rw [if_neg c53] at H
            exact absurd H (by simp)
         ·rw [if_neg c49] at H
          have c49b0 : decide (x16_3 < (t417.length : Int)) = false := decide_eq_false c49
          clear c49
          by_cases c58 : x15_3 = true
          ·subst c58
           have H1 : (splicerylaw41_LicenceGreatest.l0 k3 t408 t417 t432 (wrap64 (x14_2 + 1))) = some r := by rw [if_pos rfl] at H; exact H
           clear H
           have H := H1
           clear H1
           have H' := Aside0.mk H
           clear H
           obtain ⟨Ao59, co59, eo59⟩ := Kd.R_slice HO_12.out
           subst eo59
           try go_wp2
           have n0_ := Aside0.mk (Kd.S_drew HO_9.out)
           have n1_ := Aside0.mk (Kd.R_drew HO_12.out)
           have n2_ := Aside0.mk (Kd.R_drew HO_13.out)
           have n3_ := Aside0.mk (below_drew1 HB.out)
           clear HO_9
           clear HO_12
           clear HO_13
           clear HB
           have HO_9 := n0_
           have HO_12 := n1_
           have HO_13 := n2_
           have HB := n3_
           clear n0_ n1_ n2_ n3_
           refine start_ (n := 15) (S := fun w' => True) (ds := []) #[false, false, false, false, false, false, false, false, false, false, false, false, false, false, false] (by kernel_rfl) rfl rfl trivial (fun hHeld => ?_); refine with_tabW splicerylaw41_LicenceGreatest.tab16 splicerylaw41_LicenceGreatest.bits16 (fun HT_ HW_ => ?_)
           generalize wr.drew = w60 at HO_9 HO_12 HO_13 HB hHeld ⊢
           refine pure_ (i := 0) (N := some 77) (v := ?_) (a' := ?_) #[true, false, false, false, false, false, false, false, false, false, false, false, false, false, false] rfl rfl (any_of HT_.out (by kernel_rfl)) (fun _ _ _ h => h) (Or.inl ⟨by rfl, ?_⟩) ?_ ?_
           rotate_left
           ·intro w'
            go_simp
            with_reducible rfl
           rotate_left
           ·simp only [Act.put, List.setIfInBounds_toArray, List.set_cons_zero, List.set_cons_succ, i64_w, i32_w]
            rfl
           refine pure_ (i := 1) (N := some 78) (v := ?_) (a' := ?_) #[true, true, false, false, false, false, false, false, false, false, false, false, false, false, false] rfl rfl (any_of HT_.out (by kernel_rfl)) (fun _ _ _ h => h) (Or.inl ⟨by rfl, ?_⟩) ?_ ?_
           rotate_left
           ·intro w'
            go_simp
            with_reducible rfl
           rotate_left
           ·simp only [Act.put, List.setIfInBounds_toArray, List.set_cons_zero, List.set_cons_succ, i64_w, i32_w]
            rfl
           refine pure_ (i := 2) (N := some 79) (v := ?_) (a' := ?_) #[true, true, true, false, false, false, false, false, false, false, false, false, false, false, false] rfl rfl (any_of HT_.out (by kernel_rfl)) (fun _ _ _ h => h) (Or.inl ⟨by rfl, ?_⟩) ?_ ?_
           rotate_left
           ·intro w'
            go_simp
            with_reducible rfl
           rotate_left
           ·simp only [Act.put, List.setIfInBounds_toArray, List.set_cons_zero, List.set_cons_succ, i64_w, i32_w]
            rfl
           refine pure_ (i := 3) (N := some 80) (v := undef) (a' := ?_) #[true, true, true, true, false, false, false, false, false, false, false, false, false, false, false] rfl rfl (any_of HT_.out (by kernel_rfl)) (fun _ _ _ h => h) (Or.inr ⟨by rfl, rfl⟩) ?_ ?_
           rotate_left
           ·simp only [Act.put, List.setIfInBounds_toArray, List.set_cons_zero, List.set_cons_succ, i64_w, i32_w]
            rfl
           refine pure_ (i := 4) (N := some 81) (v := undef) (a' := ?_) #[true, true, true, true, true, false, false, false, false, false, false, false, false, false, false] rfl rfl (any_of HT_.out (by kernel_rfl)) (fun _ _ _ h => h) (Or.inr ⟨by rfl, rfl⟩) ?_ ?_
           rotate_left
           ·simp only [Act.put, List.setIfInBounds_toArray, List.set_cons_zero, List.set_cons_succ, i64_w, i32_w]
            rfl
           refine pure_ (i := 5) (N := some 82) (v := undef) (a' := ?_) #[true, true, true, true, true, true, false, false, false, false, false, false, false, false, false] rfl rfl (any_of HT_.out (by kernel_rfl)) (fun _ _ _ h => h) (Or.inr ⟨by rfl, rfl⟩) ?_ ?_
           rotate_left
           ·simp only [Act.put, List.setIfInBounds_toArray, List.set_cons_zero, List.set_cons_succ, i64_w, i32_w]
            rfl
           refine pure_ (i := 6) (N := some 83) (v := undef) (a' := ?_) #[true, true, true, true, true, true, true, false, false, false, false, false, false, false, false] rfl rfl (any_of HT_.out (by kernel_rfl)) (fun _ _ _ h => h) (Or.inr ⟨by rfl, rfl⟩) ?_ ?_
           rotate_left
           ·simp only [Act.put, List.setIfInBounds_toArray, List.set_cons_zero, List.set_cons_succ, i64_w, i32_w]
            rfl
           refine pure_ (i := 7) (N := some 84) (v := undef) (a' := ?_) #[true, true, true, true, true, true, true, true, false, false, false, false, false, false, false] rfl rfl (any_of HT_.out (by kernel_rfl)) (fun _ _ _ h => h) (Or.inr ⟨by rfl, rfl⟩) ?_ ?_
           rotate_left
           ·simp only [Act.put, List.setIfInBounds_toArray, List.set_cons_zero, List.set_cons_succ, i64_w, i32_w]
            rfl
           refine pure_ (i := 8) (N := some 85) (v := undef) (a' := ?_) #[true, true, true, true, true, true, true, true, true, false, false, false, false, false, false] rfl rfl (any_of HT_.out (by kernel_rfl)) (fun _ _ _ h => h) (Or.inr ⟨by rfl, rfl⟩) ?_ ?_
           rotate_left
           ·simp only [Act.put, List.setIfInBounds_toArray, List.set_cons_zero, List.set_cons_succ, i64_w, i32_w]
            rfl
           refine pure_ (i := 9) (N := some 86) (v := undef) (a' := ?_) #[true, true, true, true, true, true, true, true, true, true, false, false, false, false, false] rfl rfl (any_of HT_.out (by kernel_rfl)) (fun _ _ _ h => h) (Or.inr ⟨by rfl, rfl⟩) ?_ ?_
           rotate_left
           ·simp only [Act.put, List.setIfInBounds_toArray, List.set_cons_zero, List.set_cons_succ, i64_w, i32_w]
            rfl
           refine pure_ (i := 10) (N := some 87) (v := undef) (a' := ?_) #[true, true, true, true, true, true, true, true, true, true, true, false, false, false, false] rfl rfl (any_of HT_.out (by kernel_rfl)) (fun _ _ _ h => h) (Or.inr ⟨by rfl, rfl⟩) ?_ ?_
           rotate_left
           ·simp only [Act.put, List.setIfInBounds_toArray, List.set_cons_zero, List.set_cons_succ, i64_w, i32_w]
            rfl
           refine pure_ (i := 11) (N := some 88) (v := undef) (a' := ?_) #[true, true, true, true, true, true, true, true, true, true, true, true, false, false, false] rfl rfl (any_of HT_.out (by kernel_rfl)) (fun _ _ _ h => h) (Or.inr ⟨by rfl, rfl⟩) ?_ ?_
           rotate_left
           ·simp only [Act.put, List.setIfInBounds_toArray, List.set_cons_zero, List.set_cons_succ, i64_w, i32_w]
            rfl
           refine pure_ (i := 12) (N := some 89) (v := undef) (a' := ?_) #[true, true, true, true, true, true, true, true, true, true, true, true, true, false, false] rfl rfl (any_of HT_.out (by kernel_rfl)) (fun _ _ _ h => h) (Or.inr ⟨by rfl, rfl⟩) ?_ ?_
           rotate_left
           ·simp only [Act.put, List.setIfInBounds_toArray, List.set_cons_zero, List.set_cons_succ, i64_w, i32_w]
            rfl
           refine pure_ (i := 13) (N := some 90) (v := undef) (a' := ?_) #[true, true, true, true, true, true, true, true, true, true, true, true, true, true, false] rfl rfl (any_of HT_.out (by kernel_rfl)) (fun _ _ _ h => h) (Or.inr ⟨by rfl, rfl⟩) ?_ ?_
           rotate_left
           ·simp only [Act.put, List.setIfInBounds_toArray, List.set_cons_zero, List.set_cons_succ, i64_w, i32_w]
            rfl
           refine pure_ (i := 14) (N := some 91) (v := ?_) (a' := ?_) #[true, true, true, true, true, true, true, true, true, true, true, true, true, true, true] rfl rfl (any_of HT_.out (by kernel_rfl)) (fun _ _ _ h => h) (Or.inl ⟨by rfl, ?_⟩) ?_ ?_
           rotate_left
           ·intro w'
            go_simp
            with_reducible rfl
           rotate_left
           ·simp only [Act.put, List.setIfInBounds_toArray, List.set_cons_zero, List.set_cons_succ, i64_w, i32_w]
            rfl
           refine done_ (done_of HT_.out (by kernel_rfl)) ?_
           try go_wp2
           go_roundg k3
           case measure => have := HJ8.out; have := HK2.out; have := HK3.out; omega
           case rel => exact ⟨(wrap64 (x14_2 + 1)), (by first | rfl | (simp; done) | (simp [*]; done)), H', ⟨by have := HJ8.out; have := HK2.out; have := HK3.out; omega⟩, ⟨by (with_reducible repeat (first | apply Kd.S_alloc | apply Kd.S_drewN | apply Kd.S_drew)); exact HO_9.out⟩, ⟨chR HO_12⟩, ⟨chR HO_13⟩, ⟨chB HB⟩⟩
          ·replace c58 := Bool.eq_false_iff.mpr c58
           subst c58
           have H1 : ((some (([] : List Int) : List Int)).bind fun y438 => (if y438.length + t417.length < 17592186044416 then ((some (y438 ++ t417 : List Int)).bind fun y441 => (if 0 ≤ x14_2 then (if x14_2 < (t432.length : Int) then ((some (([rd t432 x14_2] : List Int) : List Int)).bind fun y445 => (if y441.length + y445.length < 17592186044416 then ((licence_Fine.f t408 (y441 ++ y445)).bind fun t451 => (if t451 = true then (some false) else (splicerylaw41_LicenceGreatest.l0 k3 t408 t417 t432 (wrap64 (x14_2 + 1))))) else (none))) else (none)) else (none))) else (none))) = some r := by rw [if_neg (show ¬ (false = true) by decide)] at H; exact H
           clear H
           have H := H1
           clear H1
           obtain ⟨y438, hy438⟩ : ∃ y_ : List Int, y_ = (([] : List Int)) := ⟨_, rfl⟩
           replace H : (if y438.length + t417.length < 17592186044416 then ((some (y438 ++ t417 : List Int)).bind fun y441 => (if 0 ≤ x14_2 then (if x14_2 < (t432.length : Int) then ((some (([rd t432 x14_2] : List Int) : List Int)).bind fun y445 => (if y441.length + y445.length < 17592186044416 then ((licence_Fine.f t408 (y441 ++ y445)).bind fun t451 => (if t451 = true then (some false) else (splicerylaw41_LicenceGreatest.l0 k3 t408 t417 t432 (wrap64 (x14_2 + 1))))) else (none))) else (none)) else (none))) else (none)) = some r := by first | (rw [hy438]; with_reducible exact H) | (have H2_ := (Option.bind_some _ _).symm.trans H; rw [hy438]; with_reducible exact H2_) | (have H2_ := (Option.bind_some _ _).symm.trans H; with_reducible exact H2_) | with_reducible exact H | (rw [hy438]; exact H) | exact H
           have Ny438 := Aside0.mk hy438
           clear hy438
           by_cases c61 : y438.length + t417.length < 17592186044416
           ·rw [if_pos c61] at H
            have LMc61 := Aside0.mk c61
            clear c61
            obtain ⟨y441, hy441⟩ : ∃ y_ : List Int, y_ = (y438 ++ t417) := ⟨_, rfl⟩
            replace H : (if 0 ≤ x14_2 then (if x14_2 < (t432.length : Int) then ((some (([rd t432 x14_2] : List Int) : List Int)).bind fun y445 => (if y441.length + y445.length < 17592186044416 then ((licence_Fine.f t408 (y441 ++ y445)).bind fun t451 => (if t451 = true then (some false) else (splicerylaw41_LicenceGreatest.l0 k3 t408 t417 t432 (wrap64 (x14_2 + 1))))) else (none))) else (none)) else (none)) = some r := by first | (rw [hy441]; with_reducible exact H) | (have H2_ := (Option.bind_some _ _).symm.trans H; rw [hy441]; with_reducible exact H2_) | (have H2_ := (Option.bind_some _ _).symm.trans H; with_reducible exact H2_) | with_reducible exact H | (rw [hy441]; exact H) | exact H
            have Ny441 := Aside0.mk hy441
            clear hy441
            by_cases c62 : 0 ≤ x14_2
            ·rw [if_pos c62] at H
             have c62b0 : decide (0 ≤ x14_2) = true := decide_eq_true c62
             clear c62
             by_cases c63 : x14_2 < (t432.length : Int)
             ·rw [if_pos c63] at H
              have c63b0 : decide (x14_2 < (t432.length : Int)) = true := decide_eq_true c63
              clear c63
              obtain ⟨y445, hy445⟩ : ∃ y_ : List Int, y_ = (([rd t432 x14_2] : List Int)) := ⟨_, rfl⟩
              replace H : (if y441.length + y445.length < 17592186044416 then ((licence_Fine.f t408 (y441 ++ y445)).bind fun t451 => (if t451 = true then (some false) else (splicerylaw41_LicenceGreatest.l0 k3 t408 t417 t432 (wrap64 (x14_2 + 1))))) else (none)) = some r := by first | (rw [hy445]; with_reducible exact H) | (have H2_ := (Option.bind_some _ _).symm.trans H; rw [hy445]; with_reducible exact H2_) | (have H2_ := (Option.bind_some _ _).symm.trans H; with_reducible exact H2_) | with_reducible exact H | (rw [hy445]; exact H) | exact H
              have Ny445 := Aside0.mk hy445
              clear hy445
              by_cases c64 : y441.length + y445.length < 17592186044416
              ·rw [if_pos c64] at H
               have LMc64 := Aside0.mk c64
               clear c64
               obtain ⟨y448, hy448⟩ : ∃ y_ : List Int, y_ = (y441 ++ y445) := ⟨_, rfl⟩
               replace H : ((licence_Fine.f t408 y448).bind fun t451 => (if t451 = true then (some false) else (splicerylaw41_LicenceGreatest.l0 k3 t408 t417 t432 (wrap64 (x14_2 + 1))))) = some r := by first | (rw [hy448]; with_reducible exact H) | (have H2_ := (Option.bind_some _ _).symm.trans H; rw [hy448]; with_reducible exact H2_) | (have H2_ := (Option.bind_some _ _).symm.trans H; with_reducible exact H2_) | with_reducible exact H | (rw [hy448]; exact H) | exact H
               have Ny448 := Aside0.mk hy448
               clear hy448
               replace H := Option.bind_eq_some_iff.mp H
               obtain ⟨t451, A650, H⟩ := H
               replace H : (if t451 = true then (some false) else (splicerylaw41_LicenceGreatest.l0 k3 t408 t417 t432 (wrap64 (x14_2 + 1)))) = some r := H
               have A65 := Aside0.mk A650
               clear A650
               by_cases c66 : t451 = true
               ·subst c66
                have H1 : (some false) = some r := by rw [if_pos rfl] at H; exact H
                clear H
                have H := H1
                clear H1
                obtain rfl := Option.some.inj H
                obtain ⟨Ao67, co67, eo67⟩ := Kd.R_slice HO_12.out
                subst eo67
                try go_wp2
                have n0_ := Aside0.mk (Kd.S_drew HO_9.out)
                have n1_ := Aside0.mk (Kd.R_drew HO_12.out)
                have n2_ := Aside0.mk (Kd.R_drew HO_13.out)
                have n3_ := Aside0.mk (below_drew1 HB.out)
                clear HO_9
                clear HO_12
                clear HO_13
                clear HB
                have HO_9 := n0_
                have HO_12 := n1_
                have HO_13 := n2_
                have HB := n3_
                clear n0_ n1_ n2_ n3_
                have p444 : 0 ≤ (x14_2 : Int) := of_decide_eq_true (by first | (with_reducible assumption) | assumption)
                have q444 : x14_2 < (t432.length : Int) := of_decide_eq_true (by first | (with_reducible assumption) | assumption)
                obtain ⟨ad444, e444, hx444_0⟩ := Kd.at_int (Kd.R_reads' HO_13.out).2.2 x14_2 p444 q444
                cases e444
                replace p444 := eq_true p444
                replace q444 := eq_true q444
                refine start_ (n := 15) (S := fun w' => w'.cell? (ad444.add (x14_2).toNat) = some (.int .i64 (rd t432 x14_2))) (ds := []) #[false, false, false, false, false, false, false, false, false, false, false, false, false, false, false] (by kernel_rfl) rfl rfl (hx444_0) (fun hHeld => ?_); refine with_tabW splicerylaw41_LicenceGreatest.tab16 splicerylaw41_LicenceGreatest.bits16 (fun HT_ HW_ => ?_)
                generalize wr.drew = w68 at HO_9 HO_12 HO_13 HB hx444_0 hHeld ⊢
                refine pure_ (i := 0) (N := some 77) (v := ?_) (a' := ?_) #[true, false, false, false, false, false, false, false, false, false, false, false, false, false, false] rfl rfl (any_of HT_.out (by kernel_rfl)) (fun _ _ _ h => h) (Or.inl ⟨by rfl, ?_⟩) ?_ ?_
                rotate_left
                ·intro w'
                 go_simp
                 with_reducible rfl
                rotate_left
                ·simp only [Act.put, List.setIfInBounds_toArray, List.set_cons_zero, List.set_cons_succ, i64_w, i32_w]
                 rfl
                refine pure_ (i := 1) (N := some 78) (v := ?_) (a' := ?_) #[true, true, false, false, false, false, false, false, false, false, false, false, false, false, false] rfl rfl (any_of HT_.out (by kernel_rfl)) (fun _ _ _ h => h) (Or.inl ⟨by rfl, ?_⟩) ?_ ?_
                rotate_left
                ·intro w'
                 go_simp
                 with_reducible rfl
                rotate_left
                ·simp only [Act.put, List.setIfInBounds_toArray, List.set_cons_zero, List.set_cons_succ, i64_w, i32_w]
                 rfl
                refine pure_ (i := 2) (N := some 79) (v := ?_) (a' := ?_) #[true, true, true, false, false, false, false, false, false, false, false, false, false, false, false] rfl rfl (any_of HT_.out (by kernel_rfl)) (fun _ _ _ h => h) (Or.inl ⟨by rfl, ?_⟩) ?_ ?_
                rotate_left
                ·intro w'
                 go_simp
                 with_reducible rfl
                rotate_left
                ·simp only [Act.put, List.setIfInBounds_toArray, List.set_cons_zero, List.set_cons_succ, i64_w, i32_w]
                 rfl
                refine pure_ (i := 3) (N := some 80) (v := ?_) (a' := ?_) #[true, true, true, true, false, false, false, false, false, false, false, false, false, false, false] rfl rfl (any_of HT_.out (by kernel_rfl)) (fun _ _ _ h => h) (Or.inl ⟨by rfl, ?_⟩) ?_ ?_
                rotate_left
                ·intro w'
                 go_simp
                 with_reducible rfl
                rotate_left
                ·simp only [Act.put, List.setIfInBounds_toArray, List.set_cons_zero, List.set_cons_succ, i64_w, i32_w]
                 rfl
                refine pure_ (i := 5) (N := some 82) (v := ?_) (a' := ?_) #[true, true, true, true, false, true, false, false, false, false, false, false, false, false, false] rfl rfl (any_of HT_.out (by kernel_rfl)) (fun _ _ _ h => h) (Or.inl ⟨by rfl, ?_⟩) ?_ ?_
                rotate_left
                ·intro w'
                 go_simp
                 with_reducible rfl
                rotate_left
                ·simp only [Act.put, List.setIfInBounds_toArray, List.set_cons_zero, List.set_cons_succ, i64_w, i32_w]
                 rfl
                refine pure_ (i := 7) (N := some 84) (v := ?_) (a' := ?_) #[true, true, true, true, false, true, false, true, false, false, false, false, false, false, false] rfl rfl (any_of HT_.out (by kernel_rfl)) (fun _ _ _ h => h) (Or.inl ⟨by rfl, ?_⟩) ?_ ?_
                rotate_left
                ·intro w'
                 go_simp
                 with_reducible rfl
                rotate_left
                ·simp only [Act.put, List.setIfInBounds_toArray, List.set_cons_zero, List.set_cons_succ, i64_w, i32_w]
                 rfl
                refine pure_ (i := 8) (N := some 85) (v := ?_) (a' := ?_) #[true, true, true, true, false, true, false, true, true, false, false, false, false, false, false] rfl rfl (any_of HT_.out (by kernel_rfl)) (fun _ _ _ h => h) (Or.inl ⟨by rfl, ?_⟩) ?_ ?_
                rotate_left
                ·intro w'
                 go_simp
                 with_reducible rfl
                rotate_left
                ·simp only [Act.put, List.setIfInBounds_toArray, List.set_cons_zero, List.set_cons_succ, i64_w, i32_w]
                 rfl
                refine pure_ (i := 9) (N := some 86) (v := ?_) (a' := ?_) #[true, true, true, true, false, true, false, true, true, true, false, false, false, false, false] rfl rfl (any_of HT_.out (by kernel_rfl)) (fun _ _ _ h => h) (Or.inl ⟨by rfl, ?_⟩) ?_ ?_
                rotate_left
                ·intro w'
                 go_simp
                 with_reducible rfl
                rotate_left
                ·simp only [Act.put, List.setIfInBounds_toArray, List.set_cons_zero, List.set_cons_succ, i64_w, i32_w]
                 rfl
                refine take_ (i := 10) (N := some 87) (v := ?_) (a' := ?_) #[true, true, true, true, false, true, false, true, true, true, true, false, false, false, false] rfl rfl (take_ofW HT_.out HW_.out (by kernel_rfl)) (fun _ _ _ h => h) (Or.inl ⟨by rfl, ?_⟩) hHeld ?_ ?_
                rotate_left
                ·intro w' s0
                 go_simp
                 with_reducible rfl
                rotate_left
                ·simp only [Act.put, List.setIfInBounds_toArray, List.set_cons_zero, List.set_cons_succ, i64_w, i32_w]
                 rfl
                refine join_ (σ := Value × Value × Value) 3 #[true, true, true, true, true, true, true, true, true, true, true, true, false, false, false] (fun s_ => [(81, s_.1), (83, s_.2.1), (88, s_.2.2)]) (fun s_ w' => (w'.cell? (ad444.add (x14_2).toNat) = some (.int .i64 (rd t432 x14_2))) ∧ (Kd.R (Kd.int .i64) 3 w' w.heap.size (fun k_ => some k_ ≠ (s_.2.2 : Value).ownBlock ∧ some k_ ≠ (.slice Ao67 t417.length co67 : Value).ownBlock ∧ some k_ ≠ (.slice (some ad444) t432.length co48 : Value).ownBlock) s_.2.1 y441) ∧ (Kd.R (Kd.int .i64) 3 w' w.heap.size (fun k_ => some k_ ≠ (s_.2.1 : Value).ownBlock ∧ some k_ ≠ (.slice Ao67 t417.length co67 : Value).ownBlock ∧ some k_ ≠ (.slice (some ad444) t432.length co48 : Value).ownBlock) s_.2.2 y445) ∧ (Kd.R (Kd.int .i64) 3 w' w.heap.size (fun k_ => some k_ ≠ (s_.2.1 : Value).ownBlock ∧ some k_ ≠ (s_.2.2 : Value).ownBlock ∧ some k_ ≠ (.slice (some ad444) t432.length co48 : Value).ownBlock) (.slice Ao67 t417.length co67) t417) ∧ (Kd.R (Kd.int .i64) 3 w' w.heap.size (fun k_ => some k_ ≠ (s_.2.1 : Value).ownBlock ∧ some k_ ≠ (s_.2.2 : Value).ownBlock ∧ some k_ ≠ (.slice Ao67 t417.length co67 : Value).ownBlock) (.slice (some ad444) t432.length co48) t432) ∧ (Kd.S k36 36 w' w.heap.size (fun _ => True) (.slice Ao12 t408.length co12) t408) ∧ (Below w.heap.size w w')) ?_ ?_
                rotate_left
                ·intro hCont
                 refine two_ (i := 4) (j := 11) (Ni := some 81) (Nj := some 88) #[true, true, true, true, true, true, false, true, true, true, true, false, false, false, false] #[true, true, true, true, false, true, false, true, true, true, true, true, false, false, false] rfl rfl rfl rfl (two_of HT_.out (by kernel_rfl)) (by decide) (by decide) (fun K hK => ?_) (fun K hK => ?_)
                 ·skip
                  refine Kd.R_lit_step (Kd.int .i64) _ 3 ?hg (N := 81) ?hd (xs := ([] : List Int)) (inner := []) (ok := fun _ => True) (okp := fun _ => True) ?hr ?hp (fun _ hk => hk) trivial (Below.refl _ _) (Nat.le_refl _) (by simp) ?_; (case hd => rfl); (case hg => rfl); (case hr => first | (go_simp; done) | (go_simp; rfl)); (case hp => exact (Reps.none _ _))
                  intro v439 w69 ho70 hb hg_ hnew_
                  have HS0_ := (hb.cell (World.block_lt_of_cell? _ _ (hHeld))).trans (hHeld)
                  clear hg_ hnew_
                  (first | rw [← Ny438.out] at ho70 | (simp only [Int.reduceToNat] at ho70; rw [← Ny438.out] at ho70))
                  have n0_ := Aside0.mk (Kd.S_below (by (with_reducible repeat (first | apply Kd.S_alloc | apply Kd.S_drewN | apply Kd.S_drew)); exact HO_9.out) hb)
                  have n1_ := Aside0.mk (Kd.R_elder' (chR HO_12) (Kd.R_base ho70) hb)
                  have n2_ := Aside0.mk (Kd.R_elder' (chR HO_13) (Kd.R_base ho70) hb)
                  have n3_ := Aside0.mk (Kd.R_lower (Kd.R_new' (Kd.R_new' ho70 (Kd.R_lt (chR HO_12))) (Kd.R_lt (chR HO_13))) (below_size (chB HB)))
                  have n4_ := Aside0.mk (below_step (chB HB) hb)
                  clear HO_9
                  clear HO_12
                  clear HO_13
                  clear HB
                  have HO_9 := n0_
                  have HO_12 := n1_
                  have HO_13 := n2_
                  have HO440 := n3_
                  have HB := n4_
                  clear n0_ n1_ n2_ n3_ n4_
                  clear hb ho70
                  refine hK.out _ _ (HS0_) (fun hHeld => ?_)
                  clear hK K
                  refine norm_ (a' := ?_) ?_ ?_
                  rotate_left
                  ·show Act.put _ (some 81) _ = _
                   simp only [Act.put, List.setIfInBounds_toArray, List.set_cons_zero, List.set_cons_succ, i64_w, i32_w]
                   rfl
                  refine two_ (i := 6) (j := 11) (Ni := some 83) (Nj := some 88) #[true, true, true, true, true, true, true, true, true, true, true, false, false, false, false] #[true, true, true, true, true, true, false, true, true, true, true, true, false, false, false] rfl rfl rfl rfl (two_of HT_.out (by kernel_rfl)) (by decide) (by decide) (fun K hK => ?_) (fun K hK => ?_)
                  ·skip
                   refine Kd.R_append_rows_step (Kd.int .i64) (w0 := w) w.heap.size (by rfl) (.tmp 81) (.tmp 82) 22 3 (.int .i64 0) 8 rfl Try.underlying22 info3 rfl (by decide) (by omega) v439 y438 t417 _ _ _ (fun k_ => some k_ ≠ (.slice Ao67 t417.length co67 : Value).ownBlock ∧ some k_ ≠ (.slice (some ad444) t432.length co48 : Value).ownBlock) (fun _ => False) rfl rfl ?aO ?aR (fun _ _ h => h) (fun _ h => h.elim) ?aF ?aB ?aS ?aL ?_
                   (case aR => repeat (first | exact (Kd.R_reads' HO_12.out).2.2 | (with_reducible refine Kd.C_alloc ?_ _) | (with_reducible refine Kd.C_drewN ?_ _) | (with_reducible refine Kd.C_drew ?_)))
                   (case aB => exact (chB HB))
                   (case aF => exact (fun k_ hk => ⟨Kd.fresh' (Kd.R_lt (chR HO_12)) k_ hk, Kd.fresh' (Kd.R_lt (chR HO_13)) k_ hk⟩))
                   (case aO => exact (by (with_reducible repeat (first | apply Kd.R_alloc | apply Kd.R_drewN | apply Kd.R_drew)); exact Kd.R_mono HO440.out (fun _ hk => ⟨hk.1.2, hk.2⟩)))
                   (case aS => exact (below_size (chB HB)))
                   (case aL => have := LMc61.out; omega)
                   intro v442 w71 ho hb hg hat
                   rw [← Ny441.out] at ho
                   have n0_ := Aside0.mk (Kd.S_over' (by (with_reducible repeat (first | apply Kd.S_alloc | apply Kd.S_drewN | apply Kd.S_drew)); exact HO_9.out) (Kd.R_typed (chR HO440)) (by decide) hg)
                   have n1_ := Aside0.mk (Kd.R_after (ok := (fun k_ => some k_ ≠ (.slice (some ad444) t432.length co48 : Value).ownBlock)) (chR HO_12) hg hat)
                   have n2_ := Aside0.mk (Kd.R_after (ok := (fun k_ => some k_ ≠ (.slice Ao67 t417.length co67 : Value).ownBlock)) (chR HO_13) hg hat)
                   have n3_ := Aside0.mk (hb)
                   have n4_ := Aside0.mk (ho)
                   clear HO_9
                   clear HO_12
                   clear HO_13
                   clear HB
                   clear HO440
                   have HO_9 := n0_
                   have HO_12 := n1_
                   have HO_13 := n2_
                   have HB := n3_
                   have HO443 := n4_
                   clear n0_ n1_ n2_ n3_ n4_
                   clear ho hb hg hat
                   refine hK.out _ _ ((by obtain ⟨a_, e_, h_⟩ := Kd.at_int (Kd.R_reads' HO_13.out).2.2 x14_2 (of_eq_true p444) (of_eq_true q444); cases e_; exact h_)) (fun hHeld => ?_)
                   clear hK K
                   refine norm_ (a' := ?_) ?_ ?_
                   rotate_left
                   ·show Act.put _ (some 83) _ = _
                    simp only [Act.put, List.setIfInBounds_toArray, List.set_cons_zero, List.set_cons_succ, i64_w, i32_w]
                    rfl
                   refine one_ (i := 11) (N := some 88) #[true, true, true, true, true, true, true, true, true, true, true, true, false, false, false] rfl rfl (one_of HT_.out (by kernel_rfl)) (by decide) (fun K hK => ?_)
                   refine Kd.R_lit_step (Kd.int .i64) _ 3 ?hg (N := 88) ?hd (xs := ([rd t432 x14_2] : List Int)) (inner := [.int .i64 (rd t432 x14_2)]) (ok := fun _ => True) (okp := fun _ => True) ?hr ?hp (fun _ hk => hk) trivial (Below.refl _ _) (Nat.le_refl _) (by simp) ?_; (case hd => rfl); (case hg => rfl); (case hr => first | (go_simp; done) | (go_simp; rfl)); (case hp => exact (Reps.one (show Kd.M (Kd.int .i64) _ _ _ (rd t432 x14_2) [.int .i64 (rd t432 x14_2)] from rfl) (Reps.none _ _)))
                   intro v446 w72 ho73 hb hg_ hnew_
                   have HS0_ := (hb.cell (World.block_lt_of_cell? _ _ (hHeld))).trans (hHeld)
                   clear hg_ hnew_
                   (first | rw [← Ny445.out] at ho73 | (simp only [Int.reduceToNat] at ho73; rw [← Ny445.out] at ho73))
                   have n0_ := Aside0.mk (Kd.S_below (by (with_reducible repeat (first | apply Kd.S_alloc | apply Kd.S_drewN | apply Kd.S_drew)); exact HO_9.out) hb)
                   have n1_ := Aside0.mk (Kd.R_elder' (chR HO_12) (Kd.R_base ho73) hb)
                   have n2_ := Aside0.mk (Kd.R_elder' (chR HO_13) (Kd.R_base ho73) hb)
                   have n3_ := Aside0.mk (Kd.R_elder' (chR HO443) (Kd.R_base ho73) hb)
                   have n4_ := Aside0.mk (Kd.R_lower (Kd.R_new' (Kd.R_new' (Kd.R_new' ho73 (Kd.R_lt (chR HO_12))) (Kd.R_lt (chR HO_13))) (Kd.R_lt (chR HO443))) (below_size (chB HB)))
                   have n5_ := Aside0.mk (below_step (chB HB) hb)
                   clear HO_9
                   clear HO_12
                   clear HO_13
                   clear HO443
                   clear HB
                   have HO_9 := n0_
                   have HO_12 := n1_
                   have HO_13 := n2_
                   have HO443 := n3_
                   have HO447 := n4_
                   have HB := n5_
                   clear n0_ n1_ n2_ n3_ n4_ n5_
                   clear hb ho73
                   refine hK.out _ _ (HS0_) (fun hHeld => ?_)
                   clear hK K
                   refine norm_ (a' := ?_) ?_ ?_
                   rotate_left
                   ·show Act.put _ (some 88) _ = _
                    simp only [Act.put, List.setIfInBounds_toArray, List.set_cons_zero, List.set_cons_succ, i64_w, i32_w]
                    rfl
                   exact norm_ (by simp only [putAll, Act.put, List.setIfInBounds_toArray, List.set_cons_zero, List.set_cons_succ]) (hCont (v439, v442, v446) _ ⟨hHeld, (by (with_reducible repeat (first | apply Kd.R_alloc | apply Kd.R_drewN | apply Kd.R_drew)); exact Kd.R_mono HO443.out (fun _ hk => ⟨hk.2, ⟨hk.1.1, hk.1.2⟩⟩)), (by (with_reducible repeat (first | apply Kd.R_alloc | apply Kd.R_drewN | apply Kd.R_drew)); exact Kd.R_mono HO447.out (fun _ hk => ⟨hk.2, ⟨hk.1.1.2, hk.1.2⟩⟩)), (by (with_reducible repeat (first | apply Kd.R_alloc | apply Kd.R_drewN | apply Kd.R_drew)); exact Kd.R_mono HO_12.out (fun _ hk => ⟨hk.1.2, ⟨hk.2, hk.1.1⟩⟩)), (by (with_reducible repeat (first | apply Kd.R_alloc | apply Kd.R_drewN | apply Kd.R_drew)); exact Kd.R_mono HO_13.out (fun _ hk => ⟨hk.1.2, ⟨hk.2, hk.1.1⟩⟩)), (by (with_reducible repeat (first | apply Kd.S_alloc | apply Kd.S_drewN | apply Kd.S_drew)); exact HO_9.out), (chB HB)⟩)
                  ·skip
                   refine Kd.R_lit_step (Kd.int .i64) _ 3 ?hg (N := 88) ?hd (xs := ([rd t432 x14_2] : List Int)) (inner := [.int .i64 (rd t432 x14_2)]) (ok := fun _ => True) (okp := fun _ => True) ?hr ?hp (fun _ hk => hk) trivial (Below.refl _ _) (Nat.le_refl _) (by simp) ?_; (case hd => rfl); (case hg => rfl); (case hr => first | (go_simp; done) | (go_simp; rfl)); (case hp => exact (Reps.one (show Kd.M (Kd.int .i64) _ _ _ (rd t432 x14_2) [.int .i64 (rd t432 x14_2)] from rfl) (Reps.none _ _)))
                   intro v446 w71 ho72 hb hg_ hnew_
                   have HS0_ := (hb.cell (World.block_lt_of_cell? _ _ (hHeld))).trans (hHeld)
                   clear hg_ hnew_
                   (first | rw [← Ny445.out] at ho72 | (simp only [Int.reduceToNat] at ho72; rw [← Ny445.out] at ho72))
                   have n0_ := Aside0.mk (Kd.S_below (by (with_reducible repeat (first | apply Kd.S_alloc | apply Kd.S_drewN | apply Kd.S_drew)); exact HO_9.out) hb)
                   have n1_ := Aside0.mk (Kd.R_elder' (chR HO_12) (Kd.R_base ho72) hb)
                   have n2_ := Aside0.mk (Kd.R_elder' (chR HO_13) (Kd.R_base ho72) hb)
                   have n3_ := Aside0.mk (Kd.R_elder' (chR HO440) (Kd.R_base ho72) hb)
                   have n4_ := Aside0.mk (Kd.R_lower (Kd.R_new' (Kd.R_new' (Kd.R_new' ho72 (Kd.R_lt (chR HO_12))) (Kd.R_lt (chR HO_13))) (Kd.R_lt (chR HO440))) (below_size (chB HB)))
                   have n5_ := Aside0.mk (below_step (chB HB) hb)
                   clear HO_9
                   clear HO_12
                   clear HO_13
                   clear HO440
                   clear HB
                   have HO_9 := n0_
                   have HO_12 := n1_
                   have HO_13 := n2_
                   have HO440 := n3_
                   have HO447 := n4_
                   have HB := n5_
                   clear n0_ n1_ n2_ n3_ n4_ n5_
                   clear hb ho72
                   refine hK.out _ _ (HS0_) (fun hHeld => ?_)
                   clear hK K
                   refine norm_ (a' := ?_) ?_ ?_
                   rotate_left
                   ·show Act.put _ (some 88) _ = _
                    simp only [Act.put, List.setIfInBounds_toArray, List.set_cons_zero, List.set_cons_succ, i64_w, i32_w]
                    rfl
                   refine one_ (i := 6) (N := some 83) #[true, true, true, true, true, true, true, true, true, true, true, true, false, false, false] rfl rfl (one_of HT_.out (by kernel_rfl)) (by decide) (fun K hK => ?_)
                   refine Kd.R_append_rows_step (Kd.int .i64) (w0 := w) w.heap.size (by rfl) (.tmp 81) (.tmp 82) 22 3 (.int .i64 0) 8 rfl Try.underlying22 info3 rfl (by decide) (by omega) v439 y438 t417 _ _ _ (fun k_ => some k_ ≠ (.slice Ao67 t417.length co67 : Value).ownBlock ∧ some k_ ≠ (.slice (some ad444) t432.length co48 : Value).ownBlock ∧ some k_ ≠ (v446 : Value).ownBlock) (fun _ => False) rfl rfl ?aO ?aR (fun _ _ h => h) (fun _ h => h.elim) ?aF ?aB ?aS ?aL ?_
                   (case aR => repeat (first | exact (Kd.R_reads' HO_12.out).2.2 | (with_reducible refine Kd.C_alloc ?_ _) | (with_reducible refine Kd.C_drewN ?_ _) | (with_reducible refine Kd.C_drew ?_)))
                   (case aB => exact (chB HB))
                   (case aF => exact (fun k_ hk => ⟨Kd.fresh' (Kd.R_lt (chR HO_12)) k_ hk, Kd.fresh' (Kd.R_lt (chR HO_13)) k_ hk, Kd.fresh' (Kd.R_lt (chR HO447)) k_ hk⟩))
                   (case aO => exact (by (with_reducible repeat (first | apply Kd.R_alloc | apply Kd.R_drewN | apply Kd.R_drew)); exact Kd.R_mono HO440.out (fun _ hk => ⟨hk.1.1.2, ⟨hk.1.2, hk.2⟩⟩)))
                   (case aS => exact (below_size (chB HB)))
                   (case aL => have := LMc61.out; omega)
                   intro v442 w73 ho hb hg hat
                   rw [← Ny441.out] at ho
                   have n0_ := Aside0.mk (Kd.S_over' (by (with_reducible repeat (first | apply Kd.S_alloc | apply Kd.S_drewN | apply Kd.S_drew)); exact HO_9.out) (Kd.R_typed (chR HO440)) (by decide) hg)
                   have n1_ := Aside0.mk (Kd.R_after (ok := (fun k_ => some k_ ≠ (.slice (some ad444) t432.length co48 : Value).ownBlock ∧ some k_ ≠ (v446 : Value).ownBlock)) (by (with_reducible repeat (first | apply Kd.R_alloc | apply Kd.R_drewN | apply Kd.R_drew)); exact Kd.R_mono HO_12.out (fun _ hk => ⟨⟨hk.1.1, hk.2⟩, hk.1.2⟩)) hg hat)
                   have n2_ := Aside0.mk (Kd.R_after (ok := (fun k_ => some k_ ≠ (.slice Ao67 t417.length co67 : Value).ownBlock ∧ some k_ ≠ (v446 : Value).ownBlock)) (by (with_reducible repeat (first | apply Kd.R_alloc | apply Kd.R_drewN | apply Kd.R_drew)); exact Kd.R_mono HO_13.out (fun _ hk => ⟨⟨hk.1.1, hk.2⟩, hk.1.2⟩)) hg hat)
                   have n3_ := Aside0.mk (Kd.R_after (ok := (fun k_ => some k_ ≠ (.slice Ao67 t417.length co67 : Value).ownBlock ∧ some k_ ≠ (.slice (some ad444) t432.length co48 : Value).ownBlock)) (by (with_reducible repeat (first | apply Kd.R_alloc | apply Kd.R_drewN | apply Kd.R_drew)); exact Kd.R_mono HO447.out (fun _ hk => ⟨⟨hk.1.1.2, hk.1.2⟩, hk.2⟩)) hg hat)
                   have n4_ := Aside0.mk (hb)
                   have n5_ := Aside0.mk (ho)
                   clear HO_9
                   clear HO_12
                   clear HO_13
                   clear HO447
                   clear HB
                   clear HO440
                   have HO_9 := n0_
                   have HO_12 := n1_
                   have HO_13 := n2_
                   have HO447 := n3_
                   have HB := n4_
                   have HO443 := n5_
                   clear n0_ n1_ n2_ n3_ n4_ n5_
                   clear ho hb hg hat
                   refine hK.out _ _ ((by obtain ⟨a_, e_, h_⟩ := Kd.at_int (Kd.R_reads' HO_13.out).2.2 x14_2 (of_eq_true p444) (of_eq_true q444); cases e_; exact h_)) (fun hHeld => ?_)
                   clear hK K
                   refine norm_ (a' := ?_) ?_ ?_
                   rotate_left
                   ·show Act.put _ (some 83) _ = _
                    simp only [Act.put, List.setIfInBounds_toArray, List.set_cons_zero, List.set_cons_succ, i64_w, i32_w]
                    rfl
                   exact norm_ (by simp only [putAll, Act.put, List.setIfInBounds_toArray, List.set_cons_zero, List.set_cons_succ]) (hCont (v439, v442, v446) _ ⟨hHeld, (by (with_reducible repeat (first | apply Kd.R_alloc | apply Kd.R_drewN | apply Kd.R_drew)); exact Kd.R_mono HO443.out (fun _ hk => ⟨hk.2.2, ⟨hk.1, hk.2.1⟩⟩)), (by (with_reducible repeat (first | apply Kd.R_alloc | apply Kd.R_drewN | apply Kd.R_drew)); exact Kd.R_mono HO447.out (fun _ hk => ⟨hk.2, ⟨hk.1.1, hk.1.2⟩⟩)), (by (with_reducible repeat (first | apply Kd.R_alloc | apply Kd.R_drewN | apply Kd.R_drew)); exact Kd.R_mono HO_12.out (fun _ hk => ⟨hk.2, ⟨hk.1.2, hk.1.1⟩⟩)), (by (with_reducible repeat (first | apply Kd.R_alloc | apply Kd.R_drewN | apply Kd.R_drew)); exact Kd.R_mono HO_13.out (fun _ hk => ⟨hk.2, ⟨hk.1.2, hk.1.1⟩⟩)), (by (with_reducible repeat (first | apply Kd.S_alloc | apply Kd.S_drewN | apply Kd.S_drew)); exact HO_9.out), (chB HB)⟩)
                 ·skip
                  refine Kd.R_lit_step (Kd.int .i64) _ 3 ?hg (N := 88) ?hd (xs := ([rd t432 x14_2] : List Int)) (inner := [.int .i64 (rd t432 x14_2)]) (ok := fun _ => True) (okp := fun _ => True) ?hr ?hp (fun _ hk => hk) trivial (Below.refl _ _) (Nat.le_refl _) (by simp) ?_; (case hd => rfl); (case hg => rfl); (case hr => first | (go_simp; done) | (go_simp; rfl)); (case hp => exact (Reps.one (show Kd.M (Kd.int .i64) _ _ _ (rd t432 x14_2) [.int .i64 (rd t432 x14_2)] from rfl) (Reps.none _ _)))
                  intro v446 w69 ho70 hb hg_ hnew_
                  have HS0_ := (hb.cell (World.block_lt_of_cell? _ _ (hHeld))).trans (hHeld)
                  clear hg_ hnew_
                  (first | rw [← Ny445.out] at ho70 | (simp only [Int.reduceToNat] at ho70; rw [← Ny445.out] at ho70))
                  have n0_ := Aside0.mk (Kd.S_below (by (with_reducible repeat (first | apply Kd.S_alloc | apply Kd.S_drewN | apply Kd.S_drew)); exact HO_9.out) hb)
                  have n1_ := Aside0.mk (Kd.R_elder' (chR HO_12) (Kd.R_base ho70) hb)
                  have n2_ := Aside0.mk (Kd.R_elder' (chR HO_13) (Kd.R_base ho70) hb)
                  have n3_ := Aside0.mk (Kd.R_lower (Kd.R_new' (Kd.R_new' ho70 (Kd.R_lt (chR HO_12))) (Kd.R_lt (chR HO_13))) (below_size (chB HB)))
                  have n4_ := Aside0.mk (below_step (chB HB) hb)
                  clear HO_9
                  clear HO_12
                  clear HO_13
                  clear HB
                  have HO_9 := n0_
                  have HO_12 := n1_
                  have HO_13 := n2_
                  have HO447 := n3_
                  have HB := n4_
                  clear n0_ n1_ n2_ n3_ n4_
                  clear hb ho70
                  refine hK.out _ _ (HS0_) (fun hHeld => ?_)
                  clear hK K
                  refine norm_ (a' := ?_) ?_ ?_
                  rotate_left
                  ·show Act.put _ (some 88) _ = _
                   simp only [Act.put, List.setIfInBounds_toArray, List.set_cons_zero, List.set_cons_succ, i64_w, i32_w]
                   rfl
                  refine one_ (i := 4) (N := some 81) #[true, true, true, true, true, true, false, true, true, true, true, true, false, false, false] rfl rfl (one_of HT_.out (by kernel_rfl)) (by decide) (fun K hK => ?_)
                  refine Kd.R_lit_step (Kd.int .i64) _ 3 ?hg (N := 81) ?hd (xs := ([] : List Int)) (inner := []) (ok := fun _ => True) (okp := fun _ => True) ?hr ?hp (fun _ hk => hk) trivial (Below.refl _ _) (Nat.le_refl _) (by simp) ?_; (case hd => rfl); (case hg => rfl); (case hr => first | (go_simp; done) | (go_simp; rfl)); (case hp => exact (Reps.none _ _))
                  intro v439 w71 ho72 hb hg_ hnew_
                  have HS0_ := (hb.cell (World.block_lt_of_cell? _ _ (hHeld))).trans (hHeld)
                  clear hg_ hnew_
                  (first | rw [← Ny438.out] at ho72 | (simp only [Int.reduceToNat] at ho72; rw [← Ny438.out] at ho72))
                  have n0_ := Aside0.mk (Kd.S_below (by (with_reducible repeat (first | apply Kd.S_alloc | apply Kd.S_drewN | apply Kd.S_drew)); exact HO_9.out) hb)
                  have n1_ := Aside0.mk (Kd.R_elder' (chR HO_12) (Kd.R_base ho72) hb)
                  have n2_ := Aside0.mk (Kd.R_elder' (chR HO_13) (Kd.R_base ho72) hb)
                  have n3_ := Aside0.mk (Kd.R_elder' (chR HO447) (Kd.R_base ho72) hb)
                  have n4_ := Aside0.mk (Kd.R_lower (Kd.R_new' (Kd.R_new' (Kd.R_new' ho72 (Kd.R_lt (chR HO_12))) (Kd.R_lt (chR HO_13))) (Kd.R_lt (chR HO447))) (below_size (chB HB)))
                  have n5_ := Aside0.mk (below_step (chB HB) hb)
                  clear HO_9
                  clear HO_12
                  clear HO_13
                  clear HO447
                  clear HB
                  have HO_9 := n0_
                  have HO_12 := n1_
                  have HO_13 := n2_
                  have HO447 := n3_
                  have HO440 := n4_
                  have HB := n5_
                  clear n0_ n1_ n2_ n3_ n4_ n5_
                  clear hb ho72
                  refine hK.out _ _ (HS0_) (fun hHeld => ?_)
                  clear hK K
                  refine norm_ (a' := ?_) ?_ ?_
                  rotate_left
                  ·show Act.put _ (some 81) _ = _
                   simp only [Act.put, List.setIfInBounds_toArray, List.set_cons_zero, List.set_cons_succ, i64_w, i32_w]
                   rfl
                  refine one_ (i := 6) (N := some 83) #[true, true, true, true, true, true, true, true, true, true, true, true, false, false, false] rfl rfl (one_of HT_.out (by kernel_rfl)) (by decide) (fun K hK => ?_)
                  refine Kd.R_append_rows_step (Kd.int .i64) (w0 := w) w.heap.size (by rfl) (.tmp 81) (.tmp 82) 22 3 (.int .i64 0) 8 rfl Try.underlying22 info3 rfl (by decide) (by omega) v439 y438 t417 _ _ _ (fun k_ => some k_ ≠ (.slice Ao67 t417.length co67 : Value).ownBlock ∧ some k_ ≠ (.slice (some ad444) t432.length co48 : Value).ownBlock ∧ some k_ ≠ (v446 : Value).ownBlock) (fun _ => False) rfl rfl ?aO ?aR (fun _ _ h => h) (fun _ h => h.elim) ?aF ?aB ?aS ?aL ?_
                  (case aR => repeat (first | exact (Kd.R_reads' HO_12.out).2.2 | (with_reducible refine Kd.C_alloc ?_ _) | (with_reducible refine Kd.C_drewN ?_ _) | (with_reducible refine Kd.C_drew ?_)))
                  (case aB => exact (chB HB))
                  (case aF => exact (fun k_ hk => ⟨Kd.fresh' (Kd.R_lt (chR HO_12)) k_ hk, Kd.fresh' (Kd.R_lt (chR HO_13)) k_ hk, Kd.fresh' (Kd.R_lt (chR HO447)) k_ hk⟩))
                  (case aO => exact (by (with_reducible repeat (first | apply Kd.R_alloc | apply Kd.R_drewN | apply Kd.R_drew)); exact Kd.R_mono HO440.out (fun _ hk => ⟨hk.1.1.2, ⟨hk.1.2, hk.2⟩⟩)))
                  (case aS => exact (below_size (chB HB)))
                  (case aL => have := LMc61.out; omega)
                  intro v442 w73 ho hb hg hat
                  rw [← Ny441.out] at ho
                  have n0_ := Aside0.mk (Kd.S_over' (by (with_reducible repeat (first | apply Kd.S_alloc | apply Kd.S_drewN | apply Kd.S_drew)); exact HO_9.out) (Kd.R_typed (chR HO440)) (by decide) hg)
                  have n1_ := Aside0.mk (Kd.R_after (ok := (fun k_ => some k_ ≠ (.slice (some ad444) t432.length co48 : Value).ownBlock ∧ some k_ ≠ (v446 : Value).ownBlock)) (chR HO_12) hg hat)
                  have n2_ := Aside0.mk (Kd.R_after (ok := (fun k_ => some k_ ≠ (.slice Ao67 t417.length co67 : Value).ownBlock ∧ some k_ ≠ (v446 : Value).ownBlock)) (chR HO_13) hg hat)
                  have n3_ := Aside0.mk (Kd.R_after (ok := (fun k_ => some k_ ≠ (.slice Ao67 t417.length co67 : Value).ownBlock ∧ some k_ ≠ (.slice (some ad444) t432.length co48 : Value).ownBlock)) (by (with_reducible repeat (first | apply Kd.R_alloc | apply Kd.R_drewN | apply Kd.R_drew)); exact Kd.R_mono HO447.out (fun _ hk => ⟨⟨hk.1.1.2, hk.1.2⟩, hk.2⟩)) hg hat)
                  have n4_ := Aside0.mk (hb)
                  have n5_ := Aside0.mk (ho)
                  clear HO_9
                  clear HO_12
                  clear HO_13
                  clear HO447
                  clear HB
                  clear HO440
                  have HO_9 := n0_
                  have HO_12 := n1_
                  have HO_13 := n2_
                  have HO447 := n3_
                  have HB := n4_
                  have HO443 := n5_
                  clear n0_ n1_ n2_ n3_ n4_ n5_
                  clear ho hb hg hat
                  refine hK.out _ _ ((by obtain ⟨a_, e_, h_⟩ := Kd.at_int (Kd.R_reads' HO_13.out).2.2 x14_2 (of_eq_true p444) (of_eq_true q444); cases e_; exact h_)) (fun hHeld => ?_)
                  clear hK K
                  refine norm_ (a' := ?_) ?_ ?_
                  rotate_left
                  ·show Act.put _ (some 83) _ = _
                   simp only [Act.put, List.setIfInBounds_toArray, List.set_cons_zero, List.set_cons_succ, i64_w, i32_w]
                   rfl
                  exact norm_ (by simp only [putAll, Act.put, List.setIfInBounds_toArray, List.set_cons_zero, List.set_cons_succ]) (hCont (v439, v442, v446) _ ⟨hHeld, (by (with_reducible repeat (first | apply Kd.R_alloc | apply Kd.R_drewN | apply Kd.R_drew)); exact Kd.R_mono HO443.out (fun _ hk => ⟨hk.2.2, ⟨hk.1, hk.2.1⟩⟩)), (by (with_reducible repeat (first | apply Kd.R_alloc | apply Kd.R_drewN | apply Kd.R_drew)); exact Kd.R_mono HO447.out (fun _ hk => ⟨hk.2, ⟨hk.1.1, hk.1.2⟩⟩)), (by (with_reducible repeat (first | apply Kd.R_alloc | apply Kd.R_drewN | apply Kd.R_drew)); exact Kd.R_mono HO_12.out (fun _ hk => ⟨hk.2, ⟨hk.1.2, hk.1.1⟩⟩)), (by (with_reducible repeat (first | apply Kd.R_alloc | apply Kd.R_drewN | apply Kd.R_drew)); exact Kd.R_mono HO_13.out (fun _ hk => ⟨hk.2, ⟨hk.1.2, hk.1.1⟩⟩)), (by (with_reducible repeat (first | apply Kd.S_alloc | apply Kd.S_drewN | apply Kd.S_drew)); exact HO_9.out), (chB HB)⟩)
                rintro ⟨v439, v442, v446⟩ w74 ⟨hS_, h0_, h1_, h2_, h3_, h4_, h5_⟩
                have n0_ : Aside0 (Kd.R (Kd.int .i64) 3 w74 w.heap.size (fun k_ => some k_ ≠ (v446 : Value).ownBlock ∧ some k_ ≠ (.slice Ao67 t417.length co67 : Value).ownBlock ∧ some k_ ≠ (.slice (some ad444) t432.length co48 : Value).ownBlock) v442 y441) := ⟨h0_⟩
                have n1_ : Aside0 (Kd.R (Kd.int .i64) 3 w74 w.heap.size (fun k_ => some k_ ≠ (v442 : Value).ownBlock ∧ some k_ ≠ (.slice Ao67 t417.length co67 : Value).ownBlock ∧ some k_ ≠ (.slice (some ad444) t432.length co48 : Value).ownBlock) v446 y445) := ⟨h1_⟩
                have n2_ : Aside0 (Kd.R (Kd.int .i64) 3 w74 w.heap.size (fun k_ => some k_ ≠ (v442 : Value).ownBlock ∧ some k_ ≠ (v446 : Value).ownBlock ∧ some k_ ≠ (.slice (some ad444) t432.length co48 : Value).ownBlock) (.slice Ao67 t417.length co67) t417) := ⟨h2_⟩
                have n3_ : Aside0 (Kd.R (Kd.int .i64) 3 w74 w.heap.size (fun k_ => some k_ ≠ (v442 : Value).ownBlock ∧ some k_ ≠ (v446 : Value).ownBlock ∧ some k_ ≠ (.slice Ao67 t417.length co67 : Value).ownBlock) (.slice (some ad444) t432.length co48) t432) := ⟨h3_⟩
                have n4_ : Aside0 (Kd.S k36 36 w74 w.heap.size (fun _ => True) (.slice Ao12 t408.length co12) t408) := ⟨h4_⟩
                have n5_ : Aside0 (Below w.heap.size w w74) := ⟨h5_⟩
                clear HO_9
                clear HO_12
                clear HO_13
                clear HB
                clear h0_ h1_ h2_ h3_ h4_ h5_
                have HO443 := n0_
                have HO447 := n1_
                have HO_12 := n2_
                have HO_13 := n3_
                have HO_9 := n4_
                have HB := n5_
                clear n0_ n1_ n2_ n3_ n4_ n5_
                have hHeld : w74.cell? (ad444.add (x14_2).toNat) = some (.int .i64 (rd t432 x14_2)) := hS_
                obtain ⟨Ao76, co76, eo76⟩ := Kd.R_slice HO447.out
                (first | subst eo76 | (injection eo76 with f1_ f2_ f3_; have f4_ := f1_.symm; have f5_ := f3_.symm; clear f1_ f2_ f3_; subst f4_; subst f5_))
                refine norm_ (a' := ?_) ?_ ?_
                rotate_left
                ·simp only [putAll, Act.put, List.setIfInBounds_toArray, List.set_cons_zero, List.set_cons_succ]
                 rfl
                refine one_ (i := 12) (N := some 89) #[true, true, true, true, true, true, true, true, true, true, true, true, true, false, false] rfl rfl (one_of HT_.out (by kernel_rfl)) (by decide) (fun K hK => ?_)
                refine Kd.R_append_rows_step (Kd.int .i64) (w0 := w) w.heap.size (by rfl) (.tmp 83) (.tmp 88) 22 3 (.int .i64 0) 8 rfl Try.underlying22 info3 rfl (by decide) (by omega) v442 y441 y445 _ _ _ (fun k_ => some k_ ≠ (.slice Ao67 t417.length co67 : Value).ownBlock ∧ some k_ ≠ (.slice (some ad444) t432.length co48 : Value).ownBlock ∧ some k_ ≠ (.slice Ao76 y445.length co76 : Value).ownBlock) (fun _ => False) rfl rfl ?aO ?aR (fun _ _ h => h) (fun _ h => h.elim) ?aF ?aB ?aS ?aL ?_
                (case aR => repeat (first | exact (Kd.R_reads' HO447.out).2.2 | (with_reducible refine Kd.C_alloc ?_ _) | (with_reducible refine Kd.C_drewN ?_ _) | (with_reducible refine Kd.C_drew ?_)))
                (case aB => exact (chB HB))
                (case aF => exact (fun k_ hk => ⟨Kd.fresh' (Kd.R_lt (chR HO_12)) k_ hk, Kd.fresh' (Kd.R_lt (chR HO_13)) k_ hk, Kd.fresh' (Kd.R_lt (chR HO447)) k_ hk⟩))
                (case aO => exact (by (with_reducible repeat (first | apply Kd.R_alloc | apply Kd.R_drewN | apply Kd.R_drew)); exact Kd.R_mono HO443.out (fun _ hk => ⟨hk.2.1, ⟨hk.2.2, hk.1⟩⟩)))
                (case aS => exact (below_size (chB HB)))
                (case aL => have := LMc64.out; omega)
                intro v449 w75 ho hb hg hat
                rw [← Ny448.out] at ho
                have n0_ := Aside0.mk (Kd.S_over' (by (with_reducible repeat (first | apply Kd.S_alloc | apply Kd.S_drewN | apply Kd.S_drew)); exact HO_9.out) (Kd.R_typed (chR HO443)) (by decide) hg)
                have n1_ := Aside0.mk (Kd.R_after (ok := (fun k_ => some k_ ≠ (.slice (some ad444) t432.length co48 : Value).ownBlock ∧ some k_ ≠ (.slice Ao76 y445.length co76 : Value).ownBlock)) (by (with_reducible repeat (first | apply Kd.R_alloc | apply Kd.R_drewN | apply Kd.R_drew)); exact Kd.R_mono HO_12.out (fun _ hk => ⟨⟨hk.2.2, hk.2.1⟩, hk.1⟩)) hg hat)
                have n2_ := Aside0.mk (Kd.R_after (ok := (fun k_ => some k_ ≠ (.slice Ao67 t417.length co67 : Value).ownBlock ∧ some k_ ≠ (.slice Ao76 y445.length co76 : Value).ownBlock)) (by (with_reducible repeat (first | apply Kd.R_alloc | apply Kd.R_drewN | apply Kd.R_drew)); exact Kd.R_mono HO_13.out (fun _ hk => ⟨⟨hk.2.2, hk.2.1⟩, hk.1⟩)) hg hat)
                have n3_ := Aside0.mk (Kd.R_after (ok := (fun k_ => some k_ ≠ (.slice Ao67 t417.length co67 : Value).ownBlock ∧ some k_ ≠ (.slice (some ad444) t432.length co48 : Value).ownBlock)) (by (with_reducible repeat (first | apply Kd.R_alloc | apply Kd.R_drewN | apply Kd.R_drew)); exact Kd.R_mono HO447.out (fun _ hk => ⟨⟨hk.2.1, hk.2.2⟩, hk.1⟩)) hg hat)
                have n4_ := Aside0.mk (hb)
                have n5_ := Aside0.mk (ho)
                clear HO_9
                clear HO_12
                clear HO_13
                clear HO447
                clear HB
                clear HO443
                have HO_9 := n0_
                have HO_12 := n1_
                have HO_13 := n2_
                have HO447 := n3_
                have HB := n4_
                have HO450 := n5_
                clear n0_ n1_ n2_ n3_ n4_ n5_
                clear ho hb hg hat
                obtain ⟨Ao77, co77, eo77⟩ := Kd.R_slice HO450.out
                (first | subst eo77 | (injection eo77 with f1_ f2_ f3_; have f4_ := f1_.symm; have f5_ := f3_.symm; clear f1_ f2_ f3_; subst f4_; subst f5_))
                refine hK.out _ _ ((by obtain ⟨a_, e_, h_⟩ := Kd.at_int (Kd.R_reads' HO_13.out).2.2 x14_2 (of_eq_true p444) (of_eq_true q444); cases e_; exact h_)) (fun hHeld => ?_)
                clear hK K
                refine norm_ (a' := ?_) ?_ ?_
                rotate_left
                ·show Act.put _ (some 89) _ = _
                 simp only [Act.put, List.setIfInBounds_toArray, List.set_cons_zero, List.set_cons_succ, i64_w, i32_w]
                 rfl
                refine one_ (i := 13) (N := some 90) #[true, true, true, true, true, true, true, true, true, true, true, true, true, true, false] rfl rfl (one_of HT_.out (by kernel_rfl)) (by decide) (fun K hK => ?_)
                refine goes_ Try.func13 (by kernel_rfl) rfl #[.slice Ao12 t408.length co12, .slice Ao77 y448.length co77] (by rfl) rfl rfl (by (try simp only [List.map_toArray, List.map_cons, List.map_nil]); first | done | rfl | (simp only [List.length_drop, List.length_take]; rfl)) ?_
                with_reducible refine (licence_Fine.calls _ _ t408 _ _ y448 true _ ?side1 ?side2 ?side3 ?side4 A65.out).mono ?_
                (case side1 => repeat (first | exact (Kd.S_reads' HO_9.out).2.2 | (with_reducible refine Kd.C_alloc ?_ _) | (with_reducible refine Kd.C_drewN ?_ _) | (with_reducible refine Kd.C_drew ?_)))
                (case side2 => exact (Kd.S_reads' HO_9.out).2.1)
                (case side3 => repeat (first | exact (Kd.R_reads' HO450.out).2.2 | (with_reducible refine Kd.C_alloc ?_ _) | (with_reducible refine Kd.C_drewN ?_ _) | (with_reducible refine Kd.C_drew ?_)))
                (case side4 => exact (Kd.R_reads' HO450.out).2.1)
                rintro e w78 ⟨rfl, hb⟩
                have HS0_ := (hb.cell (World.block_lt_of_cell? _ _ (hHeld))).trans (hHeld)
                refine ⟨_, rfl, ?_⟩
                have n0_ := Aside0.mk (Kd.S_below (by (with_reducible repeat (first | apply Kd.S_alloc | apply Kd.S_drewN | apply Kd.S_drew)); exact HO_9.out) hb)
                have n1_ := Aside0.mk (Kd.R_below (chR HO_12) hb)
                have n2_ := Aside0.mk (Kd.R_below (chR HO_13) hb)
                have n3_ := Aside0.mk (Kd.R_below (chR HO447) hb)
                have n4_ := Aside0.mk (Kd.R_below (chR HO450) hb)
                have n5_ := Aside0.mk (below_step (chB HB) hb)
                clear HO_9
                clear HO_12
                clear HO_13
                clear HO447
                clear HO450
                clear HB
                have HO_9 := n0_
                have HO_12 := n1_
                have HO_13 := n2_
                have HO447 := n3_
                have HO450 := n4_
                have HB := n5_
                clear n0_ n1_ n2_ n3_ n4_ n5_
                (try clear hb)
                (try clear hb2)
                (try clear hk)
                (try clear hi)
                refine hK.out _ _ (HS0_) (fun hHeld => ?_)
                clear hK K
                refine norm_ (a' := ?_) ?_ ?_
                rotate_left
                ·show Act.put _ (some 90) _ = _
                 simp only [Act.put, List.setIfInBounds_toArray, List.set_cons_zero, List.set_cons_succ, i64_w, i32_w]
                 rfl
                refine pure_ (i := 14) (N := some 91) (v := ?_) (a' := ?_) #[true, true, true, true, true, true, true, true, true, true, true, true, true, true, true] rfl rfl (any_of HT_.out (by kernel_rfl)) (fun _ _ _ h => h) (Or.inl ⟨by rfl, ?_⟩) ?_ ?_
                rotate_left
                ·intro w'
                 go_simp
                 with_reducible rfl
                rotate_left
                ·simp only [Act.put, List.setIfInBounds_toArray, List.set_cons_zero, List.set_cons_succ, i64_w, i32_w]
                 rfl
                refine done_ (done_of HT_.out (by kernel_rfl)) ?_
                try go_wp2
                go_ret
                exact ⟨by first | rfl | (simp [errW_none, errW_some] <;> rfl) | (simp [*, errW_none, errW_some] <;> rfl), chB HB⟩
               ·replace c66 := Bool.eq_false_iff.mpr c66
                subst c66
                have H1 : (splicerylaw41_LicenceGreatest.l0 k3 t408 t417 t432 (wrap64 (x14_2 + 1))) = some r := by rw [if_neg (show ¬ (false = true) by decide)] at H; exact H
                clear H
                have H := H1
                clear H1
                have H' := Aside0.mk H
                clear H
                obtain ⟨Ao79, co79, eo79⟩ := Kd.R_slice HO_12.out
                subst eo79
                try go_wp2
                have n0_ := Aside0.mk (Kd.S_drew HO_9.out)
                have n1_ := Aside0.mk (Kd.R_drew HO_12.out)
                have n2_ := Aside0.mk (Kd.R_drew HO_13.out)
                have n3_ := Aside0.mk (below_drew1 HB.out)
                clear HO_9
                clear HO_12
                clear HO_13
                clear HB
                have HO_9 := n0_
                have HO_12 := n1_
                have HO_13 := n2_
                have HB := n3_
                clear n0_ n1_ n2_ n3_
                have p444 : 0 ≤ (x14_2 : Int) := of_decide_eq_true (by first | (with_reducible assumption) | assumption)
                have q444 : x14_2 < (t432.length : Int) := of_decide_eq_true (by first | (with_reducible assumption) | assumption)
                obtain ⟨ad444, e444, hx444_0⟩ := Kd.at_int (Kd.R_reads' HO_13.out).2.2 x14_2 p444 q444
                cases e444
                replace p444 := eq_true p444
                replace q444 := eq_true q444
                refine start_ (n := 15) (S := fun w' => w'.cell? (ad444.add (x14_2).toNat) = some (.int .i64 (rd t432 x14_2))) (ds := []) #[false, false, false, false, false, false, false, false, false, false, false, false, false, false, false] (by kernel_rfl) rfl rfl (hx444_0) (fun hHeld => ?_); refine with_tabW splicerylaw41_LicenceGreatest.tab16 splicerylaw41_LicenceGreatest.bits16 (fun HT_ HW_ => ?_)
                generalize wr.drew = w80 at HO_9 HO_12 HO_13 HB hx444_0 hHeld ⊢
                refine pure_ (i := 0) (N := some 77) (v := ?_) (a' := ?_) #[true, false, false, false, false, false, false, false, false, false, false, false, false, false, false] rfl rfl (any_of HT_.out (by kernel_rfl)) (fun _ _ _ h => h) (Or.inl ⟨by rfl, ?_⟩) ?_ ?_
                rotate_left
                ·intro w'
                 go_simp
                 with_reducible rfl
                rotate_left
                ·simp only [Act.put, List.setIfInBounds_toArray, List.set_cons_zero, List.set_cons_succ, i64_w, i32_w]
                 rfl
                refine pure_ (i := 1) (N := some 78) (v := ?_) (a' := ?_) #[true, true, false, false, false, false, false, false, false, false, false, false, false, false, false] rfl rfl (any_of HT_.out (by kernel_rfl)) (fun _ _ _ h => h) (Or.inl ⟨by rfl, ?_⟩) ?_ ?_
                rotate_left
                ·intro w'
                 go_simp
                 with_reducible rfl
                rotate_left
                ·simp only [Act.put, List.setIfInBounds_toArray, List.set_cons_zero, List.set_cons_succ, i64_w, i32_w]
                 rfl
                refine pure_ (i := 2) (N := some 79) (v := ?_) (a' := ?_) #[true, true, true, false, false, false, false, false, false, false, false, false, false, false, false] rfl rfl (any_of HT_.out (by kernel_rfl)) (fun _ _ _ h => h) (Or.inl ⟨by rfl, ?_⟩) ?_ ?_
                rotate_left
                ·intro w'
                 go_simp
                 with_reducible rfl
                rotate_left
                ·simp only [Act.put, List.setIfInBounds_toArray, List.set_cons_zero, List.set_cons_succ, i64_w, i32_w]
                 rfl
                refine pure_ (i := 3) (N := some 80) (v := ?_) (a' := ?_) #[true, true, true, true, false, false, false, false, false, false, false, false, false, false, false] rfl rfl (any_of HT_.out (by kernel_rfl)) (fun _ _ _ h => h) (Or.inl ⟨by rfl, ?_⟩) ?_ ?_
                rotate_left
                ·intro w'
                 go_simp
                 with_reducible rfl
                rotate_left
                ·simp only [Act.put, List.setIfInBounds_toArray, List.set_cons_zero, List.set_cons_succ, i64_w, i32_w]
                 rfl
                refine pure_ (i := 5) (N := some 82) (v := ?_) (a' := ?_) #[true, true, true, true, false, true, false, false, false, false, false, false, false, false, false] rfl rfl (any_of HT_.out (by kernel_rfl)) (fun _ _ _ h => h) (Or.inl ⟨by rfl, ?_⟩) ?_ ?_
                rotate_left
                ·intro w'
                 go_simp
                 with_reducible rfl
                rotate_left
                ·simp only [Act.put, List.setIfInBounds_toArray, List.set_cons_zero, List.set_cons_succ, i64_w, i32_w]
                 rfl
                refine pure_ (i := 7) (N := some 84) (v := ?_) (a' := ?_) #[true, true, true, true, false, true, false, true, false, false, false, false, false, false, false] rfl rfl (any_of HT_.out (by kernel_rfl)) (fun _ _ _ h => h) (Or.inl ⟨by rfl, ?_⟩) ?_ ?_
                rotate_left
                ·intro w'
                 go_simp
                 with_reducible rfl
                rotate_left
                ·simp only [Act.put, List.setIfInBounds_toArray, List.set_cons_zero, List.set_cons_succ, i64_w, i32_w]
                 rfl
                refine pure_ (i := 8) (N := some 85) (v := ?_) (a' := ?_) #[true, true, true, true, false, true, false, true, true, false, false, false, false, false, false] rfl rfl (any_of HT_.out (by kernel_rfl)) (fun _ _ _ h => h) (Or.inl ⟨by rfl, ?_⟩) ?_ ?_
                rotate_left
                ·intro w'
                 go_simp
                 with_reducible rfl
                rotate_left
                ·simp only [Act.put, List.setIfInBounds_toArray, List.set_cons_zero, List.set_cons_succ, i64_w, i32_w]
                 rfl
                refine pure_ (i := 9) (N := some 86) (v := ?_) (a' := ?_) #[true, true, true, true, false, true, false, true, true, true, false, false, false, false, false] rfl rfl (any_of HT_.out (by kernel_rfl)) (fun _ _ _ h => h) (Or.inl ⟨by rfl, ?_⟩) ?_ ?_
                rotate_left
                ·intro w'
                 go_simp
                 with_reducible rfl
                rotate_left
                ·simp only [Act.put, List.setIfInBounds_toArray, List.set_cons_zero, List.set_cons_succ, i64_w, i32_w]
                 rfl
                refine take_ (i := 10) (N := some 87) (v := ?_) (a' := ?_) #[true, true, true, true, false, true, false, true, true, true, true, false, false, false, false] rfl rfl (take_ofW HT_.out HW_.out (by kernel_rfl)) (fun _ _ _ h => h) (Or.inl ⟨by rfl, ?_⟩) hHeld ?_ ?_
                rotate_left
                ·intro w' s0
                 go_simp
                 with_reducible rfl
                rotate_left
                ·simp only [Act.put, List.setIfInBounds_toArray, List.set_cons_zero, List.set_cons_succ, i64_w, i32_w]
                 rfl
                refine join_ (σ := Value × Value × Value) 3 #[true, true, true, true, true, true, true, true, true, true, true, true, false, false, false] (fun s_ => [(81, s_.1), (83, s_.2.1), (88, s_.2.2)]) (fun s_ w' => (w'.cell? (ad444.add (x14_2).toNat) = some (.int .i64 (rd t432 x14_2))) ∧ (Kd.R (Kd.int .i64) 3 w' w.heap.size (fun k_ => some k_ ≠ (s_.2.2 : Value).ownBlock ∧ some k_ ≠ (.slice Ao79 t417.length co79 : Value).ownBlock ∧ some k_ ≠ (.slice (some ad444) t432.length co48 : Value).ownBlock) s_.2.1 y441) ∧ (Kd.R (Kd.int .i64) 3 w' w.heap.size (fun k_ => some k_ ≠ (s_.2.1 : Value).ownBlock ∧ some k_ ≠ (.slice Ao79 t417.length co79 : Value).ownBlock ∧ some k_ ≠ (.slice (some ad444) t432.length co48 : Value).ownBlock) s_.2.2 y445) ∧ (Kd.R (Kd.int .i64) 3 w' w.heap.size (fun k_ => some k_ ≠ (s_.2.1 : Value).ownBlock ∧ some k_ ≠ (s_.2.2 : Value).ownBlock ∧ some k_ ≠ (.slice (some ad444) t432.length co48 : Value).ownBlock) (.slice Ao79 t417.length co79) t417) ∧ (Kd.R (Kd.int .i64) 3 w' w.heap.size (fun k_ => some k_ ≠ (s_.2.1 : Value).ownBlock ∧ some k_ ≠ (s_.2.2 : Value).ownBlock ∧ some k_ ≠ (.slice Ao79 t417.length co79 : Value).ownBlock) (.slice (some ad444) t432.length co48) t432) ∧ (Kd.S k36 36 w' w.heap.size (fun _ => True) (.slice Ao12 t408.length co12) t408) ∧ (Below w.heap.size w w')) ?_ ?_
                rotate_left
                ·intro hCont
                 refine two_ (i := 4) (j := 11) (Ni := some 81) (Nj := some 88) #[true, true, true, true, true, true, false, true, true, true, true, false, false, false, false] #[true, true, true, true, false, true, false, true, true, true, true, true, false, false, false] rfl rfl rfl rfl (two_of HT_.out (by kernel_rfl)) (by decide) (by decide) (fun K hK => ?_) (fun K hK => ?_)
                 ·skip
                  refine Kd.R_lit_step (Kd.int .i64) _ 3 ?hg (N := 81) ?hd (xs := ([] : List Int)) (inner := []) (ok := fun _ => True) (okp := fun _ => True) ?hr ?hp (fun _ hk => hk) trivial (Below.refl _ _) (Nat.le_refl _) (by simp) ?_; (case hd => rfl); (case hg => rfl); (case hr => first | (go_simp; done) | (go_simp; rfl)); (case hp => exact (Reps.none _ _))
                  intro v439 w81 ho82 hb hg_ hnew_
                  have HS0_ := (hb.cell (World.block_lt_of_cell? _ _ (hHeld))).trans (hHeld)
                  clear hg_ hnew_
                  (first | rw [← Ny438.out] at ho82 | (simp only [Int.reduceToNat] at ho82; rw [← Ny438.out] at ho82))
                  have n0_ := Aside0.mk (Kd.S_below (by (with_reducible repeat (first | apply Kd.S_alloc | apply Kd.S_drewN | apply Kd.S_drew)); exact HO_9.out) hb)
                  have n1_ := Aside0.mk (Kd.R_elder' (chR HO_12) (Kd.R_base ho82) hb)
                  have n2_ := Aside0.mk (Kd.R_elder' (chR HO_13) (Kd.R_base ho82) hb)
                  have n3_ := Aside0.mk (Kd.R_lower (Kd.R_new' (Kd.R_new' ho82 (Kd.R_lt (chR HO_12))) (Kd.R_lt (chR HO_13))) (below_size (chB HB)))
                  have n4_ := Aside0.mk (below_step (chB HB) hb)
                  clear HO_9
                  clear HO_12
                  clear HO_13
                  clear HB
                  have HO_9 := n0_
                  have HO_12 := n1_
                  have HO_13 := n2_
                  have HO440 := n3_
                  have HB := n4_
                  clear n0_ n1_ n2_ n3_ n4_
                  clear hb ho82
                  refine hK.out _ _ (HS0_) (fun hHeld => ?_)
                  clear hK K
                  refine norm_ (a' := ?_) ?_ ?_
                  rotate_left
                  ·show Act.put _ (some 81) _ = _
                   simp only [Act.put, List.setIfInBounds_toArray, List.set_cons_zero, List.set_cons_succ, i64_w, i32_w]
                   rfl
                  refine two_ (i := 6) (j := 11) (Ni := some 83) (Nj := some 88) #[true, true, true, true, true, true, true, true, true, true, true, false, false, false, false] #[true, true, true, true, true, true, false, true, true, true, true, true, false, false, false] rfl rfl rfl rfl (two_of HT_.out (by kernel_rfl)) (by decide) (by decide) (fun K hK => ?_) (fun K hK => ?_)
                  ·skip
                   refine Kd.R_append_rows_step (Kd.int .i64) (w0 := w) w.heap.size (by rfl) (.tmp 81) (.tmp 82) 22 3 (.int .i64 0) 8 rfl Try.underlying22 info3 rfl (by decide) (by omega) v439 y438 t417 _ _ _ (fun k_ => some k_ ≠ (.slice Ao79 t417.length co79 : Value).ownBlock ∧ some k_ ≠ (.slice (some ad444) t432.length co48 : Value).ownBlock) (fun _ => False) rfl rfl ?aO ?aR (fun _ _ h => h) (fun _ h => h.elim) ?aF ?aB ?aS ?aL ?_
                   (case aR => repeat (first | exact (Kd.R_reads' HO_12.out).2.2 | (with_reducible refine Kd.C_alloc ?_ _) | (with_reducible refine Kd.C_drewN ?_ _) | (with_reducible refine Kd.C_drew ?_)))
                   (case aB => exact (chB HB))
                   (case aF => exact (fun k_ hk => ⟨Kd.fresh' (Kd.R_lt (chR HO_12)) k_ hk, Kd.fresh' (Kd.R_lt (chR HO_13)) k_ hk⟩))
                   (case aO => exact (by (with_reducible repeat (first | apply Kd.R_alloc | apply Kd.R_drewN | apply Kd.R_drew)); exact Kd.R_mono HO440.out (fun _ hk => ⟨hk.1.2, hk.2⟩)))
                   (case aS => exact (below_size (chB HB)))
                   (case aL => have := LMc61.out; omega)
                   intro v442 w83 ho hb hg hat
                   rw [← Ny441.out] at ho
                   have n0_ := Aside0.mk (Kd.S_over' (by (with_reducible repeat (first | apply Kd.S_alloc | apply Kd.S_drewN | apply Kd.S_drew)); exact HO_9.out) (Kd.R_typed (chR HO440)) (by decide) hg)
                   have n1_ := Aside0.mk (Kd.R_after (ok := (fun k_ => some k_ ≠ (.slice (some ad444) t432.length co48 : Value).ownBlock)) (chR HO_12) hg hat)
                   have n2_ := Aside0.mk (Kd.R_after (ok := (fun k_ => some k_ ≠ (.slice Ao79 t417.length co79 : Value).ownBlock)) (chR HO_13) hg hat)
                   have n3_ := Aside0.mk (hb)
                   have n4_ := Aside0.mk (ho)
                   clear HO_9
                   clear HO_12
                   clear HO_13
                   clear HB
                   clear HO440
                   have HO_9 := n0_
                   have HO_12 := n1_
                   have HO_13 := n2_
                   have HB := n3_
                   have HO443 := n4_
                   clear n0_ n1_ n2_ n3_ n4_
                   clear ho hb hg hat
                   refine hK.out _ _ ((by obtain ⟨a_, e_, h_⟩ := Kd.at_int (Kd.R_reads' HO_13.out).2.2 x14_2 (of_eq_true p444) (of_eq_true q444); cases e_; exact h_)) (fun hHeld => ?_)
                   clear hK K
                   refine norm_ (a' := ?_) ?_ ?_
                   rotate_left
                   ·show Act.put _ (some 83) _ = _
                    simp only [Act.put, List.setIfInBounds_toArray, List.set_cons_zero, List.set_cons_succ, i64_w, i32_w]
                    rfl
                   refine one_ (i := 11) (N := some 88) #[true, true, true, true, true, true, true, true, true, true, true, true, false, false, false] rfl rfl (one_of HT_.out (by kernel_rfl)) (by decide) (fun K hK => ?_)
                   refine Kd.R_lit_step (Kd.int .i64) _ 3 ?hg (N := 88) ?hd (xs := ([rd t432 x14_2] : List Int)) (inner := [.int .i64 (rd t432 x14_2)]) (ok := fun _ => True) (okp := fun _ => True) ?hr ?hp (fun _ hk => hk) trivial (Below.refl _ _) (Nat.le_refl _) (by simp) ?_; (case hd => rfl); (case hg => rfl); (case hr => first | (go_simp; done) | (go_simp; rfl)); (case hp => exact (Reps.one (show Kd.M (Kd.int .i64) _ _ _ (rd t432 x14_2) [.int .i64 (rd t432 x14_2)] from rfl) (Reps.none _ _)))
                   intro v446 w84 ho85 hb hg_ hnew_
                   have HS0_ := (hb.cell (World.block_lt_of_cell? _ _ (hHeld))).trans (hHeld)
                   clear hg_ hnew_
                   (first | rw [← Ny445.out] at ho85 | (simp only [Int.reduceToNat] at ho85; rw [← Ny445.out] at ho85))
                   have n0_ := Aside0.mk (Kd.S_below (by (with_reducible repeat (first | apply Kd.S_alloc | apply Kd.S_drewN | apply Kd.S_drew)); exact HO_9.out) hb)
                   have n1_ := Aside0.mk (Kd.R_elder' (chR HO_12) (Kd.R_base ho85) hb)
                   have n2_ := Aside0.mk (Kd.R_elder' (chR HO_13) (Kd.R_base ho85) hb)
                   have n3_ := Aside0.mk (Kd.R_elder' (chR HO443) (Kd.R_base ho85) hb)
                   have n4_ := Aside0.mk (Kd.R_lower (Kd.R_new' (Kd.R_new' (Kd.R_new' ho85 (Kd.R_lt (chR HO_12))) (Kd.R_lt (chR HO_13))) (Kd.R_lt (chR HO443))) (below_size (chB HB)))
                   have n5_ := Aside0.mk (below_step (chB HB) hb)
                   clear HO_9
                   clear HO_12
                   clear HO_13
                   clear HO443
                   clear HB
                   have HO_9 := n0_
                   have HO_12 := n1_
                   have HO_13 := n2_
                   have HO443 := n3_
                   have HO447 := n4_
                   have HB := n5_
                   clear n0_ n1_ n2_ n3_ n4_ n5_
                   clear hb ho85
                   refine hK.out _ _ (HS0_) (fun hHeld => ?_)
                   clear hK K
                   refine norm_ (a' := ?_) ?_ ?_
                   rotate_left
                   ·show Act.put _ (some 88) _ = _
                    simp only [Act.put, List.setIfInBounds_toArray, List.set_cons_zero, List.set_cons_succ, i64_w, i32_w]
                    rfl
                   exact norm_ (by simp only [putAll, Act.put, List.setIfInBounds_toArray, List.set_cons_zero, List.set_cons_succ]) (hCont (v439, v442, v446) _ ⟨hHeld, (by (with_reducible repeat (first | apply Kd.R_alloc | apply Kd.R_drewN | apply Kd.R_drew)); exact Kd.R_mono HO443.out (fun _ hk => ⟨hk.2, ⟨hk.1.1, hk.1.2⟩⟩)), (by (with_reducible repeat (first | apply Kd.R_alloc | apply Kd.R_drewN | apply Kd.R_drew)); exact Kd.R_mono HO447.out (fun _ hk => ⟨hk.2, ⟨hk.1.1.2, hk.1.2⟩⟩)), (by (with_reducible repeat (first | apply Kd.R_alloc | apply Kd.R_drewN | apply Kd.R_drew)); exact Kd.R_mono HO_12.out (fun _ hk => ⟨hk.1.2, ⟨hk.2, hk.1.1⟩⟩)), (by (with_reducible repeat (first | apply Kd.R_alloc | apply Kd.R_drewN | apply Kd.R_drew)); exact Kd.R_mono HO_13.out (fun _ hk => ⟨hk.1.2, ⟨hk.2, hk.1.1⟩⟩)), (by (with_reducible repeat (first | apply Kd.S_alloc | apply Kd.S_drewN | apply Kd.S_drew)); exact HO_9.out), (chB HB)⟩)
                  ·skip
                   refine Kd.R_lit_step (Kd.int .i64) _ 3 ?hg (N := 88) ?hd (xs := ([rd t432 x14_2] : List Int)) (inner := [.int .i64 (rd t432 x14_2)]) (ok := fun _ => True) (okp := fun _ => True) ?hr ?hp (fun _ hk => hk) trivial (Below.refl _ _) (Nat.le_refl _) (by simp) ?_; (case hd => rfl); (case hg => rfl); (case hr => first | (go_simp; done) | (go_simp; rfl)); (case hp => exact (Reps.one (show Kd.M (Kd.int .i64) _ _ _ (rd t432 x14_2) [.int .i64 (rd t432 x14_2)] from rfl) (Reps.none _ _)))
                   intro v446 w83 ho84 hb hg_ hnew_
                   have HS0_ := (hb.cell (World.block_lt_of_cell? _ _ (hHeld))).trans (hHeld)
                   clear hg_ hnew_
                   (first | rw [← Ny445.out] at ho84 | (simp only [Int.reduceToNat] at ho84; rw [← Ny445.out] at ho84))
                   have n0_ := Aside0.mk (Kd.S_below (by (with_reducible repeat (first | apply Kd.S_alloc | apply Kd.S_drewN | apply Kd.S_drew)); exact HO_9.out) hb)
                   have n1_ := Aside0.mk (Kd.R_elder' (chR HO_12) (Kd.R_base ho84) hb)
                   have n2_ := Aside0.mk (Kd.R_elder' (chR HO_13) (Kd.R_base ho84) hb)
                   have n3_ := Aside0.mk (Kd.R_elder' (chR HO440) (Kd.R_base ho84) hb)
                   have n4_ := Aside0.mk (Kd.R_lower (Kd.R_new' (Kd.R_new' (Kd.R_new' ho84 (Kd.R_lt (chR HO_12))) (Kd.R_lt (chR HO_13))) (Kd.R_lt (chR HO440))) (below_size (chB HB)))
                   have n5_ := Aside0.mk (below_step (chB HB) hb)
                   clear HO_9
                   clear HO_12
                   clear HO_13
                   clear HO440
                   clear HB
                   have HO_9 := n0_
                   have HO_12 := n1_
                   have HO_13 := n2_
                   have HO440 := n3_
                   have HO447 := n4_
                   have HB := n5_
                   clear n0_ n1_ n2_ n3_ n4_ n5_
                   clear hb ho84
                   refine hK.out _ _ (HS0_) (fun hHeld => ?_)
                   clear hK K
                   refine norm_ (a' := ?_) ?_ ?_
                   rotate_left
                   ·show Act.put _ (some 88) _ = _
                    simp only [Act.put, List.setIfInBounds_toArray, List.set_cons_zero, List.set_cons_succ, i64_w, i32_w]
                    rfl
                   refine one_ (i := 6) (N := some 83) #[true, true, true, true, true, true, true, true, true, true, true, true, false, false, false] rfl rfl (one_of HT_.out (by kernel_rfl)) (by decide) (fun K hK => ?_)
                   refine Kd.R_append_rows_step (Kd.int .i64) (w0 := w) w.heap.size (by rfl) (.tmp 81) (.tmp 82) 22 3 (.int .i64 0) 8 rfl Try.underlying22 info3 rfl (by decide) (by omega) v439 y438 t417 _ _ _ (fun k_ => some k_ ≠ (.slice Ao79 t417.length co79 : Value).ownBlock ∧ some k_ ≠ (.slice (some ad444) t432.length co48 : Value).ownBlock ∧ some k_ ≠ (v446 : Value).ownBlock) (fun _ => False) rfl rfl ?aO ?aR (fun _ _ h => h) (fun _ h => h.elim) ?aF ?aB ?aS ?aL ?_
                   (case aR => repeat (first | exact (Kd.R_reads' HO_12.out).2.2 | (with_reducible refine Kd.C_alloc ?_ _) | (with_reducible refine Kd.C_drewN ?_ _) | (with_reducible refine Kd.C_drew ?_)))
                   (case aB => exact (chB HB))
                   (case aF => exact (fun k_ hk => ⟨Kd.fresh' (Kd.R_lt (chR HO_12)) k_ hk, Kd.fresh' (Kd.R_lt (chR HO_13)) k_ hk, Kd.fresh' (Kd.R_lt (chR HO447)) k_ hk⟩))
                   (case aO => exact (by (with_reducible repeat (first | apply Kd.R_alloc | apply Kd.R_drewN | apply Kd.R_drew)); exact Kd.R_mono HO440.out (fun _ hk => ⟨hk.1.1.2, ⟨hk.1.2, hk.2⟩⟩)))
                   (case aS => exact (below_size (chB HB)))
                   (case aL => have := LMc61.out; omega)
                   intro v442 w85 ho hb hg hat
                   rw [← Ny441.out] at ho
                   have n0_ := Aside0.mk (Kd.S_over' (by (with_reducible repeat (first | apply Kd.S_alloc | apply Kd.S_drewN | apply Kd.S_drew)); exact HO_9.out) (Kd.R_typed (chR HO440)) (by decide) hg)
                   have n1_ := Aside0.mk (Kd.R_after (ok := (fun k_ => some k_ ≠ (.slice (some ad444) t432.length co48 : Value).ownBlock ∧ some k_ ≠ (v446 : Value).ownBlock)) (by (with_reducible repeat (first | apply Kd.R_alloc | apply Kd.R_drewN | apply Kd.R_drew)); exact Kd.R_mono HO_12.out (fun _ hk => ⟨⟨hk.1.1, hk.2⟩, hk.1.2⟩)) hg hat)
                   have n2_ := Aside0.mk (Kd.R_after (ok := (fun k_ => some k_ ≠ (.slice Ao79 t417.length co79 : Value).ownBlock ∧ some k_ ≠ (v446 : Value).ownBlock)) (by (with_reducible repeat (first | apply Kd.R_alloc | apply Kd.R_drewN | apply Kd.R_drew)); exact Kd.R_mono HO_13.out (fun _ hk => ⟨⟨hk.1.1, hk.2⟩, hk.1.2⟩)) hg hat)
                   have n3_ := Aside0.mk (Kd.R_after (ok := (fun k_ => some k_ ≠ (.slice Ao79 t417.length co79 : Value).ownBlock ∧ some k_ ≠ (.slice (some ad444) t432.length co48 : Value).ownBlock)) (by (with_reducible repeat (first | apply Kd.R_alloc | apply Kd.R_drewN | apply Kd.R_drew)); exact Kd.R_mono HO447.out (fun _ hk => ⟨⟨hk.1.1.2, hk.1.2⟩, hk.2⟩)) hg hat)
                   have n4_ := Aside0.mk (hb)
                   have n5_ := Aside0.mk (ho)
                   clear HO_9
                   clear HO_12
                   clear HO_13
                   clear HO447
                   clear HB
                   clear HO440
                   have HO_9 := n0_
                   have HO_12 := n1_
                   have HO_13 := n2_
                   have HO447 := n3_
                   have HB := n4_
                   have HO443 := n5_
                   clear n0_ n1_ n2_ n3_ n4_ n5_
                   clear ho hb hg hat
                   refine hK.out _ _ ((by obtain ⟨a_, e_, h_⟩ := Kd.at_int (Kd.R_reads' HO_13.out).2.2 x14_2 (of_eq_true p444) (of_eq_true q444); cases e_; exact h_)) (fun hHeld => ?_)
                   clear hK K
                   refine norm_ (a' := ?_) ?_ ?_
                   rotate_left
                   ·show Act.put _ (some 83) _ = _
                    simp only [Act.put, List.setIfInBounds_toArray, List.set_cons_zero, List.set_cons_succ, i64_w, i32_w]
                    rfl
                   exact norm_ (by simp only [putAll, Act.put, List.setIfInBounds_toArray, List.set_cons_zero, List.set_cons_succ]) (hCont (v439, v442, v446) _ ⟨hHeld, (by (with_reducible repeat (first | apply Kd.R_alloc | apply Kd.R_drewN | apply Kd.R_drew)); exact Kd.R_mono HO443.out (fun _ hk => ⟨hk.2.2, ⟨hk.1, hk.2.1⟩⟩)), (by (with_reducible repeat (first | apply Kd.R_alloc | apply Kd.R_drewN | apply Kd.R_drew)); exact Kd.R_mono HO447.out (fun _ hk => ⟨hk.2, ⟨hk.1.1, hk.1.2⟩⟩)), (by (with_reducible repeat (first | apply Kd.R_alloc | apply Kd.R_drewN | apply Kd.R_drew)); exact Kd.R_mono HO_12.out (fun _ hk => ⟨hk.2, ⟨hk.1.2, hk.1.1⟩⟩)), (by (with_reducible repeat (first | apply Kd.R_alloc | apply Kd.R_drewN | apply Kd.R_drew)); exact Kd.R_mono HO_13.out (fun _ hk => ⟨hk.2, ⟨hk.1.2, hk.1.1⟩⟩)), (by (with_reducible repeat (first | apply Kd.S_alloc | apply Kd.S_drewN | apply Kd.S_drew)); exact HO_9.out), (chB HB)⟩)
                 ·skip
                  refine Kd.R_lit_step (Kd.int .i64) _ 3 ?hg (N := 88) ?hd (xs := ([rd t432 x14_2] : List Int)) (inner := [.int .i64 (rd t432 x14_2)]) (ok := fun _ => True) (okp := fun _ => True) ?hr ?hp (fun _ hk => hk) trivial (Below.refl _ _) (Nat.le_refl _) (by simp) ?_; (case hd => rfl); (case hg => rfl); (case hr => first | (go_simp; done) | (go_simp; rfl)); (case hp => exact (Reps.one (show Kd.M (Kd.int .i64) _ _ _ (rd t432 x14_2) [.int .i64 (rd t432 x14_2)] from rfl) (Reps.none _ _)))
                  intro v446 w81 ho82 hb hg_ hnew_
                  have HS0_ := (hb.cell (World.block_lt_of_cell? _ _ (hHeld))).trans (hHeld)
                  clear hg_ hnew_
                  (first | rw [← Ny445.out] at ho82 | (simp only [Int.reduceToNat] at ho82; rw [← Ny445.out] at ho82))
                  have n0_ := Aside0.mk (Kd.S_below (by (with_reducible repeat (first | apply Kd.S_alloc | apply Kd.S_drewN | apply Kd.S_drew)); exact HO_9.out) hb)
                  have n1_ := Aside0.mk (Kd.R_elder' (chR HO_12) (Kd.R_base ho82) hb)
                  have n2_ := Aside0.mk (Kd.R_elder' (chR HO_13) (Kd.R_base ho82) hb)
                  have n3_ := Aside0.mk (Kd.R_lower (Kd.R_new' (Kd.R_new' ho82 (Kd.R_lt (chR HO_12))) (Kd.R_lt (chR HO_13))) (below_size (chB HB)))
                  have n4_ := Aside0.mk (below_step (chB HB) hb)
                  clear HO_9
                  clear HO_12
                  clear HO_13
                  clear HB
                  have HO_9 := n0_
                  have HO_12 := n1_
                  have HO_13 := n2_
                  have HO447 := n3_
                  have HB := n4_
                  clear n0_ n1_ n2_ n3_ n4_
                  clear hb ho82
                  refine hK.out _ _ (HS0_) (fun hHeld => ?_)
                  clear hK K
                  refine norm_ (a' := ?_) ?_ ?_
                  rotate_left
                  ·show Act.put _ (some 88) _ = _
                   simp only [Act.put, List.setIfInBounds_toArray, List.set_cons_zero, List.set_cons_succ, i64_w, i32_w]
                   rfl
                  refine one_ (i := 4) (N := some 81) #[true, true, true, true, true, true, false, true, true, true, true, true, false, false, false] rfl rfl (one_of HT_.out (by kernel_rfl)) (by decide) (fun K hK => ?_)
                  refine Kd.R_lit_step (Kd.int .i64) _ 3 ?hg (N := 81) ?hd (xs := ([] : List Int)) (inner := []) (ok := fun _ => True) (okp := fun _ => True) ?hr ?hp (fun _ hk => hk) trivial (Below.refl _ _) (Nat.le_refl _) (by simp) ?_; (case hd => rfl); (case hg => rfl); (case hr => first | (go_simp; done) | (go_simp; rfl)); (case hp => exact (Reps.none _ _))
                  intro v439 w83 ho84 hb hg_ hnew_
                  have HS0_ := (hb.cell (World.block_lt_of_cell? _ _ (hHeld))).trans (hHeld)
                  clear hg_ hnew_
                  (first | rw [← Ny438.out] at ho84 | (simp only [Int.reduceToNat] at ho84; rw [← Ny438.out] at ho84))
                  have n0_ := Aside0.mk (Kd.S_below (by (with_reducible repeat (first | apply Kd.S_alloc | apply Kd.S_drewN | apply Kd.S_drew)); exact HO_9.out) hb)
                  have n1_ := Aside0.mk (Kd.R_elder' (chR HO_12) (Kd.R_base ho84) hb)
                  have n2_ := Aside0.mk (Kd.R_elder' (chR HO_13) (Kd.R_base ho84) hb)
                  have n3_ := Aside0.mk (Kd.R_elder' (chR HO447) (Kd.R_base ho84) hb)
                  have n4_ := Aside0.mk (Kd.R_lower (Kd.R_new' (Kd.R_new' (Kd.R_new' ho84 (Kd.R_lt (chR HO_12))) (Kd.R_lt (chR HO_13))) (Kd.R_lt (chR HO447))) (below_size (chB HB)))
                  have n5_ := Aside0.mk (below_step (chB HB) hb)
                  clear HO_9
                  clear HO_12
                  clear HO_13
                  clear HO447
                  clear HB
                  have HO_9 := n0_
                  have HO_12 := n1_
                  have HO_13 := n2_
                  have HO447 := n3_
                  have HO440 := n4_
                  have HB := n5_
                  clear n0_ n1_ n2_ n3_ n4_ n5_
                  clear hb ho84
                  refine hK.out _ _ (HS0_) (fun hHeld => ?_)
                  clear hK K
                  refine norm_ (a' := ?_) ?_ ?_
                  rotate_left
                  ·show Act.put _ (some 81) _ = _
                   simp only [Act.put, List.setIfInBounds_toArray, List.set_cons_zero, List.set_cons_succ, i64_w, i32_w]
                   rfl
                  refine one_ (i := 6) (N := some 83) #[true, true, true, true, true, true, true, true, true, true, true, true, false, false, false] rfl rfl (one_of HT_.out (by kernel_rfl)) (by decide) (fun K hK => ?_)
                  refine Kd.R_append_rows_step (Kd.int .i64) (w0 := w) w.heap.size (by rfl) (.tmp 81) (.tmp 82) 22 3 (.int .i64 0) 8 rfl Try.underlying22 info3 rfl (by decide) (by omega) v439 y438 t417 _ _ _ (fun k_ => some k_ ≠ (.slice Ao79 t417.length co79 : Value).ownBlock ∧ some k_ ≠ (.slice (some ad444) t432.length co48 : Value).ownBlock ∧ some k_ ≠ (v446 : Value).ownBlock) (fun _ => False) rfl rfl ?aO ?aR (fun _ _ h => h) (fun _ h => h.elim) ?aF ?aB ?aS ?aL ?_
                  (case aR => repeat (first | exact (Kd.R_reads' HO_12.out).2.2 | (with_reducible refine Kd.C_alloc ?_ _) | (with_reducible refine Kd.C_drewN ?_ _) | (with_reducible refine Kd.C_drew ?_)))
                  (case aB => exact (chB HB))
                  (case aF => exact (fun k_ hk => ⟨Kd.fresh' (Kd.R_lt (chR HO_12)) k_ hk, Kd.fresh' (Kd.R_lt (chR HO_13)) k_ hk, Kd.fresh' (Kd.R_lt (chR HO447)) k_ hk⟩))
                  (case aO => exact (by (with_reducible repeat (first | apply Kd.R_alloc | apply Kd.R_drewN | apply Kd.R_drew)); exact Kd.R_mono HO440.out (fun _ hk => ⟨hk.1.1.2, ⟨hk.1.2, hk.2⟩⟩)))
                  (case aS => exact (below_size (chB HB)))
                  (case aL => have := LMc61.out; omega)
                  intro v442 w85 ho hb hg hat
                  rw [← Ny441.out] at ho
                  have n0_ := Aside0.mk (Kd.S_over' (by (with_reducible repeat (first | apply Kd.S_alloc | apply Kd.S_drewN | apply Kd.S_drew)); exact HO_9.out) (Kd.R_typed (chR HO440)) (by decide) hg)
                  have n1_ := Aside0.mk (Kd.R_after (ok := (fun k_ => some k_ ≠ (.slice (some ad444) t432.length co48 : Value).ownBlock ∧ some k_ ≠ (v446 : Value).ownBlock)) (chR HO_12) hg hat)
                  have n2_ := Aside0.mk (Kd.R_after (ok := (fun k_ => some k_ ≠ (.slice Ao79 t417.length co79 : Value).ownBlock ∧ some k_ ≠ (v446 : Value).ownBlock)) (chR HO_13) hg hat)
                  have n3_ := Aside0.mk (Kd.R_after (ok := (fun k_ => some k_ ≠ (.slice Ao79 t417.length co79 : Value).ownBlock ∧ some k_ ≠ (.slice (some ad444) t432.length co48 : Value).ownBlock)) (by (with_reducible repeat (first | apply Kd.R_alloc | apply Kd.R_drewN | apply Kd.R_drew)); exact Kd.R_mono HO447.out (fun _ hk => ⟨⟨hk.1.1.2, hk.1.2⟩, hk.2⟩)) hg hat)
                  have n4_ := Aside0.mk (hb)
                  have n5_ := Aside0.mk (ho)
                  clear HO_9
                  clear HO_12
                  clear HO_13
                  clear HO447
                  clear HB
                  clear HO440
                  have HO_9 := n0_
                  have HO_12 := n1_
                  have HO_13 := n2_
                  have HO447 := n3_
                  have HB := n4_
                  have HO443 := n5_
                  clear n0_ n1_ n2_ n3_ n4_ n5_
                  clear ho hb hg hat
                  refine hK.out _ _ ((by obtain ⟨a_, e_, h_⟩ := Kd.at_int (Kd.R_reads' HO_13.out).2.2 x14_2 (of_eq_true p444) (of_eq_true q444); cases e_; exact h_)) (fun hHeld => ?_)
                  clear hK K
                  refine norm_ (a' := ?_) ?_ ?_
                  rotate_left
                  ·show Act.put _ (some 83) _ = _
                   simp only [Act.put, List.setIfInBounds_toArray, List.set_cons_zero, List.set_cons_succ, i64_w, i32_w]
                   rfl
                  exact norm_ (by simp only [putAll, Act.put, List.setIfInBounds_toArray, List.set_cons_zero, List.set_cons_succ]) (hCont (v439, v442, v446) _ ⟨hHeld, (by (with_reducible repeat (first | apply Kd.R_alloc | apply Kd.R_drewN | apply Kd.R_drew)); exact Kd.R_mono HO443.out (fun _ hk => ⟨hk.2.2, ⟨hk.1, hk.2.1⟩⟩)), (by (with_reducible repeat (first | apply Kd.R_alloc | apply Kd.R_drewN | apply Kd.R_drew)); exact Kd.R_mono HO447.out (fun _ hk => ⟨hk.2, ⟨hk.1.1, hk.1.2⟩⟩)), (by (with_reducible repeat (first | apply Kd.R_alloc | apply Kd.R_drewN | apply Kd.R_drew)); exact Kd.R_mono HO_12.out (fun _ hk => ⟨hk.2, ⟨hk.1.2, hk.1.1⟩⟩)), (by (with_reducible repeat (first | apply Kd.R_alloc | apply Kd.R_drewN | apply Kd.R_drew)); exact Kd.R_mono HO_13.out (fun _ hk => ⟨hk.2, ⟨hk.1.2, hk.1.1⟩⟩)), (by (with_reducible repeat (first | apply Kd.S_alloc | apply Kd.S_drewN | apply Kd.S_drew)); exact HO_9.out), (chB HB)⟩)
                rintro ⟨v439, v442, v446⟩ w86 ⟨hS_, h0_, h1_, h2_, h3_, h4_, h5_⟩
                have n0_ : Aside0 (Kd.R (Kd.int .i64) 3 w86 w.heap.size (fun k_ => some k_ ≠ (v446 : Value).ownBlock ∧ some k_ ≠ (.slice Ao79 t417.length co79 : Value).ownBlock ∧ some k_ ≠ (.slice (some ad444) t432.length co48 : Value).ownBlock) v442 y441) := ⟨h0_⟩
                have n1_ : Aside0 (Kd.R (Kd.int .i64) 3 w86 w.heap.size (fun k_ => some k_ ≠ (v442 : Value).ownBlock ∧ some k_ ≠ (.slice Ao79 t417.length co79 : Value).ownBlock ∧ some k_ ≠ (.slice (some ad444) t432.length co48 : Value).ownBlock) v446 y445) := ⟨h1_⟩
                have n2_ : Aside0 (Kd.R (Kd.int .i64) 3 w86 w.heap.size (fun k_ => some k_ ≠ (v442 : Value).ownBlock ∧ some k_ ≠ (v446 : Value).ownBlock ∧ some k_ ≠ (.slice (some ad444) t432.length co48 : Value).ownBlock) (.slice Ao79 t417.length co79) t417) := ⟨h2_⟩
                have n3_ : Aside0 (Kd.R (Kd.int .i64) 3 w86 w.heap.size (fun k_ => some k_ ≠ (v442 : Value).ownBlock ∧ some k_ ≠ (v446 : Value).ownBlock ∧ some k_ ≠ (.slice Ao79 t417.length co79 : Value).ownBlock) (.slice (some ad444) t432.length co48) t432) := ⟨h3_⟩
                have n4_ : Aside0 (Kd.S k36 36 w86 w.heap.size (fun _ => True) (.slice Ao12 t408.length co12) t408) := ⟨h4_⟩
                have n5_ : Aside0 (Below w.heap.size w w86) := ⟨h5_⟩
                clear HO_9
                clear HO_12
                clear HO_13
                clear HB
                clear h0_ h1_ h2_ h3_ h4_ h5_
                have HO443 := n0_
                have HO447 := n1_
                have HO_12 := n2_
                have HO_13 := n3_
                have HO_9 := n4_
                have HB := n5_
                clear n0_ n1_ n2_ n3_ n4_ n5_
                have hHeld : w86.cell? (ad444.add (x14_2).toNat) = some (.int .i64 (rd t432 x14_2)) := hS_
                obtain ⟨Ao88, co88, eo88⟩ := Kd.R_slice HO447.out
                (first | subst eo88 | (injection eo88 with f1_ f2_ f3_; have f4_ := f1_.symm; have f5_ := f3_.symm; clear f1_ f2_ f3_; subst f4_; subst f5_))
                refine norm_ (a' := ?_) ?_ ?_
                rotate_left
                ·simp only [putAll, Act.put, List.setIfInBounds_toArray, List.set_cons_zero, List.set_cons_succ]
                 rfl
                refine one_ (i := 12) (N := some 89) #[true, true, true, true, true, true, true, true, true, true, true, true, true, false, false] rfl rfl (one_of HT_.out (by kernel_rfl)) (by decide) (fun K hK => ?_)
                refine Kd.R_append_rows_step (Kd.int .i64) (w0 := w) w.heap.size (by rfl) (.tmp 83) (.tmp 88) 22 3 (.int .i64 0) 8 rfl Try.underlying22 info3 rfl (by decide) (by omega) v442 y441 y445 _ _ _ (fun k_ => some k_ ≠ (.slice Ao79 t417.length co79 : Value).ownBlock ∧ some k_ ≠ (.slice (some ad444) t432.length co48 : Value).ownBlock ∧ some k_ ≠ (.slice Ao88 y445.length co88 : Value).ownBlock) (fun _ => False) rfl rfl ?aO ?aR (fun _ _ h => h) (fun _ h => h.elim) ?aF ?aB ?aS ?aL ?_
                (case aR => repeat (first | exact (Kd.R_reads' HO447.out).2.2 | (with_reducible refine Kd.C_alloc ?_ _) | (with_reducible refine Kd.C_drewN ?_ _) | (with_reducible refine Kd.C_drew ?_)))
                (case aB => exact (chB HB))
                (case aF => exact (fun k_ hk => ⟨Kd.fresh' (Kd.R_lt (chR HO_12)) k_ hk, Kd.fresh' (Kd.R_lt (chR HO_13)) k_ hk, Kd.fresh' (Kd.R_lt (chR HO447)) k_ hk⟩))
                (case aO => exact (by (with_reducible repeat (first | apply Kd.R_alloc | apply Kd.R_drewN | apply Kd.R_drew)); exact Kd.R_mono HO443.out (fun _ hk => ⟨hk.2.1, ⟨hk.2.2, hk.1⟩⟩)))
                (case aS => exact (below_size (chB HB)))
                (case aL => have := LMc64.out; omega)
                intro v449 w87 ho hb hg hat
                rw [← Ny448.out] at ho
                have n0_ := Aside0.mk (Kd.S_over' (by (with_reducible repeat (first | apply Kd.S_alloc | apply Kd.S_drewN | apply Kd.S_drew)); exact HO_9.out) (Kd.R_typed (chR HO443)) (by decide) hg)
                have n1_ := Aside0.mk (Kd.R_after (ok := (fun k_ => some k_ ≠ (.slice (some ad444) t432.length co48 : Value).ownBlock ∧ some k_ ≠ (.slice Ao88 y445.length co88 : Value).ownBlock)) (by (with_reducible repeat (first | apply Kd.R_alloc | apply Kd.R_drewN | apply Kd.R_drew)); exact Kd.R_mono HO_12.out (fun _ hk => ⟨⟨hk.2.2, hk.2.1⟩, hk.1⟩)) hg hat)
                have n2_ := Aside0.mk (Kd.R_after (ok := (fun k_ => some k_ ≠ (.slice Ao79 t417.length co79 : Value).ownBlock ∧ some k_ ≠ (.slice Ao88 y445.length co88 : Value).ownBlock)) (by (with_reducible repeat (first | apply Kd.R_alloc | apply Kd.R_drewN | apply Kd.R_drew)); exact Kd.R_mono HO_13.out (fun _ hk => ⟨⟨hk.2.2, hk.2.1⟩, hk.1⟩)) hg hat)
                have n3_ := Aside0.mk (Kd.R_after (ok := (fun k_ => some k_ ≠ (.slice Ao79 t417.length co79 : Value).ownBlock ∧ some k_ ≠ (.slice (some ad444) t432.length co48 : Value).ownBlock)) (by (with_reducible repeat (first | apply Kd.R_alloc | apply Kd.R_drewN | apply Kd.R_drew)); exact Kd.R_mono HO447.out (fun _ hk => ⟨⟨hk.2.1, hk.2.2⟩, hk.1⟩)) hg hat)
                have n4_ := Aside0.mk (hb)
                have n5_ := Aside0.mk (ho)
                clear HO_9
                clear HO_12
                clear HO_13
                clear HO447
                clear HB
                clear HO443
                have HO_9 := n0_
                have HO_12 := n1_
                have HO_13 := n2_
                have HO447 := n3_
                have HB := n4_
                have HO450 := n5_
                clear n0_ n1_ n2_ n3_ n4_ n5_
                clear ho hb hg hat
                obtain ⟨Ao89, co89, eo89⟩ := Kd.R_slice HO450.out
                (first | subst eo89 | (injection eo89 with f1_ f2_ f3_; have f4_ := f1_.symm; have f5_ := f3_.symm; clear f1_ f2_ f3_; subst f4_; subst f5_))
                refine hK.out _ _ ((by obtain ⟨a_, e_, h_⟩ := Kd.at_int (Kd.R_reads' HO_13.out).2.2 x14_2 (of_eq_true p444) (of_eq_true q444); cases e_; exact h_)) (fun hHeld => ?_)
                clear hK K
                refine norm_ (a' := ?_) ?_ ?_
                rotate_left
                ·show Act.put _ (some 89) _ = _
                 simp only [Act.put, List.setIfInBounds_toArray, List.set_cons_zero, List.set_cons_succ, i64_w, i32_w]
                 rfl
                refine one_ (i := 13) (N := some 90) #[true, true, true, true, true, true, true, true, true, true, true, true, true, true, false] rfl rfl (one_of HT_.out (by kernel_rfl)) (by decide) (fun K hK => ?_)
                refine goes_ Try.func13 (by kernel_rfl) rfl #[.slice Ao12 t408.length co12, .slice Ao89 y448.length co89] (by rfl) rfl rfl (by (try simp only [List.map_toArray, List.map_cons, List.map_nil]); first | done | rfl | (simp only [List.length_drop, List.length_take]; rfl)) ?_
                with_reducible refine (licence_Fine.calls _ _ t408 _ _ y448 false _ ?side1 ?side2 ?side3 ?side4 A65.out).mono ?_
                (case side1 => repeat (first | exact (Kd.S_reads' HO_9.out).2.2 | (with_reducible refine Kd.C_alloc ?_ _) | (with_reducible refine Kd.C_drewN ?_ _) | (with_reducible refine Kd.C_drew ?_)))
                (case side2 => exact (Kd.S_reads' HO_9.out).2.1)
                (case side3 => repeat (first | exact (Kd.R_reads' HO450.out).2.2 | (with_reducible refine Kd.C_alloc ?_ _) | (with_reducible refine Kd.C_drewN ?_ _) | (with_reducible refine Kd.C_drew ?_)))
                (case side4 => exact (Kd.R_reads' HO450.out).2.1)
                rintro e w90 ⟨rfl, hb⟩
                have HS0_ := (hb.cell (World.block_lt_of_cell? _ _ (hHeld))).trans (hHeld)
                refine ⟨_, rfl, ?_⟩
                have n0_ := Aside0.mk (Kd.S_below (by (with_reducible repeat (first | apply Kd.S_alloc | apply Kd.S_drewN | apply Kd.S_drew)); exact HO_9.out) hb)
                have n1_ := Aside0.mk (Kd.R_below (chR HO_12) hb)
                have n2_ := Aside0.mk (Kd.R_below (chR HO_13) hb)
                have n3_ := Aside0.mk (Kd.R_below (chR HO447) hb)
                have n4_ := Aside0.mk (Kd.R_below (chR HO450) hb)
                have n5_ := Aside0.mk (below_step (chB HB) hb)
                clear HO_9
                clear HO_12
                clear HO_13
                clear HO447
                clear HO450
                clear HB
                have HO_9 := n0_
                have HO_12 := n1_
                have HO_13 := n2_
                have HO447 := n3_
                have HO450 := n4_
                have HB := n5_
                clear n0_ n1_ n2_ n3_ n4_ n5_
                (try clear hb)
                (try clear hb2)
                (try clear hk)
                (try clear hi)
                refine hK.out _ _ (HS0_) (fun hHeld => ?_)
                clear hK K
                refine norm_ (a' := ?_) ?_ ?_
                rotate_left
                ·show Act.put _ (some 90) _ = _
                 simp only [Act.put, List.setIfInBounds_toArray, List.set_cons_zero, List.set_cons_succ, i64_w, i32_w]
                 rfl
                refine pure_ (i := 14) (N := some 91) (v := ?_) (a' := ?_) #[true, true, true, true, true, true, true, true, true, true, true, true, true, true, true] rfl rfl (any_of HT_.out (by kernel_rfl)) (fun _ _ _ h => h) (Or.inl ⟨by rfl, ?_⟩) ?_ ?_
                rotate_left
                ·intro w'
                 go_simp
                 with_reducible rfl
                rotate_left
                ·simp only [Act.put, List.setIfInBounds_toArray, List.set_cons_zero, List.set_cons_succ, i64_w, i32_w]
                 rfl
                refine done_ (done_of HT_.out (by kernel_rfl)) ?_
                try go_wp2
                go_roundg k3
                case measure => have := HJ8.out; have := HK2.out; have := HK3.out; omega
                case rel => exact ⟨(wrap64 (x14_2 + 1)), (by first | rfl | (simp; done) | (simp [*]; done)), H', ⟨by have := HJ8.out; have := HK2.out; have := HK3.out; omega⟩, ⟨by (with_reducible repeat (first | apply Kd.S_alloc | apply Kd.S_drewN | apply Kd.S_drew)); exact HO_9.out⟩, ⟨by (with_reducible repeat (first | apply Kd.R_alloc | apply Kd.R_drewN | apply Kd.R_drew)); exact Kd.R_mono HO_12.out (fun _ hk => hk.1.1)⟩, ⟨by (with_reducible repeat (first | apply Kd.R_alloc | apply Kd.R_drewN | apply Kd.R_drew)); exact Kd.R_mono HO_13.out (fun _ hk => hk.1.1)⟩, ⟨chB HB⟩⟩
              ·rw [if_neg c64] at H
               exact absurd H (by simp)
             ·rw [if_neg c63] at H
              exact absurd H (by simp)
            ·rw [if_neg c62] at H
             exact absurd H (by simp)
           ·rw [if_neg c61] at H
            exact absurd H (by simp)
      ·rw [if_neg c47] at H
       have c47b0 : decide (x14_2 < (t432.length : Int)) = false := decide_eq_false c47
       clear c47
       replace H := Option.bind_eq_some_iff.mp H
       obtain ⟨t435, A910, H⟩ := H
       replace H : (some t435) = some r := H
       have A91 := Aside0.mk A910
       clear A910
       obtain rfl := Option.some.inj H
       obtain ⟨Ao92, co92, eo92⟩ := Kd.R_slice HO_13.out
       subst eo92
       go_wp2_with (first | ((with_reducible refine gate_callee (f := 16) rfl ?_); refine goesL_ (some 92) rfl rfl Try.func16 (by kernel_rfl) rfl #[] rfl (by (try simp only [List.map_toArray, List.map_cons, List.map_nil]); first | done | rfl | (simp only [List.length_drop, List.length_take]; rfl)) ?_; (with_reducible refine (splicerylaw41_lives.calls k2  t435 _ A91.out).mono ?_); rintro e w93 ⟨rfl, hb⟩; refine ⟨_, rfl, ?_⟩; have n0_ := Aside0.mk (Kd.S_below (by (with_reducible repeat (first | apply Kd.S_alloc | apply Kd.S_drewN | apply Kd.S_drew)); exact HO_9.out) hb); have n1_ := Aside0.mk (Kd.R_below (chR HO_12) hb); have n2_ := Aside0.mk (Kd.R_below (chR HO_13) hb); have n3_ := Aside0.mk (below_step (chB HB) hb); clear HO_9; clear HO_12; clear HO_13; clear HB; have HO_9 := n0_; have HO_12 := n1_; have HO_13 := n2_; have HB := n3_; clear n0_ n1_ n2_ n3_; (try clear hb); (try clear hb2); (try clear hk); (try clear hi)))
       go_ret
       exact ⟨by first | rfl | (simp [errW_none, errW_some] <;> rfl) | (simp [*, errW_none, errW_some] <;> rfl), chB HB⟩

/-- THE ONE PURE STATEMENT of splicerylaw41_LicenceGreatest: yours. -/
def splicerylaw41_LicenceGreatest.Pure : Prop := ∀ (l0 : List Int) (l1 : List Int) (a2 : Int) (a3 : Int), l0.length ≤ maxLen → l0.length * 8 ≤ 140737488351232 → (∀ x ∈ l0, (Lit.int .i64 x).wf = true) → l1.length ≤ maxLen → l1.length * 8 ≤ 140737488351232 → (∀ x ∈ l1, (Lit.int .i64 x).wf = true) → (Lit.int .i64 a2).wf = true → (Lit.int .i64 a3).wf = true → ∃ k, splicerylaw41_LicenceGreatest.f k l0 l1 a2 a3 = some true
theorem splicerylaw41_LicenceGreatest.walk (P : splicerylaw41_LicenceGreatest.Pure) (a0 : Option Addr) (len0 cap0 : Nat) (z0 : List Int) (a1 : Option Addr) (len1 cap1 : Nat) (z1 : List Int) (a2 : Int) (a3 : Int) (w : World) (w0 : (a0 = none ∧ len0 = 0 ∧ cap0 = 0 ∧ z0 = []) ∨ ∃ x, a0 = some x ∧ len0 ≤ cap0 ∧ cap0 ≤ maxLen ∧ z0.length = cap0 ∧ (∀ i, i < z0.length → w.cell? (x.add i) = some (.int .i64 (z0.getD i 0))) ∧ ∀ n ∈ z0, (Lit.int .i64 n).wf = true) (y0 : len0 * 8 ≤ 140737488351232) (w1 : (a1 = none ∧ len1 = 0 ∧ cap1 = 0 ∧ z1 = []) ∨ ∃ x, a1 = some x ∧ len1 ≤ cap1 ∧ cap1 ≤ maxLen ∧ z1.length = cap1 ∧ (∀ i, i < z1.length → w.cell? (x.add i) = some (.int .i64 (z1.getD i 0))) ∧ ∀ n ∈ z1, (Lit.int .i64 n).wf = true) (y1 : len1 * 8 ≤ 140737488351232) (w2 : (Lit.int .i64 a2).wf = true) (w3 : (Lit.int .i64 a3).wf = true) :
  Calls Try.prog 6 #[.slice a0 len0 cap0, .slice a1 len1 cap1, .int .i64 a2, .int .i64 a3] w fun e w' => e = .returned (.bool true) ∧ Below w.heap.size w w' := by
 obtain ⟨l0, rfl, hr0, hm0, hw0, hc0⟩ := ReadsInt.ofRowC w0
 obtain ⟨l1, rfl, hr1, hm1, hw1, hc1⟩ := ReadsInt.ofRowC w1
 obtain ⟨k, h⟩ := P l0 l1 a2 a3 hm0 y0 hw0 hm1 y1 hw1 w2 w3
 refine (splicerylaw41_LicenceGreatest.calls k _ _ l0 _ _ l1 a2 a3 true w (Kd.C_of_reads (d := (0 : Int)) (h1 := fun _ => rfl) hr0) hc0 (Kd.C_of_reads (d := (0 : Int)) (h1 := fun _ => rfl) hr1) hc1 h).mono ?_
 rintro e w' ⟨rfl, hd⟩
 exact ⟨rfl, hd⟩

end Go.Proofs.Ytjagffomohbioaa.L
