-- Written by a program of this session (patch_print.py over the kit's print) out of the translation. Not trusted: Lean checks it.
import Derived.Test.YtjagffomohbioaaLx0
import Derived.Test.YtjagffomohbioaaLx1
import Derived.Test.YtjagffomohbioaaLx2
import Derived.Test.YtjagffomohbioaaLx3
import Derived.Test.YtjagffomohbioaaLx4
import Derived.Test.YtjagffomohbioaaLx5
import Derived.Test.YtjagffomohbioaaGiven
namespace Go.Proofs.Ytjagffomohbioaa.L
open Go.RowKit Go.Proofs.YtjagffomohbioaaW.PrintWords Go.Proofs.YtjagffomohbioaaW.PrintLast Go.Proofs.YtjagffomohbioaaW.PrintMore
attribute [local go_sem] max2_int min2_int max_two min_two max_three min_three max_four min_four   -- for this text's walks alone
set_option linter.unusedVariables false
set_option linter.unusedSimpArgs false

/-! ### splicerylaw41_LicenceCores: function 4 -/
def splicerylaw41_LicenceCores.l0 : Nat → List Int → List (S36) → List (S36) → List Int → Int → Option (Bool)
  | 0, _, _, _, _, _ => none
  | k + 1, x10, x11, x12, x13, x14 => if x14 < 17 then (if 0 ≤ x14 then (if x14 < (x12.length : Int) then (if x13.length < 17592186044416 then (splicerylaw41_LicenceCores.l0 k x10 x11 (x12.set (x14 : Int).toNat (⟨(⟨#[]⟩ : ByteArray), (([(⟨#[97]⟩ : ByteArray)] : List ByteArray)), (([(⟨#[97]⟩ : ByteArray)] : List ByteArray))⟩ : S36)) (x13 ++ [x14]) (wrap64 (x14 + 1))) else (none)) else (none)) else (none)) else ((licence_Core.f x11 x10).bind fun t358 => ((spliceryref41_Core.f k x11 x10).bind fun t361 => ((spliceryref01_SameInts.f k t358 t361).bind fun t364 => (if t364 = true then ((licence_Core.f x12 x13).bind fun t365 => (if (t365.length : Int) = 0 then (if 16 ≤ (x13.length : Int) then ((licence_Core.f x12 (x13.take 16)).bind fun t372 => (if (t372.length : Int) = 1 then ((splicerylaw41_lives.f k).bind fun t375 => (some t375)) else (some false))) else (none)) else (some false))) else (some false)))))
def splicerylaw41_LicenceCores.f (k : Nat) (l0 : List Int) (l1 : List Int) (a2 : Int) (a3 : Int) : Option (Bool) := (spliceryref41_Clauses.f k l0).bind fun t329 => ((spliceryref41_Picks.f k l1).bind fun t332 => ((licence_Core.f t329 t332).bind fun t335 => ((spliceryref41_Core.f k t329 t332).bind fun t338 => ((spliceryref01_SameInts.f k t335 t338).bind fun t341 => (if t341 = true then ((spliceryref41_Spoilt.f k t329 a2 a3).bind fun t342 => (if 17 ≤ 4398046511104 then (splicerylaw41_LicenceCores.l0 k t332 t342 (List.replicate 17 z36) ([] : List Int) 0) else (none))) else (some false))))))
/-- THE ONE PURE STATEMENT of splicerylaw41_LicenceCores: yours. -/
def splicerylaw41_LicenceCores.Pure : Prop := ∀ (l0 : List Int) (l1 : List Int) (a2 : Int) (a3 : Int), l0.length ≤ maxLen → l0.length * 8 ≤ 140737488351232 → (∀ x ∈ l0, (Lit.int .i64 x).wf = true) → l1.length ≤ maxLen → l1.length * 8 ≤ 140737488351232 → (∀ x ∈ l1, (Lit.int .i64 x).wf = true) → (Lit.int .i64 a2).wf = true → (Lit.int .i64 a3).wf = true → ∃ k, splicerylaw41_LicenceCores.f k l0 l1 a2 a3 = some true
/-! ### splicerylaw41_LicenceSmallest: function 7 -/
mutual
def splicerylaw41_LicenceSmallest.j0 : Nat → Int → List (S36) → List Int → List Int → Bool → Option (Bool)
  | 0, _, _, _, _, _ => none
  | k + 1, x2, x7, x8, x9, x47 => if x47 = true then (some false) else (splicerylaw41_LicenceSmallest.l0 k x2 x7 x8 x9 ([] : List Int) 0)
def splicerylaw41_LicenceSmallest.l0 : Nat → Int → List (S36) → List Int → List Int → List Int → Int → Option (Bool)
  | 0, _, _, _, _, _, _ => none
  | k + 1, x2, x7, x8, x9, x10, x11 => if x11 < (x8.length : Int) then (splicerylaw41_LicenceSmallest.j2 k x2 x7 x8 x9 x10 x11 (decide ((x10.length : Int) < (wrap64 ((x9.length : Int) - 1))))) else (splicerylaw41_LicenceSmallest.j2 k x2 x7 x8 x9 x10 x11 false)
def splicerylaw41_LicenceSmallest.j2 : Nat → Int → List (S36) → List Int → List Int → List Int → Int → Bool → Option (Bool)
  | 0, _, _, _, _, _, _, _ => none
  | k + 1, x2, x7, x8, x9, x10, x11, x59 => if x59 = true then ((spliceryref01_Around.f x2 1024).bind fun t393 => (if 0 ≤ (IntKind.u64.wrap (x11)) then (if (Int.tmod (shr .i64 t393 (IntKind.u64.wrap (x11))) 2) = 1 then (if 0 ≤ x11 then (if x11 < (x8.length : Int) then (if x10.length < 17592186044416 then (splicerylaw41_LicenceSmallest.l0 k x2 x7 x8 x9 (x10 ++ [rd x8 x11]) (wrap64 (x11 + 1))) else (none)) else (none)) else (none)) else (splicerylaw41_LicenceSmallest.l0 k x2 x7 x8 x9 x10 (wrap64 (x11 + 1)))) else (none))) else ((licence_Fine.f x7 x10).bind fun t398 => (if t398 = true then ((splicerylaw41_lives.f k).bind fun t399 => (some t399)) else (some false)))
end
def splicerylaw41_LicenceSmallest.f (k : Nat) (l0 : List Int) (l1 : List Int) (a2 : Int) : Option (Bool) := (spliceryref41_Clauses.f k l0).bind fun t376 => ((spliceryref41_Picks.f k l1).bind fun t379 => ((licence_Core.f t376 t379).bind fun t382 => ((licence_Fine.f t376 t379).bind fun t385 => (if t385 = true then (if (t382.length : Int) = 0 then ((splicerylaw41_lives.f k).bind fun t386 => (some t386)) else (some false)) else (if (t382.length : Int) = 0 then (splicerylaw41_LicenceSmallest.j0 k a2 t376 t379 t382 true) else ((licence_Check.f k t376 t379 t382).bind fun t387 => (if t387 = 0 then (if 0 ≤ (wrap64 ((t382.length : Int) - 1)) then (if (wrap64 ((t382.length : Int) - 1)) ≤ (t382.length : Int) then ((licence_Fine.f t376 (t382.take ((wrap64 ((t382.length : Int) - 1)) : Int).toNat)).bind fun t392 => (splicerylaw41_LicenceSmallest.j0 k a2 t376 t379 t382 (!t392))) else (none)) else (none)) else (splicerylaw41_LicenceSmallest.j0 k a2 t376 t379 t382 true))))))))
set_option maxHeartbeats 8000000 in
set_option maxRecDepth 100000 in
theorem splicerylaw41_LicenceSmallest.calls (k : Nat) (A0 : Option Addr) (c0 : Nat) (l0 : List Int) (A1 : Option Addr) (c1 : Nat) (l1 : List Int) (a2 : Int) (r : Bool) (w : World) (hr0 : Kd.C (Kd.int .i64) w A0 l0.length l0) (hc0 : l0.length ≤ c0) (hr1 : Kd.C (Kd.int .i64) w A1 l1.length l1) (hc1 : l1.length ≤ c1) (h : splicerylaw41_LicenceSmallest.f k l0 l1 a2 = some r) :
    Calls Try.prog 7 #[.slice A0 l0.length c0, .slice A1 l1.length c1, .int .i64 a2] w fun e w' => e = .returned (.bool r) ∧ Below w.heap.size w w' := by
  have HR0 := Aside0.mk hr0
  have HC0 := Aside0.mk hc0
  clear hr0 hc0
  have HR1 := Aside0.mk hr1
  have HC1 := Aside0.mk hc1
  clear hr1 hc1
  have HB := Aside0.mk (Below.refl w.heap.size w)
  have H : ((spliceryref41_Clauses.f k l0).bind fun t376 => ((spliceryref41_Picks.f k l1).bind fun t379 => ((licence_Core.f t376 t379).bind fun t382 => ((licence_Fine.f t376 t379).bind fun t385 => (if t385 = true then (if (t382.length : Int) = 0 then ((splicerylaw41_lives.f k).bind fun t386 => (some t386)) else (some false)) else (if (t382.length : Int) = 0 then (splicerylaw41_LicenceSmallest.j0 k a2 t376 t379 t382 true) else ((licence_Check.f k t376 t379 t382).bind fun t387 => (if t387 = 0 then (if 0 ≤ (wrap64 ((t382.length : Int) - 1)) then (if (wrap64 ((t382.length : Int) - 1)) ≤ (t382.length : Int) then ((licence_Fine.f t376 (t382.take ((wrap64 ((t382.length : Int) - 1)) : Int).toNat)).bind fun t392 => (splicerylaw41_LicenceSmallest.j0 k a2 t376 t379 t382 (!t392))) else (none)) else (none)) else (splicerylaw41_LicenceSmallest.j0 k a2 t376 t379 t382 true))))))))) = some r := h
  clear h
  replace H := Option.bind_eq_some_iff.mp H
  obtain ⟨t376, A40, H⟩ := H
  replace H : ((spliceryref41_Picks.f k l1).bind fun t379 => ((licence_Core.f t376 t379).bind fun t382 => ((licence_Fine.f t376 t379).bind fun t385 => (if t385 = true then (if (t382.length : Int) = 0 then ((splicerylaw41_lives.f k).bind fun t386 => (some t386)) else (some false)) else (if (t382.length : Int) = 0 then (splicerylaw41_LicenceSmallest.j0 k a2 t376 t379 t382 true) else ((licence_Check.f k t376 t379 t382).bind fun t387 => (if t387 = 0 then (if 0 ≤ (wrap64 ((t382.length : Int) - 1)) then (if (wrap64 ((t382.length : Int) - 1)) ≤ (t382.length : Int) then ((licence_Fine.f t376 (t382.take ((wrap64 ((t382.length : Int) - 1)) : Int).toNat)).bind fun t392 => (splicerylaw41_LicenceSmallest.j0 k a2 t376 t379 t382 (!t392))) else (none)) else (none)) else (splicerylaw41_LicenceSmallest.j0 k a2 t376 t379 t382 true)))))))) = some r := H
  have A4 := Aside0.mk A40
  clear A40
  replace H := Option.bind_eq_some_iff.mp H
  obtain ⟨t379, A50, H⟩ := H
  replace H : ((licence_Core.f t376 t379).bind fun t382 => ((licence_Fine.f t376 t379).bind fun t385 => (if t385 = true then (if (t382.length : Int) = 0 then ((splicerylaw41_lives.f k).bind fun t386 => (some t386)) else (some false)) else (if (t382.length : Int) = 0 then (splicerylaw41_LicenceSmallest.j0 k a2 t376 t379 t382 true) else ((licence_Check.f k t376 t379 t382).bind fun t387 => (if t387 = 0 then (if 0 ≤ (wrap64 ((t382.length : Int) - 1)) then (if (wrap64 ((t382.length : Int) - 1)) ≤ (t382.length : Int) then ((licence_Fine.f t376 (t382.take ((wrap64 ((t382.length : Int) - 1)) : Int).toNat)).bind fun t392 => (splicerylaw41_LicenceSmallest.j0 k a2 t376 t379 t382 (!t392))) else (none)) else (none)) else (splicerylaw41_LicenceSmallest.j0 k a2 t376 t379 t382 true))))))) = some r := H
  have A5 := Aside0.mk A50
  clear A50
  replace H := Option.bind_eq_some_iff.mp H
  obtain ⟨t382, A60, H⟩ := H
  replace H : ((licence_Fine.f t376 t379).bind fun t385 => (if t385 = true then (if (t382.length : Int) = 0 then ((splicerylaw41_lives.f k).bind fun t386 => (some t386)) else (some false)) else (if (t382.length : Int) = 0 then (splicerylaw41_LicenceSmallest.j0 k a2 t376 t379 t382 true) else ((licence_Check.f k t376 t379 t382).bind fun t387 => (if t387 = 0 then (if 0 ≤ (wrap64 ((t382.length : Int) - 1)) then (if (wrap64 ((t382.length : Int) - 1)) ≤ (t382.length : Int) then ((licence_Fine.f t376 (t382.take ((wrap64 ((t382.length : Int) - 1)) : Int).toNat)).bind fun t392 => (splicerylaw41_LicenceSmallest.j0 k a2 t376 t379 t382 (!t392))) else (none)) else (none)) else (splicerylaw41_LicenceSmallest.j0 k a2 t376 t379 t382 true)))))) = some r := H
  have A6 := Aside0.mk A60
  clear A60
  replace H := Option.bind_eq_some_iff.mp H
  obtain ⟨t385, A70, H⟩ := H
  replace H : (if t385 = true then (if (t382.length : Int) = 0 then ((splicerylaw41_lives.f k).bind fun t386 => (some t386)) else (some false)) else (if (t382.length : Int) = 0 then (splicerylaw41_LicenceSmallest.j0 k a2 t376 t379 t382 true) else ((licence_Check.f k t376 t379 t382).bind fun t387 => (if t387 = 0 then (if 0 ≤ (wrap64 ((t382.length : Int) - 1)) then (if (wrap64 ((t382.length : Int) - 1)) ≤ (t382.length : Int) then ((licence_Fine.f t376 (t382.take ((wrap64 ((t382.length : Int) - 1)) : Int).toNat)).bind fun t392 => (splicerylaw41_LicenceSmallest.j0 k a2 t376 t379 t382 (!t392))) else (none)) else (none)) else (splicerylaw41_LicenceSmallest.j0 k a2 t376 t379 t382 true))))) = some r := H
  have A7 := Aside0.mk A70
  clear A70
  by_cases c8 : t385 = true
  · subst c8
    have H1 : (if (t382.length : Int) = 0 then ((splicerylaw41_lives.f k).bind fun t386 => (some t386)) else (some false)) = some r := by rw [if_pos rfl] at H; exact H
    clear H
    have H := H1
    clear H1
    by_cases c9 : (t382.length : Int) = 0
    · rw [if_pos c9] at H
      have c9b0 : ((t382.length : Int) == 0) = true := beq_iff_eq.mpr c9
      have c9b1 : ((t382.length : Int) != 0) = false := bne_eq_false_iff_eq.mpr c9
      clear c9
      replace H := Option.bind_eq_some_iff.mp H
      obtain ⟨t386, A100, H⟩ := H
      replace H : (some t386) = some r := H
      have A10 := Aside0.mk A100
      clear A100
      obtain rfl := Option.some.inj H
      go_enter Try.func7, Try.ntmps7
      go_wp2_with (first | ((with_reducible refine gate_callee (f := 9) rfl ?_); refine goesL_ (some 13) rfl rfl Try.func9 (by kernel_rfl) rfl #[.slice A0 l0.length c0] rfl (by (try simp only [List.map_toArray, List.map_cons, List.map_nil]); first | done | rfl | (simp only [List.length_drop, List.length_take]; rfl)) ?_; (with_reducible refine (spliceryref41_Clauses.calls k _ _ l0 t376 _ ?side1 ?side2 A4.out).mono ?_); (case side1 => repeat (first | exact HR0.out | (with_reducible refine Kd.C_alloc ?_ _) | (with_reducible refine Kd.C_drewN ?_ _) | (with_reducible refine Kd.C_drew ?_))); (case side2 => exact HC0.out); rintro e w11 ⟨v377, rfl, ho0, hb⟩; refine ⟨_, rfl, ?_⟩; have n0_ := Aside0.mk (Kd.S_lower ho0 (below_size (chB HB))); have n1_ := Aside0.mk (below_step (chB HB) hb); clear HB; have HO378 := n0_; have HB := n1_; clear n0_ n1_; (try clear hb); (try clear hb2); (try clear hk); (try clear hi); (try clear ho0)) | ((with_reducible refine gate_callee (f := 14) rfl ?_); refine goesL_ (some 15) rfl rfl Try.func14 (by kernel_rfl) rfl #[.slice A1 l1.length c1] rfl (by (try simp only [List.map_toArray, List.map_cons, List.map_nil]); first | done | rfl | (simp only [List.length_drop, List.length_take]; rfl)) ?_; (with_reducible refine (spliceryref41_Picks.calls k _ _ l1 t379 _ ?side1 ?side2 A5.out).mono ?_); (case side1 => repeat (first | exact (Kd.C_below HR1.out HB.out) | (with_reducible refine Kd.C_alloc ?_ _) | (with_reducible refine Kd.C_drewN ?_ _) | (with_reducible refine Kd.C_drew ?_))); (case side2 => exact HC1.out); rintro e w12 ⟨v380, rfl, ho0, hb⟩; refine ⟨_, rfl, ?_⟩; have n0_ := Aside0.mk (Kd.S_below (by (with_reducible repeat (first | apply Kd.S_alloc | apply Kd.S_drewN | apply Kd.S_drew)); exact HO378.out) hb); have n1_ := Aside0.mk (Kd.R_lower ho0 (below_size (chB HB))); have n2_ := Aside0.mk (below_step (chB HB) hb); clear HO378; clear HB; have HO378 := n0_; have HO381 := n1_; have HB := n2_; clear n0_ n1_ n2_; (try clear hb); (try clear hb2); (try clear hk); (try clear hi); (try clear ho0); obtain ⟨Ao13, co13, eo13⟩ := Kd.S_slice HO378.out; subst eo13; obtain ⟨Ao14, co14, eo14⟩ := Kd.R_slice HO381.out; subst eo14) | ((with_reducible refine gate_callee (f := 18) rfl ?_); refine goesL_ (some 18) rfl rfl Try.func18 (by kernel_rfl) rfl #[.slice Ao13 t376.length co13, .slice Ao14 t379.length co14] rfl (by (try simp only [List.map_toArray, List.map_cons, List.map_nil]); first | done | rfl | (simp only [List.length_drop, List.length_take]; rfl)) ?_; (with_reducible refine (licence_Core.calls _ _ t376 _ _ t379 t382 _ ?side1 ?side2 ?side3 ?side4 A6.out).mono ?_); (case side1 => repeat (first | exact (Kd.S_reads' HO378.out).2.2 | (with_reducible refine Kd.C_alloc ?_ _) | (with_reducible refine Kd.C_drewN ?_ _) | (with_reducible refine Kd.C_drew ?_))); (case side2 => exact (Kd.S_reads' HO378.out).2.1); (case side3 => repeat (first | exact (Kd.R_reads' HO381.out).2.2 | (with_reducible refine Kd.C_alloc ?_ _) | (with_reducible refine Kd.C_drewN ?_ _) | (with_reducible refine Kd.C_drew ?_))); (case side4 => exact (Kd.R_reads' HO381.out).2.1); rintro e w15 ⟨v383, rfl, ho0, hb⟩; refine ⟨_, rfl, ?_⟩; have n0_ := Aside0.mk (Kd.S_below (by (with_reducible repeat (first | apply Kd.S_alloc | apply Kd.S_drewN | apply Kd.S_drew)); exact HO378.out) hb); have n1_ := Aside0.mk (Kd.R_elder' (chR HO381) (Kd.R_base ho0) hb); have n2_ := Aside0.mk (Kd.R_lower (Kd.R_new' ho0 (Kd.R_lt (chR HO381))) (below_size (chB HB))); have n3_ := Aside0.mk (below_step (chB HB) hb); clear HO378; clear HO381; clear HB; have HO378 := n0_; have HO381 := n1_; have HO384 := n2_; have HB := n3_; clear n0_ n1_ n2_ n3_; (try clear hb); (try clear hb2); (try clear hk); (try clear hi); (try clear ho0)) | ((with_reducible refine gate_callee (f := 13) rfl ?_); refine goesL_ (some 21) rfl rfl Try.func13 (by kernel_rfl) rfl #[.slice Ao13 t376.length co13, .slice Ao14 t379.length co14] rfl (by (try simp only [List.map_toArray, List.map_cons, List.map_nil]); first | done | rfl | (simp only [List.length_drop, List.length_take]; rfl)) ?_; (with_reducible refine (licence_Fine.calls _ _ t376 _ _ t379 true _ ?side1 ?side2 ?side3 ?side4 A7.out).mono ?_); (case side1 => repeat (first | exact (Kd.S_reads' HO378.out).2.2 | (with_reducible refine Kd.C_alloc ?_ _) | (with_reducible refine Kd.C_drewN ?_ _) | (with_reducible refine Kd.C_drew ?_))); (case side2 => exact (Kd.S_reads' HO378.out).2.1); (case side3 => repeat (first | exact (Kd.R_reads' HO381.out).2.2 | (with_reducible refine Kd.C_alloc ?_ _) | (with_reducible refine Kd.C_drewN ?_ _) | (with_reducible refine Kd.C_drew ?_))); (case side4 => exact (Kd.R_reads' HO381.out).2.1); rintro e w16 ⟨rfl, hb⟩; refine ⟨_, rfl, ?_⟩; have n0_ := Aside0.mk (Kd.S_below (by (with_reducible repeat (first | apply Kd.S_alloc | apply Kd.S_drewN | apply Kd.S_drew)); exact HO378.out) hb); have n1_ := Aside0.mk (Kd.R_below (chR HO381) hb); have n2_ := Aside0.mk (Kd.R_below (chR HO384) hb); have n3_ := Aside0.mk (below_step (chB HB) hb); clear HO378; clear HO381; clear HO384; clear HB; have HO378 := n0_; have HO381 := n1_; have HO384 := n2_; have HB := n3_; clear n0_ n1_ n2_ n3_; (try clear hb); (try clear hb2); (try clear hk); (try clear hi); obtain ⟨Ao17, co17, eo17⟩ := Kd.R_slice HO384.out; subst eo17) | (go_at_call 16; (with_reducible refine (splicerylaw41_lives.calls k  t386 _ A10.out).mono ?_); rintro e w18 ⟨rfl, hb⟩; have n0_ := Aside0.mk (Kd.S_below (by (with_reducible repeat (first | apply Kd.S_alloc | apply Kd.S_drewN | apply Kd.S_drew)); exact HO378.out) hb); have n1_ := Aside0.mk (Kd.R_below (chR HO381) hb); have n2_ := Aside0.mk (Kd.R_below (chR HO384) hb); have n3_ := Aside0.mk (below_step (chB HB) hb); clear HO378; clear HO381; clear HO384; clear HB; have HO378 := n0_; have HO381 := n1_; have HO384 := n2_; have HB := n3_; clear n0_ n1_ n2_ n3_; (try clear hb); (try clear hb2); (try clear hk); (try clear hi)))
      go_ret
      exact ⟨by first | rfl | (simp [errW_none, errW_some] <;> rfl) | (simp [*, errW_none, errW_some] <;> rfl), chB HB⟩
    · rw [if_neg c9] at H
      have c9b0 : ((t382.length : Int) == 0) = false := beq_eq_false_iff_ne.mpr c9
      have c9b1 : ((t382.length : Int) != 0) = true := bne_iff_ne.mpr c9
      have c9b2 : ¬ (t382 = []) := fun h_ => c9 (by rw [h_]; rfl)
      obtain rfl := Option.some.inj H
      go_enter Try.func7, Try.ntmps7
      go_wp2_with (first | ((with_reducible refine gate_callee (f := 9) rfl ?_); refine goesL_ (some 13) rfl rfl Try.func9 (by kernel_rfl) rfl #[.slice A0 l0.length c0] rfl (by (try simp only [List.map_toArray, List.map_cons, List.map_nil]); first | done | rfl | (simp only [List.length_drop, List.length_take]; rfl)) ?_; (with_reducible refine (spliceryref41_Clauses.calls k _ _ l0 t376 _ ?side1 ?side2 A4.out).mono ?_); (case side1 => repeat (first | exact HR0.out | (with_reducible refine Kd.C_alloc ?_ _) | (with_reducible refine Kd.C_drewN ?_ _) | (with_reducible refine Kd.C_drew ?_))); (case side2 => exact HC0.out); rintro e w19 ⟨v377, rfl, ho0, hb⟩; refine ⟨_, rfl, ?_⟩; have n0_ := Aside0.mk (Kd.S_lower ho0 (below_size (chB HB))); have n1_ := Aside0.mk (below_step (chB HB) hb); clear HB; have HO378 := n0_; have HB := n1_; clear n0_ n1_; (try clear hb); (try clear hb2); (try clear hk); (try clear hi); (try clear ho0)) | ((with_reducible refine gate_callee (f := 14) rfl ?_); refine goesL_ (some 15) rfl rfl Try.func14 (by kernel_rfl) rfl #[.slice A1 l1.length c1] rfl (by (try simp only [List.map_toArray, List.map_cons, List.map_nil]); first | done | rfl | (simp only [List.length_drop, List.length_take]; rfl)) ?_; (with_reducible refine (spliceryref41_Picks.calls k _ _ l1 t379 _ ?side1 ?side2 A5.out).mono ?_); (case side1 => repeat (first | exact (Kd.C_below HR1.out HB.out) | (with_reducible refine Kd.C_alloc ?_ _) | (with_reducible refine Kd.C_drewN ?_ _) | (with_reducible refine Kd.C_drew ?_))); (case side2 => exact HC1.out); rintro e w20 ⟨v380, rfl, ho0, hb⟩; refine ⟨_, rfl, ?_⟩; have n0_ := Aside0.mk (Kd.S_below (by (with_reducible repeat (first | apply Kd.S_alloc | apply Kd.S_drewN | apply Kd.S_drew)); exact HO378.out) hb); have n1_ := Aside0.mk (Kd.R_lower ho0 (below_size (chB HB))); have n2_ := Aside0.mk (below_step (chB HB) hb); clear HO378; clear HB; have HO378 := n0_; have HO381 := n1_; have HB := n2_; clear n0_ n1_ n2_; (try clear hb); (try clear hb2); (try clear hk); (try clear hi); (try clear ho0); obtain ⟨Ao21, co21, eo21⟩ := Kd.S_slice HO378.out; subst eo21; obtain ⟨Ao22, co22, eo22⟩ := Kd.R_slice HO381.out; subst eo22) | ((with_reducible refine gate_callee (f := 18) rfl ?_); refine goesL_ (some 18) rfl rfl Try.func18 (by kernel_rfl) rfl #[.slice Ao21 t376.length co21, .slice Ao22 t379.length co22] rfl (by (try simp only [List.map_toArray, List.map_cons, List.map_nil]); first | done | rfl | (simp only [List.length_drop, List.length_take]; rfl)) ?_; (with_reducible refine (licence_Core.calls _ _ t376 _ _ t379 t382 _ ?side1 ?side2 ?side3 ?side4 A6.out).mono ?_); (case side1 => repeat (first | exact (Kd.S_reads' HO378.out).2.2 | (with_reducible refine Kd.C_alloc ?_ _) | (with_reducible refine Kd.C_drewN ?_ _) | (with_reducible refine Kd.C_drew ?_))); (case side2 => exact (Kd.S_reads' HO378.out).2.1); (case side3 => repeat (first | exact (Kd.R_reads' HO381.out).2.2 | (with_reducible refine Kd.C_alloc ?_ _) | (with_reducible refine Kd.C_drewN ?_ _) | (with_reducible refine Kd.C_drew ?_))); (case side4 => exact (Kd.R_reads' HO381.out).2.1); rintro e w23 ⟨v383, rfl, ho0, hb⟩; refine ⟨_, rfl, ?_⟩; have n0_ := Aside0.mk (Kd.S_below (by (with_reducible repeat (first | apply Kd.S_alloc | apply Kd.S_drewN | apply Kd.S_drew)); exact HO378.out) hb); have n1_ := Aside0.mk (Kd.R_elder' (chR HO381) (Kd.R_base ho0) hb); have n2_ := Aside0.mk (Kd.R_lower (Kd.R_new' ho0 (Kd.R_lt (chR HO381))) (below_size (chB HB))); have n3_ := Aside0.mk (below_step (chB HB) hb); clear HO378; clear HO381; clear HB; have HO378 := n0_; have HO381 := n1_; have HO384 := n2_; have HB := n3_; clear n0_ n1_ n2_ n3_; (try clear hb); (try clear hb2); (try clear hk); (try clear hi); (try clear ho0)) | ((with_reducible refine gate_callee (f := 13) rfl ?_); refine goesL_ (some 21) rfl rfl Try.func13 (by kernel_rfl) rfl #[.slice Ao21 t376.length co21, .slice Ao22 t379.length co22] rfl (by (try simp only [List.map_toArray, List.map_cons, List.map_nil]); first | done | rfl | (simp only [List.length_drop, List.length_take]; rfl)) ?_; (with_reducible refine (licence_Fine.calls _ _ t376 _ _ t379 true _ ?side1 ?side2 ?side3 ?side4 A7.out).mono ?_); (case side1 => repeat (first | exact (Kd.S_reads' HO378.out).2.2 | (with_reducible refine Kd.C_alloc ?_ _) | (with_reducible refine Kd.C_drewN ?_ _) | (with_reducible refine Kd.C_drew ?_))); (case side2 => exact (Kd.S_reads' HO378.out).2.1); (case side3 => repeat (first | exact (Kd.R_reads' HO381.out).2.2 | (with_reducible refine Kd.C_alloc ?_ _) | (with_reducible refine Kd.C_drewN ?_ _) | (with_reducible refine Kd.C_drew ?_))); (case side4 => exact (Kd.R_reads' HO381.out).2.1); rintro e w24 ⟨rfl, hb⟩; refine ⟨_, rfl, ?_⟩; have n0_ := Aside0.mk (Kd.S_below (by (with_reducible repeat (first | apply Kd.S_alloc | apply Kd.S_drewN | apply Kd.S_drew)); exact HO378.out) hb); have n1_ := Aside0.mk (Kd.R_below (chR HO381) hb); have n2_ := Aside0.mk (Kd.R_below (chR HO384) hb); have n3_ := Aside0.mk (below_step (chB HB) hb); clear HO378; clear HO381; clear HO384; clear HB; have HO378 := n0_; have HO381 := n1_; have HO384 := n2_; have HB := n3_; clear n0_ n1_ n2_ n3_; (try clear hb); (try clear hb2); (try clear hk); (try clear hi); obtain ⟨Ao25, co25, eo25⟩ := Kd.R_slice HO384.out; subst eo25))
      go_ret
      exact ⟨by first | rfl | (simp [errW_none, errW_some] <;> rfl) | (simp [*, errW_none, errW_some] <;> rfl), chB HB⟩
  · replace c8 := Bool.eq_false_iff.mpr c8
    subst c8
    have H1 : (if (t382.length : Int) = 0 then (splicerylaw41_LicenceSmallest.j0 k a2 t376 t379 t382 true) else ((licence_Check.f k t376 t379 t382).bind fun t387 => (if t387 = 0 then (if 0 ≤ (wrap64 ((t382.length : Int) - 1)) then (if (wrap64 ((t382.length : Int) - 1)) ≤ (t382.length : Int) then ((licence_Fine.f t376 (t382.take ((wrap64 ((t382.length : Int) - 1)) : Int).toNat)).bind fun t392 => (splicerylaw41_LicenceSmallest.j0 k a2 t376 t379 t382 (!t392))) else (none)) else (none)) else (splicerylaw41_LicenceSmallest.j0 k a2 t376 t379 t382 true)))) = some r := by rw [if_neg (show ¬ (false = true) by decide)] at H; exact H
    clear H
    have H := H1
    clear H1
    have HC26 := Aside0.mk H
    clear H
    go_enter Try.func7, Try.ntmps7
    go_upto_region 6 with (first | ((with_reducible refine gate_callee (f := 9) rfl ?_); refine goesL_ (some 13) rfl rfl Try.func9 (by kernel_rfl) rfl #[.slice A0 l0.length c0] rfl (by (try simp only [List.map_toArray, List.map_cons, List.map_nil]); first | done | rfl | (simp only [List.length_drop, List.length_take]; rfl)) ?_; (with_reducible refine (spliceryref41_Clauses.calls k _ _ l0 t376 _ ?side1 ?side2 A4.out).mono ?_); (case side1 => repeat (first | exact HR0.out | (with_reducible refine Kd.C_alloc ?_ _) | (with_reducible refine Kd.C_drewN ?_ _) | (with_reducible refine Kd.C_drew ?_))); (case side2 => exact HC0.out); rintro e w27 ⟨v377, rfl, ho0, hb⟩; refine ⟨_, rfl, ?_⟩; have n0_ := Aside0.mk (Kd.S_lower ho0 (below_size (chB HB))); have n1_ := Aside0.mk (below_step (chB HB) hb); clear HB; have HO378 := n0_; have HB := n1_; clear n0_ n1_; (try clear hb); (try clear hb2); (try clear hk); (try clear hi); (try clear ho0)) | ((with_reducible refine gate_callee (f := 14) rfl ?_); refine goesL_ (some 15) rfl rfl Try.func14 (by kernel_rfl) rfl #[.slice A1 l1.length c1] rfl (by (try simp only [List.map_toArray, List.map_cons, List.map_nil]); first | done | rfl | (simp only [List.length_drop, List.length_take]; rfl)) ?_; (with_reducible refine (spliceryref41_Picks.calls k _ _ l1 t379 _ ?side1 ?side2 A5.out).mono ?_); (case side1 => repeat (first | exact (Kd.C_below HR1.out HB.out) | (with_reducible refine Kd.C_alloc ?_ _) | (with_reducible refine Kd.C_drewN ?_ _) | (with_reducible refine Kd.C_drew ?_))); (case side2 => exact HC1.out); rintro e w28 ⟨v380, rfl, ho0, hb⟩; refine ⟨_, rfl, ?_⟩; have n0_ := Aside0.mk (Kd.S_below (by (with_reducible repeat (first | apply Kd.S_alloc | apply Kd.S_drewN | apply Kd.S_drew)); exact HO378.out) hb); have n1_ := Aside0.mk (Kd.R_lower ho0 (below_size (chB HB))); have n2_ := Aside0.mk (below_step (chB HB) hb); clear HO378; clear HB; have HO378 := n0_; have HO381 := n1_; have HB := n2_; clear n0_ n1_ n2_; (try clear hb); (try clear hb2); (try clear hk); (try clear hi); (try clear ho0); obtain ⟨Ao29, co29, eo29⟩ := Kd.S_slice HO378.out; subst eo29; obtain ⟨Ao30, co30, eo30⟩ := Kd.R_slice HO381.out; subst eo30) | ((with_reducible refine gate_callee (f := 18) rfl ?_); refine goesL_ (some 18) rfl rfl Try.func18 (by kernel_rfl) rfl #[.slice Ao29 t376.length co29, .slice Ao30 t379.length co30] rfl (by (try simp only [List.map_toArray, List.map_cons, List.map_nil]); first | done | rfl | (simp only [List.length_drop, List.length_take]; rfl)) ?_; (with_reducible refine (licence_Core.calls _ _ t376 _ _ t379 t382 _ ?side1 ?side2 ?side3 ?side4 A6.out).mono ?_); (case side1 => repeat (first | exact (Kd.S_reads' HO378.out).2.2 | (with_reducible refine Kd.C_alloc ?_ _) | (with_reducible refine Kd.C_drewN ?_ _) | (with_reducible refine Kd.C_drew ?_))); (case side2 => exact (Kd.S_reads' HO378.out).2.1); (case side3 => repeat (first | exact (Kd.R_reads' HO381.out).2.2 | (with_reducible refine Kd.C_alloc ?_ _) | (with_reducible refine Kd.C_drewN ?_ _) | (with_reducible refine Kd.C_drew ?_))); (case side4 => exact (Kd.R_reads' HO381.out).2.1); rintro e w31 ⟨v383, rfl, ho0, hb⟩; refine ⟨_, rfl, ?_⟩; have n0_ := Aside0.mk (Kd.S_below (by (with_reducible repeat (first | apply Kd.S_alloc | apply Kd.S_drewN | apply Kd.S_drew)); exact HO378.out) hb); have n1_ := Aside0.mk (Kd.R_elder' (chR HO381) (Kd.R_base ho0) hb); have n2_ := Aside0.mk (Kd.R_lower (Kd.R_new' ho0 (Kd.R_lt (chR HO381))) (below_size (chB HB))); have n3_ := Aside0.mk (below_step (chB HB) hb); clear HO378; clear HO381; clear HB; have HO378 := n0_; have HO381 := n1_; have HO384 := n2_; have HB := n3_; clear n0_ n1_ n2_ n3_; (try clear hb); (try clear hb2); (try clear hk); (try clear hi); (try clear ho0)) | ((with_reducible refine gate_callee (f := 13) rfl ?_); refine goesL_ (some 21) rfl rfl Try.func13 (by kernel_rfl) rfl #[.slice Ao29 t376.length co29, .slice Ao30 t379.length co30] rfl (by (try simp only [List.map_toArray, List.map_cons, List.map_nil]); first | done | rfl | (simp only [List.length_drop, List.length_take]; rfl)) ?_; (with_reducible refine (licence_Fine.calls _ _ t376 _ _ t379 false _ ?side1 ?side2 ?side3 ?side4 A7.out).mono ?_); (case side1 => repeat (first | exact (Kd.S_reads' HO378.out).2.2 | (with_reducible refine Kd.C_alloc ?_ _) | (with_reducible refine Kd.C_drewN ?_ _) | (with_reducible refine Kd.C_drew ?_))); (case side2 => exact (Kd.S_reads' HO378.out).2.1); (case side3 => repeat (first | exact (Kd.R_reads' HO381.out).2.2 | (with_reducible refine Kd.C_alloc ?_ _) | (with_reducible refine Kd.C_drewN ?_ _) | (with_reducible refine Kd.C_drew ?_))); (case side4 => exact (Kd.R_reads' HO381.out).2.1); rintro e w32 ⟨rfl, hb⟩; refine ⟨_, rfl, ?_⟩; have n0_ := Aside0.mk (Kd.S_below (by (with_reducible repeat (first | apply Kd.S_alloc | apply Kd.S_drewN | apply Kd.S_drew)); exact HO378.out) hb); have n1_ := Aside0.mk (Kd.R_below (chR HO381) hb); have n2_ := Aside0.mk (Kd.R_below (chR HO384) hb); have n3_ := Aside0.mk (below_step (chB HB) hb); clear HO378; clear HO381; clear HO384; clear HB; have HO378 := n0_; have HO381 := n1_; have HO384 := n2_; have HB := n3_; clear n0_ n1_ n2_ n3_; (try clear hb); (try clear hb2); (try clear hk); (try clear hi)))
    (try simp only [Act.put, List.setIfInBounds_toArray, List.set_cons_zero, List.set_cons_succ])
    go_cut [47] (fun v47 wc => ∃ (kq : Nat) (x47_25 : Bool), v47 = .bool x47_25 ∧ Aside0 (splicerylaw41_LicenceSmallest.j0 kq a2 t376 t379 t382 x47_25 = some r) ∧ Aside0 (kq ≤ k) ∧ Aside0 (Kd.S k36 36 wc w.heap.size (fun _ => True) (.slice Ao29 t376.length co29) t376) ∧ Aside0 (Kd.R (Kd.int .i64) 3 wc w.heap.size (fun k_ => some k_ ≠ (v383 : Value).ownBlock) (.slice Ao30 t379.length co30) t379) ∧ Aside0 (Kd.R (Kd.int .i64) 3 wc w.heap.size (fun k_ => some k_ ≠ ((.slice Ao30 t379.length co30) : Value).ownBlock) v383 t382) ∧ Aside0 (Below w.heap.size w wc))
    case first =>
      have H := HC26.out
      clear HC26
      by_cases c33 : (t382.length : Int) = 0
      · rw [if_pos c33] at H
        have c33b0 : ((t382.length : Int) == 0) = true := beq_iff_eq.mpr c33
        have c33b1 : ((t382.length : Int) != 0) = false := bne_eq_false_iff_eq.mpr c33
        clear c33
        (first | rw [c33b0] | (simp only [i64_w, i32_w]; rw [c33b0]) | skip)
        have H' := Aside0.mk H
        clear H
        obtain ⟨Ao34, co34, eo34⟩ := Kd.R_slice HO384.out
        subst eo34
        go_wp2
        go_meet
        case rel => exact ⟨_, (true), (by first | rfl | (simp; done) | (simp [*]; done)), H', ⟨by first | omega | exact Nat.le_refl _⟩, ⟨by (with_reducible repeat (first | apply Kd.S_alloc | apply Kd.S_drewN | apply Kd.S_drew)); exact HO378.out⟩, ⟨by (with_reducible repeat (first | apply Kd.R_alloc | apply Kd.R_drewN | apply Kd.R_drew)); exact Kd.R_mono HO381.out (fun _ hk => hk.2)⟩, ⟨by (with_reducible repeat (first | apply Kd.R_alloc | apply Kd.R_drewN | apply Kd.R_drew)); exact Kd.R_mono HO384.out (fun _ hk => hk.2)⟩, ⟨chB HB⟩⟩
      · rw [if_neg c33] at H
        have c33b0 : ((t382.length : Int) == 0) = false := beq_eq_false_iff_ne.mpr c33
        have c33b1 : ((t382.length : Int) != 0) = true := bne_iff_ne.mpr c33
        have c33b2 : ¬ (t382 = []) := fun h_ => c33 (by rw [h_]; rfl)
        (first | rw [c33b0] | (simp only [i64_w, i32_w]; rw [c33b0]) | skip)
        replace H := Option.bind_eq_some_iff.mp H
        obtain ⟨t387, A350, H⟩ := H
        replace H : (if t387 = 0 then (if 0 ≤ (wrap64 ((t382.length : Int) - 1)) then (if (wrap64 ((t382.length : Int) - 1)) ≤ (t382.length : Int) then ((licence_Fine.f t376 (t382.take ((wrap64 ((t382.length : Int) - 1)) : Int).toNat)).bind fun t392 => (splicerylaw41_LicenceSmallest.j0 k a2 t376 t379 t382 (!t392))) else (none)) else (none)) else (splicerylaw41_LicenceSmallest.j0 k a2 t376 t379 t382 true)) = some r := H
        have A35 := Aside0.mk A350
        clear A350
        by_cases c36 : t387 = 0
        · rw [if_pos c36] at H
          have c36b0 : (t387 == 0) = true := beq_iff_eq.mpr c36
          have c36b1 : (t387 != 0) = false := bne_eq_false_iff_eq.mpr c36
          clear c36
          obtain ⟨ji37, hji37⟩ : ∃ j_ : Int, (wrap64 ((t382.length : Int) - 1)) = j_ := ⟨_, rfl⟩
          replace H : (if 0 ≤ (ji37) then (if (ji37) ≤ (t382.length : Int) then ((licence_Fine.f t376 (t382.take ((ji37) : Int).toNat)).bind fun t392 => (splicerylaw41_LicenceSmallest.j0 k a2 t376 t379 t382 (!t392))) else (none)) else (none)) = some r := by first | (rw [hji37] at H; exact H) | (simp only [hji37] at H ⊢; exact H)
          (try rw [hji37] at A35)
          have hji37w : (IntKind.i64.wrap ((t382.length : Int) - 1)) = ji37 := (i64_w _).trans hji37
          by_cases c38 : 0 ≤ (ji37)
          · rw [if_pos c38] at H
            have c38b0 := eq_true c38
            have c38b1 : decide (0 ≤ (ji37)) = true := decide_eq_true c38
            clear c38
            by_cases c39 : (ji37) ≤ (t382.length : Int)
            · rw [if_pos c39] at H
              have c39b0 := eq_true c39
              have c39b1 : decide ((ji37) ≤ (t382.length : Int)) = true := decide_eq_true c39
              clear c39
              obtain ⟨y388, hy388⟩ : ∃ y_ : List Int, y_ = (t382.take ((ji37) : Int).toNat) := ⟨_, rfl⟩
              replace H : ((licence_Fine.f t376 y388).bind fun t392 => (splicerylaw41_LicenceSmallest.j0 k a2 t376 t379 t382 (!t392))) = some r := by first | (rw [hy388]; with_reducible exact H) | (have H2_ := (Option.bind_some _ _).symm.trans H; rw [hy388]; with_reducible exact H2_) | (have H2_ := (Option.bind_some _ _).symm.trans H; with_reducible exact H2_) | with_reducible exact H | (rw [hy388]; exact H) | exact H
              have Ny388 := Aside0.mk hy388
              clear hy388
              replace H := Option.bind_eq_some_iff.mp H
              obtain ⟨t392, A400, H⟩ := H
              replace H : (splicerylaw41_LicenceSmallest.j0 k a2 t376 t379 t382 (!t392)) = some r := H
              have A40 := Aside0.mk A400
              clear A400
              have H' := Aside0.mk H
              clear H
              obtain ⟨Ao41, co41, eo41⟩ := Kd.R_slice HO384.out
              subst eo41
              go_wp2_with (first | (go_at_call 21; (with_reducible refine (licence_Check.calls k _ _ t376 _ _ t379 (fun k_ => some k_ = (.slice Ao41 t382.length co41 : Value).ownBlock) _ _ t382 t387 _ ?side1 ?side2 ?side3 ?side4 ?side5 A35.out).mono ?_); (case side1 => repeat (first | exact (Kd.S_reads' HO378.out).2.2 | (with_reducible refine Kd.C_alloc ?_ _) | (with_reducible refine Kd.C_drewN ?_ _) | (with_reducible refine Kd.C_drew ?_))); (case side2 => exact (Kd.S_reads' HO378.out).2.1); (case side3 => repeat (first | exact (Kd.R_reads' HO381.out).2.2 | (with_reducible refine Kd.C_alloc ?_ _) | (with_reducible refine Kd.C_drewN ?_ _) | (with_reducible refine Kd.C_drew ?_))); (case side4 => exact (Kd.R_reads' HO381.out).2.1); (case side5 => exact Kd.R_V (Kd.R_tight rfl (Kd.R_apart' (HO384.out) (Kd.S_typed HO378.out) (by decide)))); rintro e w42 ⟨rfl, hb⟩; have n0_ := Aside0.mk (Kd.S_below (by (with_reducible repeat (first | apply Kd.S_alloc | apply Kd.S_drewN | apply Kd.S_drew)); exact HO378.out) hb); have n1_ := Aside0.mk (Kd.R_below (chR HO381) hb); have n2_ := Aside0.mk (Kd.R_below (chR HO384) hb); have n3_ := Aside0.mk (below_step (chB HB) hb); clear HO378; clear HO381; clear HO384; clear HB; have HO378 := n0_; have HO381 := n1_; have HO384 := n2_; have HB := n3_; clear n0_ n1_ n2_ n3_; (try clear hb); (try clear hb2); (try clear hk); (try clear hi); have q43 : ((ji37) : Int) ≤ ((t382.length : Int) : Int) := of_decide_eq_true (by first | (with_reducible assumption) | assumption); obtain ⟨i043, hi043, _, hsz43, _⟩ := info_parts info3; have hroom43 : t382.length ≤ co41 := (Kd.R_reads' HO384.out).2.1; have hC43 : Kd.C (Kd.int .i64) _ Ao41 t382.length t382 := (Kd.R_reads' HO384.out).2.2; have hcut43 := cut_to (P := Try.prog) 22 3 .i64 Try.underlying22 hi043 Ao41 t382.length co41 (ji37) (of_decide_eq_true (by first | (with_reducible assumption) | assumption)) q43 hroom43; have hr43 := Kd.C_take (m := ((ji37) : Int).toNat) hC43 (by omega); have hy43 : y388.length = ((ji37) : Int).toNat := (by rw [Ny388.out, List.length_take]; omega); rw [← Ny388.out] at hr43; rw [← hy43] at hcut43; have HR391 := Aside0.mk hr43; have HC391 := Aside0.mk (show y388.length ≤ co41 from by omega); clear hr43 hC43 hroom43 hi043 hsz43; have KY43 := Aside0.mk hy43; clear hy43; have KL43 := Aside0.mk (show ((ji37) : Int).toNat ≤ t382.length from by omega); replace q43 := eq_true q43) | (go_at_call 13; (with_reducible refine (licence_Fine.calls _ _ t376 _ _ y388 t392 _ ?side1 ?side2 ?side3 ?side4 A40.out).mono ?_); (case side1 => repeat (first | exact (Kd.S_reads' HO378.out).2.2 | (with_reducible refine Kd.C_alloc ?_ _) | (with_reducible refine Kd.C_drewN ?_ _) | (with_reducible refine Kd.C_drew ?_))); (case side2 => exact (Kd.S_reads' HO378.out).2.1); (case side3 => repeat (first | exact (by repeat (first | (with_reducible exact HR391.out) | (with_reducible refine Kd.C_alloc ?_ _) | (with_reducible refine Kd.C_drewN ?_ _) | (with_reducible refine Kd.C_drew ?_) | exact HR391.out)) | (with_reducible refine Kd.C_alloc ?_ _) | (with_reducible refine Kd.C_drewN ?_ _) | (with_reducible refine Kd.C_drew ?_))); (case side4 => exact HC391.out); rintro e w44 ⟨rfl, hb⟩; have n0_ := Aside0.mk (Kd.S_below (by (with_reducible repeat (first | apply Kd.S_alloc | apply Kd.S_drewN | apply Kd.S_drew)); exact HO378.out) hb); have n1_ := Aside0.mk (Kd.R_below (chR HO381) hb); have n2_ := Aside0.mk (Kd.R_below (chR HO384) hb); have n3_ := Aside0.mk (Kd.C_below (by repeat (first | (with_reducible exact HR391.out) | (with_reducible refine Kd.C_alloc ?_ _) | (with_reducible refine Kd.C_drewN ?_ _) | (with_reducible refine Kd.C_drew ?_) | exact HR391.out)) hb); have n4_ := Aside0.mk (below_step (chB HB) hb); clear HO378; clear HO381; clear HO384; clear HR391; clear HB; have HO378 := n0_; have HO381 := n1_; have HO384 := n2_; have HR391 := n3_; have HB := n4_; clear n0_ n1_ n2_ n3_ n4_; (try clear hb); (try clear hb2); (try clear hk); (try clear hi)))
              go_meet
              case rel => exact ⟨_, (!t392), (by first | rfl | (simp; done) | (simp [*]; done)), H', ⟨by first | omega | exact Nat.le_refl _⟩, ⟨by (with_reducible repeat (first | apply Kd.S_alloc | apply Kd.S_drewN | apply Kd.S_drew)); exact HO378.out⟩, ⟨by (with_reducible repeat (first | apply Kd.R_alloc | apply Kd.R_drewN | apply Kd.R_drew)); exact Kd.R_mono HO381.out (fun _ hk => hk.2)⟩, ⟨by (with_reducible repeat (first | apply Kd.R_alloc | apply Kd.R_drewN | apply Kd.R_drew)); exact Kd.R_mono HO384.out (fun _ hk => hk.2)⟩, ⟨chB HB⟩⟩
            · rw [if_neg c39] at H
              exact absurd H (by simp)
          · rw [if_neg c38] at H
            exact absurd H (by simp)
        · rw [if_neg c36] at H
          have c36b0 : (t387 == 0) = false := beq_eq_false_iff_ne.mpr c36
          have c36b1 : (t387 != 0) = true := bne_iff_ne.mpr c36
          have H' := Aside0.mk H
          clear H
          obtain ⟨Ao45, co45, eo45⟩ := Kd.R_slice HO384.out
          subst eo45
          go_wp2_with (first | (go_at_call 21; (with_reducible refine (licence_Check.calls k _ _ t376 _ _ t379 (fun k_ => some k_ = (.slice Ao45 t382.length co45 : Value).ownBlock) _ _ t382 t387 _ ?side1 ?side2 ?side3 ?side4 ?side5 A35.out).mono ?_); (case side1 => repeat (first | exact (Kd.S_reads' HO378.out).2.2 | (with_reducible refine Kd.C_alloc ?_ _) | (with_reducible refine Kd.C_drewN ?_ _) | (with_reducible refine Kd.C_drew ?_))); (case side2 => exact (Kd.S_reads' HO378.out).2.1); (case side3 => repeat (first | exact (Kd.R_reads' HO381.out).2.2 | (with_reducible refine Kd.C_alloc ?_ _) | (with_reducible refine Kd.C_drewN ?_ _) | (with_reducible refine Kd.C_drew ?_))); (case side4 => exact (Kd.R_reads' HO381.out).2.1); (case side5 => exact Kd.R_V (Kd.R_tight rfl (Kd.R_apart' (HO384.out) (Kd.S_typed HO378.out) (by decide)))); rintro e w46 ⟨rfl, hb⟩; have n0_ := Aside0.mk (Kd.S_below (by (with_reducible repeat (first | apply Kd.S_alloc | apply Kd.S_drewN | apply Kd.S_drew)); exact HO378.out) hb); have n1_ := Aside0.mk (Kd.R_below (chR HO381) hb); have n2_ := Aside0.mk (Kd.R_below (chR HO384) hb); have n3_ := Aside0.mk (below_step (chB HB) hb); clear HO378; clear HO381; clear HO384; clear HB; have HO378 := n0_; have HO381 := n1_; have HO384 := n2_; have HB := n3_; clear n0_ n1_ n2_ n3_; (try clear hb); (try clear hb2); (try clear hk); (try clear hi)))
          go_meet
          case rel => exact ⟨_, (true), (by first | rfl | (simp; done) | (simp [*]; done)), H', ⟨by first | omega | exact Nat.le_refl _⟩, ⟨by (with_reducible repeat (first | apply Kd.S_alloc | apply Kd.S_drewN | apply Kd.S_drew)); exact HO378.out⟩, ⟨by (with_reducible repeat (first | apply Kd.R_alloc | apply Kd.R_drewN | apply Kd.R_drew)); exact Kd.R_mono HO381.out (fun _ hk => hk.2)⟩, ⟨by (with_reducible repeat (first | apply Kd.R_alloc | apply Kd.R_drewN | apply Kd.R_drew)); exact Kd.R_mono HO384.out (fun _ hk => hk.2)⟩, ⟨chB HB⟩⟩
    case rest =>
      clear HC26
      try clear c1
      try clear p2
      try clear c3
      try clear q4
      try clear p6
      try clear c7
      try clear c8
      try clear c9
      try clear c9b0
      try clear c9b1
      try clear c9b2
      try clear c13
      try clear c14
      try clear c18
      try clear c33
      try clear c33b0
      try clear c33b1
      try clear c33b2
      try clear c36
      try clear c36b0
      try clear c36b1
      try clear c38
      try clear c38b0
      try clear c38b1
      try clear c39
      try clear c39b0
      try clear c39b1
      try clear q43
      try clear q43
      obtain ⟨kq, x47_25, rfl, HA, HJ25, HO_7, HO_8, HO_9, HB⟩ := hcut
      cases kq with
      | zero => exact absurd HA.out (by simp [splicerylaw41_LicenceSmallest.j0])
      | succ kj25 =>
        have H := HA.out
        clear HA
        simp only [splicerylaw41_LicenceSmallest.j0] at H
        by_cases c47 : x47_25 = true
        · subst c47
          have H1 : (some false) = some r := by rw [if_pos rfl] at H; exact H
          clear H
          have H := H1
          clear H1
          obtain rfl := Option.some.inj H
          go_wp2
          go_ret
          exact ⟨by first | rfl | (simp [errW_none, errW_some] <;> rfl) | (simp [*, errW_none, errW_some] <;> rfl), chB HB⟩
        · replace c47 := Bool.eq_false_iff.mpr c47
          subst c47
          have H1 : (splicerylaw41_LicenceSmallest.l0 kj25 a2 t376 t379 t382 ([] : List Int) 0) = some r := by rw [if_neg (show ¬ (false = true) by decide)] at H; exact H
          clear H
          have H := H1
          clear H1
          have H' := Aside0.mk H
          clear H
          go_wp2
          go_loopg [10, 11] kj25 (fun kq v10 v11 w' => ∃ (x10_2 : List Int) (x11_2 : Int), v11 = .int .i64 x11_2 ∧ Aside0 (splicerylaw41_LicenceSmallest.l0 kq a2 t376 t379 t382 x10_2 x11_2 = some r) ∧ Aside0 (kq ≤ kj25) ∧ Aside0 (Kd.S k36 36 w' w.heap.size (fun _ => True) (.slice Ao29 t376.length co29) t376) ∧ Aside0 (Kd.R (Kd.int .i64) 3 w' w.heap.size (fun k_ => some k_ ≠ (v383 : Value).ownBlock ∧ some k_ ≠ (v10 : Value).ownBlock) (.slice Ao30 t379.length co30) t379) ∧ Aside0 (Kd.R (Kd.int .i64) 3 w' w.heap.size (fun k_ => some k_ ≠ ((.slice Ao30 t379.length co30) : Value).ownBlock ∧ some k_ ≠ (v10 : Value).ownBlock) v383 t382) ∧ Aside0 (Kd.R (Kd.int .i64) 3 w' w.heap.size (fun k_ => some k_ ≠ ((.slice Ao30 t379.length co30) : Value).ownBlock ∧ some k_ ≠ (v383 : Value).ownBlock) v10 x10_2) ∧ Aside0 (Below w.heap.size w w'))
          case atStart => exact ⟨(([] : List Int)), (0), (by first | rfl | (simp; done) | (simp [*]; done)), H', ⟨Nat.le_refl _⟩, ⟨by (with_reducible repeat (first | apply Kd.S_alloc | apply Kd.S_drewN | apply Kd.S_drew)); exact HO_7.out⟩, ⟨by (with_reducible repeat (first | apply Kd.R_alloc | apply Kd.R_drewN | apply Kd.R_drew)); exact Kd.R_mono HO_8.out (fun _ hk => ⟨hk, (by simp [Value.ownBlock])⟩)⟩, ⟨by (with_reducible repeat (first | apply Kd.R_alloc | apply Kd.R_drewN | apply Kd.R_drew)); exact Kd.R_mono HO_9.out (fun _ hk => ⟨hk, (by simp [Value.ownBlock])⟩)⟩, ⟨by first | exact Kd.R_nil _ _ _ _ _ | exact Kd.N_nil _ _ _ _ _ | exact Kd.V_nil _ _ _ _ _ | exact Kd.Q_nil _ _ _ _ _ | exact Kd.S_nil _ _ _ _ _⟩, ⟨chB HB⟩⟩
          case round =>
            clear H'
            try clear c1
            try clear p2
            try clear c3
            try clear c4
            try clear q4
            try clear p6
            try clear c7
            try clear c8
            try clear c9
            try clear c9b0
            try clear c9b1
            try clear c9b2
            try clear c13
            try clear c14
            try clear c18
            try clear c33
            try clear c33b0
            try clear c33b1
            try clear c33b2
            try clear c36
            try clear c36b0
            try clear c36b1
            try clear c38
            try clear c38b0
            try clear c38b1
            try clear c39
            try clear c39b0
            try clear c39b1
            try clear q43
            try clear c47
            try clear p2
            try clear p6
            try clear q4
            try clear q43
            obtain ⟨x10_2, x11_2, rfl, HA, HK2, HO_7, HO_8, HO_9, HO_10, HB⟩ := hrel
            cases gk with
            | zero => exact absurd HA.out (by simp [splicerylaw41_LicenceSmallest.l0])
            | succ k2 =>
              have H := HA.out
              clear HA
              simp only [splicerylaw41_LicenceSmallest.l0] at H
              have HC48 := Aside0.mk H
              clear H
              go_upto_region 10 with (fail)
              go_cut [59] (fun v59 wc => ∃ (kq : Nat) (x59_47 : Bool), v59 = .bool x59_47 ∧ Aside0 (splicerylaw41_LicenceSmallest.j2 kq a2 t376 t379 t382 x10_2 x11_2 x59_47 = some r) ∧ Aside0 (kq ≤ k2) ∧ Aside0 (Kd.S k36 36 wc w.heap.size (fun _ => True) (.slice Ao29 t376.length co29) t376) ∧ Aside0 (Kd.R (Kd.int .i64) 3 wc w.heap.size (fun k_ => some k_ ≠ (v383 : Value).ownBlock ∧ some k_ ≠ (u10 : Value).ownBlock) (.slice Ao30 t379.length co30) t379) ∧ Aside0 (Kd.R (Kd.int .i64) 3 wc w.heap.size (fun k_ => some k_ ≠ ((.slice Ao30 t379.length co30) : Value).ownBlock ∧ some k_ ≠ (u10 : Value).ownBlock) v383 t382) ∧ Aside0 (Kd.R (Kd.int .i64) 3 wc w.heap.size (fun k_ => some k_ ≠ ((.slice Ao30 t379.length co30) : Value).ownBlock ∧ some k_ ≠ (v383 : Value).ownBlock) u10 x10_2) ∧ Aside0 (Below w.heap.size w wc))
              case first =>
                have H := HC48.out
                clear HC48
                by_cases c49 : x11_2 < (t379.length : Int)
                · rw [if_pos c49] at H
                  have c49b0 : decide (x11_2 < (t379.length : Int)) = true := decide_eq_true c49
                  clear c49
                  (first | rw [c49b0] | (simp only [i64_w, i32_w]; rw [c49b0]) | skip)
                  have H' := Aside0.mk H
                  clear H
                  obtain ⟨Ao50, co50, eo50⟩ := Kd.R_slice HO_10.out
                  subst eo50
                  obtain ⟨Ao51, co51, eo51⟩ := Kd.R_slice HO_9.out
                  subst eo51
                  go_wp2
                  go_meet
                  case rel => exact ⟨_, (decide ((x10_2.length : Int) < (wrap64 ((t382.length : Int) - 1)))), (by first | rfl | (simp; done) | (simp [*]; done)), H', ⟨by have := HJ25.out; have := HK2.out; first | omega | exact Nat.le_refl _⟩, ⟨by (with_reducible repeat (first | apply Kd.S_alloc | apply Kd.S_drewN | apply Kd.S_drew)); exact HO_7.out⟩, ⟨chR HO_8⟩, ⟨chR HO_9⟩, ⟨chR HO_10⟩, ⟨chB HB⟩⟩
                · rw [if_neg c49] at H
                  have c49b0 : decide (x11_2 < (t379.length : Int)) = false := decide_eq_false c49
                  clear c49
                  (first | rw [c49b0] | (simp only [i64_w, i32_w]; rw [c49b0]) | skip)
                  have H' := Aside0.mk H
                  clear H
                  go_wp2
                  go_meet
                  case rel => exact ⟨_, (false), (by first | rfl | (simp; done) | (simp [*]; done)), H', ⟨by have := HJ25.out; have := HK2.out; first | omega | exact Nat.le_refl _⟩, ⟨by (with_reducible repeat (first | apply Kd.S_alloc | apply Kd.S_drewN | apply Kd.S_drew)); exact HO_7.out⟩, ⟨chR HO_8⟩, ⟨chR HO_9⟩, ⟨chR HO_10⟩, ⟨chB HB⟩⟩
              case rest =>
                clear HC48
                try clear c1
                try clear p2
                try clear c3
                try clear c4
                try clear q4
                try clear p6
                try clear c7
                try clear c8
                try clear c9
                try clear c9b0
                try clear c9b1
                try clear c9b2
                try clear c13
                try clear c14
                try clear c18
                try clear c33
                try clear c33b0
                try clear c33b1
                try clear c33b2
                try clear c36
                try clear c36b0
                try clear c36b1
                try clear c38
                try clear c38b0
                try clear c38b1
                try clear c39
                try clear c39b0
                try clear c39b1
                try clear q43
                try clear c47
                try clear c49
                try clear c49b0
                try clear p2
                try clear p6
                try clear q4
                try clear q43
                obtain ⟨kq, x59_47, rfl, HA, HJ47, HO_7, HO_8, HO_9, HO_10, HB⟩ := hcut
                cases kq with
                | zero => exact absurd HA.out (by simp [splicerylaw41_LicenceSmallest.j2])
                | succ kj47 =>
                  have H := HA.out
                  clear HA
                  simp only [splicerylaw41_LicenceSmallest.j2] at H
                  by_cases c52 : x59_47 = true
                  · subst c52
                    have H1 : ((spliceryref01_Around.f a2 1024).bind fun t393 => (if 0 ≤ (IntKind.u64.wrap (x11_2)) then (if (Int.tmod (shr .i64 t393 (IntKind.u64.wrap (x11_2))) 2) = 1 then (if 0 ≤ x11_2 then (if x11_2 < (t379.length : Int) then (if x10_2.length < 17592186044416 then (splicerylaw41_LicenceSmallest.l0 kj47 a2 t376 t379 t382 (x10_2 ++ [rd t379 x11_2]) (wrap64 (x11_2 + 1))) else (none)) else (none)) else (none)) else (splicerylaw41_LicenceSmallest.l0 kj47 a2 t376 t379 t382 x10_2 (wrap64 (x11_2 + 1)))) else (none))) = some r := by rw [if_pos rfl] at H; exact H
                    clear H
                    have H := H1
                    clear H1
                    replace H := Option.bind_eq_some_iff.mp H
                    obtain ⟨t393, A530, H⟩ := H
                    replace H : (if 0 ≤ (IntKind.u64.wrap (x11_2)) then (if (Int.tmod (shr .i64 t393 (IntKind.u64.wrap (x11_2))) 2) = 1 then (if 0 ≤ x11_2 then (if x11_2 < (t379.length : Int) then (if x10_2.length < 17592186044416 then (splicerylaw41_LicenceSmallest.l0 kj47 a2 t376 t379 t382 (x10_2 ++ [rd t379 x11_2]) (wrap64 (x11_2 + 1))) else (none)) else (none)) else (none)) else (splicerylaw41_LicenceSmallest.l0 kj47 a2 t376 t379 t382 x10_2 (wrap64 (x11_2 + 1)))) else (none)) = some r := H
                    have A53 := Aside0.mk A530
                    clear A530
                    obtain ⟨ji54, hji54⟩ : ∃ j_ : Int, (IntKind.u64.wrap (x11_2)) = j_ := ⟨_, rfl⟩
                    replace H : (if 0 ≤ (ji54) then (if (Int.tmod (shr .i64 t393 (ji54)) 2) = 1 then (if 0 ≤ x11_2 then (if x11_2 < (t379.length : Int) then (if x10_2.length < 17592186044416 then (splicerylaw41_LicenceSmallest.l0 kj47 a2 t376 t379 t382 (x10_2 ++ [rd t379 x11_2]) (wrap64 (x11_2 + 1))) else (none)) else (none)) else (none)) else (splicerylaw41_LicenceSmallest.l0 kj47 a2 t376 t379 t382 x10_2 (wrap64 (x11_2 + 1)))) else (none)) = some r := by first | (rw [hji54] at H; exact H) | (simp only [hji54] at H ⊢; exact H)
                    (try rw [hji54] at A53)
                    by_cases c55 : 0 ≤ (ji54)
                    · rw [if_pos c55] at H
                      have c55b0 := eq_true c55
                      have c55b1 : decide (0 ≤ (ji54)) = true := decide_eq_true c55
                      clear c55
                      obtain ⟨ji56, hji56⟩ : ∃ j_ : Int, (shr .i64 t393 (ji54)) = j_ := ⟨_, rfl⟩
                      replace H : (if (Int.tmod (ji56) 2) = 1 then (if 0 ≤ x11_2 then (if x11_2 < (t379.length : Int) then (if x10_2.length < 17592186044416 then (splicerylaw41_LicenceSmallest.l0 kj47 a2 t376 t379 t382 (x10_2 ++ [rd t379 x11_2]) (wrap64 (x11_2 + 1))) else (none)) else (none)) else (none)) else (splicerylaw41_LicenceSmallest.l0 kj47 a2 t376 t379 t382 x10_2 (wrap64 (x11_2 + 1)))) = some r := by first | (rw [hji56] at H; exact H) | (simp only [hji56] at H ⊢; exact H)
                      (try rw [hji56] at A53)
                      have hji56_ : (t393 / 2 ^ min (ji54).toNat 64) = ji56 := hji56
                      have hji56z : (ji54) ≤ 64 → (t393 / 2 ^ (ji54).toNat) = ji56 := shr_small hji56
                      by_cases c57 : (Int.tmod (ji56) 2) = 1
                      · rw [if_pos c57] at H
                        have c57b0 : ((Int.tmod (ji56) 2) == 1) = true := beq_iff_eq.mpr c57
                        have c57b1 : ((Int.tmod (ji56) 2) != 1) = false := bne_eq_false_iff_eq.mpr c57
                        clear c57
                        by_cases c58 : 0 ≤ x11_2
                        · rw [if_pos c58] at H
                          have c58b0 : decide (0 ≤ x11_2) = true := decide_eq_true c58
                          clear c58
                          by_cases c59 : x11_2 < (t379.length : Int)
                          · rw [if_pos c59] at H
                            have c59b0 : decide (x11_2 < (t379.length : Int)) = true := decide_eq_true c59
                            clear c59
                            by_cases c60 : x10_2.length < 17592186044416
                            · rw [if_pos c60] at H
                              have LMc60 := Aside0.mk c60
                              clear c60
                              obtain ⟨y395, hy395⟩ : ∃ y_ : List Int, y_ = (x10_2 ++ [rd t379 x11_2]) := ⟨_, rfl⟩
                              replace H : (splicerylaw41_LicenceSmallest.l0 kj47 a2 t376 t379 t382 y395 (wrap64 (x11_2 + 1))) = some r := by first | (rw [hy395]; with_reducible exact H) | (have H2_ := (Option.bind_some _ _).symm.trans H; rw [hy395]; with_reducible exact H2_) | (have H2_ := (Option.bind_some _ _).symm.trans H; with_reducible exact H2_) | with_reducible exact H | (rw [hy395]; exact H) | exact H
                              have Ny395 := Aside0.mk hy395
                              clear hy395
                              have H' := Aside0.mk H
                              clear H
                              go_wp2_with (first | ((with_reducible refine gate_callee (f := 25) rfl ?_); refine goesL_ (some 63) rfl rfl Try.func25 (by kernel_rfl) rfl #[.int .i64 a2, .int .i64 1024] rfl (by (try simp only [List.map_toArray, List.map_cons, List.map_nil]); first | done | rfl | (simp only [List.length_drop, List.length_take]; rfl)) ?_; (with_reducible refine (spliceryref01_Around.calls a2 1024 t393 _ A53.out).mono ?_); rintro e w' ⟨rfl, ⟨nd, rfl⟩⟩; refine ⟨_, rfl, ?_⟩; have p394 : 0 ≤ (x11_2 : Int) := of_decide_eq_true (by first | (with_reducible assumption) | assumption); have q394 : x11_2 < (t379.length : Int) := of_decide_eq_true (by first | (with_reducible assumption) | assumption); obtain ⟨ad394, e394, hx394_0⟩ := Kd.at_int (Kd.R_reads' HO_8.out).2.2 x11_2 p394 q394; cases e394; replace p394 := eq_true p394; replace q394 := eq_true q394) | ((with_reducible refine gate_builtin (b := .append) (xs := #[.tmp 69, .tmp 74]) rfl ?_); (try (refine gate_guard (by rfl) ?_; dsimp only)); at_builtin; refine Kd.R_append (Kd.int .i64) (w0 := w) w.heap.size rfl (.tmp 69) (.tmp 74) 22 3 (.int .i64 0) 8 rfl Try.underlying22 info3 rfl (by decide) (by omega) u10 x10_2 (rd t379 x11_2) [.int .i64 (rd t379 x11_2)] (fun k_ => some k_ ≠ (.slice (some ad394) t379.length co30 : Value).ownBlock ∧ some k_ ≠ (v383 : Value).ownBlock) (fun _ => False) rfl rfl ?aP (fun _ hk => hk.elim) ?aF ?aO ?aB ?aS ?aL ?_; (case aP => exact rfl); (case aB => exact (chB HB)); (case aF => exact (fun k_ hk => ⟨Kd.fresh' (Kd.R_lt (chR HO_8)) k_ hk, Kd.fresh' (Kd.R_lt (chR HO_9)) k_ hk⟩)); (case aO => exact (chR HO_10)); (case aS => exact (below_size (chB HB))); (case aL => have := LMc60.out; omega); intro v396 w61 ho hb hg hat; rw [← Ny395.out] at ho; have n0_ := Aside0.mk (Kd.S_over' (by (with_reducible repeat (first | apply Kd.S_alloc | apply Kd.S_drewN | apply Kd.S_drew)); exact HO_7.out) (Kd.R_typed (chR HO_10)) (by decide) hg); have n1_ := Aside0.mk (Kd.R_after (ok := (fun k_ => some k_ ≠ (v383 : Value).ownBlock)) (chR HO_8) hg hat); have n2_ := Aside0.mk (Kd.R_after (ok := (fun k_ => some k_ ≠ (.slice (some ad394) t379.length co30 : Value).ownBlock)) (chR HO_9) hg hat); have n3_ := Aside0.mk (hb); have n4_ := Aside0.mk (ho); clear HO_7; clear HO_8; clear HO_9; clear HB; clear HO_10; have HO_7 := n0_; have HO_8 := n1_; have HO_9 := n2_; have HB := n3_; have HO397 := n4_; clear n0_ n1_ n2_ n3_ n4_; clear ho hb hg hat))
                              go_roundg kj47
                              case measure => have := HJ25.out; have := HK2.out; have := HJ47.out; omega
                              case rel => exact ⟨(y395), (wrap64 (x11_2 + 1)), (by first | rfl | (simp; done) | (simp [*]; done)), H', ⟨by have := HJ25.out; have := HK2.out; have := HJ47.out; omega⟩, ⟨by (with_reducible repeat (first | apply Kd.S_alloc | apply Kd.S_drewN | apply Kd.S_drew)); exact HO_7.out⟩, ⟨chR HO_8⟩, ⟨chR HO_9⟩, ⟨chR HO397⟩, ⟨chB HB⟩⟩
                            · rw [if_neg c60] at H
                              exact absurd H (by simp)
                          · rw [if_neg c59] at H
                            exact absurd H (by simp)
                        · rw [if_neg c58] at H
                          exact absurd H (by simp)
                      · rw [if_neg c57] at H
                        have c57b0 : ((Int.tmod (ji56) 2) == 1) = false := beq_eq_false_iff_ne.mpr c57
                        have c57b1 : ((Int.tmod (ji56) 2) != 1) = true := bne_iff_ne.mpr c57
                        have H' := Aside0.mk H
                        clear H
                        go_wp2_with (first | ((with_reducible refine gate_callee (f := 25) rfl ?_); refine goesL_ (some 63) rfl rfl Try.func25 (by kernel_rfl) rfl #[.int .i64 a2, .int .i64 1024] rfl (by (try simp only [List.map_toArray, List.map_cons, List.map_nil]); first | done | rfl | (simp only [List.length_drop, List.length_take]; rfl)) ?_; (with_reducible refine (spliceryref01_Around.calls a2 1024 t393 _ A53.out).mono ?_); rintro e w' ⟨rfl, ⟨nd, rfl⟩⟩; refine ⟨_, rfl, ?_⟩))
                        go_roundg kj47
                        case measure => have := HJ25.out; have := HK2.out; have := HJ47.out; omega
                        case rel => exact ⟨(x10_2), (wrap64 (x11_2 + 1)), (by first | rfl | (simp; done) | (simp [*]; done)), H', ⟨by have := HJ25.out; have := HK2.out; have := HJ47.out; omega⟩, ⟨by (with_reducible repeat (first | apply Kd.S_alloc | apply Kd.S_drewN | apply Kd.S_drew)); exact HO_7.out⟩, ⟨chR HO_8⟩, ⟨chR HO_9⟩, ⟨chR HO_10⟩, ⟨chB HB⟩⟩
                    · rw [if_neg c55] at H
                      exact absurd H (by simp)
                  · replace c52 := Bool.eq_false_iff.mpr c52
                    subst c52
                    have H1 : ((licence_Fine.f t376 x10_2).bind fun t398 => (if t398 = true then ((splicerylaw41_lives.f kj47).bind fun t399 => (some t399)) else (some false))) = some r := by rw [if_neg (show ¬ (false = true) by decide)] at H; exact H
                    clear H
                    have H := H1
                    clear H1
                    replace H := Option.bind_eq_some_iff.mp H
                    obtain ⟨t398, A620, H⟩ := H
                    replace H : (if t398 = true then ((splicerylaw41_lives.f kj47).bind fun t399 => (some t399)) else (some false)) = some r := H
                    have A62 := Aside0.mk A620
                    clear A620
                    by_cases c63 : t398 = true
                    · subst c63
                      have H1 : ((splicerylaw41_lives.f kj47).bind fun t399 => (some t399)) = some r := by rw [if_pos rfl] at H; exact H
                      clear H
                      have H := H1
                      clear H1
                      replace H := Option.bind_eq_some_iff.mp H
                      obtain ⟨t399, A640, H⟩ := H
                      replace H : (some t399) = some r := H
                      have A64 := Aside0.mk A640
                      clear A640
                      obtain rfl := Option.some.inj H
                      obtain ⟨Ao65, co65, eo65⟩ := Kd.R_slice HO_10.out
                      subst eo65
                      go_wp2_with (first | ((with_reducible refine gate_callee (f := 13) rfl ?_); refine goesL_ (some 78) rfl rfl Try.func13 (by kernel_rfl) rfl #[.slice Ao29 t376.length co29, .slice Ao65 x10_2.length co65] rfl (by (try simp only [List.map_toArray, List.map_cons, List.map_nil]); first | done | rfl | (simp only [List.length_drop, List.length_take]; rfl)) ?_; (with_reducible refine (licence_Fine.calls _ _ t376 _ _ x10_2 true _ ?side1 ?side2 ?side3 ?side4 A62.out).mono ?_); (case side1 => repeat (first | exact (Kd.S_reads' HO_7.out).2.2 | (with_reducible refine Kd.C_alloc ?_ _) | (with_reducible refine Kd.C_drewN ?_ _) | (with_reducible refine Kd.C_drew ?_))); (case side2 => exact (Kd.S_reads' HO_7.out).2.1); (case side3 => repeat (first | exact (Kd.R_reads' HO_10.out).2.2 | (with_reducible refine Kd.C_alloc ?_ _) | (with_reducible refine Kd.C_drewN ?_ _) | (with_reducible refine Kd.C_drew ?_))); (case side4 => exact (Kd.R_reads' HO_10.out).2.1); rintro e w66 ⟨rfl, hb⟩; refine ⟨_, rfl, ?_⟩; have n0_ := Aside0.mk (Kd.S_below (by (with_reducible repeat (first | apply Kd.S_alloc | apply Kd.S_drewN | apply Kd.S_drew)); exact HO_7.out) hb); have n1_ := Aside0.mk (Kd.R_below (chR HO_8) hb); have n2_ := Aside0.mk (Kd.R_below (chR HO_9) hb); have n3_ := Aside0.mk (Kd.R_below (chR HO_10) hb); have n4_ := Aside0.mk (below_step (chB HB) hb); clear HO_7; clear HO_8; clear HO_9; clear HO_10; clear HB; have HO_7 := n0_; have HO_8 := n1_; have HO_9 := n2_; have HO_10 := n3_; have HB := n4_; clear n0_ n1_ n2_ n3_ n4_; (try clear hb); (try clear hb2); (try clear hk); (try clear hi)) | (go_at_call 16; (with_reducible refine (splicerylaw41_lives.calls kj47  t399 _ A64.out).mono ?_); rintro e w67 ⟨rfl, hb⟩; have n0_ := Aside0.mk (Kd.S_below (by (with_reducible repeat (first | apply Kd.S_alloc | apply Kd.S_drewN | apply Kd.S_drew)); exact HO_7.out) hb); have n1_ := Aside0.mk (Kd.R_below (chR HO_8) hb); have n2_ := Aside0.mk (Kd.R_below (chR HO_9) hb); have n3_ := Aside0.mk (Kd.R_below (chR HO_10) hb); have n4_ := Aside0.mk (below_step (chB HB) hb); clear HO_7; clear HO_8; clear HO_9; clear HO_10; clear HB; have HO_7 := n0_; have HO_8 := n1_; have HO_9 := n2_; have HO_10 := n3_; have HB := n4_; clear n0_ n1_ n2_ n3_ n4_; (try clear hb); (try clear hb2); (try clear hk); (try clear hi)))
                      go_ret
                      exact ⟨by first | rfl | (simp [errW_none, errW_some] <;> rfl) | (simp [*, errW_none, errW_some] <;> rfl), chB HB⟩
                    · replace c63 := Bool.eq_false_iff.mpr c63
                      subst c63
                      have H1 : (some false) = some r := by rw [if_neg (show ¬ (false = true) by decide)] at H; exact H
                      clear H
                      have H := H1
                      clear H1
                      obtain rfl := Option.some.inj H
                      obtain ⟨Ao68, co68, eo68⟩ := Kd.R_slice HO_10.out
                      subst eo68
                      go_wp2_with (first | ((with_reducible refine gate_callee (f := 13) rfl ?_); refine goesL_ (some 78) rfl rfl Try.func13 (by kernel_rfl) rfl #[.slice Ao29 t376.length co29, .slice Ao68 x10_2.length co68] rfl (by (try simp only [List.map_toArray, List.map_cons, List.map_nil]); first | done | rfl | (simp only [List.length_drop, List.length_take]; rfl)) ?_; (with_reducible refine (licence_Fine.calls _ _ t376 _ _ x10_2 false _ ?side1 ?side2 ?side3 ?side4 A62.out).mono ?_); (case side1 => repeat (first | exact (Kd.S_reads' HO_7.out).2.2 | (with_reducible refine Kd.C_alloc ?_ _) | (with_reducible refine Kd.C_drewN ?_ _) | (with_reducible refine Kd.C_drew ?_))); (case side2 => exact (Kd.S_reads' HO_7.out).2.1); (case side3 => repeat (first | exact (Kd.R_reads' HO_10.out).2.2 | (with_reducible refine Kd.C_alloc ?_ _) | (with_reducible refine Kd.C_drewN ?_ _) | (with_reducible refine Kd.C_drew ?_))); (case side4 => exact (Kd.R_reads' HO_10.out).2.1); rintro e w69 ⟨rfl, hb⟩; refine ⟨_, rfl, ?_⟩; have n0_ := Aside0.mk (Kd.S_below (by (with_reducible repeat (first | apply Kd.S_alloc | apply Kd.S_drewN | apply Kd.S_drew)); exact HO_7.out) hb); have n1_ := Aside0.mk (Kd.R_below (chR HO_8) hb); have n2_ := Aside0.mk (Kd.R_below (chR HO_9) hb); have n3_ := Aside0.mk (Kd.R_below (chR HO_10) hb); have n4_ := Aside0.mk (below_step (chB HB) hb); clear HO_7; clear HO_8; clear HO_9; clear HO_10; clear HB; have HO_7 := n0_; have HO_8 := n1_; have HO_9 := n2_; have HO_10 := n3_; have HB := n4_; clear n0_ n1_ n2_ n3_ n4_; (try clear hb); (try clear hb2); (try clear hk); (try clear hi)))
                      go_ret
                      exact ⟨by first | rfl | (simp [errW_none, errW_some] <;> rfl) | (simp [*, errW_none, errW_some] <;> rfl), chB HB⟩

/-- THE ONE PURE STATEMENT of splicerylaw41_LicenceSmallest: yours. -/
def splicerylaw41_LicenceSmallest.Pure : Prop := ∀ (l0 : List Int) (l1 : List Int) (a2 : Int), l0.length ≤ maxLen → l0.length * 8 ≤ 140737488351232 → (∀ x ∈ l0, (Lit.int .i64 x).wf = true) → l1.length ≤ maxLen → l1.length * 8 ≤ 140737488351232 → (∀ x ∈ l1, (Lit.int .i64 x).wf = true) → (Lit.int .i64 a2).wf = true → ∃ k, splicerylaw41_LicenceSmallest.f k l0 l1 a2 = some true
theorem splicerylaw41_LicenceSmallest.walk (P : splicerylaw41_LicenceSmallest.Pure) (a0 : Option Addr) (len0 cap0 : Nat) (z0 : List Int) (a1 : Option Addr) (len1 cap1 : Nat) (z1 : List Int) (a2 : Int) (w : World) (w0 : (a0 = none ∧ len0 = 0 ∧ cap0 = 0 ∧ z0 = []) ∨ ∃ x, a0 = some x ∧ len0 ≤ cap0 ∧ cap0 ≤ maxLen ∧ z0.length = cap0 ∧ (∀ i, i < z0.length → w.cell? (x.add i) = some (.int .i64 (z0.getD i 0))) ∧ ∀ n ∈ z0, (Lit.int .i64 n).wf = true) (y0 : len0 * 8 ≤ 140737488351232) (w1 : (a1 = none ∧ len1 = 0 ∧ cap1 = 0 ∧ z1 = []) ∨ ∃ x, a1 = some x ∧ len1 ≤ cap1 ∧ cap1 ≤ maxLen ∧ z1.length = cap1 ∧ (∀ i, i < z1.length → w.cell? (x.add i) = some (.int .i64 (z1.getD i 0))) ∧ ∀ n ∈ z1, (Lit.int .i64 n).wf = true) (y1 : len1 * 8 ≤ 140737488351232) (w2 : (Lit.int .i64 a2).wf = true) :
    Calls Try.prog 7 #[.slice a0 len0 cap0, .slice a1 len1 cap1, .int .i64 a2] w fun e w' => e = .returned (.bool true) ∧ Below w.heap.size w w' := by
  obtain ⟨l0, rfl, hr0, hm0, hw0, hc0⟩ := ReadsInt.ofRowC w0
  obtain ⟨l1, rfl, hr1, hm1, hw1, hc1⟩ := ReadsInt.ofRowC w1
  obtain ⟨k, h⟩ := P l0 l1 a2 hm0 y0 hw0 hm1 y1 hw1 w2
  refine (splicerylaw41_LicenceSmallest.calls k _ _ l0 _ _ l1 a2 true w (Kd.C_of_reads (d := (0 : Int)) (h1 := fun _ => rfl) hr0) hc0 (Kd.C_of_reads (d := (0 : Int)) (h1 := fun _ => rfl) hr1) hc1 h).mono ?_
  rintro e w' ⟨rfl, hd⟩
  exact ⟨rfl, hd⟩

end Go.Proofs.Ytjagffomohbioaa.L
