-- Written by a program of this session (patch_print.py over the kit's print) out of the translation. Not trusted: Lean checks it.
import Derived.Test.YtjagffomohbioaaLx0
import Derived.Test.YtjagffomohbioaaLx1
import Derived.Test.YtjagffomohbioaaLx3
import Derived.Test.YtjagffomohbioaaLx5
import Derived.Test.YtjagffomohbioaaGiven
namespace Go.Proofs.Ytjagffomohbioaa.L
open Go.RowKit Go.Proofs.YtjagffomohbioaaW.PrintWords Go.Proofs.YtjagffomohbioaaW.PrintLast Go.Proofs.YtjagffomohbioaaW.PrintMore
attribute [local go_sem] max2_int min2_int max_two min_two max_three min_three max_four min_four   -- for this text's walks alone
set_option linter.unusedVariables false
set_option linter.unusedSimpArgs false

/-! ### splicerylaw41_LicenceMore: function 8 -/
mutual
def splicerylaw41_LicenceMore.l0 : Nat → List (S36) → List Int → List Int → List Int → Int → Option (Bool)
  | 0, _, _, _, _, _ => none
  | k + 1, x7, x8, x9, x10, x11 => if x11 ≥ 0 then (if 0 ≤ x11 then (if x11 < (x8.length : Int) then ((some (([rd x8 x11, rd x8 x11] : List Int) : List Int)).bind fun y420 => (if x10.length + y420.length < 17592186044416 then (splicerylaw41_LicenceMore.l0 k x7 x8 x9 (x10 ++ y420) (wrap64 (x11 - 1))) else (none))) else (none)) else (none)) else ((licence_Fine.f x7 x9).bind fun t426 => (if t426 = true then ((licence_Fine.f x7 x8).bind fun t427 => (if t427 = true then ((licence_Fine.f x7 x10).bind fun t428 => ((licence_Fine.f x7 x8).bind fun t429 => (if (t428 != t429) = true then (splicerylaw41_LicenceMore.j1 k x7 x9 true) else ((licence_Core.f x7 x10).bind fun t430 => ((licence_Core.f x7 x8).bind fun t433 => ((spliceryref01_SameInts.f k t430 t433).bind fun t436 => (splicerylaw41_LicenceMore.j1 k x7 x9 (!t436)))))))) else (splicerylaw41_LicenceMore.j1 k x7 x9 true))) else ((licence_Fine.f x7 x10).bind fun t437 => ((licence_Fine.f x7 x8).bind fun t438 => (if (t437 != t438) = true then (splicerylaw41_LicenceMore.j1 k x7 x9 true) else ((licence_Core.f x7 x10).bind fun t439 => ((licence_Core.f x7 x8).bind fun t442 => ((spliceryref01_SameInts.f k t439 t442).bind fun t445 => (splicerylaw41_LicenceMore.j1 k x7 x9 (!t445))))))))))
def splicerylaw41_LicenceMore.j1 : Nat → List (S36) → List Int → Bool → Option (Bool)
  | 0, _, _, _ => none
  | k + 1, x7, x9, x69 => if x69 = true then (some false) else ((some (([] : List (S36)) : List (S36))).bind fun y446 => (if y446.length + x7.length < 2199023255552 then (splicerylaw41_LicenceMore.l1 k x9 (y446 ++ x7) 0) else (none)))
def splicerylaw41_LicenceMore.l1 : Nat → List Int → List (S36) → Int → Option (Bool)
  | 0, _, _, _ => none
  | k + 1, x9, x12, x13 => if x13 < (x12.length : Int) then (if 0 ≤ x13 then (splicerylaw41_LicenceMore.l1 k x9 (x12.set (x13 : Int).toNat (⟨(rd_T36 x12 x13).f0, (rd_T36 x12 x13).f1, ([] : List ByteArray)⟩ : S36)) (wrap64 (x13 + 1))) else (none)) else ((licence_Fine.f x12 x9).bind fun t453 => (if t453 = true then ((licence_Core.f x12 x9).bind fun t454 => (if (t454.length : Int) = 0 then ((splicerylaw41_lives.f k).bind fun t457 => (some t457)) else (some false))) else (some false)))
end
def splicerylaw41_LicenceMore.f (k : Nat) (l0 : List Int) (l1 : List Int) (l2 : List Int) : Option (Bool) := (spliceryref41_Clauses.f k l0).bind fun t400 => ((spliceryref41_Picks.f k l1).bind fun t403 => ((some (([] : List Int) : List Int)).bind fun y406 => (if y406.length + t403.length < 17592186044416 then ((some (y406 ++ t403 : List Int)).bind fun y409 => ((spliceryref41_Picks.f k l2).bind fun t412 => (if y409.length + t412.length < 17592186044416 then (splicerylaw41_LicenceMore.l0 k t400 t403 (y409 ++ t412) ([] : List Int) (wrap64 ((t403.length : Int) - 1))) else (none)))) else (none))))
def splicerylaw41_LicenceMore.T8 : Bool × List (List Nat × List Nat) := (true, [([], []), ([], []), ([], []), ([1, 2], [1, 2]), ([3], [3]), ([], []), ([], []), ([5, 6], [5, 6]), ([7], [7]), ([4, 8], [4, 8]), ([0, 9], [0, 9]), ([10, 10, 0, 1, 2, 3, 4, 5, 6, 7, 8, 9, 10], [0, 10])])
def splicerylaw41_LicenceMore.B8 : List Nat := [0, 0, 0, 6, 14, 0, 0, 96, 224, 510, 1023, 2047]
theorem splicerylaw41_LicenceMore.tab8 : rtab .any (opsOf Try.f8 8) = splicerylaw41_LicenceMore.T8 := by kernel_rfl
theorem splicerylaw41_LicenceMore.bits8 : waitsOk splicerylaw41_LicenceMore.T8.2 splicerylaw41_LicenceMore.B8 = true := by kernel_rfl
set_option maxHeartbeats 8000000 in
set_option maxRecDepth 100000 in
theorem splicerylaw41_LicenceMore.calls (k : Nat) (A0 : Option Addr) (c0 : Nat) (l0 : List Int) (A1 : Option Addr) (c1 : Nat) (l1 : List Int) (A2 : Option Addr) (c2 : Nat) (l2 : List Int) (r : Bool) (w : World) (hr0 : Kd.C (Kd.int .i64) w A0 l0.length l0) (hc0 : l0.length ≤ c0) (hr1 : Kd.C (Kd.int .i64) w A1 l1.length l1) (hc1 : l1.length ≤ c1) (hr2 : Kd.C (Kd.int .i64) w A2 l2.length l2) (hc2 : l2.length ≤ c2) (h : splicerylaw41_LicenceMore.f k l0 l1 l2 = some r) :
    Calls Try.prog 8 #[.slice A0 l0.length c0, .slice A1 l1.length c1, .slice A2 l2.length c2] w fun e w' => e = .returned (.bool r) ∧ Below w.heap.size w w' := by
  have HR0 := Aside0.mk hr0
  have HC0 := Aside0.mk hc0
  clear hr0 hc0
  have HR1 := Aside0.mk hr1
  have HC1 := Aside0.mk hc1
  clear hr1 hc1
  have HR2 := Aside0.mk hr2
  have HC2 := Aside0.mk hc2
  clear hr2 hc2
  have HB := Aside0.mk (Below.refl w.heap.size w)
  have H : ((spliceryref41_Clauses.f k l0).bind fun t400 => ((spliceryref41_Picks.f k l1).bind fun t403 => ((some (([] : List Int) : List Int)).bind fun y406 => (if y406.length + t403.length < 17592186044416 then ((some (y406 ++ t403 : List Int)).bind fun y409 => ((spliceryref41_Picks.f k l2).bind fun t412 => (if y409.length + t412.length < 17592186044416 then (splicerylaw41_LicenceMore.l0 k t400 t403 (y409 ++ t412) ([] : List Int) (wrap64 ((t403.length : Int) - 1))) else (none)))) else (none))))) = some r := h
  clear h
  replace H := Option.bind_eq_some_iff.mp H
  obtain ⟨t400, A40, H⟩ := H
  replace H : ((spliceryref41_Picks.f k l1).bind fun t403 => ((some (([] : List Int) : List Int)).bind fun y406 => (if y406.length + t403.length < 17592186044416 then ((some (y406 ++ t403 : List Int)).bind fun y409 => ((spliceryref41_Picks.f k l2).bind fun t412 => (if y409.length + t412.length < 17592186044416 then (splicerylaw41_LicenceMore.l0 k t400 t403 (y409 ++ t412) ([] : List Int) (wrap64 ((t403.length : Int) - 1))) else (none)))) else (none)))) = some r := H
  have A4 := Aside0.mk A40
  clear A40
  replace H := Option.bind_eq_some_iff.mp H
  obtain ⟨t403, A50, H⟩ := H
  replace H : ((some (([] : List Int) : List Int)).bind fun y406 => (if y406.length + t403.length < 17592186044416 then ((some (y406 ++ t403 : List Int)).bind fun y409 => ((spliceryref41_Picks.f k l2).bind fun t412 => (if y409.length + t412.length < 17592186044416 then (splicerylaw41_LicenceMore.l0 k t400 t403 (y409 ++ t412) ([] : List Int) (wrap64 ((t403.length : Int) - 1))) else (none)))) else (none))) = some r := H
  have A5 := Aside0.mk A50
  clear A50
  obtain ⟨y406, hy406⟩ : ∃ y_ : List Int, y_ = (([] : List Int)) := ⟨_, rfl⟩
  replace H : (if y406.length + t403.length < 17592186044416 then ((some (y406 ++ t403 : List Int)).bind fun y409 => ((spliceryref41_Picks.f k l2).bind fun t412 => (if y409.length + t412.length < 17592186044416 then (splicerylaw41_LicenceMore.l0 k t400 t403 (y409 ++ t412) ([] : List Int) (wrap64 ((t403.length : Int) - 1))) else (none)))) else (none)) = some r := by first | (rw [hy406]; with_reducible exact H) | (have H2_ := (Option.bind_some _ _).symm.trans H; rw [hy406]; with_reducible exact H2_) | (have H2_ := (Option.bind_some _ _).symm.trans H; with_reducible exact H2_) | with_reducible exact H | (rw [hy406]; exact H) | exact H
  have Ny406 := Aside0.mk hy406
  clear hy406
  by_cases c6 : y406.length + t403.length < 17592186044416
  · rw [if_pos c6] at H
    have LMc6 := Aside0.mk c6
    clear c6
    obtain ⟨y409, hy409⟩ : ∃ y_ : List Int, y_ = (y406 ++ t403) := ⟨_, rfl⟩
    replace H : ((spliceryref41_Picks.f k l2).bind fun t412 => (if y409.length + t412.length < 17592186044416 then (splicerylaw41_LicenceMore.l0 k t400 t403 (y409 ++ t412) ([] : List Int) (wrap64 ((t403.length : Int) - 1))) else (none))) = some r := by first | (rw [hy409]; with_reducible exact H) | (have H2_ := (Option.bind_some _ _).symm.trans H; rw [hy409]; with_reducible exact H2_) | (have H2_ := (Option.bind_some _ _).symm.trans H; with_reducible exact H2_) | with_reducible exact H | (rw [hy409]; exact H) | exact H
    have Ny409 := Aside0.mk hy409
    clear hy409
    replace H := Option.bind_eq_some_iff.mp H
    obtain ⟨t412, A70, H⟩ := H
    replace H : (if y409.length + t412.length < 17592186044416 then (splicerylaw41_LicenceMore.l0 k t400 t403 (y409 ++ t412) ([] : List Int) (wrap64 ((t403.length : Int) - 1))) else (none)) = some r := H
    have A7 := Aside0.mk A70
    clear A70
    by_cases c8 : y409.length + t412.length < 17592186044416
    · rw [if_pos c8] at H
      have LMc8 := Aside0.mk c8
      clear c8
      obtain ⟨y415, hy415⟩ : ∃ y_ : List Int, y_ = (y409 ++ t412) := ⟨_, rfl⟩
      replace H : (splicerylaw41_LicenceMore.l0 k t400 t403 y415 ([] : List Int) (wrap64 ((t403.length : Int) - 1))) = some r := by first | (rw [hy415]; with_reducible exact H) | (have H2_ := (Option.bind_some _ _).symm.trans H; rw [hy415]; with_reducible exact H2_) | (have H2_ := (Option.bind_some _ _).symm.trans H; with_reducible exact H2_) | with_reducible exact H | (rw [hy415]; exact H) | exact H
      have Ny415 := Aside0.mk hy415
      clear hy415
      have H' := Aside0.mk H
      clear H
      go_enter Try.func8, Try.ntmps8
      go_wp2_with (first | ((with_reducible refine gate_callee (f := 9) rfl ?_); refine goesL_ (some 15) rfl rfl Try.func9 (by kernel_rfl) rfl #[.slice A0 l0.length c0] rfl (by (try simp only [List.map_toArray, List.map_cons, List.map_nil]); first | done | rfl | (simp only [List.length_drop, List.length_take]; rfl)) ?_; (with_reducible refine (spliceryref41_Clauses.calls k _ _ l0 t400 _ ?side1 ?side2 A4.out).mono ?_); (case side1 => repeat (first | exact HR0.out | (with_reducible refine Kd.C_alloc ?_ _) | (with_reducible refine Kd.C_drewN ?_ _) | (with_reducible refine Kd.C_drew ?_))); (case side2 => exact HC0.out); rintro e w9 ⟨v401, rfl, ho0, hb⟩; refine ⟨_, rfl, ?_⟩; have n0_ := Aside0.mk (Kd.N_lower (Kd.N_mono (ok' := fun k_ => True) (Kd.S_N (Kd.S_bound ho0)) (fun k_ hk_ => trivial)) (below_size (chB HB))); have n1_ := Aside0.mk (below_step (chB HB) hb); clear HB; have HO402 := n0_; have HB := n1_; clear n0_ n1_; (try clear hb); (try clear hb2); (try clear hk); (try clear hi); (try clear ho0)) | ((with_reducible refine gate_callee (f := 14) rfl ?_); refine goesL_ (some 17) rfl rfl Try.func14 (by kernel_rfl) rfl #[.slice A1 l1.length c1] rfl (by (try simp only [List.map_toArray, List.map_cons, List.map_nil]); first | done | rfl | (simp only [List.length_drop, List.length_take]; rfl)) ?_; (with_reducible refine (spliceryref41_Picks.calls k _ _ l1 t403 _ ?side1 ?side2 A5.out).mono ?_); (case side1 => repeat (first | exact (Kd.C_below HR1.out HB.out) | (with_reducible refine Kd.C_alloc ?_ _) | (with_reducible refine Kd.C_drewN ?_ _) | (with_reducible refine Kd.C_drew ?_))); (case side2 => exact HC1.out); rintro e w10 ⟨v404, rfl, ho0, hb⟩; refine ⟨_, rfl, ?_⟩; have n0_ := Aside0.mk (Kd.N_elder' (by (with_reducible repeat (first | apply Kd.N_alloc | apply Kd.N_drewN | apply Kd.N_drew)); exact HO402.out) (Kd.R_base ho0) hb); have n1_ := Aside0.mk (Kd.R_lower ho0 (below_size (chB HB))); have n2_ := Aside0.mk (below_step (chB HB) hb); clear HO402; clear HB; have HO402 := n0_; have HO405 := n1_; have HB := n2_; clear n0_ n1_ n2_; (try clear hb); (try clear hb2); (try clear hk); (try clear hi); (try clear ho0)) | ((with_reducible refine gate_dst (N := 18) rfl ?_); (try (refine gate_guard (by rfl) ?_; dsimp only)); refine Kd.R_lit (Kd.int .i64) _ 3 ?hg (N := 18) ?hd (xs := ([] : List Int)) (inner := []) (ok := fun _ => True) (okp := fun _ => True) ?hr ?hp (fun _ hk => hk) trivial (Below.refl _ _) (Nat.le_refl _) (by simp) ?_; (case hd => rfl); (case hg => rfl); (case hr => first | (go_simp; done) | (go_simp; rfl)); (case hp => exact (Reps.none _ _)); intro v407 w11 ho12 hb hg_ hnew_; clear hg_ hnew_; (first | rw [← Ny406.out] at ho12 | (simp only [Int.reduceToNat] at ho12; rw [← Ny406.out] at ho12)); have n0_ := Aside0.mk (Kd.N_elder' (by (with_reducible repeat (first | apply Kd.N_alloc | apply Kd.N_drewN | apply Kd.N_drew)); exact HO402.out) (Kd.R_base ho12) hb); have n1_ := Aside0.mk (Kd.R_elder' (chR HO405) (Kd.R_base ho12) hb); have n2_ := Aside0.mk (Kd.R_lower (Kd.R_new' ho12 (Kd.R_lt (chR HO405))) (below_size (chB HB))); have n3_ := Aside0.mk (below_step (chB HB) hb); clear HO402; clear HO405; clear HB; have HO402 := n0_; have HO405 := n1_; have HO408 := n2_; have HB := n3_; clear n0_ n1_ n2_ n3_; clear hb ho12; obtain ⟨Ao14, co14, eo14⟩ := Kd.R_slice HO405.out; subst eo14) | ((with_reducible refine gate_builtin (b := .append) (xs := #[.tmp 18, .tmp 19]) rfl ?_); (try (refine gate_guard (by rfl) ?_; dsimp only)); at_builtin; refine Kd.R_append_rows (Kd.int .i64) (w0 := w) w.heap.size rfl (.tmp 18) (.tmp 19) 22 3 (.int .i64 0) 8 rfl Try.underlying22 info3 rfl (by decide) (by omega) v407 y406 t403 _ _ _ (fun k_ => some k_ ≠ (.slice Ao14 t403.length co14 : Value).ownBlock) (fun _ => False) rfl rfl ?aO ?aR (fun _ _ h => h) (fun _ h => h.elim) ?aF ?aB ?aS ?aL ?_; (case aR => repeat (first | exact (Kd.R_reads' HO405.out).2.2 | (with_reducible refine Kd.C_alloc ?_ _) | (with_reducible refine Kd.C_drewN ?_ _) | (with_reducible refine Kd.C_drew ?_))); (case aB => exact (chB HB)); (case aF => exact (fun k_ hk => Kd.fresh' (Kd.R_lt (chR HO405)) k_ hk)); (case aO => exact (by (with_reducible repeat (first | apply Kd.R_alloc | apply Kd.R_drewN | apply Kd.R_drew)); exact Kd.R_mono HO408.out (fun _ hk => hk.2))); (case aS => exact (below_size (chB HB))); (case aL => have := LMc6.out; omega); intro v410 w13 ho hb hg hat; rw [← Ny409.out] at ho; have n0_ := Aside0.mk (Kd.N_afterv (ok := (fun k_ => some k_ ≠ (.slice Ao14 t403.length co14 : Value).ownBlock)) (by (with_reducible repeat (first | apply Kd.N_alloc | apply Kd.N_drewN | apply Kd.N_drew)); exact Kd.N_mono HO402.out (fun _ hk => ⟨hk.1.2, hk.2⟩)) hg hat); have n1_ := Aside0.mk (Kd.R_after (ok := (fun _ => True)) (chR HO405) hg hat); have n2_ := Aside0.mk (hb); have n3_ := Aside0.mk (ho); clear HO402; clear HO405; clear HB; clear HO408; have HO402 := n0_; have HO405 := n1_; have HB := n2_; have HO411 := n3_; clear n0_ n1_ n2_ n3_; clear ho hb hg hat) | ((with_reducible refine gate_callee (f := 14) rfl ?_); refine goesL_ (some 22) rfl rfl Try.func14 (by kernel_rfl) rfl #[.slice A2 l2.length c2] rfl (by (try simp only [List.map_toArray, List.map_cons, List.map_nil]); first | done | rfl | (simp only [List.length_drop, List.length_take]; rfl)) ?_; (with_reducible refine (spliceryref41_Picks.calls k _ _ l2 t412 _ ?side1 ?side2 A7.out).mono ?_); (case side1 => repeat (first | exact (Kd.C_below HR2.out HB.out) | (with_reducible refine Kd.C_alloc ?_ _) | (with_reducible refine Kd.C_drewN ?_ _) | (with_reducible refine Kd.C_drew ?_))); (case side2 => exact HC2.out); rintro e w15 ⟨v413, rfl, ho0, hb⟩; refine ⟨_, rfl, ?_⟩; have n0_ := Aside0.mk (Kd.N_elder' (by (with_reducible repeat (first | apply Kd.N_alloc | apply Kd.N_drewN | apply Kd.N_drew)); exact HO402.out) (Kd.R_base ho0) hb); have n1_ := Aside0.mk (Kd.R_elder' (chR HO405) (Kd.R_base ho0) hb); have n2_ := Aside0.mk (Kd.R_elder' (chR HO411) (Kd.R_base ho0) hb); have n3_ := Aside0.mk (Kd.R_lower (Kd.R_new' (Kd.R_new' ho0 (Kd.R_lt (chR HO405))) (Kd.R_lt (chR HO411))) (below_size (chB HB))); have n4_ := Aside0.mk (below_step (chB HB) hb); clear HO402; clear HO405; clear HO411; clear HB; have HO402 := n0_; have HO405 := n1_; have HO411 := n2_; have HO414 := n3_; have HB := n4_; clear n0_ n1_ n2_ n3_ n4_; (try clear hb); (try clear hb2); (try clear hk); (try clear hi); (try clear ho0); obtain ⟨Ao17, co17, eo17⟩ := Kd.R_slice HO414.out; subst eo17) | ((with_reducible refine gate_builtin (b := .append) (xs := #[.tmp 20, .tmp 22]) rfl ?_); (try (refine gate_guard (by rfl) ?_; dsimp only)); at_builtin; refine Kd.R_append_rows (Kd.int .i64) (w0 := w) w.heap.size rfl (.tmp 20) (.tmp 22) 22 3 (.int .i64 0) 8 rfl Try.underlying22 info3 rfl (by decide) (by omega) v410 y409 t412 _ _ _ (fun k_ => some k_ ≠ (.slice Ao14 t403.length co14 : Value).ownBlock ∧ some k_ ≠ (.slice Ao17 t412.length co17 : Value).ownBlock) (fun _ => False) rfl rfl ?aO ?aR (fun _ _ h => h) (fun _ h => h.elim) ?aF ?aB ?aS ?aL ?_; (case aR => repeat (first | exact (Kd.R_reads' HO414.out).2.2 | (with_reducible refine Kd.C_alloc ?_ _) | (with_reducible refine Kd.C_drewN ?_ _) | (with_reducible refine Kd.C_drew ?_))); (case aB => exact (chB HB)); (case aF => exact (fun k_ hk => ⟨Kd.fresh' (Kd.R_lt (chR HO405)) k_ hk, Kd.fresh' (Kd.R_lt (chR HO414)) k_ hk⟩)); (case aO => exact (chR HO411)); (case aS => exact (below_size (chB HB))); (case aL => have := LMc8.out; omega); intro v416 w16 ho hb hg hat; rw [← Ny415.out] at ho; have n0_ := Aside0.mk (Kd.N_afterv (ok := (fun k_ => some k_ ≠ (.slice Ao14 t403.length co14 : Value).ownBlock ∧ some k_ ≠ (.slice Ao17 t412.length co17 : Value).ownBlock)) (by (with_reducible repeat (first | apply Kd.N_alloc | apply Kd.N_drewN | apply Kd.N_drew)); exact Kd.N_mono HO402.out (fun _ hk => ⟨⟨hk.1.1, hk.2⟩, hk.1.2⟩)) hg hat); have n1_ := Aside0.mk (Kd.R_after (ok := (fun k_ => some k_ ≠ (.slice Ao17 t412.length co17 : Value).ownBlock)) (by (with_reducible repeat (first | apply Kd.R_alloc | apply Kd.R_drewN | apply Kd.R_drew)); exact Kd.R_mono HO405.out (fun _ hk => ⟨hk.2, hk.1.2⟩)) hg hat); have n2_ := Aside0.mk (Kd.R_after (ok := (fun k_ => some k_ ≠ (.slice Ao14 t403.length co14 : Value).ownBlock)) (by (with_reducible repeat (first | apply Kd.R_alloc | apply Kd.R_drewN | apply Kd.R_drew)); exact Kd.R_mono HO414.out (fun _ hk => ⟨hk.1.2, hk.2⟩)) hg hat); have n3_ := Aside0.mk (hb); have n4_ := Aside0.mk (ho); clear HO402; clear HO405; clear HO414; clear HB; clear HO411; have HO402 := n0_; have HO405 := n1_; have HO414 := n2_; have HB := n3_; have HO417 := n4_; clear n0_ n1_ n2_ n3_ n4_; clear ho hb hg hat))
      go_loopg [10, 11] k (fun kq v10 v11 w' => ∃ (x10_1 : List Int) (x11_1 : Int), v11 = .int .i64 x11_1 ∧ Aside0 (splicerylaw41_LicenceMore.l0 kq t400 t403 y415 x10_1 x11_1 = some r) ∧ Aside0 (kq ≤ k) ∧ Aside0 (Kd.N k36 36 w' w.heap.size (fun k_ => some k_ ≠ ((.slice Ao14 t403.length co14) : Value).ownBlock ∧ some k_ ≠ (v416 : Value).ownBlock ∧ some k_ ≠ (v10 : Value).ownBlock) v401 t400) ∧ Aside0 (Kd.R (Kd.int .i64) 3 w' w.heap.size (fun k_ => some k_ ≠ (v416 : Value).ownBlock ∧ some k_ ≠ (v10 : Value).ownBlock) (.slice Ao14 t403.length co14) t403) ∧ Aside0 (Kd.R (Kd.int .i64) 3 w' w.heap.size (fun k_ => some k_ ≠ ((.slice Ao14 t403.length co14) : Value).ownBlock ∧ some k_ ≠ (v10 : Value).ownBlock) v416 y415) ∧ Aside0 (Kd.R (Kd.int .i64) 3 w' w.heap.size (fun k_ => some k_ ≠ ((.slice Ao14 t403.length co14) : Value).ownBlock ∧ some k_ ≠ (v416 : Value).ownBlock) v10 x10_1) ∧ Aside0 (Below w.heap.size w w'))
      case atStart => exact ⟨(([] : List Int)), (wrap64 ((t403.length : Int) - 1)), (by first | rfl | (simp; done) | (simp [*]; done)), H', ⟨Nat.le_refl _⟩, ⟨by (with_reducible repeat (first | apply Kd.N_alloc | apply Kd.N_drewN | apply Kd.N_drew)); exact Kd.N_mono HO402.out (fun _ hk => ⟨hk.1.1, ⟨hk.2, (by simp [Value.ownBlock])⟩⟩)⟩, ⟨by (with_reducible repeat (first | apply Kd.R_alloc | apply Kd.R_drewN | apply Kd.R_drew)); exact Kd.R_mono HO405.out (fun _ hk => ⟨hk.2, (by simp [Value.ownBlock])⟩)⟩, ⟨by (with_reducible repeat (first | apply Kd.R_alloc | apply Kd.R_drewN | apply Kd.R_drew)); exact Kd.R_mono HO417.out (fun _ hk => ⟨hk.1, (by simp [Value.ownBlock])⟩)⟩, ⟨by first | exact Kd.R_nil _ _ _ _ _ | exact Kd.N_nil _ _ _ _ _ | exact Kd.V_nil _ _ _ _ _ | exact Kd.Q_nil _ _ _ _ _ | exact Kd.S_nil _ _ _ _ _⟩, ⟨chB HB⟩⟩
      case round =>
        clear H'
        try clear c1
        try clear c2
        try clear p2
        try clear c6
        try clear p6
        try clear c8
        try clear c9
        try clear c14
        obtain ⟨x10_1, x11_1, rfl, HA, HK1, HO_7, HO_8, HO_9, HO_10, HB⟩ := hrel
        cases gk with
        | zero => exact absurd HA.out (by simp [splicerylaw41_LicenceMore.l0])
        | succ k1 =>
          have H := HA.out
          clear HA
          simp only [splicerylaw41_LicenceMore.l0] at H
          by_cases c18 : x11_1 ≥ 0
          · rw [if_pos c18] at H
            have c18b0 : decide (0 ≤ x11_1) = true := decide_eq_true c18
            clear c18
            by_cases c19 : 0 ≤ x11_1
            · rw [if_pos c19] at H
              have c19b0 : decide (0 ≤ x11_1) = true := decide_eq_true c19
              clear c19
              by_cases c20 : x11_1 < (t403.length : Int)
              · rw [if_pos c20] at H
                have c20b0 : decide (x11_1 < (t403.length : Int)) = true := decide_eq_true c20
                clear c20
                obtain ⟨y420, hy420⟩ : ∃ y_ : List Int, y_ = (([rd t403 x11_1, rd t403 x11_1] : List Int)) := ⟨_, rfl⟩
                replace H : (if x10_1.length + y420.length < 17592186044416 then (splicerylaw41_LicenceMore.l0 k1 t400 t403 y415 (x10_1 ++ y420) (wrap64 (x11_1 - 1))) else (none)) = some r := by first | (rw [hy420]; with_reducible exact H) | (have H2_ := (Option.bind_some _ _).symm.trans H; rw [hy420]; with_reducible exact H2_) | (have H2_ := (Option.bind_some _ _).symm.trans H; with_reducible exact H2_) | with_reducible exact H | (rw [hy420]; exact H) | exact H
                have Ny420 := Aside0.mk hy420
                clear hy420
                by_cases c21 : x10_1.length + y420.length < 17592186044416
                · rw [if_pos c21] at H
                  have LMc21 := Aside0.mk c21
                  clear c21
                  obtain ⟨y423, hy423⟩ : ∃ y_ : List Int, y_ = (x10_1 ++ y420) := ⟨_, rfl⟩
                  replace H : (splicerylaw41_LicenceMore.l0 k1 t400 t403 y415 y423 (wrap64 (x11_1 - 1))) = some r := by first | (rw [hy423]; with_reducible exact H) | (have H2_ := (Option.bind_some _ _).symm.trans H; rw [hy423]; with_reducible exact H2_) | (have H2_ := (Option.bind_some _ _).symm.trans H; with_reducible exact H2_) | with_reducible exact H | (rw [hy423]; exact H) | exact H
                  have Ny423 := Aside0.mk hy423
                  clear hy423
                  have H' := Aside0.mk H
                  clear H
                  try go_wp2
                  have n0_ := Aside0.mk (Kd.N_drew HO_7.out)
                  have n1_ := Aside0.mk (Kd.R_drew HO_8.out)
                  have n2_ := Aside0.mk (Kd.R_drew HO_9.out)
                  have n3_ := Aside0.mk (Kd.R_drew HO_10.out)
                  have n4_ := Aside0.mk (below_drew1 HB.out)
                  clear HO_7
                  clear HO_8
                  clear HO_9
                  clear HO_10
                  clear HB
                  have HO_7 := n0_
                  have HO_8 := n1_
                  have HO_9 := n2_
                  have HO_10 := n3_
                  have HB := n4_
                  clear n0_ n1_ n2_ n3_ n4_
                  have p418 : 0 ≤ (x11_1 : Int) := of_decide_eq_true (by first | (with_reducible assumption) | assumption)
                  have q418 : x11_1 < (t403.length : Int) := of_decide_eq_true (by first | (with_reducible assumption) | assumption)
                  obtain ⟨ad418, e418, hx418_0⟩ := Kd.at_int (Kd.R_reads' HO_8.out).2.2 x11_1 p418 q418
                  cases e418
                  replace p418 := eq_true p418
                  replace q418 := eq_true q418
                  have p419 : 0 ≤ (x11_1 : Int) := of_decide_eq_true (by first | (with_reducible assumption) | assumption)
                  have q419 : x11_1 < (t403.length : Int) := of_decide_eq_true (by first | (with_reducible assumption) | assumption)
                  obtain ⟨ad419, e419, hx419_0⟩ := Kd.at_int (Kd.R_reads' HO_8.out).2.2 x11_1 p419 q419
                  obtain rfl : ad418 = ad419 := (by injection e419)
                  replace p419 := eq_true p419
                  replace q419 := eq_true q419
                  refine start_ (n := 12) (S := fun w' => w'.cell? (ad418.add (x11_1).toNat) = some (.int .i64 (rd t403 x11_1)) ∧ w'.cell? (ad418.add (x11_1).toNat) = some (.int .i64 (rd t403 x11_1))) (ds := [10]) #[false, false, false, false, false, false, false, false, false, false, false, false] (by kernel_rfl) rfl rfl ⟨hx418_0, hx419_0⟩ (fun hHeld => ?_); refine with_tabW splicerylaw41_LicenceMore.tab8 splicerylaw41_LicenceMore.bits8 (fun HT_ HW_ => ?_)
                  generalize wr.drew = w22 at HO_7 HO_8 HO_9 HO_10 HB hx418_0 hx419_0 hHeld ⊢
                  refine pure_ (i := 0) (N := some 31) (v := ?_) (a' := ?_) #[true, false, false, false, false, false, false, false, false, false, false, false] rfl rfl (any_of HT_.out (by kernel_rfl)) (fun _ _ _ h => h) (Or.inl ⟨by rfl, ?_⟩) ?_ ?_
                  rotate_left
                  · intro w'
                    go_simp
                    with_reducible rfl
                  rotate_left
                  · simp only [Act.put, List.setIfInBounds_toArray, List.set_cons_zero, List.set_cons_succ, i64_w, i32_w]
                    rfl
                  refine pure_ (i := 1) (N := some 32) (v := ?_) (a' := ?_) #[true, true, false, false, false, false, false, false, false, false, false, false] rfl rfl (any_of HT_.out (by kernel_rfl)) (fun _ _ _ h => h) (Or.inl ⟨by rfl, ?_⟩) ?_ ?_
                  rotate_left
                  · intro w'
                    go_simp
                    with_reducible rfl
                  rotate_left
                  · simp only [Act.put, List.setIfInBounds_toArray, List.set_cons_zero, List.set_cons_succ, i64_w, i32_w]
                    rfl
                  refine pure_ (i := 2) (N := some 33) (v := ?_) (a' := ?_) #[true, true, true, false, false, false, false, false, false, false, false, false] rfl rfl (any_of HT_.out (by kernel_rfl)) (fun _ _ _ h => h) (Or.inl ⟨by rfl, ?_⟩) ?_ ?_
                  rotate_left
                  · intro w'
                    go_simp
                    with_reducible rfl
                  rotate_left
                  · simp only [Act.put, List.setIfInBounds_toArray, List.set_cons_zero, List.set_cons_succ, i64_w, i32_w]
                    rfl
                  refine pure_ (i := 3) (N := some 34) (v := ?_) (a' := ?_) #[true, true, true, true, false, false, false, false, false, false, false, false] rfl rfl (any_of HT_.out (by kernel_rfl)) (fun _ _ _ h => h) (Or.inl ⟨by rfl, ?_⟩) ?_ ?_
                  rotate_left
                  · intro w'
                    go_simp
                    with_reducible rfl
                  rotate_left
                  · simp only [Act.put, List.setIfInBounds_toArray, List.set_cons_zero, List.set_cons_succ, i64_w, i32_w]
                    rfl
                  refine pure_ (i := 5) (N := some 36) (v := ?_) (a' := ?_) #[true, true, true, true, false, true, false, false, false, false, false, false] rfl rfl (any_of HT_.out (by kernel_rfl)) (fun _ _ _ h => h) (Or.inl ⟨by rfl, ?_⟩) ?_ ?_
                  rotate_left
                  · intro w'
                    go_simp
                    with_reducible rfl
                  rotate_left
                  · simp only [Act.put, List.setIfInBounds_toArray, List.set_cons_zero, List.set_cons_succ, i64_w, i32_w]
                    rfl
                  refine pure_ (i := 6) (N := some 37) (v := ?_) (a' := ?_) #[true, true, true, true, false, true, true, false, false, false, false, false] rfl rfl (any_of HT_.out (by kernel_rfl)) (fun _ _ _ h => h) (Or.inl ⟨by rfl, ?_⟩) ?_ ?_
                  rotate_left
                  · intro w'
                    go_simp
                    with_reducible rfl
                  rotate_left
                  · simp only [Act.put, List.setIfInBounds_toArray, List.set_cons_zero, List.set_cons_succ, i64_w, i32_w]
                    rfl
                  refine pure_ (i := 7) (N := some 38) (v := ?_) (a' := ?_) #[true, true, true, true, false, true, true, true, false, false, false, false] rfl rfl (any_of HT_.out (by kernel_rfl)) (fun _ _ _ h => h) (Or.inl ⟨by rfl, ?_⟩) ?_ ?_
                  rotate_left
                  · intro w'
                    go_simp
                    with_reducible rfl
                  rotate_left
                  · simp only [Act.put, List.setIfInBounds_toArray, List.set_cons_zero, List.set_cons_succ, i64_w, i32_w]
                    rfl
                  refine take_ (i := 4) (N := some 35) (v := ?_) (a' := ?_) #[true, true, true, true, true, true, true, true, false, false, false, false] rfl rfl (take_ofW HT_.out HW_.out (by kernel_rfl)) (fun _ _ _ h => h) (Or.inl ⟨by rfl, ?_⟩) hHeld ?_ ?_
                  rotate_left
                  · rintro w' ⟨s0, s1⟩
                    go_simp
                    with_reducible rfl
                  rotate_left
                  · simp only [Act.put, List.setIfInBounds_toArray, List.set_cons_zero, List.set_cons_succ, i64_w, i32_w]
                    rfl
                  refine take_ (i := 8) (N := some 39) (v := ?_) (a' := ?_) #[true, true, true, true, true, true, true, true, true, false, false, false] rfl rfl (take_ofW HT_.out HW_.out (by kernel_rfl)) (fun _ _ _ h => h) (Or.inl ⟨by rfl, ?_⟩) hHeld ?_ ?_
                  rotate_left
                  · rintro w' ⟨s0, s1⟩
                    go_simp
                    with_reducible rfl
                  rotate_left
                  · simp only [Act.put, List.setIfInBounds_toArray, List.set_cons_zero, List.set_cons_succ, i64_w, i32_w]
                    rfl
                  refine one_ (i := 9) (N := some 40) #[true, true, true, true, true, true, true, true, true, true, false, false] rfl rfl (one_of HT_.out (by kernel_rfl)) (by decide) (fun K hK => ?_)
                  refine Kd.R_lit_step (Kd.int .i64) _ 3 ?hg (N := 40) ?hd (xs := ([rd t403 x11_1, rd t403 x11_1] : List Int)) (inner := [.int .i64 (rd t403 x11_1), .int .i64 (rd t403 x11_1)]) (ok := fun _ => True) (okp := fun _ => True) ?hr ?hp (fun _ hk => hk) trivial (Below.refl _ _) (Nat.le_refl _) (by simp) ?_; (case hd => rfl); (case hg => rfl); (case hr => first | (go_simp; done) | (go_simp; rfl)); (case hp => exact (Reps.one (show Kd.M (Kd.int .i64) _ _ _ (rd t403 x11_1) [.int .i64 (rd t403 x11_1)] from rfl) (Reps.one (show Kd.M (Kd.int .i64) _ _ _ (rd t403 x11_1) [.int .i64 (rd t403 x11_1)] from rfl) (Reps.none _ _))))
                  intro v421 w23 ho24 hb hg_ hnew_
                  have HS0_ := (hb.cell (World.block_lt_of_cell? _ _ (hHeld.1))).trans (hHeld.1)
                  have HS1_ := (hb.cell (World.block_lt_of_cell? _ _ (hHeld.2))).trans (hHeld.2)
                  clear hg_ hnew_
                  (first | rw [← Ny420.out] at ho24 | (simp only [Int.reduceToNat] at ho24; rw [← Ny420.out] at ho24))
                  have n0_ := Aside0.mk (Kd.N_elder' (by (with_reducible repeat (first | apply Kd.N_alloc | apply Kd.N_drewN | apply Kd.N_drew)); exact HO_7.out) (Kd.R_base ho24) hb)
                  have n1_ := Aside0.mk (Kd.R_elder' (chR HO_8) (Kd.R_base ho24) hb)
                  have n2_ := Aside0.mk (Kd.R_elder' (chR HO_9) (Kd.R_base ho24) hb)
                  have n3_ := Aside0.mk (Kd.R_elder' (chR HO_10) (Kd.R_base ho24) hb)
                  have n4_ := Aside0.mk (Kd.R_lower (Kd.R_new' (Kd.R_new' (Kd.R_new' ho24 (Kd.R_lt (chR HO_8))) (Kd.R_lt (chR HO_9))) (Kd.R_lt (chR HO_10))) (below_size (chB HB)))
                  have n5_ := Aside0.mk (below_step (chB HB) hb)
                  clear HO_7
                  clear HO_8
                  clear HO_9
                  clear HO_10
                  clear HB
                  have HO_7 := n0_
                  have HO_8 := n1_
                  have HO_9 := n2_
                  have HO_10 := n3_
                  have HO422 := n4_
                  have HB := n5_
                  clear n0_ n1_ n2_ n3_ n4_ n5_
                  clear hb ho24
                  obtain ⟨Ao26, co26, eo26⟩ := Kd.R_slice HO422.out
                  (first | subst eo26 | (injection eo26 with f1_ f2_ f3_; have f4_ := f1_.symm; have f5_ := f3_.symm; clear f1_ f2_ f3_; subst f4_; subst f5_))
                  refine hK.out _ _ ⟨HS0_, HS1_⟩ (fun hHeld => ?_)
                  clear hK K
                  refine norm_ (a' := ?_) ?_ ?_
                  rotate_left
                  · show Act.put _ (some 40) _ = _
                    simp only [Act.put, List.setIfInBounds_toArray, List.set_cons_zero, List.set_cons_succ, i64_w, i32_w]
                    rfl
                  refine last_ (i := 10) (N := some 41) #[true, true, true, true, true, true, true, true, true, true, true, false] rfl rfl (one_of HT_.out (by kernel_rfl)) (by decide) (fun K hK => ?_)
                  refine Kd.R_append_rows_step (Kd.int .i64) (w0 := w) w.heap.size (by rfl) (.tmp 31) (.tmp 40) 22 3 (.int .i64 0) 8 rfl Try.underlying22 info3 rfl (by decide) (by omega) u10 x10_1 y420 _ _ _ (fun k_ => some k_ ≠ (.slice (some ad418) t403.length co14 : Value).ownBlock ∧ some k_ ≠ (v416 : Value).ownBlock ∧ some k_ ≠ (.slice Ao26 y420.length co26 : Value).ownBlock) (fun _ => False) rfl rfl ?aO ?aR (fun _ _ h => h) (fun _ h => h.elim) ?aF ?aB ?aS ?aL ?_
                  (case aR => repeat (first | exact (Kd.R_reads' HO422.out).2.2 | (with_reducible refine Kd.C_alloc ?_ _) | (with_reducible refine Kd.C_drewN ?_ _) | (with_reducible refine Kd.C_drew ?_)))
                  (case aB => exact (chB HB))
                  (case aF => exact (fun k_ hk => ⟨Kd.fresh' (Kd.R_lt (chR HO_8)) k_ hk, Kd.fresh' (Kd.R_lt (chR HO_9)) k_ hk, Kd.fresh' (Kd.R_lt (chR HO422)) k_ hk⟩))
                  (case aO => exact (by (with_reducible repeat (first | apply Kd.R_alloc | apply Kd.R_drewN | apply Kd.R_drew)); exact Kd.R_mono HO_10.out (fun _ hk => ⟨hk.1.1, ⟨hk.1.2, hk.2⟩⟩)))
                  (case aS => exact (below_size (chB HB)))
                  (case aL => have := LMc21.out; omega)
                  intro v424 w25 ho hb hg hat
                  rw [← Ny423.out] at ho
                  have n0_ := Aside0.mk (Kd.N_afterv (ok := (fun k_ => some k_ ≠ (.slice (some ad418) t403.length co14 : Value).ownBlock ∧ some k_ ≠ (v416 : Value).ownBlock ∧ some k_ ≠ (.slice Ao26 y420.length co26 : Value).ownBlock)) (by (with_reducible repeat (first | apply Kd.N_alloc | apply Kd.N_drewN | apply Kd.N_drew)); exact Kd.N_mono HO_7.out (fun _ hk => ⟨⟨hk.1.1, ⟨hk.1.2.1, hk.2⟩⟩, hk.1.2.2⟩)) hg hat)
                  have n1_ := Aside0.mk (Kd.R_after (ok := (fun k_ => some k_ ≠ (v416 : Value).ownBlock ∧ some k_ ≠ (.slice Ao26 y420.length co26 : Value).ownBlock)) (by (with_reducible repeat (first | apply Kd.R_alloc | apply Kd.R_drewN | apply Kd.R_drew)); exact Kd.R_mono HO_8.out (fun _ hk => ⟨⟨hk.1.1, hk.2⟩, hk.1.2⟩)) hg hat)
                  have n2_ := Aside0.mk (Kd.R_after (ok := (fun k_ => some k_ ≠ (.slice (some ad418) t403.length co14 : Value).ownBlock ∧ some k_ ≠ (.slice Ao26 y420.length co26 : Value).ownBlock)) (by (with_reducible repeat (first | apply Kd.R_alloc | apply Kd.R_drewN | apply Kd.R_drew)); exact Kd.R_mono HO_9.out (fun _ hk => ⟨⟨hk.1.1, hk.2⟩, hk.1.2⟩)) hg hat)
                  have n3_ := Aside0.mk (Kd.R_after (ok := (fun k_ => some k_ ≠ (.slice (some ad418) t403.length co14 : Value).ownBlock ∧ some k_ ≠ (v416 : Value).ownBlock)) (by (with_reducible repeat (first | apply Kd.R_alloc | apply Kd.R_drewN | apply Kd.R_drew)); exact Kd.R_mono HO422.out (fun _ hk => ⟨⟨hk.1.1.2, hk.1.2⟩, hk.2⟩)) hg hat)
                  have n4_ := Aside0.mk (hb)
                  have n5_ := Aside0.mk (ho)
                  clear HO_7
                  clear HO_8
                  clear HO_9
                  clear HO422
                  clear HB
                  clear HO_10
                  have HO_7 := n0_
                  have HO_8 := n1_
                  have HO_9 := n2_
                  have HO422 := n3_
                  have HB := n4_
                  have HO425 := n5_
                  clear n0_ n1_ n2_ n3_ n4_ n5_
                  clear ho hb hg hat
                  refine hK.out _ _ ?_
                  clear hK K
                  refine norm_ (a' := ?_) ?_ ?_
                  rotate_left
                  · show Act.put _ (some 41) _ = _
                    simp only [Act.put, List.setIfInBounds_toArray, List.set_cons_zero, List.set_cons_succ, i64_w, i32_w]
                    rfl
                  refine pure_ (i := 11) (N := some 10) (v := ?_) (a' := ?_) #[true, true, true, true, true, true, true, true, true, true, true, true] rfl rfl (any_of HT_.out (by kernel_rfl)) (fun _ _ _ h => h) (Or.inl ⟨by rfl, ?_⟩) ?_ ?_
                  rotate_left
                  · intro w'
                    go_simp
                    with_reducible rfl
                  rotate_left
                  · simp only [Act.put, List.setIfInBounds_toArray, List.set_cons_zero, List.set_cons_succ, i64_w, i32_w]
                    rfl
                  refine done_ (done_of HT_.out (by kernel_rfl)) ?_
                  try go_wp2
                  go_roundg k1
                  case measure => have := HK1.out; omega
                  case rel => exact ⟨(y423), (wrap64 (x11_1 - 1)), (by first | rfl | (simp; done) | (simp [*]; done)), H', ⟨by have := HK1.out; omega⟩, ⟨by (with_reducible repeat (first | apply Kd.N_alloc | apply Kd.N_drewN | apply Kd.N_drew)); exact Kd.N_mono HO_7.out (fun _ hk => ⟨hk.1.1, ⟨hk.1.2.1, hk.2⟩⟩)⟩, ⟨by (with_reducible repeat (first | apply Kd.R_alloc | apply Kd.R_drewN | apply Kd.R_drew)); exact Kd.R_mono HO_8.out (fun _ hk => ⟨hk.1.1, hk.2⟩)⟩, ⟨by (with_reducible repeat (first | apply Kd.R_alloc | apply Kd.R_drewN | apply Kd.R_drew)); exact Kd.R_mono HO_9.out (fun _ hk => ⟨hk.1.1, hk.2⟩)⟩, ⟨by (with_reducible repeat (first | apply Kd.R_alloc | apply Kd.R_drewN | apply Kd.R_drew)); exact Kd.R_mono HO425.out (fun _ hk => ⟨hk.1, hk.2.1⟩)⟩, ⟨chB HB⟩⟩
                · rw [if_neg c21] at H
                  exact absurd H (by simp)
              · rw [if_neg c20] at H
                exact absurd H (by simp)
            · rw [if_neg c19] at H
              exact absurd H (by simp)
          · rw [if_neg c18] at H
            have c18b0 : decide (0 ≤ x11_1) = false := decide_eq_false c18
            clear c18
            have HC27 := Aside0.mk H
            clear H
            go_upto_region 9 with (fail)
            go_cut [69] (fun v69 wc => ∃ (kq : Nat) (x69_26 : Bool), v69 = .bool x69_26 ∧ Aside0 (splicerylaw41_LicenceMore.j1 kq t400 y415 x69_26 = some r) ∧ Aside0 (kq ≤ k1) ∧ Aside0 (Kd.N k36 36 wc w.heap.size (fun k_ => some k_ ≠ (v416 : Value).ownBlock) v401 t400) ∧ Aside0 (Kd.R (Kd.int .i64) 3 wc w.heap.size (fun _ => True) v416 y415) ∧ Aside0 (Below w.heap.size w wc))
            case first =>
              have H := HC27.out
              clear HC27
              replace H := Option.bind_eq_some_iff.mp H
              obtain ⟨t426, A280, H⟩ := H
              replace H : (if t426 = true then ((licence_Fine.f t400 t403).bind fun t427 => (if t427 = true then ((licence_Fine.f t400 x10_1).bind fun t428 => ((licence_Fine.f t400 t403).bind fun t429 => (if (t428 != t429) = true then (splicerylaw41_LicenceMore.j1 k1 t400 y415 true) else ((licence_Core.f t400 x10_1).bind fun t430 => ((licence_Core.f t400 t403).bind fun t433 => ((spliceryref01_SameInts.f k1 t430 t433).bind fun t436 => (splicerylaw41_LicenceMore.j1 k1 t400 y415 (!t436)))))))) else (splicerylaw41_LicenceMore.j1 k1 t400 y415 true))) else ((licence_Fine.f t400 x10_1).bind fun t437 => ((licence_Fine.f t400 t403).bind fun t438 => (if (t437 != t438) = true then (splicerylaw41_LicenceMore.j1 k1 t400 y415 true) else ((licence_Core.f t400 x10_1).bind fun t439 => ((licence_Core.f t400 t403).bind fun t442 => ((spliceryref01_SameInts.f k1 t439 t442).bind fun t445 => (splicerylaw41_LicenceMore.j1 k1 t400 y415 (!t445))))))))) = some r := H
              have A28 := Aside0.mk A280
              clear A280
              by_cases c29 : t426 = true
              · subst c29
                have H1 : ((licence_Fine.f t400 t403).bind fun t427 => (if t427 = true then ((licence_Fine.f t400 x10_1).bind fun t428 => ((licence_Fine.f t400 t403).bind fun t429 => (if (t428 != t429) = true then (splicerylaw41_LicenceMore.j1 k1 t400 y415 true) else ((licence_Core.f t400 x10_1).bind fun t430 => ((licence_Core.f t400 t403).bind fun t433 => ((spliceryref01_SameInts.f k1 t430 t433).bind fun t436 => (splicerylaw41_LicenceMore.j1 k1 t400 y415 (!t436)))))))) else (splicerylaw41_LicenceMore.j1 k1 t400 y415 true))) = some r := by rw [if_pos rfl] at H; exact H
                clear H
                have H := H1
                clear H1
                replace H := Option.bind_eq_some_iff.mp H
                obtain ⟨t427, A300, H⟩ := H
                replace H : (if t427 = true then ((licence_Fine.f t400 x10_1).bind fun t428 => ((licence_Fine.f t400 t403).bind fun t429 => (if (t428 != t429) = true then (splicerylaw41_LicenceMore.j1 k1 t400 y415 true) else ((licence_Core.f t400 x10_1).bind fun t430 => ((licence_Core.f t400 t403).bind fun t433 => ((spliceryref01_SameInts.f k1 t430 t433).bind fun t436 => (splicerylaw41_LicenceMore.j1 k1 t400 y415 (!t436)))))))) else (splicerylaw41_LicenceMore.j1 k1 t400 y415 true)) = some r := H
                have A30 := Aside0.mk A300
                clear A300
                by_cases c31 : t427 = true
                · subst c31
                  have H1 : ((licence_Fine.f t400 x10_1).bind fun t428 => ((licence_Fine.f t400 t403).bind fun t429 => (if (t428 != t429) = true then (splicerylaw41_LicenceMore.j1 k1 t400 y415 true) else ((licence_Core.f t400 x10_1).bind fun t430 => ((licence_Core.f t400 t403).bind fun t433 => ((spliceryref01_SameInts.f k1 t430 t433).bind fun t436 => (splicerylaw41_LicenceMore.j1 k1 t400 y415 (!t436)))))))) = some r := by rw [if_pos rfl] at H; exact H
                  clear H
                  have H := H1
                  clear H1
                  replace H := Option.bind_eq_some_iff.mp H
                  obtain ⟨t428, A320, H⟩ := H
                  replace H : ((licence_Fine.f t400 t403).bind fun t429 => (if (t428 != t429) = true then (splicerylaw41_LicenceMore.j1 k1 t400 y415 true) else ((licence_Core.f t400 x10_1).bind fun t430 => ((licence_Core.f t400 t403).bind fun t433 => ((spliceryref01_SameInts.f k1 t430 t433).bind fun t436 => (splicerylaw41_LicenceMore.j1 k1 t400 y415 (!t436))))))) = some r := H
                  have A32 := Aside0.mk A320
                  clear A320
                  replace H := Option.bind_eq_some_iff.mp H
                  obtain ⟨t429, A330, H⟩ := H
                  replace H : (if (t428 != t429) = true then (splicerylaw41_LicenceMore.j1 k1 t400 y415 true) else ((licence_Core.f t400 x10_1).bind fun t430 => ((licence_Core.f t400 t403).bind fun t433 => ((spliceryref01_SameInts.f k1 t430 t433).bind fun t436 => (splicerylaw41_LicenceMore.j1 k1 t400 y415 (!t436)))))) = some r := H
                  have A33 := Aside0.mk A330
                  clear A330
                  by_cases c34 : (t428 != t429) = true
                  · rw [if_pos c34] at H
                    have c34b0 : (t428 != t429) = true := c34
                    (try (have c34b1 : decide (t428 = t429) = false := by simpa using c34))
                    (try (have c34b2 : (t428 == t429) = false := by simpa using c34))
                    (try (have c34b3 : ¬ (t428 = t429) := by simpa using c34))
                    clear c34
                    (first | rw [c34b0] | (simp only [i64_w, i32_w]; rw [c34b0]) | skip)
                    have H' := Aside0.mk H
                    clear H
                    obtain ⟨Ao35, co35, eo35⟩ := Kd.N_slice HO_7.out
                    subst eo35
                    obtain ⟨Ao36, co36, eo36⟩ := Kd.R_slice HO_9.out
                    subst eo36
                    go_wp2_with (first | ((with_reducible refine gate_callee (f := 13) rfl ?_); refine goesL_ (some 44) rfl rfl Try.func13 (by kernel_rfl) rfl #[.slice Ao35 t400.length co35, .slice Ao36 y415.length co36] rfl (by (try simp only [List.map_toArray, List.map_cons, List.map_nil]); first | done | rfl | (simp only [List.length_drop, List.length_take]; rfl)) ?_; (with_reducible refine (licence_Fine.calls _ _ t400 _ _ y415 true _ ?side1 ?side2 ?side3 ?side4 A28.out).mono ?_); (case side1 => repeat (first | exact (Kd.N_reads' HO_7.out).2.2 | (with_reducible refine Kd.C_alloc ?_ _) | (with_reducible refine Kd.C_drewN ?_ _) | (with_reducible refine Kd.C_drew ?_))); (case side2 => exact (Kd.N_reads' HO_7.out).2.1); (case side3 => repeat (first | exact (Kd.R_reads' HO_9.out).2.2 | (with_reducible refine Kd.C_alloc ?_ _) | (with_reducible refine Kd.C_drewN ?_ _) | (with_reducible refine Kd.C_drew ?_))); (case side4 => exact (Kd.R_reads' HO_9.out).2.1); rintro e w37 ⟨rfl, hb⟩; refine ⟨_, rfl, ?_⟩; have n0_ := Aside0.mk (Kd.N_below (by (with_reducible repeat (first | apply Kd.N_alloc | apply Kd.N_drewN | apply Kd.N_drew)); exact HO_7.out) hb); have n1_ := Aside0.mk (Kd.R_below (chR HO_8) hb); have n2_ := Aside0.mk (Kd.R_below (chR HO_9) hb); have n3_ := Aside0.mk (Kd.R_below (chR HO_10) hb); have n4_ := Aside0.mk (below_step (chB HB) hb); clear HO_7; clear HO_8; clear HO_9; clear HO_10; clear HB; have HO_7 := n0_; have HO_8 := n1_; have HO_9 := n2_; have HO_10 := n3_; have HB := n4_; clear n0_ n1_ n2_ n3_ n4_; (try clear hb); (try clear hb2); (try clear hk); (try clear hi)) | (go_at_call 13; (with_reducible refine (licence_Fine.calls _ _ t400 _ _ t403 true _ ?side1 ?side2 ?side3 ?side4 A30.out).mono ?_); (case side1 => repeat (first | exact (Kd.N_reads' HO_7.out).2.2 | (with_reducible refine Kd.C_alloc ?_ _) | (with_reducible refine Kd.C_drewN ?_ _) | (with_reducible refine Kd.C_drew ?_))); (case side2 => exact (Kd.N_reads' HO_7.out).2.1); (case side3 => repeat (first | exact (Kd.R_reads' HO_8.out).2.2 | (with_reducible refine Kd.C_alloc ?_ _) | (with_reducible refine Kd.C_drewN ?_ _) | (with_reducible refine Kd.C_drew ?_))); (case side4 => exact (Kd.R_reads' HO_8.out).2.1); rintro e w38 ⟨rfl, hb⟩; have n0_ := Aside0.mk (Kd.N_below (by (with_reducible repeat (first | apply Kd.N_alloc | apply Kd.N_drewN | apply Kd.N_drew)); exact HO_7.out) hb); have n1_ := Aside0.mk (Kd.R_below (chR HO_8) hb); have n2_ := Aside0.mk (Kd.R_below (chR HO_9) hb); have n3_ := Aside0.mk (Kd.R_below (chR HO_10) hb); have n4_ := Aside0.mk (below_step (chB HB) hb); clear HO_7; clear HO_8; clear HO_9; clear HO_10; clear HB; have HO_7 := n0_; have HO_8 := n1_; have HO_9 := n2_; have HO_10 := n3_; have HB := n4_; clear n0_ n1_ n2_ n3_ n4_; (try clear hb); (try clear hb2); (try clear hk); (try clear hi); obtain ⟨Ao39, co39, eo39⟩ := Kd.R_slice HO_10.out; subst eo39) | (go_at_call 13; (with_reducible refine (licence_Fine.calls _ _ t400 _ _ x10_1 t428 _ ?side1 ?side2 ?side3 ?side4 A32.out).mono ?_); (case side1 => repeat (first | exact (Kd.N_reads' HO_7.out).2.2 | (with_reducible refine Kd.C_alloc ?_ _) | (with_reducible refine Kd.C_drewN ?_ _) | (with_reducible refine Kd.C_drew ?_))); (case side2 => exact (Kd.N_reads' HO_7.out).2.1); (case side3 => repeat (first | exact (Kd.R_reads' HO_10.out).2.2 | (with_reducible refine Kd.C_alloc ?_ _) | (with_reducible refine Kd.C_drewN ?_ _) | (with_reducible refine Kd.C_drew ?_))); (case side4 => exact (Kd.R_reads' HO_10.out).2.1); rintro e w40 ⟨rfl, hb⟩; have n0_ := Aside0.mk (Kd.N_below (by (with_reducible repeat (first | apply Kd.N_alloc | apply Kd.N_drewN | apply Kd.N_drew)); exact HO_7.out) hb); have n1_ := Aside0.mk (Kd.R_below (chR HO_8) hb); have n2_ := Aside0.mk (Kd.R_below (chR HO_9) hb); have n3_ := Aside0.mk (Kd.R_below (chR HO_10) hb); have n4_ := Aside0.mk (below_step (chB HB) hb); clear HO_7; clear HO_8; clear HO_9; clear HO_10; clear HB; have HO_7 := n0_; have HO_8 := n1_; have HO_9 := n2_; have HO_10 := n3_; have HB := n4_; clear n0_ n1_ n2_ n3_ n4_; (try clear hb); (try clear hb2); (try clear hk); (try clear hi)) | (go_at_call 13; (with_reducible refine (licence_Fine.calls _ _ t400 _ _ t403 t429 _ ?side1 ?side2 ?side3 ?side4 A33.out).mono ?_); (case side1 => repeat (first | exact (Kd.N_reads' HO_7.out).2.2 | (with_reducible refine Kd.C_alloc ?_ _) | (with_reducible refine Kd.C_drewN ?_ _) | (with_reducible refine Kd.C_drew ?_))); (case side2 => exact (Kd.N_reads' HO_7.out).2.1); (case side3 => repeat (first | exact (Kd.R_reads' HO_8.out).2.2 | (with_reducible refine Kd.C_alloc ?_ _) | (with_reducible refine Kd.C_drewN ?_ _) | (with_reducible refine Kd.C_drew ?_))); (case side4 => exact (Kd.R_reads' HO_8.out).2.1); rintro e w41 ⟨rfl, hb⟩; have n0_ := Aside0.mk (Kd.N_below (by (with_reducible repeat (first | apply Kd.N_alloc | apply Kd.N_drewN | apply Kd.N_drew)); exact HO_7.out) hb); have n1_ := Aside0.mk (Kd.R_below (chR HO_8) hb); have n2_ := Aside0.mk (Kd.R_below (chR HO_9) hb); have n3_ := Aside0.mk (Kd.R_below (chR HO_10) hb); have n4_ := Aside0.mk (below_step (chB HB) hb); clear HO_7; clear HO_8; clear HO_9; clear HO_10; clear HB; have HO_7 := n0_; have HO_8 := n1_; have HO_9 := n2_; have HO_10 := n3_; have HB := n4_; clear n0_ n1_ n2_ n3_ n4_; (try clear hb); (try clear hb2); (try clear hk); (try clear hi)))
                    go_meet
                    case rel => exact ⟨_, (true), (by first | rfl | (simp; done) | (simp [*]; done)), H', ⟨by have := HK1.out; first | omega | exact Nat.le_refl _⟩, ⟨by (with_reducible repeat (first | apply Kd.N_alloc | apply Kd.N_drewN | apply Kd.N_drew)); exact Kd.N_mono HO_7.out (fun _ hk => hk.2.1)⟩, ⟨by (with_reducible repeat (first | apply Kd.R_alloc | apply Kd.R_drewN | apply Kd.R_drew)); exact Kd.R_mono HO_9.out (fun _ hk => trivial)⟩, ⟨chB HB⟩⟩
                  · rw [if_neg c34] at H
                    have c34b0 : (t428 != t429) = false := by simpa using c34
                    (try (have c34b1 : decide (t428 = t429) = true := by simpa using c34))
                    (try (have c34b2 : (t428 == t429) = true := by simpa using c34))
                    clear c34
                    (first | rw [c34b0] | (simp only [i64_w, i32_w]; rw [c34b0]) | skip)
                    replace H := Option.bind_eq_some_iff.mp H
                    obtain ⟨t430, A420, H⟩ := H
                    replace H : ((licence_Core.f t400 t403).bind fun t433 => ((spliceryref01_SameInts.f k1 t430 t433).bind fun t436 => (splicerylaw41_LicenceMore.j1 k1 t400 y415 (!t436)))) = some r := H
                    have A42 := Aside0.mk A420
                    clear A420
                    replace H := Option.bind_eq_some_iff.mp H
                    obtain ⟨t433, A430, H⟩ := H
                    replace H : ((spliceryref01_SameInts.f k1 t430 t433).bind fun t436 => (splicerylaw41_LicenceMore.j1 k1 t400 y415 (!t436))) = some r := H
                    have A43 := Aside0.mk A430
                    clear A430
                    replace H := Option.bind_eq_some_iff.mp H
                    obtain ⟨t436, A440, H⟩ := H
                    replace H : (splicerylaw41_LicenceMore.j1 k1 t400 y415 (!t436)) = some r := H
                    have A44 := Aside0.mk A440
                    clear A440
                    have H' := Aside0.mk H
                    clear H
                    obtain ⟨Ao45, co45, eo45⟩ := Kd.N_slice HO_7.out
                    subst eo45
                    obtain ⟨Ao46, co46, eo46⟩ := Kd.R_slice HO_9.out
                    subst eo46
                    go_wp2_with (first | ((with_reducible refine gate_callee (f := 13) rfl ?_); refine goesL_ (some 44) rfl rfl Try.func13 (by kernel_rfl) rfl #[.slice Ao45 t400.length co45, .slice Ao46 y415.length co46] rfl (by (try simp only [List.map_toArray, List.map_cons, List.map_nil]); first | done | rfl | (simp only [List.length_drop, List.length_take]; rfl)) ?_; (with_reducible refine (licence_Fine.calls _ _ t400 _ _ y415 true _ ?side1 ?side2 ?side3 ?side4 A28.out).mono ?_); (case side1 => repeat (first | exact (Kd.N_reads' HO_7.out).2.2 | (with_reducible refine Kd.C_alloc ?_ _) | (with_reducible refine Kd.C_drewN ?_ _) | (with_reducible refine Kd.C_drew ?_))); (case side2 => exact (Kd.N_reads' HO_7.out).2.1); (case side3 => repeat (first | exact (Kd.R_reads' HO_9.out).2.2 | (with_reducible refine Kd.C_alloc ?_ _) | (with_reducible refine Kd.C_drewN ?_ _) | (with_reducible refine Kd.C_drew ?_))); (case side4 => exact (Kd.R_reads' HO_9.out).2.1); rintro e w47 ⟨rfl, hb⟩; refine ⟨_, rfl, ?_⟩; have n0_ := Aside0.mk (Kd.N_below (by (with_reducible repeat (first | apply Kd.N_alloc | apply Kd.N_drewN | apply Kd.N_drew)); exact HO_7.out) hb); have n1_ := Aside0.mk (Kd.R_below (chR HO_8) hb); have n2_ := Aside0.mk (Kd.R_below (chR HO_9) hb); have n3_ := Aside0.mk (Kd.R_below (chR HO_10) hb); have n4_ := Aside0.mk (below_step (chB HB) hb); clear HO_7; clear HO_8; clear HO_9; clear HO_10; clear HB; have HO_7 := n0_; have HO_8 := n1_; have HO_9 := n2_; have HO_10 := n3_; have HB := n4_; clear n0_ n1_ n2_ n3_ n4_; (try clear hb); (try clear hb2); (try clear hk); (try clear hi)) | (go_at_call 13; (with_reducible refine (licence_Fine.calls _ _ t400 _ _ t403 true _ ?side1 ?side2 ?side3 ?side4 A30.out).mono ?_); (case side1 => repeat (first | exact (Kd.N_reads' HO_7.out).2.2 | (with_reducible refine Kd.C_alloc ?_ _) | (with_reducible refine Kd.C_drewN ?_ _) | (with_reducible refine Kd.C_drew ?_))); (case side2 => exact (Kd.N_reads' HO_7.out).2.1); (case side3 => repeat (first | exact (Kd.R_reads' HO_8.out).2.2 | (with_reducible refine Kd.C_alloc ?_ _) | (with_reducible refine Kd.C_drewN ?_ _) | (with_reducible refine Kd.C_drew ?_))); (case side4 => exact (Kd.R_reads' HO_8.out).2.1); rintro e w48 ⟨rfl, hb⟩; have n0_ := Aside0.mk (Kd.N_below (by (with_reducible repeat (first | apply Kd.N_alloc | apply Kd.N_drewN | apply Kd.N_drew)); exact HO_7.out) hb); have n1_ := Aside0.mk (Kd.R_below (chR HO_8) hb); have n2_ := Aside0.mk (Kd.R_below (chR HO_9) hb); have n3_ := Aside0.mk (Kd.R_below (chR HO_10) hb); have n4_ := Aside0.mk (below_step (chB HB) hb); clear HO_7; clear HO_8; clear HO_9; clear HO_10; clear HB; have HO_7 := n0_; have HO_8 := n1_; have HO_9 := n2_; have HO_10 := n3_; have HB := n4_; clear n0_ n1_ n2_ n3_ n4_; (try clear hb); (try clear hb2); (try clear hk); (try clear hi); obtain ⟨Ao49, co49, eo49⟩ := Kd.R_slice HO_10.out; subst eo49) | (go_at_call 13; (with_reducible refine (licence_Fine.calls _ _ t400 _ _ x10_1 t428 _ ?side1 ?side2 ?side3 ?side4 A32.out).mono ?_); (case side1 => repeat (first | exact (Kd.N_reads' HO_7.out).2.2 | (with_reducible refine Kd.C_alloc ?_ _) | (with_reducible refine Kd.C_drewN ?_ _) | (with_reducible refine Kd.C_drew ?_))); (case side2 => exact (Kd.N_reads' HO_7.out).2.1); (case side3 => repeat (first | exact (Kd.R_reads' HO_10.out).2.2 | (with_reducible refine Kd.C_alloc ?_ _) | (with_reducible refine Kd.C_drewN ?_ _) | (with_reducible refine Kd.C_drew ?_))); (case side4 => exact (Kd.R_reads' HO_10.out).2.1); rintro e w50 ⟨rfl, hb⟩; have n0_ := Aside0.mk (Kd.N_below (by (with_reducible repeat (first | apply Kd.N_alloc | apply Kd.N_drewN | apply Kd.N_drew)); exact HO_7.out) hb); have n1_ := Aside0.mk (Kd.R_below (chR HO_8) hb); have n2_ := Aside0.mk (Kd.R_below (chR HO_9) hb); have n3_ := Aside0.mk (Kd.R_below (chR HO_10) hb); have n4_ := Aside0.mk (below_step (chB HB) hb); clear HO_7; clear HO_8; clear HO_9; clear HO_10; clear HB; have HO_7 := n0_; have HO_8 := n1_; have HO_9 := n2_; have HO_10 := n3_; have HB := n4_; clear n0_ n1_ n2_ n3_ n4_; (try clear hb); (try clear hb2); (try clear hk); (try clear hi)) | (go_at_call 13; (with_reducible refine (licence_Fine.calls _ _ t400 _ _ t403 t429 _ ?side1 ?side2 ?side3 ?side4 A33.out).mono ?_); (case side1 => repeat (first | exact (Kd.N_reads' HO_7.out).2.2 | (with_reducible refine Kd.C_alloc ?_ _) | (with_reducible refine Kd.C_drewN ?_ _) | (with_reducible refine Kd.C_drew ?_))); (case side2 => exact (Kd.N_reads' HO_7.out).2.1); (case side3 => repeat (first | exact (Kd.R_reads' HO_8.out).2.2 | (with_reducible refine Kd.C_alloc ?_ _) | (with_reducible refine Kd.C_drewN ?_ _) | (with_reducible refine Kd.C_drew ?_))); (case side4 => exact (Kd.R_reads' HO_8.out).2.1); rintro e w51 ⟨rfl, hb⟩; have n0_ := Aside0.mk (Kd.N_below (by (with_reducible repeat (first | apply Kd.N_alloc | apply Kd.N_drewN | apply Kd.N_drew)); exact HO_7.out) hb); have n1_ := Aside0.mk (Kd.R_below (chR HO_8) hb); have n2_ := Aside0.mk (Kd.R_below (chR HO_9) hb); have n3_ := Aside0.mk (Kd.R_below (chR HO_10) hb); have n4_ := Aside0.mk (below_step (chB HB) hb); clear HO_7; clear HO_8; clear HO_9; clear HO_10; clear HB; have HO_7 := n0_; have HO_8 := n1_; have HO_9 := n2_; have HO_10 := n3_; have HB := n4_; clear n0_ n1_ n2_ n3_ n4_; (try clear hb); (try clear hb2); (try clear hk); (try clear hi)) | (go_at_call 18; (with_reducible refine (licence_Core.calls _ _ t400 _ _ x10_1 t430 _ ?side1 ?side2 ?side3 ?side4 A42.out).mono ?_); (case side1 => repeat (first | exact (Kd.N_reads' HO_7.out).2.2 | (with_reducible refine Kd.C_alloc ?_ _) | (with_reducible refine Kd.C_drewN ?_ _) | (with_reducible refine Kd.C_drew ?_))); (case side2 => exact (Kd.N_reads' HO_7.out).2.1); (case side3 => repeat (first | exact (Kd.R_reads' HO_10.out).2.2 | (with_reducible refine Kd.C_alloc ?_ _) | (with_reducible refine Kd.C_drewN ?_ _) | (with_reducible refine Kd.C_drew ?_))); (case side4 => exact (Kd.R_reads' HO_10.out).2.1); rintro e w52 ⟨v431, rfl, ho0, hb⟩; have n0_ := Aside0.mk (Kd.N_elder' (by (with_reducible repeat (first | apply Kd.N_alloc | apply Kd.N_drewN | apply Kd.N_drew)); exact HO_7.out) (Kd.R_base ho0) hb); have n1_ := Aside0.mk (Kd.R_elder' (chR HO_8) (Kd.R_base ho0) hb); have n2_ := Aside0.mk (Kd.R_elder' (chR HO_9) (Kd.R_base ho0) hb); have n3_ := Aside0.mk (Kd.R_elder' (chR HO_10) (Kd.R_base ho0) hb); have n4_ := Aside0.mk (Kd.R_lower (Kd.R_new' (Kd.R_new' (Kd.R_new' ho0 (Kd.R_lt (chR HO_8))) (Kd.R_lt (chR HO_9))) (Kd.R_lt (chR HO_10))) (below_size (chB HB))); have n5_ := Aside0.mk (below_step (chB HB) hb); clear HO_7; clear HO_8; clear HO_9; clear HO_10; clear HB; have HO_7 := n0_; have HO_8 := n1_; have HO_9 := n2_; have HO_10 := n3_; have HO432 := n4_; have HB := n5_; clear n0_ n1_ n2_ n3_ n4_ n5_; (try clear hb); (try clear hb2); (try clear hk); (try clear hi); (try clear ho0)) | (go_at_call 18; (with_reducible refine (licence_Core.calls _ _ t400 _ _ t403 t433 _ ?side1 ?side2 ?side3 ?side4 A43.out).mono ?_); (case side1 => repeat (first | exact (Kd.N_reads' HO_7.out).2.2 | (with_reducible refine Kd.C_alloc ?_ _) | (with_reducible refine Kd.C_drewN ?_ _) | (with_reducible refine Kd.C_drew ?_))); (case side2 => exact (Kd.N_reads' HO_7.out).2.1); (case side3 => repeat (first | exact (Kd.R_reads' HO_8.out).2.2 | (with_reducible refine Kd.C_alloc ?_ _) | (with_reducible refine Kd.C_drewN ?_ _) | (with_reducible refine Kd.C_drew ?_))); (case side4 => exact (Kd.R_reads' HO_8.out).2.1); rintro e w53 ⟨v434, rfl, ho0, hb⟩; have n0_ := Aside0.mk (Kd.N_elder' (by (with_reducible repeat (first | apply Kd.N_alloc | apply Kd.N_drewN | apply Kd.N_drew)); exact HO_7.out) (Kd.R_base ho0) hb); have n1_ := Aside0.mk (Kd.R_elder' (chR HO_8) (Kd.R_base ho0) hb); have n2_ := Aside0.mk (Kd.R_elder' (chR HO_9) (Kd.R_base ho0) hb); have n3_ := Aside0.mk (Kd.R_elder' (chR HO_10) (Kd.R_base ho0) hb); have n4_ := Aside0.mk (Kd.R_elder' (chR HO432) (Kd.R_base ho0) hb); have n5_ := Aside0.mk (Kd.R_lower (Kd.R_new' (Kd.R_new' (Kd.R_new' (Kd.R_new' ho0 (Kd.R_lt (chR HO_8))) (Kd.R_lt (chR HO_9))) (Kd.R_lt (chR HO_10))) (Kd.R_lt (chR HO432))) (below_size (chB HB))); have n6_ := Aside0.mk (below_step (chB HB) hb); clear HO_7; clear HO_8; clear HO_9; clear HO_10; clear HO432; clear HB; have HO_7 := n0_; have HO_8 := n1_; have HO_9 := n2_; have HO_10 := n3_; have HO432 := n4_; have HO435 := n5_; have HB := n6_; clear n0_ n1_ n2_ n3_ n4_ n5_ n6_; (try clear hb); (try clear hb2); (try clear hk); (try clear hi); (try clear ho0); obtain ⟨Ao54, co54, eo54⟩ := Kd.R_slice HO432.out; subst eo54; obtain ⟨Ao55, co55, eo55⟩ := Kd.R_slice HO435.out; subst eo55) | (go_at_call 17; (with_reducible refine (spliceryref01_SameInts.calls k1 _ _ t430 _ _ t433 t436 _ ?side1 ?side2 ?side3 ?side4 A44.out).mono ?_); (case side1 => repeat (first | exact (Kd.R_reads' HO432.out).2.2 | (with_reducible refine Kd.C_alloc ?_ _) | (with_reducible refine Kd.C_drewN ?_ _) | (with_reducible refine Kd.C_drew ?_))); (case side2 => exact (Kd.R_reads' HO432.out).2.1); (case side3 => repeat (first | exact (Kd.R_reads' HO435.out).2.2 | (with_reducible refine Kd.C_alloc ?_ _) | (with_reducible refine Kd.C_drewN ?_ _) | (with_reducible refine Kd.C_drew ?_))); (case side4 => exact (Kd.R_reads' HO435.out).2.1); rintro e w' ⟨rfl, ⟨nd, rfl⟩⟩))
                    go_meet
                    case rel => exact ⟨_, (!t436), (by first | rfl | (simp; done) | (simp [*]; done)), H', ⟨by have := HK1.out; first | omega | exact Nat.le_refl _⟩, ⟨by (with_reducible repeat (first | apply Kd.N_alloc | apply Kd.N_drewN | apply Kd.N_drew)); exact Kd.N_mono HO_7.out (fun _ hk => hk.1.1.2.1)⟩, ⟨by (with_reducible repeat (first | apply Kd.R_alloc | apply Kd.R_drewN | apply Kd.R_drew)); exact Kd.R_mono HO_9.out (fun _ hk => trivial)⟩, ⟨chB HB⟩⟩
                · replace c31 := Bool.eq_false_iff.mpr c31
                  subst c31
                  have H1 : (splicerylaw41_LicenceMore.j1 k1 t400 y415 true) = some r := by rw [if_neg (show ¬ (false = true) by decide)] at H; exact H
                  clear H
                  have H := H1
                  clear H1
                  have H' := Aside0.mk H
                  clear H
                  obtain ⟨Ao56, co56, eo56⟩ := Kd.N_slice HO_7.out
                  subst eo56
                  obtain ⟨Ao57, co57, eo57⟩ := Kd.R_slice HO_9.out
                  subst eo57
                  go_wp2_with (first | ((with_reducible refine gate_callee (f := 13) rfl ?_); refine goesL_ (some 44) rfl rfl Try.func13 (by kernel_rfl) rfl #[.slice Ao56 t400.length co56, .slice Ao57 y415.length co57] rfl (by (try simp only [List.map_toArray, List.map_cons, List.map_nil]); first | done | rfl | (simp only [List.length_drop, List.length_take]; rfl)) ?_; (with_reducible refine (licence_Fine.calls _ _ t400 _ _ y415 true _ ?side1 ?side2 ?side3 ?side4 A28.out).mono ?_); (case side1 => repeat (first | exact (Kd.N_reads' HO_7.out).2.2 | (with_reducible refine Kd.C_alloc ?_ _) | (with_reducible refine Kd.C_drewN ?_ _) | (with_reducible refine Kd.C_drew ?_))); (case side2 => exact (Kd.N_reads' HO_7.out).2.1); (case side3 => repeat (first | exact (Kd.R_reads' HO_9.out).2.2 | (with_reducible refine Kd.C_alloc ?_ _) | (with_reducible refine Kd.C_drewN ?_ _) | (with_reducible refine Kd.C_drew ?_))); (case side4 => exact (Kd.R_reads' HO_9.out).2.1); rintro e w58 ⟨rfl, hb⟩; refine ⟨_, rfl, ?_⟩; have n0_ := Aside0.mk (Kd.N_below (by (with_reducible repeat (first | apply Kd.N_alloc | apply Kd.N_drewN | apply Kd.N_drew)); exact HO_7.out) hb); have n1_ := Aside0.mk (Kd.R_below (chR HO_8) hb); have n2_ := Aside0.mk (Kd.R_below (chR HO_9) hb); have n3_ := Aside0.mk (Kd.R_below (chR HO_10) hb); have n4_ := Aside0.mk (below_step (chB HB) hb); clear HO_7; clear HO_8; clear HO_9; clear HO_10; clear HB; have HO_7 := n0_; have HO_8 := n1_; have HO_9 := n2_; have HO_10 := n3_; have HB := n4_; clear n0_ n1_ n2_ n3_ n4_; (try clear hb); (try clear hb2); (try clear hk); (try clear hi)) | (go_at_call 13; (with_reducible refine (licence_Fine.calls _ _ t400 _ _ t403 false _ ?side1 ?side2 ?side3 ?side4 A30.out).mono ?_); (case side1 => repeat (first | exact (Kd.N_reads' HO_7.out).2.2 | (with_reducible refine Kd.C_alloc ?_ _) | (with_reducible refine Kd.C_drewN ?_ _) | (with_reducible refine Kd.C_drew ?_))); (case side2 => exact (Kd.N_reads' HO_7.out).2.1); (case side3 => repeat (first | exact (Kd.R_reads' HO_8.out).2.2 | (with_reducible refine Kd.C_alloc ?_ _) | (with_reducible refine Kd.C_drewN ?_ _) | (with_reducible refine Kd.C_drew ?_))); (case side4 => exact (Kd.R_reads' HO_8.out).2.1); rintro e w59 ⟨rfl, hb⟩; have n0_ := Aside0.mk (Kd.N_below (by (with_reducible repeat (first | apply Kd.N_alloc | apply Kd.N_drewN | apply Kd.N_drew)); exact HO_7.out) hb); have n1_ := Aside0.mk (Kd.R_below (chR HO_8) hb); have n2_ := Aside0.mk (Kd.R_below (chR HO_9) hb); have n3_ := Aside0.mk (Kd.R_below (chR HO_10) hb); have n4_ := Aside0.mk (below_step (chB HB) hb); clear HO_7; clear HO_8; clear HO_9; clear HO_10; clear HB; have HO_7 := n0_; have HO_8 := n1_; have HO_9 := n2_; have HO_10 := n3_; have HB := n4_; clear n0_ n1_ n2_ n3_ n4_; (try clear hb); (try clear hb2); (try clear hk); (try clear hi)))
                  go_meet
                  case rel => exact ⟨_, (true), (by first | rfl | (simp; done) | (simp [*]; done)), H', ⟨by have := HK1.out; first | omega | exact Nat.le_refl _⟩, ⟨by (with_reducible repeat (first | apply Kd.N_alloc | apply Kd.N_drewN | apply Kd.N_drew)); exact Kd.N_mono HO_7.out (fun _ hk => hk.2.1)⟩, ⟨by (with_reducible repeat (first | apply Kd.R_alloc | apply Kd.R_drewN | apply Kd.R_drew)); exact Kd.R_mono HO_9.out (fun _ hk => trivial)⟩, ⟨chB HB⟩⟩
              · replace c29 := Bool.eq_false_iff.mpr c29
                subst c29
                have H1 : ((licence_Fine.f t400 x10_1).bind fun t437 => ((licence_Fine.f t400 t403).bind fun t438 => (if (t437 != t438) = true then (splicerylaw41_LicenceMore.j1 k1 t400 y415 true) else ((licence_Core.f t400 x10_1).bind fun t439 => ((licence_Core.f t400 t403).bind fun t442 => ((spliceryref01_SameInts.f k1 t439 t442).bind fun t445 => (splicerylaw41_LicenceMore.j1 k1 t400 y415 (!t445)))))))) = some r := by rw [if_neg (show ¬ (false = true) by decide)] at H; exact H
                clear H
                have H := H1
                clear H1
                replace H := Option.bind_eq_some_iff.mp H
                obtain ⟨t437, A600, H⟩ := H
                replace H : ((licence_Fine.f t400 t403).bind fun t438 => (if (t437 != t438) = true then (splicerylaw41_LicenceMore.j1 k1 t400 y415 true) else ((licence_Core.f t400 x10_1).bind fun t439 => ((licence_Core.f t400 t403).bind fun t442 => ((spliceryref01_SameInts.f k1 t439 t442).bind fun t445 => (splicerylaw41_LicenceMore.j1 k1 t400 y415 (!t445))))))) = some r := H
                have A60 := Aside0.mk A600
                clear A600
                replace H := Option.bind_eq_some_iff.mp H
                obtain ⟨t438, A610, H⟩ := H
                replace H : (if (t437 != t438) = true then (splicerylaw41_LicenceMore.j1 k1 t400 y415 true) else ((licence_Core.f t400 x10_1).bind fun t439 => ((licence_Core.f t400 t403).bind fun t442 => ((spliceryref01_SameInts.f k1 t439 t442).bind fun t445 => (splicerylaw41_LicenceMore.j1 k1 t400 y415 (!t445)))))) = some r := H
                have A61 := Aside0.mk A610
                clear A610
                by_cases c62 : (t437 != t438) = true
                · rw [if_pos c62] at H
                  have c62b0 : (t437 != t438) = true := c62
                  (try (have c62b1 : decide (t437 = t438) = false := by simpa using c62))
                  (try (have c62b2 : (t437 == t438) = false := by simpa using c62))
                  (try (have c62b3 : ¬ (t437 = t438) := by simpa using c62))
                  clear c62
                  have H' := Aside0.mk H
                  clear H
                  obtain ⟨Ao63, co63, eo63⟩ := Kd.N_slice HO_7.out
                  subst eo63
                  obtain ⟨Ao64, co64, eo64⟩ := Kd.R_slice HO_9.out
                  subst eo64
                  go_wp2_with (first | ((with_reducible refine gate_callee (f := 13) rfl ?_); refine goesL_ (some 44) rfl rfl Try.func13 (by kernel_rfl) rfl #[.slice Ao63 t400.length co63, .slice Ao64 y415.length co64] rfl (by (try simp only [List.map_toArray, List.map_cons, List.map_nil]); first | done | rfl | (simp only [List.length_drop, List.length_take]; rfl)) ?_; (with_reducible refine (licence_Fine.calls _ _ t400 _ _ y415 false _ ?side1 ?side2 ?side3 ?side4 A28.out).mono ?_); (case side1 => repeat (first | exact (Kd.N_reads' HO_7.out).2.2 | (with_reducible refine Kd.C_alloc ?_ _) | (with_reducible refine Kd.C_drewN ?_ _) | (with_reducible refine Kd.C_drew ?_))); (case side2 => exact (Kd.N_reads' HO_7.out).2.1); (case side3 => repeat (first | exact (Kd.R_reads' HO_9.out).2.2 | (with_reducible refine Kd.C_alloc ?_ _) | (with_reducible refine Kd.C_drewN ?_ _) | (with_reducible refine Kd.C_drew ?_))); (case side4 => exact (Kd.R_reads' HO_9.out).2.1); rintro e w65 ⟨rfl, hb⟩; refine ⟨_, rfl, ?_⟩; have n0_ := Aside0.mk (Kd.N_below (by (with_reducible repeat (first | apply Kd.N_alloc | apply Kd.N_drewN | apply Kd.N_drew)); exact HO_7.out) hb); have n1_ := Aside0.mk (Kd.R_below (chR HO_8) hb); have n2_ := Aside0.mk (Kd.R_below (chR HO_9) hb); have n3_ := Aside0.mk (Kd.R_below (chR HO_10) hb); have n4_ := Aside0.mk (below_step (chB HB) hb); clear HO_7; clear HO_8; clear HO_9; clear HO_10; clear HB; have HO_7 := n0_; have HO_8 := n1_; have HO_9 := n2_; have HO_10 := n3_; have HB := n4_; clear n0_ n1_ n2_ n3_ n4_; (try clear hb); (try clear hb2); (try clear hk); (try clear hi); obtain ⟨Ao66, co66, eo66⟩ := Kd.R_slice HO_10.out; subst eo66) | (go_at_call 13; (with_reducible refine (licence_Fine.calls _ _ t400 _ _ x10_1 t437 _ ?side1 ?side2 ?side3 ?side4 A60.out).mono ?_); (case side1 => repeat (first | exact (Kd.N_reads' HO_7.out).2.2 | (with_reducible refine Kd.C_alloc ?_ _) | (with_reducible refine Kd.C_drewN ?_ _) | (with_reducible refine Kd.C_drew ?_))); (case side2 => exact (Kd.N_reads' HO_7.out).2.1); (case side3 => repeat (first | exact (Kd.R_reads' HO_10.out).2.2 | (with_reducible refine Kd.C_alloc ?_ _) | (with_reducible refine Kd.C_drewN ?_ _) | (with_reducible refine Kd.C_drew ?_))); (case side4 => exact (Kd.R_reads' HO_10.out).2.1); rintro e w67 ⟨rfl, hb⟩; have n0_ := Aside0.mk (Kd.N_below (by (with_reducible repeat (first | apply Kd.N_alloc | apply Kd.N_drewN | apply Kd.N_drew)); exact HO_7.out) hb); have n1_ := Aside0.mk (Kd.R_below (chR HO_8) hb); have n2_ := Aside0.mk (Kd.R_below (chR HO_9) hb); have n3_ := Aside0.mk (Kd.R_below (chR HO_10) hb); have n4_ := Aside0.mk (below_step (chB HB) hb); clear HO_7; clear HO_8; clear HO_9; clear HO_10; clear HB; have HO_7 := n0_; have HO_8 := n1_; have HO_9 := n2_; have HO_10 := n3_; have HB := n4_; clear n0_ n1_ n2_ n3_ n4_; (try clear hb); (try clear hb2); (try clear hk); (try clear hi)) | (go_at_call 13; (with_reducible refine (licence_Fine.calls _ _ t400 _ _ t403 t438 _ ?side1 ?side2 ?side3 ?side4 A61.out).mono ?_); (case side1 => repeat (first | exact (Kd.N_reads' HO_7.out).2.2 | (with_reducible refine Kd.C_alloc ?_ _) | (with_reducible refine Kd.C_drewN ?_ _) | (with_reducible refine Kd.C_drew ?_))); (case side2 => exact (Kd.N_reads' HO_7.out).2.1); (case side3 => repeat (first | exact (Kd.R_reads' HO_8.out).2.2 | (with_reducible refine Kd.C_alloc ?_ _) | (with_reducible refine Kd.C_drewN ?_ _) | (with_reducible refine Kd.C_drew ?_))); (case side4 => exact (Kd.R_reads' HO_8.out).2.1); rintro e w68 ⟨rfl, hb⟩; have n0_ := Aside0.mk (Kd.N_below (by (with_reducible repeat (first | apply Kd.N_alloc | apply Kd.N_drewN | apply Kd.N_drew)); exact HO_7.out) hb); have n1_ := Aside0.mk (Kd.R_below (chR HO_8) hb); have n2_ := Aside0.mk (Kd.R_below (chR HO_9) hb); have n3_ := Aside0.mk (Kd.R_below (chR HO_10) hb); have n4_ := Aside0.mk (below_step (chB HB) hb); clear HO_7; clear HO_8; clear HO_9; clear HO_10; clear HB; have HO_7 := n0_; have HO_8 := n1_; have HO_9 := n2_; have HO_10 := n3_; have HB := n4_; clear n0_ n1_ n2_ n3_ n4_; (try clear hb); (try clear hb2); (try clear hk); (try clear hi)))
                  go_meet
                  case rel => exact ⟨_, (true), (by first | rfl | (simp; done) | (simp [*]; done)), H', ⟨by have := HK1.out; first | omega | exact Nat.le_refl _⟩, ⟨by (with_reducible repeat (first | apply Kd.N_alloc | apply Kd.N_drewN | apply Kd.N_drew)); exact Kd.N_mono HO_7.out (fun _ hk => hk.2.1)⟩, ⟨by (with_reducible repeat (first | apply Kd.R_alloc | apply Kd.R_drewN | apply Kd.R_drew)); exact Kd.R_mono HO_9.out (fun _ hk => trivial)⟩, ⟨chB HB⟩⟩
                · rw [if_neg c62] at H
                  have c62b0 : (t437 != t438) = false := by simpa using c62
                  (try (have c62b1 : decide (t437 = t438) = true := by simpa using c62))
                  (try (have c62b2 : (t437 == t438) = true := by simpa using c62))
                  clear c62
                  replace H := Option.bind_eq_some_iff.mp H
                  obtain ⟨t439, A690, H⟩ := H
                  replace H : ((licence_Core.f t400 t403).bind fun t442 => ((spliceryref01_SameInts.f k1 t439 t442).bind fun t445 => (splicerylaw41_LicenceMore.j1 k1 t400 y415 (!t445)))) = some r := H
                  have A69 := Aside0.mk A690
                  clear A690
                  replace H := Option.bind_eq_some_iff.mp H
                  obtain ⟨t442, A700, H⟩ := H
                  replace H : ((spliceryref01_SameInts.f k1 t439 t442).bind fun t445 => (splicerylaw41_LicenceMore.j1 k1 t400 y415 (!t445))) = some r := H
                  have A70 := Aside0.mk A700
                  clear A700
                  replace H := Option.bind_eq_some_iff.mp H
                  obtain ⟨t445, A710, H⟩ := H
                  replace H : (splicerylaw41_LicenceMore.j1 k1 t400 y415 (!t445)) = some r := H
                  have A71 := Aside0.mk A710
                  clear A710
                  have H' := Aside0.mk H
                  clear H
                  obtain ⟨Ao72, co72, eo72⟩ := Kd.N_slice HO_7.out
                  subst eo72
                  obtain ⟨Ao73, co73, eo73⟩ := Kd.R_slice HO_9.out
                  subst eo73
                  go_wp2_with (first | ((with_reducible refine gate_callee (f := 13) rfl ?_); refine goesL_ (some 44) rfl rfl Try.func13 (by kernel_rfl) rfl #[.slice Ao72 t400.length co72, .slice Ao73 y415.length co73] rfl (by (try simp only [List.map_toArray, List.map_cons, List.map_nil]); first | done | rfl | (simp only [List.length_drop, List.length_take]; rfl)) ?_; (with_reducible refine (licence_Fine.calls _ _ t400 _ _ y415 false _ ?side1 ?side2 ?side3 ?side4 A28.out).mono ?_); (case side1 => repeat (first | exact (Kd.N_reads' HO_7.out).2.2 | (with_reducible refine Kd.C_alloc ?_ _) | (with_reducible refine Kd.C_drewN ?_ _) | (with_reducible refine Kd.C_drew ?_))); (case side2 => exact (Kd.N_reads' HO_7.out).2.1); (case side3 => repeat (first | exact (Kd.R_reads' HO_9.out).2.2 | (with_reducible refine Kd.C_alloc ?_ _) | (with_reducible refine Kd.C_drewN ?_ _) | (with_reducible refine Kd.C_drew ?_))); (case side4 => exact (Kd.R_reads' HO_9.out).2.1); rintro e w74 ⟨rfl, hb⟩; refine ⟨_, rfl, ?_⟩; have n0_ := Aside0.mk (Kd.N_below (by (with_reducible repeat (first | apply Kd.N_alloc | apply Kd.N_drewN | apply Kd.N_drew)); exact HO_7.out) hb); have n1_ := Aside0.mk (Kd.R_below (chR HO_8) hb); have n2_ := Aside0.mk (Kd.R_below (chR HO_9) hb); have n3_ := Aside0.mk (Kd.R_below (chR HO_10) hb); have n4_ := Aside0.mk (below_step (chB HB) hb); clear HO_7; clear HO_8; clear HO_9; clear HO_10; clear HB; have HO_7 := n0_; have HO_8 := n1_; have HO_9 := n2_; have HO_10 := n3_; have HB := n4_; clear n0_ n1_ n2_ n3_ n4_; (try clear hb); (try clear hb2); (try clear hk); (try clear hi); obtain ⟨Ao75, co75, eo75⟩ := Kd.R_slice HO_10.out; subst eo75) | (go_at_call 13; (with_reducible refine (licence_Fine.calls _ _ t400 _ _ x10_1 t437 _ ?side1 ?side2 ?side3 ?side4 A60.out).mono ?_); (case side1 => repeat (first | exact (Kd.N_reads' HO_7.out).2.2 | (with_reducible refine Kd.C_alloc ?_ _) | (with_reducible refine Kd.C_drewN ?_ _) | (with_reducible refine Kd.C_drew ?_))); (case side2 => exact (Kd.N_reads' HO_7.out).2.1); (case side3 => repeat (first | exact (Kd.R_reads' HO_10.out).2.2 | (with_reducible refine Kd.C_alloc ?_ _) | (with_reducible refine Kd.C_drewN ?_ _) | (with_reducible refine Kd.C_drew ?_))); (case side4 => exact (Kd.R_reads' HO_10.out).2.1); rintro e w76 ⟨rfl, hb⟩; have n0_ := Aside0.mk (Kd.N_below (by (with_reducible repeat (first | apply Kd.N_alloc | apply Kd.N_drewN | apply Kd.N_drew)); exact HO_7.out) hb); have n1_ := Aside0.mk (Kd.R_below (chR HO_8) hb); have n2_ := Aside0.mk (Kd.R_below (chR HO_9) hb); have n3_ := Aside0.mk (Kd.R_below (chR HO_10) hb); have n4_ := Aside0.mk (below_step (chB HB) hb); clear HO_7; clear HO_8; clear HO_9; clear HO_10; clear HB; have HO_7 := n0_; have HO_8 := n1_; have HO_9 := n2_; have HO_10 := n3_; have HB := n4_; clear n0_ n1_ n2_ n3_ n4_; (try clear hb); (try clear hb2); (try clear hk); (try clear hi)) | (go_at_call 13; (with_reducible refine (licence_Fine.calls _ _ t400 _ _ t403 t438 _ ?side1 ?side2 ?side3 ?side4 A61.out).mono ?_); (case side1 => repeat (first | exact (Kd.N_reads' HO_7.out).2.2 | (with_reducible refine Kd.C_alloc ?_ _) | (with_reducible refine Kd.C_drewN ?_ _) | (with_reducible refine Kd.C_drew ?_))); (case side2 => exact (Kd.N_reads' HO_7.out).2.1); (case side3 => repeat (first | exact (Kd.R_reads' HO_8.out).2.2 | (with_reducible refine Kd.C_alloc ?_ _) | (with_reducible refine Kd.C_drewN ?_ _) | (with_reducible refine Kd.C_drew ?_))); (case side4 => exact (Kd.R_reads' HO_8.out).2.1); rintro e w77 ⟨rfl, hb⟩; have n0_ := Aside0.mk (Kd.N_below (by (with_reducible repeat (first | apply Kd.N_alloc | apply Kd.N_drewN | apply Kd.N_drew)); exact HO_7.out) hb); have n1_ := Aside0.mk (Kd.R_below (chR HO_8) hb); have n2_ := Aside0.mk (Kd.R_below (chR HO_9) hb); have n3_ := Aside0.mk (Kd.R_below (chR HO_10) hb); have n4_ := Aside0.mk (below_step (chB HB) hb); clear HO_7; clear HO_8; clear HO_9; clear HO_10; clear HB; have HO_7 := n0_; have HO_8 := n1_; have HO_9 := n2_; have HO_10 := n3_; have HB := n4_; clear n0_ n1_ n2_ n3_ n4_; (try clear hb); (try clear hb2); (try clear hk); (try clear hi)) | (go_at_call 18; (with_reducible refine (licence_Core.calls _ _ t400 _ _ x10_1 t439 _ ?side1 ?side2 ?side3 ?side4 A69.out).mono ?_); (case side1 => repeat (first | exact (Kd.N_reads' HO_7.out).2.2 | (with_reducible refine Kd.C_alloc ?_ _) | (with_reducible refine Kd.C_drewN ?_ _) | (with_reducible refine Kd.C_drew ?_))); (case side2 => exact (Kd.N_reads' HO_7.out).2.1); (case side3 => repeat (first | exact (Kd.R_reads' HO_10.out).2.2 | (with_reducible refine Kd.C_alloc ?_ _) | (with_reducible refine Kd.C_drewN ?_ _) | (with_reducible refine Kd.C_drew ?_))); (case side4 => exact (Kd.R_reads' HO_10.out).2.1); rintro e w78 ⟨v440, rfl, ho0, hb⟩; have n0_ := Aside0.mk (Kd.N_elder' (by (with_reducible repeat (first | apply Kd.N_alloc | apply Kd.N_drewN | apply Kd.N_drew)); exact HO_7.out) (Kd.R_base ho0) hb); have n1_ := Aside0.mk (Kd.R_elder' (chR HO_8) (Kd.R_base ho0) hb); have n2_ := Aside0.mk (Kd.R_elder' (chR HO_9) (Kd.R_base ho0) hb); have n3_ := Aside0.mk (Kd.R_elder' (chR HO_10) (Kd.R_base ho0) hb); have n4_ := Aside0.mk (Kd.R_lower (Kd.R_new' (Kd.R_new' (Kd.R_new' ho0 (Kd.R_lt (chR HO_8))) (Kd.R_lt (chR HO_9))) (Kd.R_lt (chR HO_10))) (below_size (chB HB))); have n5_ := Aside0.mk (below_step (chB HB) hb); clear HO_7; clear HO_8; clear HO_9; clear HO_10; clear HB; have HO_7 := n0_; have HO_8 := n1_; have HO_9 := n2_; have HO_10 := n3_; have HO441 := n4_; have HB := n5_; clear n0_ n1_ n2_ n3_ n4_ n5_; (try clear hb); (try clear hb2); (try clear hk); (try clear hi); (try clear ho0)) | (go_at_call 18; (with_reducible refine (licence_Core.calls _ _ t400 _ _ t403 t442 _ ?side1 ?side2 ?side3 ?side4 A70.out).mono ?_); (case side1 => repeat (first | exact (Kd.N_reads' HO_7.out).2.2 | (with_reducible refine Kd.C_alloc ?_ _) | (with_reducible refine Kd.C_drewN ?_ _) | (with_reducible refine Kd.C_drew ?_))); (case side2 => exact (Kd.N_reads' HO_7.out).2.1); (case side3 => repeat (first | exact (Kd.R_reads' HO_8.out).2.2 | (with_reducible refine Kd.C_alloc ?_ _) | (with_reducible refine Kd.C_drewN ?_ _) | (with_reducible refine Kd.C_drew ?_))); (case side4 => exact (Kd.R_reads' HO_8.out).2.1); rintro e w79 ⟨v443, rfl, ho0, hb⟩; have n0_ := Aside0.mk (Kd.N_elder' (by (with_reducible repeat (first | apply Kd.N_alloc | apply Kd.N_drewN | apply Kd.N_drew)); exact HO_7.out) (Kd.R_base ho0) hb); have n1_ := Aside0.mk (Kd.R_elder' (chR HO_8) (Kd.R_base ho0) hb); have n2_ := Aside0.mk (Kd.R_elder' (chR HO_9) (Kd.R_base ho0) hb); have n3_ := Aside0.mk (Kd.R_elder' (chR HO_10) (Kd.R_base ho0) hb); have n4_ := Aside0.mk (Kd.R_elder' (chR HO441) (Kd.R_base ho0) hb); have n5_ := Aside0.mk (Kd.R_lower (Kd.R_new' (Kd.R_new' (Kd.R_new' (Kd.R_new' ho0 (Kd.R_lt (chR HO_8))) (Kd.R_lt (chR HO_9))) (Kd.R_lt (chR HO_10))) (Kd.R_lt (chR HO441))) (below_size (chB HB))); have n6_ := Aside0.mk (below_step (chB HB) hb); clear HO_7; clear HO_8; clear HO_9; clear HO_10; clear HO441; clear HB; have HO_7 := n0_; have HO_8 := n1_; have HO_9 := n2_; have HO_10 := n3_; have HO441 := n4_; have HO444 := n5_; have HB := n6_; clear n0_ n1_ n2_ n3_ n4_ n5_ n6_; (try clear hb); (try clear hb2); (try clear hk); (try clear hi); (try clear ho0); obtain ⟨Ao80, co80, eo80⟩ := Kd.R_slice HO441.out; subst eo80; obtain ⟨Ao81, co81, eo81⟩ := Kd.R_slice HO444.out; subst eo81) | (go_at_call 17; (with_reducible refine (spliceryref01_SameInts.calls k1 _ _ t439 _ _ t442 t445 _ ?side1 ?side2 ?side3 ?side4 A71.out).mono ?_); (case side1 => repeat (first | exact (Kd.R_reads' HO441.out).2.2 | (with_reducible refine Kd.C_alloc ?_ _) | (with_reducible refine Kd.C_drewN ?_ _) | (with_reducible refine Kd.C_drew ?_))); (case side2 => exact (Kd.R_reads' HO441.out).2.1); (case side3 => repeat (first | exact (Kd.R_reads' HO444.out).2.2 | (with_reducible refine Kd.C_alloc ?_ _) | (with_reducible refine Kd.C_drewN ?_ _) | (with_reducible refine Kd.C_drew ?_))); (case side4 => exact (Kd.R_reads' HO444.out).2.1); rintro e w' ⟨rfl, ⟨nd, rfl⟩⟩))
                  go_meet
                  case rel => exact ⟨_, (!t445), (by first | rfl | (simp; done) | (simp [*]; done)), H', ⟨by have := HK1.out; first | omega | exact Nat.le_refl _⟩, ⟨by (with_reducible repeat (first | apply Kd.N_alloc | apply Kd.N_drewN | apply Kd.N_drew)); exact Kd.N_mono HO_7.out (fun _ hk => hk.1.1.2.1)⟩, ⟨by (with_reducible repeat (first | apply Kd.R_alloc | apply Kd.R_drewN | apply Kd.R_drew)); exact Kd.R_mono HO_9.out (fun _ hk => trivial)⟩, ⟨chB HB⟩⟩
            case rest =>
              clear HC27
              try clear c1
              try clear c2
              try clear p2
              try clear c3
              try clear p4
              try clear q4
              try clear hx4
              try clear c6
              try clear p6
              try clear c8
              try clear c9
              try clear c13
              try clear c14
              try clear c18
              try clear c18b0
              try clear c19
              try clear c19b0
              try clear c20
              try clear c20b0
              try clear c21
              try clear c29
              try clear c31
              try clear c34
              try clear c34b0
              try clear c34b1
              try clear c34b2
              try clear p41
              try clear q41
              try clear hx41
              try clear c62
              try clear c62b0
              try clear c62b1
              try clear c62b2
              try clear p64
              try clear hx418_0
              try clear hx419_0
              try clear p2
              try clear p418
              try clear p419
              try clear p6
              try clear q418
              try clear q419
              obtain ⟨kq, x69_26, rfl, HA, HJ26, HO_7, HO_9, HB⟩ := hcut
              cases kq with
              | zero => exact absurd HA.out (by simp [splicerylaw41_LicenceMore.j1])
              | succ kj26 =>
                have H := HA.out
                clear HA
                simp only [splicerylaw41_LicenceMore.j1] at H
                by_cases c82 : x69_26 = true
                · subst c82
                  have H1 : (some false) = some r := by rw [if_pos rfl] at H; exact H
                  clear H
                  have H := H1
                  clear H1
                  obtain rfl := Option.some.inj H
                  go_wp2
                  go_ret
                  exact ⟨by first | rfl | (simp [errW_none, errW_some] <;> rfl) | (simp [*, errW_none, errW_some] <;> rfl), chB HB⟩
                · replace c82 := Bool.eq_false_iff.mpr c82
                  subst c82
                  have H1 : ((some (([] : List (S36)) : List (S36))).bind fun y446 => (if y446.length + t400.length < 2199023255552 then (splicerylaw41_LicenceMore.l1 kj26 y415 (y446 ++ t400) 0) else (none))) = some r := by rw [if_neg (show ¬ (false = true) by decide)] at H; exact H
                  clear H
                  have H := H1
                  clear H1
                  obtain ⟨y446, hy446⟩ : ∃ y_ : List (S36), y_ = (([] : List (S36))) := ⟨_, rfl⟩
                  replace H : (if y446.length + t400.length < 2199023255552 then (splicerylaw41_LicenceMore.l1 kj26 y415 (y446 ++ t400) 0) else (none)) = some r := by first | (rw [hy446]; with_reducible exact H) | (have H2_ := (Option.bind_some _ _).symm.trans H; rw [hy446]; with_reducible exact H2_) | (have H2_ := (Option.bind_some _ _).symm.trans H; with_reducible exact H2_) | with_reducible exact H | (rw [hy446]; exact H) | exact H
                  have Ny446 := Aside0.mk hy446
                  clear hy446
                  by_cases c83 : y446.length + t400.length < 2199023255552
                  · rw [if_pos c83] at H
                    have LMc83 := Aside0.mk c83
                    clear c83
                    obtain ⟨y449, hy449⟩ : ∃ y_ : List (S36), y_ = (y446 ++ t400) := ⟨_, rfl⟩
                    replace H : (splicerylaw41_LicenceMore.l1 kj26 y415 y449 0) = some r := by first | (rw [hy449]; with_reducible exact H) | (have H2_ := (Option.bind_some _ _).symm.trans H; rw [hy449]; with_reducible exact H2_) | (have H2_ := (Option.bind_some _ _).symm.trans H; with_reducible exact H2_) | with_reducible exact H | (rw [hy449]; exact H) | exact H
                    have Ny449 := Aside0.mk hy449
                    clear hy449
                    have H' := Aside0.mk H
                    clear H
                    go_wp2_with (first | ((with_reducible refine gate_dst (N := 70) rfl ?_); (try (refine gate_guard (by rfl) ?_; dsimp only)); refine Kd.N_lit k36 _ 36 ?hg (N' := 70) ?hd (xs := ([] : List (S36))) (inner := []) (ok := (fun k_ => some k_ ≠ (v401 : Value).ownBlock ∧ some k_ ≠ (v416 : Value).ownBlock)) (okp := (fun k_ => some k_ ≠ (v401 : Value).ownBlock ∧ some k_ ≠ (v416 : Value).ownBlock)) ?hr ?hp (fun _ hk => hk) ((show ∀ k_, wc.heap.size ≤ k_ → (fun k_ => some k_ ≠ (v401 : Value).ownBlock ∧ some k_ ≠ (v416 : Value).ownBlock) k_ from fun k_ hk => ⟨Kd.fresh' (Kd.N_lt (by (with_reducible repeat (first | apply Kd.N_alloc | apply Kd.N_drewN | apply Kd.N_drew)); exact HO_7.out)) k_ hk, Kd.fresh' (Kd.R_lt (chR HO_9)) k_ hk⟩) _ (Nat.le_refl _)) (Below.refl _ _) (Nat.le_refl _) (by simp) ?_; (case hd => rfl); (case hg => rfl); (case hr => first | (go_simp; done) | (go_simp; rfl)); (case hp => exact (Reps.none _ _)); intro v447 w84 ho85 hb hg_ hnew_; clear hg_ hnew_; (first | rw [← Ny446.out] at ho85 | (simp only [Int.reduceToNat] at ho85; rw [← Ny446.out] at ho85)); have n0_ := Aside0.mk (Kd.N_elder' (by (with_reducible repeat (first | apply Kd.N_alloc | apply Kd.N_drewN | apply Kd.N_drew)); exact HO_7.out) (Kd.N_base ho85) hb); have n1_ := Aside0.mk (Kd.R_below (chR HO_9) hb); have n2_ := Aside0.mk (Kd.N_lower ho85 (below_size (chB HB))); have n3_ := Aside0.mk (below_step (chB HB) hb); clear HO_7; clear HO_9; clear HB; have HO_7 := n0_; have HO_9 := n1_; have HO448 := n2_; have HB := n3_; clear n0_ n1_ n2_ n3_; clear hb ho85; obtain ⟨Ao87, co87, eo87⟩ := Kd.N_slice HO_7.out; subst eo87) | ((with_reducible refine gate_builtin (b := .append) (xs := #[.tmp 70, .tmp 71]) rfl ?_); (try (refine gate_guard (by rfl) ?_; dsimp only)); at_builtin; refine Kd.N_append_rows k36 (w0 := w) w.heap.size rfl (.tmp 70) (.tmp 71) 23 36 (.agg #[(.string ⟨#[]⟩), (.slice none 0 0), (.slice none 0 0)]) 64 rfl Try.underlying23 info36 rfl (by decide) (by omega) v447 y446 t400 _ _ _ (fun k_ => some k_ ≠ (v416 : Value).ownBlock) (fun k_ => ((fun k_ => some k_ ≠ (v416 : Value).ownBlock)) k_ ∧ some k_ ≠ (v447 : Value).ownBlock) rfl rfl ?aO ?aR (fun _ hk => hk) ?aF ?aB ?aS ?aL ?_; (case aR => exact (by skip; exact Kd.N_F (Kd.N_mono (ok' := (fun k_ => ((fun k_ => some k_ ≠ (v416 : Value).ownBlock)) k_ ∧ some k_ ≠ (v447 : Value).ownBlock)) (HO_7.out) (fun k_ hk => ⟨hk.1, hk.2⟩)))); (case aB => exact (chB HB)); (case aF => exact (fun k_ hk => Kd.fresh' (Kd.R_lt (chR HO_9)) k_ hk)); (case aO => exact (by (with_reducible repeat (first | apply Kd.N_alloc | apply Kd.N_drewN | apply Kd.N_drew)); exact Kd.N_mono HO448.out (fun _ hk => hk.2))); (case aS => exact (below_size (chB HB))); (case aL => have := LMc83.out; omega); intro v450 w86 ho hb hg hat; rw [← Ny449.out] at ho; have n0_ := Aside0.mk (Kd.N_afterv (ok := (fun k_ => some k_ ≠ (v416 : Value).ownBlock)) (by (with_reducible repeat (first | apply Kd.N_alloc | apply Kd.N_drewN | apply Kd.N_drew)); exact HO_7.out) hg hat); have n1_ := Aside0.mk (Kd.R_over' (chR HO_9) (Kd.N_typed (by (with_reducible repeat (first | apply Kd.N_alloc | apply Kd.N_drewN | apply Kd.N_drew)); exact HO448.out)) (by decide) hg); have n2_ := Aside0.mk (hb); have n3_ := Aside0.mk (ho); clear HO_7; clear HO_9; clear HB; clear HO448; have HO_7 := n0_; have HO_9 := n1_; have HB := n2_; have HO451 := n3_; clear n0_ n1_ n2_ n3_; clear ho hb hg hat))
                    go_loopg [13] kj26 (fun kq v13 w' => ∃ (x12_3 : List (S36)) (x13_3 : Int), v13 = .int .i64 x13_3 ∧ Aside0 (splicerylaw41_LicenceMore.l1 kq y415 x12_3 x13_3 = some r) ∧ Aside0 (kq ≤ kj26) ∧ Aside0 (Kd.R (Kd.int .i64) 3 w' w.heap.size (fun _ => True) v416 y415) ∧ Aside0 (Kd.N k36 36 w' w.heap.size (fun k_ => some k_ ≠ (v416 : Value).ownBlock) v450 x12_3) ∧ Aside0 (Below w.heap.size w w'))
                    case atStart => exact ⟨(y449), (0), (by first | rfl | (simp; done) | (simp [*]; done)), H', ⟨Nat.le_refl _⟩, ⟨chR HO_9⟩, ⟨by (with_reducible repeat (first | apply Kd.N_alloc | apply Kd.N_drewN | apply Kd.N_drew)); exact HO451.out⟩, ⟨chB HB⟩⟩
                    case round =>
                      clear H'
                      try clear c1
                      try clear c2
                      try clear p2
                      try clear c3
                      try clear p4
                      try clear q4
                      try clear hx4
                      try clear c6
                      try clear p6
                      try clear c8
                      try clear c9
                      try clear c13
                      try clear c14
                      try clear c18
                      try clear c18b0
                      try clear c19
                      try clear c19b0
                      try clear c20
                      try clear c20b0
                      try clear c21
                      try clear c29
                      try clear c31
                      try clear c34
                      try clear c34b0
                      try clear c34b1
                      try clear c34b2
                      try clear p41
                      try clear q41
                      try clear hx41
                      try clear c62
                      try clear c62b0
                      try clear c62b1
                      try clear c62b2
                      try clear p64
                      try clear c82
                      try clear c83
                      try clear hx418_0
                      try clear hx419_0
                      try clear p2
                      try clear p4
                      try clear p41
                      try clear p418
                      try clear p419
                      try clear p6
                      try clear p64
                      try clear q4
                      try clear q41
                      try clear q418
                      try clear q419
                      obtain ⟨x12_3, x13_3, rfl, HA, HK3, HO_9, HO_12, HB⟩ := hrel
                      cases gk with
                      | zero => exact absurd HA.out (by simp [splicerylaw41_LicenceMore.l1])
                      | succ k3 =>
                        have H := HA.out
                        clear HA
                        simp only [splicerylaw41_LicenceMore.l1] at H
                        by_cases c88 : x13_3 < (x12_3.length : Int)
                        · rw [if_pos c88] at H
                          have c88b0 : decide (x13_3 < (x12_3.length : Int)) = true := decide_eq_true c88
                          clear c88
                          by_cases c89 : 0 ≤ x13_3
                          · rw [if_pos c89] at H
                            have c89b0 : decide (0 ≤ x13_3) = true := decide_eq_true c89
                            clear c89
                            obtain ⟨y452, hy452⟩ : ∃ y_ : List (S36), y_ = (x12_3.set (x13_3 : Int).toNat (⟨(rd_T36 x12_3 x13_3).f0, (rd_T36 x12_3 x13_3).f1, ([] : List ByteArray)⟩ : S36)) := ⟨_, rfl⟩
                            replace H : (splicerylaw41_LicenceMore.l1 k3 y415 y452 (wrap64 (x13_3 + 1))) = some r := by first | (rw [hy452]; with_reducible exact H) | (have H2_ := (Option.bind_some _ _).symm.trans H; rw [hy452]; with_reducible exact H2_) | (have H2_ := (Option.bind_some _ _).symm.trans H; with_reducible exact H2_) | with_reducible exact H | (rw [hy452]; exact H) | exact H
                            have Ny452 := Aside0.mk hy452
                            clear hy452
                            have H' := Aside0.mk H
                            clear H
                            obtain ⟨Ao91, co91, eo91⟩ := Kd.N_slice HO_12.out
                            subst eo91
                            have p90 : 0 ≤ (x13_3 : Int) := of_decide_eq_true (by first | (with_reducible assumption) | assumption)
                            have q90 : (x13_3 : Int) < ((x12_3.length : Int) : Int) := of_decide_eq_true (by first | (with_reducible assumption) | assumption)
                            obtain ⟨go90, co90, eo90, gb90, gl90, cl90, HG90⟩ := Kd.N_form HO_12.out (by omega)
                            (first | cases eo90 | (injection eo90 with ea_ en_ ec_; (first | subst ea_ | (injection ea_ with ea_; subst ea_)); subst ec_; clear en_))
                            have GB90 := Aside0.mk gb90
                            have GG90 := Aside0.mk HG90
                            clear gb90 gl90 HG90
                            obtain ⟨ce90, hcl90, hM90, hcc90, hfr90⟩ := Kd.N_elem HO_12.out z36 (x13_3 : Int) p90 q90
                            obtain ⟨ua90_1, uc90_1, ua90_2, uc90_2, rfl, ul90_1, ge90_1, ul90_2, ge90_2⟩ := k36_openF hM90
                            have hx90_0 : wr.cell? ⟨go90, (x13_3 : Int).toNat * 3, none⟩ = some (.string ((rd_T36 x12_3 x13_3).f0)) := hcc90 0 _ rfl
                            have hx90_1 : wr.cell? ⟨go90, (x13_3 : Int).toNat * 3 + 1, none⟩ = some (.slice ua90_1 ((rd_T36 x12_3 x13_3).f1).length uc90_1) := hcc90 1 _ rfl
                            have hx90_2 : wr.cell? ⟨go90, (x13_3 : Int).toNat * 3 + 2, none⟩ = some (.slice ua90_2 ((rd_T36 x12_3 x13_3).f2).length uc90_2) := hcc90 2 _ rfl
                            have hf90_0 : wr.frozen? ⟨go90, (x13_3 : Int).toNat * 3, none⟩ = false := hfr90 0
                            have hf90_1 : wr.frozen? ⟨go90, (x13_3 : Int).toNat * 3 + 1, none⟩ = false := hfr90 1
                            have hf90_2 : wr.frozen? ⟨go90, (x13_3 : Int).toNat * 3 + 2, none⟩ = false := hfr90 2
                            clear hcl90 hcc90 hfr90 hM90
                            replace p90 := eq_true p90
                            replace q90 := eq_true q90
                            have HX92 := Aside0.mk (show Kd.N k36 36 wr w.heap.size (fun k_ => some k_ ≠ (v416 : Value).ownBlock) (.slice (some ⟨go90, 0, none⟩) x12_3.length co91) x12_3 from (by (with_reducible repeat (first | apply Kd.N_alloc | apply Kd.N_drewN | apply Kd.N_drew)); exact HO_12.out))
                            obtain ⟨ce92, hcl92, hM92, hcc92, hfr92⟩ := Kd.N_elem HX92.out z36 (x13_3 : Int) (of_decide_eq_true (by first | (with_reducible assumption) | assumption)) (by have h_ : (x13_3 : Int) < ((x12_3.length : Int) : Int) := of_decide_eq_true (by first | (with_reducible assumption) | assumption); first | exact h_ | (have e_ := (Kd.N_reads' HO_12.out).1; omega) | simpa using h_)
                            obtain ⟨ua92_1, uc92_1, ua92_2, uc92_2, rfl, ul92_1, ge92_1, ul92_2, ge92_2⟩ := k36_openF hM92
                            have HP92 := Kd.N_seg HX92.out (x13_3 : Int) (of_decide_eq_true (by first | (with_reducible assumption) | assumption)) (by have h_ : (x13_3 : Int) < ((x12_3.length : Int) : Int) := of_decide_eq_true (by first | (with_reducible assumption) | assumption); first | exact h_ | (have e_ := (Kd.N_reads' HO_12.out).1; omega) | simpa using h_) (seg := [.slice none 0 0]) (j := 2) hcl92 hcc92 (show 3 ≤ 3 from by decide) (x' := (⟨(rd_T36 x12_3 x13_3).f0, (rd_T36 x12_3 x13_3).f1, ([] : List ByteArray)⟩ : S36)) (k36_mkF _ _ (⟨(rd_T36 x12_3 x13_3).f0, (rd_T36 x12_3 x13_3).f1, ([] : List ByteArray)⟩ : S36) ul92_1 ge92_1 (Nat.le_refl _) (Kd.F_nil _ _ _)) (fun _ hk => hk)
                            have hx92_2 := hcc92 2 _ rfl
                            (try simp only [show (k36).sz = 3 from rfl, Nat.mul_one, Nat.add_zero] at hx92_2)
                            have hf92_2 := hfr92 2
                            (try simp only [show (k36).sz = 3 from rfl, Nat.mul_one, Nat.add_zero] at hf92_2)
                            clear hcl92 hcc92 hfr92 hM92
                            go_wp2_with (first | ((with_reducible refine gate_store (t := 34) (p := 82) rfl ?_); refine store_event (t := 34) (p := 82) (v := ?vo_w93) (w1 := (wr.setCell ⟨go90, (x13_3 : Int).toNat * 3 + 2, none⟩ (.slice none 0 0))) ?hg ?ho ?hn ?hr ?_; (case ho => rfl); (case hg => rfl); (case hn => rfl); (case hr => first | (go_simp; done) | (go_simp; rfl)); intro w93 hw; have hg : wr.grownBy w93 (some go90) := (by rw [hw]; exact HP92.2); have hp_ : Kd.N k36 36 w93 w.heap.size (fun k_ => some k_ ≠ (v416 : Value).ownBlock) (.slice (some ⟨go90, 0, none⟩) x12_3.length co91) y452 := (by rw [hw, Ny452.out]; exact HP92.1); clear HP92; have n0_ := Aside0.mk (Kd.R_over' (v := (.slice (some ⟨go90, 0, none⟩) x12_3.length co91)) (chR HO_9) (Kd.N_typed HO_12.out) (by decide) hg); have n1_ := Aside0.mk (hp_); have n2_ := Aside0.mk ((by rw [hw]; exact below_set (HB.out) GB90.out : Below w.heap.size w w93)); clear HO_9; clear HO_12; clear HB; have HO_9 := n0_; have HO_12 := n1_; have HB := n2_; clear n0_ n1_ n2_; clear hg hw hp_))
                            go_roundg k3
                            case measure => have := HK1.out; have := HJ26.out; have := HK3.out; omega
                            case rel => exact ⟨(y452), (wrap64 (x13_3 + 1)), (by first | rfl | (simp; done) | (simp [*]; done)), H', ⟨by have := HK1.out; have := HJ26.out; have := HK3.out; omega⟩, ⟨chR HO_9⟩, ⟨by (with_reducible repeat (first | apply Kd.N_alloc | apply Kd.N_drewN | apply Kd.N_drew)); exact HO_12.out⟩, ⟨chB HB⟩⟩
                          · rw [if_neg c89] at H
                            exact absurd H (by simp)
                        · rw [if_neg c88] at H
                          have c88b0 : decide (x13_3 < (x12_3.length : Int)) = false := decide_eq_false c88
                          clear c88
                          replace H := Option.bind_eq_some_iff.mp H
                          obtain ⟨t453, A940, H⟩ := H
                          replace H : (if t453 = true then ((licence_Core.f x12_3 y415).bind fun t454 => (if (t454.length : Int) = 0 then ((splicerylaw41_lives.f k3).bind fun t457 => (some t457)) else (some false))) else (some false)) = some r := H
                          have A94 := Aside0.mk A940
                          clear A940
                          by_cases c95 : t453 = true
                          · subst c95
                            have H1 : ((licence_Core.f x12_3 y415).bind fun t454 => (if (t454.length : Int) = 0 then ((splicerylaw41_lives.f k3).bind fun t457 => (some t457)) else (some false))) = some r := by rw [if_pos rfl] at H; exact H
                            clear H
                            have H := H1
                            clear H1
                            replace H := Option.bind_eq_some_iff.mp H
                            obtain ⟨t454, A960, H⟩ := H
                            replace H : (if (t454.length : Int) = 0 then ((splicerylaw41_lives.f k3).bind fun t457 => (some t457)) else (some false)) = some r := H
                            have A96 := Aside0.mk A960
                            clear A960
                            by_cases c97 : (t454.length : Int) = 0
                            · rw [if_pos c97] at H
                              have c97b0 : ((t454.length : Int) == 0) = true := beq_iff_eq.mpr c97
                              have c97b1 : ((t454.length : Int) != 0) = false := bne_eq_false_iff_eq.mpr c97
                              clear c97
                              replace H := Option.bind_eq_some_iff.mp H
                              obtain ⟨t457, A980, H⟩ := H
                              replace H : (some t457) = some r := H
                              have A98 := Aside0.mk A980
                              clear A980
                              obtain rfl := Option.some.inj H
                              obtain ⟨Ao99, co99, eo99⟩ := Kd.N_slice HO_12.out
                              subst eo99
                              obtain ⟨Ao100, co100, eo100⟩ := Kd.R_slice HO_9.out
                              subst eo100
                              go_wp2_with (first | ((with_reducible refine gate_callee (f := 13) rfl ?_); refine goesL_ (some 85) rfl rfl Try.func13 (by kernel_rfl) rfl #[.slice Ao99 x12_3.length co99, .slice Ao100 y415.length co100] rfl (by (try simp only [List.map_toArray, List.map_cons, List.map_nil]); first | done | rfl | (simp only [List.length_drop, List.length_take]; rfl)) ?_; (with_reducible refine (licence_Fine.calls _ _ x12_3 _ _ y415 true _ ?side1 ?side2 ?side3 ?side4 A94.out).mono ?_); (case side1 => repeat (first | exact (Kd.N_reads' HO_12.out).2.2 | (with_reducible refine Kd.C_alloc ?_ _) | (with_reducible refine Kd.C_drewN ?_ _) | (with_reducible refine Kd.C_drew ?_))); (case side2 => exact (Kd.N_reads' HO_12.out).2.1); (case side3 => repeat (first | exact (Kd.R_reads' HO_9.out).2.2 | (with_reducible refine Kd.C_alloc ?_ _) | (with_reducible refine Kd.C_drewN ?_ _) | (with_reducible refine Kd.C_drew ?_))); (case side4 => exact (Kd.R_reads' HO_9.out).2.1); rintro e w101 ⟨rfl, hb⟩; refine ⟨_, rfl, ?_⟩; have n0_ := Aside0.mk (Kd.R_below (chR HO_9) hb); have n1_ := Aside0.mk (Kd.N_below (by (with_reducible repeat (first | apply Kd.N_alloc | apply Kd.N_drewN | apply Kd.N_drew)); exact HO_12.out) hb); have n2_ := Aside0.mk (below_step (chB HB) hb); clear HO_9; clear HO_12; clear HB; have HO_9 := n0_; have HO_12 := n1_; have HB := n2_; clear n0_ n1_ n2_; (try clear hb); (try clear hb2); (try clear hk); (try clear hi)) | (go_at_call 18; (with_reducible refine (licence_Core.calls _ _ x12_3 _ _ y415 t454 _ ?side1 ?side2 ?side3 ?side4 A96.out).mono ?_); (case side1 => repeat (first | exact (Kd.N_reads' HO_12.out).2.2 | (with_reducible refine Kd.C_alloc ?_ _) | (with_reducible refine Kd.C_drewN ?_ _) | (with_reducible refine Kd.C_drew ?_))); (case side2 => exact (Kd.N_reads' HO_12.out).2.1); (case side3 => repeat (first | exact (Kd.R_reads' HO_9.out).2.2 | (with_reducible refine Kd.C_alloc ?_ _) | (with_reducible refine Kd.C_drewN ?_ _) | (with_reducible refine Kd.C_drew ?_))); (case side4 => exact (Kd.R_reads' HO_9.out).2.1); rintro e w102 ⟨v455, rfl, ho0, hb⟩; have n0_ := Aside0.mk (Kd.R_elder' (chR HO_9) (Kd.R_base ho0) hb); have n1_ := Aside0.mk (Kd.N_elder' (by (with_reducible repeat (first | apply Kd.N_alloc | apply Kd.N_drewN | apply Kd.N_drew)); exact HO_12.out) (Kd.R_base ho0) hb); have n2_ := Aside0.mk (Kd.R_lower (Kd.R_new' ho0 (Kd.R_lt (chR HO_9))) (below_size (chB HB))); have n3_ := Aside0.mk (below_step (chB HB) hb); clear HO_9; clear HO_12; clear HB; have HO_9 := n0_; have HO_12 := n1_; have HO456 := n2_; have HB := n3_; clear n0_ n1_ n2_ n3_; (try clear hb); (try clear hb2); (try clear hk); (try clear hi); (try clear ho0); obtain ⟨Ao103, co103, eo103⟩ := Kd.R_slice HO456.out; subst eo103) | (go_at_call 16; (with_reducible refine (splicerylaw41_lives.calls k3  t457 _ A98.out).mono ?_); rintro e w104 ⟨rfl, hb⟩; have n0_ := Aside0.mk (Kd.R_below (chR HO_9) hb); have n1_ := Aside0.mk (Kd.N_below (by (with_reducible repeat (first | apply Kd.N_alloc | apply Kd.N_drewN | apply Kd.N_drew)); exact HO_12.out) hb); have n2_ := Aside0.mk (Kd.R_below (chR HO456) hb); have n3_ := Aside0.mk (below_step (chB HB) hb); clear HO_9; clear HO_12; clear HO456; clear HB; have HO_9 := n0_; have HO_12 := n1_; have HO456 := n2_; have HB := n3_; clear n0_ n1_ n2_ n3_; (try clear hb); (try clear hb2); (try clear hk); (try clear hi)))
                              go_ret
                              exact ⟨by first | rfl | (simp [errW_none, errW_some] <;> rfl) | (simp [*, errW_none, errW_some] <;> rfl), chB HB⟩
                            · rw [if_neg c97] at H
                              have c97b0 : ((t454.length : Int) == 0) = false := beq_eq_false_iff_ne.mpr c97
                              have c97b1 : ((t454.length : Int) != 0) = true := bne_iff_ne.mpr c97
                              have c97b2 : ¬ (t454 = []) := fun h_ => c97 (by rw [h_]; rfl)
                              obtain rfl := Option.some.inj H
                              obtain ⟨Ao105, co105, eo105⟩ := Kd.N_slice HO_12.out
                              subst eo105
                              obtain ⟨Ao106, co106, eo106⟩ := Kd.R_slice HO_9.out
                              subst eo106
                              go_wp2_with (first | ((with_reducible refine gate_callee (f := 13) rfl ?_); refine goesL_ (some 85) rfl rfl Try.func13 (by kernel_rfl) rfl #[.slice Ao105 x12_3.length co105, .slice Ao106 y415.length co106] rfl (by (try simp only [List.map_toArray, List.map_cons, List.map_nil]); first | done | rfl | (simp only [List.length_drop, List.length_take]; rfl)) ?_; (with_reducible refine (licence_Fine.calls _ _ x12_3 _ _ y415 true _ ?side1 ?side2 ?side3 ?side4 A94.out).mono ?_); (case side1 => repeat (first | exact (Kd.N_reads' HO_12.out).2.2 | (with_reducible refine Kd.C_alloc ?_ _) | (with_reducible refine Kd.C_drewN ?_ _) | (with_reducible refine Kd.C_drew ?_))); (case side2 => exact (Kd.N_reads' HO_12.out).2.1); (case side3 => repeat (first | exact (Kd.R_reads' HO_9.out).2.2 | (with_reducible refine Kd.C_alloc ?_ _) | (with_reducible refine Kd.C_drewN ?_ _) | (with_reducible refine Kd.C_drew ?_))); (case side4 => exact (Kd.R_reads' HO_9.out).2.1); rintro e w107 ⟨rfl, hb⟩; refine ⟨_, rfl, ?_⟩; have n0_ := Aside0.mk (Kd.R_below (chR HO_9) hb); have n1_ := Aside0.mk (Kd.N_below (by (with_reducible repeat (first | apply Kd.N_alloc | apply Kd.N_drewN | apply Kd.N_drew)); exact HO_12.out) hb); have n2_ := Aside0.mk (below_step (chB HB) hb); clear HO_9; clear HO_12; clear HB; have HO_9 := n0_; have HO_12 := n1_; have HB := n2_; clear n0_ n1_ n2_; (try clear hb); (try clear hb2); (try clear hk); (try clear hi)) | (go_at_call 18; (with_reducible refine (licence_Core.calls _ _ x12_3 _ _ y415 t454 _ ?side1 ?side2 ?side3 ?side4 A96.out).mono ?_); (case side1 => repeat (first | exact (Kd.N_reads' HO_12.out).2.2 | (with_reducible refine Kd.C_alloc ?_ _) | (with_reducible refine Kd.C_drewN ?_ _) | (with_reducible refine Kd.C_drew ?_))); (case side2 => exact (Kd.N_reads' HO_12.out).2.1); (case side3 => repeat (first | exact (Kd.R_reads' HO_9.out).2.2 | (with_reducible refine Kd.C_alloc ?_ _) | (with_reducible refine Kd.C_drewN ?_ _) | (with_reducible refine Kd.C_drew ?_))); (case side4 => exact (Kd.R_reads' HO_9.out).2.1); rintro e w108 ⟨v455, rfl, ho0, hb⟩; have n0_ := Aside0.mk (Kd.R_elder' (chR HO_9) (Kd.R_base ho0) hb); have n1_ := Aside0.mk (Kd.N_elder' (by (with_reducible repeat (first | apply Kd.N_alloc | apply Kd.N_drewN | apply Kd.N_drew)); exact HO_12.out) (Kd.R_base ho0) hb); have n2_ := Aside0.mk (Kd.R_lower (Kd.R_new' ho0 (Kd.R_lt (chR HO_9))) (below_size (chB HB))); have n3_ := Aside0.mk (below_step (chB HB) hb); clear HO_9; clear HO_12; clear HB; have HO_9 := n0_; have HO_12 := n1_; have HO456 := n2_; have HB := n3_; clear n0_ n1_ n2_ n3_; (try clear hb); (try clear hb2); (try clear hk); (try clear hi); (try clear ho0); obtain ⟨Ao109, co109, eo109⟩ := Kd.R_slice HO456.out; subst eo109))
                              go_ret
                              exact ⟨by first | rfl | (simp [errW_none, errW_some] <;> rfl) | (simp [*, errW_none, errW_some] <;> rfl), chB HB⟩
                          · replace c95 := Bool.eq_false_iff.mpr c95
                            subst c95
                            have H1 : (some false) = some r := by rw [if_neg (show ¬ (false = true) by decide)] at H; exact H
                            clear H
                            have H := H1
                            clear H1
                            obtain rfl := Option.some.inj H
                            obtain ⟨Ao110, co110, eo110⟩ := Kd.N_slice HO_12.out
                            subst eo110
                            obtain ⟨Ao111, co111, eo111⟩ := Kd.R_slice HO_9.out
                            subst eo111
                            go_wp2_with (first | ((with_reducible refine gate_callee (f := 13) rfl ?_); refine goesL_ (some 85) rfl rfl Try.func13 (by kernel_rfl) rfl #[.slice Ao110 x12_3.length co110, .slice Ao111 y415.length co111] rfl (by (try simp only [List.map_toArray, List.map_cons, List.map_nil]); first | done | rfl | (simp only [List.length_drop, List.length_take]; rfl)) ?_; (with_reducible refine (licence_Fine.calls _ _ x12_3 _ _ y415 false _ ?side1 ?side2 ?side3 ?side4 A94.out).mono ?_); (case side1 => repeat (first | exact (Kd.N_reads' HO_12.out).2.2 | (with_reducible refine Kd.C_alloc ?_ _) | (with_reducible refine Kd.C_drewN ?_ _) | (with_reducible refine Kd.C_drew ?_))); (case side2 => exact (Kd.N_reads' HO_12.out).2.1); (case side3 => repeat (first | exact (Kd.R_reads' HO_9.out).2.2 | (with_reducible refine Kd.C_alloc ?_ _) | (with_reducible refine Kd.C_drewN ?_ _) | (with_reducible refine Kd.C_drew ?_))); (case side4 => exact (Kd.R_reads' HO_9.out).2.1); rintro e w112 ⟨rfl, hb⟩; refine ⟨_, rfl, ?_⟩; have n0_ := Aside0.mk (Kd.R_below (chR HO_9) hb); have n1_ := Aside0.mk (Kd.N_below (by (with_reducible repeat (first | apply Kd.N_alloc | apply Kd.N_drewN | apply Kd.N_drew)); exact HO_12.out) hb); have n2_ := Aside0.mk (below_step (chB HB) hb); clear HO_9; clear HO_12; clear HB; have HO_9 := n0_; have HO_12 := n1_; have HB := n2_; clear n0_ n1_ n2_; (try clear hb); (try clear hb2); (try clear hk); (try clear hi)))
                            go_ret
                            exact ⟨by first | rfl | (simp [errW_none, errW_some] <;> rfl) | (simp [*, errW_none, errW_some] <;> rfl), chB HB⟩
                  · rw [if_neg c83] at H
                    exact absurd H (by simp)
    · rw [if_neg c8] at H
      exact absurd H (by simp)
  · rw [if_neg c6] at H
    exact absurd H (by simp)

/-- THE ONE PURE STATEMENT of splicerylaw41_LicenceMore: yours. -/
def splicerylaw41_LicenceMore.Pure : Prop := ∀ (l0 : List Int) (l1 : List Int) (l2 : List Int), l0.length ≤ maxLen → l0.length * 8 ≤ 140737488351232 → (∀ x ∈ l0, (Lit.int .i64 x).wf = true) → l1.length ≤ maxLen → l1.length * 8 ≤ 140737488351232 → (∀ x ∈ l1, (Lit.int .i64 x).wf = true) → l2.length ≤ maxLen → l2.length * 8 ≤ 140737488351232 → (∀ x ∈ l2, (Lit.int .i64 x).wf = true) → ∃ k, splicerylaw41_LicenceMore.f k l0 l1 l2 = some true
theorem splicerylaw41_LicenceMore.walk (P : splicerylaw41_LicenceMore.Pure) (a0 : Option Addr) (len0 cap0 : Nat) (z0 : List Int) (a1 : Option Addr) (len1 cap1 : Nat) (z1 : List Int) (a2 : Option Addr) (len2 cap2 : Nat) (z2 : List Int) (w : World) (w0 : (a0 = none ∧ len0 = 0 ∧ cap0 = 0 ∧ z0 = []) ∨ ∃ x, a0 = some x ∧ len0 ≤ cap0 ∧ cap0 ≤ maxLen ∧ z0.length = cap0 ∧ (∀ i, i < z0.length → w.cell? (x.add i) = some (.int .i64 (z0.getD i 0))) ∧ ∀ n ∈ z0, (Lit.int .i64 n).wf = true) (y0 : len0 * 8 ≤ 140737488351232) (w1 : (a1 = none ∧ len1 = 0 ∧ cap1 = 0 ∧ z1 = []) ∨ ∃ x, a1 = some x ∧ len1 ≤ cap1 ∧ cap1 ≤ maxLen ∧ z1.length = cap1 ∧ (∀ i, i < z1.length → w.cell? (x.add i) = some (.int .i64 (z1.getD i 0))) ∧ ∀ n ∈ z1, (Lit.int .i64 n).wf = true) (y1 : len1 * 8 ≤ 140737488351232) (w2 : (a2 = none ∧ len2 = 0 ∧ cap2 = 0 ∧ z2 = []) ∨ ∃ x, a2 = some x ∧ len2 ≤ cap2 ∧ cap2 ≤ maxLen ∧ z2.length = cap2 ∧ (∀ i, i < z2.length → w.cell? (x.add i) = some (.int .i64 (z2.getD i 0))) ∧ ∀ n ∈ z2, (Lit.int .i64 n).wf = true) (y2 : len2 * 8 ≤ 140737488351232) :
    Calls Try.prog 8 #[.slice a0 len0 cap0, .slice a1 len1 cap1, .slice a2 len2 cap2] w fun e w' => e = .returned (.bool true) ∧ Below w.heap.size w w' := by
  obtain ⟨l0, rfl, hr0, hm0, hw0, hc0⟩ := ReadsInt.ofRowC w0
  obtain ⟨l1, rfl, hr1, hm1, hw1, hc1⟩ := ReadsInt.ofRowC w1
  obtain ⟨l2, rfl, hr2, hm2, hw2, hc2⟩ := ReadsInt.ofRowC w2
  obtain ⟨k, h⟩ := P l0 l1 l2 hm0 y0 hw0 hm1 y1 hw1 hm2 y2 hw2
  refine (splicerylaw41_LicenceMore.calls k _ _ l0 _ _ l1 _ _ l2 true w (Kd.C_of_reads (d := (0 : Int)) (h1 := fun _ => rfl) hr0) hc0 (Kd.C_of_reads (d := (0 : Int)) (h1 := fun _ => rfl) hr1) hc1 (Kd.C_of_reads (d := (0 : Int)) (h1 := fun _ => rfl) hr2) hc2 h).mono ?_
  rintro e w' ⟨rfl, hd⟩
  exact ⟨rfl, hd⟩

end Go.Proofs.Ytjagffomohbioaa.L
