/- The plain law of LicenceCores. -/
import Derived.Test.YtjagffomohbioaaHLaw
import Derived.Test.YtjagffomohbioaaLx6
set_option linter.unusedVariables false
set_option linter.unusedSimpArgs false
namespace Go.Proofs.Ytjagffomohbioaa.L
open Go.RowKit Go.Proofs.YtjagffomohbioaaW.PrintWords Go.Proofs.YtjagffomohbioaaW.PrintLast

def selfC : S36 := ⟨(⟨#[]⟩ : ByteArray), (([(⟨#[97]⟩ : ByteArray)] : List ByteArray)), (([(⟨#[97]⟩ : ByteArray)] : List ByteArray))⟩
def many (i : Nat) : List S36 := List.replicate i selfC ++ List.replicate (17 - i) z36
def upTo (i : Nat) : List Int := (List.range i).map (fun k : Nat => (k : Int))
theorem many_set (i : Nat) (hi : i < 17) : (many i).set i selfC = many (i + 1) := by
  unfold many
  obtain ⟨n, hn⟩ : ∃ n, 17 - i = n + 1 := ⟨16 - i, by omega⟩
  rw [hn, show 17 - (i + 1) = n by omega, List.replicate_succ, List.set_append_right _ _ (by simp)]
  simp [List.replicate_succ', List.append_assoc]
theorem many_len (i : Nat) (hi : i ≤ 17) : (many i).length = 17 := by unfold many; simp; omega
theorem upTo_succ (i : Nat) : upTo (i + 1) = upTo i ++ [(i : Int)] := by unfold upTo; rw [List.range_succ, List.map_append]; rfl
theorem upTo_len (i : Nat) : (upTo i).length = i := by unfold upTo; simp

theorem many_core16 : coreP (many 17) (upTo 16) = [0] := by
  have hs : sortedP (many 17) (upTo 16) = upTo 16 := by decide +kernel
  have hv : validP (many 17) = true := by decide +kernel
  have hf : fineB (many 17) (upTo 16) = false := by decide +kernel
  have h0 : fineB (many 17) [0] = false := by decide +kernel
  unfold coreP
  rw [if_pos hv, hs, if_pos (by rw [upTo_len]; omega), hf, if_neg Bool.false_ne_true]
  have hp : pickOf (upTo 16) 1 (fun _ => 0) = [0] := by decide +kernel
  have := core_least (fun x => !fineB (many 17) x) (all := upTo 16) (range_incr 16) rfl (by rw [hf]; rfl) (n := 1) (v := fun _ => 0) ⟨fun i j h1 h2 => by omega, fun i _ => by rw [upTo_len]; show (0 : Int) ≤ 0 ∧ (0 : Int) < ((16 : Nat) : Int); decide⟩ (by rw [hp, h0]; rfl) (fun n' u h1 h2 => by omega) (fun u hu hl => by
    obtain ⟨i, hi, _, h2⟩ := hl
    have := hu.2 i hi
    exfalso
    have h2' : u i < 0 := h2
    omega)
  rw [this, hp]
theorem many_core17 : coreP (many 17) (upTo 17) = [] := by
  have hs : sortedP (many 17) (upTo 17) = upTo 17 := by decide +kernel
  have hv : validP (many 17) = true := by decide +kernel
  unfold coreP
  rw [if_pos hv, hs, if_neg (by rw [upTo_len]; omega)]

theorem cores_l0 (s : List Int) (hs : s.length ≤ 10) (x : List S36) (hx : x.length ≤ 100) (hxo : ∀ y ∈ x, okC y) : ∀ n i : Nat, i + n = 17 → Ev (fun k => splicerylaw41_LicenceCores.l0 k s x (many i) (upTo i) (i : Int)) true
  | n + 1, i, hi => by
    refine Ev.succ (fun k => ?_) (cores_l0 s hs x hx hxo n (i + 1) (by omega))
    have hl := many_len i (by omega)
    have hu := upTo_len i
    rw [splicerylaw41_LicenceCores.l0, if_pos (by omega), if_pos (by omega), if_pos (by omega), if_pos (by omega), w64 (by omega) (by omega), ← many_set i (by omega), upTo_succ]
    rfl
  | 0, i, hi => by
    obtain rfl : i = 17 := by omega
    have hb := all_bound hxo
    have hmb : (many 17).all boundC = true := by decide +kernel
    refine Ev.succ (g := fun k => (licence_Core.f x s).bind fun t358 => ((spliceryref41_Core.f k x s).bind fun t361 => ((spliceryref01_SameInts.f k t358 t361).bind fun t364 => (if t364 = true then ((licence_Core.f (many 17) (upTo 17)).bind fun t365 => (if (t365.length : Int) = 0 then (if 16 ≤ ((upTo 17).length : Int) then ((licence_Core.f (many 17) ((upTo 17).take 16)).bind fun t372 => (if (t372.length : Int) = 1 then ((splicerylaw41_lives.f k).bind fun t375 => (some t375)) else (some false))) else (none)) else (some false))) else (some false))))) (fun k => ?_) ?_
    · rw [splicerylaw41_LicenceCores.l0, if_neg (by omega)]
    · have ht : (upTo 17).take 16 = upTo 16 := by decide +kernel
      refine Ev.bind (Ev.const (core_f hb (by omega))) (Ev.bind (refCore_ev hb (by omega) (by omega)) (Ev.bind (same_ev _ (by have := coreP_len x s; omega)) ?_))
      refine Ev.congr (fun k => by rw [if_pos rfl]) (Ev.bind (Ev.const (core_f hmb (by rw [upTo_len]; omega))) ?_)
      rw [many_core17]
      refine Ev.congr (g := fun k => (licence_Core.f (many 17) (upTo 16)).bind fun t372 => (if (t372.length : Int) = 1 then ((splicerylaw41_lives.f k).bind fun t375 => (some t375)) else (some false))) (fun k => by rw [if_pos (show (([] : List Int).length : Int) = 0 from rfl), if_pos (by rw [upTo_len]; omega), ht]) (Ev.bind (Ev.const (core_f hmb (by rw [upTo_len]; omega))) ?_)
      rw [many_core16]
      exact Ev.congr (fun k => by rw [if_pos (show (([0] : List Int).length : Int) = 1 from rfl)]) (Ev.bind lives_ev (Ev.const rfl))

theorem cores_pure : splicerylaw41_LicenceCores.Pure := by
  intro l0 l1 a2 a3 h1 h2 h3 h4 h5 h6 h7 h8
  obtain ⟨c, hc, hc8, hcv⟩ := clauses_ev l0 h3
  obtain ⟨s, hs, hs10⟩ := picks_ev l1 h6 h4
  obtain ⟨x, hx, hx100, hxo⟩ := spoilt_ev c hc8 hcv a2 a3 h7 h8
  have hb := all_bound (valid_ok hcv)
  refine Ev.get (r := true) ?_
  refine Ev.bind hc (Ev.bind hs (Ev.bind (Ev.const (core_f hb (by omega))) (Ev.bind (refCore_ev hb (by omega) (by omega)) (Ev.bind (same_ev _ (by have := coreP_len c s; omega)) ?_))))
  refine Ev.congr (fun k => by rw [if_pos rfl]) (Ev.bind hx ?_)
  refine Ev.congr (fun k => by rw [if_pos (by decide)]) ?_
  exact cores_l0 s hs10 x hx100 hxo 17 0 rfl
end Go.Proofs.Ytjagffomohbioaa.L
namespace Go.Proofs.Ytjagffomohbioaa.Pure
theorem LicenceCores : L.splicerylaw41_LicenceCores.Pure := L.cores_pure
end Go.Proofs.Ytjagffomohbioaa.Pure
