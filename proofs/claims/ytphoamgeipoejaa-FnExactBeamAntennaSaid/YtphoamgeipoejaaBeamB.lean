/-
  The model of BeamAntenna, and contracts of the loss of a beam. The conditions are the hypotheses.
-/
import Derived.Test.YtphoamgeipoejaaRows
import Derived.Test.YtphoamgeipoejaaLib
import Derived.Test.YtphoamgeipoejaaInt
import Derived.Test.YtphoamgeipoejaaInts
import Derived.Test.YtphoamgeipoejaaWithin
import Derived.Test.YtphoamgeipoejaaNames
import Derived.Test.YtphoamgeipoejaaOwn
import Derived.Test.YtphoamgeipoejaaField
import Derived.Test.YtphoamgeipoejaaMinMax
import Derived.Outline
import Derived.Deep.RegionHeld3
import Derived.Deep.DrawnRows
import Derived.OwnWalk
import Derived.Deep.AppendLies
import Derived.Deep.RegionLaw
namespace Go.Proofs.Ytphoamgeipoejaa.ofBeamAntenna
open Go.RowKit
set_option linter.unusedSimpArgs false
set_option linter.unusedVariables false
attribute [local go_sem ↓] Go.wp_at_zero Go.wp_at_succ
def parV (t w : Int) : Int := min (rdiv (12000 * t * t) (w * w)) 24000
theorem par_mul {t w : Int} (t0 : 0 ≤ t) (t1 : t ≤ 180) (w0 : 1 ≤ w) (w1 : w ≤ 360) : (0 ≤ 12000 * t * t ∧ 12000 * t * t ≤ 388800000) ∧ (1 ≤ w * w ∧ w * w ≤ 129600) := by
  have h1 := mul_nn (a := 12000 * t) (b := t) (A := 2160000) (B := 180) (by omega) (by omega) t0 t1
  have h2 := mul_nn (a := w) (b := w) (A := 360) (B := 360) (by omega) w1 (by omega) w1
  have h3 := Int.mul_pos (a := w) (b := w) (by omega) (by omega)
  omega
def beamH (w : Int) : List Int := (List.range 36).map fun (i : Nat) => parV (min (10 * (i : Int)) (360 - 10 * (i : Int))) w
def beamV (w : Int) : List Int := (List.range 19).map fun (i : Nat) => parV (max (10 * (i : Int) - 90) (90 - 10 * (i : Int))) w
theorem beamH_len (w : Int) : (beamH w).length = 36 := by simp [beamH]
theorem beamV_len (w : Int) : (beamV w).length = 19 := by simp [beamV]
theorem take_next {ys : List Int} {k : Nat} (hk : k < ys.length) : ys.take (k + 1) = ys.take k ++ [ys.getD k 0] := by
  rw [List.take_add_one]
  simp [List.getD, hk]
theorem beamH_step (w : Int) {k : Nat} (hk : k < 36) : (beamH w).take (k + 1) = (beamH w).take k ++ [parV (min (10 * (k : Int)) (360 - 10 * (k : Int))) w] := by
  rw [take_next (by rw [beamH_len]; exact hk)]
  simp [beamH, hk]
theorem beamV_step (w : Int) {k : Nat} (hk : k < 19) : (beamV w).take (k + 1) = (beamV w).take k ++ [parV (max (10 * (k : Int) - 90) (90 - 10 * (k : Int))) w] := by
  rw [take_next (by rw [beamV_len]; exact hk)]
  simp [beamV, hk]
def bmOk (s : ByteArray) (g a b : Int) : Prop := nameB s = true ∧ (-60000 ≤ g ∧ g ≤ 60000) ∧ (1 ≤ a ∧ a ≤ 360) ∧ (1 ≤ b ∧ b ≤ 360)
instance (s : ByteArray) (g a b : Int) : Decidable (bmOk s g a b) := by unfold bmOk; infer_instance
def bmN (s : ByteArray) (g a b : Int) : ByteArray := if bmOk s g a b then s else ⟨#[]⟩
def bmG (s : ByteArray) (g a b : Int) : Int := if bmOk s g a b then g else 0
def bmH (s : ByteArray) (g a b : Int) : List Int := if bmOk s g a b then beamH a else []
def bmV (s : ByteArray) (g a b : Int) : List Int := if bmOk s g a b then beamV b else []
def bmC (s : ByteArray) (g a b : Int) : Int := if bmOk s g a b then 0 else if nameB s = true then 2 else 1
theorem bm_yes {s : ByteArray} {g a b : Int} (h : bmOk s g a b) : bmN s g a b = s ∧ bmG s g a b = g ∧ bmH s g a b = beamH a ∧ bmV s g a b = beamV b ∧ bmC s g a b = 0 := ⟨if_pos h, if_pos h, if_pos h, if_pos h, if_pos h⟩
theorem bm_no {s : ByteArray} {g a b : Int} (h : ¬ bmOk s g a b) : bmN s g a b = ⟨#[]⟩ ∧ bmG s g a b = 0 ∧ bmH s g a b = [] ∧ bmV s g a b = [] := ⟨if_neg h, if_neg h, if_neg h, if_neg h⟩
theorem bm_c1 {s : ByteArray} {g a b : Int} (h : nameB s = false) : ¬ bmOk s g a b ∧ bmC s g a b = 1 := by
  have h1 : ¬ bmOk s g a b := fun q => by have := q.1; rw [h] at this; cases this
  exact ⟨h1, by unfold bmC; rw [if_neg h1, if_neg (by rw [h]; decide)]⟩
theorem bm_c2 {s : ByteArray} {g a b : Int} (h : nameB s = true) (h1 : ¬ bmOk s g a b) : bmC s g a b = 2 := by unfold bmC; rw [if_neg h1, if_pos h]
theorem bm_len (s : ByteArray) (g a b : Int) : (bmH s g a b).length ≤ 36 ∧ (bmV s g a b).length ≤ 19 := by
  by_cases h : bmOk s g a b
  · obtain ⟨_, _, e1, e2, _⟩ := bm_yes h
    rw [e1, e2, beamH_len, beamV_len]
    omega
  · obtain ⟨_, _, e1, e2⟩ := bm_no h
    rw [e1, e2]
    exact ⟨Nat.zero_le _, Nat.zero_le _⟩
theorem Row.owns {e : TypeId} {w : World} {base n : Nat} {t : Value} {ys : List Int} (hn : ys.length = n) (h : Row e w base t ys) : w.ownsRow base e 1 t n (ys.map (Value.int .i64)) := by
  subst hn
  exact h
theorem beamLoss_any (w : World) (t wd : Int) (t0 : 0 ≤ t) (t1 : t ≤ 180) (w0 : 1 ≤ wd) (w1 : wd ≤ 360) :
    Calls Try.prog 16 #[.int .i64 t, .int .i64 wd] w fun e w' => e = .returned (.int .i64 (parV t wd)) ∧ ∃ m, w' = w.drewN m := by
  obtain ⟨⟨a0, a1⟩, b0, b1⟩ := par_mul t0 t1 w0 w1
  have HV : Hid (parV t wd = min (rdiv (12000 * t * t) (wd * wd)) 24000) := rfl
  obtain ⟨V, hV⟩ : ∃ V, V = parV t wd := ⟨_, rfl⟩
  rw [← hV] at HV ⊢
  have hk := rdiv_nonneg (a := 12000 * t * t) (b := wd * wd) a0 (by omega)
  have HD : Hid (∀ W : World, Calls Try.prog 27 #[.int .i64 (12000 * t * t), .int .i64 (wd * wd)] W fun e w' => e = .returned (.int .i64 (rdiv (12000 * t * t) (wd * wd))) ∧ ∃ n, w' = W.drewN n) := fun W => divRound_any _ _ (by omega) (by omega) W
  obtain ⟨K, hK⟩ : ∃ K, K = rdiv (12000 * t * t) (wd * wd) := ⟨_, rfl⟩
  rw [← hK] at HV HD hk
  clear hV hK
  by_cases hc : K ≤ 24000
  · go_enter Try.func16, Try.ntmps16
    go_wp2_with fail
    refine (HD.out _).mono ?_
    rintro e w1 ⟨rfl, m, rfl⟩
    go_wp2_with fail
    all_goals go_ret
    all_goals exact ⟨ret_int (by rw [HV.out]; omega), m, rfl⟩
  · have hc2 : 24000 < K := by omega
    go_enter Try.func16, Try.ntmps16
    go_wp2_with fail
    refine (HD.out _).mono ?_
    rintro e w1 ⟨rfl, m, rfl⟩
    go_wp2_with fail
    all_goals go_ret
    all_goals exact ⟨ret_int (by rw [HV.out]; omega), m, rfl⟩
theorem parabola_any (w : World) (t wd : Int) (t0 : 0 ≤ t) (t1 : t ≤ 180) (w0 : 1 ≤ wd) (w1 : wd ≤ 360) :
    Calls Try.prog 23 #[.int .i64 t, .int .i64 wd] w fun e w' => e = .returned (.int .i64 (parV t wd)) ∧ w = w' := by
  obtain ⟨⟨a0, a1⟩, b0, b1⟩ := par_mul t0 t1 w0 w1
  have HV : Hid (parV t wd = min (rdiv (12000 * t * t) (wd * wd)) 24000) := rfl
  obtain ⟨V, hV⟩ : ∃ V, V = parV t wd := ⟨_, rfl⟩
  rw [← hV] at HV ⊢
  have HD : Hid (∀ W : World, Calls Try.prog 28 #[.int .i64 (12000 * t * t), .int .i64 (wd * wd)] W fun e w' => e = .returned (.int .i64 (rdiv (12000 * t * t) (wd * wd))) ∧ W = w') := fun W => l01Div_any _ _ (by omega) (by omega) W
  obtain ⟨K, hK⟩ : ∃ K, K = rdiv (12000 * t * t) (wd * wd) := ⟨_, rfl⟩
  rw [← hK] at HV HD
  clear hV hK
  go_enter Try.func23, Try.ntmps23
  go_wp2_with fail
  refine (HD.out _).mono ?_
  rintro e w1 ⟨rfl, rfl⟩
  go_wp2_with fail
  refine (cMin_any _ 24000 K).mono ?_
  rintro e w1 ⟨rfl, rfl⟩
  go_wp2_with fail
  go_ret
  exact ⟨ret_int (by rw [HV.out]; omega), rfl⟩
end Go.Proofs.Ytphoamgeipoejaa.ofBeamAntenna
