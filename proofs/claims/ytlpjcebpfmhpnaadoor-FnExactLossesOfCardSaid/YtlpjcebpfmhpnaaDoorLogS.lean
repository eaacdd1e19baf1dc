/-
  Contracts of the reference's logarithm. The conditions are the hypotheses: a positive number.
-/
import Derived.Test.YtlpjcebpfmhpnaaDoorRows
import Derived.Test.YtlpjcebpfmhpnaaDoorLib
import Derived.Test.YtlpjcebpfmhpnaaDoorLogMath
import Derived.Test.YtlpjcebpfmhpnaaDoorInt
import Derived.Outline
namespace Go.Proofs.YtlpjcebpfmhpnaaDoor
open Go.RowKit
set_option linter.unusedSimpArgs false
set_option linter.unusedVariables false
theorem l02Times_any (w : World) (a b : Int) (ha : Nine a) (hb : Nine b) :
    Calls Tryd.prog 94 #[.int .i64 a, .int .i64 b] w fun e w' => e = .returned (.tuple #[.int .i64 (tmX a b), .int .i64 (tmE a b)]) ∧ w = w' := by
  obtain ⟨m1, m2⟩ := nine_mul ha hb
  clear ha hb
  by_cases h : 1000000000 ≤ a * b / 100000000
  · obtain ⟨e1, e2⟩ := tm_hi h
    rw [e1, e2]
    clear e1 e2
    go_enter Tryd.func94, Tryd.ntmps94
    go_wp2
    go_ret2
    exact ⟨rfl, rfl⟩
  · obtain ⟨e1, e2⟩ := tm_lo h
    rw [e1, e2]
    clear e1 e2
    go_enter Tryd.func94, Tryd.ntmps94
    go_wp2
    go_ret2
    exact ⟨rfl, rfl⟩
theorem l02Tenth_any (w : World) (x : Int) (h : Nine x) :
    Calls Tryd.prog 85 #[.int .i64 x] w fun e w' => e = .returned (.tuple #[.int .i64 (tX x), .int .i64 (tE x)]) ∧ w = w' := by
  have h2 := tm_nine h h
  have h4 := tm_nine h2 h2
  have h5 := tm_nine h4 h
  have b1 := tmE_bd x x
  have b2 := tmE_bd (tmX x x) (tmX x x)
  have b3 := tmE_bd (tmX (tmX x x) (tmX x x)) x
  have b4 := tmE_bd (tmX (tmX (tmX x x) (tmX x x)) x) (tmX (tmX (tmX x x) (tmX x x)) x)
  obtain ⟨b11, b12⟩ := b1
  obtain ⟨b21, b22⟩ := b2
  obtain ⟨b31, b32⟩ := b3
  obtain ⟨b41, b42⟩ := b4
  have H := Lib.hid h
  have H2 := Lib.hid h2
  have H4 := Lib.hid h4
  have H5 := Lib.hid h5
  clear h h2 h4 h5
  go_enter Tryd.func85, Tryd.ntmps85
  go_wp2_with fail
  refine (l02Times_any _ _ _ H.out H.out).mono ?_
  rintro e w1 ⟨rfl, rfl⟩
  go_wp2_with fail
  refine (l02Times_any _ _ _ H2.out H2.out).mono ?_
  rintro e w1 ⟨rfl, rfl⟩
  go_wp2_with fail
  refine (l02Times_any _ _ _ H4.out H.out).mono ?_
  rintro e w1 ⟨rfl, rfl⟩
  go_wp2_with fail
  refine (l02Times_any _ _ _ H5.out H5.out).mono ?_
  rintro e w1 ⟨rfl, rfl⟩
  go_wp2_with fail
  go_ret2
  exact ⟨rfl, rfl⟩
set_option maxHeartbeats 1000000 in
theorem l02Log_nat (w : World) (n : Nat) (h1 : 1 ≤ n) (h2 : n ≤ 9223372036854775807) :
    Calls Tryd.prog 68 #[.int .i64 (n : Int)] w fun e w' => e = .returned (.int .i64 (logN n)) ∧ w = w' := by
  have hR := digR_le h1 (by omega)
  have hN := Lib.hid (startX_nine h1)
  have hU := Lib.hid (fun k => up_lt (n := n) (k := k) h1)
  have hL : Hid (logN n = (lgIt 4 (startX n) (digR n)).2) := rfl
  have hS1 := Lib.hid (startX_up (n := n))
  have hS2 := Lib.hid (startX_down (n := n))
  obtain ⟨R, hR0⟩ : ∃ R, R = digR n := ⟨_, rfl⟩
  rw [← hR0] at hR hU hL hS1 hS2
  have HR := Lib.hid hR0
  clear hR0
  generalize logN n = L at *
  obtain ⟨S, hS⟩ : ∃ S, S = startX n := ⟨_, rfl⟩
  rw [← hS] at hN hL hS1 hS2
  clear hS
  have z1 : (1 : Int) ≤ (n : Int) := by omega
  have z2 : (n : Int) ≤ 9223372036854775807 := by omega
  have z3 : (R : Int) ≤ 18 := by omega
  have z4 : (0 : Int) ≤ (R : Int) := by omega
  go_enter Tryd.func68, Tryd.ntmps68
  go_wp2_with fail
  go_loop [3, 4] (fun r m => ∃ k q : Nat, r = .int .i64 (k : Int) ∧ m = .int .i64 (q : Int) ∧ Hid (R = k + digR q) ∧ 1 ≤ q ∧ q ≤ n) (fun _ m => (intOf m).toNat)
  case atStart => exact ⟨0, n, rfl, rfl, by have := HR.out; exact (this.trans (Nat.zero_add _).symm), h1, Nat.le_refl _⟩
  case round =>
    obtain ⟨k, q, rfl, rfl, hr, q1, q2⟩ := hrel
    have k0 : (k : Int) ≤ 18 := by have := hr.out; omega
    have k1 : (0 : Int) ≤ (k : Int) := Int.natCast_nonneg _
    by_cases hq : q < 10
    rotate_left
    · have hq' : (10 : Int) ≤ (q : Int) := by omega
      have q3 : (q : Int) ≤ 9223372036854775807 := by omega
      have hr' : Hid (R = (k + 1) + digR (q / 10)) := by have := hr.out; rw [digR_step hq] at this; exact this.trans (by omega)
      clear hr
      go_wp2_with fail
      go_round
      case rel => exact ⟨k + 1, q / 10, by go_num, by go_num, hr', by omega, by omega⟩
      case measure => simp [intOf]; omega
    have hq' : (q : Int) < 10 := by omega
    obtain rfl : k = R := by have := hr.out; rw [digR_small hq] at this; omega
    clear hr
    by_cases h8 : k ≤ 8
    · have h8' : (k : Int) ≤ 8 := by omega
      go_wp2_with fail
      go_loop [5, 6] (fun x i => ∃ j X : Nat, i = .int .i64 ((k : Int) + (j : Int)) ∧ x = .int .i64 (X : Int) ∧ Hid (X = n * 10 ^ j) ∧ (k : Int) + (j : Int) ≤ 8) (fun _ i => (8 - intOf i).toNat)
      case atStart => exact ⟨0, n, by simp, rfl, by show n = n * 10 ^ 0; simp, by simpa using h8'⟩
      case round =>
        obtain ⟨j, X, rfl, rfl, hX, hj⟩ := hrel
        have j0 : (0 : Int) ≤ (j : Int) := Int.natCast_nonneg _
        have X0 : (0 : Int) ≤ (X : Int) := Int.natCast_nonneg _
        by_cases hlt : (k : Int) + (j : Int) < 8
        · have hX' : Hid (X * 10 = n * 10 ^ (j + 1)) := by have := hX.out; rw [this, Nat.pow_succ, Nat.mul_assoc]; rfl
          have hb := hU.out (j + 1) (by omega)
          rw [← hX'.out] at hb
          have hb' : (X : Int) * 10 ≤ 1000000000 := by omega
          clear hX
          go_wp2_with fail
          go_round
          case rel => exact ⟨j + 1, X * 10, by go_num, by go_num, hX', by omega⟩
          case measure => simp [intOf]; omega
        · have hX' : Hid (X = S) := by
            have e := hS1.out (by omega)
            have := hX.out
            rw [this, e, show 8 - k = j by omega]
            exact rfl
          clear hX
          obtain rfl := hX'.out
          clear hX'
          go_wp2_with fail
          refine wp_loop_rounds 1 ?_
          rw [rounds_succ]
          go_wp2_with fail
          go_loop [3, 5, 8] (fun r x i => ∃ j : Nat, i = .int .i64 (j : Int) ∧ j ≤ 4 ∧ x = .int .i64 (lgIt j (X : Int) (k : Int)).1 ∧ r = .int .i64 (lgIt j (X : Int) (k : Int)).2) (fun _ _ i => 4 - (intOf i).toNat)
          case atStart => exact ⟨0, rfl, by omega, rfl, rfl⟩
          case round =>
            obtain ⟨i, rfl, hi, rfl, rfl⟩ := hrel
            have i0 : (0 : Int) ≤ (i : Int) := Int.natCast_nonneg _
            have n9 := lgIt_nine (x := (X : Int)) (r := (k : Int)) (show Nine _ from ⟨by have := hN.out; omega, by have := hN.out; omega⟩) i
            obtain ⟨d1, d2⟩ := lgIt_bd (x := (X : Int)) z4 z3 i hi
            have e1 : Hid (lgIt (i + 1) (X : Int) (k : Int) = (tX (lgIt i (X : Int) (k : Int)).1, 10 * (lgIt i (X : Int) (k : Int)).2 + tE (lgIt i (X : Int) (k : Int)).1)) := rfl
            obtain ⟨d3, d4⟩ := tE_bd (lgIt i (X : Int) (k : Int)).1
            by_cases hlt : i < 4
            · have hlt' : (i : Int) < 4 := by omega
              have N9 := Lib.hid n9
              clear n9
              generalize (lgIt i (X : Int) (k : Int)).1 = x at *
              generalize (lgIt i (X : Int) (k : Int)).2 = r at *
              go_wp2_with fail
              refine (l02Tenth_any _ _ N9.out).mono ?_
              rintro e w1 ⟨rfl, rfl⟩
              go_wp2_with fail
              go_round
              case rel => exact ⟨i + 1, by go_num, by omega, by rw [e1.out], by rw [e1.out]⟩
              case measure => simp [intOf]; omega
            · obtain rfl : i = 4 := by omega
              clear e1 n9
              go_wp2_with fail
              go_ret
              exact ⟨ret_int hL.out.symm, rfl⟩
    · have h8' : (8 : Int) < (k : Int) := by omega
      go_wp2_with fail
      refine wp_loop_rounds 1 ?_
      rw [rounds_succ]
      go_wp2_with fail
      go_loop [5, 7] (fun x i => ∃ j X : Nat, i = .int .i64 ((k : Int) - (j : Int)) ∧ x = .int .i64 (X : Int) ∧ Hid (X = n / 10 ^ j) ∧ 8 ≤ (k : Int) - (j : Int) ∧ X ≤ n) (fun _ i => (intOf i - 8).toNat)
      case atStart => exact ⟨0, n, by simp, rfl, by show n = n / 10 ^ 0; simp, by simp; omega, Nat.le_refl _⟩
      case round =>
        obtain ⟨j, X, rfl, rfl, hX, hj, hXn⟩ := hrel
        have j0 : (0 : Int) ≤ (j : Int) := Int.natCast_nonneg _
        have X0 : (0 : Int) ≤ (X : Int) := Int.natCast_nonneg _
        have X1 : (X : Int) ≤ 9223372036854775807 := by omega
        by_cases hlt : 8 < (k : Int) - (j : Int)
        · have hX' : Hid (X / 10 = n / 10 ^ (j + 1)) := by have := hX.out; rw [this, Nat.pow_succ, Nat.div_div_eq_div_mul]; rfl
          clear hX
          go_wp2_with fail
          go_round
          case rel => exact ⟨j + 1, X / 10, by go_num, by go_num, hX', by omega, by omega⟩
          case measure => simp [intOf]; omega
        · have hX' : Hid (X = S) := by
            have e := hS2.out (by omega)
            have := hX.out
            rw [this, e, show k - 8 = j by omega]
            exact rfl
          clear hX
          obtain rfl := hX'.out
          clear hX'
          go_wp2_with fail
          go_loop [3, 5, 8] (fun r x i => ∃ j : Nat, i = .int .i64 (j : Int) ∧ j ≤ 4 ∧ x = .int .i64 (lgIt j (X : Int) (k : Int)).1 ∧ r = .int .i64 (lgIt j (X : Int) (k : Int)).2) (fun _ _ i => 4 - (intOf i).toNat)
          case atStart => exact ⟨0, rfl, by omega, rfl, rfl⟩
          case round =>
            obtain ⟨i, rfl, hi, rfl, rfl⟩ := hrel
            have i0 : (0 : Int) ≤ (i : Int) := Int.natCast_nonneg _
            have n9 := lgIt_nine (x := (X : Int)) (r := (k : Int)) (show Nine _ from ⟨by have := hN.out; omega, by have := hN.out; omega⟩) i
            obtain ⟨d1, d2⟩ := lgIt_bd (x := (X : Int)) z4 z3 i hi
            have e1 : Hid (lgIt (i + 1) (X : Int) (k : Int) = (tX (lgIt i (X : Int) (k : Int)).1, 10 * (lgIt i (X : Int) (k : Int)).2 + tE (lgIt i (X : Int) (k : Int)).1)) := rfl
            obtain ⟨d3, d4⟩ := tE_bd (lgIt i (X : Int) (k : Int)).1
            by_cases hlt : i < 4
            · have hlt' : (i : Int) < 4 := by omega
              have N9 := Lib.hid n9
              clear n9
              generalize (lgIt i (X : Int) (k : Int)).1 = x at *
              generalize (lgIt i (X : Int) (k : Int)).2 = r at *
              go_wp2_with fail
              refine (l02Tenth_any _ _ N9.out).mono ?_
              rintro e w1 ⟨rfl, rfl⟩
              go_wp2_with fail
              go_round
              case rel => exact ⟨i + 1, by go_num, by omega, by rw [e1.out], by rw [e1.out]⟩
              case measure => simp [intOf]; omega
            · obtain rfl : i = 4 := by omega
              clear e1 n9
              go_wp2_with fail
              go_ret
              exact ⟨ret_int hL.out.symm, rfl⟩
theorem l02Log_any (w : World) (n : Int) (h1 : 1 ≤ n) (h2 : n ≤ 9223372036854775807) : Calls Tryd.prog 68 #[.int .i64 n] w fun e w' => e = .returned (.int .i64 (logV n)) ∧ w = w' := by
  obtain ⟨m, rfl⟩ : ∃ m : Nat, n = m := ⟨n.toNat, by omega⟩
  rw [logV_pos (by omega)]
  exact l02Log_nat w m (by omega) (by omega)
end Go.Proofs.YtlpjcebpfmhpnaaDoor
