/-
  Contracts of the program's logarithm. The conditions are the hypotheses, and the row's own: the library's table of powers of ten reads as listed.
-/
import Derived.Test.YtlpjcebpfmhpnaaDoorRows
import Derived.Test.YtlpjcebpfmhpnaaDoorLib
import Derived.Test.YtlpjcebpfmhpnaaDoorLogMath
import Derived.Test.YtlpjcebpfmhpnaaDoorInt
import Derived.Test.YtlpjcebpfmhpnaaDoorDec
import Derived.Outline
import Derived.Deep.RegionHeld3
import Derived.Deep.DrawnRows
namespace Go.Proofs.YtlpjcebpfmhpnaaDoor
open Go.RowKit
set_option linter.unusedSimpArgs false
set_option linter.unusedVariables false
theorem itoa_len (n : Nat) (h : 1 ≤ n) : (Lib.itoa (n : Int)).length = digR n + 1 := by
  rw [Lib.itoa_nonneg, Lib.decDigits_length]
  obtain ⟨h1, h2⟩ := digR_pow n h
  exact Lib.nDigits_unique _ _ h1 h2
theorem times_any (w : World) (a e b f : Int) (ha : Nine a) (hb : Nine b) (he : 0 ≤ e ∧ e ≤ 100) (hf : 0 ≤ f ∧ f ≤ 100) :
    Calls Tryd.prog 90 #[.agg #[.int .i64 a, .int .i64 e], .agg #[.int .i64 b, .int .i64 f]] w fun x w' => x = .returned (.agg #[.int .i64 (tmX a b), .int .i64 (e + f + tmE a b)]) ∧ Below w.heap.size w w' := by
  obtain ⟨m1, m2⟩ := nine_mul ha hb
  obtain ⟨he0, he1⟩ := he
  obtain ⟨hf0, hf1⟩ := hf
  clear ha hb
  by_cases h : 1000000000 ≤ a * b / 100000000
  · obtain ⟨e1, e2⟩ := tm_hi h
    rw [e1, e2]
    clear e1 e2
    go_enter Tryd.func90, Tryd.ntmps90
    go_wp2
    refine bodyPost_ret (v := .agg #[.int .i64 (a * b / 100000000 / 10), .int .i64 (e + f + 1)]) (by simp [results, Tryd.results90, go_sem]) rfl ⟨rfl, by repeat (first | (with_reducible exact Below.refl _ _) | (with_reducible assumption) | ((with_reducible refine bl_alloc ?_ _ ?_); (focus ((first | omega | (simp <;> omega)); done))) | ((with_reducible refine bl_set ?_ _ ?_); (focus ((first | omega | (simp <;> omega)); done))) | (with_reducible refine below_drewN ?_ _) | (with_reducible refine Below.drew ?_))⟩
  · obtain ⟨e1, e2⟩ := tm_lo h
    rw [e1, e2]
    clear e1 e2
    go_enter Tryd.func90, Tryd.ntmps90
    go_wp2
    refine bodyPost_ret (v := .agg #[.int .i64 (a * b / 100000000), .int .i64 (e + f)]) (by simp [results, Tryd.results90, go_sem]) rfl ⟨by simp, by repeat (first | (with_reducible exact Below.refl _ _) | (with_reducible assumption) | ((with_reducible refine bl_alloc ?_ _ ?_); (focus ((first | omega | (simp <;> omega)); done))) | ((with_reducible refine bl_set ?_ _ ?_); (focus ((first | omega | (simp <;> omega)); done))) | (with_reducible refine below_drewN ?_ _) | (with_reducible refine Below.drew ?_))⟩
theorem LogDb_none (w : World) (n : Int) (h : n < 1) : Calls Tryd.prog 75 #[.int .i64 n] w fun e w' => e = .returned (.int .i64 (logV n)) ∧ Below w.heap.size w w' := by
  rw [logV_none h]
  go_enter Tryd.func75, Tryd.ntmps75
  go_wp2_with fail
  go_ret
  exact ⟨rfl, Below.refl _ _⟩
theorem int_eq {a b : Int} (h : a = b) : Value.int .i64 a = Value.int .i64 b := by rw [h]
set_option maxHeartbeats 4000000 in
theorem LogDb_nat (w : World) (hT : PowTab w) (n : Nat) (h1 : 1 ≤ n) (h2 : n ≤ 9223372036854775807) :
    Calls Tryd.prog 75 #[.int .i64 (n : Int)] w fun e w' => e = .returned (.int .i64 (logN n)) ∧ Below w.heap.size w w' := by
  have hR := digR_le h1 (by omega)
  have hN := Lib.hid (startX_nine h1)
  have hU := Lib.hid (fun k => up_lt (n := n) (k := k) h1)
  have hL : Hid (logN n = (lgIt 4 (startX n) (digR n)).2) := rfl
  have hI : Hid ((ByteArray.mk (Lib.itoa (n : Int)).toArray).size = digR n + 1) := by
    show (Lib.itoa (n : Int)).toArray.size = digR n + 1
    rw [List.size_toArray]
    exact itoa_len n h1
  obtain ⟨A, hA⟩ : ∃ A : Nat, (A : Int) = max (8 - (digR n : Int)) 0 := ⟨8 - digR n, by omega⟩
  obtain ⟨B, hB⟩ : ∃ B : Nat, (B : Int) = max ((digR n : Int) - 8) 0 := ⟨digR n - 8, by omega⟩
  have hS := Lib.hid (startX_both hA hB)
  obtain ⟨R, hR0⟩ : ∃ R, R = digR n := ⟨_, rfl⟩
  rw [← hR0] at hR hU hL hI hA hB
  clear hR0
  generalize logN n = L at *
  obtain ⟨S, hS0⟩ : ∃ S, S = startX n := ⟨_, rfl⟩
  rw [← hS0] at hN hL hS
  clear hS0
  have z1 : (1 : Int) ≤ (n : Int) := by omega
  have z2 : (n : Int) ≤ 9223372036854775807 := by omega
  have z3 : (R : Int) ≤ 18 := by omega
  have z4 : (0 : Int) ≤ (R : Int) := by omega
  have z5 : (A : Int) ≤ 8 := by omega
  have z6 : (B : Int) ≤ 10 := by omega
  have z7 : 1 ≤ A → R + A ≤ 8 := by omega
  have hA' : max (8 - (R : Int)) 0 = (A : Int) := hA.symm
  have hB' : max ((R : Int) - 8) 0 = (B : Int) := hB.symm
  have Z7 := Lib.hid z7
  have HT := Lib.hid hT
  clear hT hA hB z7
  go_enter Tryd.func75, Tryd.ntmps75
  go_wp2_with fail
  refine (Decimal_any _ HT.out (n : Int) (by omega)).mono ?_
  rintro e w1 ⟨he, hb⟩
  obtain ⟨d, hd⟩ : ∃ d : ByteArray, d = ⟨(Lib.itoa (n : Int)).toArray⟩ := ⟨_, rfl⟩
  rw [← hd] at he hI
  have hI' := hI.out
  clear hd hI
  subst he
  have HB := Lib.hid hb
  clear hb
  go_wp2_with fail
  go_loop [4, 18] (fun x i => ∃ j X : Nat, i = .int .i64 (j : Int) ∧ x = .int .i64 (X : Int) ∧ Hid (X = n * 10 ^ j) ∧ j ≤ A ∧ X ≤ 9223372036854775807) (fun _ i => (8 - intOf i).toNat)
  case atStart => exact ⟨0, n, rfl, rfl, by show n = n * 10 ^ 0; simp, Nat.zero_le _, h2⟩
  case round =>
    obtain ⟨j, X, rfl, rfl, hX, hj, hXm⟩ := hrel
    have j0 : (0 : Int) ≤ (j : Int) := Int.natCast_nonneg _
    have X0 : (0 : Int) ≤ (X : Int) := Int.natCast_nonneg _
    by_cases hlt : j < A
    · have hX' : Hid (X * 10 = n * 10 ^ (j + 1)) := by have := hX.out; rw [this, Nat.pow_succ, Nat.mul_assoc]; rfl
      have hb := hU.out (j + 1) (by have := Z7.out; omega)
      rw [← hX'.out] at hb
      have hb' : (X : Int) * 10 ≤ 1000000000 := by omega
      clear hX hb
      go_wp2_with fail
      go_round
      case rel => exact ⟨j + 1, X * 10, by go_num, by go_num, hX', by omega, by omega⟩
      case measure => simp [intOf]; omega
    · obtain rfl : j = A := by omega
      have hS' : Hid (S = X / 10 ^ B) := by have := hS.out; rw [← hX.out] at this; exact this
      clear hX hS hU hlt hj
      go_wp2_with fail
      go_loop [4, 26] (fun x i => ∃ j Y : Nat, i = .int .i64 (j : Int) ∧ x = .int .i64 (Y : Int) ∧ Hid (Y = X / 10 ^ j) ∧ j ≤ B ∧ Y ≤ X) (fun _ i => (20 - intOf i).toNat)
      case atStart => exact ⟨0, X, rfl, rfl, by show X = X / 10 ^ 0; simp, Nat.zero_le _, Nat.le_refl _⟩
      case round =>
        obtain ⟨i, Y, rfl, rfl, hY, hi, hYX⟩ := hrel
        have i0 : (0 : Int) ≤ (i : Int) := Int.natCast_nonneg _
        have Y0 : (0 : Int) ≤ (Y : Int) := Int.natCast_nonneg _
        have Y1 : (Y : Int) ≤ 9223372036854775807 := by omega
        by_cases hlt : i < B
        · have hY' : Hid (Y / 10 = X / 10 ^ (i + 1)) := by have := hY.out; rw [this, Nat.pow_succ, Nat.div_div_eq_div_mul]; rfl
          clear hY
          go_wp2_with fail
          go_round
          case rel => exact ⟨i + 1, Y / 10, by go_num, by go_num, hY', by omega, by omega⟩
          case measure => simp [intOf]; omega
        · obtain rfl : i = B := by omega
          have hX' : Hid (Y = S) := hY.out.trans hS'.out.symm
          clear hY hS' hlt hi hYX
          obtain rfl := hX'.out
          clear hX' hXm X0
          go_wp2_with fail
          go_loopw [3, 4, 31] (fun r x i wr => ∃ j : Nat, i = .int .i64 (j : Int) ∧ j ≤ 4 ∧ x = .int .i64 (lgIt j (Y : Int) (R : Int)).1 ∧ r = .int .i64 (lgIt j (Y : Int) (R : Int)).2 ∧ Below w.heap.size w wr) (fun _ _ i _ => 4 - (intOf i).toNat)
          case atStart => exact ⟨0, rfl, by omega, rfl, rfl, HB.out⟩
          case round =>
            obtain ⟨i, rfl, hi, rfl, rfl, hb⟩ := hrel
            have i0 : (0 : Int) ≤ (i : Int) := Int.natCast_nonneg _
            have n9 := lgIt_nine (x := (Y : Int)) (r := (R : Int)) (show Nine _ from ⟨by have := hN.out; omega, by have := hN.out; omega⟩) i
            obtain ⟨d1, d2⟩ := lgIt_bd (x := (Y : Int)) z4 z3 i hi
            have e1 : Hid (lgIt (i + 1) (Y : Int) (R : Int) = (tX (lgIt i (Y : Int) (R : Int)).1, 10 * (lgIt i (Y : Int) (R : Int)).2 + tE (lgIt i (Y : Int) (R : Int)).1)) := rfl
            obtain ⟨d3, d4⟩ := tE_bd (lgIt i (Y : Int) (R : Int)).1
            have HBr := Lib.hid hb
            have zr : w.heap.size ≤ wr.heap.size := hb.size
            clear hb
            by_cases hlt : i < 4
            · have hlt' : (i : Int) < 4 := by omega
              generalize (lgIt i (Y : Int) (R : Int)).1 = x at *
              generalize (lgIt i (Y : Int) (R : Int)).2 = r at *
              have n2 := tm_nine n9 n9
              have n4 := tm_nine n2 n2
              have n5 := tm_nine n4 n9
              have q1 := tmE_bd x x
              have q2 := tmE_bd (tmX x x) (tmX x x)
              have q3 := tmE_bd (tmX (tmX x x) (tmX x x)) x
              have q4 := tmE_bd (tmX (tmX (tmX x x) (tmX x x)) x) (tmX (tmX (tmX x x) (tmX x x)) x)
              have N1 := Lib.hid n9
              have N2 := Lib.hid n2
              have N4 := Lib.hid n4
              have N5 := Lib.hid n5
              clear n9 n2 n4 n5
              go_wp2_with fail
              refine (times_any _ x 0 x 0 N1.out N1.out (by omega) (by omega)).mono ?_
              rintro e w2 ⟨rfl, hb⟩
              have HB2 := Lib.hid (show Below w.heap.size w w2 by repeat (first | (with_reducible exact Below.refl _ _) | (with_reducible assumption) | ((with_reducible refine bl_alloc ?_ _ ?_); (focus ((first | omega | (simp <;> omega)); done))) | ((with_reducible refine bl_set ?_ _ ?_); (focus ((first | omega | (simp <;> omega)); done))) | (with_reducible refine below_drewN ?_ _) | (with_reducible refine Below.drew ?_) | ((with_reducible refine bl_trans ?_ hb ?_); (focus ((first | omega | (simp <;> omega)); done))) | ((with_reducible refine bl_trans ?_ HBr.out ?_); (focus ((first | omega | (simp <;> omega)); done)))))
              have f50 := keeps hb (p := ⟨wr.heap.size, 0, none⟩) (v := .int .i64 x) (by simp [go_sem])
              have f51 := keeps hb (p := ⟨wr.heap.size, 1, none⟩) (v := .int .i64 0) (by simp [go_sem])
              have g5 : wr.heap.size < w2.heap.size := block_of_cell f50
              clear hb
              go_wp2_with fail
              have n21 : w2.heap.size + 1 ≠ wr.heap.size := by omega
              have n22 : w2.heap.size + 1 + 1 ≠ wr.heap.size := by omega
              go_region_held3 (fun w' => w'.cell? ⟨w2.heap.size, 0, none⟩ = some (.int .i64 (tmX x x)) ∧ w'.cell? ⟨w2.heap.size, 1, none⟩ = some (.int .i64 (tmE x x)) ∧ w'.cell? ⟨wr.heap.size, 0, none⟩ = some (.int .i64 x) ∧ w'.cell? ⟨wr.heap.size, 1, none⟩ = some (.int .i64 0))
                (first | (refine ⟨?_, ?_, ?_, ?_⟩ <;> assumption) | (go_split_ands; (refine ⟨?_, ?_, ?_, ?_⟩ <;> first | assumption | (refine keeps hb4 ?_; assumption) | (refine keeps hb3 ?_; assumption) | (refine cell_realloc ?_ (by assumption); omega) | (refine cell_alloc ?_ _; assumption) | (refine cell_set2 ?_ ?_ (by assumption) <;> omega))) | (refine ⟨?_, ?_, ?_, ?_⟩ <;> go_keep))
                (first
                  | (go_at_call 90; ((with_reducible refine (times_any _ (tmX x x) (tmE x x) (tmX x x) (tmE x x) N2.out N2.out (by omega) (by omega)).mono ?_); rintro e w3 ⟨rfl, hb3⟩; obtain ⟨hc3, hf3⟩ := bcell hb3; (try (have g33 : w2.heap.size + 1 < w3.heap.size := (by have := hb3.size; simp at this; omega))); have g3 : w2.heap.size < w3.heap.size := (by have := hb3.size; (try simp at this); omega); have n31 : w3.heap.size ≠ w2.heap.size := (by omega); have n32 : w3.heap.size ≠ wr.heap.size := (by omega); have n33 : w3.heap.size + 1 ≠ w2.heap.size := (by omega); have n34 : w3.heap.size + 1 ≠ wr.heap.size := (by omega)))
                  | (go_at_call 90; ((with_reducible refine (times_any _ (tmX (tmX x x) (tmX x x)) (tmE x x + tmE x x + tmE (tmX x x) (tmX x x)) x 0 N4.out N1.out (by omega) (by omega)).mono ?_); rintro e w4 ⟨rfl, hb4⟩; obtain ⟨hc4, hf4⟩ := bcell hb4; (try (have g44 : w3.heap.size < w4.heap.size := (by have := hb4.size; simp at this; omega))); have g4 : w3.heap.size ≤ w4.heap.size := (by have := hb4.size; (try simp at this); omega); have n41 : w4.heap.size ≠ w2.heap.size := (by omega); have n42 : w4.heap.size ≠ wr.heap.size := (by omega))))
              · have HB4 := Lib.hid (show Below w.heap.size w w4 by repeat (first | (with_reducible exact Below.refl _ _) | (with_reducible assumption) | ((with_reducible refine bl_alloc ?_ _ ?_); (focus ((first | omega | (simp <;> omega)); done))) | ((with_reducible refine bl_set ?_ _ ?_); (focus ((first | omega | (simp <;> omega)); done))) | (with_reducible refine below_drewN ?_ _) | (with_reducible refine Below.drew ?_) | ((with_reducible refine bl_trans ?_ hb4 ?_); (focus ((first | omega | (simp <;> omega)); done))) | ((with_reducible refine bl_trans ?_ hb3 ?_); (focus ((first | omega | (simp <;> omega)); done))) | ((with_reducible refine bl_trans ?_ HB2.out ?_); (focus ((first | omega | (simp <;> omega)); done)))))
                clear hb3 hb4
                go_wp2_with fail
                refine (times_any _ (tmX (tmX (tmX x x) (tmX x x)) x) (tmE x x + tmE x x + tmE (tmX x x) (tmX x x) + tmE (tmX (tmX x x) (tmX x x)) x) (tmX (tmX (tmX x x) (tmX x x)) x) (tmE x x + tmE x x + tmE (tmX x x) (tmX x x) + tmE (tmX (tmX x x) (tmX x x)) x) N5.out N5.out (by omega) (by omega)).mono ?_
                rintro e w5 ⟨rfl, hb5⟩
                have k0 := keeps hb5 (p := ⟨w4.heap.size, 0, none⟩) (v := .int .i64 (tmX (tmX (tmX x x) (tmX x x)) x)) (by simp [go_sem])
                have k1 := keeps hb5 (p := ⟨w4.heap.size, 1, none⟩) (v := .int .i64 (tmE x x + tmE x x + tmE (tmX x x) (tmX x x) + tmE (tmX (tmX x x) (tmX x x)) x)) (by simp [go_sem])
                obtain ⟨r0, r1⟩ := cells_set2 (a := .int .i64 (tmX (tmX (tmX (tmX x x) (tmX x x)) x) (tmX (tmX (tmX x x) (tmX x x)) x))) (b := .int .i64 (tmE x x + tmE x x + tmE (tmX x x) (tmX x x) + tmE (tmX (tmX x x) (tmX x x)) x + (tmE x x + tmE x x + tmE (tmX x x) (tmX x x) + tmE (tmX (tmX x x) (tmX x x)) x) + tmE (tmX (tmX (tmX x x) (tmX x x)) x) (tmX (tmX (tmX x x) (tmX x x)) x))) k0 k1
                obtain ⟨hc5, hf5⟩ := bcell hb5
                have g55 : w4.heap.size < w5.heap.size := block_of_cell k0
                have g56 : w4.heap.size < w4.heap.size + 1 := by omega
                have g57 : w4.heap.size ≤ w5.heap.size := by have := hb5.size; (try simp at this); omega
                have HB5 := Lib.hid (show Below w.heap.size w w5 by repeat (first | (with_reducible exact Below.refl _ _) | (with_reducible assumption) | ((with_reducible refine bl_alloc ?_ _ ?_); (focus ((first | omega | (simp <;> omega)); done))) | ((with_reducible refine bl_set ?_ _ ?_); (focus ((first | omega | (simp <;> omega)); done))) | (with_reducible refine below_drewN ?_ _) | (with_reducible refine Below.drew ?_) | ((with_reducible refine bl_trans ?_ hb5 ?_); (focus ((first | omega | (simp <;> omega)); done))) | ((with_reducible refine bl_trans ?_ HB4.out ?_); (focus ((first | omega | (simp <;> omega)); done)))))
                clear hb5
                go_wp2_with fail
                clear hc5 hf5
                go_quiet (fail)
                go_wp2_with fail
                go_roundw
                case rel => exact ⟨i + 1, by go_num, by omega, by rw [e1.out]; exact rfl, by rw [e1.out]; exact int_eq (by unfold tE; omega), by repeat (first | (with_reducible exact Below.refl _ _) | (with_reducible assumption) | ((with_reducible refine bl_alloc ?_ _ ?_); (focus ((first | omega | (simp <;> omega)); done))) | ((with_reducible refine bl_set ?_ _ ?_); (focus ((first | omega | (simp <;> omega)); done))) | (with_reducible refine below_drewN ?_ _) | (with_reducible refine Below.drew ?_) | ((with_reducible refine bl_trans ?_ HB5.out ?_); (focus ((first | omega | (simp <;> omega)); done))))⟩
                case measure => simp [intOf]; omega
              · have c40 := keeps hb4 (p := ⟨w3.heap.size, 0, none⟩) (v := .int .i64 0) (by simp [go_sem])
                have c41 := keeps hb4 (p := ⟨w3.heap.size, 1, none⟩) (v := .int .i64 0) (by simp [go_sem])
                have g45 : w3.heap.size < w4.heap.size := block_of_cell c40
                have HB4 := Lib.hid (show Below w.heap.size w w4 by repeat (first | (with_reducible exact Below.refl _ _) | (with_reducible assumption) | ((with_reducible refine bl_alloc ?_ _ ?_); (focus ((first | omega | (simp <;> omega)); done))) | ((with_reducible refine bl_set ?_ _ ?_); (focus ((first | omega | (simp <;> omega)); done))) | (with_reducible refine below_drewN ?_ _) | (with_reducible refine Below.drew ?_) | ((with_reducible refine bl_trans ?_ hb4 ?_); (focus ((first | omega | (simp <;> omega)); done))) | ((with_reducible refine bl_trans ?_ hb3 ?_); (focus ((first | omega | (simp <;> omega)); done))) | ((with_reducible refine bl_trans ?_ HB2.out ?_); (focus ((first | omega | (simp <;> omega)); done)))))
                clear hb3 hb4
                go_wp2_with fail
                refine (times_any _ (tmX (tmX (tmX x x) (tmX x x)) x) (tmE x x + tmE x x + tmE (tmX x x) (tmX x x) + tmE (tmX (tmX x x) (tmX x x)) x) (tmX (tmX (tmX x x) (tmX x x)) x) (tmE x x + tmE x x + tmE (tmX x x) (tmX x x) + tmE (tmX (tmX x x) (tmX x x)) x) N5.out N5.out (by omega) (by omega)).mono ?_
                rintro e w5 ⟨rfl, hb5⟩
                obtain ⟨s0, s1⟩ := cells_set2 (a := .int .i64 (tmX (tmX (tmX x x) (tmX x x)) x)) (b := .int .i64 (tmE x x + tmE x x + tmE (tmX x x) (tmX x x) + tmE (tmX (tmX x x) (tmX x x)) x)) c40 c41
                have k0 := keeps hb5 s0
                have k1 := keeps hb5 s1
                obtain ⟨r0, r1⟩ := cells_set2 (a := .int .i64 (tmX (tmX (tmX (tmX x x) (tmX x x)) x) (tmX (tmX (tmX x x) (tmX x x)) x))) (b := .int .i64 (tmE x x + tmE x x + tmE (tmX x x) (tmX x x) + tmE (tmX (tmX x x) (tmX x x)) x + (tmE x x + tmE x x + tmE (tmX x x) (tmX x x) + tmE (tmX (tmX x x) (tmX x x)) x) + tmE (tmX (tmX (tmX x x) (tmX x x)) x) (tmX (tmX (tmX x x) (tmX x x)) x))) k0 k1
                obtain ⟨hc5, hf5⟩ := bcell hb5
                have g55 : w3.heap.size < w5.heap.size := block_of_cell k0
                have g56 : w3.heap.size < w4.heap.size + 1 := by omega
                have g57 : w4.heap.size ≤ w5.heap.size := by have := hb5.size; (try simp at this); omega
                have HB5 := Lib.hid (show Below w.heap.size w w5 by repeat (first | (with_reducible exact Below.refl _ _) | (with_reducible assumption) | ((with_reducible refine bl_alloc ?_ _ ?_); (focus ((first | omega | (simp <;> omega)); done))) | ((with_reducible refine bl_set ?_ _ ?_); (focus ((first | omega | (simp <;> omega)); done))) | (with_reducible refine below_drewN ?_ _) | (with_reducible refine Below.drew ?_) | ((with_reducible refine bl_trans ?_ hb5 ?_); (focus ((first | omega | (simp <;> omega)); done))) | ((with_reducible refine bl_trans ?_ HB4.out ?_); (focus ((first | omega | (simp <;> omega)); done)))))
                clear hb5
                go_wp2_with fail
                clear hc5 hf5
                go_quiet (fail)
                go_wp2_with fail
                go_roundw
                case rel => exact ⟨i + 1, by go_num, by omega, by rw [e1.out]; exact rfl, by rw [e1.out]; exact int_eq (by unfold tE; omega), by repeat (first | (with_reducible exact Below.refl _ _) | (with_reducible assumption) | ((with_reducible refine bl_alloc ?_ _ ?_); (focus ((first | omega | (simp <;> omega)); done))) | ((with_reducible refine bl_set ?_ _ ?_); (focus ((first | omega | (simp <;> omega)); done))) | (with_reducible refine below_drewN ?_ _) | (with_reducible refine Below.drew ?_) | ((with_reducible refine bl_trans ?_ HB5.out ?_); (focus ((first | omega | (simp <;> omega)); done))))⟩
                case measure => simp [intOf]; omega
              · have c30 := keeps hb3 (p := ⟨w2.heap.size + 1, 0, none⟩) (v := .int .i64 0) (by simp [go_sem])
                have c31 := keeps hb3 (p := ⟨w2.heap.size + 1, 1, none⟩) (v := .int .i64 0) (by simp [go_sem])
                have g34 : w2.heap.size + 1 < w3.heap.size := block_of_cell c30
                have c40 := keeps hb4 c30
                have c41 := keeps hb4 c31
                have g45 : w2.heap.size + 1 < w4.heap.size := block_of_cell c40
                have HB4 := Lib.hid (show Below w.heap.size w w4 by repeat (first | (with_reducible exact Below.refl _ _) | (with_reducible assumption) | ((with_reducible refine bl_alloc ?_ _ ?_); (focus ((first | omega | (simp <;> omega)); done))) | ((with_reducible refine bl_set ?_ _ ?_); (focus ((first | omega | (simp <;> omega)); done))) | (with_reducible refine below_drewN ?_ _) | (with_reducible refine Below.drew ?_) | ((with_reducible refine bl_trans ?_ hb4 ?_); (focus ((first | omega | (simp <;> omega)); done))) | ((with_reducible refine bl_trans ?_ hb3 ?_); (focus ((first | omega | (simp <;> omega)); done))) | ((with_reducible refine bl_trans ?_ HB2.out ?_); (focus ((first | omega | (simp <;> omega)); done)))))
                clear hb3 hb4
                go_wp2_with fail
                refine (times_any _ (tmX (tmX (tmX x x) (tmX x x)) x) (tmE x x + tmE x x + tmE (tmX x x) (tmX x x) + tmE (tmX (tmX x x) (tmX x x)) x) (tmX (tmX (tmX x x) (tmX x x)) x) (tmE x x + tmE x x + tmE (tmX x x) (tmX x x) + tmE (tmX (tmX x x) (tmX x x)) x) N5.out N5.out (by omega) (by omega)).mono ?_
                rintro e w5 ⟨rfl, hb5⟩
                obtain ⟨s0, s1⟩ := cells_set2 (a := .int .i64 (tmX (tmX (tmX x x) (tmX x x)) x)) (b := .int .i64 (tmE x x + tmE x x + tmE (tmX x x) (tmX x x) + tmE (tmX (tmX x x) (tmX x x)) x)) c40 c41
                have k0 := keeps hb5 s0
                have k1 := keeps hb5 s1
                obtain ⟨r0, r1⟩ := cells_set2 (a := .int .i64 (tmX (tmX (tmX (tmX x x) (tmX x x)) x) (tmX (tmX (tmX x x) (tmX x x)) x))) (b := .int .i64 (tmE x x + tmE x x + tmE (tmX x x) (tmX x x) + tmE (tmX (tmX x x) (tmX x x)) x + (tmE x x + tmE x x + tmE (tmX x x) (tmX x x) + tmE (tmX (tmX x x) (tmX x x)) x) + tmE (tmX (tmX (tmX x x) (tmX x x)) x) (tmX (tmX (tmX x x) (tmX x x)) x))) k0 k1
                obtain ⟨hc5, hf5⟩ := bcell hb5
                have g55 : w2.heap.size + 1 < w5.heap.size := block_of_cell k0
                have g56 : w2.heap.size + 1 < w4.heap.size + 1 := by omega
                have g57 : w4.heap.size ≤ w5.heap.size := by have := hb5.size; (try simp at this); omega
                have HB5 := Lib.hid (show Below w.heap.size w w5 by repeat (first | (with_reducible exact Below.refl _ _) | (with_reducible assumption) | ((with_reducible refine bl_alloc ?_ _ ?_); (focus ((first | omega | (simp <;> omega)); done))) | ((with_reducible refine bl_set ?_ _ ?_); (focus ((first | omega | (simp <;> omega)); done))) | (with_reducible refine below_drewN ?_ _) | (with_reducible refine Below.drew ?_) | ((with_reducible refine bl_trans ?_ hb5 ?_); (focus ((first | omega | (simp <;> omega)); done))) | ((with_reducible refine bl_trans ?_ HB4.out ?_); (focus ((first | omega | (simp <;> omega)); done)))))
                clear hb5
                go_wp2_with fail
                clear hc5 hf5
                go_quiet (fail)
                go_wp2_with fail
                go_roundw
                case rel => exact ⟨i + 1, by go_num, by omega, by rw [e1.out]; exact rfl, by rw [e1.out]; exact int_eq (by unfold tE; omega), by repeat (first | (with_reducible exact Below.refl _ _) | (with_reducible assumption) | ((with_reducible refine bl_alloc ?_ _ ?_); (focus ((first | omega | (simp <;> omega)); done))) | ((with_reducible refine bl_set ?_ _ ?_); (focus ((first | omega | (simp <;> omega)); done))) | (with_reducible refine below_drewN ?_ _) | (with_reducible refine Below.drew ?_) | ((with_reducible refine bl_trans ?_ HB5.out ?_); (focus ((first | omega | (simp <;> omega)); done))))⟩
                case measure => simp [intOf]; omega
            · obtain rfl : i = 4 := by omega
              clear e1 n9
              go_wp2_with fail
              go_ret
              exact ⟨ret_int hL.out.symm, HBr.out⟩
theorem LogDb_any (w : World) (hT : PowTab w) (n : Int) (ia : In64 n) : Calls Tryd.prog 75 #[.int .i64 n] w fun e w' => e = .returned (.int .i64 (logV n)) ∧ Below w.heap.size w w' := by
  by_cases h : n < 1
  · exact LogDb_none w n h
  · obtain ⟨m, rfl⟩ : ∃ m : Nat, n = m := ⟨n.toNat, by omega⟩
    rw [logV_pos (by omega)]
    exact LogDb_nat w hT m (by omega) (by have := ia.hi; omega)
end Go.Proofs.YtlpjcebpfmhpnaaDoor
