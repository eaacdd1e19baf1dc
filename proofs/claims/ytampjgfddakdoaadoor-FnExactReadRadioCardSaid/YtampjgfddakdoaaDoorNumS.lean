/-
  A number read off a text: the reference's. The conditions are the hypotheses.
-/
import Derived.Test.YtampjgfddakdoaaDoorRows
import Derived.Test.YtampjgfddakdoaaDoorLib
import Derived.Test.YtampjgfddakdoaaDoorNumP
namespace Go.Proofs.YtampjgfddakdoaaDoor
open Go.RowKit
set_option linter.unusedSimpArgs false
set_option linter.unusedVariables false
theorem at_get {s : ByteArray} {j : Nat} (h : j < s.size) : s.data.toList.drop j = (s[j]'h) :: s.data.toList.drop (j + 1) := by
  have hl : j < s.data.toList.length := by simpa using h
  rw [List.drop_eq_getElem_cons hl]
  rfl
theorem size_len (s : ByteArray) : s.data.toList.length = s.size := by simp
theorem toNat_eq {b : UInt8} {n : Nat} (h : b.toNat = n) (hn : n < 256) : b = UInt8.ofNat n := by
  subst h
  simp
theorem num_empty {s : ByteArray} (h : s.size = 0) : numL s.data.toList = none := by
  rw [List.eq_nil_of_length_eq_zero (show s.data.toList.length = 0 by simpa using h)]
  decide
theorem dash_form {s : ByteArray} (hl : 0 < s.size) (hb : (s[0]'hl).toNat = 45) : s.data.toList = 45 :: s.data.toList.drop 1 := by
  have h := at_get hl
  rw [toNat_eq hb (by omega)] at h
  simpa using h
theorem dash_tail {s : ByteArray} (hl : 0 < s.size) (hb : (s[0]'hl).toNat = 45) : tailN s.data.toList = s.data.toList.drop 1 ∧ s.data.toList.head? = some 45 := by
  have h := dash_form hl hb
  have h2 : s.data.toList.head? = some 45 := by rw [h]; rfl
  refine ⟨?_, h2⟩
  unfold tailN
  rw [if_pos h2]
  conv => lhs; rw [h]
  rfl
theorem plain_tail {s : ByteArray} (hl : 0 < s.size) (hb : (s[0]'hl).toNat ≠ 45) : tailN s.data.toList = s.data.toList ∧ s.data.toList.head? ≠ some 45 := by
  have h := at_get hl
  have h2 : s.data.toList.head? = some (s[0]'hl) := by
    rw [List.drop_zero] at h
    rw [h]
    rfl
  have h3 : s.data.toList.head? ≠ some 45 := by
    rw [h2]
    intro q
    injection q with q
    rw [q] at hb
    exact hb rfl
  refine ⟨?_, h3⟩
  unfold tailN
  rw [if_neg h3]
theorem head_drop {s : ByteArray} {j : Nat} (h : j < s.size) : (s.data.toList.drop j).head? = some (s[j]'h) := by
  rw [at_get h]
  rfl
theorem num_dash_bad {s : ByteArray} (hl : 0 < s.size) (hb : (s[0]'hl).toNat = 45) (h : s.size = 1 ∨ 18 < s.size - 1 ∨ ∃ h1 : 1 < s.size, (s[1]'h1).toNat = 48) : numL s.data.toList = none := by
  obtain ⟨e1, e2⟩ := dash_tail hl hb
  unfold numL
  rw [e1, List.length_drop, size_len]
  apply if_pos
  rcases h with h | h | ⟨h1, h⟩
  · exact .inl (by omega)
  · exact .inr (.inl h)
  · refine .inr (.inr ⟨?_, h1⟩)
    rw [head_drop h1, toNat_eq h (by omega)]
    rfl
theorem num_dash_ok {s : ByteArray} (hl : 0 < s.size) (hb : (s[0]'hl).toNat = 45) (h1 : 1 < s.size) (h18 : s.size - 1 ≤ 18) (h48 : (s[1]'h1).toNat ≠ 48) : numL s.data.toList = (Lib.decFrom 0 (s.data.toList.drop 1)).map fun (n : Nat) => -(n : Int) := by
  obtain ⟨e1, e2⟩ := dash_tail hl hb
  unfold numL
  rw [e1, List.length_drop, size_len, if_neg, e2]
  · simp
  · rintro (h | h | ⟨h, _⟩)
    · omega
    · omega
    · rw [head_drop h1] at h
      injection h with h
      rw [h] at h48
      exact h48 rfl
theorem num_plain_bad {s : ByteArray} (hl : 0 < s.size) (hb : (s[0]'hl).toNat ≠ 45) (h : 18 < s.size ∨ ((s[0]'hl).toNat = 48 ∧ 1 < s.size)) : numL s.data.toList = none := by
  obtain ⟨e1, e2⟩ := plain_tail hl hb
  unfold numL
  rw [e1, size_len]
  apply if_pos
  rcases h with h | ⟨h, h1⟩
  · exact .inr (.inl h)
  · refine .inr (.inr ⟨?_, h1⟩)
    have := head_drop hl
    rw [List.drop_zero] at this
    rw [this, toNat_eq h (by omega)]
    rfl
theorem num_plain_ok {s : ByteArray} (hl : 0 < s.size) (hb : (s[0]'hl).toNat ≠ 45) (h18 : s.size ≤ 18) (h48 : ¬ ((s[0]'hl).toNat = 48 ∧ 1 < s.size)) : numL s.data.toList = (Lib.decFrom 0 (s.data.toList.drop 0)).map fun (n : Nat) => (n : Int) := by
  obtain ⟨e1, e2⟩ := plain_tail hl hb
  unfold numL
  rw [e1, size_len, if_neg, List.drop_zero]
  · congr 1
    funext n
    rw [if_neg e2]
  · rintro (h | h | ⟨h, h1⟩)
    · omega
    · omega
    · have := head_drop hl
      rw [List.drop_zero, h] at this
      injection this with this
      rw [← this] at h48
      exact h48 ⟨rfl, h1⟩
theorem dec_step {s : ByteArray} {j acc : Nat} (h : j < s.size) (h0 : 48 ≤ (s[j]'h).toNat) (h1 : (s[j]'h).toNat ≤ 57) : Lib.decFrom acc (s.data.toList.drop j) = Lib.decFrom (acc * 10 + ((s[j]'h).toNat - 48)) (s.data.toList.drop (j + 1)) := by
  rw [at_get h]
  simp only [Lib.decFrom, Lib.digitVal, if_pos (show 48 ≤ (s[j]'h).toNat ∧ (s[j]'h).toNat ≤ 57 from ⟨h0, h1⟩)]
theorem dec_nil_ {s : ByteArray} {j acc : Nat} (h : j < s.size) (h0 : ¬ (48 ≤ (s[j]'h).toNat ∧ (s[j]'h).toNat ≤ 57)) : Lib.decFrom acc (s.data.toList.drop j) = none := by
  rw [at_get h]
  simp only [Lib.decFrom, Lib.digitVal, if_neg h0]
theorem dec_end {s : ByteArray} {acc : Nat} : Lib.decFrom acc (s.data.toList.drop s.size) = some acc := by
  rw [List.drop_of_length_le (by rw [size_len]; exact Nat.le_refl _)]
  rfl
def numV (l : List UInt8) : Int := (numL l).getD 0
def numB (l : List UInt8) : Bool := (numL l).isSome
theorem numV_none {l : List UInt8} (h : numL l = none) : numV l = 0 ∧ numB l = false := by simp [numV, numB, h]
theorem numV_some {l : List UInt8} {n : Int} (h : numL l = some n) : numV l = n ∧ numB l = true := by simp [numV, numB, h]
theorem l01Digit_any (w : World) (n : Nat) : Calls Tryd.prog 47 #[.int .u8 n] w fun e w' => e = .returned (.bool (decide (48 ≤ n ∧ n ≤ 57))) ∧ w' = w := by
  rcases in_cases (n : Int) 48 57 with ⟨h1, h2⟩ | h1 | ⟨h1, h2⟩
  · have he : decide (48 ≤ n ∧ n ≤ 57) = true := decide_eq_true (by omega)
    rw [he]
    clear he
    go_enter Tryd.func47, Tryd.ntmps47
    go_wp2_with fail
    go_ret
    exact ⟨rfl, rfl⟩
  · have hq := of_decide_eq_false h1
    have he : decide (48 ≤ n ∧ n ≤ 57) = false := decide_eq_false (by omega)
    rw [he]
    clear he
    go_enter Tryd.func47, Tryd.ntmps47
    go_wp2_with fail
    go_ret
    exact ⟨rfl, rfl⟩
  · have hq := of_decide_eq_false h2
    have he : decide (48 ≤ n ∧ n ≤ 57) = false := decide_eq_false (by omega)
    rw [he]
    clear he
    go_enter Tryd.func47, Tryd.ntmps47
    go_wp2_with fail
    go_ret
    exact ⟨rfl, rfl⟩
set_option maxRecDepth 20000 in
set_option maxHeartbeats 8000000 in
theorem l01Number_any (w : World) (s : ByteArray) (hs : s.size ≤ 4294967280) :
    Calls Tryd.prog 30 #[.string s] w fun e w' => e = .returned (.tuple #[.int .i64 (numV s.data.toList), .bool (numB s.data.toList)]) ∧ w' = w := by
  by_cases h0 : s.size = 0
  · have HN := Lib.hid (numV_none (num_empty h0))
    go_enter Tryd.func30, Tryd.ntmps30
    go_wp2_with fail
    refine bodyPost_ret (v := .tuple #[.int .i64 0, .bool false]) (by simp [results, Tryd.results30, go_sem, *]) rfl ?_
    rw [HN.out.1, HN.out.2]
    exact ⟨rfl, rfl⟩
  have hl : 0 < s.size := by omega
  have z0 : (0 : Int) < (s.size : Int) := by omega
  have z1 : ¬ (s.size : Int) = 0 := by omega
  have z2 : ((s.size : Int) == 0) = false := by rw [beq_eq_false_iff_ne]; exact z1
  by_cases hb : (s[0]'hl).toNat = 45
  · by_cases h1 : s.size = 1
    · have HN := Lib.hid (numV_none (num_dash_bad hl hb (.inl h1)))
      go_enter Tryd.func30, Tryd.ntmps30
      go_wp2_with fail
      refine bodyPost_ret (v := .tuple #[.int .i64 0, .bool false]) (by simp [results, Tryd.results30, go_sem, *]) rfl ?_
      rw [HN.out.1, HN.out.2]
      exact ⟨rfl, rfl⟩
    have h1' : 1 < s.size := by omega
    have y1 : ¬ (s.size : Int) = 1 := by omega
    have y2 : ((s.size : Int) == 1) = false := by rw [beq_eq_false_iff_ne]; exact y1
    have y3 : (1 : Int) < (s.size : Int) := by omega
    by_cases h18 : 18 < s.size - 1
    · have HN := Lib.hid (numV_none (num_dash_bad hl hb (.inr (.inl h18))))
      have y4 : (18 : Int) < (s.size : Int) - 1 := by omega
      go_enter Tryd.func30, Tryd.ntmps30
      go_wp2_with fail
      refine bodyPost_ret (v := .tuple #[.int .i64 0, .bool false]) (by simp [results, Tryd.results30, go_sem, *]) rfl ?_
      rw [HN.out.1, HN.out.2]
      exact ⟨rfl, rfl⟩
    have y4 : (s.size : Int) - 1 ≤ 18 := by omega
    by_cases h48 : (s[1]'h1').toNat = 48
    · have HN := Lib.hid (numV_none (num_dash_bad hl hb (.inr (.inr ⟨h1', h48⟩))))
      go_enter Tryd.func30, Tryd.ntmps30
      go_wp2_with fail
      refine bodyPost_ret (v := .tuple #[.int .i64 0, .bool false]) (by simp [results, Tryd.results30, go_sem, *]) rfl ?_
      rw [HN.out.1, HN.out.2]
      exact ⟨rfl, rfl⟩
    have HX := Lib.hid (num_dash_ok hl hb h1' (by omega) h48)
    obtain ⟨R, hR⟩ : ∃ R, R = Lib.decFrom 0 (s.data.toList.drop 1) := ⟨_, rfl⟩
    have HR := Lib.hid hR.symm
    rw [← hR] at HX
    clear hR
    obtain ⟨c1, hc1⟩ : ∃ c, (s[1]'h1').toNat = c := ⟨_, rfl⟩
    rw [hc1] at h48
    have h48' : ((c1 : Int) == 48) = false := by rw [beq_eq_false_iff_ne]; omega
    have h48'' : ¬ (c1 : Int) = 48 := by omega
    go_enter Tryd.func30, Tryd.ntmps30
    go_wp2_with fail
    go_loop [5, 6] (fun a i => ∃ k acc : Nat, 1 + k ≤ s.size ∧ i = .int .i64 ((k : Int) + 1) ∧ a = .int .i64 (acc : Int) ∧ Hid (Lib.decFrom acc (s.data.toList.drop (1 + k)) = R) ∧ Hid (acc < 10 ^ k)) (fun _ i => s.size + 1 - (intOf i).toNat)
    case atStart => exact ⟨0, 0, by omega, by simp, rfl, HR.out, (show (0 : Nat) < 10 ^ 0 by decide)⟩
    case round =>
      obtain ⟨k, acc, hk, rfl, rfl, hd, ha⟩ := hrel
      have k0 : (0 : Int) ≤ (k : Int) := Int.natCast_nonneg _
      have a0 : (0 : Int) ≤ (acc : Int) := Int.natCast_nonneg _
      have hp : (10 : Nat) ^ k ≤ 10 ^ 18 := Nat.pow_le_pow_right (by decide) (by omega)
      have ab : acc < 10 ^ 18 := Nat.lt_of_lt_of_le ha.out hp
      have p18 : (10 : Nat) ^ 18 = 1000000000000000000 := by decide
      have ab' : (acc : Int) < 1000000000000000000 := by omega
      by_cases hlt : k + 1 < s.size
      · have hj : 1 + k < s.size := by omega
        have hlt' : (k : Int) + 1 < (s.size : Int) := by omega
        have hix : ((k : Int) + 1).toNat = k + 1 := by omega
        obtain ⟨c, hc⟩ : ∃ c, (s[k + 1]'hlt).toNat = c := ⟨_, rfl⟩
        have hc2 : (s[1 + k]'hj).toNat = c := by rw [← hc]; congr 2; omega
        have c256 : c < 256 := by rw [← hc]; exact UInt8.toNat_lt _
        by_cases hdig : 48 ≤ c ∧ c ≤ 57
        · have hp17 : (10 : Nat) ^ k ≤ 10 ^ 17 := Nat.pow_le_pow_right (by decide) (by omega)
          have p17 : (10 : Nat) ^ 17 = 100000000000000000 := by decide
          have ab17 : (acc : Int) < 100000000000000000 := by have := ha.out; omega
          clear hp17 p17
          have hD : Hid (∀ W : World, Calls Tryd.prog 47 #[.int .u8 (c : Int)] W fun e w' => e = .returned (.bool true) ∧ w' = W) := fun W => by have h := l01Digit_any W c; rw [decide_eq_true hdig] at h; exact h
          have hst := Lib.hid (dec_step (acc := acc) hj (by omega) (by omega))
          rw [hc2] at hst
          have hA : Hid (acc * 10 + (c - 48) < 10 ^ (k + 1)) := by show _ < _; rw [Nat.pow_succ]; have := ha.out; omega
          have hdig' : (48 : Int) ≤ (c : Int) ∧ (c : Int) ≤ 57 := by omega
          obtain ⟨ci, hci⟩ : ∃ ci : Int, (c : Int) = ci := ⟨_, rfl⟩
          have hcv : (acc * 10 + (c - 48) : Nat) = 10 * (acc : Int) + (ci - 48) := by omega
          have HCV := Lib.hid hcv
          have HST := hst
          rw [hci] at hD hdig'
          obtain ⟨d1, d2⟩ := hdig'
          have w1 : IntKind.i64.wrap (10 * (acc : Int)) = 10 * (acc : Int) := by rw [IntKind.wrap_i64]; omega
          have w2 : IntKind.u8.wrap (ci - 48) = ci - 48 := by rw [IntKind.wrap_u8]; omega
          have w3 : IntKind.i64.wrap (ci - 48) = ci - 48 := by rw [IntKind.wrap_i64]; omega
          have w4 : IntKind.i64.wrap (10 * (acc : Int) + (ci - 48)) = 10 * (acc : Int) + (ci - 48) := by rw [IntKind.wrap_i64]; omega
          have hnx := Lib.hid (hd.out.symm.trans hst.out)
          clear hst HST hc2 hdig hd ha hcv hp ab p18 c256
          go_wp2_with fail
          refine (hD.out _).mono ?_
          rintro e w1_ ⟨rfl, rfl⟩
          clear hD
          go_wp2_with fail
          go_round
          case rel => exact ⟨k + 1, acc * 10 + (c - 48), by omega, by go_num, by rw [HCV.out], Lib.hid hnx.out.symm, hA⟩
          case measure => simp [intOf]; omega
        · have hD : Hid (∀ W : World, Calls Tryd.prog 47 #[.int .u8 (c : Int)] W fun e w' => e = .returned (.bool false) ∧ w' = W) := fun W => by have h := l01Digit_any W c; rw [decide_eq_false hdig] at h; exact h
          have hn0 := Lib.hid (hd.out.symm.trans (dec_nil_ hj (by rw [hc2]; exact hdig)))
          have HN := Lib.hid (numV_none (HX.out.trans (by rw [hn0.out]; rfl)))
          clear hd ha hp ab p18 c256 hdig hn0
          go_wp2_with fail
          refine (hD.out _).mono ?_
          rintro e w1_ ⟨rfl, rfl⟩
          clear hD
          go_wp2_with fail
          refine bodyPost_ret (v := .tuple #[.int .i64 0, .bool false]) (by simp [results, Tryd.results30, go_sem, *]) rfl ?_
          rw [HN.out.1, HN.out.2]
          exact ⟨rfl, rfl⟩
      · have hkn : 1 + k = s.size := by omega
        have hfin := hd.out
        rw [hkn, dec_end] at hfin
        have HN : Hid (numV s.data.toList = -(acc : Int) ∧ numB s.data.toList = true) := numV_some (HX.out.trans (by rw [← hfin]; rfl))
        clear hd ha hp ab p18 hfin
        obtain ⟨av, hav⟩ : ∃ a : Int, (acc : Int) = a := ⟨_, rfl⟩
        rw [hav] at HN ab' a0 ⊢
        have w5 : IntKind.i64.wrap (-av) = -av := by rw [IntKind.wrap_i64]; omega
        clear hav
        go_wp2_with fail
        refine bodyPost_ret (v := .tuple #[.int .i64 (-av), .bool true]) (by simp [results, Tryd.results30, go_sem, *]) rfl ?_
        rw [HN.out.1, HN.out.2]
        exact ⟨rfl, rfl⟩
  · obtain ⟨c0, hc0⟩ : ∃ c, (s[0]'hl).toNat = c := ⟨_, rfl⟩
    have HB := Lib.hid hb
    rw [hc0] at hb
    have b1 : ((c0 : Int) == 45) = false := by rw [beq_eq_false_iff_ne]; omega
    have b2 : ¬ (c0 : Int) = 45 := by omega
    by_cases h18 : 18 < s.size
    · have HN := Lib.hid (numV_none (num_plain_bad hl HB.out (.inl h18)))
      have y4 : (18 : Int) < (s.size : Int) := by omega
      go_enter Tryd.func30, Tryd.ntmps30
      go_wp2_with fail
      refine bodyPost_ret (v := .tuple #[.int .i64 0, .bool false]) (by simp [results, Tryd.results30, go_sem, *]) rfl ?_
      rw [HN.out.1, HN.out.2]
      exact ⟨rfl, rfl⟩
    have y4 : (s.size : Int) ≤ 18 := by omega
    by_cases h48 : c0 = 48
    · by_cases h1 : 1 < s.size
      · have HN := Lib.hid (numV_none (num_plain_bad hl HB.out (.inr ⟨by rw [hc0]; exact h48, h1⟩)))
        have y5 : (1 : Int) < (s.size : Int) := by omega
        subst h48
        go_enter Tryd.func30, Tryd.ntmps30
        go_wp2_with fail
        refine bodyPost_ret (v := .tuple #[.int .i64 0, .bool false]) (by simp [results, Tryd.results30, go_sem, *]) rfl ?_
        rw [HN.out.1, HN.out.2]
        exact ⟨rfl, rfl⟩
      · have HX := Lib.hid (num_plain_ok hl HB.out (by omega) (by rw [hc0]; omega))
        obtain ⟨R, hR⟩ : ∃ R, R = Lib.decFrom 0 (s.data.toList.drop 0) := ⟨_, rfl⟩
        have HR := Lib.hid hR.symm
        rw [← hR] at HX
        clear hR
        have y5 : (s.size : Int) ≤ 1 := by omega
        subst h48
        go_enter Tryd.func30, Tryd.ntmps30
        go_wp2_with fail
        go_loop [5, 6] (fun a i => ∃ k acc : Nat, 0 + k ≤ s.size ∧ i = .int .i64 ((k : Int)) ∧ a = .int .i64 (acc : Int) ∧ Hid (Lib.decFrom acc (s.data.toList.drop (0 + k)) = R) ∧ Hid (acc < 10 ^ k)) (fun _ i => s.size + 1 - (intOf i).toNat)
        case atStart => exact ⟨0, 0, by omega, by simp, rfl, HR.out, (show (0 : Nat) < 10 ^ 0 by decide)⟩
        case round =>
          obtain ⟨k, acc, hk, rfl, rfl, hd, ha⟩ := hrel
          have k0 : (0 : Int) ≤ (k : Int) := Int.natCast_nonneg _
          have a0 : (0 : Int) ≤ (acc : Int) := Int.natCast_nonneg _
          have hp : (10 : Nat) ^ k ≤ 10 ^ 18 := Nat.pow_le_pow_right (by decide) (by omega)
          have ab : acc < 10 ^ 18 := Nat.lt_of_lt_of_le ha.out hp
          have p18 : (10 : Nat) ^ 18 = 1000000000000000000 := by decide
          have ab' : (acc : Int) < 1000000000000000000 := by omega
          by_cases hlt : k < s.size
          · have hj : 0 + k < s.size := by omega
            have hlt' : (k : Int) < (s.size : Int) := by omega
            have hix : True := trivial
            obtain ⟨c, hc⟩ : ∃ c, (s[k]'hlt).toNat = c := ⟨_, rfl⟩
            have hc2 : (s[0 + k]'hj).toNat = c := by rw [← hc]; congr 2; omega
            have c256 : c < 256 := by rw [← hc]; exact UInt8.toNat_lt _
            by_cases hdig : 48 ≤ c ∧ c ≤ 57
            · have hp17 : (10 : Nat) ^ k ≤ 10 ^ 17 := Nat.pow_le_pow_right (by decide) (by omega)
              have p17 : (10 : Nat) ^ 17 = 100000000000000000 := by decide
              have ab17 : (acc : Int) < 100000000000000000 := by have := ha.out; omega
              clear hp17 p17
              have hD : Hid (∀ W : World, Calls Tryd.prog 47 #[.int .u8 (c : Int)] W fun e w' => e = .returned (.bool true) ∧ w' = W) := fun W => by have h := l01Digit_any W c; rw [decide_eq_true hdig] at h; exact h
              have hst := Lib.hid (dec_step (acc := acc) hj (by omega) (by omega))
              rw [hc2] at hst
              have hA : Hid (acc * 10 + (c - 48) < 10 ^ (k + 1)) := by show _ < _; rw [Nat.pow_succ]; have := ha.out; omega
              have hdig' : (48 : Int) ≤ (c : Int) ∧ (c : Int) ≤ 57 := by omega
              obtain ⟨ci, hci⟩ : ∃ ci : Int, (c : Int) = ci := ⟨_, rfl⟩
              have hcv : (acc * 10 + (c - 48) : Nat) = 10 * (acc : Int) + (ci - 48) := by omega
              have HCV := Lib.hid hcv
              have HST := hst
              rw [hci] at hD hdig'
              obtain ⟨d1, d2⟩ := hdig'
              have w1 : IntKind.i64.wrap (10 * (acc : Int)) = 10 * (acc : Int) := by rw [IntKind.wrap_i64]; omega
              have w2 : IntKind.u8.wrap (ci - 48) = ci - 48 := by rw [IntKind.wrap_u8]; omega
              have w3 : IntKind.i64.wrap (ci - 48) = ci - 48 := by rw [IntKind.wrap_i64]; omega
              have w4 : IntKind.i64.wrap (10 * (acc : Int) + (ci - 48)) = 10 * (acc : Int) + (ci - 48) := by rw [IntKind.wrap_i64]; omega
              have hnx := Lib.hid (hd.out.symm.trans hst.out)
              clear hst HST hc2 hdig hd ha hcv hp ab p18 c256
              go_wp2_with fail
              refine (hD.out _).mono ?_
              rintro e w1_ ⟨rfl, rfl⟩
              clear hD
              go_wp2_with fail
              go_round
              case rel => exact ⟨k + 1, acc * 10 + (c - 48), by omega, by go_num, by rw [HCV.out], Lib.hid hnx.out.symm, hA⟩
              case measure => simp [intOf]; omega
            · have hD : Hid (∀ W : World, Calls Tryd.prog 47 #[.int .u8 (c : Int)] W fun e w' => e = .returned (.bool false) ∧ w' = W) := fun W => by have h := l01Digit_any W c; rw [decide_eq_false hdig] at h; exact h
              have hn0 := Lib.hid (hd.out.symm.trans (dec_nil_ hj (by rw [hc2]; exact hdig)))
              have HN := Lib.hid (numV_none (HX.out.trans (by rw [hn0.out]; rfl)))
              clear hd ha hp ab p18 c256 hdig hn0
              go_wp2_with fail
              refine (hD.out _).mono ?_
              rintro e w1_ ⟨rfl, rfl⟩
              clear hD
              go_wp2_with fail
              refine bodyPost_ret (v := .tuple #[.int .i64 0, .bool false]) (by simp [results, Tryd.results30, go_sem, *]) rfl ?_
              rw [HN.out.1, HN.out.2]
              exact ⟨rfl, rfl⟩
          · have hkn : 0 + k = s.size := by omega
            have hfin := hd.out
            rw [hkn, dec_end] at hfin
            have HN : Hid (numV s.data.toList = (acc : Int) ∧ numB s.data.toList = true) := numV_some (HX.out.trans (by rw [← hfin]; rfl))
            clear hd ha hp ab p18 hfin
            go_wp2_with fail
            refine bodyPost_ret (v := .tuple #[.int .i64 (acc : Int), .bool true]) (by simp [results, Tryd.results30, go_sem, *]) rfl ?_
            rw [HN.out.1, HN.out.2]
            exact ⟨rfl, rfl⟩
    have HX := Lib.hid (num_plain_ok hl HB.out (by omega) (by rw [hc0]; omega))
    obtain ⟨R, hR⟩ : ∃ R, R = Lib.decFrom 0 (s.data.toList.drop 0) := ⟨_, rfl⟩
    have HR := Lib.hid hR.symm
    rw [← hR] at HX
    clear hR
    have b3 : ((c0 : Int) == 48) = false := by rw [beq_eq_false_iff_ne]; omega
    have b4 : ¬ (c0 : Int) = 48 := by omega
    go_enter Tryd.func30, Tryd.ntmps30
    go_wp2_with fail
    go_loop [5, 6] (fun a i => ∃ k acc : Nat, 0 + k ≤ s.size ∧ i = .int .i64 ((k : Int)) ∧ a = .int .i64 (acc : Int) ∧ Hid (Lib.decFrom acc (s.data.toList.drop (0 + k)) = R) ∧ Hid (acc < 10 ^ k)) (fun _ i => s.size + 1 - (intOf i).toNat)
    case atStart => exact ⟨0, 0, by omega, by simp, rfl, HR.out, (show (0 : Nat) < 10 ^ 0 by decide)⟩
    case round =>
      obtain ⟨k, acc, hk, rfl, rfl, hd, ha⟩ := hrel
      have k0 : (0 : Int) ≤ (k : Int) := Int.natCast_nonneg _
      have a0 : (0 : Int) ≤ (acc : Int) := Int.natCast_nonneg _
      have hp : (10 : Nat) ^ k ≤ 10 ^ 18 := Nat.pow_le_pow_right (by decide) (by omega)
      have ab : acc < 10 ^ 18 := Nat.lt_of_lt_of_le ha.out hp
      have p18 : (10 : Nat) ^ 18 = 1000000000000000000 := by decide
      have ab' : (acc : Int) < 1000000000000000000 := by omega
      by_cases hlt : k < s.size
      · have hj : 0 + k < s.size := by omega
        have hlt' : (k : Int) < (s.size : Int) := by omega
        have hix : True := trivial
        obtain ⟨c, hc⟩ : ∃ c, (s[k]'hlt).toNat = c := ⟨_, rfl⟩
        have hc2 : (s[0 + k]'hj).toNat = c := by rw [← hc]; congr 2; omega
        have c256 : c < 256 := by rw [← hc]; exact UInt8.toNat_lt _
        by_cases hdig : 48 ≤ c ∧ c ≤ 57
        · have hp17 : (10 : Nat) ^ k ≤ 10 ^ 17 := Nat.pow_le_pow_right (by decide) (by omega)
          have p17 : (10 : Nat) ^ 17 = 100000000000000000 := by decide
          have ab17 : (acc : Int) < 100000000000000000 := by have := ha.out; omega
          clear hp17 p17
          have hD : Hid (∀ W : World, Calls Tryd.prog 47 #[.int .u8 (c : Int)] W fun e w' => e = .returned (.bool true) ∧ w' = W) := fun W => by have h := l01Digit_any W c; rw [decide_eq_true hdig] at h; exact h
          have hst := Lib.hid (dec_step (acc := acc) hj (by omega) (by omega))
          rw [hc2] at hst
          have hA : Hid (acc * 10 + (c - 48) < 10 ^ (k + 1)) := by show _ < _; rw [Nat.pow_succ]; have := ha.out; omega
          have hdig' : (48 : Int) ≤ (c : Int) ∧ (c : Int) ≤ 57 := by omega
          obtain ⟨ci, hci⟩ : ∃ ci : Int, (c : Int) = ci := ⟨_, rfl⟩
          have hcv : (acc * 10 + (c - 48) : Nat) = 10 * (acc : Int) + (ci - 48) := by omega
          have HCV := Lib.hid hcv
          have HST := hst
          rw [hci] at hD hdig'
          obtain ⟨d1, d2⟩ := hdig'
          have w1 : IntKind.i64.wrap (10 * (acc : Int)) = 10 * (acc : Int) := by rw [IntKind.wrap_i64]; omega
          have w2 : IntKind.u8.wrap (ci - 48) = ci - 48 := by rw [IntKind.wrap_u8]; omega
          have w3 : IntKind.i64.wrap (ci - 48) = ci - 48 := by rw [IntKind.wrap_i64]; omega
          have w4 : IntKind.i64.wrap (10 * (acc : Int) + (ci - 48)) = 10 * (acc : Int) + (ci - 48) := by rw [IntKind.wrap_i64]; omega
          have hnx := Lib.hid (hd.out.symm.trans hst.out)
          clear hst HST hc2 hdig hd ha hcv hp ab p18 c256
          go_wp2_with fail
          refine (hD.out _).mono ?_
          rintro e w1_ ⟨rfl, rfl⟩
          clear hD
          go_wp2_with fail
          go_round
          case rel => exact ⟨k + 1, acc * 10 + (c - 48), by omega, by go_num, by rw [HCV.out], Lib.hid hnx.out.symm, hA⟩
          case measure => simp [intOf]; omega
        · have hD : Hid (∀ W : World, Calls Tryd.prog 47 #[.int .u8 (c : Int)] W fun e w' => e = .returned (.bool false) ∧ w' = W) := fun W => by have h := l01Digit_any W c; rw [decide_eq_false hdig] at h; exact h
          have hn0 := Lib.hid (hd.out.symm.trans (dec_nil_ hj (by rw [hc2]; exact hdig)))
          have HN := Lib.hid (numV_none (HX.out.trans (by rw [hn0.out]; rfl)))
          clear hd ha hp ab p18 c256 hdig hn0
          go_wp2_with fail
          refine (hD.out _).mono ?_
          rintro e w1_ ⟨rfl, rfl⟩
          clear hD
          go_wp2_with fail
          refine bodyPost_ret (v := .tuple #[.int .i64 0, .bool false]) (by simp [results, Tryd.results30, go_sem, *]) rfl ?_
          rw [HN.out.1, HN.out.2]
          exact ⟨rfl, rfl⟩
      · have hkn : 0 + k = s.size := by omega
        have hfin := hd.out
        rw [hkn, dec_end] at hfin
        have HN : Hid (numV s.data.toList = (acc : Int) ∧ numB s.data.toList = true) := numV_some (HX.out.trans (by rw [← hfin]; rfl))
        clear hd ha hp ab p18 hfin
        go_wp2_with fail
        refine bodyPost_ret (v := .tuple #[.int .i64 (acc : Int), .bool true]) (by simp [results, Tryd.results30, go_sem, *]) rfl ?_
        rw [HN.out.1, HN.out.2]
        exact ⟨rfl, rfl⟩
end Go.Proofs.YtampjgfddakdoaaDoor
