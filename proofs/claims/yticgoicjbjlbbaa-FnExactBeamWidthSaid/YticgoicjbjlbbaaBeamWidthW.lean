/-
  The walk of FnExactBeamWidth: it returns true, and of what was there nothing has turned. The conditions are what its arguments' readings give.
-/
import Derived.Test.YticgoicjbjlbbaaRows
import Derived.Test.YticgoicjbjlbbaaLib
import Derived.Test.YticgoicjbjlbbaaInt
import Derived.Test.YticgoicjbjlbbaaAll
import Derived.Test.YticgoicjbjlbbaaNames
import Derived.Test.YticgoicjbjlbbaaPattern
import Derived.Test.YticgoicjbjlbbaaAcross
import Derived.Test.YticgoicjbjlbbaaInts
import Derived.Test.YticgoicjbjlbbaaAntenna
import Derived.Outline
import Derived.Deep.RegionHeld3
import Derived.Deep.DrawnRows
namespace Go.Proofs.Yticgoicjbjlbbaa.fnExactBeamWidth
open Go.RowKit Go.ChangeShapes Go.WideShapes Go.ChangeAt
set_option linter.unusedVariables false
set_option linter.unusedSimpArgs false

attribute [local go_sem ↓] Go.wp_at_zero Go.wp_at_succ
/-- How far the loss stays at 3000 or less, from one degree on, one way round. -/
def runOf (xs : List Int) (sg : Int) : Nat → Int → Int
  | 0, _ => 0
  | f + 1, d => if acrossOf xs (sg * d) ≤ 3000 then 1 + runOf xs sg f (d + 1) else 0
theorem run_yes {xs : List Int} {sg d : Int} {f : Nat} (h : acrossOf xs (sg * d) ≤ 3000) : runOf xs sg (f + 1) d = 1 + runOf xs sg f (d + 1) := if_pos h
theorem run_no {xs : List Int} {sg d : Int} {f : Nat} (h : ¬ acrossOf xs (sg * d) ≤ 3000) : runOf xs sg (f + 1) d = 0 := if_neg h
theorem run_bd (xs : List Int) (sg : Int) : ∀ f d, 0 ≤ runOf xs sg f d ∧ runOf xs sg f d ≤ f
  | 0, _ => by simp [runOf]
  | f + 1, d => by
    have := run_bd xs sg f (d + 1)
    unfold runOf
    split <;> omega
def wideM (s : ByteArray) (g : Int) (xs ys : List Int) : Int × Int := if antB s g xs ys = true then (1 + runOf xs 1 180 1 + runOf xs (-1) 179 1, 0) else (0, 1)
theorem wide_yes {s : ByteArray} {g : Int} {xs ys : List Int} (h : antB s g xs ys = true) : wideM s g xs ys = (1 + runOf xs 1 180 1 + runOf xs (-1) 179 1, 0) := if_pos h
theorem wide_no {s : ByteArray} {g : Int} {xs ys : List Int} (h : antB s g xs ys = false) : wideM s g xs ys = (0, 1) := if_neg (by rw [h]; decide)
/-- One step of a count: what is counted, what is left. -/
theorem run_part {xs : List Int} {sg : Int} {F k : Nat} {r : Int} (hk : k < F) (h : r = k + runOf xs sg (F - k) (1 + k)) :
    (acrossOf xs (sg * (1 + (k : Int))) ≤ 3000 → r = (k + 1 : Nat) + runOf xs sg (F - (k + 1)) (1 + (k + 1 : Nat))) ∧ (¬ acrossOf xs (sg * (1 + (k : Int))) ≤ 3000 → r = k) := by
  have e : F - k = (F - (k + 1)) + 1 := by omega
  rw [e] at h
  refine ⟨fun q => ?_, fun q => ?_⟩
  · rw [run_yes q] at h
    have e2 : (1 : Int) + ((k + 1 : Nat) : Int) = 1 + (k : Int) + 1 := by omega
    rw [e2]
    omega
  · rw [run_no q] at h
    omega
theorem run_end' {xs : List Int} {sg : Int} {F k : Nat} {r : Int} (hk : k = F) (h : r = k + runOf xs sg (F - k) (1 + k)) : r = k := by
  subst hk
  rw [Nat.sub_self] at h
  simpa [runOf] using h
theorem run_end {xs : List Int} {sg : Int} {F : Nat} {r : Int} (h : r = F + runOf xs sg (F - F) (1 + F)) : r = F := by
  rw [Nat.sub_self] at h
  simpa [runOf] using h
set_option maxRecDepth 20000 in
set_option maxHeartbeats 4000000 in
theorem spec_any (w : World) (s : ByteArray) (is : s.size ≤ maxLen) (g : Int) (ig : In64 g) (a : Value) (xs : List Int) (p : Nat) (ha : Row 2 w p a xs) (ixs : ∀ n ∈ xs, In64 n) (b : Value) (ys : List Int) (q : Nat) (hb : Row 2 w q b ys) (iys : ∀ n ∈ ys, In64 n) :
    Calls Try.prog 50 #[.agg #[.string s, .int .i64 g, a, b]] w fun e w' => e = .returned (.tuple #[.int .i64 (wideM s g xs ys).1, .int .i64 (wideM s g xs ys).2]) ∧ Below w.heap.size w w' := by
  have IS := Lib.hid is
  have HA := Lib.hid ha
  have HB := Lib.hid hb
  clear is ha hb ixs iys ig
  rcases bool_two (antB s g xs ys) with e | e
  rotate_left
  · rw [wide_no e]
    have HE := Lib.hid e
    clear e
    go_enter Try.func50, Try.ntmps50
    go_wp2_with fail
    refine (l06Ok_any _ _ s IS.out g a xs p (HA.out.alloc_ _) b ys q (HB.out.alloc_ _) (by simp [go_sem]) (by simp [go_sem]) (by simp [go_sem]) (by simp [go_sem])).mono ?_
    rintro e w1 ⟨he, k, rfl⟩
    rw [HE.out] at he
    subst he
    go_wp2_with fail
    go_ret2
    exact ⟨rfl, by repeat (first | (with_reducible exact Below.refl _ _) | (with_reducible assumption) | ((with_reducible refine bl_alloc ?_ _ ?_); (focus ((first | omega | (simp <;> omega)); done))) | ((with_reducible refine bl_set ?_ _ ?_); (focus ((first | omega | (simp <;> omega)); done))) | (with_reducible refine below_drewN ?_ _) | (with_reducible refine Below.drew ?_))⟩
  · rw [wide_yes e]
    obtain ⟨ga, ca, gb, cb, rfl, rfl, n1, n2, r1, r2, l1, l2, k1, k2⟩ := ant_open e HA.out HB.out
    have HE := Lib.hid e
    have HK := Lib.hid k1
    have HN := Lib.hid n1
    have HR := Lib.hid r1
    have b1 : 0 ≤ runOf xs 1 180 1 ∧ runOf xs 1 180 1 ≤ 180 := run_bd xs 1 180 1
    have b2 : 0 ≤ runOf xs (-1) 179 1 ∧ runOf xs (-1) 179 1 ≤ 179 := run_bd xs (-1) 179 1
    obtain ⟨R1, hR1⟩ : ∃ r, r = runOf xs 1 180 1 := ⟨_, rfl⟩
    obtain ⟨R2, hR2⟩ : ∃ r, r = runOf xs (-1) 179 1 := ⟨_, rfl⟩
    rw [← hR1] at b1 ⊢
    rw [← hR2] at b2 ⊢
    have HR1 := Lib.hid hR1
    have HR2 := Lib.hid hR2
    clear e n1 n2 r1 r2 k1 k2 hR1 hR2
    go_enter Try.func50, Try.ntmps50
    go_wp2_with fail
    refine (l06Ok_any _ _ s IS.out g _ xs p (HA.out.alloc_ _) _ ys q (HB.out.alloc_ _) (by simp [go_sem]) (by simp [go_sem]) (by simp [go_sem]) (by simp [go_sem])).mono ?_
    rintro e w1 ⟨he, k, rfl⟩
    rw [HE.out] at he
    subst he
    have HC := Lib.hid (fun k hk => cell_alloc (HK.out k hk) (.cells #[.string s, .int .i64 g, .slice (some ⟨ga, 0, none⟩) 36 ca, .slice (some ⟨gb, 0, none⟩) 19 cb] 56))
    have HB0 := Lib.hid (show Below w.heap.size w (w.alloc (.cells #[.string s, .int .i64 g, .slice (some ⟨ga, 0, none⟩) 36 ca, .slice (some ⟨gb, 0, none⟩) 19 cb] 56)) by repeat (first | (with_reducible exact Below.refl _ _) | (with_reducible assumption) | ((with_reducible refine bl_alloc ?_ _ ?_); (focus ((first | omega | (simp <;> omega)); done))) | ((with_reducible refine bl_set ?_ _ ?_); (focus ((first | omega | (simp <;> omega)); done))) | (with_reducible refine below_drewN ?_ _) | (with_reducible refine Below.drew ?_)))
    have HX := Lib.hid (show (w.alloc (.cells #[.string s, .int .i64 g, .slice (some ⟨ga, 0, none⟩) 36 ca, .slice (some ⟨gb, 0, none⟩) 19 cb] 56)).cell? ⟨w.heap.size, 2, none⟩ = some (.slice (some ⟨ga, 0, none⟩) 36 ca) by simp [go_sem])
    go_wp2_with fail
    generalize w.alloc (.cells #[.string s, .int .i64 g, .slice (some ⟨ga, 0, none⟩) 36 ca, .slice (some ⟨gb, 0, none⟩) 19 cb] 56) = W at *
    go_loopw [4, 5] (fun m d wr => ∃ k : Nat, k ≤ 180 ∧ m = .int .i64 (1 + (k : Int)) ∧ d = .int .i64 (1 + (k : Int)) ∧ Hid (R1 = k + runOf xs 1 (180 - k) (1 + k)) ∧ ∃ n, wr = W.drewN n) (fun _ d _ => 200 - (intOf d).toNat)
    case atStart => exact ⟨0, by omega, by simp, by simp, by have := HR1.out; show R1 = _; simpa using this, k, rfl⟩
    case round =>
      obtain ⟨k, hk, rfl, rfl, hr, n, rfl⟩ := hrel
      have i0 : (0 : Int) ≤ (k : Int) := Int.natCast_nonneg _
      by_cases hlt : k < 180
      · have hlt' : (k : Int) < 180 := by omega
        obtain ⟨p1, p2⟩ := run_part (xs := xs) (sg := 1) hlt hr.out
        have HV := Lib.hid (fun t' (h : t' = 1 * (1 + (k : Int))) => (by rw [h] : acrossOf xs t' = acrossOf xs (1 * (1 + (k : Int)))))
        have P1 := Lib.hid p1
        have P2 := Lib.hid p2
        clear p1 p2 hr
        generalize acrossOf xs (1 * (1 + (k : Int))) = v at *
        by_cases ha : v ≤ 3000
        · have hr' := Lib.hid (P1.out ha)
          clear P1 P2
          go_wp2_with fail
          refine (l06Across_any (W.drewN n) _ ga ca xs HN.out HR.out (fun k hk => HC.out k hk) HX.out _ (by constructor <;> omega)).mono ?_
          rintro e w1 ⟨he, m, rfl⟩
          obtain rfl : e = .returned (.int .i64 v) := he.trans (ret_int (HV.out _ (by omega)))
          go_wp2_with fail
          go_roundw
          case rel => exact ⟨k + 1, by omega, by go_num, by go_num, hr', _, rfl⟩
          case measure => simp [intOf]; omega
        · have hk' := Lib.hid (P2.out ha)
          clear P1 P2
          go_wp2_with fail
          refine (l06Across_any (W.drewN n) _ ga ca xs HN.out HR.out (fun k hk => HC.out k hk) HX.out _ (by constructor <;> omega)).mono ?_
          rintro e w1 ⟨he, m, rfl⟩
          obtain rfl : e = .returned (.int .i64 v) := he.trans (ret_int (HV.out _ (by omega)))
          go_wp2_with fail
          have HK1 := Lib.hid hk'.out
          clear hk' HV
          go_loopw [4, 6] (fun m d wr => ∃ j : Nat, j ≤ 179 ∧ m = .int .i64 (1 + (k : Int) + (j : Int)) ∧ d = .int .i64 (-1 - (j : Int)) ∧ Hid (R2 = j + runOf xs (-1) (179 - j) (1 + j)) ∧ ∃ n, wr = W.drewN n) (fun _ d _ => (200 + intOf d).toNat)
          case atStart => exact ⟨0, by omega, by simp, by simp, by have := HR2.out; show R2 = _; simpa using this, _, rfl⟩
          case round =>
            obtain ⟨j, hj, rfl, rfl, hr, n, rfl⟩ := hrel
            have i0 : (0 : Int) ≤ (j : Int) := Int.natCast_nonneg _
            by_cases hlt : j < 179
            · have hlt' : (j : Int) < 179 := by omega
              obtain ⟨p1, p2⟩ := run_part (xs := xs) (sg := (-1)) hlt hr.out
              have HV := Lib.hid (fun t' (h : t' = (-1) * (1 + (j : Int))) => (by rw [h] : acrossOf xs t' = acrossOf xs ((-1) * (1 + (j : Int)))))
              have P1 := Lib.hid p1
              have P2 := Lib.hid p2
              clear p1 p2 hr
              generalize acrossOf xs ((-1) * (1 + (j : Int))) = v at *
              by_cases ha : v ≤ 3000
              · have hr' := Lib.hid (P1.out ha)
                clear P1 P2
                go_wp2_with fail
                refine (l06Across_any (W.drewN n) _ ga ca xs HN.out HR.out (fun k hk => HC.out k hk) HX.out _ (by constructor <;> omega)).mono ?_
                rintro e w1 ⟨he, m, rfl⟩
                obtain rfl : e = .returned (.int .i64 v) := he.trans (ret_int (HV.out _ (by omega)))
                go_wp2_with fail
                go_roundw
                case rel => exact ⟨j + 1, by omega, by go_num, by go_num, hr', _, rfl⟩
                case measure => simp [intOf]; omega
              · have hk' := Lib.hid (P2.out ha)
                clear P1 P2
                go_wp2_with fail
                refine (l06Across_any (W.drewN n) _ ga ca xs HN.out HR.out (fun k hk => HC.out k hk) HX.out _ (by constructor <;> omega)).mono ?_
                rintro e w1 ⟨he, m, rfl⟩
                obtain rfl : e = .returned (.int .i64 v) := he.trans (ret_int (HV.out _ (by omega)))
                go_wp2_with fail
                go_ret2
                refine ⟨?_, by repeat (first | (with_reducible exact Below.refl _ _) | (with_reducible assumption) | ((with_reducible refine bl_alloc ?_ _ ?_); (focus ((first | omega | (simp <;> omega)); done))) | ((with_reducible refine bl_set ?_ _ ?_); (focus ((first | omega | (simp <;> omega)); done))) | (with_reducible refine below_drewN ?_ _) | (with_reducible refine Below.drew ?_) | ((with_reducible refine bl_trans ?_ HB0.out ?_); (focus ((first | omega | (simp <;> omega)); done))))⟩
                have h1 := HK1.out
                have h2 := hk'.out
                rw [h1, h2]
                try rfl
            · have hge : 179 ≤ (j : Int) := by omega
              have hk' := Lib.hid (run_end' (show j = 179 by omega) hr.out)
              clear hr
              go_wp2_with fail
              go_ret2
              refine ⟨?_, by repeat (first | (with_reducible exact Below.refl _ _) | (with_reducible assumption) | ((with_reducible refine bl_alloc ?_ _ ?_); (focus ((first | omega | (simp <;> omega)); done))) | ((with_reducible refine bl_set ?_ _ ?_); (focus ((first | omega | (simp <;> omega)); done))) | (with_reducible refine below_drewN ?_ _) | (with_reducible refine Below.drew ?_) | ((with_reducible refine bl_trans ?_ HB0.out ?_); (focus ((first | omega | (simp <;> omega)); done))))⟩
              have h1 := HK1.out
              have h2 := hk'.out
              rw [h1, h2]
              try rfl
      · have hge : 180 ≤ (k : Int) := by omega
        have HV := trivial
        have hk' := Lib.hid (run_end' (show k = 180 by omega) hr.out)
        clear hr
        go_wp2_with fail
        have HK1 := Lib.hid hk'.out
        clear hk' HV
        go_loopw [4, 6] (fun m d wr => ∃ j : Nat, j ≤ 179 ∧ m = .int .i64 (1 + (k : Int) + (j : Int)) ∧ d = .int .i64 (-1 - (j : Int)) ∧ Hid (R2 = j + runOf xs (-1) (179 - j) (1 + j)) ∧ ∃ n, wr = W.drewN n) (fun _ d _ => (200 + intOf d).toNat)
        case atStart => exact ⟨0, by omega, by simp, by simp, by have := HR2.out; show R2 = _; simpa using this, _, rfl⟩
        case round =>
          obtain ⟨j, hj, rfl, rfl, hr, n, rfl⟩ := hrel
          have i0 : (0 : Int) ≤ (j : Int) := Int.natCast_nonneg _
          by_cases hlt : j < 179
          · have hlt' : (j : Int) < 179 := by omega
            obtain ⟨p1, p2⟩ := run_part (xs := xs) (sg := (-1)) hlt hr.out
            have HV := Lib.hid (fun t' (h : t' = (-1) * (1 + (j : Int))) => (by rw [h] : acrossOf xs t' = acrossOf xs ((-1) * (1 + (j : Int)))))
            have P1 := Lib.hid p1
            have P2 := Lib.hid p2
            clear p1 p2 hr
            generalize acrossOf xs ((-1) * (1 + (j : Int))) = v at *
            by_cases ha : v ≤ 3000
            · have hr' := Lib.hid (P1.out ha)
              clear P1 P2
              go_wp2_with fail
              refine (l06Across_any (W.drewN n) _ ga ca xs HN.out HR.out (fun k hk => HC.out k hk) HX.out _ (by constructor <;> omega)).mono ?_
              rintro e w1 ⟨he, m, rfl⟩
              obtain rfl : e = .returned (.int .i64 v) := he.trans (ret_int (HV.out _ (by omega)))
              go_wp2_with fail
              go_roundw
              case rel => exact ⟨j + 1, by omega, by go_num, by go_num, hr', _, rfl⟩
              case measure => simp [intOf]; omega
            · have hk' := Lib.hid (P2.out ha)
              clear P1 P2
              go_wp2_with fail
              refine (l06Across_any (W.drewN n) _ ga ca xs HN.out HR.out (fun k hk => HC.out k hk) HX.out _ (by constructor <;> omega)).mono ?_
              rintro e w1 ⟨he, m, rfl⟩
              obtain rfl : e = .returned (.int .i64 v) := he.trans (ret_int (HV.out _ (by omega)))
              go_wp2_with fail
              go_ret2
              refine ⟨?_, by repeat (first | (with_reducible exact Below.refl _ _) | (with_reducible assumption) | ((with_reducible refine bl_alloc ?_ _ ?_); (focus ((first | omega | (simp <;> omega)); done))) | ((with_reducible refine bl_set ?_ _ ?_); (focus ((first | omega | (simp <;> omega)); done))) | (with_reducible refine below_drewN ?_ _) | (with_reducible refine Below.drew ?_) | ((with_reducible refine bl_trans ?_ HB0.out ?_); (focus ((first | omega | (simp <;> omega)); done))))⟩
              have h1 := HK1.out
              have h2 := hk'.out
              rw [h1, h2]
              try rfl
          · have hge : 179 ≤ (j : Int) := by omega
            have hk' := Lib.hid (run_end' (show j = 179 by omega) hr.out)
            clear hr
            go_wp2_with fail
            go_ret2
            refine ⟨?_, by repeat (first | (with_reducible exact Below.refl _ _) | (with_reducible assumption) | ((with_reducible refine bl_alloc ?_ _ ?_); (focus ((first | omega | (simp <;> omega)); done))) | ((with_reducible refine bl_set ?_ _ ?_); (focus ((first | omega | (simp <;> omega)); done))) | (with_reducible refine below_drewN ?_ _) | (with_reducible refine Below.drew ?_) | ((with_reducible refine bl_trans ?_ HB0.out ?_); (focus ((first | omega | (simp <;> omega)); done))))⟩
            have h1 := HK1.out
            have h2 := hk'.out
            rw [h1, h2]
            try rfl
set_option maxRecDepth 20000 in
set_option maxHeartbeats 4000000 in
theorem impl_any (w : World) (s : ByteArray) (is : s.size ≤ maxLen) (g : Int) (ig : In64 g) (a : Value) (xs : List Int) (p : Nat) (ha : Row 2 w p a xs) (ixs : ∀ n ∈ xs, In64 n) (b : Value) (ys : List Int) (q : Nat) (hb : Row 2 w q b ys) (iys : ∀ n ∈ ys, In64 n) :
    Calls Try.prog 51 #[.agg #[.string s, .int .i64 g, a, b]] w fun e w' => e = .returned (.tuple #[.int .i64 (wideM s g xs ys).1, .int .i64 (wideM s g xs ys).2]) ∧ Below w.heap.size w w' := by
  have IS := Lib.hid is
  have HA := Lib.hid ha
  have HB := Lib.hid hb
  clear is ha hb ixs iys ig
  rcases bool_two (antB s g xs ys) with e | e
  rotate_left
  · rw [wide_no e]
    have HE := Lib.hid e
    clear e
    go_enter Try.func51, Try.ntmps51
    go_wp2_with fail
    refine (ValidAntenna_any _ s IS.out g a xs p (HA.out.alloc_ _) b ys q (HB.out.alloc_ _)).mono ?_
    rintro e w1 ⟨he, hb⟩
    rw [HE.out] at he
    subst he
    have H1 := Lib.hid (show Below w.heap.size w w1 by repeat (first | (with_reducible exact Below.refl _ _) | (with_reducible assumption) | ((with_reducible refine bl_alloc ?_ _ ?_); (focus ((first | omega | (simp <;> omega)); done))) | ((with_reducible refine bl_set ?_ _ ?_); (focus ((first | omega | (simp <;> omega)); done))) | (with_reducible refine below_drewN ?_ _) | (with_reducible refine Below.drew ?_) | ((with_reducible refine bl_trans ?_ hb ?_); (focus ((first | omega | (simp <;> omega)); done)))))
    clear hb
    go_wp2_with fail
    go_ret2
    exact ⟨rfl, by repeat (first | (with_reducible exact Below.refl _ _) | (with_reducible assumption) | ((with_reducible refine bl_alloc ?_ _ ?_); (focus ((first | omega | (simp <;> omega)); done))) | ((with_reducible refine bl_set ?_ _ ?_); (focus ((first | omega | (simp <;> omega)); done))) | (with_reducible refine below_drewN ?_ _) | (with_reducible refine Below.drew ?_) | ((with_reducible refine bl_trans ?_ H1.out ?_); (focus ((first | omega | (simp <;> omega)); done))))⟩
  · rw [wide_yes e]
    obtain ⟨ga, ca, gb, cb, rfl, rfl, n1, n2, r1, r2, l1, l2, k1, k2⟩ := ant_open e HA.out HB.out
    have HE := Lib.hid e
    have HK := Lib.hid k1
    have HN := Lib.hid n1
    have HR := Lib.hid r1
    have b1 : 0 ≤ runOf xs 1 180 1 ∧ runOf xs 1 180 1 ≤ 180 := run_bd xs 1 180 1
    have b2 : 0 ≤ runOf xs (-1) 179 1 ∧ runOf xs (-1) 179 1 ≤ 179 := run_bd xs (-1) 179 1
    obtain ⟨R1, hR1⟩ : ∃ r, r = runOf xs 1 180 1 := ⟨_, rfl⟩
    obtain ⟨R2, hR2⟩ : ∃ r, r = runOf xs (-1) 179 1 := ⟨_, rfl⟩
    rw [← hR1] at b1 ⊢
    rw [← hR2] at b2 ⊢
    have HR1 := Lib.hid hR1
    have HR2 := Lib.hid hR2
    clear e n1 n2 r1 r2 k1 k2 hR1 hR2
    go_enter Try.func51, Try.ntmps51
    go_wp2_with fail
    refine (ValidAntenna_any _ s IS.out g _ xs p (HA.out.alloc_ _) _ ys q (HB.out.alloc_ _)).mono ?_
    rintro e W ⟨he, hb⟩
    rw [HE.out] at he
    subst he
    have HB0 := Lib.hid (show Below w.heap.size w W by repeat (first | (with_reducible exact Below.refl _ _) | (with_reducible assumption) | ((with_reducible refine bl_alloc ?_ _ ?_); (focus ((first | omega | (simp <;> omega)); done))) | ((with_reducible refine bl_set ?_ _ ?_); (focus ((first | omega | (simp <;> omega)); done))) | (with_reducible refine below_drewN ?_ _) | (with_reducible refine Below.drew ?_) | ((with_reducible refine bl_trans ?_ hb ?_); (focus ((first | omega | (simp <;> omega)); done)))))
    have HC := Lib.hid (fun k hk => keeps hb (cell_alloc (HK.out k hk) _))
    have X0 := Lib.hid (keeps hb (p := ⟨w.heap.size, 0, none⟩) (v := .string s) (by simp [go_sem]))
    have X1 := Lib.hid (keeps hb (p := ⟨w.heap.size, 1, none⟩) (v := .int .i64 g) (by simp [go_sem]))
    have X2 := Lib.hid (keeps hb (p := ⟨w.heap.size, 2, none⟩) (v := .slice (some ⟨ga, 0, none⟩) 36 ca) (by simp [go_sem]))
    have X3 := Lib.hid (keeps hb (p := ⟨w.heap.size, 3, none⟩) (v := .slice (some ⟨gb, 0, none⟩) 19 cb) (by simp [go_sem]))
    have lW : w.heap.size < W.heap.size := block_of_cell X0.out
    have lw : ga < W.heap.size := by omega
    clear hb
    go_wp2_with fail
    go_loopw [4, 5] (fun m d wr => ∃ k : Nat, k ≤ 180 ∧ m = .int .i64 (1 + (k : Int)) ∧ d = .int .i64 (1 + (k : Int)) ∧ Hid (R1 = k + runOf xs 1 (180 - k) (1 + k)) ∧ Below W.heap.size W wr) (fun _ d _ => 200 - (intOf d).toNat)
    case atStart => exact ⟨0, by omega, by simp, by simp, by have := HR1.out; show R1 = _; simpa using this, Below.refl _ _⟩
    case round =>
      obtain ⟨k, hk, rfl, rfl, hr, hb⟩ := hrel
      have y0 := (hb.cell (p := ⟨w.heap.size, 0, none⟩) lW).trans X0.out
      have y1 := (hb.cell (p := ⟨w.heap.size, 1, none⟩) lW).trans X1.out
      have y2 := (hb.cell (p := ⟨w.heap.size, 2, none⟩) lW).trans X2.out
      have y3 := (hb.cell (p := ⟨w.heap.size, 3, none⟩) lW).trans X3.out
      have i0 : (0 : Int) ≤ (k : Int) := Int.natCast_nonneg _
      by_cases hlt : k < 180
      · have hlt' : (k : Int) < 180 := by omega
        obtain ⟨p1, p2⟩ := run_part (xs := xs) (sg := 1) hlt hr.out
        have HV := Lib.hid (fun t' (h : t' = 1 * (1 + (k : Int))) => (by rw [h] : acrossOf xs t' = acrossOf xs (1 * (1 + (k : Int)))))
        have P1 := Lib.hid p1
        have P2 := Lib.hid p2
        clear p1 p2 hr
        generalize acrossOf xs (1 * (1 + (k : Int))) = v at *
        by_cases ha : v ≤ 3000
        · have hr' := Lib.hid (P1.out ha)
          clear P1 P2
          go_wp2_with fail
          refine (horizontal_any _ s g _ ga ca xs HN.out HR.out (by have := hb.size; omega) (fun k hk => (hb.cell (p := ⟨ga, k, none⟩) lw).trans (HC.out k hk)) _ (by constructor <;> omega)).mono ?_
          rintro e w1 ⟨he, hb1⟩
          obtain rfl : e = .returned (.int .i64 v) := he.trans (ret_int (HV.out _ (by omega)))
          have hb2 := Lib.hid (hb.trans (hb1.mono hb.size))
          clear hb1
          go_wp2_with fail
          go_roundw
          case rel => exact ⟨k + 1, by omega, by go_num, by go_num, hr', hb2.out⟩
          case measure => simp [intOf]; omega
        · have hk' := Lib.hid (P2.out ha)
          clear P1 P2
          go_wp2_with fail
          refine (horizontal_any _ s g _ ga ca xs HN.out HR.out (by have := hb.size; omega) (fun k hk => (hb.cell (p := ⟨ga, k, none⟩) lw).trans (HC.out k hk)) _ (by constructor <;> omega)).mono ?_
          rintro e w1 ⟨he, hb1⟩
          obtain rfl : e = .returned (.int .i64 v) := he.trans (ret_int (HV.out _ (by omega)))
          have hb2 := Lib.hid (hb.trans (hb1.mono hb.size))
          clear hb1
          go_wp2_with fail
          have HK1 := Lib.hid hk'.out
          clear hk' HV y0 y1 y2 y3
          go_loopw [4, 6] (fun m d wr => ∃ j : Nat, j ≤ 179 ∧ m = .int .i64 (1 + (k : Int) + (j : Int)) ∧ d = .int .i64 (1 + (j : Int)) ∧ Hid (R2 = j + runOf xs (-1) (179 - j) (1 + j)) ∧ Below W.heap.size W wr) (fun _ d _ => 200 - (intOf d).toNat)
          case atStart => exact ⟨0, by omega, by simp, by simp, by have := HR2.out; show R2 = _; simpa using this, hb2.out⟩
          case round =>
            clear hb
            obtain ⟨j, hj, rfl, rfl, hr, hb⟩ := hrel
            have y0 := (hb.cell (p := ⟨w.heap.size, 0, none⟩) lW).trans X0.out
            have y1 := (hb.cell (p := ⟨w.heap.size, 1, none⟩) lW).trans X1.out
            have y2 := (hb.cell (p := ⟨w.heap.size, 2, none⟩) lW).trans X2.out
            have y3 := (hb.cell (p := ⟨w.heap.size, 3, none⟩) lW).trans X3.out
            have i0 : (0 : Int) ≤ (j : Int) := Int.natCast_nonneg _
            by_cases hlt : j < 179
            · have hlt' : (j : Int) < 179 := by omega
              obtain ⟨p1, p2⟩ := run_part (xs := xs) (sg := (-1)) hlt hr.out
              have HV := Lib.hid (fun t' (h : t' = (-1) * (1 + (j : Int))) => (by rw [h] : acrossOf xs t' = acrossOf xs ((-1) * (1 + (j : Int)))))
              have P1 := Lib.hid p1
              have P2 := Lib.hid p2
              clear p1 p2 hr
              generalize acrossOf xs ((-1) * (1 + (j : Int))) = v at *
              by_cases ha : v ≤ 3000
              · have hr' := Lib.hid (P1.out ha)
                clear P1 P2
                go_wp2_with fail
                refine (horizontal_any _ s g _ ga ca xs HN.out HR.out (by have := hb.size; omega) (fun k hk => (hb.cell (p := ⟨ga, k, none⟩) lw).trans (HC.out k hk)) _ (by constructor <;> omega)).mono ?_
                rintro e w1 ⟨he, hb1⟩
                obtain rfl : e = .returned (.int .i64 v) := he.trans (ret_int (HV.out _ (by omega)))
                have hb2 := Lib.hid (hb.trans (hb1.mono hb.size))
                clear hb1
                go_wp2_with fail
                go_roundw
                case rel => exact ⟨j + 1, by omega, by go_num, by go_num, hr', hb2.out⟩
                case measure => simp [intOf]; omega
              · have hk' := Lib.hid (P2.out ha)
                clear P1 P2
                go_wp2_with fail
                refine (horizontal_any _ s g _ ga ca xs HN.out HR.out (by have := hb.size; omega) (fun k hk => (hb.cell (p := ⟨ga, k, none⟩) lw).trans (HC.out k hk)) _ (by constructor <;> omega)).mono ?_
                rintro e w1 ⟨he, hb1⟩
                obtain rfl : e = .returned (.int .i64 v) := he.trans (ret_int (HV.out _ (by omega)))
                have hb2 := Lib.hid (hb.trans (hb1.mono hb.size))
                clear hb1
                go_wp2_with fail
                have HBF := Lib.hid (HB0.out.trans (hb2.out.mono (HB0.out.size)))
                go_ret2
                refine ⟨?_, HBF.out⟩
                have h1 := HK1.out
                have h2 := hk'.out
                rw [h1, h2]
                try rfl
            · have hge : 179 ≤ (j : Int) := by omega
              have hk' := Lib.hid (run_end' (show j = 179 by omega) hr.out)
              clear hr
              go_wp2_with fail
              have HBF := Lib.hid (HB0.out.trans (hb.mono (HB0.out.size)))
              go_ret2
              refine ⟨?_, HBF.out⟩
              have h1 := HK1.out
              have h2 := hk'.out
              rw [h1, h2]
              try rfl
      · have hge : 180 ≤ (k : Int) := by omega
        have HV := trivial
        have hk' := Lib.hid (run_end' (show k = 180 by omega) hr.out)
        clear hr
        go_wp2_with fail
        have HK1 := Lib.hid hk'.out
        clear hk' HV y0 y1 y2 y3
        go_loopw [4, 6] (fun m d wr => ∃ j : Nat, j ≤ 179 ∧ m = .int .i64 (1 + (k : Int) + (j : Int)) ∧ d = .int .i64 (1 + (j : Int)) ∧ Hid (R2 = j + runOf xs (-1) (179 - j) (1 + j)) ∧ Below W.heap.size W wr) (fun _ d _ => 200 - (intOf d).toNat)
        case atStart => exact ⟨0, by omega, by simp, by simp, by have := HR2.out; show R2 = _; simpa using this, hb⟩
        case round =>
          clear hb
          obtain ⟨j, hj, rfl, rfl, hr, hb⟩ := hrel
          have y0 := (hb.cell (p := ⟨w.heap.size, 0, none⟩) lW).trans X0.out
          have y1 := (hb.cell (p := ⟨w.heap.size, 1, none⟩) lW).trans X1.out
          have y2 := (hb.cell (p := ⟨w.heap.size, 2, none⟩) lW).trans X2.out
          have y3 := (hb.cell (p := ⟨w.heap.size, 3, none⟩) lW).trans X3.out
          have i0 : (0 : Int) ≤ (j : Int) := Int.natCast_nonneg _
          by_cases hlt : j < 179
          · have hlt' : (j : Int) < 179 := by omega
            obtain ⟨p1, p2⟩ := run_part (xs := xs) (sg := (-1)) hlt hr.out
            have HV := Lib.hid (fun t' (h : t' = (-1) * (1 + (j : Int))) => (by rw [h] : acrossOf xs t' = acrossOf xs ((-1) * (1 + (j : Int)))))
            have P1 := Lib.hid p1
            have P2 := Lib.hid p2
            clear p1 p2 hr
            generalize acrossOf xs ((-1) * (1 + (j : Int))) = v at *
            by_cases ha : v ≤ 3000
            · have hr' := Lib.hid (P1.out ha)
              clear P1 P2
              go_wp2_with fail
              refine (horizontal_any _ s g _ ga ca xs HN.out HR.out (by have := hb.size; omega) (fun k hk => (hb.cell (p := ⟨ga, k, none⟩) lw).trans (HC.out k hk)) _ (by constructor <;> omega)).mono ?_
              rintro e w1 ⟨he, hb1⟩
              obtain rfl : e = .returned (.int .i64 v) := he.trans (ret_int (HV.out _ (by omega)))
              have hb2 := Lib.hid (hb.trans (hb1.mono hb.size))
              clear hb1
              go_wp2_with fail
              go_roundw
              case rel => exact ⟨j + 1, by omega, by go_num, by go_num, hr', hb2.out⟩
              case measure => simp [intOf]; omega
            · have hk' := Lib.hid (P2.out ha)
              clear P1 P2
              go_wp2_with fail
              refine (horizontal_any _ s g _ ga ca xs HN.out HR.out (by have := hb.size; omega) (fun k hk => (hb.cell (p := ⟨ga, k, none⟩) lw).trans (HC.out k hk)) _ (by constructor <;> omega)).mono ?_
              rintro e w1 ⟨he, hb1⟩
              obtain rfl : e = .returned (.int .i64 v) := he.trans (ret_int (HV.out _ (by omega)))
              have hb2 := Lib.hid (hb.trans (hb1.mono hb.size))
              clear hb1
              go_wp2_with fail
              have HBF := Lib.hid (HB0.out.trans (hb2.out.mono (HB0.out.size)))
              go_ret2
              refine ⟨?_, HBF.out⟩
              have h1 := HK1.out
              have h2 := hk'.out
              rw [h1, h2]
              try rfl
          · have hge : 179 ≤ (j : Int) := by omega
            have hk' := Lib.hid (run_end' (show j = 179 by omega) hr.out)
            clear hr
            go_wp2_with fail
            have HBF := Lib.hid (HB0.out.trans (hb.mono (HB0.out.size)))
            go_ret2
            refine ⟨?_, HBF.out⟩
            have h1 := HK1.out
            have h2 := hk'.out
            rw [h1, h2]
            try rfl
set_option maxHeartbeats 4000000 in
theorem walk (w : World) (s0_0 : ByteArray) (is0_0 : s0_0.size ≤ maxLen) (a0_1 : Int) (ia0_1 : In64 a0_1) (v0_2 : Value) (x0_2 : List Int) (r0_2 : Rd w w.heap.size v0_2 x0_2) (ix0_2 : ∀ n ∈ x0_2, In64 n) (v0_3 : Value) (x0_3 : List Int) (r0_3 : Rd w w.heap.size v0_3 x0_3) (ix0_3 : ∀ n ∈ x0_3, In64 n) :
    Calls Try.prog 14 #[.agg #[.string s0_0, .int .i64 a0_1, v0_2, v0_3]] w fun e w' => e = .returned (.bool true) ∧ Below w.heap.size w w' := by
  by_cases hs0 : ¬ (s0_0.size : Int) + (x0_2.length : Int) + (x0_3.length : Int) ≤ 1048576
  · go_enter Try.func14, Try.ntmps14
    go_wp2_with fail
    refine (szAntenna_not s0_0 a0_1 _ x0_2 _ x0_3 _ w.heap.size (by first | omega | (simp <;> omega)) (Rd.below r0_2 (by repeat (first | (with_reducible exact Below.refl _ _) | (with_reducible assumption) | ((with_reducible refine bl_alloc ?_ _ ?_); (focus ((first | omega | (simp <;> omega)); done))) | ((with_reducible refine bl_set ?_ _ ?_); (focus ((first | omega | (simp <;> omega)); done))) | (with_reducible refine below_drewN ?_ _) | (with_reducible refine Below.drew ?_)))) (Rd.below r0_3 (by repeat (first | (with_reducible exact Below.refl _ _) | (with_reducible assumption) | ((with_reducible refine bl_alloc ?_ _ ?_); (focus ((first | omega | (simp <;> omega)); done))) | ((with_reducible refine bl_set ?_ _ ?_); (focus ((first | omega | (simp <;> omega)); done))) | (with_reducible refine below_drewN ?_ _) | (with_reducible refine Below.drew ?_)))) is0_0 _ (by omega) (by omega) (by omega)).mono ?_
    rintro e w1 ⟨rfl, hb⟩
    have zz1 : w.heap.size + 1 ≤ w1.heap.size := (by have := hb.size; ((try simp at this) <;> omega))
    have H1 := Lib.hid (show Below w.heap.size w w1 by repeat (first | (with_reducible exact Below.refl _ _) | (with_reducible assumption) | ((with_reducible refine bl_alloc ?_ _ ?_); (focus ((first | omega | (simp <;> omega)); done))) | ((with_reducible refine bl_set ?_ _ ?_); (focus ((first | omega | (simp <;> omega)); done))) | (with_reducible refine below_drewN ?_ _) | (with_reducible refine Below.drew ?_) | ((with_reducible refine bl_trans ?_ hb ?_); (focus ((first | omega | (simp <;> omega)); done)))))
    have f0_0_1 := keeps hb (p := ⟨w.heap.size, 0, none⟩) (v := .string s0_0) (by simp [go_sem])
    have f0_1_1 := keeps hb (p := ⟨w.heap.size, 1, none⟩) (v := .int .i64 a0_1) (by simp [go_sem])
    have f0_2_1 := keeps hb (p := ⟨w.heap.size, 2, none⟩) (v := v0_2) (by simp [go_sem])
    have f0_3_1 := keeps hb (p := ⟨w.heap.size, 3, none⟩) (v := v0_3) (by simp [go_sem])
    have g0_1 : w.heap.size < w1.heap.size := block_of_cell f0_0_1
    clear hb
    go_wp2_with fail
    go_ret
    exact ⟨rfl, (by repeat (first | (with_reducible exact Below.refl _ _) | (with_reducible assumption) | ((with_reducible refine bl_alloc ?_ _ ?_); (focus ((first | omega | (simp <;> omega)); done))) | ((with_reducible refine bl_set ?_ _ ?_); (focus ((first | omega | (simp <;> omega)); done))) | (with_reducible refine below_drewN ?_ _) | (with_reducible refine Below.drew ?_) | ((with_reducible refine bl_trans ?_ H1.out ?_); (focus ((first | omega | (simp <;> omega)); done)))))⟩
  have hs0' : (s0_0.size : Int) + (x0_2.length : Int) + (x0_3.length : Int) ≤ 1048576 := by omega
  clear hs0
  go_enter Try.func14, Try.ntmps14
  go_wp2_with fail
  refine (szAntenna_fits s0_0 a0_1 _ x0_2 _ x0_3 _ w.heap.size (by first | omega | (simp <;> omega)) (Rd.below r0_2 (by repeat (first | (with_reducible exact Below.refl _ _) | (with_reducible assumption) | ((with_reducible refine bl_alloc ?_ _ ?_); (focus ((first | omega | (simp <;> omega)); done))) | ((with_reducible refine bl_set ?_ _ ?_); (focus ((first | omega | (simp <;> omega)); done))) | (with_reducible refine below_drewN ?_ _) | (with_reducible refine Below.drew ?_)))) (Rd.below r0_3 (by repeat (first | (with_reducible exact Below.refl _ _) | (with_reducible assumption) | ((with_reducible refine bl_alloc ?_ _ ?_); (focus ((first | omega | (simp <;> omega)); done))) | ((with_reducible refine bl_set ?_ _ ?_); (focus ((first | omega | (simp <;> omega)); done))) | (with_reducible refine below_drewN ?_ _) | (with_reducible refine Below.drew ?_)))) is0_0 _ (by omega) (by omega)).mono ?_
  rintro e w1 ⟨rfl, hb⟩
  have zz1 : w.heap.size + 1 ≤ w1.heap.size := (by have := hb.size; ((try simp at this) <;> omega))
  have H1 := Lib.hid (show Below w.heap.size w w1 by repeat (first | (with_reducible exact Below.refl _ _) | (with_reducible assumption) | ((with_reducible refine bl_alloc ?_ _ ?_); (focus ((first | omega | (simp <;> omega)); done))) | ((with_reducible refine bl_set ?_ _ ?_); (focus ((first | omega | (simp <;> omega)); done))) | (with_reducible refine below_drewN ?_ _) | (with_reducible refine Below.drew ?_) | ((with_reducible refine bl_trans ?_ hb ?_); (focus ((first | omega | (simp <;> omega)); done)))))
  have f0_0_1 := keeps hb (p := ⟨w.heap.size, 0, none⟩) (v := .string s0_0) (by simp [go_sem])
  have f0_1_1 := keeps hb (p := ⟨w.heap.size, 1, none⟩) (v := .int .i64 a0_1) (by simp [go_sem])
  have f0_2_1 := keeps hb (p := ⟨w.heap.size, 2, none⟩) (v := v0_2) (by simp [go_sem])
  have f0_3_1 := keeps hb (p := ⟨w.heap.size, 3, none⟩) (v := v0_3) (by simp [go_sem])
  have g0_1 : w.heap.size < w1.heap.size := block_of_cell f0_0_1
  clear hb
  go_wp2_with fail
  refine (toAntenna_any s0_0 a0_1 v0_2 x0_2 v0_3 x0_3 _ w.heap.size (by first | omega | (simp <;> omega)) (Rd.below r0_2 (by repeat (first | (with_reducible exact Below.refl _ _) | (with_reducible assumption) | ((with_reducible refine bl_alloc ?_ _ ?_); (focus ((first | omega | (simp <;> omega)); done))) | ((with_reducible refine bl_set ?_ _ ?_); (focus ((first | omega | (simp <;> omega)); done))) | (with_reducible refine below_drewN ?_ _) | (with_reducible refine Below.drew ?_) | ((with_reducible refine bl_trans ?_ H1.out ?_); (focus ((first | omega | (simp <;> omega)); done)))))) (by omega) (Rd.below r0_3 (by repeat (first | (with_reducible exact Below.refl _ _) | (with_reducible assumption) | ((with_reducible refine bl_alloc ?_ _ ?_); (focus ((first | omega | (simp <;> omega)); done))) | ((with_reducible refine bl_set ?_ _ ?_); (focus ((first | omega | (simp <;> omega)); done))) | (with_reducible refine below_drewN ?_ _) | (with_reducible refine Below.drew ?_) | ((with_reducible refine bl_trans ?_ H1.out ?_); (focus ((first | omega | (simp <;> omega)); done)))))) (by omega)).mono ?_
  rintro e w2 ⟨A0, n0, c0, A1, n1, c1, rfl, hr0, hr1, ha0_1, hb⟩
  have zz2 : w1.heap.size ≤ w2.heap.size := (by have := hb.size; ((try simp at this) <;> omega))
  have H2 := Lib.hid (show Below w.heap.size w w2 by repeat (first | (with_reducible exact Below.refl _ _) | (with_reducible assumption) | ((with_reducible refine bl_alloc ?_ _ ?_); (focus ((first | omega | (simp <;> omega)); done))) | ((with_reducible refine bl_set ?_ _ ?_); (focus ((first | omega | (simp <;> omega)); done))) | (with_reducible refine below_drewN ?_ _) | (with_reducible refine Below.drew ?_) | ((with_reducible refine bl_trans ?_ hb ?_); (focus ((first | omega | (simp <;> omega)); done))) | ((with_reducible refine bl_trans ?_ H1.out ?_); (focus ((first | omega | (simp <;> omega)); done)))))
  have f0_0_2 := keeps hb f0_0_1
  have f0_1_2 := keeps hb f0_1_1
  have f0_2_2 := keeps hb f0_2_1
  have f0_3_2 := keeps hb f0_3_1
  have g0_2 : w.heap.size < w2.heap.size := block_of_cell f0_0_2
  have R0_2 := Lib.hid hr0
  have RL0 := Lib.hid (show ∀ g, Value.ownBlock (.slice A0 n0 c0) = some g → w1.heap.size ≤ g ∧ g < w2.heap.size from fun g h => by have l1 := hr0.lt g h; ((try simp at l1) <;> omega))
  have RA0_1 := Lib.hid ha0_1
  have R1_2 := Lib.hid hr1
  have RL1 := Lib.hid (show ∀ g, Value.ownBlock (.slice A1 n1 c1) = some g → w1.heap.size ≤ g ∧ g < w2.heap.size from fun g h => by have l1 := hr1.lt g h; ((try simp at l1) <;> omega))
  clear hb f0_0_1 f0_1_1 f0_2_1 f0_3_1 g0_1 hr0 ha0_1 hr1 H1
  go_wp2_with fail
  refine (spec_any _ s0_0 is0_0 a0_1 ia0_1 _ x0_2 _ R0_2.out ix0_2 _ x0_3 _ R1_2.out ix0_3).mono ?_
  rintro e w3 ⟨rfl, hb⟩
  have zz3 : w2.heap.size ≤ w3.heap.size := (by have := hb.size; ((try simp at this) <;> omega))
  have H3 := Lib.hid (show Below w.heap.size w w3 by repeat (first | (with_reducible exact Below.refl _ _) | (with_reducible assumption) | ((with_reducible refine bl_alloc ?_ _ ?_); (focus ((first | omega | (simp <;> omega)); done))) | ((with_reducible refine bl_set ?_ _ ?_); (focus ((first | omega | (simp <;> omega)); done))) | (with_reducible refine below_drewN ?_ _) | (with_reducible refine Below.drew ?_) | ((with_reducible refine bl_trans ?_ hb ?_); (focus ((first | omega | (simp <;> omega)); done))) | ((with_reducible refine bl_trans ?_ H2.out ?_); (focus ((first | omega | (simp <;> omega)); done)))))
  have f0_0_3 := keeps hb f0_0_2
  have f0_1_3 := keeps hb f0_1_2
  have f0_2_3 := keeps hb f0_2_2
  have f0_3_3 := keeps hb f0_3_2
  have g0_3 : w.heap.size < w3.heap.size := block_of_cell f0_0_3
  clear hb f0_0_2 f0_1_2 f0_2_2 f0_3_2 g0_2 R0_2 R1_2 H2
  go_wp2_with fail
  refine (toAntenna_any s0_0 a0_1 v0_2 x0_2 v0_3 x0_3 _ w.heap.size (by first | omega | (simp <;> omega)) (Rd.below r0_2 (by repeat (first | (with_reducible exact Below.refl _ _) | (with_reducible assumption) | ((with_reducible refine bl_alloc ?_ _ ?_); (focus ((first | omega | (simp <;> omega)); done))) | ((with_reducible refine bl_set ?_ _ ?_); (focus ((first | omega | (simp <;> omega)); done))) | (with_reducible refine below_drewN ?_ _) | (with_reducible refine Below.drew ?_) | ((with_reducible refine bl_trans ?_ H3.out ?_); (focus ((first | omega | (simp <;> omega)); done)))))) (by omega) (Rd.below r0_3 (by repeat (first | (with_reducible exact Below.refl _ _) | (with_reducible assumption) | ((with_reducible refine bl_alloc ?_ _ ?_); (focus ((first | omega | (simp <;> omega)); done))) | ((with_reducible refine bl_set ?_ _ ?_); (focus ((first | omega | (simp <;> omega)); done))) | (with_reducible refine below_drewN ?_ _) | (with_reducible refine Below.drew ?_) | ((with_reducible refine bl_trans ?_ H3.out ?_); (focus ((first | omega | (simp <;> omega)); done)))))) (by omega)).mono ?_
  rintro e w4 ⟨A2, n2, c2, A3, n3, c3, rfl, hr2, hr3, ha2_3, hb⟩
  have zz4 : w3.heap.size ≤ w4.heap.size := (by have := hb.size; ((try simp at this) <;> omega))
  have H4 := Lib.hid (show Below w.heap.size w w4 by repeat (first | (with_reducible exact Below.refl _ _) | (with_reducible assumption) | ((with_reducible refine bl_alloc ?_ _ ?_); (focus ((first | omega | (simp <;> omega)); done))) | ((with_reducible refine bl_set ?_ _ ?_); (focus ((first | omega | (simp <;> omega)); done))) | (with_reducible refine below_drewN ?_ _) | (with_reducible refine Below.drew ?_) | ((with_reducible refine bl_trans ?_ hb ?_); (focus ((first | omega | (simp <;> omega)); done))) | ((with_reducible refine bl_trans ?_ H3.out ?_); (focus ((first | omega | (simp <;> omega)); done)))))
  have f0_0_4 := keeps hb f0_0_3
  have f0_1_4 := keeps hb f0_1_3
  have f0_2_4 := keeps hb f0_2_3
  have f0_3_4 := keeps hb f0_3_3
  have g0_4 : w.heap.size < w4.heap.size := block_of_cell f0_0_4
  have R2_4 := Lib.hid hr2
  have RL2 := Lib.hid (show ∀ g, Value.ownBlock (.slice A2 n2 c2) = some g → w3.heap.size ≤ g ∧ g < w4.heap.size from fun g h => by have l1 := hr2.lt g h; ((try simp at l1) <;> omega))
  have RA2_3 := Lib.hid ha2_3
  have R3_4 := Lib.hid hr3
  have RL3 := Lib.hid (show ∀ g, Value.ownBlock (.slice A3 n3 c3) = some g → w3.heap.size ≤ g ∧ g < w4.heap.size from fun g h => by have l1 := hr3.lt g h; ((try simp at l1) <;> omega))
  clear hb f0_0_3 f0_1_3 f0_2_3 f0_3_3 g0_3 hr2 ha2_3 hr3 H3
  go_wp2_with fail
  refine (impl_any _ s0_0 is0_0 a0_1 ia0_1 _ x0_2 _ (R2_4.out.alloc_ _) ix0_2 _ x0_3 _ (R3_4.out.alloc_ _) ix0_3).mono ?_
  rintro e w5 ⟨rfl, hb⟩
  have zz5 : w4.heap.size + 1 ≤ w5.heap.size := (by have := hb.size; ((try simp at this) <;> omega))
  have H5 := Lib.hid (show Below w.heap.size w w5 by repeat (first | (with_reducible exact Below.refl _ _) | (with_reducible assumption) | ((with_reducible refine bl_alloc ?_ _ ?_); (focus ((first | omega | (simp <;> omega)); done))) | ((with_reducible refine bl_set ?_ _ ?_); (focus ((first | omega | (simp <;> omega)); done))) | (with_reducible refine below_drewN ?_ _) | (with_reducible refine Below.drew ?_) | ((with_reducible refine bl_trans ?_ hb ?_); (focus ((first | omega | (simp <;> omega)); done))) | ((with_reducible refine bl_trans ?_ H4.out ?_); (focus ((first | omega | (simp <;> omega)); done)))))
  have f0_0_5 := keeps hb (cell_alloc f0_0_4 _)
  have f0_1_5 := keeps hb (cell_alloc f0_1_4 _)
  have f0_2_5 := keeps hb (cell_alloc f0_2_4 _)
  have f0_3_5 := keeps hb (cell_alloc f0_3_4 _)
  have g0_5 : w.heap.size < w5.heap.size := block_of_cell f0_0_5
  have f1_0_5 := keeps hb (p := ⟨w4.heap.size, 0, none⟩) (v := .string s0_0) (by simp [go_sem])
  have f1_1_5 := keeps hb (p := ⟨w4.heap.size, 1, none⟩) (v := .int .i64 a0_1) (by simp [go_sem])
  have f1_2_5 := keeps hb (p := ⟨w4.heap.size, 2, none⟩) (v := (.slice A2 n2 c2)) (by simp [go_sem])
  have f1_3_5 := keeps hb (p := ⟨w4.heap.size, 3, none⟩) (v := (.slice A3 n3 c3)) (by simp [go_sem])
  have g1_5 : w4.heap.size < w5.heap.size := block_of_cell f1_0_5
  have R2_5 := Lib.hid (Row.later (R2_4.out.alloc_ _) hb)
  have R3_5 := Lib.hid (Row.later (R3_4.out.alloc_ _) hb)
  clear hb f0_0_4 f0_1_4 f0_2_4 f0_3_4 g0_4 R2_4 R3_4 H4
  go_wp2_with fail
  go_region_held3 (fun w' => w'.cell? ⟨w4.heap.size, 0, none⟩ = some (.string s0_0) ∧ w'.cell? ⟨w4.heap.size, 1, none⟩ = some (.int .i64 a0_1) ∧ w'.cell? ⟨w4.heap.size, 2, none⟩ = some ((.slice A2 n2 c2)) ∧ w'.cell? ⟨w4.heap.size, 3, none⟩ = some ((.slice A3 n3 c3)) ∧ w'.cell? ⟨w.heap.size, 0, none⟩ = some (.string s0_0) ∧ w'.cell? ⟨w.heap.size, 1, none⟩ = some (.int .i64 a0_1) ∧ w'.cell? ⟨w.heap.size, 2, none⟩ = some (v0_2) ∧ w'.cell? ⟨w.heap.size, 3, none⟩ = some (v0_3))
    (first | (refine ⟨?_, ?_, ?_, ?_, ?_, ?_, ?_, ?_⟩ <;> assumption) | (go_split_ands; (refine ⟨?_, ?_, ?_, ?_, ?_, ?_, ?_, ?_⟩ <;> first | assumption | (refine keeps hb ?_; assumption))))
    (first
      | (go_at_call 37; ((with_reducible refine (toAntenna_any s0_0 a0_1 v0_2 x0_2 v0_3 x0_3 _ w.heap.size (by first | omega | (simp <;> omega)) (Rd.below r0_2 (by repeat (first | (with_reducible exact Below.refl _ _) | (with_reducible assumption) | ((with_reducible refine bl_alloc ?_ _ ?_); (focus ((first | omega | (simp <;> omega)); done))) | ((with_reducible refine bl_set ?_ _ ?_); (focus ((first | omega | (simp <;> omega)); done))) | (with_reducible refine below_drewN ?_ _) | (with_reducible refine Below.drew ?_) | ((with_reducible refine bl_trans ?_ H5.out ?_); (focus ((first | omega | (simp <;> omega)); done)))))) (by omega) (Rd.below r0_3 (by repeat (first | (with_reducible exact Below.refl _ _) | (with_reducible assumption) | ((with_reducible refine bl_alloc ?_ _ ?_); (focus ((first | omega | (simp <;> omega)); done))) | ((with_reducible refine bl_set ?_ _ ?_); (focus ((first | omega | (simp <;> omega)); done))) | (with_reducible refine below_drewN ?_ _) | (with_reducible refine Below.drew ?_) | ((with_reducible refine bl_trans ?_ H5.out ?_); (focus ((first | omega | (simp <;> omega)); done)))))) (by omega)).mono ?_); rintro e w6 ⟨A4, n4, c4, A5, n5, c5, rfl, hr4, hr5, ha4_5, hb⟩; have zz6 : w5.heap.size ≤ w6.heap.size := (by have := hb.size; ((try simp at this) <;> omega)); have H6 := Lib.hid (show Below w.heap.size w w6 by repeat (first | (with_reducible exact Below.refl _ _) | (with_reducible assumption) | ((with_reducible refine bl_alloc ?_ _ ?_); (focus ((first | omega | (simp <;> omega)); done))) | ((with_reducible refine bl_set ?_ _ ?_); (focus ((first | omega | (simp <;> omega)); done))) | (with_reducible refine below_drewN ?_ _) | (with_reducible refine Below.drew ?_) | ((with_reducible refine bl_trans ?_ hb ?_); (focus ((first | omega | (simp <;> omega)); done))) | ((with_reducible refine bl_trans ?_ H5.out ?_); (focus ((first | omega | (simp <;> omega)); done))))); have R2_6 := Lib.hid (Row.later1 R2_5.out hb); have R3_6 := Lib.hid (Row.later1 R3_5.out hb); have R4_6 := Lib.hid hr4; have RL4 := Lib.hid (show ∀ g, Value.ownBlock (.slice A4 n4 c4) = some g → w5.heap.size ≤ g ∧ g < w6.heap.size from fun g h => by have l1 := hr4.lt g h; ((try simp at l1) <;> omega)); have RA4_5 := Lib.hid ha4_5; have R5_6 := Lib.hid hr5; have RL5 := Lib.hid (show ∀ g, Value.ownBlock (.slice A5 n5 c5) = some g → w5.heap.size ≤ g ∧ g < w6.heap.size from fun g h => by have l1 := hr5.lt g h; ((try simp at l1) <;> omega)); clear f0_0_5 f0_1_5 f0_2_5 f0_3_5 g0_5 f1_0_5 f1_1_5 f1_2_5 f1_3_5 g1_5 R2_5 R3_5 hr4 ha4_5 hr5 H5))
      | (go_at_call 39; ((with_reducible refine (eqAntenna_any s0_0 a0_1 _ _ _ (x0_2) _ _ R2_6.out R4_6.out _ _ (x0_3) _ _ R3_6.out R5_6.out).mono ?_); rintro e w7 ⟨rfl, hb⟩; have zz7 : w6.heap.size ≤ w7.heap.size := (by have := hb.size; ((try simp at this) <;> omega)); have H7 := Lib.hid (show Below w.heap.size w w7 by repeat (first | (with_reducible exact Below.refl _ _) | (with_reducible assumption) | ((with_reducible refine bl_alloc ?_ _ ?_); (focus ((first | omega | (simp <;> omega)); done))) | ((with_reducible refine bl_set ?_ _ ?_); (focus ((first | omega | (simp <;> omega)); done))) | (with_reducible refine below_drewN ?_ _) | (with_reducible refine Below.drew ?_) | ((with_reducible refine bl_trans ?_ hb ?_); (focus ((first | omega | (simp <;> omega)); done))) | ((with_reducible refine bl_trans ?_ H6.out ?_); (focus ((first | omega | (simp <;> omega)); done))))); clear R2_6 R3_6 R4_6 R5_6 H6)))
  go_wp2_with fail
  go_ret
  exact ⟨rfl, (by repeat (first | (with_reducible exact Below.refl _ _) | (with_reducible assumption) | ((with_reducible refine bl_alloc ?_ _ ?_); (focus ((first | omega | (simp <;> omega)); done))) | ((with_reducible refine bl_set ?_ _ ?_); (focus ((first | omega | (simp <;> omega)); done))) | (with_reducible refine below_drewN ?_ _) | (with_reducible refine Below.drew ?_) | ((with_reducible refine bl_trans ?_ H7.out ?_); (focus ((first | omega | (simp <;> omega)); done)))))⟩
end Go.Proofs.Yticgoicjbjlbbaa.fnExactBeamWidth
