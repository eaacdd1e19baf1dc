/-
  Contracts of the functions that give the horizontal and the vertical loss of a valid antenna. The slices are rows of the call's own, with losses from 0 to 60000.
-/
import Derived.Test.YtdafkebnmmkeeaaPattern
import Derived.Test.YtdafkebnmmkeeaaInt
import Derived.BigQuiet
import Derived.Deep.RegionHeld3
import Derived.Deep.DrawnRows
namespace Go.Proofs.Ytdafkebnmmkeeaa
open Go.RowKit
set_option linter.unusedSimpArgs false
set_option linter.unusedVariables false
def degOf (t : Int) : Int := (Int.tmod t 360 + 360) % 360
def mixOf (l m u : Int) : Int := (l * (10 - u) + m * u + 5) / 10
def acrossOf (xs : List Int) (t : Int) : Int := mixOf (xs.getD (degOf t / 10).toNat 0) (xs.getD ((degOf t / 10 + 1) % 36).toNat 0) (degOf t % 10)
theorem deg_parts (t : Int) : ∃ (i j : Nat) (u : Int), (Int.tmod t 360 + 360) % 360 = 10 * (i : Int) + u ∧ Int.tmod t 360 % 360 = 10 * (i : Int) + u ∧ (10 * (i : Int) + u) / 10 = i ∧ (10 * (i : Int) + u) % 10 = u ∧ ((i : Int) + 1) % 36 = j ∧ i < 36 ∧ j < 36 ∧ 0 ≤ u ∧ u ≤ 9 ∧
    -359 ≤ Int.tmod t 360 ∧ Int.tmod t 360 ≤ 359 ∧ (∀ xs, acrossOf xs t = mixOf (xs.getD i 0) (xs.getD j 0) u) := by
  have h1 := Int.tmod_lt_of_pos t (show (0 : Int) < 360 by omega)
  have h2 := Int.lt_tmod_of_pos t (show (0 : Int) < 360 by omega)
  generalize hr : Int.tmod t 360 = r at *
  have e1 : (((r + 360) % 360 / 10).toNat : Int) = (r + 360) % 360 / 10 := by omega
  have e2 : ((((r + 360) % 360 / 10 + 1) % 36).toNat : Int) = ((r + 360) % 360 / 10 + 1) % 36 := by omega
  refine ⟨((r + 360) % 360 / 10).toNat, (((r + 360) % 360 / 10 + 1) % 36).toNat, (r + 360) % 360 % 10, ?_, ?_, ?_, ?_, ?_, by omega, by omega, by omega, by omega, by omega, by omega, fun xs => ?_⟩
  · omega
  · omega
  · omega
  · omega
  · omega
  · unfold acrossOf degOf
    rw [hr]
theorem mix_bd {l m u : Int} (h1 : 0 ≤ l) (h2 : l ≤ 60000) (h3 : 0 ≤ m) (h4 : m ≤ 60000) (h5 : 0 ≤ u) (h6 : u ≤ 9) : 0 ≤ l * (10 - u) ∧ l * (10 - u) ≤ 600000 ∧ 0 ≤ m * u ∧ m * u ≤ 600000 := by
  have a1 := Int.mul_nonneg h1 (show 0 ≤ 10 - u by omega)
  have a2 := Int.mul_le_mul h2 (show 10 - u ≤ 10 by omega) (by omega) (by omega)
  have a3 := Int.mul_nonneg h3 h5
  have a4 := Int.mul_le_mul h4 (show u ≤ 10 by omega) h5 (by omega)
  omega
theorem mixedLoss_any (w : World) (l m u : Int) (m1 : 0 ≤ l * (10 - u)) (m2 : l * (10 - u) ≤ 600000) (m3 : 0 ≤ m * u) (m4 : m * u ≤ 600000) (u0 : 0 ≤ u) (u1 : u ≤ 9) :
    Calls Try.prog 153 #[.int .i64 l, .int .i64 m, .int .i64 u] w fun e w' => e = .returned (.int .i64 (mixOf l m u)) ∧ w = w' := by
  go_enter Try.func153, Try.ntmps153
  go_wp2_with fail
  go_ret
  exact ⟨rfl, rfl⟩
theorem l06Mix_any (w : World) (l m u : Int) (m1 : 0 ≤ l * (10 - u)) (m2 : l * (10 - u) ≤ 600000) (m3 : 0 ≤ m * u) (m4 : m * u ≤ 600000) (u0 : 0 ≤ u) (u1 : u ≤ 9) :
    Calls Try.prog 150 #[.int .i64 l, .int .i64 m, .int .i64 u] w fun e w' => e = .returned (.int .i64 (mixOf l m u)) ∧ w = w' := by
  go_enter Try.func150, Try.ntmps150
  go_wp2_with fail
  go_ret
  exact ⟨rfl, rfl⟩
set_option maxHeartbeats 2000000 in
theorem horizontal_any (w : World) (s : ByteArray) (g : Int) (b : Value) (ga ca : Nat) (xs : List Int) (hn : xs.length = 36) (hr : allIn xs 0 60000 = true) (la : ga < w.heap.size)
    (hc : ∀ k, k < 36 → w.cell? ⟨ga, k, none⟩ = some (.int .i64 (xs.getD k 0))) (t : Int) (it : In64 t) :
    Calls Try.prog 120 #[.agg #[.string s, .int .i64 g, .slice (some ⟨ga, 0, none⟩) 36 ca, b], .int .i64 t] w fun e w' => e = .returned (.int .i64 (acrossOf xs t)) ∧ Below w.heap.size w w' := by
  obtain ⟨t1, t2⟩ := it
  obtain ⟨i, j, u, q1, q2, q3, q4, q5, i1, j1, u0, u1, r1, r2, he⟩ := deg_parts t
  have H := of_decide_eq_true hr
  obtain ⟨a1, a2⟩ := H i (by omega)
  obtain ⟨a3, a4⟩ := H j (by omega)
  have c1 := hc i i1
  have c2 := hc j j1
  rw [he xs]
  clear hr H hc he
  generalize xs.getD i 0 = x at *
  generalize xs.getD j 0 = y at *
  obtain ⟨m1, m2, m3, m4⟩ := mix_bd a1 a2 a3 a4 u0 u1
  have k0 : (0 : Int) ≤ (i : Int) := Int.natCast_nonneg _
  have k1 : (i : Int) < 36 := by omega
  have k2 : (0 : Int) ≤ (j : Int) := Int.natCast_nonneg _
  have k3 : (j : Int) < 36 := by omega
  have v1 : IntKind.i64.wrap ((i : Int) + 1) = (i : Int) + 1 := by rw [IntKind.wrap_i64]; omega
  have v2 : ((i : Int) + 1).tmod 36 = (j : Int) := by rw [Int.tmod_eq_emod_of_nonneg (by omega)]; exact q5
  have v3 : (10 * (i : Int) + u).tmod 10 = u := by rw [Int.tmod_eq_emod_of_nonneg (by omega)]; exact q4
  go_enter Try.func120, Try.ntmps120
  go_wp2_with fail
  go_quiet ((go_at_call 153; exact quiet_left (mixedLoss_any _ _ _ _ m1 m2 m3 m4 u0 u1)))
  go_wp2_with fail
  go_ret
  exact ⟨rfl, by repeat (first | (with_reducible exact Below.refl _ _) | (with_reducible assumption) | ((with_reducible refine bl_alloc ?_ _ ?_); (focus ((first | omega | (simp <;> omega)); done))) | ((with_reducible refine bl_set ?_ _ ?_); (focus ((first | omega | (simp <;> omega)); done))) | (with_reducible refine below_drewN ?_ _) | (with_reducible refine Below.drew ?_))⟩
set_option maxHeartbeats 2000000 in
theorem l06Across_any (w : World) (o : Nat) (ga ca : Nat) (xs : List Int) (hn : xs.length = 36) (hr : allIn xs 0 60000 = true)
    (hc : ∀ k, k < 36 → w.cell? ⟨ga, k, none⟩ = some (.int .i64 (xs.getD k 0))) (c2 : w.cell? ⟨o, 2, none⟩ = some (.slice (some ⟨ga, 0, none⟩) 36 ca)) (t : Int) (it : In64 t) :
    Calls Try.prog 116 #[.pointer (some ⟨o, 0, none⟩), .int .i64 t] w fun e w' => e = .returned (.int .i64 (acrossOf xs t)) ∧ ∃ m, w' = w.drewN m := by
  obtain ⟨t1, t2⟩ := it
  obtain ⟨i, j, u, q1, q2, q3, q4, q5, i1, j1, u0, u1, r1, r2, he⟩ := deg_parts t
  have H := of_decide_eq_true hr
  obtain ⟨a1, a2⟩ := H i (by omega)
  obtain ⟨a3, a4⟩ := H j (by omega)
  have x1 := hc i i1
  have x2 := hc j j1
  rw [he xs]
  clear hr H hc he
  generalize xs.getD i 0 = x at *
  generalize xs.getD j 0 = y at *
  obtain ⟨m1, m2, m3, m4⟩ := mix_bd a1 a2 a3 a4 u0 u1
  have k0 : (0 : Int) ≤ (i : Int) := Int.natCast_nonneg _
  have k1 : (i : Int) < 36 := by omega
  have k2 : (0 : Int) ≤ (j : Int) := Int.natCast_nonneg _
  have k3 : (j : Int) < 36 := by omega
  have v1 : IntKind.i64.wrap ((i : Int) + 1) = (i : Int) + 1 := by rw [IntKind.wrap_i64]; omega
  have v2 : ((i : Int) + 1).tmod 36 = (j : Int) := by rw [Int.tmod_eq_emod_of_nonneg (by omega)]; exact q5
  have v3 : (10 * (i : Int) + u).tmod 10 = u := by rw [Int.tmod_eq_emod_of_nonneg (by omega)]; exact q4
  go_enter Try.func116, Try.ntmps116
  go_wp2_with ((go_at_call 149; go_in))
  go_quiet ((go_at_call 150; exact quiet_left (l06Mix_any _ _ _ _ m1 m2 m3 m4 u0 u1)))
  go_wp2_with fail
  go_ret
  exact ⟨rfl, _, rfl⟩
def upOf (ys : List Int) (e : Int) : Int := if e = 90 then ys.getD 18 0 else mixOf (ys.getD ((e + 90) / 10).toNat 0) (ys.getD ((e + 90) / 10 + 1).toNat 0) ((e + 90) % 10)
theorem up_end {ys : List Int} : upOf ys 90 = ys.getD 18 0 := if_pos rfl
theorem up_parts {e : Int} (h1 : -90 ≤ e) (h2 : e ≤ 90) (h : ¬ e = 90) : ∃ (i : Nat) (u : Int), e + 90 = 10 * (i : Int) + u ∧ i < 18 ∧ 0 ≤ u ∧ u ≤ 9 ∧ (10 * (i : Int) + u) / 10 = i ∧ (10 * (i : Int) + u) % 10 = u ∧ (10 * (i : Int) + u).tmod 10 = u ∧ (10 * (i : Int) + u).tdiv 10 = i ∧
    (∀ ys, upOf ys e = mixOf (ys.getD i 0) (ys.getD (i + 1) 0) u) := by
  have e1 : (((e + 90) / 10).toNat : Int) = (e + 90) / 10 := by omega
  refine ⟨((e + 90) / 10).toNat, (e + 90) % 10, by omega, by omega, by omega, by omega, by omega, by omega, ?_, ?_, fun ys => ?_⟩
  · rw [Int.tmod_eq_emod_of_nonneg (by omega)]; omega
  · rw [Int.tdiv_eq_ediv_of_nonneg (by omega)]; omega
  · have e2 : ((e + 90) / 10 + 1).toNat = ((e + 90) / 10).toNat + 1 := by omega
    unfold upOf
    rw [if_neg h, e2]
attribute [local go_sem ↓] Go.wp_at_zero Go.wp_at_succ
set_option maxHeartbeats 2000000 in
theorem vertical_any (w : World) (s : ByteArray) (g : Int) (a : Value) (gb cb : Nat) (ys : List Int) (hn : ys.length = 19) (hr : allIn ys 0 60000 = true) (la : gb < w.heap.size)
    (hc : ∀ k, k < 19 → w.cell? ⟨gb, k, none⟩ = some (.int .i64 (ys.getD k 0))) (t : Int) (t1 : -90 ≤ t) (t2 : t ≤ 90) :
    Calls Try.prog 121 #[.agg #[.string s, .int .i64 g, a, .slice (some ⟨gb, 0, none⟩) 19 cb], .int .i64 t] w fun e w' => e = .returned (.int .i64 (upOf ys t)) ∧ Below w.heap.size w w' := by
  have H := of_decide_eq_true hr
  by_cases ht : t = 90
  · subst ht
    obtain ⟨a1, a2⟩ := H 18 (by omega)
    have x1 := hc 18 (by omega)
    rw [up_end]
    clear hr H hc
    generalize ys.getD 18 0 = x at *
    have HM : Hid (x = mixOf x x 0) := by
      show x = (x * (10 - 0) + x * 0 + 5) / 10
      omega
    go_enter Try.func121, Try.ntmps121
    go_wp2_with fail
    go_quiet ((go_at_call 153; exact quiet_left (mixedLoss_any _ _ _ _ (by omega) (by omega) (by omega) (by omega) (by omega) (by omega))))
    go_wp2_with fail
    go_ret
    exact ⟨ret_int HM.out.symm, by repeat (first | (with_reducible exact Below.refl _ _) | (with_reducible assumption) | ((with_reducible refine bl_alloc ?_ _ ?_); (focus ((first | omega | (simp <;> omega)); done))) | ((with_reducible refine bl_set ?_ _ ?_); (focus ((first | omega | (simp <;> omega)); done))) | (with_reducible refine below_drewN ?_ _) | (with_reducible refine Below.drew ?_))⟩
  obtain ⟨i, u, q1, i1, u0, u1, q2, q3, q4, q5, he⟩ := up_parts t1 t2 ht
  obtain ⟨a1, a2⟩ := H i (by omega)
  obtain ⟨a3, a4⟩ := H (i + 1) (by omega)
  have x1 := hc i (by omega)
  have x2 := hc (i + 1) (by omega)
  rw [he ys]
  clear hr H hc he ht
  generalize ys.getD i 0 = x at *
  generalize ys.getD (i + 1) 0 = y at *
  obtain ⟨m1, m2, m3, m4⟩ := mix_bd a1 a2 a3 a4 u0 u1
  have k0 : (0 : Int) ≤ (i : Int) := Int.natCast_nonneg _
  have k1 : (i : Int) < 18 := by omega
  have k2 : (i : Int) < 19 := by omega
  have k3 : (i : Int) + 1 < 19 := by omega
  have k4 : (0 : Int) ≤ (i : Int) + 1 := by omega
  have v1 : IntKind.i64.wrap ((i : Int) + 1) = (i : Int) + 1 := by rw [IntKind.wrap_i64]; omega
  have v2 : ¬ ((18 : Int) < (i : Int) + 1) := by omega
  have v3 : IntKind.i64.wrap (t + 90) = 10 * (i : Int) + u := by rw [IntKind.wrap_i64]; omega
  go_enter Try.func121, Try.ntmps121
  go_wp2_with fail
  go_quiet ((go_at_call 153; exact quiet_left (mixedLoss_any _ _ _ _ m1 m2 m3 m4 u0 u1)))
  go_wp2_with fail
  go_ret
  exact ⟨rfl, by repeat (first | (with_reducible exact Below.refl _ _) | (with_reducible assumption) | ((with_reducible refine bl_alloc ?_ _ ?_); (focus ((first | omega | (simp <;> omega)); done))) | ((with_reducible refine bl_set ?_ _ ?_); (focus ((first | omega | (simp <;> omega)); done))) | (with_reducible refine below_drewN ?_ _) | (with_reducible refine Below.drew ?_))⟩
set_option maxHeartbeats 2000000 in
theorem l06Up_any (w : World) (o : Nat) (gb cb : Nat) (ys : List Int) (hn : ys.length = 19) (hr : allIn ys 0 60000 = true)
    (hc : ∀ k, k < 19 → w.cell? ⟨gb, k, none⟩ = some (.int .i64 (ys.getD k 0))) (c3 : w.cell? ⟨o, 3, none⟩ = some (.slice (some ⟨gb, 0, none⟩) 19 cb)) (t : Int) (t1 : -90 ≤ t) (t2 : t ≤ 90) :
    Calls Try.prog 117 #[.pointer (some ⟨o, 0, none⟩), .int .i64 t] w fun e w' => e = .returned (.int .i64 (upOf ys t)) ∧ ∃ m, w' = w.drewN m := by
  have H := of_decide_eq_true hr
  by_cases ht : t = 90
  · subst ht
    have x1 := hc 18 (by omega)
    rw [up_end]
    clear hr H hc
    generalize ys.getD 18 0 = x at *
    go_enter Try.func117, Try.ntmps117
    go_wp2_with fail
    go_ret
    exact ⟨rfl, 0, rfl⟩
  obtain ⟨i, u, q1, i1, u0, u1, q2, q3, q4, q5, he⟩ := up_parts t1 t2 ht
  obtain ⟨a1, a2⟩ := H i (by omega)
  obtain ⟨a3, a4⟩ := H (i + 1) (by omega)
  have x1 := hc i (by omega)
  have x2 := hc (i + 1) (by omega)
  rw [he ys]
  clear hr H hc he ht
  generalize ys.getD i 0 = x at *
  generalize ys.getD (i + 1) 0 = y at *
  obtain ⟨m1, m2, m3, m4⟩ := mix_bd a1 a2 a3 a4 u0 u1
  have k0 : (0 : Int) ≤ (i : Int) := Int.natCast_nonneg _
  have k1 : (i : Int) < 18 := by omega
  have k2 : (i : Int) < 19 := by omega
  have k3 : (i : Int) + 1 < 19 := by omega
  have k4 : (0 : Int) ≤ (i : Int) + 1 := by omega
  have v1 : IntKind.i64.wrap ((i : Int) + 1) = (i : Int) + 1 := by rw [IntKind.wrap_i64]; omega
  have v3 : IntKind.i64.wrap (t + 90) = 10 * (i : Int) + u := by rw [IntKind.wrap_i64]; omega
  have v4 : ((10 * (i : Int) + u) == 180) = false := by rw [beq_eq_false_iff_ne]; omega
  have v5 : ((t + 90) == 180) = false := by rw [beq_eq_false_iff_ne]; omega
  have v6 : ((i : Int) + 1).toNat = i + 1 := by omega
  go_enter Try.func117, Try.ntmps117
  go_wp2_with fail
  go_quiet ((go_at_call 150; exact quiet_left (l06Mix_any _ _ _ _ m1 m2 m3 m4 u0 u1)))
  go_wp2_with fail
  go_ret
  exact ⟨rfl, _, rfl⟩
end Go.Proofs.Ytdafkebnmmkeeaa
