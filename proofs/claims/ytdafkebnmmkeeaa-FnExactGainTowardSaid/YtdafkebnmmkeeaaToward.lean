/-
  Contracts of the gain of an antenna toward a bearing and an elevation: the program's and the reference's: one model. The conditions are the hypotheses.
-/
import Derived.Test.YtdafkebnmmkeeaaAcross
import Derived.Test.YtdafkebnmmkeeaaWithin
import Derived.Outline
import Derived.Deep.RegionHeld3
import Derived.Deep.DrawnRows
namespace Go.Proofs.Ytdafkebnmmkeeaa
open Go.RowKit
set_option linter.unusedSimpArgs false
set_option linter.unusedVariables false
attribute [local go_sem ↓] Go.wp_at_zero Go.wp_at_succ
theorem across_bd {xs : List Int} (hn : xs.length = 36) (hr : allIn xs 0 60000 = true) (t : Int) : 0 ≤ acrossOf xs t ∧ acrossOf xs t ≤ 120001 := by
  obtain ⟨i, j, u, q1, q2, q3, q4, q5, i1, j1, u0, u1, r1, r2, he⟩ := deg_parts t
  have H := of_decide_eq_true hr
  obtain ⟨a1, a2⟩ := H i (by omega)
  obtain ⟨a3, a4⟩ := H j (by omega)
  obtain ⟨m1, m2, m3, m4⟩ := mix_bd a1 a2 a3 a4 u0 u1
  rw [he xs]
  unfold mixOf
  omega
theorem up_bd {ys : List Int} (hn : ys.length = 19) (hr : allIn ys 0 60000 = true) {t : Int} (t1 : -90 ≤ t) (t2 : t ≤ 90) : 0 ≤ upOf ys t ∧ upOf ys t ≤ 120001 := by
  have H := of_decide_eq_true hr
  by_cases ht : t = 90
  · subst ht
    rw [up_end]
    have := H 18 (by omega)
    omega
  obtain ⟨i, u, q1, i1, u0, u1, q2, q3, q4, q5, he⟩ := up_parts t1 t2 ht
  obtain ⟨a1, a2⟩ := H i (by omega)
  obtain ⟨a3, a4⟩ := H (i + 1) (by omega)
  obtain ⟨m1, m2, m3, m4⟩ := mix_bd a1 a2 a3 a4 u0 u1
  rw [he ys]
  unfold mixOf
  omega
def towV (g : Int) (xs ys : List Int) (az ti be el : Int) : Int := g - min (acrossOf xs (be - az) + upOf ys (min (max (el + ti) (-90)) 90)) 60000
theorem tMin_any (w : World) (a b : Int) : Calls Try.prog 115 #[.int .i64 a, .int .i64 b] w fun e w' => e = .returned (.int .i64 (min a b)) ∧ w = w' := by
  by_cases h : a < b
  · have e : min a b = a := by omega
    rw [e]
    clear e
    go_enter Try.func115, Try.ntmps115
    go_wp2
    go_ret
    exact ⟨rfl, rfl⟩
  · have e : min a b = b := by omega
    have h' : b ≤ a := by omega
    rw [e]
    clear e h
    go_enter Try.func115, Try.ntmps115
    go_wp2
    go_ret
    exact ⟨rfl, rfl⟩
theorem tMax_any (w : World) (a b : Int) : Calls Try.prog 88 #[.int .i64 a, .int .i64 b] w fun e w' => e = .returned (.int .i64 (max a b)) ∧ w = w' := by
  by_cases h : b < a
  · have e : max a b = a := by omega
    rw [e]
    clear e
    go_enter Try.func88, Try.ntmps88
    go_wp2
    go_ret
    exact ⟨rfl, rfl⟩
  · have e : max a b = b := by omega
    have h' : a ≤ b := by omega
    rw [e]
    clear e h
    go_enter Try.func88, Try.ntmps88
    go_wp2
    go_ret
    exact ⟨rfl, rfl⟩
set_option maxRecDepth 20000 in
set_option maxHeartbeats 4000000 in
theorem toward_any (w : World) (s : ByteArray) (g : Int) (ga ca gb cb : Nat) (xs ys : List Int) (n1 : xs.length = 36) (n2 : ys.length = 19) (r1 : allIn xs 0 60000 = true) (r2 : allIn ys 0 60000 = true) (l1 : ga < w.heap.size) (l2 : gb < w.heap.size)
    (k1 : ∀ k, k < 36 → w.cell? ⟨ga, k, none⟩ = some (.int .i64 (xs.getD k 0))) (k2 : ∀ k, k < 19 → w.cell? ⟨gb, k, none⟩ = some (.int .i64 (ys.getD k 0))) (g0 : -60000 ≤ g) (g1 : g ≤ 60000)
    (az ti be el : Int) (a0 : 0 ≤ az) (a1 : az ≤ 359) (b0 : 0 ≤ be) (b1 : be ≤ 359) (t0 : -90 ≤ ti) (t1 : ti ≤ 90) (e0 : -90 ≤ el) (e1 : el ≤ 90) :
    Calls Try.prog 75 #[.agg #[.string s, .int .i64 g, .slice (some ⟨ga, 0, none⟩) 36 ca, .slice (some ⟨gb, 0, none⟩) 19 cb], .int .i64 az, .int .i64 ti, .int .i64 be, .int .i64 el] w fun e w' => e = .returned (.int .i64 (towV g xs ys az ti be el)) ∧ Below w.heap.size w w' := by
  have HV : Hid (towV g xs ys az ti be el = g - min (acrossOf xs (be - az) + upOf ys (min (max (el + ti) (-90)) 90)) 60000) := rfl
  obtain ⟨V, hV⟩ : ∃ V, V = towV g xs ys az ti be el := ⟨_, rfl⟩
  rw [← hV] at HV ⊢
  obtain ⟨h0, h1⟩ := across_bd n1 r1 (be - az)
  obtain ⟨u0, u1⟩ := up_bd n2 r2 (t := min (max (el + ti) (-90)) 90) (by omega) (by omega)
  have HH : Hid (∀ W : World, Below w.heap.size w W → Calls Try.prog 120 #[.agg #[.string s, .int .i64 g, .slice (some ⟨ga, 0, none⟩) 36 ca, .slice (some ⟨gb, 0, none⟩) 19 cb], .int .i64 (be - az)] W fun e w' => e = .returned (.int .i64 (acrossOf xs (be - az))) ∧ Below W.heap.size W w') := fun W hb =>
    horizontal_any W s g _ ga ca xs n1 r1 (by have := hb.size; omega) (fun k hk => (hb.cell (p := ⟨ga, k, none⟩) l1).trans (k1 k hk)) (be - az) ⟨by omega, by omega⟩
  have HU : Hid (∀ (W : World) (x : Int), Below w.heap.size w W → x = min (max (el + ti) (-90)) 90 → Calls Try.prog 121 #[.agg #[.string s, .int .i64 g, .slice (some ⟨ga, 0, none⟩) 36 ca, .slice (some ⟨gb, 0, none⟩) 19 cb], .int .i64 x] W fun e w' => e = .returned (.int .i64 (upOf ys (min (max (el + ti) (-90)) 90))) ∧ Below W.heap.size W w') := fun W x hb hx => by
    rw [hx]
    exact vertical_any W s g _ gb cb ys n2 r2 (by have := hb.size; omega) (fun k hk => (hb.cell (p := ⟨gb, k, none⟩) l2).trans (k2 k hk)) _ (by omega) (by omega)
  have i1 : IntKind.i64.wrap (be - az) = be - az := by rw [IntKind.wrap_i64]; omega
  have i2 : IntKind.i64.wrap (el + ti) = el + ti := by rw [IntKind.wrap_i64]; omega
  obtain ⟨H, hH⟩ : ∃ H, H = acrossOf xs (be - az) := ⟨_, rfl⟩
  obtain ⟨U, hU⟩ : ∃ U, U = upOf ys (min (max (el + ti) (-90)) 90) := ⟨_, rfl⟩
  rw [← hH] at HV HH h0 h1
  rw [← hU] at HV HU u0 u1
  have i3 : IntKind.i64.wrap (H + U) = H + U := by rw [IntKind.wrap_i64]; omega
  clear hV hH hU k1 k2 r1 r2
  have hways : (el + ti < -90 ∧ el + ti ≤ 90) ∨ (¬ el + ti < -90 ∧ ¬ 90 < el + ti) ∨ (¬ el + ti < -90 ∧ 90 < el + ti) := by omega
  rcases hways with ⟨c1, c2⟩ | ⟨c1, c2⟩ | ⟨c1, c2⟩
  · go_enter Try.func75, Try.ntmps75
    go_wp2_with fail
    go_region_held3 (fun w' => w'.cell? ⟨w.heap.size, 0, none⟩ = some (.string s) ∧ w'.cell? ⟨w.heap.size, 1, none⟩ = some (.int .i64 g) ∧ w'.cell? ⟨w.heap.size, 2, none⟩ = some (.slice (some ⟨ga, 0, none⟩) 36 ca) ∧ w'.cell? ⟨w.heap.size, 3, none⟩ = some (.slice (some ⟨gb, 0, none⟩) 19 cb))
      (first | (refine ⟨?_, ?_, ?_, ?_⟩ <;> assumption) | (go_split_ands; (refine ⟨?_, ?_, ?_, ?_⟩ <;> first | assumption | (refine keeps hb ?_; assumption))) | go_keep)
      (first
        | (go_at_call 120; ((with_reducible refine (HH.out _ (by repeat (first | (with_reducible exact Below.refl _ _) | (with_reducible assumption) | ((with_reducible refine bl_alloc ?_ _ ?_); (focus ((first | omega | (simp <;> omega)); done))) | ((with_reducible refine bl_set ?_ _ ?_); (focus ((first | omega | (simp <;> omega)); done))) | (with_reducible refine below_drewN ?_ _) | (with_reducible refine Below.drew ?_)))).mono ?_); rintro e w1 ⟨rfl, hb⟩; have H1 := Lib.hid (show Below w.heap.size w w1 by repeat (first | (with_reducible exact Below.refl _ _) | (with_reducible assumption) | ((with_reducible refine bl_alloc ?_ _ ?_); (focus ((first | omega | (simp <;> omega)); done))) | ((with_reducible refine bl_set ?_ _ ?_); (focus ((first | omega | (simp <;> omega)); done))) | (with_reducible refine below_drewN ?_ _) | (with_reducible refine Below.drew ?_) | ((with_reducible refine bl_trans ?_ hb ?_); (focus ((first | omega | (simp <;> omega)); done))))); have z1 : w.heap.size ≤ w1.heap.size := H1.out.size))
        | (go_at_call 121; ((with_reducible refine (HU.out _ _ (by repeat (first | (with_reducible exact Below.refl _ _) | (with_reducible assumption) | ((with_reducible refine bl_alloc ?_ _ ?_); (focus ((first | omega | (simp <;> omega)); done))) | ((with_reducible refine bl_set ?_ _ ?_); (focus ((first | omega | (simp <;> omega)); done))) | (with_reducible refine below_drewN ?_ _) | (with_reducible refine Below.drew ?_) | ((with_reducible refine bl_trans ?_ H1.out ?_); (focus ((first | omega | (simp <;> omega)); done))))) (by (repeat' split) <;> omega)).mono ?_); rintro e w2 ⟨rfl, hb⟩; have H2 := Lib.hid (show Below w.heap.size w w2 by repeat (first | (with_reducible exact Below.refl _ _) | (with_reducible assumption) | ((with_reducible refine bl_alloc ?_ _ ?_); (focus ((first | omega | (simp <;> omega)); done))) | ((with_reducible refine bl_set ?_ _ ?_); (focus ((first | omega | (simp <;> omega)); done))) | (with_reducible refine below_drewN ?_ _) | (with_reducible refine Below.drew ?_) | ((with_reducible refine bl_trans ?_ hb ?_); (focus ((first | omega | (simp <;> omega)); done))) | ((with_reducible refine bl_trans ?_ H1.out ?_); (focus ((first | omega | (simp <;> omega)); done))))))))
    go_wp2_with fail
    all_goals go_ret
    all_goals exact ⟨ret_int (by rw [HV.out]; omega), by repeat (first | (with_reducible exact Below.refl _ _) | (with_reducible assumption) | ((with_reducible refine bl_alloc ?_ _ ?_); (focus ((first | omega | (simp <;> omega)); done))) | ((with_reducible refine bl_set ?_ _ ?_); (focus ((first | omega | (simp <;> omega)); done))) | (with_reducible refine below_drewN ?_ _) | (with_reducible refine Below.drew ?_) | ((with_reducible refine bl_trans ?_ H2.out ?_); (focus ((first | omega | (simp <;> omega)); done))))⟩
  · go_enter Try.func75, Try.ntmps75
    go_wp2_with fail
    go_region_held3 (fun w' => w'.cell? ⟨w.heap.size, 0, none⟩ = some (.string s) ∧ w'.cell? ⟨w.heap.size, 1, none⟩ = some (.int .i64 g) ∧ w'.cell? ⟨w.heap.size, 2, none⟩ = some (.slice (some ⟨ga, 0, none⟩) 36 ca) ∧ w'.cell? ⟨w.heap.size, 3, none⟩ = some (.slice (some ⟨gb, 0, none⟩) 19 cb))
      (first | (refine ⟨?_, ?_, ?_, ?_⟩ <;> assumption) | (go_split_ands; (refine ⟨?_, ?_, ?_, ?_⟩ <;> first | assumption | (refine keeps hb ?_; assumption))) | go_keep)
      (first
        | (go_at_call 120; ((with_reducible refine (HH.out _ (by repeat (first | (with_reducible exact Below.refl _ _) | (with_reducible assumption) | ((with_reducible refine bl_alloc ?_ _ ?_); (focus ((first | omega | (simp <;> omega)); done))) | ((with_reducible refine bl_set ?_ _ ?_); (focus ((first | omega | (simp <;> omega)); done))) | (with_reducible refine below_drewN ?_ _) | (with_reducible refine Below.drew ?_)))).mono ?_); rintro e w1 ⟨rfl, hb⟩; have H1 := Lib.hid (show Below w.heap.size w w1 by repeat (first | (with_reducible exact Below.refl _ _) | (with_reducible assumption) | ((with_reducible refine bl_alloc ?_ _ ?_); (focus ((first | omega | (simp <;> omega)); done))) | ((with_reducible refine bl_set ?_ _ ?_); (focus ((first | omega | (simp <;> omega)); done))) | (with_reducible refine below_drewN ?_ _) | (with_reducible refine Below.drew ?_) | ((with_reducible refine bl_trans ?_ hb ?_); (focus ((first | omega | (simp <;> omega)); done))))); have z1 : w.heap.size ≤ w1.heap.size := H1.out.size))
        | (go_at_call 121; ((with_reducible refine (HU.out _ _ (by repeat (first | (with_reducible exact Below.refl _ _) | (with_reducible assumption) | ((with_reducible refine bl_alloc ?_ _ ?_); (focus ((first | omega | (simp <;> omega)); done))) | ((with_reducible refine bl_set ?_ _ ?_); (focus ((first | omega | (simp <;> omega)); done))) | (with_reducible refine below_drewN ?_ _) | (with_reducible refine Below.drew ?_) | ((with_reducible refine bl_trans ?_ H1.out ?_); (focus ((first | omega | (simp <;> omega)); done))))) (by (repeat' split) <;> omega)).mono ?_); rintro e w2 ⟨rfl, hb⟩; have H2 := Lib.hid (show Below w.heap.size w w2 by repeat (first | (with_reducible exact Below.refl _ _) | (with_reducible assumption) | ((with_reducible refine bl_alloc ?_ _ ?_); (focus ((first | omega | (simp <;> omega)); done))) | ((with_reducible refine bl_set ?_ _ ?_); (focus ((first | omega | (simp <;> omega)); done))) | (with_reducible refine below_drewN ?_ _) | (with_reducible refine Below.drew ?_) | ((with_reducible refine bl_trans ?_ hb ?_); (focus ((first | omega | (simp <;> omega)); done))) | ((with_reducible refine bl_trans ?_ H1.out ?_); (focus ((first | omega | (simp <;> omega)); done))))))))
    go_wp2_with fail
    all_goals go_ret
    all_goals exact ⟨ret_int (by rw [HV.out]; omega), by repeat (first | (with_reducible exact Below.refl _ _) | (with_reducible assumption) | ((with_reducible refine bl_alloc ?_ _ ?_); (focus ((first | omega | (simp <;> omega)); done))) | ((with_reducible refine bl_set ?_ _ ?_); (focus ((first | omega | (simp <;> omega)); done))) | (with_reducible refine below_drewN ?_ _) | (with_reducible refine Below.drew ?_) | ((with_reducible refine bl_trans ?_ H2.out ?_); (focus ((first | omega | (simp <;> omega)); done))))⟩
  · go_enter Try.func75, Try.ntmps75
    go_wp2_with fail
    go_region_held3 (fun w' => w'.cell? ⟨w.heap.size, 0, none⟩ = some (.string s) ∧ w'.cell? ⟨w.heap.size, 1, none⟩ = some (.int .i64 g) ∧ w'.cell? ⟨w.heap.size, 2, none⟩ = some (.slice (some ⟨ga, 0, none⟩) 36 ca) ∧ w'.cell? ⟨w.heap.size, 3, none⟩ = some (.slice (some ⟨gb, 0, none⟩) 19 cb))
      (first | (refine ⟨?_, ?_, ?_, ?_⟩ <;> assumption) | (go_split_ands; (refine ⟨?_, ?_, ?_, ?_⟩ <;> first | assumption | (refine keeps hb ?_; assumption))) | go_keep)
      (first
        | (go_at_call 120; ((with_reducible refine (HH.out _ (by repeat (first | (with_reducible exact Below.refl _ _) | (with_reducible assumption) | ((with_reducible refine bl_alloc ?_ _ ?_); (focus ((first | omega | (simp <;> omega)); done))) | ((with_reducible refine bl_set ?_ _ ?_); (focus ((first | omega | (simp <;> omega)); done))) | (with_reducible refine below_drewN ?_ _) | (with_reducible refine Below.drew ?_)))).mono ?_); rintro e w1 ⟨rfl, hb⟩; have H1 := Lib.hid (show Below w.heap.size w w1 by repeat (first | (with_reducible exact Below.refl _ _) | (with_reducible assumption) | ((with_reducible refine bl_alloc ?_ _ ?_); (focus ((first | omega | (simp <;> omega)); done))) | ((with_reducible refine bl_set ?_ _ ?_); (focus ((first | omega | (simp <;> omega)); done))) | (with_reducible refine below_drewN ?_ _) | (with_reducible refine Below.drew ?_) | ((with_reducible refine bl_trans ?_ hb ?_); (focus ((first | omega | (simp <;> omega)); done))))); have z1 : w.heap.size ≤ w1.heap.size := H1.out.size))
        | (go_at_call 121; ((with_reducible refine (HU.out _ _ (by repeat (first | (with_reducible exact Below.refl _ _) | (with_reducible assumption) | ((with_reducible refine bl_alloc ?_ _ ?_); (focus ((first | omega | (simp <;> omega)); done))) | ((with_reducible refine bl_set ?_ _ ?_); (focus ((first | omega | (simp <;> omega)); done))) | (with_reducible refine below_drewN ?_ _) | (with_reducible refine Below.drew ?_) | ((with_reducible refine bl_trans ?_ H1.out ?_); (focus ((first | omega | (simp <;> omega)); done))))) (by (repeat' split) <;> omega)).mono ?_); rintro e w2 ⟨rfl, hb⟩; have H2 := Lib.hid (show Below w.heap.size w w2 by repeat (first | (with_reducible exact Below.refl _ _) | (with_reducible assumption) | ((with_reducible refine bl_alloc ?_ _ ?_); (focus ((first | omega | (simp <;> omega)); done))) | ((with_reducible refine bl_set ?_ _ ?_); (focus ((first | omega | (simp <;> omega)); done))) | (with_reducible refine below_drewN ?_ _) | (with_reducible refine Below.drew ?_) | ((with_reducible refine bl_trans ?_ hb ?_); (focus ((first | omega | (simp <;> omega)); done))) | ((with_reducible refine bl_trans ?_ H1.out ?_); (focus ((first | omega | (simp <;> omega)); done))))))))
    go_wp2_with fail
    all_goals go_ret
    all_goals exact ⟨ret_int (by rw [HV.out]; omega), by repeat (first | (with_reducible exact Below.refl _ _) | (with_reducible assumption) | ((with_reducible refine bl_alloc ?_ _ ?_); (focus ((first | omega | (simp <;> omega)); done))) | ((with_reducible refine bl_set ?_ _ ?_); (focus ((first | omega | (simp <;> omega)); done))) | (with_reducible refine below_drewN ?_ _) | (with_reducible refine Below.drew ?_) | ((with_reducible refine bl_trans ?_ H2.out ?_); (focus ((first | omega | (simp <;> omega)); done))))⟩
set_option maxRecDepth 20000 in
set_option maxHeartbeats 4000000 in
theorem l06Toward_any (w : World) (o : Nat) (g : Int) (ga ca gb cb : Nat) (xs ys : List Int) (n1 : xs.length = 36) (n2 : ys.length = 19) (r1 : allIn xs 0 60000 = true) (r2 : allIn ys 0 60000 = true)
    (k1 : ∀ k, k < 36 → w.cell? ⟨ga, k, none⟩ = some (.int .i64 (xs.getD k 0))) (k2 : ∀ k, k < 19 → w.cell? ⟨gb, k, none⟩ = some (.int .i64 (ys.getD k 0))) (g0 : -60000 ≤ g) (g1 : g ≤ 60000)
    (c1 : w.cell? ⟨o, 1, none⟩ = some (.int .i64 g)) (c2 : w.cell? ⟨o, 2, none⟩ = some (.slice (some ⟨ga, 0, none⟩) 36 ca)) (c3 : w.cell? ⟨o, 3, none⟩ = some (.slice (some ⟨gb, 0, none⟩) 19 cb))
    (az ti be el : Int) (a0 : 0 ≤ az) (a1 : az ≤ 359) (b0 : 0 ≤ be) (b1 : be ≤ 359) (t0 : -90 ≤ ti) (t1 : ti ≤ 90) (e0 : -90 ≤ el) (e1 : el ≤ 90) :
    Calls Try.prog 72 #[.pointer (some ⟨o, 0, none⟩), .int .i64 az, .int .i64 ti, .int .i64 be, .int .i64 el] w fun e w' => e = .returned (.int .i64 (towV g xs ys az ti be el)) ∧ ∃ m, w' = w.drewN m := by
  have hq : max (-90) (min 90 (el + ti)) = min (max (el + ti) (-90)) 90 := by omega
  have HV : Hid (towV g xs ys az ti be el = g - min 60000 (acrossOf xs (be - az) + upOf ys (max (-90) (min 90 (el + ti))))) := by
    show g - min _ 60000 = _
    rw [hq, Int.min_comm]
  obtain ⟨V, hV⟩ : ∃ V, V = towV g xs ys az ti be el := ⟨_, rfl⟩
  rw [← hV] at HV ⊢
  obtain ⟨h0, h1⟩ := across_bd n1 r1 (be - az)
  obtain ⟨u0, u1⟩ := up_bd n2 r2 (t := max (-90) (min 90 (el + ti))) (by omega) (by omega)
  have HH : Hid (∀ n : Nat, Calls Try.prog 116 #[.pointer (some ⟨o, 0, none⟩), .int .i64 (be - az)] (w.drewN n) fun e w' => e = .returned (.int .i64 (acrossOf xs (be - az))) ∧ ∃ m, w' = (w.drewN n).drewN m) := fun n =>
    l06Across_any (w.drewN n) o ga ca xs n1 r1 k1 c2 (be - az) ⟨by omega, by omega⟩
  have HU : Hid (∀ n : Nat, Calls Try.prog 117 #[.pointer (some ⟨o, 0, none⟩), .int .i64 (max (-90) (min 90 (el + ti)))] (w.drewN n) fun e w' => e = .returned (.int .i64 (upOf ys (max (-90) (min 90 (el + ti))))) ∧ ∃ m, w' = (w.drewN n).drewN m) := fun n =>
    l06Up_any (w.drewN n) o gb cb ys n2 r2 k2 c3 _ (by omega) (by omega)
  have i1 : IntKind.i64.wrap (be - az) = be - az := by rw [IntKind.wrap_i64]; omega
  have i2 : IntKind.i64.wrap (el + ti) = el + ti := by rw [IntKind.wrap_i64]; omega
  obtain ⟨H, hH⟩ : ∃ H, H = acrossOf xs (be - az) := ⟨_, rfl⟩
  obtain ⟨U, hU⟩ : ∃ U, U = upOf ys (max (-90) (min 90 (el + ti))) := ⟨_, rfl⟩
  rw [← hH] at HV HH h0 h1
  rw [← hU] at HV HU u0 u1
  have i3 : IntKind.i64.wrap (H + U) = H + U := by rw [IntKind.wrap_i64]; omega
  clear hV hH hU k1 k2 r1 r2 hq
  go_enter Try.func72, Try.ntmps72
  go_wp2_with (first | (go_at_call 115; refine (tMin_any _ _ _).mono ?_; rintro e w1 ⟨rfl, rfl⟩) | (go_at_call 88; refine (tMax_any _ _ _).mono ?_; rintro e w1 ⟨rfl, rfl⟩))
  go_quiet (first | (go_at_call 116; exact quiet_draws (HH.out _)) | (go_at_call 117; exact quiet_draws (HU.out _)) | (go_at_call 115; exact quiet_left (tMin_any _ _ _)))
  go_wp2_with fail
  go_ret
  exact ⟨ret_int HV.out.symm, _, rfl⟩
end Go.Proofs.Ytdafkebnmmkeeaa
