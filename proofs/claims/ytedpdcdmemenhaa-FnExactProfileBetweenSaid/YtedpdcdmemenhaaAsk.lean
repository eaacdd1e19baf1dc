/-
  Two ends of a path in a terrain: the reference's code. The conditions are the hypotheses.
-/
import Derived.Test.YtedpdcdmemenhaaRows
import Derived.Test.YtedpdcdmemenhaaLib
import Derived.Test.YtedpdcdmemenhaaInt
import Derived.Test.YtedpdcdmemenhaaWithin
import Derived.Test.YtedpdcdmemenhaaAll
import Derived.Test.YtedpdcdmemenhaaOwn
import Derived.Test.YtedpdcdmemenhaaField
import Derived.Test.YtedpdcdmemenhaaTer
import Derived.Test.YtedpdcdmemenhaaTerV
import Derived.Test.YtedpdcdmemenhaaIn
import Derived.Test.YtedpdcdmemenhaaEnds
import Derived.Shelf.Abstract
import Derived.Outline
import Derived.Deep.DeepCutAuto
import Derived.Deep.QuietTactic
import Derived.BigQuiet
import Derived.Deep.RegionHeld3
import Derived.Deep.DrawnRows
namespace Go.Proofs.Ytedpdcdmemenhaa
open Go.RowKit
set_option linter.unusedSimpArgs false
set_option linter.unusedVariables false
attribute [local go_sem ↓] Go.wp_at_zero Go.wp_at_succ
def askV (st wd ht : Int) (hs cs : List Int) (x y a s t b : Int) : Int := if endsV st wd ht hs cs [⟨x, y, a⟩, ⟨s, t, b⟩] = 0 then (if x = s ∧ y = t then 6 else 0) else endsV st wd ht hs cs [⟨x, y, a⟩, ⟨s, t, b⟩]
theorem ask_1 {st wd ht : Int} {hs cs : List Int} {x y a s t b : Int} (h : terB st wd ht hs cs = false) : endsV st wd ht hs cs [⟨x, y, a⟩, ⟨s, t, b⟩] = 1 := ends_1 h
theorem ask_2 {st wd ht : Int} {hs cs : List Int} {x y a s t b : Int} (h : endB x y a = false ∨ endB s t b = false) : endsV st wd ht hs cs [⟨x, y, a⟩, ⟨s, t, b⟩] = 1 := ends_2 (by rcases h with h | h <;> simp [h])
theorem ask_3 {st wd ht : Int} {hs cs : List Int} {x y a s t b : Int} (h : terB st wd ht hs cs = true) (h1 : endB x y a = true) (h2 : endB s t b = true) (h3 : hasB st wd ht x y = false ∨ hasB st wd ht s t = false) : endsV st wd ht hs cs [⟨x, y, a⟩, ⟨s, t, b⟩] = 2 :=
  ends_3 h (by simp [h1, h2]) (by rcases h3 with h | h <;> simp [h])
theorem ask_4 {st wd ht : Int} {hs cs : List Int} {x y a s t b : Int} (h : terB st wd ht hs cs = true) (h1 : endB x y a = true) (h2 : endB s t b = true) (h3 : hasB st wd ht x y = true) (h4 : hasB st wd ht s t = true) : endsV st wd ht hs cs [⟨x, y, a⟩, ⟨s, t, b⟩] = 0 :=
  ends_4 h (by simp [h1, h2]) (by simp [h3, h4])
theorem ask_of {st wd ht : Int} {hs cs : List Int} {x y a s t b c : Int} (h : endsV st wd ht hs cs [⟨x, y, a⟩, ⟨s, t, b⟩] = c) (hc : c ≠ 0) : askV st wd ht hs cs x y a s t b = c := by
  unfold askV
  rw [h, if_neg hc]
theorem ask_6 {st wd ht : Int} {hs cs : List Int} {x y a s t b : Int} (h : endsV st wd ht hs cs [⟨x, y, a⟩, ⟨s, t, b⟩] = 0) (hp : x = s ∧ y = t) : askV st wd ht hs cs x y a s t b = 6 := by
  unfold askV
  rw [if_pos h, if_pos hp]
theorem ask_0 {st wd ht : Int} {hs cs : List Int} {x y a s t b : Int} (h : endsV st wd ht hs cs [⟨x, y, a⟩, ⟨s, t, b⟩] = 0) (hp : ¬ (x = s ∧ y = t)) : askV st wd ht hs cs x y a s t b = 0 := by
  unfold askV
  rw [if_pos h, if_neg hp]
theorem ask_yes {st wd ht : Int} {hs cs : List Int} {x y a s t b : Int} (h : askV st wd ht hs cs x y a s t b = 0) : terB st wd ht hs cs = true ∧ endB x y a = true ∧ endB s t b = true ∧ hasB st wd ht x y = true ∧ hasB st wd ht s t = true ∧ ¬ (x = s ∧ y = t) := by
  rcases bool_tf (terB st wd ht hs cs) with h1 | h1
  rotate_left
  · rw [ask_of (ask_1 h1) (by omega)] at h; omega
  rcases bool_tf (endB x y a) with h2 | h2
  rotate_left
  · rw [ask_of (ask_2 (.inl h2)) (by omega)] at h; omega
  rcases bool_tf (endB s t b) with h3 | h3
  rotate_left
  · rw [ask_of (ask_2 (.inr h3)) (by omega)] at h; omega
  rcases bool_tf (hasB st wd ht x y) with h4 | h4
  rotate_left
  · rw [ask_of (ask_3 h1 h2 h3 (.inl h4)) (by omega)] at h; omega
  rcases bool_tf (hasB st wd ht s t) with h5 | h5
  rotate_left
  · rw [ask_of (ask_3 h1 h2 h3 (.inr h5)) (by omega)] at h; omega
  refine ⟨h1, h2, h3, h4, h5, fun hp => ?_⟩
  rw [ask_6 (ask_4 h1 h2 h3 h4 h5) hp] at h
  omega
theorem same_place (x y s t : Int) : ((x == s) && (y == t)) = decide (x = s ∧ y = t) := by
  by_cases h1 : x = s <;> by_cases h2 : y = t <;> simp [h1, h2]
set_option maxRecDepth 20000 in
set_option maxHeartbeats 4000000 in
theorem l12Ask_any (w : World) (o : Nat) (st wd ht : Int) (v : Value) (hs : List Int) (p : Nat) (hr : Row 2 w p v hs) (u : Value) (cs : List Int) (q : Nat) (hc : Row 2 w q u cs) (c0 : w.cell? ⟨o, 0, none⟩ = some (.int .i64 st)) (c1 : w.cell? ⟨o, 1, none⟩ = some (.int .i64 wd)) (c2 : w.cell? ⟨o, 2, none⟩ = some (.int .i64 ht)) (c3 : w.cell? ⟨o, 3, none⟩ = some (v)) (c4 : w.cell? ⟨o, 4, none⟩ = some (u)) (x y a s t b : Int) :
    Calls Try.prog 73 #[.pointer (some ⟨o, 0, none⟩), .agg #[.int .i64 x, .int .i64 y, .int .i64 a], .agg #[.int .i64 s, .int .i64 t, .int .i64 b]] w fun e w' => e = .returned (.int .i64 (askV st wd ht hs cs x y a s t b)) ∧ Below w.heap.size w w' := by
  obtain ⟨W0, hW0⟩ : ∃ W, W = (w.alloc (.cells #[.int .i64 x, .int .i64 y, .int .i64 a] 66)).alloc (.cells #[.int .i64 s, .int .i64 t, .int .i64 b] 66) := ⟨_, rfl⟩
  have HW0 := Lib.hid (show Below w.heap.size w W0 by rw [hW0]; repeat (first | (with_reducible exact Below.refl _ _) | (with_reducible assumption) | ((with_reducible refine bl_alloc ?_ _ ?_); (focus ((first | omega | (simp <;> omega)); done))) | ((with_reducible refine bl_set ?_ _ ?_); (focus ((first | omega | (simp <;> omega)); done))) | (with_reducible refine below_drewN ?_ _) | (with_reducible refine Below.drew ?_)))
  have z0 := HW0.out.size
  have e0 : W0.cell? ⟨w.heap.size, 0, none⟩ = some (.int .i64 x) := by rw [hW0]; simp [go_sem]
  have e1 : W0.cell? ⟨w.heap.size, 1, none⟩ = some (.int .i64 y) := by rw [hW0]; simp [go_sem]
  have e2 : W0.cell? ⟨w.heap.size, 2, none⟩ = some (.int .i64 a) := by rw [hW0]; simp [go_sem]
  have e3 : W0.cell? ⟨w.heap.size + 1, 0, none⟩ = some (.int .i64 s) := by rw [hW0]; simp [go_sem]
  have e4 : W0.cell? ⟨w.heap.size + 1, 1, none⟩ = some (.int .i64 t) := by rw [hW0]; simp [go_sem]
  have e5 : W0.cell? ⟨w.heap.size + 1, 2, none⟩ = some (.int .i64 b) := by rw [hW0]; simp [go_sem]
  have k0 := keeps HW0.out c0
  have k1 := keeps HW0.out c1
  have k2 := keeps HW0.out c2
  have k3 := keeps HW0.out c3
  have k4 := keeps HW0.out c4
  have HV : Hid (Calls Try.prog 66 #[.pointer (some ⟨o, 0, none⟩)] W0 fun e w' => e = .returned (.bool (terB st wd ht hs cs)) ∧ ∃ k, w' = W0.drewN k) := l04Ok_any W0 o st wd ht v hs p (hr.later HW0.out) u cs q (hc.later HW0.out) k0 k1 k2 k3 k4
  have HE1 : Hid (∀ W : World, Calls Try.prog 67 #[.agg #[.int .i64 x, .int .i64 y, .int .i64 a]] W fun e w' => e = .returned (.bool (endB x y a)) ∧ Below W.heap.size W w') := fun W => l12End_any W x y a
  have HE2 : Hid (∀ W : World, Calls Try.prog 67 #[.agg #[.int .i64 s, .int .i64 t, .int .i64 b]] W fun e w' => e = .returned (.bool (endB s t b)) ∧ Below W.heap.size W w') := fun W => l12End_any W s t b
  have HI1 : Hid (∀ W : World, Below W0.heap.size W0 W → sizeB st wd ht = true → Calls Try.prog 68 #[.pointer (some ⟨o, 0, none⟩), .agg #[.int .i64 x, .int .i64 y]] W fun e w' => e = .returned (.bool (hasB st wd ht x y)) ∧ Below W.heap.size W w') := fun W hW hz => l04In_any W o st wd ht x y hz (keeps hW k0) (keeps hW k1) (keeps hW k2)
  have HI2 : Hid (∀ W : World, Below W0.heap.size W0 W → sizeB st wd ht = true → Calls Try.prog 68 #[.pointer (some ⟨o, 0, none⟩), .agg #[.int .i64 s, .int .i64 t]] W fun e w' => e = .returned (.bool (hasB st wd ht s t)) ∧ Below W.heap.size W w') := fun W hW hz => l04In_any W o st wd ht s t hz (keeps hW k0) (keeps hW k1) (keeps hW k2)
  clear hr hc c0 c1 c2 c3 c4
  rcases bool_tf (terB st wd ht hs cs) with h1 | h1
  rotate_left
  · rw [ask_of (ask_1 h1) (by omega)]
    rw [h1] at HV
    clear h1 HE1 HE2 HI1 HI2
    go_enter Try.func73, Try.ntmps73
    (go_upto_region 1 with fail; rw [← hW0]; clear hW0)
    go_wp2_with fail
    refine HV.out.mono ?_
    rintro e w1 ⟨rfl, kk, hw⟩
    have H1 := Lib.hid (show Below W0.heap.size W0 w1 by rw [hw]; exact below_drewN (Below.refl _ _) _)
    have zz1 := H1.out.size
    have f1_0 := keeps H1.out e0
    have f1_1 := keeps H1.out e1
    have f1_2 := keeps H1.out e2
    have f1_3 := keeps H1.out e3
    have f1_4 := keeps H1.out e4
    have f1_5 := keeps H1.out e5
    clear hw
    go_wp2_with fail
    go_ret
    exact ⟨rfl, by repeat (first | (with_reducible exact Below.refl _ _) | (with_reducible assumption) | ((with_reducible refine bl_alloc ?_ _ ?_); (focus ((first | omega | (simp <;> omega)); done))) | ((with_reducible refine bl_set ?_ _ ?_); (focus ((first | omega | (simp <;> omega)); done))) | (with_reducible refine below_drewN ?_ _) | (with_reducible refine Below.drew ?_) | ((with_reducible refine bl_trans ?_ H1.out ?_); (focus ((first | omega | (simp <;> omega)); done))) | ((with_reducible refine bl_trans ?_ HW0.out ?_); (focus ((first | omega | (simp <;> omega)); done))))⟩
  have hsz := Lib.hid (ter_parts h1).1
  rcases bool_tf (endB x y a) with h2 | h2
  rotate_left
  · rw [ask_of (ask_2 (.inl h2)) (by omega)]
    rw [h1] at HV
    rw [h2] at HE1
    clear h1 h2 HE2 HI1 HI2
    go_enter Try.func73, Try.ntmps73
    (go_upto_region 1 with fail; rw [← hW0]; clear hW0)
    go_wp2_with fail
    refine HV.out.mono ?_
    rintro e w1 ⟨rfl, kk, hw⟩
    have H1 := Lib.hid (show Below W0.heap.size W0 w1 by rw [hw]; exact below_drewN (Below.refl _ _) _)
    have zz1 := H1.out.size
    have f1_0 := keeps H1.out e0
    have f1_1 := keeps H1.out e1
    have f1_2 := keeps H1.out e2
    have f1_3 := keeps H1.out e3
    have f1_4 := keeps H1.out e4
    have f1_5 := keeps H1.out e5
    clear hw
    go_wp2_with fail
    refine (HE1.out _).mono ?_
    rintro e w2 ⟨rfl, hb⟩
    have H2 := Lib.hid (show Below W0.heap.size W0 w2 by repeat (first | (with_reducible exact Below.refl _ _) | (with_reducible assumption) | ((with_reducible refine bl_alloc ?_ _ ?_); (focus ((first | omega | (simp <;> omega)); done))) | ((with_reducible refine bl_set ?_ _ ?_); (focus ((first | omega | (simp <;> omega)); done))) | (with_reducible refine below_drewN ?_ _) | (with_reducible refine Below.drew ?_) | ((with_reducible refine bl_trans ?_ hb ?_); (focus ((first | omega | (simp <;> omega)); done))) | ((with_reducible refine bl_trans ?_ H1.out ?_); (focus ((first | omega | (simp <;> omega)); done)))))
    have zz2 := H2.out.size
    have f2_0 := keeps H2.out e0
    have f2_1 := keeps H2.out e1
    have f2_2 := keeps H2.out e2
    have f2_3 := keeps H2.out e3
    have f2_4 := keeps H2.out e4
    have f2_5 := keeps H2.out e5
    clear hb
    go_wp2_with fail
    go_ret
    exact ⟨rfl, by repeat (first | (with_reducible exact Below.refl _ _) | (with_reducible assumption) | ((with_reducible refine bl_alloc ?_ _ ?_); (focus ((first | omega | (simp <;> omega)); done))) | ((with_reducible refine bl_set ?_ _ ?_); (focus ((first | omega | (simp <;> omega)); done))) | (with_reducible refine below_drewN ?_ _) | (with_reducible refine Below.drew ?_) | ((with_reducible refine bl_trans ?_ H2.out ?_); (focus ((first | omega | (simp <;> omega)); done))) | ((with_reducible refine bl_trans ?_ HW0.out ?_); (focus ((first | omega | (simp <;> omega)); done))))⟩
  rcases bool_tf (endB s t b) with h3 | h3
  rotate_left
  · rw [ask_of (ask_2 (.inr h3)) (by omega)]
    rw [h1] at HV
    rw [h2] at HE1
    rw [h3] at HE2
    clear h1 h2 h3 HI1 HI2
    go_enter Try.func73, Try.ntmps73
    (go_upto_region 1 with fail; rw [← hW0]; clear hW0)
    go_wp2_with fail
    refine HV.out.mono ?_
    rintro e w1 ⟨rfl, kk, hw⟩
    have H1 := Lib.hid (show Below W0.heap.size W0 w1 by rw [hw]; exact below_drewN (Below.refl _ _) _)
    have zz1 := H1.out.size
    have f1_0 := keeps H1.out e0
    have f1_1 := keeps H1.out e1
    have f1_2 := keeps H1.out e2
    have f1_3 := keeps H1.out e3
    have f1_4 := keeps H1.out e4
    have f1_5 := keeps H1.out e5
    clear hw
    go_wp2_with fail
    refine (HE1.out _).mono ?_
    rintro e w2 ⟨rfl, hb⟩
    have H2 := Lib.hid (show Below W0.heap.size W0 w2 by repeat (first | (with_reducible exact Below.refl _ _) | (with_reducible assumption) | ((with_reducible refine bl_alloc ?_ _ ?_); (focus ((first | omega | (simp <;> omega)); done))) | ((with_reducible refine bl_set ?_ _ ?_); (focus ((first | omega | (simp <;> omega)); done))) | (with_reducible refine below_drewN ?_ _) | (with_reducible refine Below.drew ?_) | ((with_reducible refine bl_trans ?_ hb ?_); (focus ((first | omega | (simp <;> omega)); done))) | ((with_reducible refine bl_trans ?_ H1.out ?_); (focus ((first | omega | (simp <;> omega)); done)))))
    have zz2 := H2.out.size
    have f2_0 := keeps H2.out e0
    have f2_1 := keeps H2.out e1
    have f2_2 := keeps H2.out e2
    have f2_3 := keeps H2.out e3
    have f2_4 := keeps H2.out e4
    have f2_5 := keeps H2.out e5
    clear hb
    go_wp2_with fail
    refine (HE2.out _).mono ?_
    rintro e w3 ⟨rfl, hb⟩
    have H3 := Lib.hid (show Below W0.heap.size W0 w3 by repeat (first | (with_reducible exact Below.refl _ _) | (with_reducible assumption) | ((with_reducible refine bl_alloc ?_ _ ?_); (focus ((first | omega | (simp <;> omega)); done))) | ((with_reducible refine bl_set ?_ _ ?_); (focus ((first | omega | (simp <;> omega)); done))) | (with_reducible refine below_drewN ?_ _) | (with_reducible refine Below.drew ?_) | ((with_reducible refine bl_trans ?_ hb ?_); (focus ((first | omega | (simp <;> omega)); done))) | ((with_reducible refine bl_trans ?_ H2.out ?_); (focus ((first | omega | (simp <;> omega)); done)))))
    have zz3 := H3.out.size
    have f3_0 := keeps H3.out e0
    have f3_1 := keeps H3.out e1
    have f3_2 := keeps H3.out e2
    have f3_3 := keeps H3.out e3
    have f3_4 := keeps H3.out e4
    have f3_5 := keeps H3.out e5
    clear hb
    go_wp2_with fail
    go_ret
    exact ⟨rfl, by repeat (first | (with_reducible exact Below.refl _ _) | (with_reducible assumption) | ((with_reducible refine bl_alloc ?_ _ ?_); (focus ((first | omega | (simp <;> omega)); done))) | ((with_reducible refine bl_set ?_ _ ?_); (focus ((first | omega | (simp <;> omega)); done))) | (with_reducible refine below_drewN ?_ _) | (with_reducible refine Below.drew ?_) | ((with_reducible refine bl_trans ?_ H3.out ?_); (focus ((first | omega | (simp <;> omega)); done))) | ((with_reducible refine bl_trans ?_ HW0.out ?_); (focus ((first | omega | (simp <;> omega)); done))))⟩
  rcases bool_tf (hasB st wd ht x y) with h4 | h4
  rotate_left
  · rw [ask_of (ask_3 h1 h2 h3 (.inl h4)) (by omega)]
    rw [h1] at HV
    rw [h2] at HE1
    rw [h3] at HE2
    rw [h4] at HI1
    clear h1 h2 h3 h4 HI2
    go_enter Try.func73, Try.ntmps73
    (go_upto_region 1 with fail; rw [← hW0]; clear hW0)
    go_wp2_with fail
    refine HV.out.mono ?_
    rintro e w1 ⟨rfl, kk, hw⟩
    have H1 := Lib.hid (show Below W0.heap.size W0 w1 by rw [hw]; exact below_drewN (Below.refl _ _) _)
    have zz1 := H1.out.size
    have f1_0 := keeps H1.out e0
    have f1_1 := keeps H1.out e1
    have f1_2 := keeps H1.out e2
    have f1_3 := keeps H1.out e3
    have f1_4 := keeps H1.out e4
    have f1_5 := keeps H1.out e5
    clear hw
    go_wp2_with fail
    refine (HE1.out _).mono ?_
    rintro e w2 ⟨rfl, hb⟩
    have H2 := Lib.hid (show Below W0.heap.size W0 w2 by repeat (first | (with_reducible exact Below.refl _ _) | (with_reducible assumption) | ((with_reducible refine bl_alloc ?_ _ ?_); (focus ((first | omega | (simp <;> omega)); done))) | ((with_reducible refine bl_set ?_ _ ?_); (focus ((first | omega | (simp <;> omega)); done))) | (with_reducible refine below_drewN ?_ _) | (with_reducible refine Below.drew ?_) | ((with_reducible refine bl_trans ?_ hb ?_); (focus ((first | omega | (simp <;> omega)); done))) | ((with_reducible refine bl_trans ?_ H1.out ?_); (focus ((first | omega | (simp <;> omega)); done)))))
    have zz2 := H2.out.size
    have f2_0 := keeps H2.out e0
    have f2_1 := keeps H2.out e1
    have f2_2 := keeps H2.out e2
    have f2_3 := keeps H2.out e3
    have f2_4 := keeps H2.out e4
    have f2_5 := keeps H2.out e5
    clear hb
    go_wp2_with fail
    refine (HE2.out _).mono ?_
    rintro e w3 ⟨rfl, hb⟩
    have H3 := Lib.hid (show Below W0.heap.size W0 w3 by repeat (first | (with_reducible exact Below.refl _ _) | (with_reducible assumption) | ((with_reducible refine bl_alloc ?_ _ ?_); (focus ((first | omega | (simp <;> omega)); done))) | ((with_reducible refine bl_set ?_ _ ?_); (focus ((first | omega | (simp <;> omega)); done))) | (with_reducible refine below_drewN ?_ _) | (with_reducible refine Below.drew ?_) | ((with_reducible refine bl_trans ?_ hb ?_); (focus ((first | omega | (simp <;> omega)); done))) | ((with_reducible refine bl_trans ?_ H2.out ?_); (focus ((first | omega | (simp <;> omega)); done)))))
    have zz3 := H3.out.size
    have f3_0 := keeps H3.out e0
    have f3_1 := keeps H3.out e1
    have f3_2 := keeps H3.out e2
    have f3_3 := keeps H3.out e3
    have f3_4 := keeps H3.out e4
    have f3_5 := keeps H3.out e5
    clear hb
    go_wp2_with fail
    refine (HI1.out _ H3.out hsz.out).mono ?_
    rintro e w4 ⟨rfl, hb⟩
    have H4 := Lib.hid (show Below W0.heap.size W0 w4 by repeat (first | (with_reducible exact Below.refl _ _) | (with_reducible assumption) | ((with_reducible refine bl_alloc ?_ _ ?_); (focus ((first | omega | (simp <;> omega)); done))) | ((with_reducible refine bl_set ?_ _ ?_); (focus ((first | omega | (simp <;> omega)); done))) | (with_reducible refine below_drewN ?_ _) | (with_reducible refine Below.drew ?_) | ((with_reducible refine bl_trans ?_ hb ?_); (focus ((first | omega | (simp <;> omega)); done))) | ((with_reducible refine bl_trans ?_ H3.out ?_); (focus ((first | omega | (simp <;> omega)); done)))))
    have zz4 := H4.out.size
    have f4_0 := keeps H4.out e0
    have f4_1 := keeps H4.out e1
    have f4_2 := keeps H4.out e2
    have f4_3 := keeps H4.out e3
    have f4_4 := keeps H4.out e4
    have f4_5 := keeps H4.out e5
    clear hb
    go_wp2_with fail
    go_ret
    exact ⟨rfl, by repeat (first | (with_reducible exact Below.refl _ _) | (with_reducible assumption) | ((with_reducible refine bl_alloc ?_ _ ?_); (focus ((first | omega | (simp <;> omega)); done))) | ((with_reducible refine bl_set ?_ _ ?_); (focus ((first | omega | (simp <;> omega)); done))) | (with_reducible refine below_drewN ?_ _) | (with_reducible refine Below.drew ?_) | ((with_reducible refine bl_trans ?_ H4.out ?_); (focus ((first | omega | (simp <;> omega)); done))) | ((with_reducible refine bl_trans ?_ HW0.out ?_); (focus ((first | omega | (simp <;> omega)); done))))⟩
  rcases bool_tf (hasB st wd ht s t) with h5 | h5
  rotate_left
  · rw [ask_of (ask_3 h1 h2 h3 (.inr h5)) (by omega)]
    rw [h1] at HV
    rw [h2] at HE1
    rw [h3] at HE2
    rw [h4] at HI1
    rw [h5] at HI2
    clear h1 h2 h3 h4 h5
    go_enter Try.func73, Try.ntmps73
    (go_upto_region 1 with fail; rw [← hW0]; clear hW0)
    go_wp2_with fail
    refine HV.out.mono ?_
    rintro e w1 ⟨rfl, kk, hw⟩
    have H1 := Lib.hid (show Below W0.heap.size W0 w1 by rw [hw]; exact below_drewN (Below.refl _ _) _)
    have zz1 := H1.out.size
    have f1_0 := keeps H1.out e0
    have f1_1 := keeps H1.out e1
    have f1_2 := keeps H1.out e2
    have f1_3 := keeps H1.out e3
    have f1_4 := keeps H1.out e4
    have f1_5 := keeps H1.out e5
    clear hw
    go_wp2_with fail
    refine (HE1.out _).mono ?_
    rintro e w2 ⟨rfl, hb⟩
    have H2 := Lib.hid (show Below W0.heap.size W0 w2 by repeat (first | (with_reducible exact Below.refl _ _) | (with_reducible assumption) | ((with_reducible refine bl_alloc ?_ _ ?_); (focus ((first | omega | (simp <;> omega)); done))) | ((with_reducible refine bl_set ?_ _ ?_); (focus ((first | omega | (simp <;> omega)); done))) | (with_reducible refine below_drewN ?_ _) | (with_reducible refine Below.drew ?_) | ((with_reducible refine bl_trans ?_ hb ?_); (focus ((first | omega | (simp <;> omega)); done))) | ((with_reducible refine bl_trans ?_ H1.out ?_); (focus ((first | omega | (simp <;> omega)); done)))))
    have zz2 := H2.out.size
    have f2_0 := keeps H2.out e0
    have f2_1 := keeps H2.out e1
    have f2_2 := keeps H2.out e2
    have f2_3 := keeps H2.out e3
    have f2_4 := keeps H2.out e4
    have f2_5 := keeps H2.out e5
    clear hb
    go_wp2_with fail
    refine (HE2.out _).mono ?_
    rintro e w3 ⟨rfl, hb⟩
    have H3 := Lib.hid (show Below W0.heap.size W0 w3 by repeat (first | (with_reducible exact Below.refl _ _) | (with_reducible assumption) | ((with_reducible refine bl_alloc ?_ _ ?_); (focus ((first | omega | (simp <;> omega)); done))) | ((with_reducible refine bl_set ?_ _ ?_); (focus ((first | omega | (simp <;> omega)); done))) | (with_reducible refine below_drewN ?_ _) | (with_reducible refine Below.drew ?_) | ((with_reducible refine bl_trans ?_ hb ?_); (focus ((first | omega | (simp <;> omega)); done))) | ((with_reducible refine bl_trans ?_ H2.out ?_); (focus ((first | omega | (simp <;> omega)); done)))))
    have zz3 := H3.out.size
    have f3_0 := keeps H3.out e0
    have f3_1 := keeps H3.out e1
    have f3_2 := keeps H3.out e2
    have f3_3 := keeps H3.out e3
    have f3_4 := keeps H3.out e4
    have f3_5 := keeps H3.out e5
    clear hb
    go_wp2_with fail
    refine (HI1.out _ H3.out hsz.out).mono ?_
    rintro e w4 ⟨rfl, hb⟩
    have H4 := Lib.hid (show Below W0.heap.size W0 w4 by repeat (first | (with_reducible exact Below.refl _ _) | (with_reducible assumption) | ((with_reducible refine bl_alloc ?_ _ ?_); (focus ((first | omega | (simp <;> omega)); done))) | ((with_reducible refine bl_set ?_ _ ?_); (focus ((first | omega | (simp <;> omega)); done))) | (with_reducible refine below_drewN ?_ _) | (with_reducible refine Below.drew ?_) | ((with_reducible refine bl_trans ?_ hb ?_); (focus ((first | omega | (simp <;> omega)); done))) | ((with_reducible refine bl_trans ?_ H3.out ?_); (focus ((first | omega | (simp <;> omega)); done)))))
    have zz4 := H4.out.size
    have f4_0 := keeps H4.out e0
    have f4_1 := keeps H4.out e1
    have f4_2 := keeps H4.out e2
    have f4_3 := keeps H4.out e3
    have f4_4 := keeps H4.out e4
    have f4_5 := keeps H4.out e5
    clear hb
    go_wp2_with fail
    refine (HI2.out _ H4.out hsz.out).mono ?_
    rintro e w5 ⟨rfl, hb⟩
    have H5 := Lib.hid (show Below W0.heap.size W0 w5 by repeat (first | (with_reducible exact Below.refl _ _) | (with_reducible assumption) | ((with_reducible refine bl_alloc ?_ _ ?_); (focus ((first | omega | (simp <;> omega)); done))) | ((with_reducible refine bl_set ?_ _ ?_); (focus ((first | omega | (simp <;> omega)); done))) | (with_reducible refine below_drewN ?_ _) | (with_reducible refine Below.drew ?_) | ((with_reducible refine bl_trans ?_ hb ?_); (focus ((first | omega | (simp <;> omega)); done))) | ((with_reducible refine bl_trans ?_ H4.out ?_); (focus ((first | omega | (simp <;> omega)); done)))))
    have zz5 := H5.out.size
    have f5_0 := keeps H5.out e0
    have f5_1 := keeps H5.out e1
    have f5_2 := keeps H5.out e2
    have f5_3 := keeps H5.out e3
    have f5_4 := keeps H5.out e4
    have f5_5 := keeps H5.out e5
    clear hb
    go_wp2_with fail
    go_ret
    exact ⟨rfl, by repeat (first | (with_reducible exact Below.refl _ _) | (with_reducible assumption) | ((with_reducible refine bl_alloc ?_ _ ?_); (focus ((first | omega | (simp <;> omega)); done))) | ((with_reducible refine bl_set ?_ _ ?_); (focus ((first | omega | (simp <;> omega)); done))) | (with_reducible refine below_drewN ?_ _) | (with_reducible refine Below.drew ?_) | ((with_reducible refine bl_trans ?_ H5.out ?_); (focus ((first | omega | (simp <;> omega)); done))) | ((with_reducible refine bl_trans ?_ HW0.out ?_); (focus ((first | omega | (simp <;> omega)); done))))⟩
  have HSP := Lib.hid (same_place x y s t)
  by_cases hp : x = s ∧ y = t
  · rw [ask_6 (ask_4 h1 h2 h3 h4 h5) hp]
    rw [h1] at HV
    rw [h2] at HE1
    rw [h3] at HE2
    rw [h4] at HI1
    rw [h5] at HI2
    clear h1 h2 h3 h4 h5
    obtain ⟨rfl, rfl⟩ := hp
    go_enter Try.func73, Try.ntmps73
    (go_upto_region 1 with fail; rw [← hW0]; clear hW0)
    go_wp2_with fail
    refine HV.out.mono ?_
    rintro e w1 ⟨rfl, kk, hw⟩
    have H1 := Lib.hid (show Below W0.heap.size W0 w1 by rw [hw]; exact below_drewN (Below.refl _ _) _)
    have zz1 := H1.out.size
    have f1_0 := keeps H1.out e0
    have f1_1 := keeps H1.out e1
    have f1_2 := keeps H1.out e2
    have f1_3 := keeps H1.out e3
    have f1_4 := keeps H1.out e4
    have f1_5 := keeps H1.out e5
    clear hw
    go_wp2_with fail
    refine (HE1.out _).mono ?_
    rintro e w2 ⟨rfl, hb⟩
    have H2 := Lib.hid (show Below W0.heap.size W0 w2 by repeat (first | (with_reducible exact Below.refl _ _) | (with_reducible assumption) | ((with_reducible refine bl_alloc ?_ _ ?_); (focus ((first | omega | (simp <;> omega)); done))) | ((with_reducible refine bl_set ?_ _ ?_); (focus ((first | omega | (simp <;> omega)); done))) | (with_reducible refine below_drewN ?_ _) | (with_reducible refine Below.drew ?_) | ((with_reducible refine bl_trans ?_ hb ?_); (focus ((first | omega | (simp <;> omega)); done))) | ((with_reducible refine bl_trans ?_ H1.out ?_); (focus ((first | omega | (simp <;> omega)); done)))))
    have zz2 := H2.out.size
    have f2_0 := keeps H2.out e0
    have f2_1 := keeps H2.out e1
    have f2_2 := keeps H2.out e2
    have f2_3 := keeps H2.out e3
    have f2_4 := keeps H2.out e4
    have f2_5 := keeps H2.out e5
    clear hb
    go_wp2_with fail
    refine (HE2.out _).mono ?_
    rintro e w3 ⟨rfl, hb⟩
    have H3 := Lib.hid (show Below W0.heap.size W0 w3 by repeat (first | (with_reducible exact Below.refl _ _) | (with_reducible assumption) | ((with_reducible refine bl_alloc ?_ _ ?_); (focus ((first | omega | (simp <;> omega)); done))) | ((with_reducible refine bl_set ?_ _ ?_); (focus ((first | omega | (simp <;> omega)); done))) | (with_reducible refine below_drewN ?_ _) | (with_reducible refine Below.drew ?_) | ((with_reducible refine bl_trans ?_ hb ?_); (focus ((first | omega | (simp <;> omega)); done))) | ((with_reducible refine bl_trans ?_ H2.out ?_); (focus ((first | omega | (simp <;> omega)); done)))))
    have zz3 := H3.out.size
    have f3_0 := keeps H3.out e0
    have f3_1 := keeps H3.out e1
    have f3_2 := keeps H3.out e2
    have f3_3 := keeps H3.out e3
    have f3_4 := keeps H3.out e4
    have f3_5 := keeps H3.out e5
    clear hb
    go_wp2_with fail
    refine (HI1.out _ H3.out hsz.out).mono ?_
    rintro e w4 ⟨rfl, hb⟩
    have H4 := Lib.hid (show Below W0.heap.size W0 w4 by repeat (first | (with_reducible exact Below.refl _ _) | (with_reducible assumption) | ((with_reducible refine bl_alloc ?_ _ ?_); (focus ((first | omega | (simp <;> omega)); done))) | ((with_reducible refine bl_set ?_ _ ?_); (focus ((first | omega | (simp <;> omega)); done))) | (with_reducible refine below_drewN ?_ _) | (with_reducible refine Below.drew ?_) | ((with_reducible refine bl_trans ?_ hb ?_); (focus ((first | omega | (simp <;> omega)); done))) | ((with_reducible refine bl_trans ?_ H3.out ?_); (focus ((first | omega | (simp <;> omega)); done)))))
    have zz4 := H4.out.size
    have f4_0 := keeps H4.out e0
    have f4_1 := keeps H4.out e1
    have f4_2 := keeps H4.out e2
    have f4_3 := keeps H4.out e3
    have f4_4 := keeps H4.out e4
    have f4_5 := keeps H4.out e5
    clear hb
    go_wp2_with fail
    refine (HI2.out _ H4.out hsz.out).mono ?_
    rintro e w5 ⟨rfl, hb⟩
    have H5 := Lib.hid (show Below W0.heap.size W0 w5 by repeat (first | (with_reducible exact Below.refl _ _) | (with_reducible assumption) | ((with_reducible refine bl_alloc ?_ _ ?_); (focus ((first | omega | (simp <;> omega)); done))) | ((with_reducible refine bl_set ?_ _ ?_); (focus ((first | omega | (simp <;> omega)); done))) | (with_reducible refine below_drewN ?_ _) | (with_reducible refine Below.drew ?_) | ((with_reducible refine bl_trans ?_ hb ?_); (focus ((first | omega | (simp <;> omega)); done))) | ((with_reducible refine bl_trans ?_ H4.out ?_); (focus ((first | omega | (simp <;> omega)); done)))))
    have zz5 := H5.out.size
    have f5_0 := keeps H5.out e0
    have f5_1 := keeps H5.out e1
    have f5_2 := keeps H5.out e2
    have f5_3 := keeps H5.out e3
    have f5_4 := keeps H5.out e4
    have f5_5 := keeps H5.out e5
    clear hb
    go_wp2_with fail
    all_goals go_ret
    all_goals exact ⟨rfl, by repeat (first | (with_reducible exact Below.refl _ _) | (with_reducible assumption) | ((with_reducible refine bl_alloc ?_ _ ?_); (focus ((first | omega | (simp <;> omega)); done))) | ((with_reducible refine bl_set ?_ _ ?_); (focus ((first | omega | (simp <;> omega)); done))) | (with_reducible refine below_drewN ?_ _) | (with_reducible refine Below.drew ?_) | ((with_reducible refine bl_trans ?_ H5.out ?_); (focus ((first | omega | (simp <;> omega)); done))) | ((with_reducible refine bl_trans ?_ HW0.out ?_); (focus ((first | omega | (simp <;> omega)); done))))⟩
  · rw [ask_0 (ask_4 h1 h2 h3 h4 h5) hp]
    rw [h1] at HV
    rw [h2] at HE1
    rw [h3] at HE2
    rw [h4] at HI1
    rw [h5] at HI2
    clear h1 h2 h3 h4 h5
    have hq : ((x == s) && (y == t)) = false := by rw [HSP.out]; exact decide_eq_false hp
    have hq2 : ¬ (x = s) ∨ ¬ (y = t) := by omega
    go_enter Try.func73, Try.ntmps73
    (go_upto_region 1 with fail; rw [← hW0]; clear hW0)
    go_wp2_with fail
    refine HV.out.mono ?_
    rintro e w1 ⟨rfl, kk, hw⟩
    have H1 := Lib.hid (show Below W0.heap.size W0 w1 by rw [hw]; exact below_drewN (Below.refl _ _) _)
    have zz1 := H1.out.size
    have f1_0 := keeps H1.out e0
    have f1_1 := keeps H1.out e1
    have f1_2 := keeps H1.out e2
    have f1_3 := keeps H1.out e3
    have f1_4 := keeps H1.out e4
    have f1_5 := keeps H1.out e5
    clear hw
    go_wp2_with fail
    refine (HE1.out _).mono ?_
    rintro e w2 ⟨rfl, hb⟩
    have H2 := Lib.hid (show Below W0.heap.size W0 w2 by repeat (first | (with_reducible exact Below.refl _ _) | (with_reducible assumption) | ((with_reducible refine bl_alloc ?_ _ ?_); (focus ((first | omega | (simp <;> omega)); done))) | ((with_reducible refine bl_set ?_ _ ?_); (focus ((first | omega | (simp <;> omega)); done))) | (with_reducible refine below_drewN ?_ _) | (with_reducible refine Below.drew ?_) | ((with_reducible refine bl_trans ?_ hb ?_); (focus ((first | omega | (simp <;> omega)); done))) | ((with_reducible refine bl_trans ?_ H1.out ?_); (focus ((first | omega | (simp <;> omega)); done)))))
    have zz2 := H2.out.size
    have f2_0 := keeps H2.out e0
    have f2_1 := keeps H2.out e1
    have f2_2 := keeps H2.out e2
    have f2_3 := keeps H2.out e3
    have f2_4 := keeps H2.out e4
    have f2_5 := keeps H2.out e5
    clear hb
    go_wp2_with fail
    refine (HE2.out _).mono ?_
    rintro e w3 ⟨rfl, hb⟩
    have H3 := Lib.hid (show Below W0.heap.size W0 w3 by repeat (first | (with_reducible exact Below.refl _ _) | (with_reducible assumption) | ((with_reducible refine bl_alloc ?_ _ ?_); (focus ((first | omega | (simp <;> omega)); done))) | ((with_reducible refine bl_set ?_ _ ?_); (focus ((first | omega | (simp <;> omega)); done))) | (with_reducible refine below_drewN ?_ _) | (with_reducible refine Below.drew ?_) | ((with_reducible refine bl_trans ?_ hb ?_); (focus ((first | omega | (simp <;> omega)); done))) | ((with_reducible refine bl_trans ?_ H2.out ?_); (focus ((first | omega | (simp <;> omega)); done)))))
    have zz3 := H3.out.size
    have f3_0 := keeps H3.out e0
    have f3_1 := keeps H3.out e1
    have f3_2 := keeps H3.out e2
    have f3_3 := keeps H3.out e3
    have f3_4 := keeps H3.out e4
    have f3_5 := keeps H3.out e5
    clear hb
    go_wp2_with fail
    refine (HI1.out _ H3.out hsz.out).mono ?_
    rintro e w4 ⟨rfl, hb⟩
    have H4 := Lib.hid (show Below W0.heap.size W0 w4 by repeat (first | (with_reducible exact Below.refl _ _) | (with_reducible assumption) | ((with_reducible refine bl_alloc ?_ _ ?_); (focus ((first | omega | (simp <;> omega)); done))) | ((with_reducible refine bl_set ?_ _ ?_); (focus ((first | omega | (simp <;> omega)); done))) | (with_reducible refine below_drewN ?_ _) | (with_reducible refine Below.drew ?_) | ((with_reducible refine bl_trans ?_ hb ?_); (focus ((first | omega | (simp <;> omega)); done))) | ((with_reducible refine bl_trans ?_ H3.out ?_); (focus ((first | omega | (simp <;> omega)); done)))))
    have zz4 := H4.out.size
    have f4_0 := keeps H4.out e0
    have f4_1 := keeps H4.out e1
    have f4_2 := keeps H4.out e2
    have f4_3 := keeps H4.out e3
    have f4_4 := keeps H4.out e4
    have f4_5 := keeps H4.out e5
    clear hb
    go_wp2_with fail
    refine (HI2.out _ H4.out hsz.out).mono ?_
    rintro e w5 ⟨rfl, hb⟩
    have H5 := Lib.hid (show Below W0.heap.size W0 w5 by repeat (first | (with_reducible exact Below.refl _ _) | (with_reducible assumption) | ((with_reducible refine bl_alloc ?_ _ ?_); (focus ((first | omega | (simp <;> omega)); done))) | ((with_reducible refine bl_set ?_ _ ?_); (focus ((first | omega | (simp <;> omega)); done))) | (with_reducible refine below_drewN ?_ _) | (with_reducible refine Below.drew ?_) | ((with_reducible refine bl_trans ?_ hb ?_); (focus ((first | omega | (simp <;> omega)); done))) | ((with_reducible refine bl_trans ?_ H4.out ?_); (focus ((first | omega | (simp <;> omega)); done)))))
    have zz5 := H5.out.size
    have f5_0 := keeps H5.out e0
    have f5_1 := keeps H5.out e1
    have f5_2 := keeps H5.out e2
    have f5_3 := keeps H5.out e3
    have f5_4 := keeps H5.out e4
    have f5_5 := keeps H5.out e5
    clear hb
    go_wp2_with fail
    all_goals go_ret
    all_goals exact ⟨rfl, by repeat (first | (with_reducible exact Below.refl _ _) | (with_reducible assumption) | ((with_reducible refine bl_alloc ?_ _ ?_); (focus ((first | omega | (simp <;> omega)); done))) | ((with_reducible refine bl_set ?_ _ ?_); (focus ((first | omega | (simp <;> omega)); done))) | (with_reducible refine below_drewN ?_ _) | (with_reducible refine Below.drew ?_) | ((with_reducible refine bl_trans ?_ H5.out ?_); (focus ((first | omega | (simp <;> omega)); done))) | ((with_reducible refine bl_trans ?_ HW0.out ?_); (focus ((first | omega | (simp <;> omega)); done))))⟩
end Go.Proofs.Ytedpdcdmemenhaa
