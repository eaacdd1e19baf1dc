/-
  The walk of FnExactEndHeight: it returns true, and of what was there nothing has turned. The conditions are what its arguments' readings give.
-/
import Derived.Test.YtedpdcdmemenhaaRows
import Derived.Test.YtedpdcdmemenhaaLib
import Derived.Test.YtedpdcdmemenhaaInt
import Derived.Test.YtedpdcdmemenhaaWithin
import Derived.Test.YtedpdcdmemenhaaAll
import Derived.Test.YtedpdcdmemenhaaOwn
import Derived.Test.YtedpdcdmemenhaaField
import Derived.Test.YtedpdcdmemenhaaTer
import Derived.Test.YtedpdcdmemenhaaTerV
import Derived.Test.YtedpdcdmemenhaaIn
import Derived.Test.YtedpdcdmemenhaaEnds
import Derived.Test.YtedpdcdmemenhaaHgtP
import Derived.Test.YtedpdcdmemenhaaHgtS
import Derived.Test.YtedpdcdmemenhaaHgtI
import Derived.Test.YtedpdcdmemenhaaHigh
import Derived.Test.YtedpdcdmemenhaaTerrain
import Derived.Test.YtedpdcdmemenhaaPlaces
import Derived.Outline
import Derived.Deep.RegionHeld3
import Derived.Deep.DrawnRows
import Derived.Deep.DeepCutAuto
namespace Go.Proofs.Ytedpdcdmemenhaa.fnExactEndHeight
open Go.RowKit Go.ChangeShapes Go.WideShapes Go.ChangeAt
set_option linter.unusedVariables false
set_option linter.unusedSimpArgs false

attribute [local go_sem ↓] Go.wp_at_zero Go.wp_at_succ
def ehC (st wd ht : Int) (hs cs : List Int) (x y a : Int) : Int := endsV st wd ht hs cs [⟨x, y, a⟩]
def ehV (st wd ht : Int) (hs cs : List Int) (x y a : Int) : Int := if ehC st wd ht hs cs x y a = 0 then heightB st wd ht hs x y + a else 0
theorem eh_1 {st wd ht : Int} {hs cs : List Int} {x y a : Int} (h : terB st wd ht hs cs = false) : ehC st wd ht hs cs x y a = 1 ∧ ehV st wd ht hs cs x y a = 0 := by
  have e : ehC st wd ht hs cs x y a = 1 := ends_1 h
  exact ⟨e, by unfold ehV; rw [e]; rfl⟩
theorem eh_2 {st wd ht : Int} {hs cs : List Int} {x y a : Int} (h : endB x y a = false) : ehC st wd ht hs cs x y a = 1 ∧ ehV st wd ht hs cs x y a = 0 := by
  have e : ehC st wd ht hs cs x y a = 1 := ends_2 (by simp [h])
  exact ⟨e, by unfold ehV; rw [e]; rfl⟩
theorem eh_3 {st wd ht : Int} {hs cs : List Int} {x y a : Int} (h : terB st wd ht hs cs = true) (h1 : endB x y a = true) (h2 : hasB st wd ht x y = false) : ehC st wd ht hs cs x y a = 2 ∧ ehV st wd ht hs cs x y a = 0 := by
  have e : ehC st wd ht hs cs x y a = 2 := ends_3 h (by simp [h1]) (by simp [h2])
  exact ⟨e, by unfold ehV; rw [e]; rfl⟩
theorem eh_4 {st wd ht : Int} {hs cs : List Int} {x y a : Int} (h : terB st wd ht hs cs = true) (h1 : endB x y a = true) (h2 : hasB st wd ht x y = true) : ehC st wd ht hs cs x y a = 0 ∧ ehV st wd ht hs cs x y a = heightB st wd ht hs x y + a := by
  have e : ehC st wd ht hs cs x y a = 0 := ends_4 h (by simp [h1]) (by simp [h2])
  exact ⟨e, by unfold ehV; rw [e]; rfl⟩
set_option maxRecDepth 20000 in
set_option maxHeartbeats 4000000 in
theorem spec_any (w : World) (st : Int) (i1 : In64 st) (wd : Int) (i2 : In64 wd) (ht : Int) (i3 : In64 ht) (v : Value) (hs : List Int) (p : Nat) (hr : Row 2 w p v hs) (ihs : ∀ n ∈ hs, In64 n) (u : Value) (cs : List Int) (q : Nat) (hc : Row 2 w q u cs) (ics : ∀ n ∈ cs, In64 n) (x : Int) (ix : In64 x) (y : Int) (iy : In64 y) (a : Int) (ia : In64 a) :
    Calls Try.prog 30 #[.agg #[.int .i64 st, .int .i64 wd, .int .i64 ht, v, u], .agg #[.int .i64 x, .int .i64 y, .int .i64 a]] w fun e w' => e = .returned (.tuple #[.int .i64 (ehV st wd ht hs cs x y a), .int .i64 (ehC st wd ht hs cs x y a)]) ∧ Below w.heap.size w w' := by
  have HR := Lib.hid hr
  have HQ := Lib.hid hc
  clear hr hc i1 i2 i3 ihs ics ix iy ia
  obtain ⟨W0, hW0⟩ : ∃ W, W = (w.alloc (.cells #[.int .i64 st, .int .i64 wd, .int .i64 ht, v, u] 62)).alloc (.cells #[.int .i64 x, .int .i64 y, .int .i64 a] 66) := ⟨_, rfl⟩
  have HW0 := Lib.hid (show Below w.heap.size w W0 by rw [hW0]; repeat (first | (with_reducible exact Below.refl _ _) | (with_reducible assumption) | ((with_reducible refine bl_alloc ?_ _ ?_); (focus ((first | omega | (simp <;> omega)); done))) | ((with_reducible refine bl_set ?_ _ ?_); (focus ((first | omega | (simp <;> omega)); done))) | (with_reducible refine below_drewN ?_ _) | (with_reducible refine Below.drew ?_)))
  have z0 := HW0.out.size
  have e0 : W0.cell? ⟨w.heap.size, 0, none⟩ = some (.int .i64 st) := by rw [hW0]; simp [go_sem]
  have e1 : W0.cell? ⟨w.heap.size, 1, none⟩ = some (.int .i64 wd) := by rw [hW0]; simp [go_sem]
  have e2 : W0.cell? ⟨w.heap.size, 2, none⟩ = some (.int .i64 ht) := by rw [hW0]; simp [go_sem]
  have e3 : W0.cell? ⟨w.heap.size, 3, none⟩ = some (v) := by rw [hW0]; simp [go_sem]
  have e4 : W0.cell? ⟨w.heap.size, 4, none⟩ = some (u) := by rw [hW0]; simp [go_sem]
  have e5 : W0.cell? ⟨w.heap.size + 1, 0, none⟩ = some (.int .i64 x) := by rw [hW0]; simp [go_sem]
  have e6 : W0.cell? ⟨w.heap.size + 1, 1, none⟩ = some (.int .i64 y) := by rw [hW0]; simp [go_sem]
  have e7 : W0.cell? ⟨w.heap.size + 1, 2, none⟩ = some (.int .i64 a) := by rw [hW0]; simp [go_sem]
  have HV : Hid (Calls Try.prog 66 #[.pointer (some ⟨w.heap.size, 0, none⟩)] W0 fun e w' => e = .returned (.bool (terB st wd ht hs cs)) ∧ ∃ k, w' = W0.drewN k) := l04Ok_any W0 w.heap.size st wd ht v hs p (HR.out.later HW0.out) u cs q (HQ.out.later HW0.out) e0 e1 e2 e3 e4
  have HE : Hid (∀ W : World, Calls Try.prog 67 #[.agg #[.int .i64 x, .int .i64 y, .int .i64 a]] W fun e w' => e = .returned (.bool (endB x y a)) ∧ Below W.heap.size W w') := fun W => l12End_any W x y a
  have HI : Hid (∀ W : World, Below W0.heap.size W0 W → sizeB st wd ht = true → Calls Try.prog 68 #[.pointer (some ⟨w.heap.size, 0, none⟩), .agg #[.int .i64 x, .int .i64 y]] W fun e w' => e = .returned (.bool (hasB st wd ht x y)) ∧ Below W.heap.size W w') := fun W hW hz => l04In_any W w.heap.size st wd ht x y hz (keeps hW e0) (keeps hW e1) (keeps hW e2)
  have HH : Hid (∀ W : World, Below W0.heap.size W0 W → terB st wd ht hs cs = true → endB x y a = true → hasB st wd ht x y = true → Calls Try.prog 69 #[.pointer (some ⟨w.heap.size, 0, none⟩), .agg #[.int .i64 x, .int .i64 y, .int .i64 a]] W fun e w' => e = .returned (.int .i64 (heightB st wd ht hs x y + a)) ∧ Below W.heap.size W w') := fun W hW ht1 he hh => by
    obtain ⟨hz, hl, _, hb⟩ := ter_parts ht1
    obtain ⟨⟨x0, x1⟩, ⟨y0, y1⟩⟩ := has_parts hh
    obtain ⟨_, _, a0, a1⟩ := end_parts he
    exact l12High_any W w.heap.size st wd ht x y a v hs p ((HR.out.later HW0.out).later hW) hz hl hb x0 x1 y0 y1 a0 a1 (keeps hW e0) (keeps hW e1) (keeps hW e2) (keeps hW e3)
  rcases bool_tf (terB st wd ht hs cs) with h1 | h1
  rotate_left
  · obtain ⟨r1, r2⟩ := eh_1 (x := x) (y := y) (a := a) h1
    rw [r1, r2]
    rw [h1] at HV
    clear h1 HH HI HE r1 r2
    go_enter Try.func30, Try.ntmps30
    (go_upto_region 1 with fail; rw [← hW0]; clear hW0)
    go_wp2_with fail
    refine HV.out.mono ?_
    rintro e w1 ⟨rfl, kk, hw⟩
    have H1 := Lib.hid (show Below W0.heap.size W0 w1 by rw [hw]; exact below_drewN (Below.refl _ _) _)
    have zz1 := H1.out.size
    have f1_0 := keeps H1.out e0
    have f1_1 := keeps H1.out e1
    have f1_2 := keeps H1.out e2
    have f1_3 := keeps H1.out e3
    have f1_4 := keeps H1.out e4
    have f1_5 := keeps H1.out e5
    have f1_6 := keeps H1.out e6
    have f1_7 := keeps H1.out e7
    clear hw
    go_wp2_with fail
    go_ret2
    exact ⟨rfl, by repeat (first | (with_reducible exact Below.refl _ _) | (with_reducible assumption) | ((with_reducible refine bl_alloc ?_ _ ?_); (focus ((first | omega | (simp <;> omega)); done))) | ((with_reducible refine bl_set ?_ _ ?_); (focus ((first | omega | (simp <;> omega)); done))) | (with_reducible refine below_drewN ?_ _) | (with_reducible refine Below.drew ?_) | ((with_reducible refine bl_trans ?_ H1.out ?_); (focus ((first | omega | (simp <;> omega)); done))) | ((with_reducible refine bl_trans ?_ HW0.out ?_); (focus ((first | omega | (simp <;> omega)); done))))⟩
  rcases bool_tf (endB x y a) with h2 | h2
  rotate_left
  · obtain ⟨r1, r2⟩ := eh_2 (st := st) (wd := wd) (ht := ht) (hs := hs) (cs := cs) h2
    rw [r1, r2]
    rw [h1] at HV
    rw [h2] at HE
    clear h1 h2 HH HI r1 r2
    go_enter Try.func30, Try.ntmps30
    (go_upto_region 1 with fail; rw [← hW0]; clear hW0)
    go_wp2_with fail
    refine HV.out.mono ?_
    rintro e w1 ⟨rfl, kk, hw⟩
    have H1 := Lib.hid (show Below W0.heap.size W0 w1 by rw [hw]; exact below_drewN (Below.refl _ _) _)
    have zz1 := H1.out.size
    have f1_0 := keeps H1.out e0
    have f1_1 := keeps H1.out e1
    have f1_2 := keeps H1.out e2
    have f1_3 := keeps H1.out e3
    have f1_4 := keeps H1.out e4
    have f1_5 := keeps H1.out e5
    have f1_6 := keeps H1.out e6
    have f1_7 := keeps H1.out e7
    clear hw
    go_wp2_with fail
    refine (HE.out _).mono ?_
    rintro e w2 ⟨rfl, hb⟩
    have H2 := Lib.hid (show Below W0.heap.size W0 w2 by repeat (first | (with_reducible exact Below.refl _ _) | (with_reducible assumption) | ((with_reducible refine bl_alloc ?_ _ ?_); (focus ((first | omega | (simp <;> omega)); done))) | ((with_reducible refine bl_set ?_ _ ?_); (focus ((first | omega | (simp <;> omega)); done))) | (with_reducible refine below_drewN ?_ _) | (with_reducible refine Below.drew ?_) | ((with_reducible refine bl_trans ?_ hb ?_); (focus ((first | omega | (simp <;> omega)); done))) | ((with_reducible refine bl_trans ?_ H1.out ?_); (focus ((first | omega | (simp <;> omega)); done)))))
    have zz2 := H2.out.size
    have f2_0 := keeps H2.out e0
    have f2_1 := keeps H2.out e1
    have f2_2 := keeps H2.out e2
    have f2_3 := keeps H2.out e3
    have f2_4 := keeps H2.out e4
    have f2_5 := keeps H2.out e5
    have f2_6 := keeps H2.out e6
    have f2_7 := keeps H2.out e7
    clear hb
    go_wp2_with fail
    go_ret2
    exact ⟨rfl, by repeat (first | (with_reducible exact Below.refl _ _) | (with_reducible assumption) | ((with_reducible refine bl_alloc ?_ _ ?_); (focus ((first | omega | (simp <;> omega)); done))) | ((with_reducible refine bl_set ?_ _ ?_); (focus ((first | omega | (simp <;> omega)); done))) | (with_reducible refine below_drewN ?_ _) | (with_reducible refine Below.drew ?_) | ((with_reducible refine bl_trans ?_ H2.out ?_); (focus ((first | omega | (simp <;> omega)); done))) | ((with_reducible refine bl_trans ?_ HW0.out ?_); (focus ((first | omega | (simp <;> omega)); done))))⟩
  have hsz := Lib.hid (ter_parts h1).1
  rcases bool_tf (hasB st wd ht x y) with h3 | h3
  rotate_left
  · obtain ⟨r1, r2⟩ := eh_3 h1 h2 h3
    rw [r1, r2]
    rw [h1] at HV
    rw [h2] at HE
    rw [h3] at HI
    clear h1 h2 h3 HH r1 r2
    go_enter Try.func30, Try.ntmps30
    (go_upto_region 1 with fail; rw [← hW0]; clear hW0)
    go_wp2_with fail
    refine HV.out.mono ?_
    rintro e w1 ⟨rfl, kk, hw⟩
    have H1 := Lib.hid (show Below W0.heap.size W0 w1 by rw [hw]; exact below_drewN (Below.refl _ _) _)
    have zz1 := H1.out.size
    have f1_0 := keeps H1.out e0
    have f1_1 := keeps H1.out e1
    have f1_2 := keeps H1.out e2
    have f1_3 := keeps H1.out e3
    have f1_4 := keeps H1.out e4
    have f1_5 := keeps H1.out e5
    have f1_6 := keeps H1.out e6
    have f1_7 := keeps H1.out e7
    clear hw
    go_wp2_with fail
    refine (HE.out _).mono ?_
    rintro e w2 ⟨rfl, hb⟩
    have H2 := Lib.hid (show Below W0.heap.size W0 w2 by repeat (first | (with_reducible exact Below.refl _ _) | (with_reducible assumption) | ((with_reducible refine bl_alloc ?_ _ ?_); (focus ((first | omega | (simp <;> omega)); done))) | ((with_reducible refine bl_set ?_ _ ?_); (focus ((first | omega | (simp <;> omega)); done))) | (with_reducible refine below_drewN ?_ _) | (with_reducible refine Below.drew ?_) | ((with_reducible refine bl_trans ?_ hb ?_); (focus ((first | omega | (simp <;> omega)); done))) | ((with_reducible refine bl_trans ?_ H1.out ?_); (focus ((first | omega | (simp <;> omega)); done)))))
    have zz2 := H2.out.size
    have f2_0 := keeps H2.out e0
    have f2_1 := keeps H2.out e1
    have f2_2 := keeps H2.out e2
    have f2_3 := keeps H2.out e3
    have f2_4 := keeps H2.out e4
    have f2_5 := keeps H2.out e5
    have f2_6 := keeps H2.out e6
    have f2_7 := keeps H2.out e7
    clear hb
    go_wp2_with fail
    refine (HI.out _ H2.out hsz.out).mono ?_
    rintro e w3 ⟨rfl, hb⟩
    have H3 := Lib.hid (show Below W0.heap.size W0 w3 by repeat (first | (with_reducible exact Below.refl _ _) | (with_reducible assumption) | ((with_reducible refine bl_alloc ?_ _ ?_); (focus ((first | omega | (simp <;> omega)); done))) | ((with_reducible refine bl_set ?_ _ ?_); (focus ((first | omega | (simp <;> omega)); done))) | (with_reducible refine below_drewN ?_ _) | (with_reducible refine Below.drew ?_) | ((with_reducible refine bl_trans ?_ hb ?_); (focus ((first | omega | (simp <;> omega)); done))) | ((with_reducible refine bl_trans ?_ H2.out ?_); (focus ((first | omega | (simp <;> omega)); done)))))
    have zz3 := H3.out.size
    have f3_0 := keeps H3.out e0
    have f3_1 := keeps H3.out e1
    have f3_2 := keeps H3.out e2
    have f3_3 := keeps H3.out e3
    have f3_4 := keeps H3.out e4
    have f3_5 := keeps H3.out e5
    have f3_6 := keeps H3.out e6
    have f3_7 := keeps H3.out e7
    clear hb
    go_wp2_with fail
    go_ret2
    exact ⟨rfl, by repeat (first | (with_reducible exact Below.refl _ _) | (with_reducible assumption) | ((with_reducible refine bl_alloc ?_ _ ?_); (focus ((first | omega | (simp <;> omega)); done))) | ((with_reducible refine bl_set ?_ _ ?_); (focus ((first | omega | (simp <;> omega)); done))) | (with_reducible refine below_drewN ?_ _) | (with_reducible refine Below.drew ?_) | ((with_reducible refine bl_trans ?_ H3.out ?_); (focus ((first | omega | (simp <;> omega)); done))) | ((with_reducible refine bl_trans ?_ HW0.out ?_); (focus ((first | omega | (simp <;> omega)); done))))⟩
  obtain ⟨r1, r2⟩ := eh_4 h1 h2 h3
  rw [r1, r2]
  have HH2 : Hid (∀ W : World, Below W0.heap.size W0 W → Calls Try.prog 69 #[.pointer (some ⟨w.heap.size, 0, none⟩), .agg #[.int .i64 x, .int .i64 y, .int .i64 a]] W fun e w' => e = .returned (.int .i64 (heightB st wd ht hs x y + a)) ∧ Below W.heap.size W w') := fun W hW => HH.out W hW h1 h2 h3
  rw [h1] at HV
  rw [h2] at HE
  rw [h3] at HI
  obtain ⟨K, hK⟩ : ∃ K, K = heightB st wd ht hs x y + a := ⟨_, rfl⟩
  rw [← hK] at HH2 ⊢
  clear h1 h2 h3 HH r1 r2 hK
  go_enter Try.func30, Try.ntmps30
  (go_upto_region 1 with fail; rw [← hW0]; clear hW0)
  go_wp2_with fail
  refine HV.out.mono ?_
  rintro e w1 ⟨rfl, kk, hw⟩
  have H1 := Lib.hid (show Below W0.heap.size W0 w1 by rw [hw]; exact below_drewN (Below.refl _ _) _)
  have zz1 := H1.out.size
  have f1_0 := keeps H1.out e0
  have f1_1 := keeps H1.out e1
  have f1_2 := keeps H1.out e2
  have f1_3 := keeps H1.out e3
  have f1_4 := keeps H1.out e4
  have f1_5 := keeps H1.out e5
  have f1_6 := keeps H1.out e6
  have f1_7 := keeps H1.out e7
  clear hw
  go_wp2_with fail
  refine (HE.out _).mono ?_
  rintro e w2 ⟨rfl, hb⟩
  have H2 := Lib.hid (show Below W0.heap.size W0 w2 by repeat (first | (with_reducible exact Below.refl _ _) | (with_reducible assumption) | ((with_reducible refine bl_alloc ?_ _ ?_); (focus ((first | omega | (simp <;> omega)); done))) | ((with_reducible refine bl_set ?_ _ ?_); (focus ((first | omega | (simp <;> omega)); done))) | (with_reducible refine below_drewN ?_ _) | (with_reducible refine Below.drew ?_) | ((with_reducible refine bl_trans ?_ hb ?_); (focus ((first | omega | (simp <;> omega)); done))) | ((with_reducible refine bl_trans ?_ H1.out ?_); (focus ((first | omega | (simp <;> omega)); done)))))
  have zz2 := H2.out.size
  have f2_0 := keeps H2.out e0
  have f2_1 := keeps H2.out e1
  have f2_2 := keeps H2.out e2
  have f2_3 := keeps H2.out e3
  have f2_4 := keeps H2.out e4
  have f2_5 := keeps H2.out e5
  have f2_6 := keeps H2.out e6
  have f2_7 := keeps H2.out e7
  clear hb
  go_wp2_with fail
  refine (HI.out _ H2.out hsz.out).mono ?_
  rintro e w3 ⟨rfl, hb⟩
  have H3 := Lib.hid (show Below W0.heap.size W0 w3 by repeat (first | (with_reducible exact Below.refl _ _) | (with_reducible assumption) | ((with_reducible refine bl_alloc ?_ _ ?_); (focus ((first | omega | (simp <;> omega)); done))) | ((with_reducible refine bl_set ?_ _ ?_); (focus ((first | omega | (simp <;> omega)); done))) | (with_reducible refine below_drewN ?_ _) | (with_reducible refine Below.drew ?_) | ((with_reducible refine bl_trans ?_ hb ?_); (focus ((first | omega | (simp <;> omega)); done))) | ((with_reducible refine bl_trans ?_ H2.out ?_); (focus ((first | omega | (simp <;> omega)); done)))))
  have zz3 := H3.out.size
  have f3_0 := keeps H3.out e0
  have f3_1 := keeps H3.out e1
  have f3_2 := keeps H3.out e2
  have f3_3 := keeps H3.out e3
  have f3_4 := keeps H3.out e4
  have f3_5 := keeps H3.out e5
  have f3_6 := keeps H3.out e6
  have f3_7 := keeps H3.out e7
  clear hb
  go_wp2_with fail
  refine (HH2.out _ H3.out).mono ?_
  rintro e w4 ⟨rfl, hb⟩
  have H4 := Lib.hid (show Below W0.heap.size W0 w4 by repeat (first | (with_reducible exact Below.refl _ _) | (with_reducible assumption) | ((with_reducible refine bl_alloc ?_ _ ?_); (focus ((first | omega | (simp <;> omega)); done))) | ((with_reducible refine bl_set ?_ _ ?_); (focus ((first | omega | (simp <;> omega)); done))) | (with_reducible refine below_drewN ?_ _) | (with_reducible refine Below.drew ?_) | ((with_reducible refine bl_trans ?_ hb ?_); (focus ((first | omega | (simp <;> omega)); done))) | ((with_reducible refine bl_trans ?_ H3.out ?_); (focus ((first | omega | (simp <;> omega)); done)))))
  have zz4 := H4.out.size
  have f4_0 := keeps H4.out e0
  have f4_1 := keeps H4.out e1
  have f4_2 := keeps H4.out e2
  have f4_3 := keeps H4.out e3
  have f4_4 := keeps H4.out e4
  have f4_5 := keeps H4.out e5
  have f4_6 := keeps H4.out e6
  have f4_7 := keeps H4.out e7
  clear hb
  go_wp2_with fail
  go_ret2
  exact ⟨rfl, by repeat (first | (with_reducible exact Below.refl _ _) | (with_reducible assumption) | ((with_reducible refine bl_alloc ?_ _ ?_); (focus ((first | omega | (simp <;> omega)); done))) | ((with_reducible refine bl_set ?_ _ ?_); (focus ((first | omega | (simp <;> omega)); done))) | (with_reducible refine below_drewN ?_ _) | (with_reducible refine Below.drew ?_) | ((with_reducible refine bl_trans ?_ H4.out ?_); (focus ((first | omega | (simp <;> omega)); done))) | ((with_reducible refine bl_trans ?_ HW0.out ?_); (focus ((first | omega | (simp <;> omega)); done))))⟩
set_option maxRecDepth 20000 in
set_option maxHeartbeats 4000000 in
theorem impl_any (w : World) (st : Int) (i1 : In64 st) (wd : Int) (i2 : In64 wd) (ht : Int) (i3 : In64 ht) (v : Value) (hs : List Int) (p : Nat) (hr : Row 2 w p v hs) (ihs : ∀ n ∈ hs, In64 n) (u : Value) (cs : List Int) (q : Nat) (hc : Row 2 w q u cs) (ics : ∀ n ∈ cs, In64 n) (x : Int) (ix : In64 x) (y : Int) (iy : In64 y) (a : Int) (ia : In64 a) :
    Calls Try.prog 33 #[.agg #[.int .i64 st, .int .i64 wd, .int .i64 ht, v, u], .agg #[.int .i64 x, .int .i64 y, .int .i64 a]] w fun e w' => e = .returned (.tuple #[.int .i64 (ehV st wd ht hs cs x y a), .int .i64 (ehC st wd ht hs cs x y a)]) ∧ Below w.heap.size w w' := by
  have HR := Lib.hid hr
  have HQ := Lib.hid hc
  clear hr hc i1 i2 i3 ihs ics ix iy ia
  obtain ⟨W0, hW0⟩ : ∃ W, W = (w.alloc (.cells #[.int .i64 st, .int .i64 wd, .int .i64 ht, v, u] 62)).alloc (.cells #[.int .i64 x, .int .i64 y, .int .i64 a] 66) := ⟨_, rfl⟩
  have HW0 := Lib.hid (show Below w.heap.size w W0 by rw [hW0]; repeat (first | (with_reducible exact Below.refl _ _) | (with_reducible assumption) | ((with_reducible refine bl_alloc ?_ _ ?_); (focus ((first | omega | (simp <;> omega)); done))) | ((with_reducible refine bl_set ?_ _ ?_); (focus ((first | omega | (simp <;> omega)); done))) | (with_reducible refine below_drewN ?_ _) | (with_reducible refine Below.drew ?_)))
  have z0 := HW0.out.size
  have e0 : W0.cell? ⟨w.heap.size, 0, none⟩ = some (.int .i64 st) := by rw [hW0]; simp [go_sem]
  have e1 : W0.cell? ⟨w.heap.size, 1, none⟩ = some (.int .i64 wd) := by rw [hW0]; simp [go_sem]
  have e2 : W0.cell? ⟨w.heap.size, 2, none⟩ = some (.int .i64 ht) := by rw [hW0]; simp [go_sem]
  have e3 : W0.cell? ⟨w.heap.size, 3, none⟩ = some (v) := by rw [hW0]; simp [go_sem]
  have e4 : W0.cell? ⟨w.heap.size, 4, none⟩ = some (u) := by rw [hW0]; simp [go_sem]
  have e5 : W0.cell? ⟨w.heap.size + 1, 0, none⟩ = some (.int .i64 x) := by rw [hW0]; simp [go_sem]
  have e6 : W0.cell? ⟨w.heap.size + 1, 1, none⟩ = some (.int .i64 y) := by rw [hW0]; simp [go_sem]
  have e7 : W0.cell? ⟨w.heap.size + 1, 2, none⟩ = some (.int .i64 a) := by rw [hW0]; simp [go_sem]
  have hl0 : w.heap.size + 1 < W0.heap.size := by rw [hW0]; simp
  have HV : Hid (∀ (W : World) (b c : Nat), Below w.heap.size w W → W.cell? ⟨b, 0, none⟩ = some (.int .i64 x) → W.cell? ⟨b, 1, none⟩ = some (.int .i64 y) → W.cell? ⟨b, 2, none⟩ = some (.int .i64 a) → Calls Try.prog 71 #[.agg #[.int .i64 st, .int .i64 wd, .int .i64 ht, v, u], .int .i64 1, .slice (some ⟨b, 0, none⟩) 1 c] W fun e w' => e = .returned (.int .i64 (ehC st wd ht hs cs x y a)) ∧ Below W.heap.size W w') := fun W b c hW k0 k1 k2 => endsCode_any W st wd ht v hs p (HR.out.later hW) u cs q (HQ.out.later hW) b c [⟨x, y, a⟩] (fun k hk => by
    have : k = 0 := by simp at hk; omega
    subst this
    exact ⟨k0, k1, k2⟩) (by simp) (block_of_cell k0)
  have HH : Hid (∀ W : World, Below w.heap.size w W → terB st wd ht hs cs = true → endB x y a = true → hasB st wd ht x y = true → Calls Try.prog 72 #[.agg #[.int .i64 st, .int .i64 wd, .int .i64 ht, v, u], .agg #[.int .i64 x, .int .i64 y, .int .i64 a]] W fun e w' => e = .returned (.int .i64 (heightB st wd ht hs x y + a)) ∧ Below W.heap.size W w') := fun W hW ht1 he hh => by
    obtain ⟨hz, hl, _, hb⟩ := ter_parts ht1
    obtain ⟨⟨x0, x1⟩, ⟨y0, y1⟩⟩ := has_parts hh
    obtain ⟨_, _, a0, a1⟩ := end_parts he
    exact endHeight_any W st wd ht x y a v u hs p (HR.out.later hW) hz hl hb x0 x1 y0 y1 a0 a1
  rcases bool_tf (terB st wd ht hs cs) with h1 | h1
  rotate_left
  · obtain ⟨r1, r2⟩ := eh_1 (x := x) (y := y) (a := a) h1
    rw [r1, r2]
    rw [r1] at HV
    clear h1 HH r1 r2
    go_enter Try.func33, Try.ntmps33
    (go_upto_region 1 with fail; rw [← hW0]; clear hW0)
    go_wp2_with fail
    refine (HV.out _ _ _ (by repeat (first | (with_reducible exact Below.refl _ _) | (with_reducible assumption) | ((with_reducible refine bl_alloc ?_ _ ?_); (focus ((first | omega | (simp <;> omega)); done))) | ((with_reducible refine bl_set ?_ _ ?_); (focus ((first | omega | (simp <;> omega)); done))) | (with_reducible refine below_drewN ?_ _) | (with_reducible refine Below.drew ?_) | ((with_reducible refine bl_trans ?_ HW0.out ?_); (focus ((first | omega | (simp <;> omega)); done))))) (by simp [go_sem]) (by simp [go_sem]) (by simp [go_sem])).mono ?_
    rintro e w1 ⟨rfl, hb⟩
    have H1 := Lib.hid (show Below W0.heap.size W0 w1 by repeat (first | (with_reducible exact Below.refl _ _) | (with_reducible assumption) | ((with_reducible refine bl_alloc ?_ _ ?_); (focus ((first | omega | (simp <;> omega)); done))) | ((with_reducible refine bl_set ?_ _ ?_); (focus ((first | omega | (simp <;> omega)); done))) | (with_reducible refine below_drewN ?_ _) | (with_reducible refine Below.drew ?_) | ((with_reducible refine bl_trans ?_ hb ?_); (focus ((first | omega | (simp <;> omega)); done)))))
    have zz1 := H1.out.size
    have H1w := Lib.hid (show Below w.heap.size w w1 by repeat (first | (with_reducible exact Below.refl _ _) | (with_reducible assumption) | ((with_reducible refine bl_alloc ?_ _ ?_); (focus ((first | omega | (simp <;> omega)); done))) | ((with_reducible refine bl_set ?_ _ ?_); (focus ((first | omega | (simp <;> omega)); done))) | (with_reducible refine below_drewN ?_ _) | (with_reducible refine Below.drew ?_) | ((with_reducible refine bl_trans ?_ H1.out ?_); (focus ((first | omega | (simp <;> omega)); done))) | ((with_reducible refine bl_trans ?_ HW0.out ?_); (focus ((first | omega | (simp <;> omega)); done)))))
    have f1_0 := keeps H1.out e0
    have f1_1 := keeps H1.out e1
    have f1_2 := keeps H1.out e2
    have f1_3 := keeps H1.out e3
    have f1_4 := keeps H1.out e4
    have f1_5 := keeps H1.out e5
    have f1_6 := keeps H1.out e6
    have f1_7 := keeps H1.out e7
    clear hb
    go_wp2_with fail
    go_ret2
    exact ⟨rfl, H1w.out⟩
  rcases bool_tf (endB x y a) with h2 | h2
  rotate_left
  · obtain ⟨r1, r2⟩ := eh_2 (st := st) (wd := wd) (ht := ht) (hs := hs) (cs := cs) h2
    rw [r1, r2]
    rw [r1] at HV
    clear h1 h2 HH r1 r2
    go_enter Try.func33, Try.ntmps33
    (go_upto_region 1 with fail; rw [← hW0]; clear hW0)
    go_wp2_with fail
    refine (HV.out _ _ _ (by repeat (first | (with_reducible exact Below.refl _ _) | (with_reducible assumption) | ((with_reducible refine bl_alloc ?_ _ ?_); (focus ((first | omega | (simp <;> omega)); done))) | ((with_reducible refine bl_set ?_ _ ?_); (focus ((first | omega | (simp <;> omega)); done))) | (with_reducible refine below_drewN ?_ _) | (with_reducible refine Below.drew ?_) | ((with_reducible refine bl_trans ?_ HW0.out ?_); (focus ((first | omega | (simp <;> omega)); done))))) (by simp [go_sem]) (by simp [go_sem]) (by simp [go_sem])).mono ?_
    rintro e w1 ⟨rfl, hb⟩
    have H1 := Lib.hid (show Below W0.heap.size W0 w1 by repeat (first | (with_reducible exact Below.refl _ _) | (with_reducible assumption) | ((with_reducible refine bl_alloc ?_ _ ?_); (focus ((first | omega | (simp <;> omega)); done))) | ((with_reducible refine bl_set ?_ _ ?_); (focus ((first | omega | (simp <;> omega)); done))) | (with_reducible refine below_drewN ?_ _) | (with_reducible refine Below.drew ?_) | ((with_reducible refine bl_trans ?_ hb ?_); (focus ((first | omega | (simp <;> omega)); done)))))
    have zz1 := H1.out.size
    have H1w := Lib.hid (show Below w.heap.size w w1 by repeat (first | (with_reducible exact Below.refl _ _) | (with_reducible assumption) | ((with_reducible refine bl_alloc ?_ _ ?_); (focus ((first | omega | (simp <;> omega)); done))) | ((with_reducible refine bl_set ?_ _ ?_); (focus ((first | omega | (simp <;> omega)); done))) | (with_reducible refine below_drewN ?_ _) | (with_reducible refine Below.drew ?_) | ((with_reducible refine bl_trans ?_ H1.out ?_); (focus ((first | omega | (simp <;> omega)); done))) | ((with_reducible refine bl_trans ?_ HW0.out ?_); (focus ((first | omega | (simp <;> omega)); done)))))
    have f1_0 := keeps H1.out e0
    have f1_1 := keeps H1.out e1
    have f1_2 := keeps H1.out e2
    have f1_3 := keeps H1.out e3
    have f1_4 := keeps H1.out e4
    have f1_5 := keeps H1.out e5
    have f1_6 := keeps H1.out e6
    have f1_7 := keeps H1.out e7
    clear hb
    go_wp2_with fail
    go_ret2
    exact ⟨rfl, H1w.out⟩
  rcases bool_tf (hasB st wd ht x y) with h3 | h3
  rotate_left
  · obtain ⟨r1, r2⟩ := eh_3 h1 h2 h3
    rw [r1, r2]
    rw [r1] at HV
    clear h1 h2 h3 HH r1 r2
    go_enter Try.func33, Try.ntmps33
    (go_upto_region 1 with fail; rw [← hW0]; clear hW0)
    go_wp2_with fail
    refine (HV.out _ _ _ (by repeat (first | (with_reducible exact Below.refl _ _) | (with_reducible assumption) | ((with_reducible refine bl_alloc ?_ _ ?_); (focus ((first | omega | (simp <;> omega)); done))) | ((with_reducible refine bl_set ?_ _ ?_); (focus ((first | omega | (simp <;> omega)); done))) | (with_reducible refine below_drewN ?_ _) | (with_reducible refine Below.drew ?_) | ((with_reducible refine bl_trans ?_ HW0.out ?_); (focus ((first | omega | (simp <;> omega)); done))))) (by simp [go_sem]) (by simp [go_sem]) (by simp [go_sem])).mono ?_
    rintro e w1 ⟨rfl, hb⟩
    have H1 := Lib.hid (show Below W0.heap.size W0 w1 by repeat (first | (with_reducible exact Below.refl _ _) | (with_reducible assumption) | ((with_reducible refine bl_alloc ?_ _ ?_); (focus ((first | omega | (simp <;> omega)); done))) | ((with_reducible refine bl_set ?_ _ ?_); (focus ((first | omega | (simp <;> omega)); done))) | (with_reducible refine below_drewN ?_ _) | (with_reducible refine Below.drew ?_) | ((with_reducible refine bl_trans ?_ hb ?_); (focus ((first | omega | (simp <;> omega)); done)))))
    have zz1 := H1.out.size
    have H1w := Lib.hid (show Below w.heap.size w w1 by repeat (first | (with_reducible exact Below.refl _ _) | (with_reducible assumption) | ((with_reducible refine bl_alloc ?_ _ ?_); (focus ((first | omega | (simp <;> omega)); done))) | ((with_reducible refine bl_set ?_ _ ?_); (focus ((first | omega | (simp <;> omega)); done))) | (with_reducible refine below_drewN ?_ _) | (with_reducible refine Below.drew ?_) | ((with_reducible refine bl_trans ?_ H1.out ?_); (focus ((first | omega | (simp <;> omega)); done))) | ((with_reducible refine bl_trans ?_ HW0.out ?_); (focus ((first | omega | (simp <;> omega)); done)))))
    have f1_0 := keeps H1.out e0
    have f1_1 := keeps H1.out e1
    have f1_2 := keeps H1.out e2
    have f1_3 := keeps H1.out e3
    have f1_4 := keeps H1.out e4
    have f1_5 := keeps H1.out e5
    have f1_6 := keeps H1.out e6
    have f1_7 := keeps H1.out e7
    clear hb
    go_wp2_with fail
    go_ret2
    exact ⟨rfl, H1w.out⟩
  obtain ⟨r1, r2⟩ := eh_4 h1 h2 h3
  rw [r1, r2]
  rw [r1] at HV
  have HH2 : Hid (∀ W : World, Below w.heap.size w W → Calls Try.prog 72 #[.agg #[.int .i64 st, .int .i64 wd, .int .i64 ht, v, u], .agg #[.int .i64 x, .int .i64 y, .int .i64 a]] W fun e w' => e = .returned (.int .i64 (heightB st wd ht hs x y + a)) ∧ Below W.heap.size W w') := fun W hW => HH.out W hW h1 h2 h3
  obtain ⟨K, hK⟩ : ∃ K, K = heightB st wd ht hs x y + a := ⟨_, rfl⟩
  rw [← hK] at HH2 ⊢
  clear h1 h2 h3 HH r1 r2 hK
  go_enter Try.func33, Try.ntmps33
  (go_upto_region 1 with fail; rw [← hW0]; clear hW0)
  go_wp2_with fail
  refine (HV.out _ _ _ (by repeat (first | (with_reducible exact Below.refl _ _) | (with_reducible assumption) | ((with_reducible refine bl_alloc ?_ _ ?_); (focus ((first | omega | (simp <;> omega)); done))) | ((with_reducible refine bl_set ?_ _ ?_); (focus ((first | omega | (simp <;> omega)); done))) | (with_reducible refine below_drewN ?_ _) | (with_reducible refine Below.drew ?_) | ((with_reducible refine bl_trans ?_ HW0.out ?_); (focus ((first | omega | (simp <;> omega)); done))))) (by simp [go_sem]) (by simp [go_sem]) (by simp [go_sem])).mono ?_
  rintro e w1 ⟨rfl, hb⟩
  have H1 := Lib.hid (show Below W0.heap.size W0 w1 by repeat (first | (with_reducible exact Below.refl _ _) | (with_reducible assumption) | ((with_reducible refine bl_alloc ?_ _ ?_); (focus ((first | omega | (simp <;> omega)); done))) | ((with_reducible refine bl_set ?_ _ ?_); (focus ((first | omega | (simp <;> omega)); done))) | (with_reducible refine below_drewN ?_ _) | (with_reducible refine Below.drew ?_) | ((with_reducible refine bl_trans ?_ hb ?_); (focus ((first | omega | (simp <;> omega)); done)))))
  have zz1 := H1.out.size
  have H1w := Lib.hid (show Below w.heap.size w w1 by repeat (first | (with_reducible exact Below.refl _ _) | (with_reducible assumption) | ((with_reducible refine bl_alloc ?_ _ ?_); (focus ((first | omega | (simp <;> omega)); done))) | ((with_reducible refine bl_set ?_ _ ?_); (focus ((first | omega | (simp <;> omega)); done))) | (with_reducible refine below_drewN ?_ _) | (with_reducible refine Below.drew ?_) | ((with_reducible refine bl_trans ?_ H1.out ?_); (focus ((first | omega | (simp <;> omega)); done))) | ((with_reducible refine bl_trans ?_ HW0.out ?_); (focus ((first | omega | (simp <;> omega)); done)))))
  have f1_0 := keeps H1.out e0
  have f1_1 := keeps H1.out e1
  have f1_2 := keeps H1.out e2
  have f1_3 := keeps H1.out e3
  have f1_4 := keeps H1.out e4
  have f1_5 := keeps H1.out e5
  have f1_6 := keeps H1.out e6
  have f1_7 := keeps H1.out e7
  clear hb
  go_wp2_with fail
  refine (HH2.out _ H1w.out).mono ?_
  rintro e w2 ⟨rfl, hb⟩
  have zz1w := H1w.out.size
  have H2w := Lib.hid (show Below w.heap.size w w2 by repeat (first | (with_reducible exact Below.refl _ _) | (with_reducible assumption) | ((with_reducible refine bl_alloc ?_ _ ?_); (focus ((first | omega | (simp <;> omega)); done))) | ((with_reducible refine bl_set ?_ _ ?_); (focus ((first | omega | (simp <;> omega)); done))) | (with_reducible refine below_drewN ?_ _) | (with_reducible refine Below.drew ?_) | ((with_reducible refine bl_trans ?_ hb ?_); (focus ((first | omega | (simp <;> omega)); done))) | ((with_reducible refine bl_trans ?_ H1w.out ?_); (focus ((first | omega | (simp <;> omega)); done)))))
  clear hb
  go_wp2_with fail
  go_ret2
  exact ⟨rfl, H2w.out⟩
set_option maxRecDepth 20000 in
set_option maxHeartbeats 4000000 in
theorem walk (w : World) (a0_0 : Int) (ia0_0 : In64 a0_0) (a0_1 : Int) (ia0_1 : In64 a0_1) (a0_2 : Int) (ia0_2 : In64 a0_2) (v0_3 : Value) (x0_3 : List Int) (r0_3 : Rd w w.heap.size v0_3 x0_3) (ix0_3 : ∀ n ∈ x0_3, In64 n) (v0_4 : Value) (x0_4 : List Int) (r0_4 : Rd w w.heap.size v0_4 x0_4) (ix0_4 : ∀ n ∈ x0_4, In64 n) (a1_0_0 : Int) (ia1_0_0 : In64 a1_0_0) (a1_0_1 : Int) (ia1_0_1 : In64 a1_0_1) (a1_1 : Int) (ia1_1 : In64 a1_1) :
    Calls Try.prog 6 #[.agg #[.int .i64 a0_0, .int .i64 a0_1, .int .i64 a0_2, v0_3, v0_4], .agg #[.int .i64 a1_0_0, .int .i64 a1_0_1, .int .i64 a1_1]] w fun e w' => e = .returned (.bool true) ∧ Below w.heap.size w w' := by
  by_cases hs0 : ¬ (x0_3.length : Int) + (x0_4.length : Int) ≤ 1048576
  · go_enter Try.func6, Try.ntmps6
    go_wp2_with fail
    refine (szTerrain_not a0_0 a0_1 a0_2 _ x0_3 _ x0_4 _ w.heap.size (by first | omega | (simp <;> omega)) (Rd.below r0_3 (by repeat (first | (with_reducible exact Below.refl _ _) | (with_reducible assumption) | ((with_reducible refine bl_alloc ?_ _ ?_); (focus ((first | omega | (simp <;> omega)); done))) | ((with_reducible refine bl_set ?_ _ ?_); (focus ((first | omega | (simp <;> omega)); done))) | (with_reducible refine below_drewN ?_ _) | (with_reducible refine Below.drew ?_)))) (Rd.below r0_4 (by repeat (first | (with_reducible exact Below.refl _ _) | (with_reducible assumption) | ((with_reducible refine bl_alloc ?_ _ ?_); (focus ((first | omega | (simp <;> omega)); done))) | ((with_reducible refine bl_set ?_ _ ?_); (focus ((first | omega | (simp <;> omega)); done))) | (with_reducible refine below_drewN ?_ _) | (with_reducible refine Below.drew ?_))))  _ (by omega) (by omega) (by omega)).mono ?_
    rintro e w1 ⟨rfl, hb⟩
    have zz1 : w.heap.size + 1 + 1 ≤ w1.heap.size := (by have := hb.size; ((try simp at this) <;> omega))
    have H1 := Lib.hid (show Below w.heap.size w w1 by repeat (first | (with_reducible exact Below.refl _ _) | (with_reducible assumption) | ((with_reducible refine bl_alloc ?_ _ ?_); (focus ((first | omega | (simp <;> omega)); done))) | ((with_reducible refine bl_set ?_ _ ?_); (focus ((first | omega | (simp <;> omega)); done))) | (with_reducible refine below_drewN ?_ _) | (with_reducible refine Below.drew ?_) | ((with_reducible refine bl_trans ?_ hb ?_); (focus ((first | omega | (simp <;> omega)); done)))))
    have f0_0_1 := keeps hb (p := ⟨w.heap.size, 0, none⟩) (v := .int .i64 a0_0) (by simp [go_sem])
    have f0_1_1 := keeps hb (p := ⟨w.heap.size, 1, none⟩) (v := .int .i64 a0_1) (by simp [go_sem])
    have f0_2_1 := keeps hb (p := ⟨w.heap.size, 2, none⟩) (v := .int .i64 a0_2) (by simp [go_sem])
    have f0_3_1 := keeps hb (p := ⟨w.heap.size, 3, none⟩) (v := v0_3) (by simp [go_sem])
    have f0_4_1 := keeps hb (p := ⟨w.heap.size, 4, none⟩) (v := v0_4) (by simp [go_sem])
    have g0_1 : w.heap.size < w1.heap.size := block_of_cell f0_0_1
    have f1_0_1 := keeps hb (p := ⟨w.heap.size + 1, 0, none⟩) (v := .int .i64 a1_0_0) (by simp [go_sem])
    have f1_1_1 := keeps hb (p := ⟨w.heap.size + 1, 1, none⟩) (v := .int .i64 a1_0_1) (by simp [go_sem])
    have f1_2_1 := keeps hb (p := ⟨w.heap.size + 1, 2, none⟩) (v := .int .i64 a1_1) (by simp [go_sem])
    have g1_1 : w.heap.size + 1 < w1.heap.size := block_of_cell f1_0_1
    clear hb
    go_wp2_with fail
    go_ret
    exact ⟨rfl, (by repeat (first | (with_reducible exact Below.refl _ _) | (with_reducible assumption) | ((with_reducible refine bl_alloc ?_ _ ?_); (focus ((first | omega | (simp <;> omega)); done))) | ((with_reducible refine bl_set ?_ _ ?_); (focus ((first | omega | (simp <;> omega)); done))) | (with_reducible refine below_drewN ?_ _) | (with_reducible refine Below.drew ?_) | ((with_reducible refine bl_trans ?_ H1.out ?_); (focus ((first | omega | (simp <;> omega)); done)))))⟩
  have hs0' : (x0_3.length : Int) + (x0_4.length : Int) ≤ 1048576 := by omega
  clear hs0
  go_enter Try.func6, Try.ntmps6
  go_wp2_with fail
  refine (szTerrain_fits a0_0 a0_1 a0_2 _ x0_3 _ x0_4 _ w.heap.size (by first | omega | (simp <;> omega)) (Rd.below r0_3 (by repeat (first | (with_reducible exact Below.refl _ _) | (with_reducible assumption) | ((with_reducible refine bl_alloc ?_ _ ?_); (focus ((first | omega | (simp <;> omega)); done))) | ((with_reducible refine bl_set ?_ _ ?_); (focus ((first | omega | (simp <;> omega)); done))) | (with_reducible refine below_drewN ?_ _) | (with_reducible refine Below.drew ?_)))) (Rd.below r0_4 (by repeat (first | (with_reducible exact Below.refl _ _) | (with_reducible assumption) | ((with_reducible refine bl_alloc ?_ _ ?_); (focus ((first | omega | (simp <;> omega)); done))) | ((with_reducible refine bl_set ?_ _ ?_); (focus ((first | omega | (simp <;> omega)); done))) | (with_reducible refine below_drewN ?_ _) | (with_reducible refine Below.drew ?_))))  _ (by omega) (by omega)).mono ?_
  rintro e w1 ⟨rfl, hb⟩
  have zz1 : w.heap.size + 1 + 1 ≤ w1.heap.size := (by have := hb.size; ((try simp at this) <;> omega))
  have H1 := Lib.hid (show Below w.heap.size w w1 by repeat (first | (with_reducible exact Below.refl _ _) | (with_reducible assumption) | ((with_reducible refine bl_alloc ?_ _ ?_); (focus ((first | omega | (simp <;> omega)); done))) | ((with_reducible refine bl_set ?_ _ ?_); (focus ((first | omega | (simp <;> omega)); done))) | (with_reducible refine below_drewN ?_ _) | (with_reducible refine Below.drew ?_) | ((with_reducible refine bl_trans ?_ hb ?_); (focus ((first | omega | (simp <;> omega)); done)))))
  have f0_0_1 := keeps hb (p := ⟨w.heap.size, 0, none⟩) (v := .int .i64 a0_0) (by simp [go_sem])
  have f0_1_1 := keeps hb (p := ⟨w.heap.size, 1, none⟩) (v := .int .i64 a0_1) (by simp [go_sem])
  have f0_2_1 := keeps hb (p := ⟨w.heap.size, 2, none⟩) (v := .int .i64 a0_2) (by simp [go_sem])
  have f0_3_1 := keeps hb (p := ⟨w.heap.size, 3, none⟩) (v := v0_3) (by simp [go_sem])
  have f0_4_1 := keeps hb (p := ⟨w.heap.size, 4, none⟩) (v := v0_4) (by simp [go_sem])
  have g0_1 : w.heap.size < w1.heap.size := block_of_cell f0_0_1
  have f1_0_1 := keeps hb (p := ⟨w.heap.size + 1, 0, none⟩) (v := .int .i64 a1_0_0) (by simp [go_sem])
  have f1_1_1 := keeps hb (p := ⟨w.heap.size + 1, 1, none⟩) (v := .int .i64 a1_0_1) (by simp [go_sem])
  have f1_2_1 := keeps hb (p := ⟨w.heap.size + 1, 2, none⟩) (v := .int .i64 a1_1) (by simp [go_sem])
  have g1_1 : w.heap.size + 1 < w1.heap.size := block_of_cell f1_0_1
  clear hb
  go_wp2_with fail
  go_region_held3 (fun w' => w'.cell? ⟨w.heap.size, 0, none⟩ = some (.int .i64 a0_0) ∧ w'.cell? ⟨w.heap.size, 1, none⟩ = some (.int .i64 a0_1) ∧ w'.cell? ⟨w.heap.size, 2, none⟩ = some (.int .i64 a0_2) ∧ w'.cell? ⟨w.heap.size, 3, none⟩ = some (v0_3) ∧ w'.cell? ⟨w.heap.size, 4, none⟩ = some (v0_4) ∧ w'.cell? ⟨w.heap.size + 1, 0, none⟩ = some (.int .i64 a1_0_0) ∧ w'.cell? ⟨w.heap.size + 1, 1, none⟩ = some (.int .i64 a1_0_1) ∧ w'.cell? ⟨w.heap.size + 1, 2, none⟩ = some (.int .i64 a1_1))
    (first | (refine ⟨?_, ?_, ?_, ?_, ?_, ?_, ?_, ?_⟩ <;> assumption) | (go_split_ands; (refine ⟨?_, ?_, ?_, ?_, ?_, ?_, ?_, ?_⟩ <;> first | assumption | (refine keeps hb ?_; assumption))))
    (first
      | (go_at_call 31; ((with_reducible refine (toTerrain_any a0_0 a0_1 a0_2 v0_3 x0_3 v0_4 x0_4 _ w.heap.size (by first | omega | (simp <;> omega)) (Rd.below r0_3 (by repeat (first | (with_reducible exact Below.refl _ _) | (with_reducible assumption) | ((with_reducible refine bl_alloc ?_ _ ?_); (focus ((first | omega | (simp <;> omega)); done))) | ((with_reducible refine bl_set ?_ _ ?_); (focus ((first | omega | (simp <;> omega)); done))) | (with_reducible refine below_drewN ?_ _) | (with_reducible refine Below.drew ?_) | ((with_reducible refine bl_trans ?_ H1.out ?_); (focus ((first | omega | (simp <;> omega)); done)))))) (by omega) (Rd.below r0_4 (by repeat (first | (with_reducible exact Below.refl _ _) | (with_reducible assumption) | ((with_reducible refine bl_alloc ?_ _ ?_); (focus ((first | omega | (simp <;> omega)); done))) | ((with_reducible refine bl_set ?_ _ ?_); (focus ((first | omega | (simp <;> omega)); done))) | (with_reducible refine below_drewN ?_ _) | (with_reducible refine Below.drew ?_) | ((with_reducible refine bl_trans ?_ H1.out ?_); (focus ((first | omega | (simp <;> omega)); done)))))) (by omega)).mono ?_); rintro e w2 ⟨A0, n0, c0, A1, n1, c1, rfl, hr0, hr1, ha0_1, hb⟩; have zz2 : w1.heap.size ≤ w2.heap.size := (by have := hb.size; ((try simp at this) <;> omega)); have H2 := Lib.hid (show Below w.heap.size w w2 by repeat (first | (with_reducible exact Below.refl _ _) | (with_reducible assumption) | ((with_reducible refine bl_alloc ?_ _ ?_); (focus ((first | omega | (simp <;> omega)); done))) | ((with_reducible refine bl_set ?_ _ ?_); (focus ((first | omega | (simp <;> omega)); done))) | (with_reducible refine below_drewN ?_ _) | (with_reducible refine Below.drew ?_) | ((with_reducible refine bl_trans ?_ hb ?_); (focus ((first | omega | (simp <;> omega)); done))) | ((with_reducible refine bl_trans ?_ H1.out ?_); (focus ((first | omega | (simp <;> omega)); done))))); have f0_0_2 := keeps1 hb f0_0_1; have f0_1_2 := keeps1 hb f0_1_1; have f0_2_2 := keeps1 hb f0_2_1; have f0_3_2 := keeps1 hb f0_3_1; have f0_4_2 := keeps1 hb f0_4_1; have g0_2 : w.heap.size < w2.heap.size := block_of_cell f0_0_2; have f1_0_2 := keeps1 hb f1_0_1; have f1_1_2 := keeps1 hb f1_1_1; have f1_2_2 := keeps1 hb f1_2_1; have g1_2 : w.heap.size + 1 < w2.heap.size := block_of_cell f1_0_2; have R0_2 := Lib.hid hr0; have RL0 := Lib.hid (show ∀ g, Value.ownBlock (.slice A0 n0 c0) = some g → w1.heap.size ≤ g ∧ g < w2.heap.size from fun g h => by have l1 := hr0.lt g h; ((try simp at l1) <;> omega)); have RA0_1 := Lib.hid ha0_1; have R1_2 := Lib.hid hr1; have RL1 := Lib.hid (show ∀ g, Value.ownBlock (.slice A1 n1 c1) = some g → w1.heap.size ≤ g ∧ g < w2.heap.size from fun g h => by have l1 := hr1.lt g h; ((try simp at l1) <;> omega)); clear f0_0_1 f0_1_1 f0_2_1 f0_3_1 f0_4_1 g0_1 f1_0_1 f1_1_1 f1_2_1 g1_1 hr0 ha0_1 hr1 H1))
      | (go_at_call 32; ((with_reducible refine (toEnd_any a1_0_0 a1_0_1 a1_1 _).mono ?_); rintro e w3 ⟨rfl, hb⟩; have zz3 : w2.heap.size ≤ w3.heap.size := (by have := hb.size; ((try simp at this) <;> omega)); have H3 := Lib.hid (show Below w.heap.size w w3 by repeat (first | (with_reducible exact Below.refl _ _) | (with_reducible assumption) | ((with_reducible refine bl_alloc ?_ _ ?_); (focus ((first | omega | (simp <;> omega)); done))) | ((with_reducible refine bl_set ?_ _ ?_); (focus ((first | omega | (simp <;> omega)); done))) | (with_reducible refine below_drewN ?_ _) | (with_reducible refine Below.drew ?_) | ((with_reducible refine bl_trans ?_ hb ?_); (focus ((first | omega | (simp <;> omega)); done))) | ((with_reducible refine bl_trans ?_ H2.out ?_); (focus ((first | omega | (simp <;> omega)); done))))); have f0_0_3 := keeps hb f0_0_2; have f0_1_3 := keeps hb f0_1_2; have f0_2_3 := keeps hb f0_2_2; have f0_3_3 := keeps hb f0_3_2; have f0_4_3 := keeps hb f0_4_2; have g0_3 : w.heap.size < w3.heap.size := block_of_cell f0_0_3; have f1_0_3 := keeps hb f1_0_2; have f1_1_3 := keeps hb f1_1_2; have f1_2_3 := keeps hb f1_2_2; have g1_3 : w.heap.size + 1 < w3.heap.size := block_of_cell f1_0_3; have R0_3 := Lib.hid (Row.later R0_2.out hb); have R1_3 := Lib.hid (Row.later R1_2.out hb); clear f0_0_2 f0_1_2 f0_2_2 f0_3_2 f0_4_2 g0_2 f1_0_2 f1_1_2 f1_2_2 g1_2 R0_2 R1_2 H2))
      | (go_at_call 30; ((with_reducible refine (spec_any _ a0_0 ia0_0 a0_1 ia0_1 a0_2 ia0_2 _ x0_3 _ R0_3.out ix0_3 _ x0_4 _ R1_3.out ix0_4 a1_0_0 ia1_0_0 a1_0_1 ia1_0_1 a1_1 ia1_1).mono ?_); rintro e w4 ⟨rfl, hb⟩; have zz4 : w3.heap.size ≤ w4.heap.size := (by have := hb.size; ((try simp at this) <;> omega)); have H4 := Lib.hid (show Below w.heap.size w w4 by repeat (first | (with_reducible exact Below.refl _ _) | (with_reducible assumption) | ((with_reducible refine bl_alloc ?_ _ ?_); (focus ((first | omega | (simp <;> omega)); done))) | ((with_reducible refine bl_set ?_ _ ?_); (focus ((first | omega | (simp <;> omega)); done))) | (with_reducible refine below_drewN ?_ _) | (with_reducible refine Below.drew ?_) | ((with_reducible refine bl_trans ?_ hb ?_); (focus ((first | omega | (simp <;> omega)); done))) | ((with_reducible refine bl_trans ?_ H3.out ?_); (focus ((first | omega | (simp <;> omega)); done))))); have f0_0_4 := keeps hb f0_0_3; have f0_1_4 := keeps hb f0_1_3; have f0_2_4 := keeps hb f0_2_3; have f0_3_4 := keeps hb f0_3_3; have f0_4_4 := keeps hb f0_4_3; have g0_4 : w.heap.size < w4.heap.size := block_of_cell f0_0_4; have f1_0_4 := keeps hb f1_0_3; have f1_1_4 := keeps hb f1_1_3; have f1_2_4 := keeps hb f1_2_3; have g1_4 : w.heap.size + 1 < w4.heap.size := block_of_cell f1_0_4; clear f0_0_3 f0_1_3 f0_2_3 f0_3_3 f0_4_3 g0_3 f1_0_3 f1_1_3 f1_2_3 g1_3 R0_3 R1_3 H3)))
  go_wp2_with fail
  refine (toTerrain_any a0_0 a0_1 a0_2 v0_3 x0_3 v0_4 x0_4 _ w.heap.size (by first | omega | (simp <;> omega)) (Rd.below r0_3 (by repeat (first | (with_reducible exact Below.refl _ _) | (with_reducible assumption) | ((with_reducible refine bl_alloc ?_ _ ?_); (focus ((first | omega | (simp <;> omega)); done))) | ((with_reducible refine bl_set ?_ _ ?_); (focus ((first | omega | (simp <;> omega)); done))) | (with_reducible refine below_drewN ?_ _) | (with_reducible refine Below.drew ?_) | ((with_reducible refine bl_trans ?_ H4.out ?_); (focus ((first | omega | (simp <;> omega)); done)))))) (by omega) (Rd.below r0_4 (by repeat (first | (with_reducible exact Below.refl _ _) | (with_reducible assumption) | ((with_reducible refine bl_alloc ?_ _ ?_); (focus ((first | omega | (simp <;> omega)); done))) | ((with_reducible refine bl_set ?_ _ ?_); (focus ((first | omega | (simp <;> omega)); done))) | (with_reducible refine below_drewN ?_ _) | (with_reducible refine Below.drew ?_) | ((with_reducible refine bl_trans ?_ H4.out ?_); (focus ((first | omega | (simp <;> omega)); done)))))) (by omega)).mono ?_
  rintro e w5 ⟨A2, n2, c2, A3, n3, c3, rfl, hr2, hr3, ha2_3, hb⟩
  have zz5 : w4.heap.size ≤ w5.heap.size := (by have := hb.size; ((try simp at this) <;> omega))
  have H5 := Lib.hid (show Below w.heap.size w w5 by repeat (first | (with_reducible exact Below.refl _ _) | (with_reducible assumption) | ((with_reducible refine bl_alloc ?_ _ ?_); (focus ((first | omega | (simp <;> omega)); done))) | ((with_reducible refine bl_set ?_ _ ?_); (focus ((first | omega | (simp <;> omega)); done))) | (with_reducible refine below_drewN ?_ _) | (with_reducible refine Below.drew ?_) | ((with_reducible refine bl_trans ?_ hb ?_); (focus ((first | omega | (simp <;> omega)); done))) | ((with_reducible refine bl_trans ?_ H4.out ?_); (focus ((first | omega | (simp <;> omega)); done)))))
  have f0_0_5 := keeps hb f0_0_4
  have f0_1_5 := keeps hb f0_1_4
  have f0_2_5 := keeps hb f0_2_4
  have f0_3_5 := keeps hb f0_3_4
  have f0_4_5 := keeps hb f0_4_4
  have g0_5 : w.heap.size < w5.heap.size := block_of_cell f0_0_5
  have f1_0_5 := keeps hb f1_0_4
  have f1_1_5 := keeps hb f1_1_4
  have f1_2_5 := keeps hb f1_2_4
  have g1_5 : w.heap.size + 1 < w5.heap.size := block_of_cell f1_0_5
  have R2_5 := Lib.hid hr2
  have RL2 := Lib.hid (show ∀ g, Value.ownBlock (.slice A2 n2 c2) = some g → w4.heap.size ≤ g ∧ g < w5.heap.size from fun g h => by have l1 := hr2.lt g h; ((try simp at l1) <;> omega))
  have RA2_3 := Lib.hid ha2_3
  have R3_5 := Lib.hid hr3
  have RL3 := Lib.hid (show ∀ g, Value.ownBlock (.slice A3 n3 c3) = some g → w4.heap.size ≤ g ∧ g < w5.heap.size from fun g h => by have l1 := hr3.lt g h; ((try simp at l1) <;> omega))
  clear hb f0_0_4 f0_1_4 f0_2_4 f0_3_4 f0_4_4 g0_4 f1_0_4 f1_1_4 f1_2_4 g1_4 hr2 ha2_3 hr3 H4
  go_wp2_with fail
  go_region_held3 (fun w' => w'.cell? ⟨w5.heap.size, 0, none⟩ = some (.int .i64 a0_0) ∧ w'.cell? ⟨w5.heap.size, 1, none⟩ = some (.int .i64 a0_1) ∧ w'.cell? ⟨w5.heap.size, 2, none⟩ = some (.int .i64 a0_2) ∧ w'.cell? ⟨w5.heap.size, 3, none⟩ = some ((.slice A2 n2 c2)) ∧ w'.cell? ⟨w5.heap.size, 4, none⟩ = some ((.slice A3 n3 c3)) ∧ w'.cell? ⟨w.heap.size + 1, 0, none⟩ = some (.int .i64 a1_0_0) ∧ w'.cell? ⟨w.heap.size + 1, 1, none⟩ = some (.int .i64 a1_0_1) ∧ w'.cell? ⟨w.heap.size + 1, 2, none⟩ = some (.int .i64 a1_1))
    (first | (refine ⟨?_, ?_, ?_, ?_, ?_, ?_, ?_, ?_⟩ <;> assumption) | (go_split_ands; (refine ⟨?_, ?_, ?_, ?_, ?_, ?_, ?_, ?_⟩ <;> first | assumption | (refine keeps hb ?_; assumption))) | (((try go_split_ands); (refine ⟨?_, ?_, ?_, ?_, ?_, ?_, ?_, ?_⟩ <;> (repeat (first | (with_reducible assumption) | (simp [go_sem]; done) | (with_reducible refine cell_drew ?_) | (with_reducible refine keeps hb ?_) | (with_reducible refine cell_alloc ?_ _)))))))
    (first
      | (go_at_call 32; ((with_reducible refine (toEnd_any a1_0_0 a1_0_1 a1_1 _).mono ?_); rintro e w6 ⟨rfl, hb⟩; have zz6 : w5.heap.size + 1 ≤ w6.heap.size := (by have := hb.size; ((try simp at this) <;> omega)); have H6 := Lib.hid (show Below w.heap.size w w6 by repeat (first | (with_reducible exact Below.refl _ _) | (with_reducible assumption) | ((with_reducible refine bl_alloc ?_ _ ?_); (focus ((first | omega | (simp <;> omega)); done))) | ((with_reducible refine bl_set ?_ _ ?_); (focus ((first | omega | (simp <;> omega)); done))) | (with_reducible refine below_drewN ?_ _) | (with_reducible refine Below.drew ?_) | ((with_reducible refine bl_trans ?_ hb ?_); (focus ((first | omega | (simp <;> omega)); done))) | ((with_reducible refine bl_trans ?_ H5.out ?_); (focus ((first | omega | (simp <;> omega)); done))))); have f0_0_6 := keeps1 hb (cell_alloc f0_0_5 _); have f0_1_6 := keeps1 hb (cell_alloc f0_1_5 _); have f0_2_6 := keeps1 hb (cell_alloc f0_2_5 _); have f0_3_6 := keeps1 hb (cell_alloc f0_3_5 _); have f0_4_6 := keeps1 hb (cell_alloc f0_4_5 _); have g0_6 : w.heap.size < w6.heap.size := block_of_cell f0_0_6; have f2_0_6 := keeps hb (p := ⟨w5.heap.size, 0, none⟩) (v := .int .i64 a0_0) (by simp [go_sem]); have f2_1_6 := keeps hb (p := ⟨w5.heap.size, 1, none⟩) (v := .int .i64 a0_1) (by simp [go_sem]); have f2_2_6 := keeps hb (p := ⟨w5.heap.size, 2, none⟩) (v := .int .i64 a0_2) (by simp [go_sem]); have f2_3_6 := keeps hb (p := ⟨w5.heap.size, 3, none⟩) (v := (.slice A2 n2 c2)) (by simp [go_sem]); have f2_4_6 := keeps hb (p := ⟨w5.heap.size, 4, none⟩) (v := (.slice A3 n3 c3)) (by simp [go_sem]); have g2_6 : w5.heap.size < w6.heap.size := block_of_cell f2_0_6; have R2_6 := Lib.hid (Row.later1 (R2_5.out.alloc_ _) hb); have R3_6 := Lib.hid (Row.later1 (R3_5.out.alloc_ _) hb); clear f0_0_5 f0_1_5 f0_2_5 f0_3_5 f0_4_5 g0_5 f1_0_5 f1_1_5 f1_2_5 g1_5 R2_5 R3_5 H5))
      | (go_at_call 33; ((with_reducible refine (impl_any _ a0_0 ia0_0 a0_1 ia0_1 a0_2 ia0_2 _ x0_3 _ R2_6.out ix0_3 _ x0_4 _ R3_6.out ix0_4 a1_0_0 ia1_0_0 a1_0_1 ia1_0_1 a1_1 ia1_1).mono ?_); rintro e w7 ⟨rfl, hb⟩; have zz7 : w6.heap.size ≤ w7.heap.size := (by have := hb.size; ((try simp at this) <;> omega)); have H7 := Lib.hid (show Below w.heap.size w w7 by repeat (first | (with_reducible exact Below.refl _ _) | (with_reducible assumption) | ((with_reducible refine bl_alloc ?_ _ ?_); (focus ((first | omega | (simp <;> omega)); done))) | ((with_reducible refine bl_set ?_ _ ?_); (focus ((first | omega | (simp <;> omega)); done))) | (with_reducible refine below_drewN ?_ _) | (with_reducible refine Below.drew ?_) | ((with_reducible refine bl_trans ?_ hb ?_); (focus ((first | omega | (simp <;> omega)); done))) | ((with_reducible refine bl_trans ?_ H6.out ?_); (focus ((first | omega | (simp <;> omega)); done))))); have f0_0_7 := keeps hb f0_0_6; have f0_1_7 := keeps hb f0_1_6; have f0_2_7 := keeps hb f0_2_6; have f0_3_7 := keeps hb f0_3_6; have f0_4_7 := keeps hb f0_4_6; have g0_7 : w.heap.size < w7.heap.size := block_of_cell f0_0_7; have f2_0_7 := keeps hb f2_0_6; have f2_1_7 := keeps hb f2_1_6; have f2_2_7 := keeps hb f2_2_6; have f2_3_7 := keeps hb f2_3_6; have f2_4_7 := keeps hb f2_4_6; have g2_7 : w5.heap.size < w7.heap.size := block_of_cell f2_0_7; have R2_7 := Lib.hid (Row.later R2_6.out hb); have R3_7 := Lib.hid (Row.later R3_6.out hb); clear f0_0_6 f0_1_6 f0_2_6 f0_3_6 f0_4_6 g0_6 f2_0_6 f2_1_6 f2_2_6 f2_3_6 f2_4_6 g2_6 R2_6 R3_6 H6)))
  go_wp2_with fail
  go_region_held3 (fun w' => w'.cell? ⟨w5.heap.size, 0, none⟩ = some (.int .i64 a0_0) ∧ w'.cell? ⟨w5.heap.size, 1, none⟩ = some (.int .i64 a0_1) ∧ w'.cell? ⟨w5.heap.size, 2, none⟩ = some (.int .i64 a0_2) ∧ w'.cell? ⟨w5.heap.size, 3, none⟩ = some ((.slice A2 n2 c2)) ∧ w'.cell? ⟨w5.heap.size, 4, none⟩ = some ((.slice A3 n3 c3)) ∧ w'.cell? ⟨w.heap.size, 0, none⟩ = some (.int .i64 a0_0) ∧ w'.cell? ⟨w.heap.size, 1, none⟩ = some (.int .i64 a0_1) ∧ w'.cell? ⟨w.heap.size, 2, none⟩ = some (.int .i64 a0_2) ∧ w'.cell? ⟨w.heap.size, 3, none⟩ = some (v0_3) ∧ w'.cell? ⟨w.heap.size, 4, none⟩ = some (v0_4))
    (first | (refine ⟨?_, ?_, ?_, ?_, ?_, ?_, ?_, ?_, ?_, ?_⟩ <;> assumption) | (go_split_ands; (refine ⟨?_, ?_, ?_, ?_, ?_, ?_, ?_, ?_, ?_, ?_⟩ <;> first | assumption | (refine keeps hb ?_; assumption))))
    (first
      | (go_at_call 31; ((with_reducible refine (toTerrain_any a0_0 a0_1 a0_2 v0_3 x0_3 v0_4 x0_4 _ w.heap.size (by first | omega | (simp <;> omega)) (Rd.below r0_3 (by repeat (first | (with_reducible exact Below.refl _ _) | (with_reducible assumption) | ((with_reducible refine bl_alloc ?_ _ ?_); (focus ((first | omega | (simp <;> omega)); done))) | ((with_reducible refine bl_set ?_ _ ?_); (focus ((first | omega | (simp <;> omega)); done))) | (with_reducible refine below_drewN ?_ _) | (with_reducible refine Below.drew ?_) | ((with_reducible refine bl_trans ?_ H7.out ?_); (focus ((first | omega | (simp <;> omega)); done)))))) (by omega) (Rd.below r0_4 (by repeat (first | (with_reducible exact Below.refl _ _) | (with_reducible assumption) | ((with_reducible refine bl_alloc ?_ _ ?_); (focus ((first | omega | (simp <;> omega)); done))) | ((with_reducible refine bl_set ?_ _ ?_); (focus ((first | omega | (simp <;> omega)); done))) | (with_reducible refine below_drewN ?_ _) | (with_reducible refine Below.drew ?_) | ((with_reducible refine bl_trans ?_ H7.out ?_); (focus ((first | omega | (simp <;> omega)); done)))))) (by omega)).mono ?_); rintro e w8 ⟨A4, n4, c4, A5, n5, c5, rfl, hr4, hr5, ha4_5, hb⟩; have zz8 : w7.heap.size ≤ w8.heap.size := (by have := hb.size; ((try simp at this) <;> omega)); have H8 := Lib.hid (show Below w.heap.size w w8 by repeat (first | (with_reducible exact Below.refl _ _) | (with_reducible assumption) | ((with_reducible refine bl_alloc ?_ _ ?_); (focus ((first | omega | (simp <;> omega)); done))) | ((with_reducible refine bl_set ?_ _ ?_); (focus ((first | omega | (simp <;> omega)); done))) | (with_reducible refine below_drewN ?_ _) | (with_reducible refine Below.drew ?_) | ((with_reducible refine bl_trans ?_ hb ?_); (focus ((first | omega | (simp <;> omega)); done))) | ((with_reducible refine bl_trans ?_ H7.out ?_); (focus ((first | omega | (simp <;> omega)); done))))); have R2_8 := Lib.hid (Row.later1 R2_7.out hb); have R3_8 := Lib.hid (Row.later1 R3_7.out hb); have R4_8 := Lib.hid hr4; have RL4 := Lib.hid (show ∀ g, Value.ownBlock (.slice A4 n4 c4) = some g → w7.heap.size ≤ g ∧ g < w8.heap.size from fun g h => by have l1 := hr4.lt g h; ((try simp at l1) <;> omega)); have RA4_5 := Lib.hid ha4_5; have R5_8 := Lib.hid hr5; have RL5 := Lib.hid (show ∀ g, Value.ownBlock (.slice A5 n5 c5) = some g → w7.heap.size ≤ g ∧ g < w8.heap.size from fun g h => by have l1 := hr5.lt g h; ((try simp at l1) <;> omega)); clear f0_0_7 f0_1_7 f0_2_7 f0_3_7 f0_4_7 g0_7 f2_0_7 f2_1_7 f2_2_7 f2_3_7 f2_4_7 g2_7 R2_7 R3_7 hr4 ha4_5 hr5 H7))
      | (go_at_call 34; ((with_reducible refine (eqTerrain_any a0_0 a0_1 a0_2 _ _ _ (x0_3) _ _ R2_8.out R4_8.out _ _ (x0_4) _ _ R3_8.out R5_8.out).mono ?_); rintro e w9 ⟨rfl, hb⟩; have zz9 : w8.heap.size ≤ w9.heap.size := (by have := hb.size; ((try simp at this) <;> omega)); have H9 := Lib.hid (show Below w.heap.size w w9 by repeat (first | (with_reducible exact Below.refl _ _) | (with_reducible assumption) | ((with_reducible refine bl_alloc ?_ _ ?_); (focus ((first | omega | (simp <;> omega)); done))) | ((with_reducible refine bl_set ?_ _ ?_); (focus ((first | omega | (simp <;> omega)); done))) | (with_reducible refine below_drewN ?_ _) | (with_reducible refine Below.drew ?_) | ((with_reducible refine bl_trans ?_ hb ?_); (focus ((first | omega | (simp <;> omega)); done))) | ((with_reducible refine bl_trans ?_ H8.out ?_); (focus ((first | omega | (simp <;> omega)); done))))); clear R2_8 R3_8 R4_8 R5_8 H8)))
  go_wp2_with fail
  go_ret
  exact ⟨rfl, (by repeat (first | (with_reducible exact Below.refl _ _) | (with_reducible assumption) | ((with_reducible refine bl_alloc ?_ _ ?_); (focus ((first | omega | (simp <;> omega)); done))) | ((with_reducible refine bl_set ?_ _ ?_); (focus ((first | omega | (simp <;> omega)); done))) | (with_reducible refine below_drewN ?_ _) | (with_reducible refine Below.drew ?_) | ((with_reducible refine bl_trans ?_ H9.out ?_); (focus ((first | omega | (simp <;> omega)); done)))))⟩
end Go.Proofs.Ytedpdcdmemenhaa.fnExactEndHeight
