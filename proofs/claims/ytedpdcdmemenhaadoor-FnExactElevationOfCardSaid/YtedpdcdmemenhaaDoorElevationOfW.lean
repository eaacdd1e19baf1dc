/-
  The walk of FnExactElevationOf: it returns true, and of what was there nothing has turned. The conditions are what its arguments' readings give.
-/
import Derived.Test.YtedpdcdmemenhaaDoorRows
import Derived.Test.YtedpdcdmemenhaaDoorLib
import Derived.Test.YtedpdcdmemenhaaDoorInt
import Derived.Test.YtedpdcdmemenhaaDoorWithin
import Derived.Test.YtedpdcdmemenhaaDoorAll
import Derived.Test.YtedpdcdmemenhaaDoorOwn
import Derived.Test.YtedpdcdmemenhaaDoorField
import Derived.Test.YtedpdcdmemenhaaDoorTer
import Derived.Test.YtedpdcdmemenhaaDoorTerV
import Derived.Test.YtedpdcdmemenhaaDoorIn
import Derived.Test.YtedpdcdmemenhaaDoorEnds
import Derived.Test.YtedpdcdmemenhaaDoorHgtP
import Derived.Test.YtedpdcdmemenhaaDoorHgtS
import Derived.Test.YtedpdcdmemenhaaDoorHgtI
import Derived.Test.YtedpdcdmemenhaaDoorHigh
import Derived.Test.YtedpdcdmemenhaaDoorTerrain
import Derived.Test.YtedpdcdmemenhaaDoorPlaces
import Derived.Test.YtedpdcdmemenhaaDoorAsk
import Derived.Test.YtedpdcdmemenhaaDoorApart
import Derived.Test.YtedpdcdmemenhaaDoorSine
import Derived.Test.YtedpdcdmemenhaaDoorElev
import Derived.Test.YtedpdcdmemenhaaDoorElevI
import Derived.Outline
import Derived.Deep.RegionHeld3
import Derived.Deep.DrawnRows
import Derived.Deep.DeepCutAuto
namespace Go.Proofs.YtedpdcdmemenhaaDoor.fnExactElevationOf
open Go.RowKit Go.ChangeShapes Go.WideShapes Go.ChangeAt
set_option linter.unusedVariables false
set_option linter.unusedSimpArgs false

attribute [local go_sem ↓] Go.wp_at_zero Go.wp_at_succ
def elV (st wd ht : Int) (hs cs : List Int) (x y a s t b : Int) : Int := if askV st wd ht hs cs x y a s t b = 0 then elevV (apartV x y s t) (heightB st wd ht hs s t + b - (heightB st wd ht hs x y + a)) else 0
theorem el_no {st wd ht : Int} {hs cs : List Int} {x y a s t b : Int} (h : askV st wd ht hs cs x y a s t b ≠ 0) : elV st wd ht hs cs x y a s t b = 0 := if_neg h
theorem el_yes {st wd ht : Int} {hs cs : List Int} {x y a s t b : Int} (h : askV st wd ht hs cs x y a s t b = 0) : elV st wd ht hs cs x y a s t b = elevV (apartV x y s t) (heightB st wd ht hs s t + b - (heightB st wd ht hs x y + a)) := if_pos h
set_option maxRecDepth 20000 in
set_option maxHeartbeats 4000000 in
theorem spec_any (w : World) (st : Int) (i1 : In64 st) (wd : Int) (i2 : In64 wd) (ht : Int) (i3 : In64 ht) (v : Value) (hs : List Int) (p : Nat) (hr : Row 2 w p v hs) (ihs : ∀ n ∈ hs, In64 n) (u : Value) (cs : List Int) (q : Nat) (hc : Row 2 w q u cs) (ics : ∀ n ∈ cs, In64 n) (x : Int) (ix : In64 x) (y : Int) (iy : In64 y) (a : Int) (ia : In64 a) (s : Int) (is : In64 s) (t : Int) (it : In64 t) (b : Int) (ib : In64 b) :
    Calls Tryd.prog 5 #[.agg #[.int .i64 st, .int .i64 wd, .int .i64 ht, v, u], .agg #[.int .i64 x, .int .i64 y, .int .i64 a], .agg #[.int .i64 s, .int .i64 t, .int .i64 b]] w fun e w' => e = .returned (.tuple #[.int .i64 (elV st wd ht hs cs x y a s t b), .int .i64 (askV st wd ht hs cs x y a s t b)]) ∧ Below w.heap.size w w' := by
  clear i1 i2 i3 ihs ics ix iy ia is it ib
  obtain ⟨W0, hW0⟩ : ∃ W, W = ((w.alloc (.cells #[.int .i64 st, .int .i64 wd, .int .i64 ht, v, u] 32)).alloc (.cells #[.int .i64 x, .int .i64 y, .int .i64 a] 36)).alloc (.cells #[.int .i64 s, .int .i64 t, .int .i64 b] 36) := ⟨_, rfl⟩
  have HW0 := Lib.hid (show Below w.heap.size w W0 by rw [hW0]; repeat (first | (with_reducible exact Below.refl _ _) | (with_reducible assumption) | ((with_reducible refine bl_alloc ?_ _ ?_); (focus ((first | omega | (simp <;> omega)); done))) | ((with_reducible refine bl_set ?_ _ ?_); (focus ((first | omega | (simp <;> omega)); done))) | (with_reducible refine below_drewN ?_ _) | (with_reducible refine Below.drew ?_)))
  have z0 := HW0.out.size
  have e0 : W0.cell? ⟨w.heap.size, 0, none⟩ = some (.int .i64 st) := by rw [hW0]; simp [go_sem]
  have e1 : W0.cell? ⟨w.heap.size, 1, none⟩ = some (.int .i64 wd) := by rw [hW0]; simp [go_sem]
  have e2 : W0.cell? ⟨w.heap.size, 2, none⟩ = some (.int .i64 ht) := by rw [hW0]; simp [go_sem]
  have e3 : W0.cell? ⟨w.heap.size, 3, none⟩ = some (v) := by rw [hW0]; simp [go_sem]
  have e4 : W0.cell? ⟨w.heap.size, 4, none⟩ = some (u) := by rw [hW0]; simp [go_sem]
  have e5 : W0.cell? ⟨w.heap.size + 1, 0, none⟩ = some (.int .i64 x) := by rw [hW0]; simp [go_sem]
  have e6 : W0.cell? ⟨w.heap.size + 1, 1, none⟩ = some (.int .i64 y) := by rw [hW0]; simp [go_sem]
  have e7 : W0.cell? ⟨w.heap.size + 1, 2, none⟩ = some (.int .i64 a) := by rw [hW0]; simp [go_sem]
  have e8 : W0.cell? ⟨w.heap.size + 2, 0, none⟩ = some (.int .i64 s) := by rw [hW0]; simp [go_sem]
  have e9 : W0.cell? ⟨w.heap.size + 2, 1, none⟩ = some (.int .i64 t) := by rw [hW0]; simp [go_sem]
  have e10 : W0.cell? ⟨w.heap.size + 2, 2, none⟩ = some (.int .i64 b) := by rw [hW0]; simp [go_sem]
  have hl0 : w.heap.size + 2 < W0.heap.size := by rw [hW0]; simp
  have HV : Hid (Calls Tryd.prog 11 #[.pointer (some ⟨w.heap.size, 0, none⟩), .agg #[.int .i64 x, .int .i64 y, .int .i64 a], .agg #[.int .i64 s, .int .i64 t, .int .i64 b]] W0 fun e w' => e = .returned (.int .i64 (askV st wd ht hs cs x y a s t b)) ∧ Below W0.heap.size W0 w') := l12Ask_any W0 w.heap.size st wd ht v hs p (hr.later HW0.out) u cs q (hc.later HW0.out) e0 e1 e2 e3 e4 x y a s t b
  by_cases hcode : askV st wd ht hs cs x y a s t b = 0
  rotate_left
  · rw [el_no hcode]
    obtain ⟨C, hC⟩ : ∃ C, C = askV st wd ht hs cs x y a s t b := ⟨_, rfl⟩
    rw [← hC] at HV hcode ⊢
    have n1 : (C == 0) = false := by rw [beq_eq_false_iff_ne]; exact hcode
    have n2 : (C != 0) = true := by rw [bne_iff_ne]; exact hcode
    clear hC hr hc
    go_enter Tryd.func5, Tryd.ntmps5
    (go_upto_region 1 with fail; rw [← hW0]; clear hW0)
    go_wp2_with fail
    refine HV.out.mono ?_
    rintro e w1 ⟨rfl, hb⟩
    have H1 := Lib.hid hb
    have zz1 := H1.out.size
    have f0 := keeps H1.out e0
    have f1 := keeps H1.out e1
    have f2 := keeps H1.out e2
    have f3 := keeps H1.out e3
    have f4 := keeps H1.out e4
    have f5 := keeps H1.out e5
    have f6 := keeps H1.out e6
    have f7 := keeps H1.out e7
    have f8 := keeps H1.out e8
    have f9 := keeps H1.out e9
    have f10 := keeps H1.out e10
    clear hb
    go_wp2_with fail
    go_ret2
    exact ⟨rfl, by repeat (first | (with_reducible exact Below.refl _ _) | (with_reducible assumption) | ((with_reducible refine bl_alloc ?_ _ ?_); (focus ((first | omega | (simp <;> omega)); done))) | ((with_reducible refine bl_set ?_ _ ?_); (focus ((first | omega | (simp <;> omega)); done))) | (with_reducible refine below_drewN ?_ _) | (with_reducible refine Below.drew ?_) | ((with_reducible refine bl_trans ?_ H1.out ?_); (focus ((first | omega | (simp <;> omega)); done))) | ((with_reducible refine bl_trans ?_ HW0.out ?_); (focus ((first | omega | (simp <;> omega)); done))))⟩
  rw [el_yes hcode]
  obtain ⟨h1, h2, h3, h4, h5, _⟩ := ask_yes hcode
  obtain ⟨hz, hl, _, hb⟩ := ter_parts h1
  obtain ⟨⟨x0, x1⟩, ⟨y0, y1⟩⟩ := has_parts h4
  obtain ⟨⟨s0, s1⟩, ⟨t0, t1⟩⟩ := has_parts h5
  obtain ⟨ex, ey, a0, a1⟩ := end_parts h2
  obtain ⟨es, et, b0, b1⟩ := end_parts h3
  obtain ⟨g0, g1, g2, _, _⟩ := size_parts hz
  have n1 := height_bd g0.1 g1.1 g2.1 x0 x1 y0 y1 hl hb
  have n2 := height_bd g0.1 g1.1 g2.1 s0 s1 t0 t1 hl hb
  have n3 := apart_bd ex ey es et
  have HD : Hid (∀ W : World, Below W0.heap.size W0 W → Calls Tryd.prog 13 #[.agg #[.int .i64 x, .int .i64 y], .agg #[.int .i64 s, .int .i64 t]] W fun e w' => e = .returned (.int .i64 (apartV x y s t)) ∧ Below W.heap.size W w') := fun W _ => l03Apart_any W x y s t ex ey es et
  have HA : Hid (∀ W : World, Below W0.heap.size W0 W → Calls Tryd.prog 14 #[.pointer (some ⟨w.heap.size, 0, none⟩), .agg #[.int .i64 x, .int .i64 y, .int .i64 a]] W fun e w' => e = .returned (.int .i64 (heightB st wd ht hs x y + a)) ∧ Below W.heap.size W w') := fun W hW => l12High_any W w.heap.size st wd ht x y a v hs p ((hr.later HW0.out).later hW) hz hl hb x0 x1 y0 y1 a0 a1 (keeps hW e0) (keeps hW e1) (keeps hW e2) (keeps hW e3)
  have HB : Hid (∀ W : World, Below W0.heap.size W0 W → Calls Tryd.prog 14 #[.pointer (some ⟨w.heap.size, 0, none⟩), .agg #[.int .i64 s, .int .i64 t, .int .i64 b]] W fun e w' => e = .returned (.int .i64 (heightB st wd ht hs s t + b)) ∧ Below W.heap.size W w') := fun W hW => l12High_any W w.heap.size st wd ht s t b v hs p ((hr.later HW0.out).later hW) hz hl hb s0 s1 t0 t1 b0 b1 (keeps hW e0) (keeps hW e1) (keeps hW e2) (keeps hW e3)
  obtain ⟨dd, hdd⟩ : ∃ d, d = apartV x y s t := ⟨_, rfl⟩
  obtain ⟨ha, hha⟩ : ∃ d, d = heightB st wd ht hs x y + a := ⟨_, rfl⟩
  obtain ⟨hb2, hhb⟩ : ∃ d, d = heightB st wd ht hs s t + b := ⟨_, rfl⟩
  have m1 : 0 ≤ ha ∧ ha ≤ 93000 := by omega
  have m2 : 0 ≤ hb2 ∧ hb2 ≤ 93000 := by omega
  rw [← hdd] at n3 HD
  rw [← hha] at HA
  rw [← hhb] at HB
  rw [← hdd, ← hha, ← hhb]
  have HE : Hid (∀ W : World, Calls Tryd.prog 12 #[.int .i64 dd, .int .i64 (hb2 - ha)] W fun e w' => e = .returned (.int .i64 (elevV dd (hb2 - ha))) ∧ Below W.heap.size W w') := fun W => l12Elevation_any W dd (hb2 - ha) n3.1 n3.2 (by omega) (by omega)
  obtain ⟨R, hR⟩ : ∃ R, R = elevV dd (hb2 - ha) := ⟨_, rfl⟩
  rw [← hR] at HE ⊢
  rw [hcode] at HV ⊢
  have wv : IntKind.i64.wrap (hb2 - ha) = hb2 - ha := by rw [IntKind.wrap_i64]; omega
  clear hR hcode hdd hha hhb n1 n2 hz hl hb x0 x1 y0 y1 s0 s1 t0 t1 ex ey es et a0 a1 b0 b1 g0 g1 g2 hr hc h1 h2 h3 h4 h5
  go_enter Tryd.func5, Tryd.ntmps5
  (go_upto_region 1 with fail; rw [← hW0]; clear hW0)
  go_wp2_with fail
  refine HV.out.mono ?_
  rintro e w1 ⟨rfl, hb⟩
  have H1 := Lib.hid hb
  have zz1 := H1.out.size
  have f0 := keeps H1.out e0
  have f1 := keeps H1.out e1
  have f2 := keeps H1.out e2
  have f3 := keeps H1.out e3
  have f4 := keeps H1.out e4
  have f5 := keeps H1.out e5
  have f6 := keeps H1.out e6
  have f7 := keeps H1.out e7
  have f8 := keeps H1.out e8
  have f9 := keeps H1.out e9
  have f10 := keeps H1.out e10
  clear hb
  go_wp2_with fail
  go_region_held3 (fun w' => w'.cell? ⟨w.heap.size + 1, 0, none⟩ = some (.int .i64 x) ∧ w'.cell? ⟨w.heap.size + 1, 1, none⟩ = some (.int .i64 y) ∧ w'.cell? ⟨w.heap.size + 1, 2, none⟩ = some (.int .i64 a) ∧ w'.cell? ⟨w.heap.size + 2, 0, none⟩ = some (.int .i64 s) ∧ w'.cell? ⟨w.heap.size + 2, 1, none⟩ = some (.int .i64 t) ∧ w'.cell? ⟨w.heap.size + 2, 2, none⟩ = some (.int .i64 b))
    (((try go_split_ands); (refine ⟨?_, ?_, ?_, ?_, ?_, ?_⟩ <;> (repeat (first | (with_reducible assumption) | (with_reducible refine cell_drew ?_) | (with_reducible refine cell_drewN ?_) | (with_reducible refine keeps hb ?_) | fail)))))
    (first
      | (go_at_call 13; ((with_reducible refine (HD.out _ (by repeat (first | (with_reducible exact Below.refl _ _) | (with_reducible assumption) | ((with_reducible refine bl_alloc ?_ _ ?_); (focus ((first | omega | (simp <;> omega)); done))) | ((with_reducible refine bl_set ?_ _ ?_); (focus ((first | omega | (simp <;> omega)); done))) | (with_reducible refine below_drewN ?_ _) | (with_reducible refine Below.drew ?_) | ((with_reducible refine bl_trans ?_ H1.out ?_); (focus ((first | omega | (simp <;> omega)); done)))))).mono ?_); rintro e w2 ⟨rfl, hb⟩; have H2 := Lib.hid (show Below W0.heap.size W0 w2 by repeat (first | (with_reducible exact Below.refl _ _) | (with_reducible assumption) | ((with_reducible refine bl_alloc ?_ _ ?_); (focus ((first | omega | (simp <;> omega)); done))) | ((with_reducible refine bl_set ?_ _ ?_); (focus ((first | omega | (simp <;> omega)); done))) | (with_reducible refine below_drewN ?_ _) | (with_reducible refine Below.drew ?_) | ((with_reducible refine bl_trans ?_ hb ?_); (focus ((first | omega | (simp <;> omega)); done))) | ((with_reducible refine bl_trans ?_ H1.out ?_); (focus ((first | omega | (simp <;> omega)); done))))); have zz2 := H2.out.size; have f5_2 := keeps hb f5; have f6_2 := keeps hb f6; have f7_2 := keeps hb f7; have f8_2 := keeps hb f8; have f9_2 := keeps hb f9; have f10_2 := keeps hb f10))
      | (go_at_call 14; ((with_reducible refine (HB.out _ (by repeat (first | (with_reducible exact Below.refl _ _) | (with_reducible assumption) | ((with_reducible refine bl_alloc ?_ _ ?_); (focus ((first | omega | (simp <;> omega)); done))) | ((with_reducible refine bl_set ?_ _ ?_); (focus ((first | omega | (simp <;> omega)); done))) | (with_reducible refine below_drewN ?_ _) | (with_reducible refine Below.drew ?_) | ((with_reducible refine bl_trans ?_ H2.out ?_); (focus ((first | omega | (simp <;> omega)); done)))))).mono ?_); rintro e w3 ⟨rfl, hb⟩; have H3 := Lib.hid (show Below W0.heap.size W0 w3 by repeat (first | (with_reducible exact Below.refl _ _) | (with_reducible assumption) | ((with_reducible refine bl_alloc ?_ _ ?_); (focus ((first | omega | (simp <;> omega)); done))) | ((with_reducible refine bl_set ?_ _ ?_); (focus ((first | omega | (simp <;> omega)); done))) | (with_reducible refine below_drewN ?_ _) | (with_reducible refine Below.drew ?_) | ((with_reducible refine bl_trans ?_ hb ?_); (focus ((first | omega | (simp <;> omega)); done))) | ((with_reducible refine bl_trans ?_ H2.out ?_); (focus ((first | omega | (simp <;> omega)); done))))); have zz3 := H3.out.size; have f5_3 := keeps hb f5_2; have f6_3 := keeps hb f6_2; have f7_3 := keeps hb f7_2; have f8_3 := keeps hb f8_2; have f9_3 := keeps hb f9_2; have f10_3 := keeps hb f10_2))
      | (go_at_call 14; ((with_reducible refine (HA.out _ (by repeat (first | (with_reducible exact Below.refl _ _) | (with_reducible assumption) | ((with_reducible refine bl_alloc ?_ _ ?_); (focus ((first | omega | (simp <;> omega)); done))) | ((with_reducible refine bl_set ?_ _ ?_); (focus ((first | omega | (simp <;> omega)); done))) | (with_reducible refine below_drewN ?_ _) | (with_reducible refine Below.drew ?_) | ((with_reducible refine bl_trans ?_ H3.out ?_); (focus ((first | omega | (simp <;> omega)); done)))))).mono ?_); rintro e w4 ⟨rfl, hb⟩; have H4 := Lib.hid (show Below W0.heap.size W0 w4 by repeat (first | (with_reducible exact Below.refl _ _) | (with_reducible assumption) | ((with_reducible refine bl_alloc ?_ _ ?_); (focus ((first | omega | (simp <;> omega)); done))) | ((with_reducible refine bl_set ?_ _ ?_); (focus ((first | omega | (simp <;> omega)); done))) | (with_reducible refine below_drewN ?_ _) | (with_reducible refine Below.drew ?_) | ((with_reducible refine bl_trans ?_ hb ?_); (focus ((first | omega | (simp <;> omega)); done))) | ((with_reducible refine bl_trans ?_ H3.out ?_); (focus ((first | omega | (simp <;> omega)); done))))); have zz4 := H4.out.size; have f5_4 := keeps hb f5_3; have f6_4 := keeps hb f6_3; have f7_4 := keeps hb f7_3; have f8_4 := keeps hb f8_3; have f9_4 := keeps hb f9_3; have f10_4 := keeps hb f10_3))
      | (go_at_call 12; ((with_reducible refine (HE.out _).mono ?_); rintro e w5 ⟨rfl, hb⟩; have H5 := Lib.hid (show Below W0.heap.size W0 w5 by repeat (first | (with_reducible exact Below.refl _ _) | (with_reducible assumption) | ((with_reducible refine bl_alloc ?_ _ ?_); (focus ((first | omega | (simp <;> omega)); done))) | ((with_reducible refine bl_set ?_ _ ?_); (focus ((first | omega | (simp <;> omega)); done))) | (with_reducible refine below_drewN ?_ _) | (with_reducible refine Below.drew ?_) | ((with_reducible refine bl_trans ?_ hb ?_); (focus ((first | omega | (simp <;> omega)); done))) | ((with_reducible refine bl_trans ?_ H4.out ?_); (focus ((first | omega | (simp <;> omega)); done))))))))
  go_wp2_with fail
  go_ret2
  exact ⟨rfl, by repeat (first | (with_reducible exact Below.refl _ _) | (with_reducible assumption) | ((with_reducible refine bl_alloc ?_ _ ?_); (focus ((first | omega | (simp <;> omega)); done))) | ((with_reducible refine bl_set ?_ _ ?_); (focus ((first | omega | (simp <;> omega)); done))) | (with_reducible refine below_drewN ?_ _) | (with_reducible refine Below.drew ?_) | ((with_reducible refine bl_trans ?_ H5.out ?_); (focus ((first | omega | (simp <;> omega)); done))) | ((with_reducible refine bl_trans ?_ HW0.out ?_); (focus ((first | omega | (simp <;> omega)); done))))⟩
set_option maxRecDepth 20000 in
set_option maxHeartbeats 4000000 in
theorem impl_any (w : World) (hT : SineAt w) (st : Int) (i1 : In64 st) (wd : Int) (i2 : In64 wd) (ht : Int) (i3 : In64 ht) (v : Value) (hs : List Int) (p : Nat) (hr : Row 2 w p v hs) (ihs : ∀ n ∈ hs, In64 n) (u : Value) (cs : List Int) (q : Nat) (hc : Row 2 w q u cs) (ics : ∀ n ∈ cs, In64 n) (x : Int) (ix : In64 x) (y : Int) (iy : In64 y) (a : Int) (ia : In64 a) (s : Int) (is : In64 s) (t : Int) (it : In64 t) (b : Int) (ib : In64 b) :
    Calls Tryd.prog 8 #[.agg #[.int .i64 st, .int .i64 wd, .int .i64 ht, v, u], .agg #[.int .i64 x, .int .i64 y, .int .i64 a], .agg #[.int .i64 s, .int .i64 t, .int .i64 b]] w fun e w' => e = .returned (.tuple #[.int .i64 (elV st wd ht hs cs x y a s t b), .int .i64 (askV st wd ht hs cs x y a s t b)]) ∧ Below w.heap.size w w' := by
  clear i1 i2 i3 ihs ics ix iy ia is it ib
  obtain ⟨W0, hW0⟩ : ∃ W, W = ((w.alloc (.cells #[.int .i64 st, .int .i64 wd, .int .i64 ht, v, u] 32)).alloc (.cells #[.int .i64 x, .int .i64 y, .int .i64 a] 36)).alloc (.cells #[.int .i64 s, .int .i64 t, .int .i64 b] 36) := ⟨_, rfl⟩
  have HW0 := Lib.hid (show Below w.heap.size w W0 by rw [hW0]; repeat (first | (with_reducible exact Below.refl _ _) | (with_reducible assumption) | ((with_reducible refine bl_alloc ?_ _ ?_); (focus ((first | omega | (simp <;> omega)); done))) | ((with_reducible refine bl_set ?_ _ ?_); (focus ((first | omega | (simp <;> omega)); done))) | (with_reducible refine below_drewN ?_ _) | (with_reducible refine Below.drew ?_)))
  have z0 := HW0.out.size
  have e0 : W0.cell? ⟨w.heap.size, 0, none⟩ = some (.int .i64 st) := by rw [hW0]; simp [go_sem]
  have e1 : W0.cell? ⟨w.heap.size, 1, none⟩ = some (.int .i64 wd) := by rw [hW0]; simp [go_sem]
  have e2 : W0.cell? ⟨w.heap.size, 2, none⟩ = some (.int .i64 ht) := by rw [hW0]; simp [go_sem]
  have e3 : W0.cell? ⟨w.heap.size, 3, none⟩ = some (v) := by rw [hW0]; simp [go_sem]
  have e4 : W0.cell? ⟨w.heap.size, 4, none⟩ = some (u) := by rw [hW0]; simp [go_sem]
  have e5 : W0.cell? ⟨w.heap.size + 1, 0, none⟩ = some (.int .i64 x) := by rw [hW0]; simp [go_sem]
  have e6 : W0.cell? ⟨w.heap.size + 1, 1, none⟩ = some (.int .i64 y) := by rw [hW0]; simp [go_sem]
  have e7 : W0.cell? ⟨w.heap.size + 1, 2, none⟩ = some (.int .i64 a) := by rw [hW0]; simp [go_sem]
  have e8 : W0.cell? ⟨w.heap.size + 2, 0, none⟩ = some (.int .i64 s) := by rw [hW0]; simp [go_sem]
  have e9 : W0.cell? ⟨w.heap.size + 2, 1, none⟩ = some (.int .i64 t) := by rw [hW0]; simp [go_sem]
  have e10 : W0.cell? ⟨w.heap.size + 2, 2, none⟩ = some (.int .i64 b) := by rw [hW0]; simp [go_sem]
  have hl0 : w.heap.size + 2 < W0.heap.size := by rw [hW0]; simp
  have HV : Hid (∀ (W : World) (o c : Nat), Below w.heap.size w W → W.cell? ⟨o, 0, none⟩ = some (.int .i64 x) → W.cell? ⟨o, 1, none⟩ = some (.int .i64 y) → W.cell? ⟨o, 2, none⟩ = some (.int .i64 a) → W.cell? ⟨o, 3, none⟩ = some (.int .i64 s) → W.cell? ⟨o, 4, none⟩ = some (.int .i64 t) → W.cell? ⟨o, 5, none⟩ = some (.int .i64 b) → Calls Tryd.prog 17 #[.agg #[.int .i64 st, .int .i64 wd, .int .i64 ht, v, u], .int .i64 1, .slice (some ⟨o, 0, none⟩) 2 c] W fun e w' => e = .returned (.int .i64 (endsV st wd ht hs cs [⟨x, y, a⟩, ⟨s, t, b⟩])) ∧ Below W.heap.size W w') := fun W o c hW k0 k1 k2 k3 k4 k5 => endsCode_any W st wd ht v hs p (hr.later hW) u cs q (hc.later hW) o c [⟨x, y, a⟩, ⟨s, t, b⟩] (fun k hk => by
    have hk2 : k = 0 ∨ k = 1 := by simp at hk; omega
    rcases hk2 with rfl | rfl
    · exact ⟨k0, k1, k2⟩
    · exact ⟨k3, k4, k5⟩) (by simp) (block_of_cell k0)
  have HSP := Lib.hid (same_place x y s t)
  obtain ⟨C, hC⟩ : ∃ C, C = endsV st wd ht hs cs [⟨x, y, a⟩, ⟨s, t, b⟩] := ⟨_, rfl⟩
  by_cases hcode : C = 0
  rotate_left
  · have h := ask_of hC.symm hcode
    rw [el_no (by rw [h]; exact hcode), h]
    rw [← hC] at HV
    have n1 : (C == 0) = false := by rw [beq_eq_false_iff_ne]; exact hcode
    have n2 : (C != 0) = true := by rw [bne_iff_ne]; exact hcode
    clear h hC hr hc hT
    go_enter Tryd.func8, Tryd.ntmps8
    (go_upto_region 1 with fail; rw [← hW0]; clear hW0)
    go_wp2_with fail
    refine (HV.out _ _ _ (by repeat (first | (with_reducible exact Below.refl _ _) | (with_reducible assumption) | ((with_reducible refine bl_alloc ?_ _ ?_); (focus ((first | omega | (simp <;> omega)); done))) | ((with_reducible refine bl_set ?_ _ ?_); (focus ((first | omega | (simp <;> omega)); done))) | (with_reducible refine below_drewN ?_ _) | (with_reducible refine Below.drew ?_) | ((with_reducible refine bl_trans ?_ HW0.out ?_); (focus ((first | omega | (simp <;> omega)); done))))) (by simp [go_sem]) (by simp [go_sem]) (by simp [go_sem]) (by simp [go_sem]) (by simp [go_sem]) (by simp [go_sem])).mono ?_
    rintro e w1 ⟨rfl, hb⟩
    have H1 := Lib.hid (show Below W0.heap.size W0 w1 by repeat (first | (with_reducible exact Below.refl _ _) | (with_reducible assumption) | ((with_reducible refine bl_alloc ?_ _ ?_); (focus ((first | omega | (simp <;> omega)); done))) | ((with_reducible refine bl_set ?_ _ ?_); (focus ((first | omega | (simp <;> omega)); done))) | (with_reducible refine below_drewN ?_ _) | (with_reducible refine Below.drew ?_) | ((with_reducible refine bl_trans ?_ hb ?_); (focus ((first | omega | (simp <;> omega)); done)))))
    have zz1 := H1.out.size
    have f0 := keeps H1.out e0
    have f1 := keeps H1.out e1
    have f2 := keeps H1.out e2
    have f3 := keeps H1.out e3
    have f4 := keeps H1.out e4
    have f5 := keeps H1.out e5
    have f6 := keeps H1.out e6
    have f7 := keeps H1.out e7
    have f8 := keeps H1.out e8
    have f9 := keeps H1.out e9
    have f10 := keeps H1.out e10
    clear hb
    go_wp2_with fail
    go_ret2
    exact ⟨rfl, by repeat (first | (with_reducible exact Below.refl _ _) | (with_reducible assumption) | ((with_reducible refine bl_alloc ?_ _ ?_); (focus ((first | omega | (simp <;> omega)); done))) | ((with_reducible refine bl_set ?_ _ ?_); (focus ((first | omega | (simp <;> omega)); done))) | (with_reducible refine below_drewN ?_ _) | (with_reducible refine Below.drew ?_) | ((with_reducible refine bl_trans ?_ H1.out ?_); (focus ((first | omega | (simp <;> omega)); done))) | ((with_reducible refine bl_trans ?_ HW0.out ?_); (focus ((first | omega | (simp <;> omega)); done))))⟩
  rw [hcode] at hC
  by_cases hp : x = s ∧ y = t
  · have h := ask_6 hC.symm hp
    rw [el_no (by rw [h]; decide), h]
    rw [← hC] at HV
    clear h hC hr hc hT
    have hq : ((x == s) && (y == t)) = true := by rw [HSP.out]; exact decide_eq_true hp
    have hx : x = s := hp.1
    have hy : y = t := hp.2
    clear hp
    subst hx hy
    go_enter Tryd.func8, Tryd.ntmps8
    (go_upto_region 1 with fail; rw [← hW0]; clear hW0)
    go_wp2_with fail
    refine (HV.out _ _ _ (by repeat (first | (with_reducible exact Below.refl _ _) | (with_reducible assumption) | ((with_reducible refine bl_alloc ?_ _ ?_); (focus ((first | omega | (simp <;> omega)); done))) | ((with_reducible refine bl_set ?_ _ ?_); (focus ((first | omega | (simp <;> omega)); done))) | (with_reducible refine below_drewN ?_ _) | (with_reducible refine Below.drew ?_) | ((with_reducible refine bl_trans ?_ HW0.out ?_); (focus ((first | omega | (simp <;> omega)); done))))) (by simp [go_sem]) (by simp [go_sem]) (by simp [go_sem]) (by simp [go_sem]) (by simp [go_sem]) (by simp [go_sem])).mono ?_
    rintro e w1 ⟨rfl, hb⟩
    have H1 := Lib.hid (show Below W0.heap.size W0 w1 by repeat (first | (with_reducible exact Below.refl _ _) | (with_reducible assumption) | ((with_reducible refine bl_alloc ?_ _ ?_); (focus ((first | omega | (simp <;> omega)); done))) | ((with_reducible refine bl_set ?_ _ ?_); (focus ((first | omega | (simp <;> omega)); done))) | (with_reducible refine below_drewN ?_ _) | (with_reducible refine Below.drew ?_) | ((with_reducible refine bl_trans ?_ hb ?_); (focus ((first | omega | (simp <;> omega)); done)))))
    have zz1 := H1.out.size
    have f0 := keeps H1.out e0
    have f1 := keeps H1.out e1
    have f2 := keeps H1.out e2
    have f3 := keeps H1.out e3
    have f4 := keeps H1.out e4
    have f5 := keeps H1.out e5
    have f6 := keeps H1.out e6
    have f7 := keeps H1.out e7
    have f8 := keeps H1.out e8
    have f9 := keeps H1.out e9
    have f10 := keeps H1.out e10
    clear hb
    go_wp2_with fail
    go_ret2
    exact ⟨rfl, by repeat (first | (with_reducible exact Below.refl _ _) | (with_reducible assumption) | ((with_reducible refine bl_alloc ?_ _ ?_); (focus ((first | omega | (simp <;> omega)); done))) | ((with_reducible refine bl_set ?_ _ ?_); (focus ((first | omega | (simp <;> omega)); done))) | (with_reducible refine below_drewN ?_ _) | (with_reducible refine Below.drew ?_) | ((with_reducible refine bl_trans ?_ H1.out ?_); (focus ((first | omega | (simp <;> omega)); done))) | ((with_reducible refine bl_trans ?_ HW0.out ?_); (focus ((first | omega | (simp <;> omega)); done))))⟩
  have h := ask_0 hC.symm hp
  rw [el_yes h]
  obtain ⟨h1, h2, h3, h4, h5, _⟩ := ask_yes h
  rw [h]
  have HL : Hid (∀ W : World, Below w.heap.size w W → Calls Tryd.prog 18 #[.agg #[.int .i64 st, .int .i64 wd, .int .i64 ht, v, u], .agg #[.int .i64 x, .int .i64 y, .int .i64 a], .agg #[.int .i64 s, .int .i64 t, .int .i64 b]] W fun e w' => e = .returned (.int .i64 (elevV (apartV x y s t) (heightB st wd ht hs s t + b - (heightB st wd ht hs x y + a)))) ∧ Below W.heap.size W w') := fun W hW => elevation_any W (hT.later hW) st wd ht v u hs cs p (hr.later hW) x y a s t b h1 h2 h3 h4 h5
  obtain ⟨R, hR⟩ : ∃ R, R = elevV (apartV x y s t) (heightB st wd ht hs s t + b - (heightB st wd ht hs x y + a)) := ⟨_, rfl⟩
  rw [← hR] at HL ⊢
  rw [← hC] at HV
  clear hR h hC hr hc hT h1 h2 h3 h4 h5 HSP
  by_cases hx : x = s
  · have hy : ¬ y = t := fun h => hp ⟨hx, h⟩
    subst hx
    have hq : (y == t) = false := by rw [beq_eq_false_iff_ne]; exact hy
    clear hp
    go_enter Tryd.func8, Tryd.ntmps8
    (go_upto_region 1 with fail; rw [← hW0]; clear hW0)
    go_wp2_with fail
    refine (HV.out _ _ _ (by repeat (first | (with_reducible exact Below.refl _ _) | (with_reducible assumption) | ((with_reducible refine bl_alloc ?_ _ ?_); (focus ((first | omega | (simp <;> omega)); done))) | ((with_reducible refine bl_set ?_ _ ?_); (focus ((first | omega | (simp <;> omega)); done))) | (with_reducible refine below_drewN ?_ _) | (with_reducible refine Below.drew ?_) | ((with_reducible refine bl_trans ?_ HW0.out ?_); (focus ((first | omega | (simp <;> omega)); done))))) (by simp [go_sem]) (by simp [go_sem]) (by simp [go_sem]) (by simp [go_sem]) (by simp [go_sem]) (by simp [go_sem])).mono ?_
    rintro e w1 ⟨rfl, hb⟩
    have H1 := Lib.hid (show Below W0.heap.size W0 w1 by repeat (first | (with_reducible exact Below.refl _ _) | (with_reducible assumption) | ((with_reducible refine bl_alloc ?_ _ ?_); (focus ((first | omega | (simp <;> omega)); done))) | ((with_reducible refine bl_set ?_ _ ?_); (focus ((first | omega | (simp <;> omega)); done))) | (with_reducible refine below_drewN ?_ _) | (with_reducible refine Below.drew ?_) | ((with_reducible refine bl_trans ?_ hb ?_); (focus ((first | omega | (simp <;> omega)); done)))))
    have zz1 := H1.out.size
    have f0 := keeps H1.out e0
    have f1 := keeps H1.out e1
    have f2 := keeps H1.out e2
    have f3 := keeps H1.out e3
    have f4 := keeps H1.out e4
    have f5 := keeps H1.out e5
    have f6 := keeps H1.out e6
    have f7 := keeps H1.out e7
    have f8 := keeps H1.out e8
    have f9 := keeps H1.out e9
    have f10 := keeps H1.out e10
    clear hb
    go_wp2_with fail
    refine (HL.out _ (by repeat (first | (with_reducible exact Below.refl _ _) | (with_reducible assumption) | ((with_reducible refine bl_alloc ?_ _ ?_); (focus ((first | omega | (simp <;> omega)); done))) | ((with_reducible refine bl_set ?_ _ ?_); (focus ((first | omega | (simp <;> omega)); done))) | (with_reducible refine below_drewN ?_ _) | (with_reducible refine Below.drew ?_) | ((with_reducible refine bl_trans ?_ H1.out ?_); (focus ((first | omega | (simp <;> omega)); done))) | ((with_reducible refine bl_trans ?_ HW0.out ?_); (focus ((first | omega | (simp <;> omega)); done)))))).mono ?_
    rintro e w2 ⟨rfl, hb⟩
    have H2 := Lib.hid (show Below W0.heap.size W0 w2 by repeat (first | (with_reducible exact Below.refl _ _) | (with_reducible assumption) | ((with_reducible refine bl_alloc ?_ _ ?_); (focus ((first | omega | (simp <;> omega)); done))) | ((with_reducible refine bl_set ?_ _ ?_); (focus ((first | omega | (simp <;> omega)); done))) | (with_reducible refine below_drewN ?_ _) | (with_reducible refine Below.drew ?_) | ((with_reducible refine bl_trans ?_ hb ?_); (focus ((first | omega | (simp <;> omega)); done))) | ((with_reducible refine bl_trans ?_ H1.out ?_); (focus ((first | omega | (simp <;> omega)); done)))))
    clear hb
    go_wp2_with fail
    go_ret2
    exact ⟨rfl, by repeat (first | (with_reducible exact Below.refl _ _) | (with_reducible assumption) | ((with_reducible refine bl_alloc ?_ _ ?_); (focus ((first | omega | (simp <;> omega)); done))) | ((with_reducible refine bl_set ?_ _ ?_); (focus ((first | omega | (simp <;> omega)); done))) | (with_reducible refine below_drewN ?_ _) | (with_reducible refine Below.drew ?_) | ((with_reducible refine bl_trans ?_ H2.out ?_); (focus ((first | omega | (simp <;> omega)); done))) | ((with_reducible refine bl_trans ?_ HW0.out ?_); (focus ((first | omega | (simp <;> omega)); done))))⟩
  have hq : (x == s) = false := by rw [beq_eq_false_iff_ne]; exact hx
  clear hp
  go_enter Tryd.func8, Tryd.ntmps8
  (go_upto_region 1 with fail; rw [← hW0]; clear hW0)
  go_wp2_with fail
  refine (HV.out _ _ _ (by repeat (first | (with_reducible exact Below.refl _ _) | (with_reducible assumption) | ((with_reducible refine bl_alloc ?_ _ ?_); (focus ((first | omega | (simp <;> omega)); done))) | ((with_reducible refine bl_set ?_ _ ?_); (focus ((first | omega | (simp <;> omega)); done))) | (with_reducible refine below_drewN ?_ _) | (with_reducible refine Below.drew ?_) | ((with_reducible refine bl_trans ?_ HW0.out ?_); (focus ((first | omega | (simp <;> omega)); done))))) (by simp [go_sem]) (by simp [go_sem]) (by simp [go_sem]) (by simp [go_sem]) (by simp [go_sem]) (by simp [go_sem])).mono ?_
  rintro e w1 ⟨rfl, hb⟩
  have H1 := Lib.hid (show Below W0.heap.size W0 w1 by repeat (first | (with_reducible exact Below.refl _ _) | (with_reducible assumption) | ((with_reducible refine bl_alloc ?_ _ ?_); (focus ((first | omega | (simp <;> omega)); done))) | ((with_reducible refine bl_set ?_ _ ?_); (focus ((first | omega | (simp <;> omega)); done))) | (with_reducible refine below_drewN ?_ _) | (with_reducible refine Below.drew ?_) | ((with_reducible refine bl_trans ?_ hb ?_); (focus ((first | omega | (simp <;> omega)); done)))))
  have zz1 := H1.out.size
  have f0 := keeps H1.out e0
  have f1 := keeps H1.out e1
  have f2 := keeps H1.out e2
  have f3 := keeps H1.out e3
  have f4 := keeps H1.out e4
  have f5 := keeps H1.out e5
  have f6 := keeps H1.out e6
  have f7 := keeps H1.out e7
  have f8 := keeps H1.out e8
  have f9 := keeps H1.out e9
  have f10 := keeps H1.out e10
  clear hb
  go_wp2_with fail
  refine (HL.out _ (by repeat (first | (with_reducible exact Below.refl _ _) | (with_reducible assumption) | ((with_reducible refine bl_alloc ?_ _ ?_); (focus ((first | omega | (simp <;> omega)); done))) | ((with_reducible refine bl_set ?_ _ ?_); (focus ((first | omega | (simp <;> omega)); done))) | (with_reducible refine below_drewN ?_ _) | (with_reducible refine Below.drew ?_) | ((with_reducible refine bl_trans ?_ H1.out ?_); (focus ((first | omega | (simp <;> omega)); done))) | ((with_reducible refine bl_trans ?_ HW0.out ?_); (focus ((first | omega | (simp <;> omega)); done)))))).mono ?_
  rintro e w2 ⟨rfl, hb⟩
  have H2 := Lib.hid (show Below W0.heap.size W0 w2 by repeat (first | (with_reducible exact Below.refl _ _) | (with_reducible assumption) | ((with_reducible refine bl_alloc ?_ _ ?_); (focus ((first | omega | (simp <;> omega)); done))) | ((with_reducible refine bl_set ?_ _ ?_); (focus ((first | omega | (simp <;> omega)); done))) | (with_reducible refine below_drewN ?_ _) | (with_reducible refine Below.drew ?_) | ((with_reducible refine bl_trans ?_ hb ?_); (focus ((first | omega | (simp <;> omega)); done))) | ((with_reducible refine bl_trans ?_ H1.out ?_); (focus ((first | omega | (simp <;> omega)); done)))))
  clear hb
  go_wp2_with fail
  go_ret2
  exact ⟨rfl, by repeat (first | (with_reducible exact Below.refl _ _) | (with_reducible assumption) | ((with_reducible refine bl_alloc ?_ _ ?_); (focus ((first | omega | (simp <;> omega)); done))) | ((with_reducible refine bl_set ?_ _ ?_); (focus ((first | omega | (simp <;> omega)); done))) | (with_reducible refine below_drewN ?_ _) | (with_reducible refine Below.drew ?_) | ((with_reducible refine bl_trans ?_ H2.out ?_); (focus ((first | omega | (simp <;> omega)); done))) | ((with_reducible refine bl_trans ?_ HW0.out ?_); (focus ((first | omega | (simp <;> omega)); done))))⟩
set_option maxRecDepth 20000 in
set_option maxHeartbeats 4000000 in
theorem walk (w : World) (hT : SineAt w) (a0_0 : Int) (ia0_0 : In64 a0_0) (a0_1 : Int) (ia0_1 : In64 a0_1) (a0_2 : Int) (ia0_2 : In64 a0_2) (v0_3 : Value) (x0_3 : List Int) (r0_3 : Rd w w.heap.size v0_3 x0_3) (ix0_3 : ∀ n ∈ x0_3, In64 n) (v0_4 : Value) (x0_4 : List Int) (r0_4 : Rd w w.heap.size v0_4 x0_4) (ix0_4 : ∀ n ∈ x0_4, In64 n) (a1_0_0 : Int) (ia1_0_0 : In64 a1_0_0) (a1_0_1 : Int) (ia1_0_1 : In64 a1_0_1) (a1_1 : Int) (ia1_1 : In64 a1_1) (a2_0_0 : Int) (ia2_0_0 : In64 a2_0_0) (a2_0_1 : Int) (ia2_0_1 : In64 a2_0_1) (a2_1 : Int) (ia2_1 : In64 a2_1) :
    Calls Tryd.prog 3 #[.agg #[.int .i64 a0_0, .int .i64 a0_1, .int .i64 a0_2, v0_3, v0_4], .agg #[.int .i64 a1_0_0, .int .i64 a1_0_1, .int .i64 a1_1], .agg #[.int .i64 a2_0_0, .int .i64 a2_0_1, .int .i64 a2_1]] w fun e w' => e = .returned (.bool true) ∧ Below w.heap.size w w' := by
  have HTab := Lib.hid hT
  clear hT
  by_cases hs0 : ¬ (x0_3.length : Int) + (x0_4.length : Int) ≤ 1048576
  · go_enter Tryd.func3, Tryd.ntmps3
    go_wp2_with fail
    refine (szTerrain_not a0_0 a0_1 a0_2 _ x0_3 _ x0_4 _ w.heap.size (by first | omega | (simp <;> omega)) (Rd.below r0_3 (by repeat (first | (with_reducible exact Below.refl _ _) | (with_reducible assumption) | ((with_reducible refine bl_alloc ?_ _ ?_); (focus ((first | omega | (simp <;> omega)); done))) | ((with_reducible refine bl_set ?_ _ ?_); (focus ((first | omega | (simp <;> omega)); done))) | (with_reducible refine below_drewN ?_ _) | (with_reducible refine Below.drew ?_)))) (Rd.below r0_4 (by repeat (first | (with_reducible exact Below.refl _ _) | (with_reducible assumption) | ((with_reducible refine bl_alloc ?_ _ ?_); (focus ((first | omega | (simp <;> omega)); done))) | ((with_reducible refine bl_set ?_ _ ?_); (focus ((first | omega | (simp <;> omega)); done))) | (with_reducible refine below_drewN ?_ _) | (with_reducible refine Below.drew ?_))))  _ (by omega) (by omega) (by omega)).mono ?_
    rintro e w1 ⟨rfl, hb⟩
    have zz1 : w.heap.size + 1 + 1 + 1 ≤ w1.heap.size := (by have := hb.size; ((try simp at this) <;> omega))
    have H1 := Lib.hid (show Below w.heap.size w w1 by repeat (first | (with_reducible exact Below.refl _ _) | (with_reducible assumption) | ((with_reducible refine bl_alloc ?_ _ ?_); (focus ((first | omega | (simp <;> omega)); done))) | ((with_reducible refine bl_set ?_ _ ?_); (focus ((first | omega | (simp <;> omega)); done))) | (with_reducible refine below_drewN ?_ _) | (with_reducible refine Below.drew ?_) | ((with_reducible refine bl_trans ?_ hb ?_); (focus ((first | omega | (simp <;> omega)); done)))))
    have f0_0_1 := keeps hb (p := ⟨w.heap.size, 0, none⟩) (v := .int .i64 a0_0) (by simp [go_sem])
    have f0_1_1 := keeps hb (p := ⟨w.heap.size, 1, none⟩) (v := .int .i64 a0_1) (by simp [go_sem])
    have f0_2_1 := keeps hb (p := ⟨w.heap.size, 2, none⟩) (v := .int .i64 a0_2) (by simp [go_sem])
    have f0_3_1 := keeps hb (p := ⟨w.heap.size, 3, none⟩) (v := v0_3) (by simp [go_sem])
    have f0_4_1 := keeps hb (p := ⟨w.heap.size, 4, none⟩) (v := v0_4) (by simp [go_sem])
    have g0_1 : w.heap.size < w1.heap.size := block_of_cell f0_0_1
    have f1_0_1 := keeps hb (p := ⟨w.heap.size + 1, 0, none⟩) (v := .int .i64 a1_0_0) (by simp [go_sem])
    have f1_1_1 := keeps hb (p := ⟨w.heap.size + 1, 1, none⟩) (v := .int .i64 a1_0_1) (by simp [go_sem])
    have f1_2_1 := keeps hb (p := ⟨w.heap.size + 1, 2, none⟩) (v := .int .i64 a1_1) (by simp [go_sem])
    have g1_1 : w.heap.size + 1 < w1.heap.size := block_of_cell f1_0_1
    have f2_0_1 := keeps hb (p := ⟨w.heap.size + 1 + 1, 0, none⟩) (v := .int .i64 a2_0_0) (by simp [go_sem])
    have f2_1_1 := keeps hb (p := ⟨w.heap.size + 1 + 1, 1, none⟩) (v := .int .i64 a2_0_1) (by simp [go_sem])
    have f2_2_1 := keeps hb (p := ⟨w.heap.size + 1 + 1, 2, none⟩) (v := .int .i64 a2_1) (by simp [go_sem])
    have g2_1 : w.heap.size + 1 + 1 < w1.heap.size := block_of_cell f2_0_1
    clear hb
    go_wp2_with fail
    go_ret
    exact ⟨rfl, (by repeat (first | (with_reducible exact Below.refl _ _) | (with_reducible assumption) | ((with_reducible refine bl_alloc ?_ _ ?_); (focus ((first | omega | (simp <;> omega)); done))) | ((with_reducible refine bl_set ?_ _ ?_); (focus ((first | omega | (simp <;> omega)); done))) | (with_reducible refine below_drewN ?_ _) | (with_reducible refine Below.drew ?_) | ((with_reducible refine bl_trans ?_ H1.out ?_); (focus ((first | omega | (simp <;> omega)); done)))))⟩
  have hs0' : (x0_3.length : Int) + (x0_4.length : Int) ≤ 1048576 := by omega
  clear hs0
  go_enter Tryd.func3, Tryd.ntmps3
  go_wp2_with fail
  refine (szTerrain_fits a0_0 a0_1 a0_2 _ x0_3 _ x0_4 _ w.heap.size (by first | omega | (simp <;> omega)) (Rd.below r0_3 (by repeat (first | (with_reducible exact Below.refl _ _) | (with_reducible assumption) | ((with_reducible refine bl_alloc ?_ _ ?_); (focus ((first | omega | (simp <;> omega)); done))) | ((with_reducible refine bl_set ?_ _ ?_); (focus ((first | omega | (simp <;> omega)); done))) | (with_reducible refine below_drewN ?_ _) | (with_reducible refine Below.drew ?_)))) (Rd.below r0_4 (by repeat (first | (with_reducible exact Below.refl _ _) | (with_reducible assumption) | ((with_reducible refine bl_alloc ?_ _ ?_); (focus ((first | omega | (simp <;> omega)); done))) | ((with_reducible refine bl_set ?_ _ ?_); (focus ((first | omega | (simp <;> omega)); done))) | (with_reducible refine below_drewN ?_ _) | (with_reducible refine Below.drew ?_))))  _ (by omega) (by omega)).mono ?_
  rintro e w1 ⟨rfl, hb⟩
  have zz1 : w.heap.size + 1 + 1 + 1 ≤ w1.heap.size := (by have := hb.size; ((try simp at this) <;> omega))
  have H1 := Lib.hid (show Below w.heap.size w w1 by repeat (first | (with_reducible exact Below.refl _ _) | (with_reducible assumption) | ((with_reducible refine bl_alloc ?_ _ ?_); (focus ((first | omega | (simp <;> omega)); done))) | ((with_reducible refine bl_set ?_ _ ?_); (focus ((first | omega | (simp <;> omega)); done))) | (with_reducible refine below_drewN ?_ _) | (with_reducible refine Below.drew ?_) | ((with_reducible refine bl_trans ?_ hb ?_); (focus ((first | omega | (simp <;> omega)); done)))))
  have f0_0_1 := keeps hb (p := ⟨w.heap.size, 0, none⟩) (v := .int .i64 a0_0) (by simp [go_sem])
  have f0_1_1 := keeps hb (p := ⟨w.heap.size, 1, none⟩) (v := .int .i64 a0_1) (by simp [go_sem])
  have f0_2_1 := keeps hb (p := ⟨w.heap.size, 2, none⟩) (v := .int .i64 a0_2) (by simp [go_sem])
  have f0_3_1 := keeps hb (p := ⟨w.heap.size, 3, none⟩) (v := v0_3) (by simp [go_sem])
  have f0_4_1 := keeps hb (p := ⟨w.heap.size, 4, none⟩) (v := v0_4) (by simp [go_sem])
  have g0_1 : w.heap.size < w1.heap.size := block_of_cell f0_0_1
  have f1_0_1 := keeps hb (p := ⟨w.heap.size + 1, 0, none⟩) (v := .int .i64 a1_0_0) (by simp [go_sem])
  have f1_1_1 := keeps hb (p := ⟨w.heap.size + 1, 1, none⟩) (v := .int .i64 a1_0_1) (by simp [go_sem])
  have f1_2_1 := keeps hb (p := ⟨w.heap.size + 1, 2, none⟩) (v := .int .i64 a1_1) (by simp [go_sem])
  have g1_1 : w.heap.size + 1 < w1.heap.size := block_of_cell f1_0_1
  have f2_0_1 := keeps hb (p := ⟨w.heap.size + 1 + 1, 0, none⟩) (v := .int .i64 a2_0_0) (by simp [go_sem])
  have f2_1_1 := keeps hb (p := ⟨w.heap.size + 1 + 1, 1, none⟩) (v := .int .i64 a2_0_1) (by simp [go_sem])
  have f2_2_1 := keeps hb (p := ⟨w.heap.size + 1 + 1, 2, none⟩) (v := .int .i64 a2_1) (by simp [go_sem])
  have g2_1 : w.heap.size + 1 + 1 < w1.heap.size := block_of_cell f2_0_1
  clear hb
  go_wp2_with fail
  go_region_held3 (fun w' => w'.cell? ⟨w.heap.size, 0, none⟩ = some (.int .i64 a0_0) ∧ w'.cell? ⟨w.heap.size, 1, none⟩ = some (.int .i64 a0_1) ∧ w'.cell? ⟨w.heap.size, 2, none⟩ = some (.int .i64 a0_2) ∧ w'.cell? ⟨w.heap.size, 3, none⟩ = some (v0_3) ∧ w'.cell? ⟨w.heap.size, 4, none⟩ = some (v0_4) ∧ w'.cell? ⟨w.heap.size + 1, 0, none⟩ = some (.int .i64 a1_0_0) ∧ w'.cell? ⟨w.heap.size + 1, 1, none⟩ = some (.int .i64 a1_0_1) ∧ w'.cell? ⟨w.heap.size + 1, 2, none⟩ = some (.int .i64 a1_1) ∧ w'.cell? ⟨w.heap.size + 1 + 1, 0, none⟩ = some (.int .i64 a2_0_0) ∧ w'.cell? ⟨w.heap.size + 1 + 1, 1, none⟩ = some (.int .i64 a2_0_1) ∧ w'.cell? ⟨w.heap.size + 1 + 1, 2, none⟩ = some (.int .i64 a2_1))
    (first | (refine ⟨?_, ?_, ?_, ?_, ?_, ?_, ?_, ?_, ?_, ?_, ?_⟩ <;> assumption) | (go_split_ands; (refine ⟨?_, ?_, ?_, ?_, ?_, ?_, ?_, ?_, ?_, ?_, ?_⟩ <;> first | assumption | (refine keeps hb ?_; assumption))))
    (first
      | (go_at_call 6; ((with_reducible refine (toTerrain_any a0_0 a0_1 a0_2 v0_3 x0_3 v0_4 x0_4 _ w.heap.size (by first | omega | (simp <;> omega)) (Rd.below r0_3 (by repeat (first | (with_reducible exact Below.refl _ _) | (with_reducible assumption) | ((with_reducible refine bl_alloc ?_ _ ?_); (focus ((first | omega | (simp <;> omega)); done))) | ((with_reducible refine bl_set ?_ _ ?_); (focus ((first | omega | (simp <;> omega)); done))) | (with_reducible refine below_drewN ?_ _) | (with_reducible refine Below.drew ?_) | ((with_reducible refine bl_trans ?_ H1.out ?_); (focus ((first | omega | (simp <;> omega)); done)))))) (by omega) (Rd.below r0_4 (by repeat (first | (with_reducible exact Below.refl _ _) | (with_reducible assumption) | ((with_reducible refine bl_alloc ?_ _ ?_); (focus ((first | omega | (simp <;> omega)); done))) | ((with_reducible refine bl_set ?_ _ ?_); (focus ((first | omega | (simp <;> omega)); done))) | (with_reducible refine below_drewN ?_ _) | (with_reducible refine Below.drew ?_) | ((with_reducible refine bl_trans ?_ H1.out ?_); (focus ((first | omega | (simp <;> omega)); done)))))) (by omega)).mono ?_); rintro e w2 ⟨A0, n0, c0, A1, n1, c1, rfl, hr0, hr1, ha0_1, hb⟩; have zz2 : w1.heap.size ≤ w2.heap.size := (by have := hb.size; ((try simp at this) <;> omega)); have H2 := Lib.hid (show Below w.heap.size w w2 by repeat (first | (with_reducible exact Below.refl _ _) | (with_reducible assumption) | ((with_reducible refine bl_alloc ?_ _ ?_); (focus ((first | omega | (simp <;> omega)); done))) | ((with_reducible refine bl_set ?_ _ ?_); (focus ((first | omega | (simp <;> omega)); done))) | (with_reducible refine below_drewN ?_ _) | (with_reducible refine Below.drew ?_) | ((with_reducible refine bl_trans ?_ hb ?_); (focus ((first | omega | (simp <;> omega)); done))) | ((with_reducible refine bl_trans ?_ H1.out ?_); (focus ((first | omega | (simp <;> omega)); done))))); have f0_0_2 := keeps1 hb f0_0_1; have f0_1_2 := keeps1 hb f0_1_1; have f0_2_2 := keeps1 hb f0_2_1; have f0_3_2 := keeps1 hb f0_3_1; have f0_4_2 := keeps1 hb f0_4_1; have g0_2 : w.heap.size < w2.heap.size := block_of_cell f0_0_2; have f1_0_2 := keeps1 hb f1_0_1; have f1_1_2 := keeps1 hb f1_1_1; have f1_2_2 := keeps1 hb f1_2_1; have g1_2 : w.heap.size + 1 < w2.heap.size := block_of_cell f1_0_2; have f2_0_2 := keeps1 hb f2_0_1; have f2_1_2 := keeps1 hb f2_1_1; have f2_2_2 := keeps1 hb f2_2_1; have g2_2 : w.heap.size + 1 + 1 < w2.heap.size := block_of_cell f2_0_2; have R0_2 := Lib.hid hr0; have RL0 := Lib.hid (show ∀ g, Value.ownBlock (.slice A0 n0 c0) = some g → w1.heap.size ≤ g ∧ g < w2.heap.size from fun g h => by have l1 := hr0.lt g h; ((try simp at l1) <;> omega)); have RA0_1 := Lib.hid ha0_1; have R1_2 := Lib.hid hr1; have RL1 := Lib.hid (show ∀ g, Value.ownBlock (.slice A1 n1 c1) = some g → w1.heap.size ≤ g ∧ g < w2.heap.size from fun g h => by have l1 := hr1.lt g h; ((try simp at l1) <;> omega)); clear f0_0_1 f0_1_1 f0_2_1 f0_3_1 f0_4_1 g0_1 f1_0_1 f1_1_1 f1_2_1 g1_1 f2_0_1 f2_1_1 f2_2_1 g2_1 hr0 ha0_1 hr1 H1))
      | (go_at_call 7; ((with_reducible refine (toEnd_any a1_0_0 a1_0_1 a1_1 _).mono ?_); rintro e w3 ⟨rfl, hb⟩; have zz3 : w2.heap.size ≤ w3.heap.size := (by have := hb.size; ((try simp at this) <;> omega)); have H3 := Lib.hid (show Below w.heap.size w w3 by repeat (first | (with_reducible exact Below.refl _ _) | (with_reducible assumption) | ((with_reducible refine bl_alloc ?_ _ ?_); (focus ((first | omega | (simp <;> omega)); done))) | ((with_reducible refine bl_set ?_ _ ?_); (focus ((first | omega | (simp <;> omega)); done))) | (with_reducible refine below_drewN ?_ _) | (with_reducible refine Below.drew ?_) | ((with_reducible refine bl_trans ?_ hb ?_); (focus ((first | omega | (simp <;> omega)); done))) | ((with_reducible refine bl_trans ?_ H2.out ?_); (focus ((first | omega | (simp <;> omega)); done))))); have f0_0_3 := keeps hb f0_0_2; have f0_1_3 := keeps hb f0_1_2; have f0_2_3 := keeps hb f0_2_2; have f0_3_3 := keeps hb f0_3_2; have f0_4_3 := keeps hb f0_4_2; have g0_3 : w.heap.size < w3.heap.size := block_of_cell f0_0_3; have f1_0_3 := keeps hb f1_0_2; have f1_1_3 := keeps hb f1_1_2; have f1_2_3 := keeps hb f1_2_2; have g1_3 : w.heap.size + 1 < w3.heap.size := block_of_cell f1_0_3; have f2_0_3 := keeps hb f2_0_2; have f2_1_3 := keeps hb f2_1_2; have f2_2_3 := keeps hb f2_2_2; have g2_3 : w.heap.size + 1 + 1 < w3.heap.size := block_of_cell f2_0_3; have R0_3 := Lib.hid (Row.later R0_2.out hb); have R1_3 := Lib.hid (Row.later R1_2.out hb); clear f0_0_2 f0_1_2 f0_2_2 f0_3_2 f0_4_2 g0_2 f1_0_2 f1_1_2 f1_2_2 g1_2 f2_0_2 f2_1_2 f2_2_2 g2_2 R0_2 R1_2 H2))
      | (go_at_call 7; ((with_reducible refine (toEnd_any a2_0_0 a2_0_1 a2_1 _).mono ?_); rintro e w4 ⟨rfl, hb⟩; have zz4 : w3.heap.size ≤ w4.heap.size := (by have := hb.size; ((try simp at this) <;> omega)); have H4 := Lib.hid (show Below w.heap.size w w4 by repeat (first | (with_reducible exact Below.refl _ _) | (with_reducible assumption) | ((with_reducible refine bl_alloc ?_ _ ?_); (focus ((first | omega | (simp <;> omega)); done))) | ((with_reducible refine bl_set ?_ _ ?_); (focus ((first | omega | (simp <;> omega)); done))) | (with_reducible refine below_drewN ?_ _) | (with_reducible refine Below.drew ?_) | ((with_reducible refine bl_trans ?_ hb ?_); (focus ((first | omega | (simp <;> omega)); done))) | ((with_reducible refine bl_trans ?_ H3.out ?_); (focus ((first | omega | (simp <;> omega)); done))))); have f0_0_4 := keeps hb f0_0_3; have f0_1_4 := keeps hb f0_1_3; have f0_2_4 := keeps hb f0_2_3; have f0_3_4 := keeps hb f0_3_3; have f0_4_4 := keeps hb f0_4_3; have g0_4 : w.heap.size < w4.heap.size := block_of_cell f0_0_4; have f1_0_4 := keeps hb f1_0_3; have f1_1_4 := keeps hb f1_1_3; have f1_2_4 := keeps hb f1_2_3; have g1_4 : w.heap.size + 1 < w4.heap.size := block_of_cell f1_0_4; have f2_0_4 := keeps hb f2_0_3; have f2_1_4 := keeps hb f2_1_3; have f2_2_4 := keeps hb f2_2_3; have g2_4 : w.heap.size + 1 + 1 < w4.heap.size := block_of_cell f2_0_4; have R0_4 := Lib.hid (Row.later R0_3.out hb); have R1_4 := Lib.hid (Row.later R1_3.out hb); clear f0_0_3 f0_1_3 f0_2_3 f0_3_3 f0_4_3 g0_3 f1_0_3 f1_1_3 f1_2_3 g1_3 f2_0_3 f2_1_3 f2_2_3 g2_3 R0_3 R1_3 H3))
      | (go_at_call 5; ((with_reducible refine (spec_any _ a0_0 ia0_0 a0_1 ia0_1 a0_2 ia0_2 _ x0_3 _ R0_4.out ix0_3 _ x0_4 _ R1_4.out ix0_4 a1_0_0 ia1_0_0 a1_0_1 ia1_0_1 a1_1 ia1_1 a2_0_0 ia2_0_0 a2_0_1 ia2_0_1 a2_1 ia2_1).mono ?_); rintro e w5 ⟨rfl, hb⟩; have zz5 : w4.heap.size ≤ w5.heap.size := (by have := hb.size; ((try simp at this) <;> omega)); have H5 := Lib.hid (show Below w.heap.size w w5 by repeat (first | (with_reducible exact Below.refl _ _) | (with_reducible assumption) | ((with_reducible refine bl_alloc ?_ _ ?_); (focus ((first | omega | (simp <;> omega)); done))) | ((with_reducible refine bl_set ?_ _ ?_); (focus ((first | omega | (simp <;> omega)); done))) | (with_reducible refine below_drewN ?_ _) | (with_reducible refine Below.drew ?_) | ((with_reducible refine bl_trans ?_ hb ?_); (focus ((first | omega | (simp <;> omega)); done))) | ((with_reducible refine bl_trans ?_ H4.out ?_); (focus ((first | omega | (simp <;> omega)); done))))); have f0_0_5 := keeps hb f0_0_4; have f0_1_5 := keeps hb f0_1_4; have f0_2_5 := keeps hb f0_2_4; have f0_3_5 := keeps hb f0_3_4; have f0_4_5 := keeps hb f0_4_4; have g0_5 : w.heap.size < w5.heap.size := block_of_cell f0_0_5; have f1_0_5 := keeps hb f1_0_4; have f1_1_5 := keeps hb f1_1_4; have f1_2_5 := keeps hb f1_2_4; have g1_5 : w.heap.size + 1 < w5.heap.size := block_of_cell f1_0_5; have f2_0_5 := keeps hb f2_0_4; have f2_1_5 := keeps hb f2_1_4; have f2_2_5 := keeps hb f2_2_4; have g2_5 : w.heap.size + 1 + 1 < w5.heap.size := block_of_cell f2_0_5; clear f0_0_4 f0_1_4 f0_2_4 f0_3_4 f0_4_4 g0_4 f1_0_4 f1_1_4 f1_2_4 g1_4 f2_0_4 f2_1_4 f2_2_4 g2_4 R0_4 R1_4 H4)))
  go_wp2_with fail
  refine (toTerrain_any a0_0 a0_1 a0_2 v0_3 x0_3 v0_4 x0_4 _ w.heap.size (by first | omega | (simp <;> omega)) (Rd.below r0_3 (by repeat (first | (with_reducible exact Below.refl _ _) | (with_reducible assumption) | ((with_reducible refine bl_alloc ?_ _ ?_); (focus ((first | omega | (simp <;> omega)); done))) | ((with_reducible refine bl_set ?_ _ ?_); (focus ((first | omega | (simp <;> omega)); done))) | (with_reducible refine below_drewN ?_ _) | (with_reducible refine Below.drew ?_) | ((with_reducible refine bl_trans ?_ H5.out ?_); (focus ((first | omega | (simp <;> omega)); done)))))) (by omega) (Rd.below r0_4 (by repeat (first | (with_reducible exact Below.refl _ _) | (with_reducible assumption) | ((with_reducible refine bl_alloc ?_ _ ?_); (focus ((first | omega | (simp <;> omega)); done))) | ((with_reducible refine bl_set ?_ _ ?_); (focus ((first | omega | (simp <;> omega)); done))) | (with_reducible refine below_drewN ?_ _) | (with_reducible refine Below.drew ?_) | ((with_reducible refine bl_trans ?_ H5.out ?_); (focus ((first | omega | (simp <;> omega)); done)))))) (by omega)).mono ?_
  rintro e w6 ⟨A2, n2, c2, A3, n3, c3, rfl, hr2, hr3, ha2_3, hb⟩
  have zz6 : w5.heap.size ≤ w6.heap.size := (by have := hb.size; ((try simp at this) <;> omega))
  have H6 := Lib.hid (show Below w.heap.size w w6 by repeat (first | (with_reducible exact Below.refl _ _) | (with_reducible assumption) | ((with_reducible refine bl_alloc ?_ _ ?_); (focus ((first | omega | (simp <;> omega)); done))) | ((with_reducible refine bl_set ?_ _ ?_); (focus ((first | omega | (simp <;> omega)); done))) | (with_reducible refine below_drewN ?_ _) | (with_reducible refine Below.drew ?_) | ((with_reducible refine bl_trans ?_ hb ?_); (focus ((first | omega | (simp <;> omega)); done))) | ((with_reducible refine bl_trans ?_ H5.out ?_); (focus ((first | omega | (simp <;> omega)); done)))))
  have f0_0_6 := keeps hb f0_0_5
  have f0_1_6 := keeps hb f0_1_5
  have f0_2_6 := keeps hb f0_2_5
  have f0_3_6 := keeps hb f0_3_5
  have f0_4_6 := keeps hb f0_4_5
  have g0_6 : w.heap.size < w6.heap.size := block_of_cell f0_0_6
  have f1_0_6 := keeps hb f1_0_5
  have f1_1_6 := keeps hb f1_1_5
  have f1_2_6 := keeps hb f1_2_5
  have g1_6 : w.heap.size + 1 < w6.heap.size := block_of_cell f1_0_6
  have f2_0_6 := keeps hb f2_0_5
  have f2_1_6 := keeps hb f2_1_5
  have f2_2_6 := keeps hb f2_2_5
  have g2_6 : w.heap.size + 1 + 1 < w6.heap.size := block_of_cell f2_0_6
  have R2_6 := Lib.hid hr2
  have RL2 := Lib.hid (show ∀ g, Value.ownBlock (.slice A2 n2 c2) = some g → w5.heap.size ≤ g ∧ g < w6.heap.size from fun g h => by have l1 := hr2.lt g h; ((try simp at l1) <;> omega))
  have RA2_3 := Lib.hid ha2_3
  have R3_6 := Lib.hid hr3
  have RL3 := Lib.hid (show ∀ g, Value.ownBlock (.slice A3 n3 c3) = some g → w5.heap.size ≤ g ∧ g < w6.heap.size from fun g h => by have l1 := hr3.lt g h; ((try simp at l1) <;> omega))
  clear hb f0_0_5 f0_1_5 f0_2_5 f0_3_5 f0_4_5 g0_5 f1_0_5 f1_1_5 f1_2_5 g1_5 f2_0_5 f2_1_5 f2_2_5 g2_5 hr2 ha2_3 hr3 H5
  go_wp2_with fail
  go_region_held3 (fun w' => w'.cell? ⟨w6.heap.size, 0, none⟩ = some (.int .i64 a0_0) ∧ w'.cell? ⟨w6.heap.size, 1, none⟩ = some (.int .i64 a0_1) ∧ w'.cell? ⟨w6.heap.size, 2, none⟩ = some (.int .i64 a0_2) ∧ w'.cell? ⟨w6.heap.size, 3, none⟩ = some ((.slice A2 n2 c2)) ∧ w'.cell? ⟨w6.heap.size, 4, none⟩ = some ((.slice A3 n3 c3)) ∧ w'.cell? ⟨w.heap.size + 1, 0, none⟩ = some (.int .i64 a1_0_0) ∧ w'.cell? ⟨w.heap.size + 1, 1, none⟩ = some (.int .i64 a1_0_1) ∧ w'.cell? ⟨w.heap.size + 1, 2, none⟩ = some (.int .i64 a1_1) ∧ w'.cell? ⟨w.heap.size + 1 + 1, 0, none⟩ = some (.int .i64 a2_0_0) ∧ w'.cell? ⟨w.heap.size + 1 + 1, 1, none⟩ = some (.int .i64 a2_0_1) ∧ w'.cell? ⟨w.heap.size + 1 + 1, 2, none⟩ = some (.int .i64 a2_1))
    (first | (refine ⟨?_, ?_, ?_, ?_, ?_, ?_, ?_, ?_, ?_, ?_, ?_⟩ <;> assumption) | (go_split_ands; (refine ⟨?_, ?_, ?_, ?_, ?_, ?_, ?_, ?_, ?_, ?_, ?_⟩ <;> first | assumption | (refine keeps hb ?_; assumption))) | (((try go_split_ands); (refine ⟨?_, ?_, ?_, ?_, ?_, ?_, ?_, ?_, ?_, ?_, ?_⟩ <;> (repeat (first | (with_reducible assumption) | (simp [go_sem]; done) | (with_reducible refine cell_drew ?_) | (with_reducible refine keeps hb ?_) | (with_reducible refine cell_alloc ?_ _)))))))
    (first
      | (go_at_call 7; ((with_reducible refine (toEnd_any a1_0_0 a1_0_1 a1_1 _).mono ?_); rintro e w7 ⟨rfl, hb⟩; have zz7 : w6.heap.size + 1 ≤ w7.heap.size := (by have := hb.size; ((try simp at this) <;> omega)); have H7 := Lib.hid (show Below w.heap.size w w7 by repeat (first | (with_reducible exact Below.refl _ _) | (with_reducible assumption) | ((with_reducible refine bl_alloc ?_ _ ?_); (focus ((first | omega | (simp <;> omega)); done))) | ((with_reducible refine bl_set ?_ _ ?_); (focus ((first | omega | (simp <;> omega)); done))) | (with_reducible refine below_drewN ?_ _) | (with_reducible refine Below.drew ?_) | ((with_reducible refine bl_trans ?_ hb ?_); (focus ((first | omega | (simp <;> omega)); done))) | ((with_reducible refine bl_trans ?_ H6.out ?_); (focus ((first | omega | (simp <;> omega)); done))))); have f0_0_7 := keeps1 hb (cell_alloc f0_0_6 _); have f0_1_7 := keeps1 hb (cell_alloc f0_1_6 _); have f0_2_7 := keeps1 hb (cell_alloc f0_2_6 _); have f0_3_7 := keeps1 hb (cell_alloc f0_3_6 _); have f0_4_7 := keeps1 hb (cell_alloc f0_4_6 _); have g0_7 : w.heap.size < w7.heap.size := block_of_cell f0_0_7; have f2_0_7 := keeps1 hb (cell_alloc f2_0_6 _); have f2_1_7 := keeps1 hb (cell_alloc f2_1_6 _); have f2_2_7 := keeps1 hb (cell_alloc f2_2_6 _); have g2_7 : w.heap.size + 1 + 1 < w7.heap.size := block_of_cell f2_0_7; have f3_0_7 := keeps hb (p := ⟨w6.heap.size, 0, none⟩) (v := .int .i64 a0_0) (by simp [go_sem]); have f3_1_7 := keeps hb (p := ⟨w6.heap.size, 1, none⟩) (v := .int .i64 a0_1) (by simp [go_sem]); have f3_2_7 := keeps hb (p := ⟨w6.heap.size, 2, none⟩) (v := .int .i64 a0_2) (by simp [go_sem]); have f3_3_7 := keeps hb (p := ⟨w6.heap.size, 3, none⟩) (v := (.slice A2 n2 c2)) (by simp [go_sem]); have f3_4_7 := keeps hb (p := ⟨w6.heap.size, 4, none⟩) (v := (.slice A3 n3 c3)) (by simp [go_sem]); have g3_7 : w6.heap.size < w7.heap.size := block_of_cell f3_0_7; have R2_7 := Lib.hid (Row.later1 (R2_6.out.alloc_ _) hb); have R3_7 := Lib.hid (Row.later1 (R3_6.out.alloc_ _) hb); clear f0_0_6 f0_1_6 f0_2_6 f0_3_6 f0_4_6 g0_6 f1_0_6 f1_1_6 f1_2_6 g1_6 f2_0_6 f2_1_6 f2_2_6 g2_6 R2_6 R3_6 H6))
      | (go_at_call 7; ((with_reducible refine (toEnd_any a2_0_0 a2_0_1 a2_1 _).mono ?_); rintro e w8 ⟨rfl, hb⟩; have zz8 : w7.heap.size ≤ w8.heap.size := (by have := hb.size; ((try simp at this) <;> omega)); have H8 := Lib.hid (show Below w.heap.size w w8 by repeat (first | (with_reducible exact Below.refl _ _) | (with_reducible assumption) | ((with_reducible refine bl_alloc ?_ _ ?_); (focus ((first | omega | (simp <;> omega)); done))) | ((with_reducible refine bl_set ?_ _ ?_); (focus ((first | omega | (simp <;> omega)); done))) | (with_reducible refine below_drewN ?_ _) | (with_reducible refine Below.drew ?_) | ((with_reducible refine bl_trans ?_ hb ?_); (focus ((first | omega | (simp <;> omega)); done))) | ((with_reducible refine bl_trans ?_ H7.out ?_); (focus ((first | omega | (simp <;> omega)); done))))); have f0_0_8 := keeps hb f0_0_7; have f0_1_8 := keeps hb f0_1_7; have f0_2_8 := keeps hb f0_2_7; have f0_3_8 := keeps hb f0_3_7; have f0_4_8 := keeps hb f0_4_7; have g0_8 : w.heap.size < w8.heap.size := block_of_cell f0_0_8; have f3_0_8 := keeps hb f3_0_7; have f3_1_8 := keeps hb f3_1_7; have f3_2_8 := keeps hb f3_2_7; have f3_3_8 := keeps hb f3_3_7; have f3_4_8 := keeps hb f3_4_7; have g3_8 : w6.heap.size < w8.heap.size := block_of_cell f3_0_8; have R2_8 := Lib.hid (Row.later R2_7.out hb); have R3_8 := Lib.hid (Row.later R3_7.out hb); clear f0_0_7 f0_1_7 f0_2_7 f0_3_7 f0_4_7 g0_7 f2_0_7 f2_1_7 f2_2_7 g2_7 f3_0_7 f3_1_7 f3_2_7 f3_3_7 f3_4_7 g3_7 R2_7 R3_7 H7))
      | (go_at_call 8; ((with_reducible refine (impl_any _ (SineAt.below HTab.out (by repeat (first | (with_reducible exact Below.refl _ _) | (with_reducible assumption) | ((with_reducible refine bl_alloc ?_ _ ?_); (focus ((first | omega | (simp <;> omega)); done))) | ((with_reducible refine bl_set ?_ _ ?_); (focus ((first | omega | (simp <;> omega)); done))) | (with_reducible refine below_drewN ?_ _) | (with_reducible refine Below.drew ?_) | ((with_reducible refine bl_trans ?_ H8.out ?_); (focus ((first | omega | (simp <;> omega)); done)))))) a0_0 ia0_0 a0_1 ia0_1 a0_2 ia0_2 _ x0_3 _ R2_8.out ix0_3 _ x0_4 _ R3_8.out ix0_4 a1_0_0 ia1_0_0 a1_0_1 ia1_0_1 a1_1 ia1_1 a2_0_0 ia2_0_0 a2_0_1 ia2_0_1 a2_1 ia2_1).mono ?_); rintro e w9 ⟨rfl, hb⟩; have zz9 : w8.heap.size ≤ w9.heap.size := (by have := hb.size; ((try simp at this) <;> omega)); have H9 := Lib.hid (show Below w.heap.size w w9 by repeat (first | (with_reducible exact Below.refl _ _) | (with_reducible assumption) | ((with_reducible refine bl_alloc ?_ _ ?_); (focus ((first | omega | (simp <;> omega)); done))) | ((with_reducible refine bl_set ?_ _ ?_); (focus ((first | omega | (simp <;> omega)); done))) | (with_reducible refine below_drewN ?_ _) | (with_reducible refine Below.drew ?_) | ((with_reducible refine bl_trans ?_ hb ?_); (focus ((first | omega | (simp <;> omega)); done))) | ((with_reducible refine bl_trans ?_ H8.out ?_); (focus ((first | omega | (simp <;> omega)); done))))); have f0_0_9 := keeps hb f0_0_8; have f0_1_9 := keeps hb f0_1_8; have f0_2_9 := keeps hb f0_2_8; have f0_3_9 := keeps hb f0_3_8; have f0_4_9 := keeps hb f0_4_8; have g0_9 : w.heap.size < w9.heap.size := block_of_cell f0_0_9; have f3_0_9 := keeps hb f3_0_8; have f3_1_9 := keeps hb f3_1_8; have f3_2_9 := keeps hb f3_2_8; have f3_3_9 := keeps hb f3_3_8; have f3_4_9 := keeps hb f3_4_8; have g3_9 : w6.heap.size < w9.heap.size := block_of_cell f3_0_9; have R2_9 := Lib.hid (Row.later R2_8.out hb); have R3_9 := Lib.hid (Row.later R3_8.out hb); clear f0_0_8 f0_1_8 f0_2_8 f0_3_8 f0_4_8 g0_8 f3_0_8 f3_1_8 f3_2_8 f3_3_8 f3_4_8 g3_8 R2_8 R3_8 H8)))
  go_wp2_with fail
  go_region_held3 (fun w' => w'.cell? ⟨w6.heap.size, 0, none⟩ = some (.int .i64 a0_0) ∧ w'.cell? ⟨w6.heap.size, 1, none⟩ = some (.int .i64 a0_1) ∧ w'.cell? ⟨w6.heap.size, 2, none⟩ = some (.int .i64 a0_2) ∧ w'.cell? ⟨w6.heap.size, 3, none⟩ = some ((.slice A2 n2 c2)) ∧ w'.cell? ⟨w6.heap.size, 4, none⟩ = some ((.slice A3 n3 c3)) ∧ w'.cell? ⟨w.heap.size, 0, none⟩ = some (.int .i64 a0_0) ∧ w'.cell? ⟨w.heap.size, 1, none⟩ = some (.int .i64 a0_1) ∧ w'.cell? ⟨w.heap.size, 2, none⟩ = some (.int .i64 a0_2) ∧ w'.cell? ⟨w.heap.size, 3, none⟩ = some (v0_3) ∧ w'.cell? ⟨w.heap.size, 4, none⟩ = some (v0_4))
    (first | (refine ⟨?_, ?_, ?_, ?_, ?_, ?_, ?_, ?_, ?_, ?_⟩ <;> assumption) | (go_split_ands; (refine ⟨?_, ?_, ?_, ?_, ?_, ?_, ?_, ?_, ?_, ?_⟩ <;> first | assumption | (refine keeps hb ?_; assumption))))
    (first
      | (go_at_call 6; ((with_reducible refine (toTerrain_any a0_0 a0_1 a0_2 v0_3 x0_3 v0_4 x0_4 _ w.heap.size (by first | omega | (simp <;> omega)) (Rd.below r0_3 (by repeat (first | (with_reducible exact Below.refl _ _) | (with_reducible assumption) | ((with_reducible refine bl_alloc ?_ _ ?_); (focus ((first | omega | (simp <;> omega)); done))) | ((with_reducible refine bl_set ?_ _ ?_); (focus ((first | omega | (simp <;> omega)); done))) | (with_reducible refine below_drewN ?_ _) | (with_reducible refine Below.drew ?_) | ((with_reducible refine bl_trans ?_ H9.out ?_); (focus ((first | omega | (simp <;> omega)); done)))))) (by omega) (Rd.below r0_4 (by repeat (first | (with_reducible exact Below.refl _ _) | (with_reducible assumption) | ((with_reducible refine bl_alloc ?_ _ ?_); (focus ((first | omega | (simp <;> omega)); done))) | ((with_reducible refine bl_set ?_ _ ?_); (focus ((first | omega | (simp <;> omega)); done))) | (with_reducible refine below_drewN ?_ _) | (with_reducible refine Below.drew ?_) | ((with_reducible refine bl_trans ?_ H9.out ?_); (focus ((first | omega | (simp <;> omega)); done)))))) (by omega)).mono ?_); rintro e w10 ⟨A4, n4, c4, A5, n5, c5, rfl, hr4, hr5, ha4_5, hb⟩; have zz10 : w9.heap.size ≤ w10.heap.size := (by have := hb.size; ((try simp at this) <;> omega)); have H10 := Lib.hid (show Below w.heap.size w w10 by repeat (first | (with_reducible exact Below.refl _ _) | (with_reducible assumption) | ((with_reducible refine bl_alloc ?_ _ ?_); (focus ((first | omega | (simp <;> omega)); done))) | ((with_reducible refine bl_set ?_ _ ?_); (focus ((first | omega | (simp <;> omega)); done))) | (with_reducible refine below_drewN ?_ _) | (with_reducible refine Below.drew ?_) | ((with_reducible refine bl_trans ?_ hb ?_); (focus ((first | omega | (simp <;> omega)); done))) | ((with_reducible refine bl_trans ?_ H9.out ?_); (focus ((first | omega | (simp <;> omega)); done))))); have R2_10 := Lib.hid (Row.later1 R2_9.out hb); have R3_10 := Lib.hid (Row.later1 R3_9.out hb); have R4_10 := Lib.hid hr4; have RL4 := Lib.hid (show ∀ g, Value.ownBlock (.slice A4 n4 c4) = some g → w9.heap.size ≤ g ∧ g < w10.heap.size from fun g h => by have l1 := hr4.lt g h; ((try simp at l1) <;> omega)); have RA4_5 := Lib.hid ha4_5; have R5_10 := Lib.hid hr5; have RL5 := Lib.hid (show ∀ g, Value.ownBlock (.slice A5 n5 c5) = some g → w9.heap.size ≤ g ∧ g < w10.heap.size from fun g h => by have l1 := hr5.lt g h; ((try simp at l1) <;> omega)); clear f0_0_9 f0_1_9 f0_2_9 f0_3_9 f0_4_9 g0_9 f3_0_9 f3_1_9 f3_2_9 f3_3_9 f3_4_9 g3_9 R2_9 R3_9 hr4 ha4_5 hr5 H9))
      | (go_at_call 9; ((with_reducible refine (eqTerrain_any a0_0 a0_1 a0_2 _ _ _ (x0_3) _ _ R2_10.out R4_10.out _ _ (x0_4) _ _ R3_10.out R5_10.out).mono ?_); rintro e w11 ⟨rfl, hb⟩; have zz11 : w10.heap.size ≤ w11.heap.size := (by have := hb.size; ((try simp at this) <;> omega)); have H11 := Lib.hid (show Below w.heap.size w w11 by repeat (first | (with_reducible exact Below.refl _ _) | (with_reducible assumption) | ((with_reducible refine bl_alloc ?_ _ ?_); (focus ((first | omega | (simp <;> omega)); done))) | ((with_reducible refine bl_set ?_ _ ?_); (focus ((first | omega | (simp <;> omega)); done))) | (with_reducible refine below_drewN ?_ _) | (with_reducible refine Below.drew ?_) | ((with_reducible refine bl_trans ?_ hb ?_); (focus ((first | omega | (simp <;> omega)); done))) | ((with_reducible refine bl_trans ?_ H10.out ?_); (focus ((first | omega | (simp <;> omega)); done))))); clear R2_10 R3_10 R4_10 R5_10 H10)))
  go_wp2_with fail
  go_ret
  exact ⟨rfl, (by repeat (first | (with_reducible exact Below.refl _ _) | (with_reducible assumption) | ((with_reducible refine bl_alloc ?_ _ ?_); (focus ((first | omega | (simp <;> omega)); done))) | ((with_reducible refine bl_set ?_ _ ?_); (focus ((first | omega | (simp <;> omega)); done))) | (with_reducible refine below_drewN ?_ _) | (with_reducible refine Below.drew ?_) | ((with_reducible refine bl_trans ?_ H11.out ?_); (focus ((first | omega | (simp <;> omega)); done)))))⟩
end Go.Proofs.YtedpdcdmemenhaaDoor.fnExactElevationOf
