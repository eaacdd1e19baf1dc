/-
  The elevation of an end seen from another one: the program's. The conditions are the hypotheses.
-/
import Derived.Test.YtedpdcdmemenhaaDoorRows
import Derived.Test.YtedpdcdmemenhaaDoorLib
import Derived.Test.YtedpdcdmemenhaaDoorMath
import Derived.Test.YtedpdcdmemenhaaDoorWithin
import Derived.Test.YtedpdcdmemenhaaDoorAll
import Derived.Test.YtedpdcdmemenhaaDoorOwn
import Derived.Test.YtedpdcdmemenhaaDoorField
import Derived.Test.YtedpdcdmemenhaaDoorTer
import Derived.Test.YtedpdcdmemenhaaDoorIn
import Derived.Test.YtedpdcdmemenhaaDoorEnds
import Derived.Test.YtedpdcdmemenhaaDoorHgtP
import Derived.Test.YtedpdcdmemenhaaDoorHgtI
import Derived.Test.YtedpdcdmemenhaaDoorHigh
import Derived.Test.YtedpdcdmemenhaaDoorApart
import Derived.Test.YtedpdcdmemenhaaDoorSine
import Derived.Test.YtedpdcdmemenhaaDoorElev
import Derived.Shelf.Abstract
import Derived.Outline
import Derived.Deep.DeepCutAuto
import Derived.Deep.QuietTactic
import Derived.BigQuiet
import Derived.Deep.RegionHeld3
import Derived.Deep.DrawnRows
namespace Go.Proofs.YtedpdcdmemenhaaDoor
open Go.RowKit
set_option linter.unusedSimpArgs false
set_option linter.unusedVariables false
attribute [local go_sem ↓] Go.wp_at_zero Go.wp_at_succ
theorem mk_a1 {P w' : World} {c : Array Value} {e : TypeId} (hb : Below (P.alloc (.cells c e)).heap.size (P.alloc (.cells c e)) w') : SInv w' P.heap.size c.toList := (SInv.fresh P c e).later hb
theorem mk_a2 {P w' : World} {c d : Array Value} {e f : TypeId} (hb : Below ((P.alloc (.cells c e)).alloc (.cells d f)).heap.size ((P.alloc (.cells c e)).alloc (.cells d f)) w') : SInv w' P.heap.size c.toList ∧ SInv w' (P.heap.size + 1) d.toList := by
  refine ⟨((SInv.fresh P c e).alloc_ _).later hb, ?_⟩
  have h := (SInv.fresh (P.alloc (.cells c e)) d f).later hb
  simp at h
  exact h
theorem mk_d1 {P w' : World} {c : Array Value} {e : TypeId} (hb : Below (P.drew.alloc (.cells c e)).heap.size (P.drew.alloc (.cells c e)) w') : SInv w' P.heap.size c.toList := mk_a1 (P := P.drew) hb
theorem mk_d2 {P w' : World} {c d : Array Value} {e f : TypeId} (hb : Below ((P.drew.alloc (.cells c e)).alloc (.cells d f)).heap.size ((P.drew.alloc (.cells c e)).alloc (.cells d f)) w') : SInv w' P.heap.size c.toList ∧ SInv w' (P.heap.size + 1) d.toList := mk_a2 (P := P.drew) hb
theorem one_set {w : World} {O : Nat} {C : List Value} {z : Value} (A : SInv w O C) (h : C[0]? = some z) : w.cell? ⟨O, 0, none⟩ = some z ∧ w.frozen? ⟨O, 0, none⟩ = false ∧ (∀ o, (w.alloc o).cell? ⟨O, 0, none⟩ = some z) ∧ (∀ o, (w.alloc o).frozen? ⟨O, 0, none⟩ = false) :=
  ⟨A.cell 0 z h, A.free 0, fun o => (A.alloc_ o).cell 0 z h, fun o => (A.alloc_ o).free 0⟩
theorem two_set {w : World} {O Q : Nat} {C D : List Value} {z y : Value} (A : SInv w O C) (B : SInv w Q D) (h : C[0]? = some z) (k : D[0]? = some y) (hn : O ≠ Q) :
    w.cell? ⟨O, 0, none⟩ = some z ∧ w.frozen? ⟨O, 0, none⟩ = false ∧ w.cell? ⟨Q, 0, none⟩ = some y ∧ w.frozen? ⟨Q, 0, none⟩ = false ∧
    (∀ u, (w.setCell ⟨O, 0, none⟩ u).cell? ⟨Q, 0, none⟩ = some y) ∧ (∀ u, (w.setCell ⟨O, 0, none⟩ u).frozen? ⟨Q, 0, none⟩ = false) ∧ (∀ u, (w.setCell ⟨Q, 0, none⟩ u).cell? ⟨O, 0, none⟩ = some z) ∧ (∀ u, (w.setCell ⟨Q, 0, none⟩ u).frozen? ⟨O, 0, none⟩ = false) :=
  ⟨A.cell 0 z h, A.free 0, B.cell 0 y k, B.free 0, fun u => (B.other (p := ⟨O, 0, none⟩) hn u).cell 0 y k, fun u => (B.other (p := ⟨O, 0, none⟩) hn u).free 0, fun u => (A.other (p := ⟨Q, 0, none⟩) (fun e => hn e.symm) u).cell 0 z h, fun u => (A.other (p := ⟨Q, 0, none⟩) (fun e => hn e.symm) u).free 0⟩
theorem cell_new0 (P : World) (c : Value) (r : List Value) (e : TypeId) : (P.alloc (.cells (c :: r).toArray e)).cell? ⟨P.heap.size, 0, none⟩ = some c := (SInv.fresh P (c :: r).toArray e).cell 0 c (by simp)
theorem cell_new1 (P : World) (o : Obj) (c : Value) (r : List Value) (e : TypeId) : ((P.alloc o).alloc (.cells (c :: r).toArray e)).cell? ⟨P.heap.size + 1, 0, none⟩ = some c := by
  have h := (SInv.fresh (P.alloc o) (c :: r).toArray e).cell 0 c (by simp)
  have e : (P.alloc o).heap.size = P.heap.size + 1 := by simp
  rw [e] at h
  exact h
theorem cell_put {P : World} {a : Addr} {u v : Value} (h : P.cell? a = some u) : (P.setCell a v).cell? a = some v := World.cell?_setCell_same _ _ _ h
set_option maxRecDepth 20000 in
set_option maxHeartbeats 16000000 in
theorem elevation_any (w : World) (hT : SineAt w) (st wd ht : Int) (v u : Value) (hs cs : List Int) (p : Nat) (hr : Row 2 w p v hs) (x y a s t b : Int) (h1 : terB st wd ht hs cs = true) (h2 : endB x y a = true) (h3 : endB s t b = true) (h4 : hasB st wd ht x y = true) (h5 : hasB st wd ht s t = true) :
    Calls Tryd.prog 18 #[.agg #[.int .i64 st, .int .i64 wd, .int .i64 ht, v, u], .agg #[.int .i64 x, .int .i64 y, .int .i64 a], .agg #[.int .i64 s, .int .i64 t, .int .i64 b]] w fun e w' => e = .returned (.int .i64 (elevV (apartV x y s t) (heightB st wd ht hs s t + b - (heightB st wd ht hs x y + a)))) ∧ Below w.heap.size w w' := by
  obtain ⟨hz, hl, _, hb⟩ := ter_parts h1
  obtain ⟨⟨x0, x1⟩, ⟨y0, y1⟩⟩ := has_parts h4
  obtain ⟨⟨s0, s1⟩, ⟨t0, t1⟩⟩ := has_parts h5
  obtain ⟨ex, ey, a0, a1⟩ := end_parts h2
  obtain ⟨es, et, b0, b1⟩ := end_parts h3
  obtain ⟨g0, g1, g2, _, _⟩ := size_parts hz
  have n1 := height_bd g0.1 g1.1 g2.1 x0 x1 y0 y1 hl hb
  have n2 := height_bd g0.1 g1.1 g2.1 s0 s1 t0 t1 hl hb
  have n3 := apart_bd ex ey es et
  have HD : Hid (∀ W : World, Below w.heap.size w W → Calls Tryd.prog 34 #[.agg #[.int .i64 x, .int .i64 y], .agg #[.int .i64 s, .int .i64 t]] W fun e w' => e = .returned (.int .i64 (apartV x y s t)) ∧ Below W.heap.size W w') := fun W _ => distanceOf_any W x y s t ex ey es et
  have HA : Hid (∀ W : World, Below w.heap.size w W → Calls Tryd.prog 35 #[.agg #[.int .i64 st, .int .i64 wd, .int .i64 ht, v, u], .agg #[.int .i64 x, .int .i64 y, .int .i64 a]] W fun e w' => e = .returned (.int .i64 (heightB st wd ht hs x y + a)) ∧ Below W.heap.size W w') := fun W hW => endHeight_any W st wd ht x y a v u hs p (hr.later hW) hz hl hb x0 x1 y0 y1 a0 a1
  have HB : Hid (∀ W : World, Below w.heap.size w W → Calls Tryd.prog 35 #[.agg #[.int .i64 st, .int .i64 wd, .int .i64 ht, v, u], .agg #[.int .i64 s, .int .i64 t, .int .i64 b]] W fun e w' => e = .returned (.int .i64 (heightB st wd ht hs s t + b)) ∧ Below W.heap.size W w') := fun W hW => endHeight_any W st wd ht s t b v u hs p (hr.later hW) hz hl hb s0 s1 t0 t1 b0 b1
  obtain ⟨dd, hdd⟩ : ∃ d, d = apartV x y s t := ⟨_, rfl⟩
  obtain ⟨ha, hha⟩ : ∃ d, d = heightB st wd ht hs x y + a := ⟨_, rfl⟩
  obtain ⟨hb2, hhb⟩ : ∃ d, d = heightB st wd ht hs s t + b := ⟨_, rfl⟩
  have m1 : 0 ≤ ha ∧ ha ≤ 93000 := by omega
  have m2 : 0 ≤ hb2 ∧ hb2 ≤ 93000 := by omega
  rw [← hdd] at n3 HD
  rw [← hha] at HA
  rw [← hhb] at HB
  rw [← hdd, ← hha, ← hhb]
  clear hdd hha hhb n1 n2 hz hl hb x0 x1 y0 y1 s0 s1 t0 t1 ex ey es et a0 a1 b0 b1 g0 g1 g2 hr h1 h2 h3 h4 h5
  have HDW : Hid (∀ W : World, Below w.heap.size w W → True) := fun _ _ => trivial
  obtain ⟨W0, hW0⟩ : ∃ W, W = ((w.alloc (.cells #[.int .i64 st, .int .i64 wd, .int .i64 ht, v, u] 32)).alloc (.cells #[.int .i64 x, .int .i64 y, .int .i64 a] 36)).alloc (.cells #[.int .i64 s, .int .i64 t, .int .i64 b] 36) := ⟨_, rfl⟩
  have HW0 := Lib.hid (show Below w.heap.size w W0 by rw [hW0]; repeat (first | (with_reducible exact Below.refl _ _) | (with_reducible assumption) | ((with_reducible refine bl_alloc ?_ _ ?_); (focus ((first | omega | (simp <;> omega)); done))) | ((with_reducible refine bl_set ?_ _ ?_); (focus ((first | omega | (simp <;> omega)); done))) | (with_reducible refine below_drewN ?_ _) | (with_reducible refine Below.drew ?_)))
  have z0 := HW0.out.size
  have s0 : W0.cell? ⟨w.heap.size, 0, none⟩ = some (.int .i64 st) := by rw [hW0]; simp [go_sem]
  have s1 : W0.cell? ⟨w.heap.size, 1, none⟩ = some (.int .i64 wd) := by rw [hW0]; simp [go_sem]
  have s2 : W0.cell? ⟨w.heap.size, 2, none⟩ = some (.int .i64 ht) := by rw [hW0]; simp [go_sem]
  have s3 : W0.cell? ⟨w.heap.size, 3, none⟩ = some (v) := by rw [hW0]; simp [go_sem]
  have s4 : W0.cell? ⟨w.heap.size, 4, none⟩ = some (u) := by rw [hW0]; simp [go_sem]
  have s5 : W0.cell? ⟨w.heap.size + 1, 0, none⟩ = some (.int .i64 x) := by rw [hW0]; simp [go_sem]
  have s6 : W0.cell? ⟨w.heap.size + 1, 1, none⟩ = some (.int .i64 y) := by rw [hW0]; simp [go_sem]
  have s7 : W0.cell? ⟨w.heap.size + 1, 2, none⟩ = some (.int .i64 a) := by rw [hW0]; simp [go_sem]
  have s8 : W0.cell? ⟨w.heap.size + 2, 0, none⟩ = some (.int .i64 s) := by rw [hW0]; simp [go_sem]
  have s9 : W0.cell? ⟨w.heap.size + 2, 1, none⟩ = some (.int .i64 t) := by rw [hW0]; simp [go_sem]
  have s10 : W0.cell? ⟨w.heap.size + 2, 2, none⟩ = some (.int .i64 b) := by rw [hW0]; simp [go_sem]
  have hl0 : w.heap.size + 2 < W0.heap.size := by rw [hW0]; simp
  have HD0 : Hid (∀ W : World, Below W0.heap.size W0 W → Calls Tryd.prog 34 #[.agg #[.int .i64 x, .int .i64 y], .agg #[.int .i64 s, .int .i64 t]] W fun e w' => e = .returned (.int .i64 dd) ∧ Below W.heap.size W w') := fun W hW => HD.out W (by repeat (first | (with_reducible exact Below.refl _ _) | (with_reducible assumption) | ((with_reducible refine bl_alloc ?_ _ ?_); (focus ((first | omega | (simp <;> omega)); done))) | ((with_reducible refine bl_set ?_ _ ?_); (focus ((first | omega | (simp <;> omega)); done))) | (with_reducible refine below_drewN ?_ _) | (with_reducible refine Below.drew ?_) | ((with_reducible refine bl_trans ?_ hW ?_); (focus ((first | omega | (simp <;> omega)); done))) | ((with_reducible refine bl_trans ?_ HW0.out ?_); (focus ((first | omega | (simp <;> omega)); done)))))
  have HA0 : Hid (∀ W : World, Below W0.heap.size W0 W → Calls Tryd.prog 35 #[.agg #[.int .i64 st, .int .i64 wd, .int .i64 ht, v, u], .agg #[.int .i64 x, .int .i64 y, .int .i64 a]] W fun e w' => e = .returned (.int .i64 ha) ∧ Below W.heap.size W w') := fun W hW => HA.out W (by repeat (first | (with_reducible exact Below.refl _ _) | (with_reducible assumption) | ((with_reducible refine bl_alloc ?_ _ ?_); (focus ((first | omega | (simp <;> omega)); done))) | ((with_reducible refine bl_set ?_ _ ?_); (focus ((first | omega | (simp <;> omega)); done))) | (with_reducible refine below_drewN ?_ _) | (with_reducible refine Below.drew ?_) | ((with_reducible refine bl_trans ?_ hW ?_); (focus ((first | omega | (simp <;> omega)); done))) | ((with_reducible refine bl_trans ?_ HW0.out ?_); (focus ((first | omega | (simp <;> omega)); done)))))
  have HB0 : Hid (∀ W : World, Below W0.heap.size W0 W → Calls Tryd.prog 35 #[.agg #[.int .i64 st, .int .i64 wd, .int .i64 ht, v, u], .agg #[.int .i64 s, .int .i64 t, .int .i64 b]] W fun e w' => e = .returned (.int .i64 hb2) ∧ Below W.heap.size W w') := fun W hW => HB.out W (by repeat (first | (with_reducible exact Below.refl _ _) | (with_reducible assumption) | ((with_reducible refine bl_alloc ?_ _ ?_); (focus ((first | omega | (simp <;> omega)); done))) | ((with_reducible refine bl_set ?_ _ ?_); (focus ((first | omega | (simp <;> omega)); done))) | (with_reducible refine below_drewN ?_ _) | (with_reducible refine Below.drew ?_) | ((with_reducible refine bl_trans ?_ hW ?_); (focus ((first | omega | (simp <;> omega)); done))) | ((with_reducible refine bl_trans ?_ HW0.out ?_); (focus ((first | omega | (simp <;> omega)); done)))))
  have HT := Lib.hid (hT.later HW0.out)
  clear HD HA HB HDW hT
  have wv : IntKind.i64.wrap (hb2 - ha) = hb2 - ha := by rw [IntKind.wrap_i64]; omega
  obtain ⟨hh, hhh⟩ : ∃ h, h = hb2 - ha := ⟨_, rfl⟩
  rw [← hhh]
  have m3 : -100000 ≤ hh ∧ hh ≤ 100000 := by omega
  have HHH := Lib.hid hhh
  clear hhh
  have HR : Hid (elevV dd hh = bestE dd hh 180) := rfl
  obtain ⟨R, hR⟩ : ∃ R, R = elevV dd hh := ⟨_, rfl⟩
  rw [← hR] at HR ⊢
  clear hR
  go_enter Tryd.func18, Tryd.ntmps18
  (go_upto_region 1 with fail; rw [← hW0]; clear hW0)
  go_cut [7, 8] (fun p1_ p2_ wx => ∃ O1 O2, p1_ = .pointer (some ⟨O1, 0, none⟩) ∧ p2_ = .pointer (some ⟨O2, 0, none⟩) ∧ Hid (wx.cell? ⟨O1, 0, none⟩ = some (.int .i64 dd)) ∧ Hid (wx.cell? ⟨O2, 0, none⟩ = some (.int .i64 (hb2 - ha))) ∧ Hid (Below W0.heap.size W0 wx))
  case first =>
    go_region_held3 (fun w' => w'.cell? ⟨w.heap.size, 0, none⟩ = some (.int .i64 st) ∧ w'.cell? ⟨w.heap.size, 1, none⟩ = some (.int .i64 wd) ∧ w'.cell? ⟨w.heap.size, 2, none⟩ = some (.int .i64 ht) ∧ w'.cell? ⟨w.heap.size, 3, none⟩ = some (v) ∧ w'.cell? ⟨w.heap.size, 4, none⟩ = some (u) ∧ w'.cell? ⟨w.heap.size + 1, 0, none⟩ = some (.int .i64 x) ∧ w'.cell? ⟨w.heap.size + 1, 1, none⟩ = some (.int .i64 y) ∧ w'.cell? ⟨w.heap.size + 1, 2, none⟩ = some (.int .i64 a) ∧ w'.cell? ⟨w.heap.size + 2, 0, none⟩ = some (.int .i64 s) ∧ w'.cell? ⟨w.heap.size + 2, 1, none⟩ = some (.int .i64 t) ∧ w'.cell? ⟨w.heap.size + 2, 2, none⟩ = some (.int .i64 b))
      (((try go_split_ands); (refine ⟨?_, ?_, ?_, ?_, ?_, ?_, ?_, ?_, ?_, ?_, ?_⟩ <;> (repeat (first | (with_reducible assumption) | (with_reducible refine cell_drew ?_) | (with_reducible refine cell_drewN ?_) | (with_reducible refine cell_alloc ?_ _) | ((with_reducible refine cell_set1 ?_ ?_); (focus (omega; done))))))))
      (first
        | (go_at_call 34; ((with_reducible refine (HD0.out _ (by repeat (first | (with_reducible exact Below.refl _ _) | (with_reducible assumption) | ((with_reducible refine bl_alloc ?_ _ ?_); (focus ((first | omega | (simp <;> omega)); done))) | ((with_reducible refine bl_set ?_ _ ?_); (focus ((first | omega | (simp <;> omega)); done))) | (with_reducible refine below_drewN ?_ _) | (with_reducible refine Below.drew ?_)))).mono ?_); rintro e w50 ⟨rfl, hb⟩; have HX50 := Lib.hid (show Below W0.heap.size W0 w50 by repeat (first | (with_reducible exact Below.refl _ _) | (with_reducible assumption) | ((with_reducible refine bl_alloc ?_ _ ?_); (focus ((first | omega | (simp <;> omega)); done))) | ((with_reducible refine bl_set ?_ _ ?_); (focus ((first | omega | (simp <;> omega)); done))) | (with_reducible refine below_drewN ?_ _) | (with_reducible refine Below.drew ?_) | ((with_reducible refine bl_trans ?_ hb ?_); (focus ((first | omega | (simp <;> omega)); done))))); have zz50 := HX50.out.size; have s0_50 : w50.cell? ⟨w.heap.size, 0, none⟩ = some (.int .i64 st) := keeps HX50.out s0; have s1_50 : w50.cell? ⟨w.heap.size, 1, none⟩ = some (.int .i64 wd) := keeps HX50.out s1; have s2_50 : w50.cell? ⟨w.heap.size, 2, none⟩ = some (.int .i64 ht) := keeps HX50.out s2; have s3_50 : w50.cell? ⟨w.heap.size, 3, none⟩ = some (v) := keeps HX50.out s3; have s4_50 : w50.cell? ⟨w.heap.size, 4, none⟩ = some (u) := keeps HX50.out s4; have s5_50 : w50.cell? ⟨w.heap.size + 1, 0, none⟩ = some (.int .i64 x) := keeps HX50.out s5; have s6_50 : w50.cell? ⟨w.heap.size + 1, 1, none⟩ = some (.int .i64 y) := keeps HX50.out s6; have s7_50 : w50.cell? ⟨w.heap.size + 1, 2, none⟩ = some (.int .i64 a) := keeps HX50.out s7; have s8_50 : w50.cell? ⟨w.heap.size + 2, 0, none⟩ = some (.int .i64 s) := keeps HX50.out s8; have s9_50 : w50.cell? ⟨w.heap.size + 2, 1, none⟩ = some (.int .i64 t) := keeps HX50.out s9; have s10_50 : w50.cell? ⟨w.heap.size + 2, 2, none⟩ = some (.int .i64 b) := keeps HX50.out s10; (first | (have A50 := (mk_d2 hb).1; have B50 := (mk_d2 hb).2) | (have A50 := mk_d1 hb) | (have A50 := (mk_a2 hb).1; have B50 := (mk_a2 hb).2) | (have A50 := mk_a1 hb) | skip); (first | (have la50 := A50.lt) | skip); (first | (have lb50 := B50.lt) | skip)))
        | (go_at_call 35; ((with_reducible refine (HB0.out _ (by repeat (first | (with_reducible exact Below.refl _ _) | (with_reducible assumption) | ((with_reducible refine bl_alloc ?_ _ ?_); (focus ((first | omega | (simp <;> omega)); done))) | ((with_reducible refine bl_set ?_ _ ?_); (focus ((first | omega | (simp <;> omega)); done))) | (with_reducible refine below_drewN ?_ _) | (with_reducible refine Below.drew ?_) | ((with_reducible refine bl_trans ?_ HX50.out ?_); (focus ((first | omega | (simp <;> omega)); done)))))).mono ?_); rintro e w51 ⟨rfl, hb⟩; have HX51 := Lib.hid (show Below W0.heap.size W0 w51 by repeat (first | (with_reducible exact Below.refl _ _) | (with_reducible assumption) | ((with_reducible refine bl_alloc ?_ _ ?_); (focus ((first | omega | (simp <;> omega)); done))) | ((with_reducible refine bl_set ?_ _ ?_); (focus ((first | omega | (simp <;> omega)); done))) | (with_reducible refine below_drewN ?_ _) | (with_reducible refine Below.drew ?_) | ((with_reducible refine bl_trans ?_ hb ?_); (focus ((first | omega | (simp <;> omega)); done))) | ((with_reducible refine bl_trans ?_ HX50.out ?_); (focus ((first | omega | (simp <;> omega)); done))))); have zz51 := HX51.out.size; have s0_51 : w51.cell? ⟨w.heap.size, 0, none⟩ = some (.int .i64 st) := keeps HX51.out s0; have s1_51 : w51.cell? ⟨w.heap.size, 1, none⟩ = some (.int .i64 wd) := keeps HX51.out s1; have s2_51 : w51.cell? ⟨w.heap.size, 2, none⟩ = some (.int .i64 ht) := keeps HX51.out s2; have s3_51 : w51.cell? ⟨w.heap.size, 3, none⟩ = some (v) := keeps HX51.out s3; have s4_51 : w51.cell? ⟨w.heap.size, 4, none⟩ = some (u) := keeps HX51.out s4; have s5_51 : w51.cell? ⟨w.heap.size + 1, 0, none⟩ = some (.int .i64 x) := keeps HX51.out s5; have s6_51 : w51.cell? ⟨w.heap.size + 1, 1, none⟩ = some (.int .i64 y) := keeps HX51.out s6; have s7_51 : w51.cell? ⟨w.heap.size + 1, 2, none⟩ = some (.int .i64 a) := keeps HX51.out s7; have s8_51 : w51.cell? ⟨w.heap.size + 2, 0, none⟩ = some (.int .i64 s) := keeps HX51.out s8; have s9_51 : w51.cell? ⟨w.heap.size + 2, 1, none⟩ = some (.int .i64 t) := keeps HX51.out s9; have s10_51 : w51.cell? ⟨w.heap.size + 2, 2, none⟩ = some (.int .i64 b) := keeps HX51.out s10; (first | (have A51 := A50.later hb; have B51 := B50.later hb) | (have A51 := (A50.alloc_ _).later hb; have B51 := mk_a1 hb) | (have A51 := A50.later hb) | (have A51 := (mk_a2 hb).1; have B51 := (mk_a2 hb).2) | (have A51 := mk_a1 hb) | skip); (first | (have la51 := A51.lt) | skip); (first | (have lb51 := B51.lt) | skip)))
        | (go_at_call 35; ((with_reducible refine (HA0.out _ (by repeat (first | (with_reducible exact Below.refl _ _) | (with_reducible assumption) | ((with_reducible refine bl_alloc ?_ _ ?_); (focus ((first | omega | (simp <;> omega)); done))) | ((with_reducible refine bl_set ?_ _ ?_); (focus ((first | omega | (simp <;> omega)); done))) | (with_reducible refine below_drewN ?_ _) | (with_reducible refine Below.drew ?_) | ((with_reducible refine bl_trans ?_ HX51.out ?_); (focus ((first | omega | (simp <;> omega)); done)))))).mono ?_); rintro e w52 ⟨rfl, hb⟩; have HX52 := Lib.hid (show Below W0.heap.size W0 w52 by repeat (first | (with_reducible exact Below.refl _ _) | (with_reducible assumption) | ((with_reducible refine bl_alloc ?_ _ ?_); (focus ((first | omega | (simp <;> omega)); done))) | ((with_reducible refine bl_set ?_ _ ?_); (focus ((first | omega | (simp <;> omega)); done))) | (with_reducible refine below_drewN ?_ _) | (with_reducible refine Below.drew ?_) | ((with_reducible refine bl_trans ?_ hb ?_); (focus ((first | omega | (simp <;> omega)); done))) | ((with_reducible refine bl_trans ?_ HX51.out ?_); (focus ((first | omega | (simp <;> omega)); done))))); have zz52 := HX52.out.size; have s0_52 : w52.cell? ⟨w.heap.size, 0, none⟩ = some (.int .i64 st) := keeps HX52.out s0; have s1_52 : w52.cell? ⟨w.heap.size, 1, none⟩ = some (.int .i64 wd) := keeps HX52.out s1; have s2_52 : w52.cell? ⟨w.heap.size, 2, none⟩ = some (.int .i64 ht) := keeps HX52.out s2; have s3_52 : w52.cell? ⟨w.heap.size, 3, none⟩ = some (v) := keeps HX52.out s3; have s4_52 : w52.cell? ⟨w.heap.size, 4, none⟩ = some (u) := keeps HX52.out s4; have s5_52 : w52.cell? ⟨w.heap.size + 1, 0, none⟩ = some (.int .i64 x) := keeps HX52.out s5; have s6_52 : w52.cell? ⟨w.heap.size + 1, 1, none⟩ = some (.int .i64 y) := keeps HX52.out s6; have s7_52 : w52.cell? ⟨w.heap.size + 1, 2, none⟩ = some (.int .i64 a) := keeps HX52.out s7; have s8_52 : w52.cell? ⟨w.heap.size + 2, 0, none⟩ = some (.int .i64 s) := keeps HX52.out s8; have s9_52 : w52.cell? ⟨w.heap.size + 2, 1, none⟩ = some (.int .i64 t) := keeps HX52.out s9; have s10_52 : w52.cell? ⟨w.heap.size + 2, 2, none⟩ = some (.int .i64 b) := keeps HX52.out s10; (first | (have A52 := A51.later hb; have B52 := B51.later hb) | (have A52 := (A51.alloc_ _).later hb; have B52 := mk_a1 hb) | (have A52 := A51.later hb) | (have A52 := (mk_a2 hb).1; have B52 := (mk_a2 hb).2) | (have A52 := mk_a1 hb) | skip); (first | (have la52 := A52.lt) | skip); (first | (have lb52 := B52.lt) | skip); (first | (obtain ⟨ca_, fa_, cb_, fb_, q1_, q2_, q3_, q4_⟩ := two_set A52 B52 rfl rfl (by omega)) | (obtain ⟨ca_, fa_, q1_, q2_⟩ := one_set A52 rfl) | skip))))
    all_goals (go_wp2_with fail; go_meet)
    all_goals first
      | exact ⟨_, _, rfl, rfl, (show Hid _ from by show _ = _; repeat (first | (with_reducible assumption) | (with_reducible exact ca_) | (with_reducible exact cb_) | (with_reducible exact cell_new0 _ _ _ _) | (with_reducible exact cell_new1 _ _ _ _ _) | (with_reducible exact cell_put (q1_ _)) | (with_reducible exact cell_put (q3_ _)) | (exact cell_new0 _ _ _ _) | (simp [go_sem]; done) | (with_reducible refine cell_alloc ?_ _) | (with_reducible exact cell_put (by assumption)) | (with_reducible exact cell_put (cell_alloc (by assumption) _)) | ((with_reducible refine cell_set1 ?_ ?_); (focus (omega; done))))), (show Hid _ from by show _ = _; repeat (first | (with_reducible assumption) | (with_reducible exact ca_) | (with_reducible exact cb_) | (with_reducible exact cell_new0 _ _ _ _) | (with_reducible exact cell_new1 _ _ _ _ _) | (with_reducible exact cell_put (q1_ _)) | (with_reducible exact cell_put (q3_ _)) | (exact cell_new0 _ _ _ _) | (simp [go_sem]; done) | (with_reducible refine cell_alloc ?_ _) | (with_reducible exact cell_put (by assumption)) | (with_reducible exact cell_put (cell_alloc (by assumption) _)) | ((with_reducible refine cell_set1 ?_ ?_); (focus (omega; done))))), Lib.hid (by repeat (first | (with_reducible exact Below.refl _ _) | (with_reducible assumption) | ((with_reducible refine bl_alloc ?_ _ ?_); (focus ((first | omega | (simp <;> omega)); done))) | ((with_reducible refine bl_set ?_ _ ?_); (focus ((first | omega | (simp <;> omega)); done))) | (with_reducible refine below_drewN ?_ _) | (with_reducible refine Below.drew ?_) | ((with_reducible refine bl_trans ?_ HX52.out ?_); (focus ((first | omega | (simp <;> omega)); done)))))⟩
  obtain ⟨O1, O2, hp1_, hp2_, hc1, hc2, hbx⟩ := hcut
  subst hp1_ hp2_
  obtain ⟨wx_, hw_⟩ : ∃ x, x = wc := ⟨_, rfl⟩
  rw [← hw_] at hc1 hc2 hbx ⊢
  clear hw_
  rw [← HHH.out] at hc2
  obtain ⟨h0, h1⟩ := m3
  obtain ⟨d0, d1⟩ := n3
  have HT1 := Lib.hid (HT.out.later hbx.out)
  clear HD0 HA0 HB0 HT HHH wv m1 m2 s0 s1 s2 s3 s4 s5 s6 s7 s8 s9 s10
  have zx := hbx.out.size
  have HF : Hid (∀ (W : World) (e : Int), Below wx_.heap.size wx_ W → -90 ≤ e → e ≤ 90 → Calls Tryd.prog 36 #[.int .i64 e, .pointer (some ⟨O1, 0, none⟩), .pointer (some ⟨O2, 0, none⟩)] W fun r w' => r = .returned (.int .i64 (dotE dd hh e)) ∧ Below W.heap.size W w') := fun W e hW q0 q1 => toward1_any W (HT1.out.later hW) dd hh e d0 (by omega) h0 h1 q0 q1 O1 O2 (keeps hW hc1.out) (keeps hW hc2.out)
  have ef : ∀ args w, (callFunc 36 args).run Tryd.prog w = .ok (.enter 36 args) w := enters_of Tryd.func36 (by kernel_rfl) rfl
  go_wp2_with fail
  go_loopw [10, 11] (fun a c wr => ∃ k : Nat, k ≤ 180 ∧ a = .int .i64 (bestE dd hh k) ∧ c = .int .i64 (-89 + (k : Int)) ∧ Hid (Below wx_.heap.size wx_ wr)) (fun _ c _ => (91 - intOf c).toNat)
  case atStart => exact ⟨0, Nat.zero_le _, rfl, rfl, (show Below _ _ _ by repeat (first | (with_reducible exact Below.refl _ _) | (with_reducible assumption) | ((with_reducible refine bl_alloc ?_ _ ?_); (focus ((first | omega | (simp <;> omega)); done))) | ((with_reducible refine bl_set ?_ _ ?_); (focus ((first | omega | (simp <;> omega)); done))) | (with_reducible refine below_drewN ?_ _) | (with_reducible refine Below.drew ?_)))⟩
  case round =>
    obtain ⟨k, hk, rfl, rfl, hb⟩ := hrel
    have zw := hb.out.size
    have hbb := best_bd (d := dd) (h := hh) k
    by_cases hlt : k < 180
    · have UP := Lib.hid (best_up (d := dd) (h := hh) (k := k))
      have NO := Lib.hid (best_no (d := dd) (h := hh) (k := k))
      obtain ⟨E, hE⟩ : ∃ E : Int, E = -89 + (k : Int) := ⟨_, rfl⟩
      rw [← hE] at UP NO ⊢
      have e0 : -90 ≤ E := by omega
      have e1 : E ≤ 90 := by omega
      have NXT := Lib.hid (show E + 1 = -89 + ((k + 1 : Nat) : Int) by omega)
      have HLE := Lib.hid (show k + 1 ≤ 180 by omega)
      obtain ⟨X, hX⟩ : ∃ X, X = bestE dd hh k := ⟨_, rfl⟩
      rw [← hX] at UP NO hbb ⊢
      have HX := Lib.hid hX
      obtain ⟨b0, b1⟩ := hbb
      have b2 : X ≤ 90 := by omega
      have HF1 : Hid (∀ W : World, Below wx_.heap.size wx_ W → Calls Tryd.prog 36 #[.int .i64 E, .pointer (some ⟨O1, 0, none⟩), .pointer (some ⟨O2, 0, none⟩)] W fun r w' => r = .returned (.int .i64 (dotE dd hh E)) ∧ Below W.heap.size W w') := fun W hW => HF.out W E hW e0 e1
      have HF2 : Hid (∀ W : World, Below wx_.heap.size wx_ W → Calls Tryd.prog 36 #[.int .i64 X, .pointer (some ⟨O1, 0, none⟩), .pointer (some ⟨O2, 0, none⟩)] W fun r w' => r = .returned (.int .i64 (dotE dd hh X)) ∧ Below W.heap.size W w') := fun W hW => HF.out W X hW b0 b2
      obtain ⟨DE, hDE⟩ : ∃ D, D = dotE dd hh E := ⟨_, rfl⟩
      obtain ⟨DX, hDX⟩ : ∃ D, D = dotE dd hh X := ⟨_, rfl⟩
      rw [← hDE, ← hDX] at UP NO
      rw [← hDE] at HF1
      rw [← hDX] at HF2
      clear hX hE hDE hDX hk hlt b1
      by_cases hgt : DX < DE
      · have HU := Lib.hid (UP.out hgt)
        clear UP NO
        go_wp2_with (go_at_fn 36; first | ((with_reducible refine (HF1.out _ hb.out).mono ?_); rintro r w1 ⟨rfl, hb1⟩; have H1 := Lib.hid (show Below wx_.heap.size wx_ w1 by repeat (first | (with_reducible exact Below.refl _ _) | (with_reducible assumption) | ((with_reducible refine bl_alloc ?_ _ ?_); (focus ((first | omega | (simp <;> omega)); done))) | ((with_reducible refine bl_set ?_ _ ?_); (focus ((first | omega | (simp <;> omega)); done))) | (with_reducible refine below_drewN ?_ _) | (with_reducible refine Below.drew ?_) | ((with_reducible refine bl_trans ?_ hb1 ?_); (focus ((first | omega | (simp <;> omega)); done))) | ((with_reducible refine bl_trans ?_ hb.out ?_); (focus ((first | omega | (simp <;> omega)); done))))); have zz1 := H1.out.size; clear hb1) | ((with_reducible refine (HF2.out _ H1.out).mono ?_); rintro r w2 ⟨rfl, hb1⟩; have H2 := Lib.hid (show Below wx_.heap.size wx_ w2 by repeat (first | (with_reducible exact Below.refl _ _) | (with_reducible assumption) | ((with_reducible refine bl_alloc ?_ _ ?_); (focus ((first | omega | (simp <;> omega)); done))) | ((with_reducible refine bl_set ?_ _ ?_); (focus ((first | omega | (simp <;> omega)); done))) | (with_reducible refine below_drewN ?_ _) | (with_reducible refine Below.drew ?_) | ((with_reducible refine bl_trans ?_ hb1 ?_); (focus ((first | omega | (simp <;> omega)); done))) | ((with_reducible refine bl_trans ?_ H1.out ?_); (focus ((first | omega | (simp <;> omega)); done))))); clear hb1))
        refine ⟨?_, ?_⟩
        · first
            | ((repeat apply Exists.intro); (refine ⟨?_, rfl⟩); exact ⟨(k + 1 : Nat), HLE.out, by rw [HU.out], by rw [NXT.out], H2⟩)
            | exact ⟨(k + 1 : Nat), HLE.out, by rw [HU.out], by rw [NXT.out], H2⟩
        · simp [intOf]; omega
      · have HU := Lib.hid (NO.out hgt)
        clear UP NO
        go_wp2_with (go_at_fn 36; first | ((with_reducible refine (HF1.out _ hb.out).mono ?_); rintro r w1 ⟨rfl, hb1⟩; have H1 := Lib.hid (show Below wx_.heap.size wx_ w1 by repeat (first | (with_reducible exact Below.refl _ _) | (with_reducible assumption) | ((with_reducible refine bl_alloc ?_ _ ?_); (focus ((first | omega | (simp <;> omega)); done))) | ((with_reducible refine bl_set ?_ _ ?_); (focus ((first | omega | (simp <;> omega)); done))) | (with_reducible refine below_drewN ?_ _) | (with_reducible refine Below.drew ?_) | ((with_reducible refine bl_trans ?_ hb1 ?_); (focus ((first | omega | (simp <;> omega)); done))) | ((with_reducible refine bl_trans ?_ hb.out ?_); (focus ((first | omega | (simp <;> omega)); done))))); have zz1 := H1.out.size; clear hb1) | ((with_reducible refine (HF2.out _ H1.out).mono ?_); rintro r w2 ⟨rfl, hb1⟩; have H2 := Lib.hid (show Below wx_.heap.size wx_ w2 by repeat (first | (with_reducible exact Below.refl _ _) | (with_reducible assumption) | ((with_reducible refine bl_alloc ?_ _ ?_); (focus ((first | omega | (simp <;> omega)); done))) | ((with_reducible refine bl_set ?_ _ ?_); (focus ((first | omega | (simp <;> omega)); done))) | (with_reducible refine below_drewN ?_ _) | (with_reducible refine Below.drew ?_) | ((with_reducible refine bl_trans ?_ hb1 ?_); (focus ((first | omega | (simp <;> omega)); done))) | ((with_reducible refine bl_trans ?_ H1.out ?_); (focus ((first | omega | (simp <;> omega)); done))))); clear hb1))
        refine ⟨?_, ?_⟩
        · first
            | ((repeat apply Exists.intro); (refine ⟨?_, rfl⟩); exact ⟨(k + 1 : Nat), HLE.out, by rw [HU.out, HX.out], by rw [NXT.out], H2⟩)
            | exact ⟨(k + 1 : Nat), HLE.out, by rw [HU.out, HX.out], by rw [NXT.out], H2⟩
        · simp [intOf]; omega
    · have hk' : k = 180 := by omega
      have HX : Hid (bestE dd hh k = R) := by show _ = _; rw [hk']; exact HR.out.symm
      obtain ⟨X, hX⟩ : ∃ X, X = bestE dd hh k := ⟨_, rfl⟩
      rw [← hX] at HX hbb ⊢
      have hg : (90 : Int) < -89 + (k : Int) := by omega
      clear hX
      go_wp2_with fail
      go_ret
      exact ⟨ret_int HX.out, by repeat (first | (with_reducible exact Below.refl _ _) | (with_reducible assumption) | ((with_reducible refine bl_alloc ?_ _ ?_); (focus ((first | omega | (simp <;> omega)); done))) | ((with_reducible refine bl_set ?_ _ ?_); (focus ((first | omega | (simp <;> omega)); done))) | (with_reducible refine below_drewN ?_ _) | (with_reducible refine Below.drew ?_) | ((with_reducible refine bl_trans ?_ hb.out ?_); (focus ((first | omega | (simp <;> omega)); done))) | ((with_reducible refine bl_trans ?_ hbx.out ?_); (focus ((first | omega | (simp <;> omega)); done))) | ((with_reducible refine bl_trans ?_ HW0.out ?_); (focus ((first | omega | (simp <;> omega)); done))))⟩
end Go.Proofs.YtedpdcdmemenhaaDoor
