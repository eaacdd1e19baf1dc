/-
  The profile between two ends: the program's. The conditions are the hypotheses.
-/
import Derived.Test.YtedpdcdmemenhaaRows
import Derived.Test.YtedpdcdmemenhaaLib
import Derived.Test.YtedpdcdmemenhaaInt
import Derived.Test.YtedpdcdmemenhaaWithin
import Derived.Test.YtedpdcdmemenhaaAll
import Derived.Test.YtedpdcdmemenhaaArgs
import Derived.Test.YtedpdcdmemenhaaOwn
import Derived.Test.YtedpdcdmemenhaaField
import Derived.Test.YtedpdcdmemenhaaModes
import Derived.Test.YtedpdcdmemenhaaMk
import Derived.Test.YtedpdcdmemenhaaTer
import Derived.Test.YtedpdcdmemenhaaIn
import Derived.Test.YtedpdcdmemenhaaEnds
import Derived.Test.YtedpdcdmemenhaaHgtP
import Derived.Test.YtedpdcdmemenhaaHgtI
import Derived.Test.YtedpdcdmemenhaaHigh
import Derived.Test.YtedpdcdmemenhaaApart
import Derived.Test.YtedpdcdmemenhaaPlaP
import Derived.Test.YtedpdcdmemenhaaPlaS
import Derived.Test.YtedpdcdmemenhaaPlaI
import Derived.Test.YtedpdcdmemenhaaPflS
import Derived.Shelf.Abstract
import Derived.OwnWalk
import Derived.Deep.AppendLies
import Derived.Deep.RegionLaw
import Derived.Outline
import Derived.Deep.DeepCutAuto
import Derived.Deep.QuietTactic
import Derived.BigQuiet
import Derived.Deep.RegionHeld3
import Derived.Deep.DrawnRows
namespace Go.Proofs.Ytedpdcdmemenhaa
open Go.RowKit
set_option linter.unusedSimpArgs false
set_option linter.unusedVariables false
attribute [local go_sem ↓] Go.wp_at_zero Go.wp_at_succ
theorem iowns {e : TypeId} {w : World} {b n : Nat} {v : Value} {xs : List Int} (hn : xs.length = n) (h : Row e w b v xs) : w.ownsRow b e 1 v n (xs.map (Value.int .i64)) := by
  subst hn
  exact h
set_option maxRecDepth 20000 in
set_option maxHeartbeats 16000000 in
theorem profile_any (w : World) (st wd ht : Int) (v u : Value) (hs cs : List Int) (p : Nat) (hr : Row 2 w p v hs) (x y a s t b : Int) (h1 : terB st wd ht hs cs = true) (h2 : endB x y a = true) (h3 : endB s t b = true) (h4 : hasB st wd ht x y = true) (h5 : hasB st wd ht s t = true) :
    Calls Try.prog 75 #[.agg #[.int .i64 st, .int .i64 wd, .int .i64 ht, v, u], .agg #[.int .i64 x, .int .i64 y, .int .i64 a], .agg #[.int .i64 s, .int .i64 t, .int .i64 b]] w fun e w' => ∃ A n c, e = .returned (.agg #[.int .i64 (apartV x y s t), .int .i64 (heightB st wd ht hs x y + a), .int .i64 (heightB st wd ht hs s t + b), .slice A n c]) ∧ Row 2 w' w.heap.size (.slice A n c) (profH st wd ht hs x y s t) ∧ Below w.heap.size w w' := by
  obtain ⟨hz, hl, _, hb⟩ := ter_parts h1
  obtain ⟨⟨x0, x1⟩, ⟨y0, y1⟩⟩ := has_parts h4
  obtain ⟨⟨s0, s1⟩, ⟨t0, t1⟩⟩ := has_parts h5
  obtain ⟨ex, ey, a0, a1⟩ := end_parts h2
  obtain ⟨es, et, b0, b1⟩ := end_parts h3
  have HD : Hid (∀ W : World, Calls Try.prog 109 #[.agg #[.int .i64 x, .int .i64 y], .agg #[.int .i64 s, .int .i64 t]] W fun e w' => e = .returned (.int .i64 (apartV x y s t)) ∧ Below W.heap.size W w') := fun W => distanceOf_any W x y s t ex ey es et
  have HA : Hid (∀ W : World, Below w.heap.size w W → Calls Try.prog 72 #[.agg #[.int .i64 st, .int .i64 wd, .int .i64 ht, v, u], .agg #[.int .i64 x, .int .i64 y, .int .i64 a]] W fun e w' => e = .returned (.int .i64 (heightB st wd ht hs x y + a)) ∧ Below W.heap.size W w') := fun W hW => endHeight_any W st wd ht x y a v u hs p (hr.later hW) hz hl hb x0 x1 y0 y1 a0 a1
  have HB : Hid (∀ W : World, Below w.heap.size w W → Calls Try.prog 72 #[.agg #[.int .i64 st, .int .i64 wd, .int .i64 ht, v, u], .agg #[.int .i64 s, .int .i64 t, .int .i64 b]] W fun e w' => e = .returned (.int .i64 (heightB st wd ht hs s t + b)) ∧ Below W.heap.size W w') := fun W hW => endHeight_any W st wd ht s t b v u hs p (hr.later hW) hz hl hb s0 s1 t0 t1 b0 b1
  have HPL : Hid (∀ W : World, Calls Try.prog 110 #[.agg #[.int .i64 x, .int .i64 y], .agg #[.int .i64 s, .int .i64 t], .int .i64 17] W fun e w' => ∃ g c, e = .returned (.slice (some ⟨g, 0, none⟩) 17 c) ∧ RowM 64 w' W.heap.size (.slice (some ⟨g, 0, none⟩) 17 c) (placesL x y s t) ∧ Below W.heap.size W w') := fun W => profilePlaces_any W x y s t ex.1 ex.2 ey.1 ey.2 es.1 es.2 et.1 et.2
  have HC : Hid (∀ (W : World) (k : Nat), Below w.heap.size w W → k < 17 → Calls Try.prog 106 #[.agg #[.int .i64 st, .int .i64 wd, .int .i64 ht, v, u], .agg #[.int .i64 (plK x y s t k).1, .int .i64 (plK x y s t k).2]] W fun e w' => e = .returned (.int .i64 (heightB st wd ht hs (plK x y s t k).1 (plK x y s t k).2)) ∧ Below W.heap.size W w') := fun W k hW hk => by
    obtain ⟨⟨a0, a1⟩, b0, b1⟩ := plK_bd (k := k) x0 x1 y0 y1 s0 s1 t0 t1 hk
    exact heightAt_any W st wd ht _ _ v u hs p (hr.later hW) hz hl hb a0 a1 b0 b1
  have HTK := Lib.hid (fun k (h : k < 17) => profH_take (st := st) (wd := wd) (ht := ht) (hs := hs) (x := x) (y := y) (s := s) (t := t) h)
  have HLEN := Lib.hid (profH_len st wd ht hs x y s t)
  have HPA := Lib.hid (fun k (h : k < 17) => places_at (x := x) (y := y) (s := s) (t := t) h)
  have HPN := Lib.hid (places_len x y s t)
  clear hr hz hl hb x0 x1 y0 y1 s0 s1 t0 t1 ex ey es et a0 a1 b0 b1 h1 h2 h3 h4 h5
  obtain ⟨PH, hPH⟩ : ∃ P, P = profH st wd ht hs x y s t := ⟨_, rfl⟩
  rw [← hPH] at HTK HLEN ⊢
  clear hPH
  obtain ⟨dd, hdd⟩ : ∃ d, d = apartV x y s t := ⟨_, rfl⟩
  obtain ⟨ha, hha⟩ : ∃ d, d = heightB st wd ht hs x y + a := ⟨_, rfl⟩
  obtain ⟨hb2, hhb⟩ : ∃ d, d = heightB st wd ht hs s t + b := ⟨_, rfl⟩
  rw [← hdd] at HD
  rw [← hha] at HA
  rw [← hhb] at HB
  rw [← hdd, ← hha, ← hhb]
  clear hdd hha hhb
  obtain ⟨i0, hi, hz0, hz1, hz2⟩ := info_parts Try.info_i64
  have HI := Lib.hid hi
  have HZ0 := Lib.hid hz0
  have HZ1 := Lib.hid hz1
  have HZ2 := Lib.hid hz2
  clear hi hz0 hz1 hz2
  obtain ⟨W0, hW0⟩ : ∃ W, W = (((w.alloc (.cells #[.int .i64 st, .int .i64 wd, .int .i64 ht, v, u] 62)).alloc (.cells #[.int .i64 x, .int .i64 y, .int .i64 a] 66)).alloc (.cells #[.int .i64 s, .int .i64 t, .int .i64 b] 66)).alloc (.cells #[.int .i64 0, .int .i64 0, .int .i64 0, .slice none 0 0] 46) := ⟨_, rfl⟩
  have HW0 := Lib.hid (show Below w.heap.size w W0 by rw [hW0]; repeat (first | (with_reducible exact Below.refl _ _) | (with_reducible assumption) | ((with_reducible refine bl_alloc ?_ _ ?_); (focus ((first | omega | (simp <;> omega)); done))) | ((with_reducible refine bl_set ?_ _ ?_); (focus ((first | omega | (simp <;> omega)); done))) | (with_reducible refine below_drewN ?_ _) | (with_reducible refine Below.drew ?_)))
  have z0 := HW0.out.size
  have s0 : W0.cell? ⟨w.heap.size, 0, none⟩ = some (.int .i64 st) := by rw [hW0]; simp [go_sem]
  have s1 : W0.cell? ⟨w.heap.size, 1, none⟩ = some (.int .i64 wd) := by rw [hW0]; simp [go_sem]
  have s2 : W0.cell? ⟨w.heap.size, 2, none⟩ = some (.int .i64 ht) := by rw [hW0]; simp [go_sem]
  have s3 : W0.cell? ⟨w.heap.size, 3, none⟩ = some (v) := by rw [hW0]; simp [go_sem]
  have s4 : W0.cell? ⟨w.heap.size, 4, none⟩ = some (u) := by rw [hW0]; simp [go_sem]
  have s5 : W0.cell? ⟨w.heap.size + 1, 0, none⟩ = some (.int .i64 x) := by rw [hW0]; simp [go_sem]
  have s6 : W0.cell? ⟨w.heap.size + 1, 1, none⟩ = some (.int .i64 y) := by rw [hW0]; simp [go_sem]
  have s7 : W0.cell? ⟨w.heap.size + 1, 2, none⟩ = some (.int .i64 a) := by rw [hW0]; simp [go_sem]
  have s8 : W0.cell? ⟨w.heap.size + 2, 0, none⟩ = some (.int .i64 s) := by rw [hW0]; simp [go_sem]
  have s9 : W0.cell? ⟨w.heap.size + 2, 1, none⟩ = some (.int .i64 t) := by rw [hW0]; simp [go_sem]
  have s10 : W0.cell? ⟨w.heap.size + 2, 2, none⟩ = some (.int .i64 b) := by rw [hW0]; simp [go_sem]
  have lW : w.heap.size + 3 < W0.heap.size := by rw [hW0]; simp
  have SR0 : Hid (SInv W0 (w.heap.size + 3) [.int .i64 0, .int .i64 0, .int .i64 0, .slice none 0 0]) := by
    show SInv _ _ _
    rw [hW0]
    have h := SInv.fresh (((w.alloc (.cells #[.int .i64 st, .int .i64 wd, .int .i64 ht, v, u] 62)).alloc (.cells #[.int .i64 x, .int .i64 y, .int .i64 a] 66)).alloc (.cells #[.int .i64 s, .int .i64 t, .int .i64 b] 66)) #[.int .i64 0, .int .i64 0, .int .i64 0, .slice none 0 0] 46
    have e : (((w.alloc (.cells #[.int .i64 st, .int .i64 wd, .int .i64 ht, v, u] 62)).alloc (.cells #[.int .i64 x, .int .i64 y, .int .i64 a] 66)).alloc (.cells #[.int .i64 s, .int .i64 t, .int .i64 b] 66)).heap.size = w.heap.size + 3 := by simp
    rw [e] at h
    exact h
  have HD0 : Hid (∀ W : World, Below W0.heap.size W0 W → Calls Try.prog 109 #[.agg #[.int .i64 x, .int .i64 y], .agg #[.int .i64 s, .int .i64 t]] W fun e w' => e = .returned (.int .i64 dd) ∧ Below W.heap.size W w') := fun W hW => HD.out W
  have HA0 : Hid (∀ W : World, Below W0.heap.size W0 W → Calls Try.prog 72 #[.agg #[.int .i64 st, .int .i64 wd, .int .i64 ht, v, u], .agg #[.int .i64 x, .int .i64 y, .int .i64 a]] W fun e w' => e = .returned (.int .i64 ha) ∧ Below W.heap.size W w') := fun W hW => HA.out W (by repeat (first | (with_reducible exact Below.refl _ _) | (with_reducible assumption) | ((with_reducible refine bl_alloc ?_ _ ?_); (focus ((first | omega | (simp <;> omega)); done))) | ((with_reducible refine bl_set ?_ _ ?_); (focus ((first | omega | (simp <;> omega)); done))) | (with_reducible refine below_drewN ?_ _) | (with_reducible refine Below.drew ?_) | ((with_reducible refine bl_trans ?_ hW ?_); (focus ((first | omega | (simp <;> omega)); done))) | ((with_reducible refine bl_trans ?_ HW0.out ?_); (focus ((first | omega | (simp <;> omega)); done)))))
  have HB0 : Hid (∀ W : World, Below W0.heap.size W0 W → Calls Try.prog 72 #[.agg #[.int .i64 st, .int .i64 wd, .int .i64 ht, v, u], .agg #[.int .i64 s, .int .i64 t, .int .i64 b]] W fun e w' => e = .returned (.int .i64 hb2) ∧ Below W.heap.size W w') := fun W hW => HB.out W (by repeat (first | (with_reducible exact Below.refl _ _) | (with_reducible assumption) | ((with_reducible refine bl_alloc ?_ _ ?_); (focus ((first | omega | (simp <;> omega)); done))) | ((with_reducible refine bl_set ?_ _ ?_); (focus ((first | omega | (simp <;> omega)); done))) | (with_reducible refine below_drewN ?_ _) | (with_reducible refine Below.drew ?_) | ((with_reducible refine bl_trans ?_ hW ?_); (focus ((first | omega | (simp <;> omega)); done))) | ((with_reducible refine bl_trans ?_ HW0.out ?_); (focus ((first | omega | (simp <;> omega)); done)))))
  clear HD HA HB
  have E0 := Lib.hid s0
  have E1 := Lib.hid s1
  have E2 := Lib.hid s2
  have E3 := Lib.hid s3
  have E4 := Lib.hid s4
  go_enter Try.func75, Try.ntmps75
  (go_upto_region 1 with fail; rw [← hW0]; clear hW0)
  go_cut [7] (fun p_ wx => ∃ O_, p_ = .pointer (some ⟨O_, 0, none⟩) ∧ Hid (SInv wx O_ [.int .i64 dd, .int .i64 ha, .int .i64 hb2, .slice none 0 0]) ∧ Hid (W0.heap.size ≤ O_) ∧ Hid (Below W0.heap.size W0 wx))
  case first =>
    go_region_held3 (fun w' => w'.cell? ⟨w.heap.size, 0, none⟩ = some (.int .i64 st) ∧ w'.cell? ⟨w.heap.size, 1, none⟩ = some (.int .i64 wd) ∧ w'.cell? ⟨w.heap.size, 2, none⟩ = some (.int .i64 ht) ∧ w'.cell? ⟨w.heap.size, 3, none⟩ = some (v) ∧ w'.cell? ⟨w.heap.size, 4, none⟩ = some (u) ∧ w'.cell? ⟨w.heap.size + 1, 0, none⟩ = some (.int .i64 x) ∧ w'.cell? ⟨w.heap.size + 1, 1, none⟩ = some (.int .i64 y) ∧ w'.cell? ⟨w.heap.size + 1, 2, none⟩ = some (.int .i64 a) ∧ w'.cell? ⟨w.heap.size + 2, 0, none⟩ = some (.int .i64 s) ∧ w'.cell? ⟨w.heap.size + 2, 1, none⟩ = some (.int .i64 t) ∧ w'.cell? ⟨w.heap.size + 2, 2, none⟩ = some (.int .i64 b))
      (((try go_split_ands); (refine ⟨?_, ?_, ?_, ?_, ?_, ?_, ?_, ?_, ?_, ?_, ?_⟩ <;> (repeat (first | (with_reducible assumption) | (with_reducible refine cell_drew ?_) | (with_reducible refine cell_drewN ?_) | (with_reducible refine cell_alloc ?_ _) | ((with_reducible refine cell_set1 ?_ ?_); (focus (omega; done))) | (with_reducible refine keeps hb ?_))))))
      (first
        | (go_at_call 109; ((with_reducible refine (HD0.out _ (by repeat (first | (with_reducible exact Below.refl _ _) | (with_reducible assumption) | ((with_reducible refine bl_alloc ?_ _ ?_); (focus ((first | omega | (simp <;> omega)); done))) | ((with_reducible refine bl_set ?_ _ ?_); (focus ((first | omega | (simp <;> omega)); done))) | (with_reducible refine below_drewN ?_ _) | (with_reducible refine Below.drew ?_)))).mono ?_); rintro e w50 ⟨rfl, hb⟩; have zz50 : W0.heap.size ≤ w50.heap.size := (by have := hb.size; ((try simp at this) <;> omega)); have HX50 := Lib.hid (show Below W0.heap.size W0 w50 by repeat (first | (with_reducible exact Below.refl _ _) | (with_reducible assumption) | ((with_reducible refine bl_alloc ?_ _ ?_); (focus ((first | omega | (simp <;> omega)); done))) | ((with_reducible refine bl_set ?_ _ ?_); (focus ((first | omega | (simp <;> omega)); done))) | (with_reducible refine below_drewN ?_ _) | (with_reducible refine Below.drew ?_) | ((with_reducible refine bl_trans ?_ hb ?_); (focus ((first | omega | (simp <;> omega)); done))))); have s0_50 : w50.cell? ⟨w.heap.size, 0, none⟩ = some (.int .i64 st) := (by first | exact keeps hb s0 | exact keeps1 hb s0 | exact keeps hb (cell_alloc s0 _) | exact keeps hb (cell_alloc (cell_drew s0) _)); have s1_50 : w50.cell? ⟨w.heap.size, 1, none⟩ = some (.int .i64 wd) := (by first | exact keeps hb s1 | exact keeps1 hb s1 | exact keeps hb (cell_alloc s1 _) | exact keeps hb (cell_alloc (cell_drew s1) _)); have s2_50 : w50.cell? ⟨w.heap.size, 2, none⟩ = some (.int .i64 ht) := (by first | exact keeps hb s2 | exact keeps1 hb s2 | exact keeps hb (cell_alloc s2 _) | exact keeps hb (cell_alloc (cell_drew s2) _)); have s3_50 : w50.cell? ⟨w.heap.size, 3, none⟩ = some (v) := (by first | exact keeps hb s3 | exact keeps1 hb s3 | exact keeps hb (cell_alloc s3 _) | exact keeps hb (cell_alloc (cell_drew s3) _)); have s4_50 : w50.cell? ⟨w.heap.size, 4, none⟩ = some (u) := (by first | exact keeps hb s4 | exact keeps1 hb s4 | exact keeps hb (cell_alloc s4 _) | exact keeps hb (cell_alloc (cell_drew s4) _)); have s5_50 : w50.cell? ⟨w.heap.size + 1, 0, none⟩ = some (.int .i64 x) := (by first | exact keeps hb s5 | exact keeps1 hb s5 | exact keeps hb (cell_alloc s5 _) | exact keeps hb (cell_alloc (cell_drew s5) _)); have s6_50 : w50.cell? ⟨w.heap.size + 1, 1, none⟩ = some (.int .i64 y) := (by first | exact keeps hb s6 | exact keeps1 hb s6 | exact keeps hb (cell_alloc s6 _) | exact keeps hb (cell_alloc (cell_drew s6) _)); have s7_50 : w50.cell? ⟨w.heap.size + 1, 2, none⟩ = some (.int .i64 a) := (by first | exact keeps hb s7 | exact keeps1 hb s7 | exact keeps hb (cell_alloc s7 _) | exact keeps hb (cell_alloc (cell_drew s7) _)); have s8_50 : w50.cell? ⟨w.heap.size + 2, 0, none⟩ = some (.int .i64 s) := (by first | exact keeps hb s8 | exact keeps1 hb s8 | exact keeps hb (cell_alloc s8 _) | exact keeps hb (cell_alloc (cell_drew s8) _)); have s9_50 : w50.cell? ⟨w.heap.size + 2, 1, none⟩ = some (.int .i64 t) := (by first | exact keeps hb s9 | exact keeps1 hb s9 | exact keeps hb (cell_alloc s9 _) | exact keeps hb (cell_alloc (cell_drew s9) _)); have s10_50 : w50.cell? ⟨w.heap.size + 2, 2, none⟩ = some (.int .i64 b) := (by first | exact keeps hb s10 | exact keeps1 hb s10 | exact keeps hb (cell_alloc s10 _) | exact keeps hb (cell_alloc (cell_drew s10) _)); (first | (have SZ50 := Lib.hid (SZ49.out.later hb)) | (have SZ50 := Lib.hid (mk_fresh1 hb)) | (have SZ50 := Lib.hid (mk_fresh2 hb)) | (have SZ50 := Lib.hid (mk_fresh hb)) | skip); (first | (have zl50 := SZ50.out.lt) | skip)))
        | (go_at_call 72; ((with_reducible refine (HA0.out _ (by repeat (first | (with_reducible exact Below.refl _ _) | (with_reducible assumption) | ((with_reducible refine bl_alloc ?_ _ ?_); (focus ((first | omega | (simp <;> omega)); done))) | ((with_reducible refine bl_set ?_ _ ?_); (focus ((first | omega | (simp <;> omega)); done))) | (with_reducible refine below_drewN ?_ _) | (with_reducible refine Below.drew ?_) | ((with_reducible refine bl_trans ?_ HX50.out ?_); (focus ((first | omega | (simp <;> omega)); done)))))).mono ?_); rintro e w51 ⟨rfl, hb⟩; have zz51 : w50.heap.size ≤ w51.heap.size := (by have := hb.size; ((try simp at this) <;> omega)); have HX51 := Lib.hid (show Below W0.heap.size W0 w51 by repeat (first | (with_reducible exact Below.refl _ _) | (with_reducible assumption) | ((with_reducible refine bl_alloc ?_ _ ?_); (focus ((first | omega | (simp <;> omega)); done))) | ((with_reducible refine bl_set ?_ _ ?_); (focus ((first | omega | (simp <;> omega)); done))) | (with_reducible refine below_drewN ?_ _) | (with_reducible refine Below.drew ?_) | ((with_reducible refine bl_trans ?_ hb ?_); (focus ((first | omega | (simp <;> omega)); done))) | ((with_reducible refine bl_trans ?_ HX50.out ?_); (focus ((first | omega | (simp <;> omega)); done))))); have s0_51 : w51.cell? ⟨w.heap.size, 0, none⟩ = some (.int .i64 st) := (by first | exact keeps hb s0_50 | exact keeps1 hb s0_50 | exact keeps hb (cell_alloc s0_50 _) | exact keeps hb (cell_alloc (cell_drew s0_50) _)); have s1_51 : w51.cell? ⟨w.heap.size, 1, none⟩ = some (.int .i64 wd) := (by first | exact keeps hb s1_50 | exact keeps1 hb s1_50 | exact keeps hb (cell_alloc s1_50 _) | exact keeps hb (cell_alloc (cell_drew s1_50) _)); have s2_51 : w51.cell? ⟨w.heap.size, 2, none⟩ = some (.int .i64 ht) := (by first | exact keeps hb s2_50 | exact keeps1 hb s2_50 | exact keeps hb (cell_alloc s2_50 _) | exact keeps hb (cell_alloc (cell_drew s2_50) _)); have s3_51 : w51.cell? ⟨w.heap.size, 3, none⟩ = some (v) := (by first | exact keeps hb s3_50 | exact keeps1 hb s3_50 | exact keeps hb (cell_alloc s3_50 _) | exact keeps hb (cell_alloc (cell_drew s3_50) _)); have s4_51 : w51.cell? ⟨w.heap.size, 4, none⟩ = some (u) := (by first | exact keeps hb s4_50 | exact keeps1 hb s4_50 | exact keeps hb (cell_alloc s4_50 _) | exact keeps hb (cell_alloc (cell_drew s4_50) _)); have s5_51 : w51.cell? ⟨w.heap.size + 1, 0, none⟩ = some (.int .i64 x) := (by first | exact keeps hb s5_50 | exact keeps1 hb s5_50 | exact keeps hb (cell_alloc s5_50 _) | exact keeps hb (cell_alloc (cell_drew s5_50) _)); have s6_51 : w51.cell? ⟨w.heap.size + 1, 1, none⟩ = some (.int .i64 y) := (by first | exact keeps hb s6_50 | exact keeps1 hb s6_50 | exact keeps hb (cell_alloc s6_50 _) | exact keeps hb (cell_alloc (cell_drew s6_50) _)); have s7_51 : w51.cell? ⟨w.heap.size + 1, 2, none⟩ = some (.int .i64 a) := (by first | exact keeps hb s7_50 | exact keeps1 hb s7_50 | exact keeps hb (cell_alloc s7_50 _) | exact keeps hb (cell_alloc (cell_drew s7_50) _)); have s8_51 : w51.cell? ⟨w.heap.size + 2, 0, none⟩ = some (.int .i64 s) := (by first | exact keeps hb s8_50 | exact keeps1 hb s8_50 | exact keeps hb (cell_alloc s8_50 _) | exact keeps hb (cell_alloc (cell_drew s8_50) _)); have s9_51 : w51.cell? ⟨w.heap.size + 2, 1, none⟩ = some (.int .i64 t) := (by first | exact keeps hb s9_50 | exact keeps1 hb s9_50 | exact keeps hb (cell_alloc s9_50 _) | exact keeps hb (cell_alloc (cell_drew s9_50) _)); have s10_51 : w51.cell? ⟨w.heap.size + 2, 2, none⟩ = some (.int .i64 b) := (by first | exact keeps hb s10_50 | exact keeps1 hb s10_50 | exact keeps hb (cell_alloc s10_50 _) | exact keeps hb (cell_alloc (cell_drew s10_50) _)); (first | (have SZ51 := Lib.hid (SZ50.out.later hb)) | (have SZ51 := Lib.hid (mk_fresh1 hb)) | (have SZ51 := Lib.hid (mk_fresh2 hb)) | (have SZ51 := Lib.hid (mk_fresh hb)) | skip); (first | (have zl51 := SZ51.out.lt) | skip)))
        | (go_at_call 72; ((with_reducible refine (HB0.out _ (by repeat (first | (with_reducible exact Below.refl _ _) | (with_reducible assumption) | ((with_reducible refine bl_alloc ?_ _ ?_); (focus ((first | omega | (simp <;> omega)); done))) | ((with_reducible refine bl_set ?_ _ ?_); (focus ((first | omega | (simp <;> omega)); done))) | (with_reducible refine below_drewN ?_ _) | (with_reducible refine Below.drew ?_) | ((with_reducible refine bl_trans ?_ HX51.out ?_); (focus ((first | omega | (simp <;> omega)); done)))))).mono ?_); rintro e w52 ⟨rfl, hb⟩; have zz52 : w51.heap.size ≤ w52.heap.size := (by have := hb.size; ((try simp at this) <;> omega)); have HX52 := Lib.hid (show Below W0.heap.size W0 w52 by repeat (first | (with_reducible exact Below.refl _ _) | (with_reducible assumption) | ((with_reducible refine bl_alloc ?_ _ ?_); (focus ((first | omega | (simp <;> omega)); done))) | ((with_reducible refine bl_set ?_ _ ?_); (focus ((first | omega | (simp <;> omega)); done))) | (with_reducible refine below_drewN ?_ _) | (with_reducible refine Below.drew ?_) | ((with_reducible refine bl_trans ?_ hb ?_); (focus ((first | omega | (simp <;> omega)); done))) | ((with_reducible refine bl_trans ?_ HX51.out ?_); (focus ((first | omega | (simp <;> omega)); done))))); have s0_52 : w52.cell? ⟨w.heap.size, 0, none⟩ = some (.int .i64 st) := (by first | exact keeps hb s0_51 | exact keeps1 hb s0_51 | exact keeps hb (cell_alloc s0_51 _) | exact keeps hb (cell_alloc (cell_drew s0_51) _)); have s1_52 : w52.cell? ⟨w.heap.size, 1, none⟩ = some (.int .i64 wd) := (by first | exact keeps hb s1_51 | exact keeps1 hb s1_51 | exact keeps hb (cell_alloc s1_51 _) | exact keeps hb (cell_alloc (cell_drew s1_51) _)); have s2_52 : w52.cell? ⟨w.heap.size, 2, none⟩ = some (.int .i64 ht) := (by first | exact keeps hb s2_51 | exact keeps1 hb s2_51 | exact keeps hb (cell_alloc s2_51 _) | exact keeps hb (cell_alloc (cell_drew s2_51) _)); have s3_52 : w52.cell? ⟨w.heap.size, 3, none⟩ = some (v) := (by first | exact keeps hb s3_51 | exact keeps1 hb s3_51 | exact keeps hb (cell_alloc s3_51 _) | exact keeps hb (cell_alloc (cell_drew s3_51) _)); have s4_52 : w52.cell? ⟨w.heap.size, 4, none⟩ = some (u) := (by first | exact keeps hb s4_51 | exact keeps1 hb s4_51 | exact keeps hb (cell_alloc s4_51 _) | exact keeps hb (cell_alloc (cell_drew s4_51) _)); have s5_52 : w52.cell? ⟨w.heap.size + 1, 0, none⟩ = some (.int .i64 x) := (by first | exact keeps hb s5_51 | exact keeps1 hb s5_51 | exact keeps hb (cell_alloc s5_51 _) | exact keeps hb (cell_alloc (cell_drew s5_51) _)); have s6_52 : w52.cell? ⟨w.heap.size + 1, 1, none⟩ = some (.int .i64 y) := (by first | exact keeps hb s6_51 | exact keeps1 hb s6_51 | exact keeps hb (cell_alloc s6_51 _) | exact keeps hb (cell_alloc (cell_drew s6_51) _)); have s7_52 : w52.cell? ⟨w.heap.size + 1, 2, none⟩ = some (.int .i64 a) := (by first | exact keeps hb s7_51 | exact keeps1 hb s7_51 | exact keeps hb (cell_alloc s7_51 _) | exact keeps hb (cell_alloc (cell_drew s7_51) _)); have s8_52 : w52.cell? ⟨w.heap.size + 2, 0, none⟩ = some (.int .i64 s) := (by first | exact keeps hb s8_51 | exact keeps1 hb s8_51 | exact keeps hb (cell_alloc s8_51 _) | exact keeps hb (cell_alloc (cell_drew s8_51) _)); have s9_52 : w52.cell? ⟨w.heap.size + 2, 1, none⟩ = some (.int .i64 t) := (by first | exact keeps hb s9_51 | exact keeps1 hb s9_51 | exact keeps hb (cell_alloc s9_51 _) | exact keeps hb (cell_alloc (cell_drew s9_51) _)); have s10_52 : w52.cell? ⟨w.heap.size + 2, 2, none⟩ = some (.int .i64 b) := (by first | exact keeps hb s10_51 | exact keeps1 hb s10_51 | exact keeps hb (cell_alloc s10_51 _) | exact keeps hb (cell_alloc (cell_drew s10_51) _)); (first | (have SZ52 := Lib.hid (SZ51.out.later hb)) | (have SZ52 := Lib.hid (mk_fresh1 hb)) | (have SZ52 := Lib.hid (mk_fresh2 hb)) | (have SZ52 := Lib.hid (mk_fresh hb)) | skip); (first | (have zl52 := SZ52.out.lt) | skip); (first | (have SZZ := SZ52; have z0_ := SZZ.out.cell 0 _ rfl; have z1_ := SZZ.out.cell 1 _ rfl; have z2_ := SZZ.out.cell 2 _ rfl; have z3_ := SZZ.out.cell 3 _ rfl; have zf_ := SZZ.out.free; have zl_ := SZZ.out.lt) | skip))))
    all_goals (go_wp2_with fail; go_meet)
    all_goals first
      | exact ⟨_, rfl, SInv.fresh _ _ _, (show _ ≤ _ by omega), bl_alloc (by omega) _ HX52.out⟩
      | exact ⟨_, rfl, (Lib.hid (by simpa using ((((SZZ.out.set 0 (by simp) (.int .i64 dd)).set 1 (by simp) (.int .i64 ha)).set 2 (by simp) (.int .i64 hb2)).set 3 (by simp) (.slice none 0 0)))), (show _ ≤ _ by omega), (Lib.hid (by repeat (first | (with_reducible exact Below.refl _ _) | (with_reducible assumption) | ((with_reducible refine bl_alloc ?_ _ ?_); (focus ((first | omega | (simp <;> omega)); done))) | ((with_reducible refine bl_set ?_ _ ?_); (focus ((first | omega | (simp <;> omega)); done))) | (with_reducible refine below_drewN ?_ _) | (with_reducible refine Below.drew ?_) | ((with_reducible refine bl_trans ?_ HX52.out ?_); (focus ((first | omega | (simp <;> omega)); done))))))⟩
  obtain ⟨O_, hpp, hSI, ho, hbx⟩ := hcut
  subst hpp
  obtain ⟨wx_, hw_⟩ : ∃ x, x = wc := ⟨_, rfl⟩
  rw [← hw_] at hSI hbx ⊢
  clear hw_
  have hO := ho.out
  have lO := hSI.out.lt
  have zx := hbx.out.size
  have HBX := Lib.hid (show Below w.heap.size w wx_ from HW0.out.trans (hbx.out.mono HW0.out.size))
  have p0 := keeps hbx.out s0
  have p1 := keeps hbx.out s1
  have p2 := keeps hbx.out s2
  have p3 := keeps hbx.out s3
  have p4 := keeps hbx.out s4
  have p5 := keeps hbx.out s5
  have p6 := keeps hbx.out s6
  have p7 := keeps hbx.out s7
  have p8 := keeps hbx.out s8
  have p9 := keeps hbx.out s9
  have p10 := keeps hbx.out s10
  clear HD0 HA0 HB0 s0 s1 s2 s3 s4 s5 s6 s7 s8 s9 s10
  go_wp2_with fail
  refine (HPL.out _).mono ?_
  rintro e w1 ⟨g, c, rfl, hrow, hb1⟩
  have H1 := Lib.hid (show Below w.heap.size w w1 by repeat (first | (with_reducible exact Below.refl _ _) | (with_reducible assumption) | ((with_reducible refine bl_alloc ?_ _ ?_); (focus ((first | omega | (simp <;> omega)); done))) | ((with_reducible refine bl_set ?_ _ ?_); (focus ((first | omega | (simp <;> omega)); done))) | (with_reducible refine below_drewN ?_ _) | (with_reducible refine Below.drew ?_) | ((with_reducible refine bl_trans ?_ hb1 ?_); (focus ((first | omega | (simp <;> omega)); done))) | ((with_reducible refine bl_trans ?_ HBX.out ?_); (focus ((first | omega | (simp <;> omega)); done)))))
  have SI1 := Lib.hid (hSI.out.later hb1)
  have SR1 := Lib.hid ((SR0.out.later hbx.out).later hb1)
  have gl := (hrow.lt g rfl)
  have HCELL := Lib.hid hrow.at_.1
  have z1 := hb1.size
  have t0 := keeps hb1 p0
  have t1 := keeps hb1 p1
  have t2 := keeps hb1 p2
  have t3 := keeps hb1 p3
  have t4 := keeps hb1 p4
  clear hrow hb1 HPL SR0 hSI p0 p1 p2 p3 p4 p5 p6 p7 p8 p9 p10
  go_wp2_with fail
  go_loopw [28] (fun i wr => ∃ (k : Nat) (L : Value), k ≤ 17 ∧ i = .int .i64 (k : Int) ∧ Hid (SInv wr O_ [.int .i64 dd, .int .i64 ha, .int .i64 hb2, L]) ∧ Hid (Row 2 wr w1.heap.size L (PH.take k)) ∧ Hid (L.ownBlock ≠ some O_) ∧ Hid (Writes w1 wr (fun n => n = O_))) (fun i _ => 17 + 1 - (intOf i).toNat)
  case atStart => exact ⟨0, .slice none 0 0, Nat.zero_le _, rfl, SI1, (show Row _ _ _ _ _ from Row.nil_), (show _ ≠ _ by simp [Value.ownBlock]), (show Writes _ _ _ from Writes.of_below (Below.refl _ _) _)⟩
  case round =>
    obtain ⟨k, L, hk, rfl, hsi, hr, hno, hw⟩ := hrel
    have k0 : (0 : Int) ≤ (k : Int) := Int.natCast_nonneg _
    have zw := hw.out.size
    have SRr := Lib.hid (SR1.out.writes hw.out (by omega))
    have Hwr := Lib.hid (show Below w.heap.size w wr from H1.out.trans (hw.out.below H1.out.size (fun n hn => by rw [hn]; omega)))
    by_cases hlt : k < 17
    · have hlt' : (k : Int) < 17 := by omega
      obtain ⟨q1, q2⟩ := HCELL.out k (by rw [HPN.out]; exact hlt)
      rw [HPA.out k hlt] at q1 q2
      have q1 := keepsW hw.out q1 (by show ¬ g = O_; omega)
      have q2 := keepsW hw.out q2 (by show ¬ g = O_; omega)
      have v0 := keepsW hw.out t0 (by show ¬ w.heap.size = O_; omega)
      have v1 := keepsW hw.out t1 (by show ¬ w.heap.size = O_; omega)
      have v2 := keepsW hw.out t2 (by show ¬ w.heap.size = O_; omega)
      have v3 := keepsW hw.out t3 (by show ¬ w.heap.size = O_; omega)
      have v4 := keepsW hw.out t4 (by show ¬ w.heap.size = O_; omega)
      have HCk : Hid (∀ W : World, Below w.heap.size w W → Calls Try.prog 106 #[.agg #[.int .i64 st, .int .i64 wd, .int .i64 ht, v, u], .agg #[.int .i64 (plK x y s t k).1, .int .i64 (plK x y s t k).2]] W fun e w' => e = .returned (.int .i64 (heightB st wd ht hs (plK x y s t k).1 (plK x y s t k).2)) ∧ Below W.heap.size W w') := fun W hW => HC.out W k hW hlt
      have hst := Lib.hid (HTK.out k hlt)
      obtain ⟨K, hK⟩ : ∃ K, K = heightB st wd ht hs (plK x y s t k).1 (plK x y s t k).2 := ⟨_, rfl⟩
      rw [← hK] at HCk hst
      clear hK
      obtain ⟨PX, hPX⟩ : ∃ K, K = (plK x y s t k).1 := ⟨_, rfl⟩
      obtain ⟨PY, hPY⟩ : ∃ K, K = (plK x y s t k).2 := ⟨_, rfl⟩
      rw [← hPX] at HCk q1
      rw [← hPY] at HCk q2
      clear hPX hPY
      have hlen : (PH.take k).length = k := by rw [List.length_take, HLEN.out]; omega
      obtain ⟨ys, hy⟩ : ∃ ys, ys = PH.take k := ⟨_, rfl⟩
      rw [← hy] at hr hlen hst
      clear hy
      have HLE := Lib.hid (show k + 1 ≤ 17 by omega)
      obtain ⟨WB, hWB⟩ : ∃ W, W = wr.alloc (.cells #[.int .i64 PX, .int .i64 PY] 64) := ⟨_, rfl⟩
      have HB0 := Lib.hid (show Below wr.heap.size wr WB by rw [hWB]; repeat (first | (with_reducible exact Below.refl _ _) | (with_reducible assumption) | ((with_reducible refine bl_alloc ?_ _ ?_); (focus ((first | omega | (simp <;> omega)); done))) | ((with_reducible refine bl_set ?_ _ ?_); (focus ((first | omega | (simp <;> omega)); done))) | (with_reducible refine below_drewN ?_ _) | (with_reducible refine Below.drew ?_)))
      have HBW := Lib.hid (show Below w.heap.size w WB from Hwr.out.trans (HB0.out.mono Hwr.out.size))
      have d0 : WB.cell? ⟨wr.heap.size, 0, none⟩ = some (.int .i64 PX) := by rw [hWB]; simp [go_sem]
      have d1 : WB.cell? ⟨wr.heap.size, 1, none⟩ = some (.int .i64 PY) := by rw [hWB]; simp [go_sem]
      have zB : WB.heap.size = wr.heap.size + 1 := by rw [hWB]; simp
      have x0 := keeps HB0.out v0
      have x1 := keeps HB0.out v1
      have x2 := keeps HB0.out v2
      have x3 := keeps HB0.out v3
      have x4 := keeps HB0.out v4
      have SIB := Lib.hid (hsi.out.later HB0.out)
      have HRB := Lib.hid (hr.out.later HB0.out)
      have o3 := SIB.out.cell 3 _ rfl
      have of := SIB.out.free
      have lOr := hsi.out.lt
      go_wp2_with fail
      rw [← hWB]
      clear hWB q1 q2 v0 v1 v2 v3 v4
      have zb0 := HB0.out.size
      go_region_law (first
        | (refine step_append_lies _ (by rfl) _ _ _ (by rfl) w1.heap.size 2 i0 (.int .i64 0) 1 8 Try.underlying22 HI.out HZ0.out HZ1.out HZ2.out rfl (by omega) L k (ys.map (Value.int .i64)) (by rfl) (iowns hlen (hr4.out.alloc_ (.cells #[.int .i64 K] 2))) ⟨w4.heap.size, 0, none⟩ 1 1 [.int .i64 K] (by rfl) (by rfl) (World.news_of_block (cs := #[.int .i64 K]) (t := 2) (fr := (0, 0)) (heap_alloc_new w4 _)) (by simp [Value.oneCell']) (by omega) (by unfold maxLen; omega) (by omega) (by simp <;> omega) (w4.heap.size + 1) (by simp) ?_; intro g3 cap3 w5 hown hgrow hat hlt3; have hgw : (w4.alloc (.cells #[.int .i64 K] 2)).grownBy w5 L.ownBlock := ⟨hgrow.os, hgrow.tape, hgrow.output, hgrow.size, hgrow.block⟩; have y3 := (hgw.cell_far ⟨O_, 3, none⟩ (by show O_ < _; simp; omega) (fun q => hno.out q.symm)).trans (cell_alloc u3 (.cells #[.int .i64 K] 2)); have yf := (hgw.frozen_far ⟨O_, 3, none⟩ (by show O_ < _; simp; omega) (fun q => hno.out q.symm)).trans ((SI4.out.alloc_ (.cells #[.int .i64 K] 2)).free 3))
        | (go_simp; go_at_call 106; ((with_reducible refine (HCk.out _ (by repeat (first | (with_reducible exact Below.refl _ _) | (with_reducible assumption) | ((with_reducible refine bl_alloc ?_ _ ?_); (focus ((first | omega | (simp <;> omega)); done))) | ((with_reducible refine bl_set ?_ _ ?_); (focus ((first | omega | (simp <;> omega)); done))) | (with_reducible refine below_drewN ?_ _) | (with_reducible refine Below.drew ?_) | ((with_reducible refine bl_trans ?_ HBW.out ?_); (focus ((first | omega | (simp <;> omega)); done)))))).mono ?_); rintro e w4 ⟨rfl, hb⟩; have hb4 : Below WB.heap.size WB w4 := ⟨hb.os, hb.tape, hb.output, hb.size, hb.block⟩; have SI4 := Lib.hid (SIB.out.later hb4); have hr4 := Lib.hid (HRB.out.later hb4); have u3 := SI4.out.cell 3 _ rfl; have uf := SI4.out.free; have l4 := SI4.out.lt; have ua := fun o => (SI4.out.alloc_ o).cell 3 _ rfl; have z4 := hb4.size; have H4 := Lib.hid hb4)))
      all_goals
        obtain ⟨r1, r2, r3, r4, _⟩ := push_row 3 (by simp) hsi.out hr.out hno.out (show Below wr.heap.size wr (w4.alloc (.cells #[.int .i64 K] 2)) from (HB0.out.trans (H4.out.mono HB0.out.size)).trans (bl_alloc (by omega) _ (Below.refl _ _))) hgw hat (by omega) hlen hown
        have SI5 := Lib.hid r1
        have HR5 : Hid (Row 2 (w5.setCell ⟨O_, 3, none⟩ (.slice (some ⟨g3, 0, none⟩) (k + 1) cap3)) w1.heap.size (.slice (some ⟨g3, 0, none⟩) (k + 1) cap3) (PH.take (k + 1))) := by show Row _ _ _ _ _; rw [hst.out]; exact r2
        have HN5 := Lib.hid r3
        have HW5 : Hid (Writes w1 (w5.setCell ⟨O_, 3, none⟩ (.slice (some ⟨g3, 0, none⟩) (k + 1) cap3)) (fun n => n = O_)) := ⟨r4.os.trans hw.out.os, r4.tape.trans hw.out.tape, r4.output.trans hw.out.output, Nat.le_trans hw.out.size r4.size, fun n hn hne => (r4.block n (by omega) (by rintro (q | q); have := (hr.out.lt n q).1; omega; exact hne q)).trans (hw.out.block n hn hne)⟩
        clear r1 r2 r3 r4 hown hgrow hgw hat y3 yf
        go_wp2_with fail
        refine ⟨?_, ?_⟩
        · first
            | ((repeat apply Exists.intro); (refine ⟨?_, rfl⟩); exact ⟨(k + 1 : Nat), _, HLE.out, by go_num, SI5, HR5, HN5, HW5⟩)
            | exact ⟨(k + 1 : Nat), _, HLE.out, by go_num, SI5, HR5, HN5, HW5⟩
        · simp [intOf]; omega
    · have hk' : k = 17 := by omega
      subst hk'
      have hfull : Hid (Row 2 wr w1.heap.size L PH) := by
        have h := hr.out
        rw [List.take_of_length_le (by rw [HLEN.out]; exact Nat.le_refl _)] at h
        exact h
      clear hr HTK
      have hform : ∃ A n c, L = .slice A n c := by rcases hfull.out.forms with ⟨rfl, _⟩ | ⟨g2, cap, rfl, _⟩ <;> exact ⟨_, _, _, rfl⟩
      obtain ⟨A, n, c', rfl⟩ := hform
      have o0 := hsi.out.cell 0 _ rfl
      have o1 := hsi.out.cell 1 _ rfl
      have o2 := hsi.out.cell 2 _ rfl
      have o3 := hsi.out.cell 3 _ rfl
      have n0 := SRr.out.cell 0 _ rfl
      have n1 := SRr.out.cell 1 _ rfl
      have n2 := SRr.out.cell 2 _ rfl
      have n3 := SRr.out.cell 3 _ rfl
      have nf := SRr.out.free
      have hne1 : ¬ O_ = w.heap.size + 3 := by omega
      have hne2 : ¬ w.heap.size + 3 = O_ := by omega
      go_wp2_with fail
      refine bodyPost_ret (v := .agg #[.int .i64 dd, .int .i64 ha, .int .i64 hb2, .slice A n c']) (by simp [results, Try.results75, go_sem, *]) rfl ?_
      refine ⟨A, n, c', rfl, ?_, by repeat (first | (with_reducible exact Below.refl _ _) | (with_reducible assumption) | ((with_reducible refine bl_alloc ?_ _ ?_); (focus ((first | omega | (simp <;> omega)); done))) | ((with_reducible refine bl_set ?_ _ ?_); (focus ((first | omega | (simp <;> omega)); done))) | (with_reducible refine below_drewN ?_ _) | (with_reducible refine Below.drew ?_) | ((with_reducible refine bl_trans ?_ Hwr.out ?_); (focus ((first | omega | (simp <;> omega)); done))))⟩
      refine Row.base_le (base := w1.heap.size) ?_ H1.out.size
      repeat (first | (with_reducible exact hfull.out) | ((with_reducible refine Row.low ?_ _ ?_); (focus ((first | omega | (simp <;> omega)); done))))
end Go.Proofs.Ytedpdcdmemenhaa
