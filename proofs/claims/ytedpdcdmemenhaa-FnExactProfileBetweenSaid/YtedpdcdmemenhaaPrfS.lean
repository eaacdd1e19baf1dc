/-
  The profile between two ends: the reference's. The conditions are the hypotheses.
-/
import Derived.Test.YtedpdcdmemenhaaRows
import Derived.Test.YtedpdcdmemenhaaLib
import Derived.Test.YtedpdcdmemenhaaInt
import Derived.Test.YtedpdcdmemenhaaWithin
import Derived.Test.YtedpdcdmemenhaaAll
import Derived.Test.YtedpdcdmemenhaaArgs
import Derived.Test.YtedpdcdmemenhaaOwn
import Derived.Test.YtedpdcdmemenhaaField
import Derived.Test.YtedpdcdmemenhaaModes
import Derived.Test.YtedpdcdmemenhaaTer
import Derived.Test.YtedpdcdmemenhaaIn
import Derived.Test.YtedpdcdmemenhaaEnds
import Derived.Test.YtedpdcdmemenhaaHgtP
import Derived.Test.YtedpdcdmemenhaaHgtS
import Derived.Test.YtedpdcdmemenhaaHigh
import Derived.Test.YtedpdcdmemenhaaApart
import Derived.Test.YtedpdcdmemenhaaPlaP
import Derived.Test.YtedpdcdmemenhaaPlaS
import Derived.Test.YtedpdcdmemenhaaPflS
import Derived.Shelf.Abstract
import Derived.OwnWalk
import Derived.Deep.AppendLies
import Derived.Deep.RegionLaw
import Derived.Outline
import Derived.Deep.DeepCutAuto
import Derived.Deep.QuietTactic
import Derived.BigQuiet
import Derived.Deep.RegionHeld3
import Derived.Deep.DrawnRows
namespace Go.Proofs.Ytedpdcdmemenhaa
open Go.RowKit
set_option linter.unusedSimpArgs false
set_option linter.unusedVariables false
attribute [local go_sem ↓] Go.wp_at_zero Go.wp_at_succ
set_option maxRecDepth 20000 in
set_option maxHeartbeats 16000000 in
theorem l12Profile_any (w : World) (o : Nat) (st wd ht : Int) (v : Value) (hs cs : List Int) (p : Nat) (hr : Row 2 w p v hs) (x y a s t b : Int) (h1 : terB st wd ht hs cs = true) (h2 : endB x y a = true) (h3 : endB s t b = true) (h4 : hasB st wd ht x y = true) (h5 : hasB st wd ht s t = true) (c0 : w.cell? ⟨o, 0, none⟩ = some (.int .i64 st)) (c1 : w.cell? ⟨o, 1, none⟩ = some (.int .i64 wd)) (c2 : w.cell? ⟨o, 2, none⟩ = some (.int .i64 ht)) (c3 : w.cell? ⟨o, 3, none⟩ = some (v)) :
    Calls Try.prog 74 #[.pointer (some ⟨o, 0, none⟩), .agg #[.int .i64 x, .int .i64 y, .int .i64 a], .agg #[.int .i64 s, .int .i64 t, .int .i64 b]] w fun e w' => ∃ A n c, e = .returned (.agg #[.int .i64 (apartV x y s t), .int .i64 (heightB st wd ht hs x y + a), .int .i64 (heightB st wd ht hs s t + b), .slice A n c]) ∧ Row 2 w' w.heap.size (.slice A n c) (profH st wd ht hs x y s t) ∧ Below w.heap.size w w' := by
  obtain ⟨hz, hl, _, hb⟩ := ter_parts h1
  obtain ⟨⟨x0, x1⟩, ⟨y0, y1⟩⟩ := has_parts h4
  obtain ⟨⟨s0, s1⟩, ⟨t0, t1⟩⟩ := has_parts h5
  obtain ⟨ex, ey, a0, a1⟩ := end_parts h2
  obtain ⟨es, et, b0, b1⟩ := end_parts h3
  have HD : Hid (∀ W : World, Calls Try.prog 107 #[.agg #[.int .i64 x, .int .i64 y], .agg #[.int .i64 s, .int .i64 t]] W fun e w' => e = .returned (.int .i64 (apartV x y s t)) ∧ Below W.heap.size W w') := fun W => l03Apart_any W x y s t ex ey es et
  have HA : Hid (∀ W : World, Below w.heap.size w W → Calls Try.prog 69 #[.pointer (some ⟨o, 0, none⟩), .agg #[.int .i64 x, .int .i64 y, .int .i64 a]] W fun e w' => e = .returned (.int .i64 (heightB st wd ht hs x y + a)) ∧ Below W.heap.size W w') := fun W hW => l12High_any W o st wd ht x y a v hs p (hr.later hW) hz hl hb x0 x1 y0 y1 a0 a1 (keeps hW c0) (keeps hW c1) (keeps hW c2) (keeps hW c3)
  have HB : Hid (∀ W : World, Below w.heap.size w W → Calls Try.prog 69 #[.pointer (some ⟨o, 0, none⟩), .agg #[.int .i64 s, .int .i64 t, .int .i64 b]] W fun e w' => e = .returned (.int .i64 (heightB st wd ht hs s t + b)) ∧ Below W.heap.size W w') := fun W hW => l12High_any W o st wd ht s t b v hs p (hr.later hW) hz hl hb s0 s1 t0 t1 b0 b1 (keeps hW c0) (keeps hW c1) (keeps hW c2) (keeps hW c3)
  have HP : Hid (∀ W : World, Below w.heap.size w W → Calls Try.prog 108 #[.pointer (some ⟨o, 0, none⟩), .agg #[.int .i64 x, .int .i64 y], .agg #[.int .i64 s, .int .i64 t], .int .i64 17] W fun e w' => ∃ g c, e = .returned (.slice (some ⟨g, 0, none⟩) 17 c) ∧ Row 2 w' W.heap.size (.slice (some ⟨g, 0, none⟩) 17 c) (profH st wd ht hs x y s t) ∧ Below W.heap.size W w') := fun W hW => l04Profile_any W o st wd ht x y s t v hs p (hr.later hW) hz hl hb x0 x1 y0 y1 s0 s1 t0 t1 (keeps hW c0) (keeps hW c1) (keeps hW c2) (keeps hW c3)
  clear hr hz hl hb x0 x1 y0 y1 s0 s1 t0 t1 ex ey es et a0 a1 b0 b1 h1 h2 h3 h4 h5 c0 c1 c2 c3
  obtain ⟨PH, hPH⟩ : ∃ P, P = profH st wd ht hs x y s t := ⟨_, rfl⟩
  rw [← hPH] at HP ⊢
  clear hPH
  obtain ⟨dd, hdd⟩ : ∃ d, d = apartV x y s t := ⟨_, rfl⟩
  obtain ⟨ha, hha⟩ : ∃ d, d = heightB st wd ht hs x y + a := ⟨_, rfl⟩
  obtain ⟨hb2, hhb⟩ : ∃ d, d = heightB st wd ht hs s t + b := ⟨_, rfl⟩
  rw [← hdd] at HD
  rw [← hha] at HA
  rw [← hhb] at HB
  rw [← hdd, ← hha, ← hhb]
  clear hdd hha hhb
  obtain ⟨W0, hW0⟩ : ∃ W, W = ((w.alloc (.cells #[.int .i64 x, .int .i64 y, .int .i64 a] 66)).alloc (.cells #[.int .i64 s, .int .i64 t, .int .i64 b] 66)).alloc (.cells #[.int .i64 0, .int .i64 0, .int .i64 0, .slice none 0 0] 46) := ⟨_, rfl⟩
  have HW0 := Lib.hid (show Below w.heap.size w W0 by rw [hW0]; repeat (first | (with_reducible exact Below.refl _ _) | (with_reducible assumption) | ((with_reducible refine bl_alloc ?_ _ ?_); (focus ((first | omega | (simp <;> omega)); done))) | ((with_reducible refine bl_set ?_ _ ?_); (focus ((first | omega | (simp <;> omega)); done))) | (with_reducible refine below_drewN ?_ _) | (with_reducible refine Below.drew ?_)))
  have z0 := HW0.out.size
  have s0 : W0.cell? ⟨w.heap.size, 0, none⟩ = some (.int .i64 x) := by rw [hW0]; simp [go_sem]
  have s1 : W0.cell? ⟨w.heap.size, 1, none⟩ = some (.int .i64 y) := by rw [hW0]; simp [go_sem]
  have s2 : W0.cell? ⟨w.heap.size, 2, none⟩ = some (.int .i64 a) := by rw [hW0]; simp [go_sem]
  have s3 : W0.cell? ⟨w.heap.size + 1, 0, none⟩ = some (.int .i64 s) := by rw [hW0]; simp [go_sem]
  have s4 : W0.cell? ⟨w.heap.size + 1, 1, none⟩ = some (.int .i64 t) := by rw [hW0]; simp [go_sem]
  have s5 : W0.cell? ⟨w.heap.size + 1, 2, none⟩ = some (.int .i64 b) := by rw [hW0]; simp [go_sem]
  have lW : w.heap.size + 2 < W0.heap.size := by rw [hW0]; simp
  have SR0 : Hid (SInv W0 (w.heap.size + 2) [.int .i64 0, .int .i64 0, .int .i64 0, .slice none 0 0]) := by
    show SInv _ _ _
    rw [hW0]
    have h := SInv.fresh ((w.alloc (.cells #[.int .i64 x, .int .i64 y, .int .i64 a] 66)).alloc (.cells #[.int .i64 s, .int .i64 t, .int .i64 b] 66)) #[.int .i64 0, .int .i64 0, .int .i64 0, .slice none 0 0] 46
    have e : ((w.alloc (.cells #[.int .i64 x, .int .i64 y, .int .i64 a] 66)).alloc (.cells #[.int .i64 s, .int .i64 t, .int .i64 b] 66)).heap.size = w.heap.size + 2 := by simp
    rw [e] at h
    exact h
  go_enter Try.func74, Try.ntmps74
  (go_upto_region 1 with fail; rw [← hW0]; clear hW0)
  go_region_held3 (fun w' => w'.cell? ⟨w.heap.size, 0, none⟩ = some (.int .i64 x) ∧ w'.cell? ⟨w.heap.size, 1, none⟩ = some (.int .i64 y) ∧ w'.cell? ⟨w.heap.size, 2, none⟩ = some (.int .i64 a) ∧ w'.cell? ⟨w.heap.size + 1, 0, none⟩ = some (.int .i64 s) ∧ w'.cell? ⟨w.heap.size + 1, 1, none⟩ = some (.int .i64 t) ∧ w'.cell? ⟨w.heap.size + 1, 2, none⟩ = some (.int .i64 b))
    (((try go_split_ands); (refine ⟨?_, ?_, ?_, ?_, ?_, ?_⟩ <;> (repeat (first | (with_reducible assumption) | (with_reducible refine cell_drew ?_) | (with_reducible refine cell_drewN ?_) | (with_reducible refine keeps hb ?_) | ((with_reducible refine cell_set1 ?_ ?_); (focus (omega; done))) | fail)))))
    (first
      | (go_at_call 107; ((with_reducible refine (HD.out _).mono ?_); rintro e w2 ⟨rfl, hb⟩; have H2 := Lib.hid (show Below W0.heap.size W0 w2 by repeat (first | (with_reducible exact Below.refl _ _) | (with_reducible assumption) | ((with_reducible refine bl_alloc ?_ _ ?_); (focus ((first | omega | (simp <;> omega)); done))) | ((with_reducible refine bl_set ?_ _ ?_); (focus ((first | omega | (simp <;> omega)); done))) | (with_reducible refine below_drewN ?_ _) | (with_reducible refine Below.drew ?_) | ((with_reducible refine bl_trans ?_ hb ?_); (focus ((first | omega | (simp <;> omega)); done))))); have zz2 := H2.out.size; have f0_2 := keeps H2.out s0; have f1_2 := keeps H2.out s1; have f2_2 := keeps H2.out s2; have f3_2 := keeps H2.out s3; have f4_2 := keeps H2.out s4; have f5_2 := keeps H2.out s5))
      | (go_at_call 69; ((with_reducible refine (HA.out _ (by repeat (first | (with_reducible exact Below.refl _ _) | (with_reducible assumption) | ((with_reducible refine bl_alloc ?_ _ ?_); (focus ((first | omega | (simp <;> omega)); done))) | ((with_reducible refine bl_set ?_ _ ?_); (focus ((first | omega | (simp <;> omega)); done))) | (with_reducible refine below_drewN ?_ _) | (with_reducible refine Below.drew ?_) | ((with_reducible refine bl_trans ?_ H2.out ?_); (focus ((first | omega | (simp <;> omega)); done))) | ((with_reducible refine bl_trans ?_ HW0.out ?_); (focus ((first | omega | (simp <;> omega)); done)))))).mono ?_); rintro e w3 ⟨rfl, hb⟩; have H3 := Lib.hid (show Below W0.heap.size W0 w3 by repeat (first | (with_reducible exact Below.refl _ _) | (with_reducible assumption) | ((with_reducible refine bl_alloc ?_ _ ?_); (focus ((first | omega | (simp <;> omega)); done))) | ((with_reducible refine bl_set ?_ _ ?_); (focus ((first | omega | (simp <;> omega)); done))) | (with_reducible refine below_drewN ?_ _) | (with_reducible refine Below.drew ?_) | ((with_reducible refine bl_trans ?_ hb ?_); (focus ((first | omega | (simp <;> omega)); done))) | ((with_reducible refine bl_trans ?_ H2.out ?_); (focus ((first | omega | (simp <;> omega)); done))))); have zz3 := H3.out.size; have f0_3 := keeps H3.out s0; have f1_3 := keeps H3.out s1; have f2_3 := keeps H3.out s2; have f3_3 := keeps H3.out s3; have f4_3 := keeps H3.out s4; have f5_3 := keeps H3.out s5))
      | (go_at_call 69; ((with_reducible refine (HB.out _ (by repeat (first | (with_reducible exact Below.refl _ _) | (with_reducible assumption) | ((with_reducible refine bl_alloc ?_ _ ?_); (focus ((first | omega | (simp <;> omega)); done))) | ((with_reducible refine bl_set ?_ _ ?_); (focus ((first | omega | (simp <;> omega)); done))) | (with_reducible refine below_drewN ?_ _) | (with_reducible refine Below.drew ?_) | ((with_reducible refine bl_trans ?_ H3.out ?_); (focus ((first | omega | (simp <;> omega)); done))) | ((with_reducible refine bl_trans ?_ HW0.out ?_); (focus ((first | omega | (simp <;> omega)); done)))))).mono ?_); rintro e w4 ⟨rfl, hb⟩; have H4 := Lib.hid (show Below W0.heap.size W0 w4 by repeat (first | (with_reducible exact Below.refl _ _) | (with_reducible assumption) | ((with_reducible refine bl_alloc ?_ _ ?_); (focus ((first | omega | (simp <;> omega)); done))) | ((with_reducible refine bl_set ?_ _ ?_); (focus ((first | omega | (simp <;> omega)); done))) | (with_reducible refine below_drewN ?_ _) | (with_reducible refine Below.drew ?_) | ((with_reducible refine bl_trans ?_ hb ?_); (focus ((first | omega | (simp <;> omega)); done))) | ((with_reducible refine bl_trans ?_ H3.out ?_); (focus ((first | omega | (simp <;> omega)); done))))); have zz4 := H4.out.size; have f0_4 := keeps H4.out s0; have f1_4 := keeps H4.out s1; have f2_4 := keeps H4.out s2; have f3_4 := keeps H4.out s3; have f4_4 := keeps H4.out s4; have f5_4 := keeps H4.out s5))
      | (go_at_call 108; ((with_reducible refine (HP.out _ (by repeat (first | (with_reducible exact Below.refl _ _) | (with_reducible assumption) | ((with_reducible refine bl_alloc ?_ _ ?_); (focus ((first | omega | (simp <;> omega)); done))) | ((with_reducible refine bl_set ?_ _ ?_); (focus ((first | omega | (simp <;> omega)); done))) | (with_reducible refine below_drewN ?_ _) | (with_reducible refine Below.drew ?_) | ((with_reducible refine bl_trans ?_ H4.out ?_); (focus ((first | omega | (simp <;> omega)); done))) | ((with_reducible refine bl_trans ?_ HW0.out ?_); (focus ((first | omega | (simp <;> omega)); done)))))).mono ?_); rintro e w5 ⟨g, c, rfl, hrow, hb⟩; have H5 := Lib.hid (show Below W0.heap.size W0 w5 by repeat (first | (with_reducible exact Below.refl _ _) | (with_reducible assumption) | ((with_reducible refine bl_alloc ?_ _ ?_); (focus ((first | omega | (simp <;> omega)); done))) | ((with_reducible refine bl_set ?_ _ ?_); (focus ((first | omega | (simp <;> omega)); done))) | (with_reducible refine below_drewN ?_ _) | (with_reducible refine Below.drew ?_) | ((with_reducible refine bl_trans ?_ hb ?_); (focus ((first | omega | (simp <;> omega)); done))) | ((with_reducible refine bl_trans ?_ H4.out ?_); (focus ((first | omega | (simp <;> omega)); done))))); have zz5 := H5.out.size; have f0_5 := keeps H5.out s0; have f1_5 := keeps H5.out s1; have f2_5 := keeps H5.out s2; have f3_5 := keeps H5.out s3; have f4_5 := keeps H5.out s4; have f5_5 := keeps H5.out s5; have SR5 := Lib.hid (SR0.out.later H5.out); have n0 := SR5.out.cell 0 _ rfl; have n1 := SR5.out.cell 1 _ rfl; have n2 := SR5.out.cell 2 _ rfl; have n3 := SR5.out.cell 3 _ rfl; have nf := SR5.out.free; have HR5 := Lib.hid hrow)))
  go_wp2_with fail
  refine bodyPost_ret (v := .agg #[.int .i64 dd, .int .i64 ha, .int .i64 hb2, .slice (some ⟨g, 0, none⟩) 17 c]) (by simp [results, Try.results74, go_sem, *]) rfl ?_
  refine ⟨_, _, _, rfl, ?_, by repeat (first | (with_reducible exact Below.refl _ _) | (with_reducible assumption) | ((with_reducible refine bl_alloc ?_ _ ?_); (focus ((first | omega | (simp <;> omega)); done))) | ((with_reducible refine bl_set ?_ _ ?_); (focus ((first | omega | (simp <;> omega)); done))) | (with_reducible refine below_drewN ?_ _) | (with_reducible refine Below.drew ?_) | ((with_reducible refine bl_trans ?_ H5.out ?_); (focus ((first | omega | (simp <;> omega)); done))) | ((with_reducible refine bl_trans ?_ HW0.out ?_); (focus ((first | omega | (simp <;> omega)); done))))⟩
  refine Row.base_le (base := w4.heap.size) ?_ (by omega)
  repeat (first | (with_reducible exact HR5.out) | ((with_reducible refine Row.low ?_ _ ?_); (focus ((first | omega | (simp <;> omega)); done))))
end Go.Proofs.Ytedpdcdmemenhaa
