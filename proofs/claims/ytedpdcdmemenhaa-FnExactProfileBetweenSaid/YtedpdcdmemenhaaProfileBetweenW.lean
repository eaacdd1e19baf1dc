/-
  The walk of FnExactProfileBetween: it returns true, and of what was there nothing has turned. The conditions are what its arguments' readings give.
-/
import Derived.Test.YtedpdcdmemenhaaRows
import Derived.Test.YtedpdcdmemenhaaLib
import Derived.Test.YtedpdcdmemenhaaInt
import Derived.Test.YtedpdcdmemenhaaWithin
import Derived.Test.YtedpdcdmemenhaaInts
import Derived.Test.YtedpdcdmemenhaaIntsB
import Derived.Test.YtedpdcdmemenhaaAll
import Derived.Test.YtedpdcdmemenhaaOwn
import Derived.Test.YtedpdcdmemenhaaField
import Derived.Test.YtedpdcdmemenhaaModes
import Derived.Test.YtedpdcdmemenhaaMk
import Derived.Test.YtedpdcdmemenhaaTer
import Derived.Test.YtedpdcdmemenhaaTerV
import Derived.Test.YtedpdcdmemenhaaIn
import Derived.Test.YtedpdcdmemenhaaEnds
import Derived.Test.YtedpdcdmemenhaaHgtP
import Derived.Test.YtedpdcdmemenhaaHgtS
import Derived.Test.YtedpdcdmemenhaaHgtI
import Derived.Test.YtedpdcdmemenhaaHigh
import Derived.Test.YtedpdcdmemenhaaTerrain
import Derived.Test.YtedpdcdmemenhaaPlaces
import Derived.Test.YtedpdcdmemenhaaProfile
import Derived.Test.YtedpdcdmemenhaaAsk
import Derived.Test.YtedpdcdmemenhaaApart
import Derived.Test.YtedpdcdmemenhaaPlaP
import Derived.Test.YtedpdcdmemenhaaPlaS
import Derived.Test.YtedpdcdmemenhaaPlaI
import Derived.Test.YtedpdcdmemenhaaPflS
import Derived.Test.YtedpdcdmemenhaaPflI
import Derived.Test.YtedpdcdmemenhaaPrfS
import Derived.Outline
import Derived.Deep.RegionHeld3
import Derived.Deep.DrawnRows
import Derived.Deep.DeepCutAuto
namespace Go.Proofs.Ytedpdcdmemenhaa.fnExactProfileBetween
open Go.RowKit Go.ChangeShapes Go.WideShapes Go.ChangeAt
set_option linter.unusedVariables false
set_option linter.unusedSimpArgs false

attribute [local go_sem ↓] Go.wp_at_zero Go.wp_at_succ
def pbD (st wd ht : Int) (hs cs : List Int) (x y a s t b : Int) : Int := if askV st wd ht hs cs x y a s t b = 0 then apartV x y s t else 0
def pbF (st wd ht : Int) (hs cs : List Int) (x y a s t b : Int) : Int := if askV st wd ht hs cs x y a s t b = 0 then heightB st wd ht hs x y + a else 0
def pbL (st wd ht : Int) (hs cs : List Int) (x y a s t b : Int) : Int := if askV st wd ht hs cs x y a s t b = 0 then heightB st wd ht hs s t + b else 0
def pbH (st wd ht : Int) (hs cs : List Int) (x y a s t b : Int) : List Int := if askV st wd ht hs cs x y a s t b = 0 then profH st wd ht hs x y s t else []
theorem pb_no {st wd ht : Int} {hs cs : List Int} {x y a s t b : Int} (h : askV st wd ht hs cs x y a s t b ≠ 0) : pbD st wd ht hs cs x y a s t b = 0 ∧ pbF st wd ht hs cs x y a s t b = 0 ∧ pbL st wd ht hs cs x y a s t b = 0 ∧ pbH st wd ht hs cs x y a s t b = [] := ⟨if_neg h, if_neg h, if_neg h, if_neg h⟩
theorem pb_yes {st wd ht : Int} {hs cs : List Int} {x y a s t b : Int} (h : askV st wd ht hs cs x y a s t b = 0) : pbD st wd ht hs cs x y a s t b = apartV x y s t ∧ pbF st wd ht hs cs x y a s t b = heightB st wd ht hs x y + a ∧ pbL st wd ht hs cs x y a s t b = heightB st wd ht hs s t + b ∧ pbH st wd ht hs cs x y a s t b = profH st wd ht hs x y s t := ⟨if_pos h, if_pos h, if_pos h, if_pos h⟩
theorem pb_len (st wd ht : Int) (hs cs : List Int) (x y a s t b : Int) : (pbH st wd ht hs cs x y a s t b).length ≤ 65 := by
  unfold pbH
  split
  · rw [profH_len]; omega
  · simp
set_option maxRecDepth 20000 in
set_option maxHeartbeats 8000000 in
theorem spec_any (w : World) (st : Int) (i1 : In64 st) (wd : Int) (i2 : In64 wd) (ht : Int) (i3 : In64 ht) (v : Value) (hs : List Int) (p : Nat) (hr : Row 2 w p v hs) (ihs : ∀ n ∈ hs, In64 n) (u : Value) (cs : List Int) (q : Nat) (hc : Row 2 w q u cs) (ics : ∀ n ∈ cs, In64 n) (x : Int) (ix : In64 x) (y : Int) (iy : In64 y) (a : Int) (ia : In64 a) (s : Int) (is : In64 s) (t : Int) (it : In64 t) (b : Int) (ib : In64 b) :
    Calls Try.prog 35 #[.agg #[.int .i64 st, .int .i64 wd, .int .i64 ht, v, u], .agg #[.int .i64 x, .int .i64 y, .int .i64 a], .agg #[.int .i64 s, .int .i64 t, .int .i64 b]] w fun e w' => ∃ A0 n0 c0, e = .returned (.tuple #[.agg #[.int .i64 (pbD st wd ht hs cs x y a s t b), .int .i64 (pbF st wd ht hs cs x y a s t b), .int .i64 (pbL st wd ht hs cs x y a s t b), .slice A0 n0 c0], .int .i64 (askV st wd ht hs cs x y a s t b)]) ∧ Row 2 w' w.heap.size (.slice A0 n0 c0) (pbH st wd ht hs cs x y a s t b) ∧ Below w.heap.size w w' := by
  clear i1 i2 i3 ihs ics ix iy ia is it ib
  obtain ⟨W0, hW0⟩ : ∃ W, W = (((w.alloc (.cells #[.int .i64 st, .int .i64 wd, .int .i64 ht, v, u] 62)).alloc (.cells #[.int .i64 x, .int .i64 y, .int .i64 a] 66)).alloc (.cells #[.int .i64 s, .int .i64 t, .int .i64 b] 66)).alloc (.cells #[.int .i64 0, .int .i64 0, .int .i64 0, .slice none 0 0] 46) := ⟨_, rfl⟩
  have HW0 := Lib.hid (show Below w.heap.size w W0 by rw [hW0]; repeat (first | (with_reducible exact Below.refl _ _) | (with_reducible assumption) | ((with_reducible refine bl_alloc ?_ _ ?_); (focus ((first | omega | (simp <;> omega)); done))) | ((with_reducible refine bl_set ?_ _ ?_); (focus ((first | omega | (simp <;> omega)); done))) | (with_reducible refine below_drewN ?_ _) | (with_reducible refine Below.drew ?_)))
  have z0 := HW0.out.size
  have e0 : W0.cell? ⟨w.heap.size, 0, none⟩ = some (.int .i64 st) := by rw [hW0]; simp [go_sem]
  have e1 : W0.cell? ⟨w.heap.size, 1, none⟩ = some (.int .i64 wd) := by rw [hW0]; simp [go_sem]
  have e2 : W0.cell? ⟨w.heap.size, 2, none⟩ = some (.int .i64 ht) := by rw [hW0]; simp [go_sem]
  have e3 : W0.cell? ⟨w.heap.size, 3, none⟩ = some (v) := by rw [hW0]; simp [go_sem]
  have e4 : W0.cell? ⟨w.heap.size, 4, none⟩ = some (u) := by rw [hW0]; simp [go_sem]
  have e5 : W0.cell? ⟨w.heap.size + 1, 0, none⟩ = some (.int .i64 x) := by rw [hW0]; simp [go_sem]
  have e6 : W0.cell? ⟨w.heap.size + 1, 1, none⟩ = some (.int .i64 y) := by rw [hW0]; simp [go_sem]
  have e7 : W0.cell? ⟨w.heap.size + 1, 2, none⟩ = some (.int .i64 a) := by rw [hW0]; simp [go_sem]
  have e8 : W0.cell? ⟨w.heap.size + 2, 0, none⟩ = some (.int .i64 s) := by rw [hW0]; simp [go_sem]
  have e9 : W0.cell? ⟨w.heap.size + 2, 1, none⟩ = some (.int .i64 t) := by rw [hW0]; simp [go_sem]
  have e10 : W0.cell? ⟨w.heap.size + 2, 2, none⟩ = some (.int .i64 b) := by rw [hW0]; simp [go_sem]
  have lW : w.heap.size + 3 < W0.heap.size := by rw [hW0]; simp
  have SR0 : Hid (SInv W0 (w.heap.size + 3) [.int .i64 0, .int .i64 0, .int .i64 0, .slice none 0 0]) := by
    show SInv _ _ _
    rw [hW0]
    have h := SInv.fresh (((w.alloc (.cells #[.int .i64 st, .int .i64 wd, .int .i64 ht, v, u] 62)).alloc (.cells #[.int .i64 x, .int .i64 y, .int .i64 a] 66)).alloc (.cells #[.int .i64 s, .int .i64 t, .int .i64 b] 66)) #[.int .i64 0, .int .i64 0, .int .i64 0, .slice none 0 0] 46
    have e : (((w.alloc (.cells #[.int .i64 st, .int .i64 wd, .int .i64 ht, v, u] 62)).alloc (.cells #[.int .i64 x, .int .i64 y, .int .i64 a] 66)).alloc (.cells #[.int .i64 s, .int .i64 t, .int .i64 b] 66)).heap.size = w.heap.size + 3 := by simp
    rw [e] at h
    exact h
  have HV : Hid (Calls Try.prog 73 #[.pointer (some ⟨w.heap.size, 0, none⟩), .agg #[.int .i64 x, .int .i64 y, .int .i64 a], .agg #[.int .i64 s, .int .i64 t, .int .i64 b]] W0 fun e w' => e = .returned (.int .i64 (askV st wd ht hs cs x y a s t b)) ∧ Below W0.heap.size W0 w') := l12Ask_any W0 w.heap.size st wd ht v hs p (hr.later HW0.out) u cs q (hc.later HW0.out) e0 e1 e2 e3 e4 x y a s t b
  by_cases hcode : askV st wd ht hs cs x y a s t b = 0
  rotate_left
  · obtain ⟨r1, r2, r3, r4⟩ := pb_no hcode
    rw [r1, r2, r3, r4]
    obtain ⟨C, hC⟩ : ∃ C, C = askV st wd ht hs cs x y a s t b := ⟨_, rfl⟩
    rw [← hC] at HV hcode ⊢
    have n1 : (C == 0) = false := by rw [beq_eq_false_iff_ne]; exact hcode
    have n2 : (C != 0) = true := by rw [bne_iff_ne]; exact hcode
    clear hC hr hc r1 r2 r3 r4
    go_enter Try.func35, Try.ntmps35
    (go_upto_region 1 with fail; rw [← hW0]; clear hW0)
    go_wp2_with fail
    refine HV.out.mono ?_
    rintro e w1 ⟨rfl, hb⟩
    have H1 := Lib.hid (show Below W0.heap.size W0 w1 by repeat (first | (with_reducible exact Below.refl _ _) | (with_reducible assumption) | ((with_reducible refine bl_alloc ?_ _ ?_); (focus ((first | omega | (simp <;> omega)); done))) | ((with_reducible refine bl_set ?_ _ ?_); (focus ((first | omega | (simp <;> omega)); done))) | (with_reducible refine below_drewN ?_ _) | (with_reducible refine Below.drew ?_) | ((with_reducible refine bl_trans ?_ hb ?_); (focus ((first | omega | (simp <;> omega)); done)))))
    have zz1 := H1.out.size
    have SR1 := Lib.hid (SR0.out.later H1.out)
    have n0a := SR1.out.cell 0 _ rfl
    have n1a := SR1.out.cell 1 _ rfl
    have n2a := SR1.out.cell 2 _ rfl
    have n3a := SR1.out.cell 3 _ rfl
    have nfa := SR1.out.free
    have f0 := keeps H1.out e0
    have f1 := keeps H1.out e1
    have f2 := keeps H1.out e2
    have f3 := keeps H1.out e3
    have f4 := keeps H1.out e4
    have f5 := keeps H1.out e5
    have f6 := keeps H1.out e6
    have f7 := keeps H1.out e7
    have f8 := keeps H1.out e8
    have f9 := keeps H1.out e9
    have f10 := keeps H1.out e10
    clear hb
    go_wp2_with fail
    refine bodyPost_ret (v := .tuple #[.agg #[.int .i64 0, .int .i64 0, .int .i64 0, .slice none 0 0], .int .i64 C]) (by simp [results, Try.results35, go_sem, *]) rfl ?_
    exact ⟨none, 0, 0, rfl, Row.nil_, by repeat (first | (with_reducible exact Below.refl _ _) | (with_reducible assumption) | ((with_reducible refine bl_alloc ?_ _ ?_); (focus ((first | omega | (simp <;> omega)); done))) | ((with_reducible refine bl_set ?_ _ ?_); (focus ((first | omega | (simp <;> omega)); done))) | (with_reducible refine below_drewN ?_ _) | (with_reducible refine Below.drew ?_) | ((with_reducible refine bl_trans ?_ H1.out ?_); (focus ((first | omega | (simp <;> omega)); done))) | ((with_reducible refine bl_trans ?_ HW0.out ?_); (focus ((first | omega | (simp <;> omega)); done))))⟩
  obtain ⟨r1, r2, r3, r4⟩ := pb_yes hcode
  obtain ⟨h1, h2, h3, h4, h5, _⟩ := ask_yes hcode
  have HL : Hid (∀ W : World, Below W0.heap.size W0 W → Calls Try.prog 74 #[.pointer (some ⟨w.heap.size, 0, none⟩), .agg #[.int .i64 x, .int .i64 y, .int .i64 a], .agg #[.int .i64 s, .int .i64 t, .int .i64 b]] W fun e w' => ∃ A n c, e = .returned (.agg #[.int .i64 (apartV x y s t), .int .i64 (heightB st wd ht hs x y + a), .int .i64 (heightB st wd ht hs s t + b), .slice A n c]) ∧ Row 2 w' W.heap.size (.slice A n c) (profH st wd ht hs x y s t) ∧ Below W.heap.size W w') := fun W hW => l12Profile_any W w.heap.size st wd ht v hs cs p ((hr.later HW0.out).later hW) x y a s t b h1 h2 h3 h4 h5 (keeps hW e0) (keeps hW e1) (keeps hW e2) (keeps hW e3)
  rw [hcode] at HV
  obtain ⟨dd, hdd⟩ : ∃ d, d = apartV x y s t := ⟨_, rfl⟩
  obtain ⟨ha, hha⟩ : ∃ d, d = heightB st wd ht hs x y + a := ⟨_, rfl⟩
  obtain ⟨hb2, hhb⟩ : ∃ d, d = heightB st wd ht hs s t + b := ⟨_, rfl⟩
  obtain ⟨PH, hPH⟩ : ∃ d, d = profH st wd ht hs x y s t := ⟨_, rfl⟩
  rw [← hdd, ← hha, ← hhb, ← hPH] at HL
  rw [r1, r2, r3, r4, ← hdd, ← hha, ← hhb, ← hPH]
  clear hdd hha hhb hPH r1 r2 r3 r4
  rw [hcode]
  clear hcode hr hc h1 h2 h3 h4 h5
  go_enter Try.func35, Try.ntmps35
  (go_upto_region 1 with fail; rw [← hW0]; clear hW0)
  go_wp2_with fail
  refine HV.out.mono ?_
  rintro e w1 ⟨rfl, hb⟩
  have H1 := Lib.hid (show Below W0.heap.size W0 w1 by repeat (first | (with_reducible exact Below.refl _ _) | (with_reducible assumption) | ((with_reducible refine bl_alloc ?_ _ ?_); (focus ((first | omega | (simp <;> omega)); done))) | ((with_reducible refine bl_set ?_ _ ?_); (focus ((first | omega | (simp <;> omega)); done))) | (with_reducible refine below_drewN ?_ _) | (with_reducible refine Below.drew ?_) | ((with_reducible refine bl_trans ?_ hb ?_); (focus ((first | omega | (simp <;> omega)); done)))))
  have zz1 := H1.out.size
  have SR1 := Lib.hid (SR0.out.later H1.out)
  have n0a := SR1.out.cell 0 _ rfl
  have n1a := SR1.out.cell 1 _ rfl
  have n2a := SR1.out.cell 2 _ rfl
  have n3a := SR1.out.cell 3 _ rfl
  have nfa := SR1.out.free
  have f0 := keeps H1.out e0
  have f1 := keeps H1.out e1
  have f2 := keeps H1.out e2
  have f3 := keeps H1.out e3
  have f4 := keeps H1.out e4
  have f5 := keeps H1.out e5
  have f6 := keeps H1.out e6
  have f7 := keeps H1.out e7
  have f8 := keeps H1.out e8
  have f9 := keeps H1.out e9
  have f10 := keeps H1.out e10
  clear hb
  go_wp2_with fail
  refine (HL.out _ H1.out).mono ?_
  rintro e w2 ⟨A, n, c, rfl, hrow, hb⟩
  have H2 := Lib.hid (show Below W0.heap.size W0 w2 by repeat (first | (with_reducible exact Below.refl _ _) | (with_reducible assumption) | ((with_reducible refine bl_alloc ?_ _ ?_); (focus ((first | omega | (simp <;> omega)); done))) | ((with_reducible refine bl_set ?_ _ ?_); (focus ((first | omega | (simp <;> omega)); done))) | (with_reducible refine below_drewN ?_ _) | (with_reducible refine Below.drew ?_) | ((with_reducible refine bl_trans ?_ hb ?_); (focus ((first | omega | (simp <;> omega)); done))) | ((with_reducible refine bl_trans ?_ H1.out ?_); (focus ((first | omega | (simp <;> omega)); done)))))
  have zz2 := H2.out.size
  have SR2 := Lib.hid (SR0.out.later H2.out)
  have n0b := SR2.out.cell 0 _ rfl
  have n1b := SR2.out.cell 1 _ rfl
  have n2b := SR2.out.cell 2 _ rfl
  have n3b := SR2.out.cell 3 _ rfl
  have nfb := SR2.out.free
  have HR := Lib.hid hrow
  clear hb hrow n0a n1a n2a n3a nfa
  go_wp2_with fail
  refine bodyPost_ret (v := .tuple #[.agg #[.int .i64 dd, .int .i64 ha, .int .i64 hb2, .slice A n c], .int .i64 0]) (by simp [results, Try.results35, go_sem, *]) rfl ?_
  refine ⟨A, n, c, rfl, ?_, by repeat (first | (with_reducible exact Below.refl _ _) | (with_reducible assumption) | ((with_reducible refine bl_alloc ?_ _ ?_); (focus ((first | omega | (simp <;> omega)); done))) | ((with_reducible refine bl_set ?_ _ ?_); (focus ((first | omega | (simp <;> omega)); done))) | (with_reducible refine below_drewN ?_ _) | (with_reducible refine Below.drew ?_) | ((with_reducible refine bl_trans ?_ H2.out ?_); (focus ((first | omega | (simp <;> omega)); done))) | ((with_reducible refine bl_trans ?_ HW0.out ?_); (focus ((first | omega | (simp <;> omega)); done))))⟩
  refine Row.base_le (base := w1.heap.size) ?_ (by omega)
  repeat (first | (with_reducible exact HR.out) | ((with_reducible refine Row.low ?_ _ ?_); (focus ((first | omega | (simp <;> omega)); done))))
set_option maxRecDepth 20000 in
set_option maxHeartbeats 8000000 in
theorem impl_any (w : World) (st : Int) (i1 : In64 st) (wd : Int) (i2 : In64 wd) (ht : Int) (i3 : In64 ht) (v : Value) (hs : List Int) (p : Nat) (hr : Row 2 w p v hs) (ihs : ∀ n ∈ hs, In64 n) (u : Value) (cs : List Int) (q : Nat) (hc : Row 2 w q u cs) (ics : ∀ n ∈ cs, In64 n) (x : Int) (ix : In64 x) (y : Int) (iy : In64 y) (a : Int) (ia : In64 a) (s : Int) (is : In64 s) (t : Int) (it : In64 t) (b : Int) (ib : In64 b) :
    Calls Try.prog 36 #[.agg #[.int .i64 st, .int .i64 wd, .int .i64 ht, v, u], .agg #[.int .i64 x, .int .i64 y, .int .i64 a], .agg #[.int .i64 s, .int .i64 t, .int .i64 b]] w fun e w' => ∃ A0 n0 c0, e = .returned (.tuple #[.agg #[.int .i64 (pbD st wd ht hs cs x y a s t b), .int .i64 (pbF st wd ht hs cs x y a s t b), .int .i64 (pbL st wd ht hs cs x y a s t b), .slice A0 n0 c0], .int .i64 (askV st wd ht hs cs x y a s t b)]) ∧ Row 2 w' w.heap.size (.slice A0 n0 c0) (pbH st wd ht hs cs x y a s t b) ∧ Below w.heap.size w w' := by
  clear i1 i2 i3 ihs ics ix iy ia is it ib
  obtain ⟨W0, hW0⟩ : ∃ W, W = (((w.alloc (.cells #[.int .i64 st, .int .i64 wd, .int .i64 ht, v, u] 62)).alloc (.cells #[.int .i64 x, .int .i64 y, .int .i64 a] 66)).alloc (.cells #[.int .i64 s, .int .i64 t, .int .i64 b] 66)).alloc (.cells #[.int .i64 0, .int .i64 0, .int .i64 0, .slice none 0 0] 46) := ⟨_, rfl⟩
  have HW0 := Lib.hid (show Below w.heap.size w W0 by rw [hW0]; repeat (first | (with_reducible exact Below.refl _ _) | (with_reducible assumption) | ((with_reducible refine bl_alloc ?_ _ ?_); (focus ((first | omega | (simp <;> omega)); done))) | ((with_reducible refine bl_set ?_ _ ?_); (focus ((first | omega | (simp <;> omega)); done))) | (with_reducible refine below_drewN ?_ _) | (with_reducible refine Below.drew ?_)))
  have z0 := HW0.out.size
  have e0 : W0.cell? ⟨w.heap.size, 0, none⟩ = some (.int .i64 st) := by rw [hW0]; simp [go_sem]
  have e1 : W0.cell? ⟨w.heap.size, 1, none⟩ = some (.int .i64 wd) := by rw [hW0]; simp [go_sem]
  have e2 : W0.cell? ⟨w.heap.size, 2, none⟩ = some (.int .i64 ht) := by rw [hW0]; simp [go_sem]
  have e3 : W0.cell? ⟨w.heap.size, 3, none⟩ = some (v) := by rw [hW0]; simp [go_sem]
  have e4 : W0.cell? ⟨w.heap.size, 4, none⟩ = some (u) := by rw [hW0]; simp [go_sem]
  have e5 : W0.cell? ⟨w.heap.size + 1, 0, none⟩ = some (.int .i64 x) := by rw [hW0]; simp [go_sem]
  have e6 : W0.cell? ⟨w.heap.size + 1, 1, none⟩ = some (.int .i64 y) := by rw [hW0]; simp [go_sem]
  have e7 : W0.cell? ⟨w.heap.size + 1, 2, none⟩ = some (.int .i64 a) := by rw [hW0]; simp [go_sem]
  have e8 : W0.cell? ⟨w.heap.size + 2, 0, none⟩ = some (.int .i64 s) := by rw [hW0]; simp [go_sem]
  have e9 : W0.cell? ⟨w.heap.size + 2, 1, none⟩ = some (.int .i64 t) := by rw [hW0]; simp [go_sem]
  have e10 : W0.cell? ⟨w.heap.size + 2, 2, none⟩ = some (.int .i64 b) := by rw [hW0]; simp [go_sem]
  have lW : w.heap.size + 3 < W0.heap.size := by rw [hW0]; simp
  have SR0 : Hid (SInv W0 (w.heap.size + 3) [.int .i64 0, .int .i64 0, .int .i64 0, .slice none 0 0]) := by
    show SInv _ _ _
    rw [hW0]
    have h := SInv.fresh (((w.alloc (.cells #[.int .i64 st, .int .i64 wd, .int .i64 ht, v, u] 62)).alloc (.cells #[.int .i64 x, .int .i64 y, .int .i64 a] 66)).alloc (.cells #[.int .i64 s, .int .i64 t, .int .i64 b] 66)) #[.int .i64 0, .int .i64 0, .int .i64 0, .slice none 0 0] 46
    have e : (((w.alloc (.cells #[.int .i64 st, .int .i64 wd, .int .i64 ht, v, u] 62)).alloc (.cells #[.int .i64 x, .int .i64 y, .int .i64 a] 66)).alloc (.cells #[.int .i64 s, .int .i64 t, .int .i64 b] 66)).heap.size = w.heap.size + 3 := by simp
    rw [e] at h
    exact h
  have HV : Hid (∀ (W : World) (o c : Nat), Below w.heap.size w W → W.cell? ⟨o, 0, none⟩ = some (.int .i64 x) → W.cell? ⟨o, 1, none⟩ = some (.int .i64 y) → W.cell? ⟨o, 2, none⟩ = some (.int .i64 a) → W.cell? ⟨o, 3, none⟩ = some (.int .i64 s) → W.cell? ⟨o, 4, none⟩ = some (.int .i64 t) → W.cell? ⟨o, 5, none⟩ = some (.int .i64 b) → Calls Try.prog 71 #[.agg #[.int .i64 st, .int .i64 wd, .int .i64 ht, v, u], .int .i64 1, .slice (some ⟨o, 0, none⟩) 2 c] W fun e w' => e = .returned (.int .i64 (endsV st wd ht hs cs [⟨x, y, a⟩, ⟨s, t, b⟩])) ∧ Below W.heap.size W w') := fun W o c hW k0 k1 k2 k3 k4 k5 => endsCode_any W st wd ht v hs p (hr.later hW) u cs q (hc.later hW) o c [⟨x, y, a⟩, ⟨s, t, b⟩] (fun k hk => by
    have hk2 : k = 0 ∨ k = 1 := by simp at hk; omega
    rcases hk2 with rfl | rfl
    · exact ⟨k0, k1, k2⟩
    · exact ⟨k3, k4, k5⟩) (by simp) (block_of_cell k0)
  have HSP := Lib.hid (same_place x y s t)
  obtain ⟨C, hC⟩ : ∃ C, C = endsV st wd ht hs cs [⟨x, y, a⟩, ⟨s, t, b⟩] := ⟨_, rfl⟩
  by_cases hcode : C = 0
  rotate_left
  · have h := ask_of hC.symm hcode
    obtain ⟨r1, r2, r3, r4⟩ := pb_no (by rw [h]; exact hcode)
    rw [r1, r2, r3, r4, h]
    rw [← hC] at HV
    have n1 : (C == 0) = false := by rw [beq_eq_false_iff_ne]; exact hcode
    have n2 : (C != 0) = true := by rw [bne_iff_ne]; exact hcode
    clear h hC hr hc r1 r2 r3 r4 HSP
    go_enter Try.func36, Try.ntmps36
    (go_upto_region 1 with fail; rw [← hW0]; clear hW0)
    go_wp2_with fail
    refine (HV.out _ _ _ (by repeat (first | (with_reducible exact Below.refl _ _) | (with_reducible assumption) | ((with_reducible refine bl_alloc ?_ _ ?_); (focus ((first | omega | (simp <;> omega)); done))) | ((with_reducible refine bl_set ?_ _ ?_); (focus ((first | omega | (simp <;> omega)); done))) | (with_reducible refine below_drewN ?_ _) | (with_reducible refine Below.drew ?_) | ((with_reducible refine bl_trans ?_ HW0.out ?_); (focus ((first | omega | (simp <;> omega)); done))))) (by simp [go_sem]) (by simp [go_sem]) (by simp [go_sem]) (by simp [go_sem]) (by simp [go_sem]) (by simp [go_sem])).mono ?_
    rintro e w1 ⟨rfl, hb⟩
    have H1 := Lib.hid (show Below W0.heap.size W0 w1 by repeat (first | (with_reducible exact Below.refl _ _) | (with_reducible assumption) | ((with_reducible refine bl_alloc ?_ _ ?_); (focus ((first | omega | (simp <;> omega)); done))) | ((with_reducible refine bl_set ?_ _ ?_); (focus ((first | omega | (simp <;> omega)); done))) | (with_reducible refine below_drewN ?_ _) | (with_reducible refine Below.drew ?_) | ((with_reducible refine bl_trans ?_ hb ?_); (focus ((first | omega | (simp <;> omega)); done)))))
    have zz1 := H1.out.size
    have SR1 := Lib.hid (SR0.out.later H1.out)
    have n0a := SR1.out.cell 0 _ rfl
    have n1a := SR1.out.cell 1 _ rfl
    have n2a := SR1.out.cell 2 _ rfl
    have n3a := SR1.out.cell 3 _ rfl
    have nfa := SR1.out.free
    have f0 := keeps H1.out e0
    have f1 := keeps H1.out e1
    have f2 := keeps H1.out e2
    have f3 := keeps H1.out e3
    have f4 := keeps H1.out e4
    have f5 := keeps H1.out e5
    have f6 := keeps H1.out e6
    have f7 := keeps H1.out e7
    have f8 := keeps H1.out e8
    have f9 := keeps H1.out e9
    have f10 := keeps H1.out e10
    clear hb
    go_wp2_with fail
    refine bodyPost_ret (v := .tuple #[.agg #[.int .i64 0, .int .i64 0, .int .i64 0, .slice none 0 0], .int .i64 C]) (by simp [results, Try.results36, go_sem, *]) rfl ?_
    exact ⟨none, 0, 0, rfl, Row.nil_, by repeat (first | (with_reducible exact Below.refl _ _) | (with_reducible assumption) | ((with_reducible refine bl_alloc ?_ _ ?_); (focus ((first | omega | (simp <;> omega)); done))) | ((with_reducible refine bl_set ?_ _ ?_); (focus ((first | omega | (simp <;> omega)); done))) | (with_reducible refine below_drewN ?_ _) | (with_reducible refine Below.drew ?_) | ((with_reducible refine bl_trans ?_ H1.out ?_); (focus ((first | omega | (simp <;> omega)); done))) | ((with_reducible refine bl_trans ?_ HW0.out ?_); (focus ((first | omega | (simp <;> omega)); done))))⟩
  rw [hcode] at hC
  by_cases hp : x = s ∧ y = t
  · have h := ask_6 hC.symm hp
    obtain ⟨r1, r2, r3, r4⟩ := pb_no (by rw [h]; decide)
    rw [r1, r2, r3, r4, h]
    rw [← hC] at HV
    clear h hC hr hc r1 r2 r3 r4
    have hx : x = s := hp.1
    have hy : y = t := hp.2
    clear hp HSP
    subst hx hy
    go_enter Try.func36, Try.ntmps36
    (go_upto_region 1 with fail; rw [← hW0]; clear hW0)
    go_wp2_with fail
    refine (HV.out _ _ _ (by repeat (first | (with_reducible exact Below.refl _ _) | (with_reducible assumption) | ((with_reducible refine bl_alloc ?_ _ ?_); (focus ((first | omega | (simp <;> omega)); done))) | ((with_reducible refine bl_set ?_ _ ?_); (focus ((first | omega | (simp <;> omega)); done))) | (with_reducible refine below_drewN ?_ _) | (with_reducible refine Below.drew ?_) | ((with_reducible refine bl_trans ?_ HW0.out ?_); (focus ((first | omega | (simp <;> omega)); done))))) (by simp [go_sem]) (by simp [go_sem]) (by simp [go_sem]) (by simp [go_sem]) (by simp [go_sem]) (by simp [go_sem])).mono ?_
    rintro e w1 ⟨rfl, hb⟩
    have H1 := Lib.hid (show Below W0.heap.size W0 w1 by repeat (first | (with_reducible exact Below.refl _ _) | (with_reducible assumption) | ((with_reducible refine bl_alloc ?_ _ ?_); (focus ((first | omega | (simp <;> omega)); done))) | ((with_reducible refine bl_set ?_ _ ?_); (focus ((first | omega | (simp <;> omega)); done))) | (with_reducible refine below_drewN ?_ _) | (with_reducible refine Below.drew ?_) | ((with_reducible refine bl_trans ?_ hb ?_); (focus ((first | omega | (simp <;> omega)); done)))))
    have zz1 := H1.out.size
    have SR1 := Lib.hid (SR0.out.later H1.out)
    have n0a := SR1.out.cell 0 _ rfl
    have n1a := SR1.out.cell 1 _ rfl
    have n2a := SR1.out.cell 2 _ rfl
    have n3a := SR1.out.cell 3 _ rfl
    have nfa := SR1.out.free
    have f0 := keeps H1.out e0
    have f1 := keeps H1.out e1
    have f2 := keeps H1.out e2
    have f3 := keeps H1.out e3
    have f4 := keeps H1.out e4
    have f5 := keeps H1.out e5
    have f6 := keeps H1.out e6
    have f7 := keeps H1.out e7
    have f8 := keeps H1.out e8
    have f9 := keeps H1.out e9
    have f10 := keeps H1.out e10
    clear hb
    go_wp2_with fail
    refine bodyPost_ret (v := .tuple #[.agg #[.int .i64 0, .int .i64 0, .int .i64 0, .slice none 0 0], .int .i64 6]) (by simp [results, Try.results36, go_sem, *]) rfl ?_
    exact ⟨none, 0, 0, rfl, Row.nil_, by repeat (first | (with_reducible exact Below.refl _ _) | (with_reducible assumption) | ((with_reducible refine bl_alloc ?_ _ ?_); (focus ((first | omega | (simp <;> omega)); done))) | ((with_reducible refine bl_set ?_ _ ?_); (focus ((first | omega | (simp <;> omega)); done))) | (with_reducible refine below_drewN ?_ _) | (with_reducible refine Below.drew ?_) | ((with_reducible refine bl_trans ?_ H1.out ?_); (focus ((first | omega | (simp <;> omega)); done))) | ((with_reducible refine bl_trans ?_ HW0.out ?_); (focus ((first | omega | (simp <;> omega)); done))))⟩
  have h := ask_0 hC.symm hp
  obtain ⟨r1, r2, r3, r4⟩ := pb_yes h
  obtain ⟨h1, h2, h3, h4, h5, _⟩ := ask_yes h
  rw [h]
  have HL : Hid (∀ W : World, Below w.heap.size w W → Calls Try.prog 75 #[.agg #[.int .i64 st, .int .i64 wd, .int .i64 ht, v, u], .agg #[.int .i64 x, .int .i64 y, .int .i64 a], .agg #[.int .i64 s, .int .i64 t, .int .i64 b]] W fun e w' => ∃ A n c, e = .returned (.agg #[.int .i64 (apartV x y s t), .int .i64 (heightB st wd ht hs x y + a), .int .i64 (heightB st wd ht hs s t + b), .slice A n c]) ∧ Row 2 w' W.heap.size (.slice A n c) (profH st wd ht hs x y s t) ∧ Below W.heap.size W w') := fun W hW => profile_any W st wd ht v u hs cs p (hr.later hW) x y a s t b h1 h2 h3 h4 h5
  obtain ⟨dd, hdd⟩ : ∃ d, d = apartV x y s t := ⟨_, rfl⟩
  obtain ⟨ha, hha⟩ : ∃ d, d = heightB st wd ht hs x y + a := ⟨_, rfl⟩
  obtain ⟨hb2, hhb⟩ : ∃ d, d = heightB st wd ht hs s t + b := ⟨_, rfl⟩
  obtain ⟨PH, hPH⟩ : ∃ d, d = profH st wd ht hs x y s t := ⟨_, rfl⟩
  rw [← hdd, ← hha, ← hhb, ← hPH] at HL
  rw [r1, r2, r3, r4, ← hdd, ← hha, ← hhb, ← hPH]
  clear hdd hha hhb hPH r1 r2 r3 r4
  rw [← hC] at HV
  clear h hC hr hc h1 h2 h3 h4 h5 HSP
  by_cases hx : x = s
  · have hy : ¬ y = t := fun h => hp ⟨hx, h⟩
    subst hx
    have hq : (y == t) = false := by rw [beq_eq_false_iff_ne]; exact hy
    clear hp
    go_enter Try.func36, Try.ntmps36
    (go_upto_region 1 with fail; rw [← hW0]; clear hW0)
    go_wp2_with fail
    refine (HV.out _ _ _ (by repeat (first | (with_reducible exact Below.refl _ _) | (with_reducible assumption) | ((with_reducible refine bl_alloc ?_ _ ?_); (focus ((first | omega | (simp <;> omega)); done))) | ((with_reducible refine bl_set ?_ _ ?_); (focus ((first | omega | (simp <;> omega)); done))) | (with_reducible refine below_drewN ?_ _) | (with_reducible refine Below.drew ?_) | ((with_reducible refine bl_trans ?_ HW0.out ?_); (focus ((first | omega | (simp <;> omega)); done))))) (by simp [go_sem]) (by simp [go_sem]) (by simp [go_sem]) (by simp [go_sem]) (by simp [go_sem]) (by simp [go_sem])).mono ?_
    rintro e w1 ⟨rfl, hb⟩
    have H1 := Lib.hid (show Below W0.heap.size W0 w1 by repeat (first | (with_reducible exact Below.refl _ _) | (with_reducible assumption) | ((with_reducible refine bl_alloc ?_ _ ?_); (focus ((first | omega | (simp <;> omega)); done))) | ((with_reducible refine bl_set ?_ _ ?_); (focus ((first | omega | (simp <;> omega)); done))) | (with_reducible refine below_drewN ?_ _) | (with_reducible refine Below.drew ?_) | ((with_reducible refine bl_trans ?_ hb ?_); (focus ((first | omega | (simp <;> omega)); done)))))
    have zz1 := H1.out.size
    have SR1 := Lib.hid (SR0.out.later H1.out)
    have n0a := SR1.out.cell 0 _ rfl
    have n1a := SR1.out.cell 1 _ rfl
    have n2a := SR1.out.cell 2 _ rfl
    have n3a := SR1.out.cell 3 _ rfl
    have nfa := SR1.out.free
    have f0 := keeps H1.out e0
    have f1 := keeps H1.out e1
    have f2 := keeps H1.out e2
    have f3 := keeps H1.out e3
    have f4 := keeps H1.out e4
    have f5 := keeps H1.out e5
    have f6 := keeps H1.out e6
    have f7 := keeps H1.out e7
    have f8 := keeps H1.out e8
    have f9 := keeps H1.out e9
    have f10 := keeps H1.out e10
    clear hb
    go_wp2_with fail
    refine (HL.out _ (by repeat (first | (with_reducible exact Below.refl _ _) | (with_reducible assumption) | ((with_reducible refine bl_alloc ?_ _ ?_); (focus ((first | omega | (simp <;> omega)); done))) | ((with_reducible refine bl_set ?_ _ ?_); (focus ((first | omega | (simp <;> omega)); done))) | (with_reducible refine below_drewN ?_ _) | (with_reducible refine Below.drew ?_) | ((with_reducible refine bl_trans ?_ H1.out ?_); (focus ((first | omega | (simp <;> omega)); done))) | ((with_reducible refine bl_trans ?_ HW0.out ?_); (focus ((first | omega | (simp <;> omega)); done)))))).mono ?_
    rintro e w2 ⟨A, n, c, rfl, hrow, hb⟩
    have H2 := Lib.hid (show Below W0.heap.size W0 w2 by repeat (first | (with_reducible exact Below.refl _ _) | (with_reducible assumption) | ((with_reducible refine bl_alloc ?_ _ ?_); (focus ((first | omega | (simp <;> omega)); done))) | ((with_reducible refine bl_set ?_ _ ?_); (focus ((first | omega | (simp <;> omega)); done))) | (with_reducible refine below_drewN ?_ _) | (with_reducible refine Below.drew ?_) | ((with_reducible refine bl_trans ?_ hb ?_); (focus ((first | omega | (simp <;> omega)); done))) | ((with_reducible refine bl_trans ?_ H1.out ?_); (focus ((first | omega | (simp <;> omega)); done)))))
    have zz2 := H2.out.size
    have SR2 := Lib.hid (SR0.out.later H2.out)
    have n0b := SR2.out.cell 0 _ rfl
    have n1b := SR2.out.cell 1 _ rfl
    have n2b := SR2.out.cell 2 _ rfl
    have n3b := SR2.out.cell 3 _ rfl
    have nfb := SR2.out.free
    have HR := Lib.hid hrow
    clear hb hrow n0a n1a n2a n3a nfa
    go_wp2_with fail
    refine bodyPost_ret (v := .tuple #[.agg #[.int .i64 dd, .int .i64 ha, .int .i64 hb2, .slice A n c], .int .i64 0]) (by simp [results, Try.results36, go_sem, *]) rfl ?_
    refine ⟨A, n, c, rfl, ?_, by repeat (first | (with_reducible exact Below.refl _ _) | (with_reducible assumption) | ((with_reducible refine bl_alloc ?_ _ ?_); (focus ((first | omega | (simp <;> omega)); done))) | ((with_reducible refine bl_set ?_ _ ?_); (focus ((first | omega | (simp <;> omega)); done))) | (with_reducible refine below_drewN ?_ _) | (with_reducible refine Below.drew ?_) | ((with_reducible refine bl_trans ?_ H2.out ?_); (focus ((first | omega | (simp <;> omega)); done))) | ((with_reducible refine bl_trans ?_ HW0.out ?_); (focus ((first | omega | (simp <;> omega)); done))))⟩
    refine Row.base_le (base := w1.heap.size) ?_ (by omega)
    repeat (first | (with_reducible exact HR.out) | ((with_reducible refine Row.low ?_ _ ?_); (focus ((first | omega | (simp <;> omega)); done))))
  have hq : (x == s) = false := by rw [beq_eq_false_iff_ne]; exact hx
  clear hp
  go_enter Try.func36, Try.ntmps36
  (go_upto_region 1 with fail; rw [← hW0]; clear hW0)
  go_wp2_with fail
  refine (HV.out _ _ _ (by repeat (first | (with_reducible exact Below.refl _ _) | (with_reducible assumption) | ((with_reducible refine bl_alloc ?_ _ ?_); (focus ((first | omega | (simp <;> omega)); done))) | ((with_reducible refine bl_set ?_ _ ?_); (focus ((first | omega | (simp <;> omega)); done))) | (with_reducible refine below_drewN ?_ _) | (with_reducible refine Below.drew ?_) | ((with_reducible refine bl_trans ?_ HW0.out ?_); (focus ((first | omega | (simp <;> omega)); done))))) (by simp [go_sem]) (by simp [go_sem]) (by simp [go_sem]) (by simp [go_sem]) (by simp [go_sem]) (by simp [go_sem])).mono ?_
  rintro e w1 ⟨rfl, hb⟩
  have H1 := Lib.hid (show Below W0.heap.size W0 w1 by repeat (first | (with_reducible exact Below.refl _ _) | (with_reducible assumption) | ((with_reducible refine bl_alloc ?_ _ ?_); (focus ((first | omega | (simp <;> omega)); done))) | ((with_reducible refine bl_set ?_ _ ?_); (focus ((first | omega | (simp <;> omega)); done))) | (with_reducible refine below_drewN ?_ _) | (with_reducible refine Below.drew ?_) | ((with_reducible refine bl_trans ?_ hb ?_); (focus ((first | omega | (simp <;> omega)); done)))))
  have zz1 := H1.out.size
  have SR1 := Lib.hid (SR0.out.later H1.out)
  have n0a := SR1.out.cell 0 _ rfl
  have n1a := SR1.out.cell 1 _ rfl
  have n2a := SR1.out.cell 2 _ rfl
  have n3a := SR1.out.cell 3 _ rfl
  have nfa := SR1.out.free
  have f0 := keeps H1.out e0
  have f1 := keeps H1.out e1
  have f2 := keeps H1.out e2
  have f3 := keeps H1.out e3
  have f4 := keeps H1.out e4
  have f5 := keeps H1.out e5
  have f6 := keeps H1.out e6
  have f7 := keeps H1.out e7
  have f8 := keeps H1.out e8
  have f9 := keeps H1.out e9
  have f10 := keeps H1.out e10
  clear hb
  go_wp2_with fail
  refine (HL.out _ (by repeat (first | (with_reducible exact Below.refl _ _) | (with_reducible assumption) | ((with_reducible refine bl_alloc ?_ _ ?_); (focus ((first | omega | (simp <;> omega)); done))) | ((with_reducible refine bl_set ?_ _ ?_); (focus ((first | omega | (simp <;> omega)); done))) | (with_reducible refine below_drewN ?_ _) | (with_reducible refine Below.drew ?_) | ((with_reducible refine bl_trans ?_ H1.out ?_); (focus ((first | omega | (simp <;> omega)); done))) | ((with_reducible refine bl_trans ?_ HW0.out ?_); (focus ((first | omega | (simp <;> omega)); done)))))).mono ?_
  rintro e w2 ⟨A, n, c, rfl, hrow, hb⟩
  have H2 := Lib.hid (show Below W0.heap.size W0 w2 by repeat (first | (with_reducible exact Below.refl _ _) | (with_reducible assumption) | ((with_reducible refine bl_alloc ?_ _ ?_); (focus ((first | omega | (simp <;> omega)); done))) | ((with_reducible refine bl_set ?_ _ ?_); (focus ((first | omega | (simp <;> omega)); done))) | (with_reducible refine below_drewN ?_ _) | (with_reducible refine Below.drew ?_) | ((with_reducible refine bl_trans ?_ hb ?_); (focus ((first | omega | (simp <;> omega)); done))) | ((with_reducible refine bl_trans ?_ H1.out ?_); (focus ((first | omega | (simp <;> omega)); done)))))
  have zz2 := H2.out.size
  have SR2 := Lib.hid (SR0.out.later H2.out)
  have n0b := SR2.out.cell 0 _ rfl
  have n1b := SR2.out.cell 1 _ rfl
  have n2b := SR2.out.cell 2 _ rfl
  have n3b := SR2.out.cell 3 _ rfl
  have nfb := SR2.out.free
  have HR := Lib.hid hrow
  clear hb hrow n0a n1a n2a n3a nfa
  go_wp2_with fail
  refine bodyPost_ret (v := .tuple #[.agg #[.int .i64 dd, .int .i64 ha, .int .i64 hb2, .slice A n c], .int .i64 0]) (by simp [results, Try.results36, go_sem, *]) rfl ?_
  refine ⟨A, n, c, rfl, ?_, by repeat (first | (with_reducible exact Below.refl _ _) | (with_reducible assumption) | ((with_reducible refine bl_alloc ?_ _ ?_); (focus ((first | omega | (simp <;> omega)); done))) | ((with_reducible refine bl_set ?_ _ ?_); (focus ((first | omega | (simp <;> omega)); done))) | (with_reducible refine below_drewN ?_ _) | (with_reducible refine Below.drew ?_) | ((with_reducible refine bl_trans ?_ H2.out ?_); (focus ((first | omega | (simp <;> omega)); done))) | ((with_reducible refine bl_trans ?_ HW0.out ?_); (focus ((first | omega | (simp <;> omega)); done))))⟩
  refine Row.base_le (base := w1.heap.size) ?_ (by omega)
  repeat (first | (with_reducible exact HR.out) | ((with_reducible refine Row.low ?_ _ ?_); (focus ((first | omega | (simp <;> omega)); done))))
set_option maxRecDepth 20000 in
set_option maxHeartbeats 16000000 in
theorem walk (w : World) (a0_0 : Int) (ia0_0 : In64 a0_0) (a0_1 : Int) (ia0_1 : In64 a0_1) (a0_2 : Int) (ia0_2 : In64 a0_2) (v0_3 : Value) (x0_3 : List Int) (r0_3 : Rd w w.heap.size v0_3 x0_3) (ix0_3 : ∀ n ∈ x0_3, In64 n) (v0_4 : Value) (x0_4 : List Int) (r0_4 : Rd w w.heap.size v0_4 x0_4) (ix0_4 : ∀ n ∈ x0_4, In64 n) (a1_0_0 : Int) (ia1_0_0 : In64 a1_0_0) (a1_0_1 : Int) (ia1_0_1 : In64 a1_0_1) (a1_1 : Int) (ia1_1 : In64 a1_1) (a2_0_0 : Int) (ia2_0_0 : In64 a2_0_0) (a2_0_1 : Int) (ia2_0_1 : In64 a2_0_1) (a2_1 : Int) (ia2_1 : In64 a2_1) :
    Calls Try.prog 7 #[.agg #[.int .i64 a0_0, .int .i64 a0_1, .int .i64 a0_2, v0_3, v0_4], .agg #[.int .i64 a1_0_0, .int .i64 a1_0_1, .int .i64 a1_1], .agg #[.int .i64 a2_0_0, .int .i64 a2_0_1, .int .i64 a2_1]] w fun e w' => e = .returned (.bool true) ∧ Below w.heap.size w w' := by
  have hml := pb_len a0_0 a0_1 a0_2 x0_3 x0_4 a1_0_0 a1_0_1 a1_1 a2_0_0 a2_0_1 a2_1
  by_cases hs0 : ¬ (x0_3.length : Int) + (x0_4.length : Int) ≤ 1048576
  · go_enter Try.func7, Try.ntmps7
    go_wp2_with fail
    refine (szTerrain_not a0_0 a0_1 a0_2 _ x0_3 _ x0_4 _ w.heap.size (by first | omega | (simp <;> omega)) (Rd.below r0_3 (by repeat (first | (with_reducible exact Below.refl _ _) | (with_reducible assumption) | ((with_reducible refine bl_alloc ?_ _ ?_); (focus ((first | omega | (simp <;> omega)); done))) | ((with_reducible refine bl_set ?_ _ ?_); (focus ((first | omega | (simp <;> omega)); done))) | (with_reducible refine below_drewN ?_ _) | (with_reducible refine Below.drew ?_)))) (Rd.below r0_4 (by repeat (first | (with_reducible exact Below.refl _ _) | (with_reducible assumption) | ((with_reducible refine bl_alloc ?_ _ ?_); (focus ((first | omega | (simp <;> omega)); done))) | ((with_reducible refine bl_set ?_ _ ?_); (focus ((first | omega | (simp <;> omega)); done))) | (with_reducible refine below_drewN ?_ _) | (with_reducible refine Below.drew ?_))))  _ (by omega) (by omega) (by omega)).mono ?_
    rintro e w1 ⟨rfl, hb⟩
    have zz1 : w.heap.size + 1 + 1 + 1 ≤ w1.heap.size := (by have := hb.size; ((try simp at this) <;> omega))
    have H1 := Lib.hid (show Below w.heap.size w w1 by repeat (first | (with_reducible exact Below.refl _ _) | (with_reducible assumption) | ((with_reducible refine bl_alloc ?_ _ ?_); (focus ((first | omega | (simp <;> omega)); done))) | ((with_reducible refine bl_set ?_ _ ?_); (focus ((first | omega | (simp <;> omega)); done))) | (with_reducible refine below_drewN ?_ _) | (with_reducible refine Below.drew ?_) | ((with_reducible refine bl_trans ?_ hb ?_); (focus ((first | omega | (simp <;> omega)); done)))))
    have f0_0_1 := keeps hb (p := ⟨w.heap.size, 0, none⟩) (v := .int .i64 a0_0) (by simp [go_sem])
    have f0_1_1 := keeps hb (p := ⟨w.heap.size, 1, none⟩) (v := .int .i64 a0_1) (by simp [go_sem])
    have f0_2_1 := keeps hb (p := ⟨w.heap.size, 2, none⟩) (v := .int .i64 a0_2) (by simp [go_sem])
    have f0_3_1 := keeps hb (p := ⟨w.heap.size, 3, none⟩) (v := v0_3) (by simp [go_sem])
    have f0_4_1 := keeps hb (p := ⟨w.heap.size, 4, none⟩) (v := v0_4) (by simp [go_sem])
    have g0_1 : w.heap.size < w1.heap.size := block_of_cell f0_0_1
    have f1_0_1 := keeps hb (p := ⟨w.heap.size + 1, 0, none⟩) (v := .int .i64 a1_0_0) (by simp [go_sem])
    have f1_1_1 := keeps hb (p := ⟨w.heap.size + 1, 1, none⟩) (v := .int .i64 a1_0_1) (by simp [go_sem])
    have f1_2_1 := keeps hb (p := ⟨w.heap.size + 1, 2, none⟩) (v := .int .i64 a1_1) (by simp [go_sem])
    have g1_1 : w.heap.size + 1 < w1.heap.size := block_of_cell f1_0_1
    have f2_0_1 := keeps hb (p := ⟨w.heap.size + 1 + 1, 0, none⟩) (v := .int .i64 a2_0_0) (by simp [go_sem])
    have f2_1_1 := keeps hb (p := ⟨w.heap.size + 1 + 1, 1, none⟩) (v := .int .i64 a2_0_1) (by simp [go_sem])
    have f2_2_1 := keeps hb (p := ⟨w.heap.size + 1 + 1, 2, none⟩) (v := .int .i64 a2_1) (by simp [go_sem])
    have g2_1 : w.heap.size + 1 + 1 < w1.heap.size := block_of_cell f2_0_1
    clear hb
    go_wp2_with fail
    go_ret
    exact ⟨rfl, (by repeat (first | (with_reducible exact Below.refl _ _) | (with_reducible assumption) | ((with_reducible refine bl_alloc ?_ _ ?_); (focus ((first | omega | (simp <;> omega)); done))) | ((with_reducible refine bl_set ?_ _ ?_); (focus ((first | omega | (simp <;> omega)); done))) | (with_reducible refine below_drewN ?_ _) | (with_reducible refine Below.drew ?_) | ((with_reducible refine bl_trans ?_ H1.out ?_); (focus ((first | omega | (simp <;> omega)); done)))))⟩
  have hs0' : (x0_3.length : Int) + (x0_4.length : Int) ≤ 1048576 := by omega
  clear hs0
  go_enter Try.func7, Try.ntmps7
  go_wp2_with fail
  refine (szTerrain_fits a0_0 a0_1 a0_2 _ x0_3 _ x0_4 _ w.heap.size (by first | omega | (simp <;> omega)) (Rd.below r0_3 (by repeat (first | (with_reducible exact Below.refl _ _) | (with_reducible assumption) | ((with_reducible refine bl_alloc ?_ _ ?_); (focus ((first | omega | (simp <;> omega)); done))) | ((with_reducible refine bl_set ?_ _ ?_); (focus ((first | omega | (simp <;> omega)); done))) | (with_reducible refine below_drewN ?_ _) | (with_reducible refine Below.drew ?_)))) (Rd.below r0_4 (by repeat (first | (with_reducible exact Below.refl _ _) | (with_reducible assumption) | ((with_reducible refine bl_alloc ?_ _ ?_); (focus ((first | omega | (simp <;> omega)); done))) | ((with_reducible refine bl_set ?_ _ ?_); (focus ((first | omega | (simp <;> omega)); done))) | (with_reducible refine below_drewN ?_ _) | (with_reducible refine Below.drew ?_))))  _ (by omega) (by omega)).mono ?_
  rintro e w1 ⟨rfl, hb⟩
  have zz1 : w.heap.size + 1 + 1 + 1 ≤ w1.heap.size := (by have := hb.size; ((try simp at this) <;> omega))
  have H1 := Lib.hid (show Below w.heap.size w w1 by repeat (first | (with_reducible exact Below.refl _ _) | (with_reducible assumption) | ((with_reducible refine bl_alloc ?_ _ ?_); (focus ((first | omega | (simp <;> omega)); done))) | ((with_reducible refine bl_set ?_ _ ?_); (focus ((first | omega | (simp <;> omega)); done))) | (with_reducible refine below_drewN ?_ _) | (with_reducible refine Below.drew ?_) | ((with_reducible refine bl_trans ?_ hb ?_); (focus ((first | omega | (simp <;> omega)); done)))))
  have f0_0_1 := keeps hb (p := ⟨w.heap.size, 0, none⟩) (v := .int .i64 a0_0) (by simp [go_sem])
  have f0_1_1 := keeps hb (p := ⟨w.heap.size, 1, none⟩) (v := .int .i64 a0_1) (by simp [go_sem])
  have f0_2_1 := keeps hb (p := ⟨w.heap.size, 2, none⟩) (v := .int .i64 a0_2) (by simp [go_sem])
  have f0_3_1 := keeps hb (p := ⟨w.heap.size, 3, none⟩) (v := v0_3) (by simp [go_sem])
  have f0_4_1 := keeps hb (p := ⟨w.heap.size, 4, none⟩) (v := v0_4) (by simp [go_sem])
  have g0_1 : w.heap.size < w1.heap.size := block_of_cell f0_0_1
  have f1_0_1 := keeps hb (p := ⟨w.heap.size + 1, 0, none⟩) (v := .int .i64 a1_0_0) (by simp [go_sem])
  have f1_1_1 := keeps hb (p := ⟨w.heap.size + 1, 1, none⟩) (v := .int .i64 a1_0_1) (by simp [go_sem])
  have f1_2_1 := keeps hb (p := ⟨w.heap.size + 1, 2, none⟩) (v := .int .i64 a1_1) (by simp [go_sem])
  have g1_1 : w.heap.size + 1 < w1.heap.size := block_of_cell f1_0_1
  have f2_0_1 := keeps hb (p := ⟨w.heap.size + 1 + 1, 0, none⟩) (v := .int .i64 a2_0_0) (by simp [go_sem])
  have f2_1_1 := keeps hb (p := ⟨w.heap.size + 1 + 1, 1, none⟩) (v := .int .i64 a2_0_1) (by simp [go_sem])
  have f2_2_1 := keeps hb (p := ⟨w.heap.size + 1 + 1, 2, none⟩) (v := .int .i64 a2_1) (by simp [go_sem])
  have g2_1 : w.heap.size + 1 + 1 < w1.heap.size := block_of_cell f2_0_1
  clear hb
  go_upto_region 5 with fail
  go_cut [8, 9] (fun p_ c_ wx => ∃ O A2 n2 c2, p_ = .pointer (some ⟨O, 0, none⟩) ∧ c_ = .int .i64 (askV a0_0 a0_1 a0_2 x0_3 x0_4 a1_0_0 a1_0_1 a1_1 a2_0_0 a2_0_1 a2_1) ∧ Hid (SInv wx O [.int .i64 ((pbD a0_0 a0_1 a0_2 x0_3 x0_4 a1_0_0 a1_0_1 a1_1 a2_0_0 a2_0_1 a2_1)), .int .i64 ((pbF a0_0 a0_1 a0_2 x0_3 x0_4 a1_0_0 a1_0_1 a1_1 a2_0_0 a2_0_1 a2_1)), .int .i64 ((pbL a0_0 a0_1 a0_2 x0_3 x0_4 a1_0_0 a1_0_1 a1_1 a2_0_0 a2_0_1 a2_1)), (.slice A2 n2 c2)]) ∧ Hid (w1.heap.size ≤ O) ∧ Hid (Row 2 wx w1.heap.size (.slice A2 n2 c2) (pbH a0_0 a0_1 a0_2 x0_3 x0_4 a1_0_0 a1_0_1 a1_1 a2_0_0 a2_0_1 a2_1)) ∧ Hid (Value.ownBlock (.slice A2 n2 c2) ≠ some O) ∧ Hid (Below w1.heap.size w1 wx))
  case first =>
    go_region_held3 (fun w' => w'.cell? ⟨w.heap.size, 0, none⟩ = some (.int .i64 a0_0) ∧ w'.cell? ⟨w.heap.size, 1, none⟩ = some (.int .i64 a0_1) ∧ w'.cell? ⟨w.heap.size, 2, none⟩ = some (.int .i64 a0_2) ∧ w'.cell? ⟨w.heap.size, 3, none⟩ = some (v0_3) ∧ w'.cell? ⟨w.heap.size, 4, none⟩ = some (v0_4) ∧ w'.cell? ⟨w.heap.size + 1, 0, none⟩ = some (.int .i64 a1_0_0) ∧ w'.cell? ⟨w.heap.size + 1, 1, none⟩ = some (.int .i64 a1_0_1) ∧ w'.cell? ⟨w.heap.size + 1, 2, none⟩ = some (.int .i64 a1_1) ∧ w'.cell? ⟨w.heap.size + 1 + 1, 0, none⟩ = some (.int .i64 a2_0_0) ∧ w'.cell? ⟨w.heap.size + 1 + 1, 1, none⟩ = some (.int .i64 a2_0_1) ∧ w'.cell? ⟨w.heap.size + 1 + 1, 2, none⟩ = some (.int .i64 a2_1))
      (((try go_split_ands); (refine ⟨?_, ?_, ?_, ?_, ?_, ?_, ?_, ?_, ?_, ?_, ?_⟩ <;> (repeat (first | (with_reducible assumption) | (with_reducible refine cell_drew ?_) | (with_reducible refine cell_drewN ?_) | (with_reducible refine cell_alloc ?_ _) | ((with_reducible refine cell_set1 ?_ ?_); (focus (omega; done))) | (with_reducible refine keeps hb ?_))))))
      (first
        | (go_at_call 31; ((with_reducible refine (toTerrain_any a0_0 a0_1 a0_2 v0_3 x0_3 v0_4 x0_4 _ w.heap.size (by first | omega | (simp <;> omega)) (Rd.below r0_3 (by repeat (first | (with_reducible exact Below.refl _ _) | (with_reducible assumption) | ((with_reducible refine bl_alloc ?_ _ ?_); (focus ((first | omega | (simp <;> omega)); done))) | ((with_reducible refine bl_set ?_ _ ?_); (focus ((first | omega | (simp <;> omega)); done))) | (with_reducible refine below_drewN ?_ _) | (with_reducible refine Below.drew ?_) | ((with_reducible refine bl_trans ?_ H1.out ?_); (focus ((first | omega | (simp <;> omega)); done)))))) (by omega) (Rd.below r0_4 (by repeat (first | (with_reducible exact Below.refl _ _) | (with_reducible assumption) | ((with_reducible refine bl_alloc ?_ _ ?_); (focus ((first | omega | (simp <;> omega)); done))) | ((with_reducible refine bl_set ?_ _ ?_); (focus ((first | omega | (simp <;> omega)); done))) | (with_reducible refine below_drewN ?_ _) | (with_reducible refine Below.drew ?_) | ((with_reducible refine bl_trans ?_ H1.out ?_); (focus ((first | omega | (simp <;> omega)); done)))))) (by omega)).mono ?_); rintro e w2 ⟨A0, n0, c0, A1, n1, c1, rfl, hr0, hr1, ha0_1, hb⟩; have zz2 : w1.heap.size ≤ w2.heap.size := (by have := hb.size; ((try simp at this) <;> omega)); have H2 := Lib.hid (show Below w.heap.size w w2 by repeat (first | (with_reducible exact Below.refl _ _) | (with_reducible assumption) | ((with_reducible refine bl_alloc ?_ _ ?_); (focus ((first | omega | (simp <;> omega)); done))) | ((with_reducible refine bl_set ?_ _ ?_); (focus ((first | omega | (simp <;> omega)); done))) | (with_reducible refine below_drewN ?_ _) | (with_reducible refine Below.drew ?_) | ((with_reducible refine bl_trans ?_ hb ?_); (focus ((first | omega | (simp <;> omega)); done))) | ((with_reducible refine bl_trans ?_ H1.out ?_); (focus ((first | omega | (simp <;> omega)); done))))); have HX2 := Lib.hid (show Below w1.heap.size w1 w2 by repeat (first | (with_reducible exact Below.refl _ _) | (with_reducible assumption) | ((with_reducible refine bl_alloc ?_ _ ?_); (focus ((first | omega | (simp <;> omega)); done))) | ((with_reducible refine bl_set ?_ _ ?_); (focus ((first | omega | (simp <;> omega)); done))) | (with_reducible refine below_drewN ?_ _) | (with_reducible refine Below.drew ?_) | ((with_reducible refine bl_trans ?_ hb ?_); (focus ((first | omega | (simp <;> omega)); done))))); have f0_0_2 : w2.cell? ⟨w.heap.size, 0, none⟩ = some (.int .i64 a0_0) := (by first | exact keeps hb f0_0_1 | exact keeps1 hb f0_0_1 | exact keeps hb (cell_alloc f0_0_1 _) | exact keeps hb (cell_alloc (cell_drew f0_0_1) _)); have f0_1_2 : w2.cell? ⟨w.heap.size, 1, none⟩ = some (.int .i64 a0_1) := (by first | exact keeps hb f0_1_1 | exact keeps1 hb f0_1_1 | exact keeps hb (cell_alloc f0_1_1 _) | exact keeps hb (cell_alloc (cell_drew f0_1_1) _)); have f0_2_2 : w2.cell? ⟨w.heap.size, 2, none⟩ = some (.int .i64 a0_2) := (by first | exact keeps hb f0_2_1 | exact keeps1 hb f0_2_1 | exact keeps hb (cell_alloc f0_2_1 _) | exact keeps hb (cell_alloc (cell_drew f0_2_1) _)); have f0_3_2 : w2.cell? ⟨w.heap.size, 3, none⟩ = some (v0_3) := (by first | exact keeps hb f0_3_1 | exact keeps1 hb f0_3_1 | exact keeps hb (cell_alloc f0_3_1 _) | exact keeps hb (cell_alloc (cell_drew f0_3_1) _)); have f0_4_2 : w2.cell? ⟨w.heap.size, 4, none⟩ = some (v0_4) := (by first | exact keeps hb f0_4_1 | exact keeps1 hb f0_4_1 | exact keeps hb (cell_alloc f0_4_1 _) | exact keeps hb (cell_alloc (cell_drew f0_4_1) _)); have f1_0_2 : w2.cell? ⟨w.heap.size + 1, 0, none⟩ = some (.int .i64 a1_0_0) := (by first | exact keeps hb f1_0_1 | exact keeps1 hb f1_0_1 | exact keeps hb (cell_alloc f1_0_1 _) | exact keeps hb (cell_alloc (cell_drew f1_0_1) _)); have f1_1_2 : w2.cell? ⟨w.heap.size + 1, 1, none⟩ = some (.int .i64 a1_0_1) := (by first | exact keeps hb f1_1_1 | exact keeps1 hb f1_1_1 | exact keeps hb (cell_alloc f1_1_1 _) | exact keeps hb (cell_alloc (cell_drew f1_1_1) _)); have f1_2_2 : w2.cell? ⟨w.heap.size + 1, 2, none⟩ = some (.int .i64 a1_1) := (by first | exact keeps hb f1_2_1 | exact keeps1 hb f1_2_1 | exact keeps hb (cell_alloc f1_2_1 _) | exact keeps hb (cell_alloc (cell_drew f1_2_1) _)); have f2_0_2 : w2.cell? ⟨w.heap.size + 1 + 1, 0, none⟩ = some (.int .i64 a2_0_0) := (by first | exact keeps hb f2_0_1 | exact keeps1 hb f2_0_1 | exact keeps hb (cell_alloc f2_0_1 _) | exact keeps hb (cell_alloc (cell_drew f2_0_1) _)); have f2_1_2 : w2.cell? ⟨w.heap.size + 1 + 1, 1, none⟩ = some (.int .i64 a2_0_1) := (by first | exact keeps hb f2_1_1 | exact keeps1 hb f2_1_1 | exact keeps hb (cell_alloc f2_1_1 _) | exact keeps hb (cell_alloc (cell_drew f2_1_1) _)); have f2_2_2 : w2.cell? ⟨w.heap.size + 1 + 1, 2, none⟩ = some (.int .i64 a2_1) := (by first | exact keeps hb f2_2_1 | exact keeps1 hb f2_2_1 | exact keeps hb (cell_alloc f2_2_1 _) | exact keeps hb (cell_alloc (cell_drew f2_2_1) _)); have R0_2 := Lib.hid (Row.base_le (b' := w1.heap.size) hr0 (by first | omega | (simp <;> omega))); have RL0 := Lib.hid (show ∀ g, Value.ownBlock (.slice A0 n0 c0) = some g → w1.heap.size ≤ g ∧ g < w2.heap.size from fun g h => by have l1 := hr0.lt g h; ((try simp at l1) <;> omega)); have RA0_1 := Lib.hid ha0_1; have R1_2 := Lib.hid (Row.base_le (b' := w1.heap.size) hr1 (by first | omega | (simp <;> omega))); have RL1 := Lib.hid (show ∀ g, Value.ownBlock (.slice A1 n1 c1) = some g → w1.heap.size ≤ g ∧ g < w2.heap.size from fun g h => by have l1 := hr1.lt g h; ((try simp at l1) <;> omega)); (first | (have SZ2 := Lib.hid (SZ1.out.later hb)) | (have SZ2 := Lib.hid (mk_fresh1 hb)) | (have SZ2 := Lib.hid (mk_fresh2 hb)) | (have SZ2 := Lib.hid (mk_fresh hb)) | skip); (first | (have zl2 := SZ2.out.lt) | skip)))
        | (go_at_call 32; ((with_reducible refine (toEnd_any a1_0_0 a1_0_1 a1_1 _).mono ?_); rintro e w3 ⟨rfl, hb⟩; have zz3 : w2.heap.size ≤ w3.heap.size := (by have := hb.size; ((try simp at this) <;> omega)); have H3 := Lib.hid (show Below w.heap.size w w3 by repeat (first | (with_reducible exact Below.refl _ _) | (with_reducible assumption) | ((with_reducible refine bl_alloc ?_ _ ?_); (focus ((first | omega | (simp <;> omega)); done))) | ((with_reducible refine bl_set ?_ _ ?_); (focus ((first | omega | (simp <;> omega)); done))) | (with_reducible refine below_drewN ?_ _) | (with_reducible refine Below.drew ?_) | ((with_reducible refine bl_trans ?_ hb ?_); (focus ((first | omega | (simp <;> omega)); done))) | ((with_reducible refine bl_trans ?_ H2.out ?_); (focus ((first | omega | (simp <;> omega)); done))))); have HX3 := Lib.hid (show Below w1.heap.size w1 w3 by repeat (first | (with_reducible exact Below.refl _ _) | (with_reducible assumption) | ((with_reducible refine bl_alloc ?_ _ ?_); (focus ((first | omega | (simp <;> omega)); done))) | ((with_reducible refine bl_set ?_ _ ?_); (focus ((first | omega | (simp <;> omega)); done))) | (with_reducible refine below_drewN ?_ _) | (with_reducible refine Below.drew ?_) | ((with_reducible refine bl_trans ?_ hb ?_); (focus ((first | omega | (simp <;> omega)); done))) | ((with_reducible refine bl_trans ?_ HX2.out ?_); (focus ((first | omega | (simp <;> omega)); done))))); have f0_0_3 : w3.cell? ⟨w.heap.size, 0, none⟩ = some (.int .i64 a0_0) := (by first | exact keeps hb f0_0_2 | exact keeps1 hb f0_0_2 | exact keeps hb (cell_alloc f0_0_2 _) | exact keeps hb (cell_alloc (cell_drew f0_0_2) _)); have f0_1_3 : w3.cell? ⟨w.heap.size, 1, none⟩ = some (.int .i64 a0_1) := (by first | exact keeps hb f0_1_2 | exact keeps1 hb f0_1_2 | exact keeps hb (cell_alloc f0_1_2 _) | exact keeps hb (cell_alloc (cell_drew f0_1_2) _)); have f0_2_3 : w3.cell? ⟨w.heap.size, 2, none⟩ = some (.int .i64 a0_2) := (by first | exact keeps hb f0_2_2 | exact keeps1 hb f0_2_2 | exact keeps hb (cell_alloc f0_2_2 _) | exact keeps hb (cell_alloc (cell_drew f0_2_2) _)); have f0_3_3 : w3.cell? ⟨w.heap.size, 3, none⟩ = some (v0_3) := (by first | exact keeps hb f0_3_2 | exact keeps1 hb f0_3_2 | exact keeps hb (cell_alloc f0_3_2 _) | exact keeps hb (cell_alloc (cell_drew f0_3_2) _)); have f0_4_3 : w3.cell? ⟨w.heap.size, 4, none⟩ = some (v0_4) := (by first | exact keeps hb f0_4_2 | exact keeps1 hb f0_4_2 | exact keeps hb (cell_alloc f0_4_2 _) | exact keeps hb (cell_alloc (cell_drew f0_4_2) _)); have f1_0_3 : w3.cell? ⟨w.heap.size + 1, 0, none⟩ = some (.int .i64 a1_0_0) := (by first | exact keeps hb f1_0_2 | exact keeps1 hb f1_0_2 | exact keeps hb (cell_alloc f1_0_2 _) | exact keeps hb (cell_alloc (cell_drew f1_0_2) _)); have f1_1_3 : w3.cell? ⟨w.heap.size + 1, 1, none⟩ = some (.int .i64 a1_0_1) := (by first | exact keeps hb f1_1_2 | exact keeps1 hb f1_1_2 | exact keeps hb (cell_alloc f1_1_2 _) | exact keeps hb (cell_alloc (cell_drew f1_1_2) _)); have f1_2_3 : w3.cell? ⟨w.heap.size + 1, 2, none⟩ = some (.int .i64 a1_1) := (by first | exact keeps hb f1_2_2 | exact keeps1 hb f1_2_2 | exact keeps hb (cell_alloc f1_2_2 _) | exact keeps hb (cell_alloc (cell_drew f1_2_2) _)); have f2_0_3 : w3.cell? ⟨w.heap.size + 1 + 1, 0, none⟩ = some (.int .i64 a2_0_0) := (by first | exact keeps hb f2_0_2 | exact keeps1 hb f2_0_2 | exact keeps hb (cell_alloc f2_0_2 _) | exact keeps hb (cell_alloc (cell_drew f2_0_2) _)); have f2_1_3 : w3.cell? ⟨w.heap.size + 1 + 1, 1, none⟩ = some (.int .i64 a2_0_1) := (by first | exact keeps hb f2_1_2 | exact keeps1 hb f2_1_2 | exact keeps hb (cell_alloc f2_1_2 _) | exact keeps hb (cell_alloc (cell_drew f2_1_2) _)); have f2_2_3 : w3.cell? ⟨w.heap.size + 1 + 1, 2, none⟩ = some (.int .i64 a2_1) := (by first | exact keeps hb f2_2_2 | exact keeps1 hb f2_2_2 | exact keeps hb (cell_alloc f2_2_2 _) | exact keeps hb (cell_alloc (cell_drew f2_2_2) _)); have R0_3 : Hid (Row 2 w3 w1.heap.size (.slice A0 n0 c0) x0_3) := (by first | exact Lib.hid (Row.later R0_2.out hb) | exact Lib.hid (Row.later (R0_2.out.alloc_ _) hb)); have R1_3 : Hid (Row 2 w3 w1.heap.size (.slice A1 n1 c1) x0_4) := (by first | exact Lib.hid (Row.later R1_2.out hb) | exact Lib.hid (Row.later (R1_2.out.alloc_ _) hb)); (first | (have SZ3 := Lib.hid (SZ2.out.later hb)) | (have SZ3 := Lib.hid (mk_fresh1 hb)) | (have SZ3 := Lib.hid (mk_fresh2 hb)) | (have SZ3 := Lib.hid (mk_fresh hb)) | skip); (first | (have zl3 := SZ3.out.lt) | skip)))
        | (go_at_call 32; ((with_reducible refine (toEnd_any a2_0_0 a2_0_1 a2_1 _).mono ?_); rintro e w4 ⟨rfl, hb⟩; have zz4 : w3.heap.size ≤ w4.heap.size := (by have := hb.size; ((try simp at this) <;> omega)); have H4 := Lib.hid (show Below w.heap.size w w4 by repeat (first | (with_reducible exact Below.refl _ _) | (with_reducible assumption) | ((with_reducible refine bl_alloc ?_ _ ?_); (focus ((first | omega | (simp <;> omega)); done))) | ((with_reducible refine bl_set ?_ _ ?_); (focus ((first | omega | (simp <;> omega)); done))) | (with_reducible refine below_drewN ?_ _) | (with_reducible refine Below.drew ?_) | ((with_reducible refine bl_trans ?_ hb ?_); (focus ((first | omega | (simp <;> omega)); done))) | ((with_reducible refine bl_trans ?_ H3.out ?_); (focus ((first | omega | (simp <;> omega)); done))))); have HX4 := Lib.hid (show Below w1.heap.size w1 w4 by repeat (first | (with_reducible exact Below.refl _ _) | (with_reducible assumption) | ((with_reducible refine bl_alloc ?_ _ ?_); (focus ((first | omega | (simp <;> omega)); done))) | ((with_reducible refine bl_set ?_ _ ?_); (focus ((first | omega | (simp <;> omega)); done))) | (with_reducible refine below_drewN ?_ _) | (with_reducible refine Below.drew ?_) | ((with_reducible refine bl_trans ?_ hb ?_); (focus ((first | omega | (simp <;> omega)); done))) | ((with_reducible refine bl_trans ?_ HX3.out ?_); (focus ((first | omega | (simp <;> omega)); done))))); have f0_0_4 : w4.cell? ⟨w.heap.size, 0, none⟩ = some (.int .i64 a0_0) := (by first | exact keeps hb f0_0_3 | exact keeps1 hb f0_0_3 | exact keeps hb (cell_alloc f0_0_3 _) | exact keeps hb (cell_alloc (cell_drew f0_0_3) _)); have f0_1_4 : w4.cell? ⟨w.heap.size, 1, none⟩ = some (.int .i64 a0_1) := (by first | exact keeps hb f0_1_3 | exact keeps1 hb f0_1_3 | exact keeps hb (cell_alloc f0_1_3 _) | exact keeps hb (cell_alloc (cell_drew f0_1_3) _)); have f0_2_4 : w4.cell? ⟨w.heap.size, 2, none⟩ = some (.int .i64 a0_2) := (by first | exact keeps hb f0_2_3 | exact keeps1 hb f0_2_3 | exact keeps hb (cell_alloc f0_2_3 _) | exact keeps hb (cell_alloc (cell_drew f0_2_3) _)); have f0_3_4 : w4.cell? ⟨w.heap.size, 3, none⟩ = some (v0_3) := (by first | exact keeps hb f0_3_3 | exact keeps1 hb f0_3_3 | exact keeps hb (cell_alloc f0_3_3 _) | exact keeps hb (cell_alloc (cell_drew f0_3_3) _)); have f0_4_4 : w4.cell? ⟨w.heap.size, 4, none⟩ = some (v0_4) := (by first | exact keeps hb f0_4_3 | exact keeps1 hb f0_4_3 | exact keeps hb (cell_alloc f0_4_3 _) | exact keeps hb (cell_alloc (cell_drew f0_4_3) _)); have f1_0_4 : w4.cell? ⟨w.heap.size + 1, 0, none⟩ = some (.int .i64 a1_0_0) := (by first | exact keeps hb f1_0_3 | exact keeps1 hb f1_0_3 | exact keeps hb (cell_alloc f1_0_3 _) | exact keeps hb (cell_alloc (cell_drew f1_0_3) _)); have f1_1_4 : w4.cell? ⟨w.heap.size + 1, 1, none⟩ = some (.int .i64 a1_0_1) := (by first | exact keeps hb f1_1_3 | exact keeps1 hb f1_1_3 | exact keeps hb (cell_alloc f1_1_3 _) | exact keeps hb (cell_alloc (cell_drew f1_1_3) _)); have f1_2_4 : w4.cell? ⟨w.heap.size + 1, 2, none⟩ = some (.int .i64 a1_1) := (by first | exact keeps hb f1_2_3 | exact keeps1 hb f1_2_3 | exact keeps hb (cell_alloc f1_2_3 _) | exact keeps hb (cell_alloc (cell_drew f1_2_3) _)); have f2_0_4 : w4.cell? ⟨w.heap.size + 1 + 1, 0, none⟩ = some (.int .i64 a2_0_0) := (by first | exact keeps hb f2_0_3 | exact keeps1 hb f2_0_3 | exact keeps hb (cell_alloc f2_0_3 _) | exact keeps hb (cell_alloc (cell_drew f2_0_3) _)); have f2_1_4 : w4.cell? ⟨w.heap.size + 1 + 1, 1, none⟩ = some (.int .i64 a2_0_1) := (by first | exact keeps hb f2_1_3 | exact keeps1 hb f2_1_3 | exact keeps hb (cell_alloc f2_1_3 _) | exact keeps hb (cell_alloc (cell_drew f2_1_3) _)); have f2_2_4 : w4.cell? ⟨w.heap.size + 1 + 1, 2, none⟩ = some (.int .i64 a2_1) := (by first | exact keeps hb f2_2_3 | exact keeps1 hb f2_2_3 | exact keeps hb (cell_alloc f2_2_3 _) | exact keeps hb (cell_alloc (cell_drew f2_2_3) _)); have R0_4 : Hid (Row 2 w4 w1.heap.size (.slice A0 n0 c0) x0_3) := (by first | exact Lib.hid (Row.later R0_3.out hb) | exact Lib.hid (Row.later (R0_3.out.alloc_ _) hb)); have R1_4 : Hid (Row 2 w4 w1.heap.size (.slice A1 n1 c1) x0_4) := (by first | exact Lib.hid (Row.later R1_3.out hb) | exact Lib.hid (Row.later (R1_3.out.alloc_ _) hb)); (first | (have SZ4 := Lib.hid (SZ3.out.later hb)) | (have SZ4 := Lib.hid (mk_fresh1 hb)) | (have SZ4 := Lib.hid (mk_fresh2 hb)) | (have SZ4 := Lib.hid (mk_fresh hb)) | skip); (first | (have zl4 := SZ4.out.lt) | skip)))
        | (go_at_call 35; ((with_reducible refine (spec_any _ a0_0 ia0_0 a0_1 ia0_1 a0_2 ia0_2 _ x0_3 _ (by first | exact R0_4.out | exact R0_4.out.alloc_ _) ix0_3 _ x0_4 _ (by first | exact R1_4.out | exact R1_4.out.alloc_ _) ix0_4 a1_0_0 ia1_0_0 a1_0_1 ia1_0_1 a1_1 ia1_1 a2_0_0 ia2_0_0 a2_0_1 ia2_0_1 a2_1 ia2_1).mono ?_); rintro e w5 ⟨A2, n2, c2, rfl, hr2, hb⟩; have zz5 : w4.heap.size ≤ w5.heap.size := (by have := hb.size; ((try simp at this) <;> omega)); have H5 := Lib.hid (show Below w.heap.size w w5 by repeat (first | (with_reducible exact Below.refl _ _) | (with_reducible assumption) | ((with_reducible refine bl_alloc ?_ _ ?_); (focus ((first | omega | (simp <;> omega)); done))) | ((with_reducible refine bl_set ?_ _ ?_); (focus ((first | omega | (simp <;> omega)); done))) | (with_reducible refine below_drewN ?_ _) | (with_reducible refine Below.drew ?_) | ((with_reducible refine bl_trans ?_ hb ?_); (focus ((first | omega | (simp <;> omega)); done))) | ((with_reducible refine bl_trans ?_ H4.out ?_); (focus ((first | omega | (simp <;> omega)); done))))); have HX5 := Lib.hid (show Below w1.heap.size w1 w5 by repeat (first | (with_reducible exact Below.refl _ _) | (with_reducible assumption) | ((with_reducible refine bl_alloc ?_ _ ?_); (focus ((first | omega | (simp <;> omega)); done))) | ((with_reducible refine bl_set ?_ _ ?_); (focus ((first | omega | (simp <;> omega)); done))) | (with_reducible refine below_drewN ?_ _) | (with_reducible refine Below.drew ?_) | ((with_reducible refine bl_trans ?_ hb ?_); (focus ((first | omega | (simp <;> omega)); done))) | ((with_reducible refine bl_trans ?_ HX4.out ?_); (focus ((first | omega | (simp <;> omega)); done))))); have f0_0_5 : w5.cell? ⟨w.heap.size, 0, none⟩ = some (.int .i64 a0_0) := (by first | exact keeps hb f0_0_4 | exact keeps1 hb f0_0_4 | exact keeps hb (cell_alloc f0_0_4 _) | exact keeps hb (cell_alloc (cell_drew f0_0_4) _)); have f0_1_5 : w5.cell? ⟨w.heap.size, 1, none⟩ = some (.int .i64 a0_1) := (by first | exact keeps hb f0_1_4 | exact keeps1 hb f0_1_4 | exact keeps hb (cell_alloc f0_1_4 _) | exact keeps hb (cell_alloc (cell_drew f0_1_4) _)); have f0_2_5 : w5.cell? ⟨w.heap.size, 2, none⟩ = some (.int .i64 a0_2) := (by first | exact keeps hb f0_2_4 | exact keeps1 hb f0_2_4 | exact keeps hb (cell_alloc f0_2_4 _) | exact keeps hb (cell_alloc (cell_drew f0_2_4) _)); have f0_3_5 : w5.cell? ⟨w.heap.size, 3, none⟩ = some (v0_3) := (by first | exact keeps hb f0_3_4 | exact keeps1 hb f0_3_4 | exact keeps hb (cell_alloc f0_3_4 _) | exact keeps hb (cell_alloc (cell_drew f0_3_4) _)); have f0_4_5 : w5.cell? ⟨w.heap.size, 4, none⟩ = some (v0_4) := (by first | exact keeps hb f0_4_4 | exact keeps1 hb f0_4_4 | exact keeps hb (cell_alloc f0_4_4 _) | exact keeps hb (cell_alloc (cell_drew f0_4_4) _)); have f1_0_5 : w5.cell? ⟨w.heap.size + 1, 0, none⟩ = some (.int .i64 a1_0_0) := (by first | exact keeps hb f1_0_4 | exact keeps1 hb f1_0_4 | exact keeps hb (cell_alloc f1_0_4 _) | exact keeps hb (cell_alloc (cell_drew f1_0_4) _)); have f1_1_5 : w5.cell? ⟨w.heap.size + 1, 1, none⟩ = some (.int .i64 a1_0_1) := (by first | exact keeps hb f1_1_4 | exact keeps1 hb f1_1_4 | exact keeps hb (cell_alloc f1_1_4 _) | exact keeps hb (cell_alloc (cell_drew f1_1_4) _)); have f1_2_5 : w5.cell? ⟨w.heap.size + 1, 2, none⟩ = some (.int .i64 a1_1) := (by first | exact keeps hb f1_2_4 | exact keeps1 hb f1_2_4 | exact keeps hb (cell_alloc f1_2_4 _) | exact keeps hb (cell_alloc (cell_drew f1_2_4) _)); have f2_0_5 : w5.cell? ⟨w.heap.size + 1 + 1, 0, none⟩ = some (.int .i64 a2_0_0) := (by first | exact keeps hb f2_0_4 | exact keeps1 hb f2_0_4 | exact keeps hb (cell_alloc f2_0_4 _) | exact keeps hb (cell_alloc (cell_drew f2_0_4) _)); have f2_1_5 : w5.cell? ⟨w.heap.size + 1 + 1, 1, none⟩ = some (.int .i64 a2_0_1) := (by first | exact keeps hb f2_1_4 | exact keeps1 hb f2_1_4 | exact keeps hb (cell_alloc f2_1_4 _) | exact keeps hb (cell_alloc (cell_drew f2_1_4) _)); have f2_2_5 : w5.cell? ⟨w.heap.size + 1 + 1, 2, none⟩ = some (.int .i64 a2_1) := (by first | exact keeps hb f2_2_4 | exact keeps1 hb f2_2_4 | exact keeps hb (cell_alloc f2_2_4 _) | exact keeps hb (cell_alloc (cell_drew f2_2_4) _)); have R2_5 := Lib.hid (Row.base_le (b' := w1.heap.size) hr2 (by first | omega | (simp <;> omega))); have RL2 := Lib.hid (show ∀ g, Value.ownBlock (.slice A2 n2 c2) = some g → w4.heap.size ≤ g ∧ g < w5.heap.size from fun g h => by have l1 := hr2.lt g h; ((try simp at l1) <;> omega)); (first | (have SZ5 := Lib.hid (SZ4.out.later hb)) | (have SZ5 := Lib.hid (mk_fresh1 hb)) | (have SZ5 := Lib.hid (mk_fresh2 hb)) | (have SZ5 := Lib.hid (mk_fresh hb)) | skip); (first | (have zl5 := SZ5.out.lt) | skip); (first | (have SZZ := SZ5; have z0_ := SZZ.out.cell 0 _ rfl; have z1_ := SZZ.out.cell 1 _ rfl; have z2_ := SZZ.out.cell 2 _ rfl; have z3_ := SZZ.out.cell 3 _ rfl; have zf_ := SZZ.out.free; have zl_ := SZZ.out.lt) | skip))))
    all_goals (go_wp2_with fail; go_meet)
    all_goals skip
    all_goals first
      | exact ⟨_, _, _, _, rfl, rfl, SInv.fresh _ _ _, (show _ ≤ _ by omega), (R2_5.out.alloc_ _), (fun q => by have h1 := hr2.lt _ q; ((try simp at h1) <;> omega)), bl_alloc (by omega) _ HX5.out⟩
      | exact ⟨_, _, _, _, rfl, rfl, (Lib.hid (by simpa using ((((SZZ.out.set 0 (by simp) (.int .i64 ((pbD a0_0 a0_1 a0_2 x0_3 x0_4 a1_0_0 a1_0_1 a1_1 a2_0_0 a2_0_1 a2_1)))).set 1 (by simp) (.int .i64 ((pbF a0_0 a0_1 a0_2 x0_3 x0_4 a1_0_0 a1_0_1 a1_1 a2_0_0 a2_0_1 a2_1)))).set 2 (by simp) (.int .i64 ((pbL a0_0 a0_1 a0_2 x0_3 x0_4 a1_0_0 a1_0_1 a1_1 a2_0_0 a2_0_1 a2_1)))).set 3 (by simp) ((.slice A2 n2 c2))))), (show _ ≤ _ by omega), (Lib.hid (by repeat (first | (with_reducible exact R2_5.out) | (with_reducible refine Row.other ?_ (fun q => by have h1 := hr2.lt _ q; ((try simp at h1) <;> omega)) _)))), (fun q => by have h1 := hr2.lt _ q; ((try simp at h1) <;> omega)), (Lib.hid (by repeat (first | (with_reducible exact Below.refl _ _) | (with_reducible assumption) | ((with_reducible refine bl_alloc ?_ _ ?_); (focus ((first | omega | (simp <;> omega)); done))) | ((with_reducible refine bl_set ?_ _ ?_); (focus ((first | omega | (simp <;> omega)); done))) | (with_reducible refine below_drewN ?_ _) | (with_reducible refine Below.drew ?_) | ((with_reducible refine bl_trans ?_ HX5.out ?_); (focus ((first | omega | (simp <;> omega)); done))))))⟩
  obtain ⟨O6, A2, n2, c2, hpp, hcc, hs, ho, hr2, ho2, hbx⟩ := hcut
  subst hpp hcc
  obtain ⟨w6, hw_⟩ : ∃ x, x = wc := ⟨_, rfl⟩
  rw [← hw_] at hs hr2 hbx ⊢
  clear hw_
  have hb := hbx.out
  have zz6 : w1.heap.size ≤ w6.heap.size := hb.size
  have H6 := Lib.hid (show Below w.heap.size w w6 by repeat (first | (with_reducible exact Below.refl _ _) | (with_reducible assumption) | ((with_reducible refine bl_alloc ?_ _ ?_); (focus ((first | omega | (simp <;> omega)); done))) | ((with_reducible refine bl_set ?_ _ ?_); (focus ((first | omega | (simp <;> omega)); done))) | (with_reducible refine below_drewN ?_ _) | (with_reducible refine Below.drew ?_) | ((with_reducible refine bl_trans ?_ hb ?_); (focus ((first | omega | (simp <;> omega)); done))) | ((with_reducible refine bl_trans ?_ H1.out ?_); (focus ((first | omega | (simp <;> omega)); done)))))
  have lo6 : O6 < w6.heap.size := hs.out.lt
  have lp6 : w1.heap.size ≤ O6 := ho.out
  have f0_0_6 := keeps hb f0_0_1
  have f0_1_6 := keeps hb f0_1_1
  have f0_2_6 := keeps hb f0_2_1
  have f0_3_6 := keeps hb f0_3_1
  have f0_4_6 := keeps hb f0_4_1
  have g0_6 : w.heap.size < w6.heap.size := block_of_cell f0_0_6
  have f1_0_6 := keeps hb f1_0_1
  have f1_1_6 := keeps hb f1_1_1
  have f1_2_6 := keeps hb f1_2_1
  have g1_6 : w.heap.size + 1 < w6.heap.size := block_of_cell f1_0_6
  have f2_0_6 := keeps hb f2_0_1
  have f2_1_6 := keeps hb f2_1_1
  have f2_2_6 := keeps hb f2_2_1
  have g2_6 : w.heap.size + 1 + 1 < w6.heap.size := block_of_cell f2_0_6
  have f3_0_6 := hs.out.cell 0 _ rfl
  have f3_1_6 := hs.out.cell 1 _ rfl
  have f3_2_6 := hs.out.cell 2 _ rfl
  have f3_3_6 := hs.out.cell 3 _ rfl
  have g3_6 : O6 < w6.heap.size := hs.out.lt
  have R2_6 := Lib.hid hr2.out
  have RL2 := Lib.hid (show ∀ g, Value.ownBlock (.slice A2 n2 c2) = some g → w1.heap.size ≤ g ∧ g < w6.heap.size from fun g h => hr2.out.lt g h)
  have HO2 := ho2
  clear hbx ho f0_0_1 f0_1_1 f0_2_1 f0_3_1 f0_4_1 g0_1 f1_0_1 f1_1_1 f1_2_1 g1_1 f2_0_1 f2_1_1 f2_2_1 g2_1 hs hr2 ho2 hb H1
  go_wp2_with fail
  refine (toTerrain_any a0_0 a0_1 a0_2 v0_3 x0_3 v0_4 x0_4 _ w.heap.size (by first | omega | (simp <;> omega)) (Rd.below r0_3 (by repeat (first | (with_reducible exact Below.refl _ _) | (with_reducible assumption) | ((with_reducible refine bl_alloc ?_ _ ?_); (focus ((first | omega | (simp <;> omega)); done))) | ((with_reducible refine bl_set ?_ _ ?_); (focus ((first | omega | (simp <;> omega)); done))) | (with_reducible refine below_drewN ?_ _) | (with_reducible refine Below.drew ?_) | ((with_reducible refine bl_trans ?_ H6.out ?_); (focus ((first | omega | (simp <;> omega)); done)))))) (by omega) (Rd.below r0_4 (by repeat (first | (with_reducible exact Below.refl _ _) | (with_reducible assumption) | ((with_reducible refine bl_alloc ?_ _ ?_); (focus ((first | omega | (simp <;> omega)); done))) | ((with_reducible refine bl_set ?_ _ ?_); (focus ((first | omega | (simp <;> omega)); done))) | (with_reducible refine below_drewN ?_ _) | (with_reducible refine Below.drew ?_) | ((with_reducible refine bl_trans ?_ H6.out ?_); (focus ((first | omega | (simp <;> omega)); done)))))) (by omega)).mono ?_
  rintro e w7 ⟨A3, n3, c3, A4, n4, c4, rfl, hr3, hr4, ha3_4, hb⟩
  have zz7 : w6.heap.size ≤ w7.heap.size := (by have := hb.size; ((try simp at this) <;> omega))
  have H7 := Lib.hid (show Below w.heap.size w w7 by repeat (first | (with_reducible exact Below.refl _ _) | (with_reducible assumption) | ((with_reducible refine bl_alloc ?_ _ ?_); (focus ((first | omega | (simp <;> omega)); done))) | ((with_reducible refine bl_set ?_ _ ?_); (focus ((first | omega | (simp <;> omega)); done))) | (with_reducible refine below_drewN ?_ _) | (with_reducible refine Below.drew ?_) | ((with_reducible refine bl_trans ?_ hb ?_); (focus ((first | omega | (simp <;> omega)); done))) | ((with_reducible refine bl_trans ?_ H6.out ?_); (focus ((first | omega | (simp <;> omega)); done)))))
  have f0_0_7 := keeps hb f0_0_6
  have f0_1_7 := keeps hb f0_1_6
  have f0_2_7 := keeps hb f0_2_6
  have f0_3_7 := keeps hb f0_3_6
  have f0_4_7 := keeps hb f0_4_6
  have g0_7 : w.heap.size < w7.heap.size := block_of_cell f0_0_7
  have f1_0_7 := keeps hb f1_0_6
  have f1_1_7 := keeps hb f1_1_6
  have f1_2_7 := keeps hb f1_2_6
  have g1_7 : w.heap.size + 1 < w7.heap.size := block_of_cell f1_0_7
  have f2_0_7 := keeps hb f2_0_6
  have f2_1_7 := keeps hb f2_1_6
  have f2_2_7 := keeps hb f2_2_6
  have g2_7 : w.heap.size + 1 + 1 < w7.heap.size := block_of_cell f2_0_7
  have f3_0_7 := keeps hb f3_0_6
  have f3_1_7 := keeps hb f3_1_6
  have f3_2_7 := keeps hb f3_2_6
  have f3_3_7 := keeps hb f3_3_6
  have g3_7 : O6 < w7.heap.size := block_of_cell f3_0_7
  have R2_7 := Lib.hid (Row.later R2_6.out hb)
  have R3_7 := Lib.hid hr3
  have RL3 := Lib.hid (show ∀ g, Value.ownBlock (.slice A3 n3 c3) = some g → w6.heap.size ≤ g ∧ g < w7.heap.size from fun g h => by have l1 := hr3.lt g h; ((try simp at l1) <;> omega))
  have RA3_4 := Lib.hid ha3_4
  have R4_7 := Lib.hid hr4
  have RL4 := Lib.hid (show ∀ g, Value.ownBlock (.slice A4 n4 c4) = some g → w6.heap.size ≤ g ∧ g < w7.heap.size from fun g h => by have l1 := hr4.lt g h; ((try simp at l1) <;> omega))
  clear hb f0_0_6 f0_1_6 f0_2_6 f0_3_6 f0_4_6 g0_6 f1_0_6 f1_1_6 f1_2_6 g1_6 f2_0_6 f2_1_6 f2_2_6 g2_6 f3_0_6 f3_1_6 f3_2_6 f3_3_6 g3_6 R2_6 hr3 ha3_4 hr4 H6
  go_upto_region 7 with fail
  obtain ⟨w8, hw_⟩ : ∃ x, x = (w7).alloc (.cells #[.int .i64 a0_0, .int .i64 a0_1, .int .i64 a0_2, (.slice A3 n3 c3), (.slice A4 n4 c4)] 62) := ⟨_, rfl⟩
  have hb : Below w7.heap.size w7 w8 := by rw [hw_]; repeat (first | (with_reducible exact Below.refl _ _) | (with_reducible assumption) | ((with_reducible refine bl_alloc ?_ _ ?_); (focus ((first | omega | (simp <;> omega)); done))) | ((with_reducible refine bl_set ?_ _ ?_); (focus ((first | omega | (simp <;> omega)); done))) | (with_reducible refine below_drewN ?_ _) | (with_reducible refine Below.drew ?_))
  have f0_0_8 := keeps hb f0_0_7
  have f0_1_8 := keeps hb f0_1_7
  have f0_2_8 := keeps hb f0_2_7
  have f0_3_8 := keeps hb f0_3_7
  have f0_4_8 := keeps hb f0_4_7
  have g0_8 : w.heap.size < w8.heap.size := block_of_cell f0_0_8
  have f1_0_8 := keeps hb f1_0_7
  have f1_1_8 := keeps hb f1_1_7
  have f1_2_8 := keeps hb f1_2_7
  have g1_8 : w.heap.size + 1 < w8.heap.size := block_of_cell f1_0_8
  have f2_0_8 := keeps hb f2_0_7
  have f2_1_8 := keeps hb f2_1_7
  have f2_2_8 := keeps hb f2_2_7
  have g2_8 : w.heap.size + 1 + 1 < w8.heap.size := block_of_cell f2_0_8
  have f3_0_8 := keeps hb f3_0_7
  have f3_1_8 := keeps hb f3_1_7
  have f3_2_8 := keeps hb f3_2_7
  have f3_3_8 := keeps hb f3_3_7
  have g3_8 : O6 < w8.heap.size := block_of_cell f3_0_8
  have f4_0_8 : w8.cell? ⟨w7.heap.size, 0, none⟩ = some (.int .i64 a0_0) := by rw [hw_]; simp [go_sem]
  have f4_1_8 : w8.cell? ⟨w7.heap.size, 1, none⟩ = some (.int .i64 a0_1) := by rw [hw_]; simp [go_sem]
  have f4_2_8 : w8.cell? ⟨w7.heap.size, 2, none⟩ = some (.int .i64 a0_2) := by rw [hw_]; simp [go_sem]
  have f4_3_8 : w8.cell? ⟨w7.heap.size, 3, none⟩ = some ((.slice A3 n3 c3)) := by rw [hw_]; simp [go_sem]
  have f4_4_8 : w8.cell? ⟨w7.heap.size, 4, none⟩ = some ((.slice A4 n4 c4)) := by rw [hw_]; simp [go_sem]
  have g4_8 : w7.heap.size < w8.heap.size := block_of_cell f4_0_8
  have R2_8 := Lib.hid (Row.later R2_7.out hb)
  have R3_8 := Lib.hid (Row.later R3_7.out hb)
  have R4_8 := Lib.hid (Row.later R4_7.out hb)
  have zz8 : w7.heap.size ≤ w8.heap.size := hb.size
  have H8 := Lib.hid (show Below w.heap.size w w8 by repeat (first | (with_reducible exact Below.refl _ _) | (with_reducible assumption) | ((with_reducible refine bl_alloc ?_ _ ?_); (focus ((first | omega | (simp <;> omega)); done))) | ((with_reducible refine bl_set ?_ _ ?_); (focus ((first | omega | (simp <;> omega)); done))) | (with_reducible refine below_drewN ?_ _) | (with_reducible refine Below.drew ?_) | ((with_reducible refine bl_trans ?_ hb ?_); (focus ((first | omega | (simp <;> omega)); done))) | ((with_reducible refine bl_trans ?_ H7.out ?_); (focus ((first | omega | (simp <;> omega)); done)))))
  rw [← hw_]
  clear hw_ hb f0_0_7 f0_1_7 f0_2_7 f0_3_7 f0_4_7 g0_7 f1_0_7 f1_1_7 f1_2_7 g1_7 f2_0_7 f2_1_7 f2_2_7 g2_7 f3_0_7 f3_1_7 f3_2_7 f3_3_7 g3_7 R2_7 R3_7 R4_7 H7
  go_cut [11, 12] (fun p_ c_ wx => ∃ O A5 n5 c5, p_ = .pointer (some ⟨O, 0, none⟩) ∧ c_ = .int .i64 (askV a0_0 a0_1 a0_2 x0_3 x0_4 a1_0_0 a1_0_1 a1_1 a2_0_0 a2_0_1 a2_1) ∧ Hid (SInv wx O [.int .i64 ((pbD a0_0 a0_1 a0_2 x0_3 x0_4 a1_0_0 a1_0_1 a1_1 a2_0_0 a2_0_1 a2_1)), .int .i64 ((pbF a0_0 a0_1 a0_2 x0_3 x0_4 a1_0_0 a1_0_1 a1_1 a2_0_0 a2_0_1 a2_1)), .int .i64 ((pbL a0_0 a0_1 a0_2 x0_3 x0_4 a1_0_0 a1_0_1 a1_1 a2_0_0 a2_0_1 a2_1)), (.slice A5 n5 c5)]) ∧ Hid (w8.heap.size ≤ O) ∧ Hid (Row 2 wx w8.heap.size (.slice A5 n5 c5) (pbH a0_0 a0_1 a0_2 x0_3 x0_4 a1_0_0 a1_0_1 a1_1 a2_0_0 a2_0_1 a2_1)) ∧ Hid (Value.ownBlock (.slice A5 n5 c5) ≠ some O) ∧ Hid (Below w8.heap.size w8 wx))
  case first =>
    go_region_held3 (fun w' => w'.cell? ⟨w7.heap.size, 0, none⟩ = some (.int .i64 a0_0) ∧ w'.cell? ⟨w7.heap.size, 1, none⟩ = some (.int .i64 a0_1) ∧ w'.cell? ⟨w7.heap.size, 2, none⟩ = some (.int .i64 a0_2) ∧ w'.cell? ⟨w7.heap.size, 3, none⟩ = some ((.slice A3 n3 c3)) ∧ w'.cell? ⟨w7.heap.size, 4, none⟩ = some ((.slice A4 n4 c4)) ∧ w'.cell? ⟨w.heap.size + 1, 0, none⟩ = some (.int .i64 a1_0_0) ∧ w'.cell? ⟨w.heap.size + 1, 1, none⟩ = some (.int .i64 a1_0_1) ∧ w'.cell? ⟨w.heap.size + 1, 2, none⟩ = some (.int .i64 a1_1) ∧ w'.cell? ⟨w.heap.size + 1 + 1, 0, none⟩ = some (.int .i64 a2_0_0) ∧ w'.cell? ⟨w.heap.size + 1 + 1, 1, none⟩ = some (.int .i64 a2_0_1) ∧ w'.cell? ⟨w.heap.size + 1 + 1, 2, none⟩ = some (.int .i64 a2_1))
      (((try go_split_ands); (refine ⟨?_, ?_, ?_, ?_, ?_, ?_, ?_, ?_, ?_, ?_, ?_⟩ <;> (repeat (first | (with_reducible assumption) | (with_reducible refine cell_drew ?_) | (with_reducible refine cell_drewN ?_) | (with_reducible refine cell_alloc ?_ _) | ((with_reducible refine cell_set1 ?_ ?_); (focus (omega; done))) | (with_reducible refine keeps hb ?_))))))
      (first
        | (go_at_call 32; ((with_reducible refine (toEnd_any a1_0_0 a1_0_1 a1_1 _).mono ?_); rintro e w9 ⟨rfl, hb⟩; have zz9 : w8.heap.size ≤ w9.heap.size := (by have := hb.size; ((try simp at this) <;> omega)); have H9 := Lib.hid (show Below w.heap.size w w9 by repeat (first | (with_reducible exact Below.refl _ _) | (with_reducible assumption) | ((with_reducible refine bl_alloc ?_ _ ?_); (focus ((first | omega | (simp <;> omega)); done))) | ((with_reducible refine bl_set ?_ _ ?_); (focus ((first | omega | (simp <;> omega)); done))) | (with_reducible refine below_drewN ?_ _) | (with_reducible refine Below.drew ?_) | ((with_reducible refine bl_trans ?_ hb ?_); (focus ((first | omega | (simp <;> omega)); done))) | ((with_reducible refine bl_trans ?_ H8.out ?_); (focus ((first | omega | (simp <;> omega)); done))))); have HX9 := Lib.hid (show Below w8.heap.size w8 w9 by repeat (first | (with_reducible exact Below.refl _ _) | (with_reducible assumption) | ((with_reducible refine bl_alloc ?_ _ ?_); (focus ((first | omega | (simp <;> omega)); done))) | ((with_reducible refine bl_set ?_ _ ?_); (focus ((first | omega | (simp <;> omega)); done))) | (with_reducible refine below_drewN ?_ _) | (with_reducible refine Below.drew ?_) | ((with_reducible refine bl_trans ?_ hb ?_); (focus ((first | omega | (simp <;> omega)); done))))); have f0_0_9 : w9.cell? ⟨w.heap.size, 0, none⟩ = some (.int .i64 a0_0) := (by first | exact keeps hb f0_0_8 | exact keeps1 hb f0_0_8 | exact keeps hb (cell_alloc f0_0_8 _) | exact keeps hb (cell_alloc (cell_drew f0_0_8) _)); have f0_1_9 : w9.cell? ⟨w.heap.size, 1, none⟩ = some (.int .i64 a0_1) := (by first | exact keeps hb f0_1_8 | exact keeps1 hb f0_1_8 | exact keeps hb (cell_alloc f0_1_8 _) | exact keeps hb (cell_alloc (cell_drew f0_1_8) _)); have f0_2_9 : w9.cell? ⟨w.heap.size, 2, none⟩ = some (.int .i64 a0_2) := (by first | exact keeps hb f0_2_8 | exact keeps1 hb f0_2_8 | exact keeps hb (cell_alloc f0_2_8 _) | exact keeps hb (cell_alloc (cell_drew f0_2_8) _)); have f0_3_9 : w9.cell? ⟨w.heap.size, 3, none⟩ = some (v0_3) := (by first | exact keeps hb f0_3_8 | exact keeps1 hb f0_3_8 | exact keeps hb (cell_alloc f0_3_8 _) | exact keeps hb (cell_alloc (cell_drew f0_3_8) _)); have f0_4_9 : w9.cell? ⟨w.heap.size, 4, none⟩ = some (v0_4) := (by first | exact keeps hb f0_4_8 | exact keeps1 hb f0_4_8 | exact keeps hb (cell_alloc f0_4_8 _) | exact keeps hb (cell_alloc (cell_drew f0_4_8) _)); have f1_0_9 : w9.cell? ⟨w.heap.size + 1, 0, none⟩ = some (.int .i64 a1_0_0) := (by first | exact keeps hb f1_0_8 | exact keeps1 hb f1_0_8 | exact keeps hb (cell_alloc f1_0_8 _) | exact keeps hb (cell_alloc (cell_drew f1_0_8) _)); have f1_1_9 : w9.cell? ⟨w.heap.size + 1, 1, none⟩ = some (.int .i64 a1_0_1) := (by first | exact keeps hb f1_1_8 | exact keeps1 hb f1_1_8 | exact keeps hb (cell_alloc f1_1_8 _) | exact keeps hb (cell_alloc (cell_drew f1_1_8) _)); have f1_2_9 : w9.cell? ⟨w.heap.size + 1, 2, none⟩ = some (.int .i64 a1_1) := (by first | exact keeps hb f1_2_8 | exact keeps1 hb f1_2_8 | exact keeps hb (cell_alloc f1_2_8 _) | exact keeps hb (cell_alloc (cell_drew f1_2_8) _)); have f2_0_9 : w9.cell? ⟨w.heap.size + 1 + 1, 0, none⟩ = some (.int .i64 a2_0_0) := (by first | exact keeps hb f2_0_8 | exact keeps1 hb f2_0_8 | exact keeps hb (cell_alloc f2_0_8 _) | exact keeps hb (cell_alloc (cell_drew f2_0_8) _)); have f2_1_9 : w9.cell? ⟨w.heap.size + 1 + 1, 1, none⟩ = some (.int .i64 a2_0_1) := (by first | exact keeps hb f2_1_8 | exact keeps1 hb f2_1_8 | exact keeps hb (cell_alloc f2_1_8 _) | exact keeps hb (cell_alloc (cell_drew f2_1_8) _)); have f2_2_9 : w9.cell? ⟨w.heap.size + 1 + 1, 2, none⟩ = some (.int .i64 a2_1) := (by first | exact keeps hb f2_2_8 | exact keeps1 hb f2_2_8 | exact keeps hb (cell_alloc f2_2_8 _) | exact keeps hb (cell_alloc (cell_drew f2_2_8) _)); have f3_0_9 : w9.cell? ⟨O6, 0, none⟩ = some (.int .i64 ((pbD a0_0 a0_1 a0_2 x0_3 x0_4 a1_0_0 a1_0_1 a1_1 a2_0_0 a2_0_1 a2_1))) := (by first | exact keeps hb f3_0_8 | exact keeps1 hb f3_0_8 | exact keeps hb (cell_alloc f3_0_8 _) | exact keeps hb (cell_alloc (cell_drew f3_0_8) _)); have f3_1_9 : w9.cell? ⟨O6, 1, none⟩ = some (.int .i64 ((pbF a0_0 a0_1 a0_2 x0_3 x0_4 a1_0_0 a1_0_1 a1_1 a2_0_0 a2_0_1 a2_1))) := (by first | exact keeps hb f3_1_8 | exact keeps1 hb f3_1_8 | exact keeps hb (cell_alloc f3_1_8 _) | exact keeps hb (cell_alloc (cell_drew f3_1_8) _)); have f3_2_9 : w9.cell? ⟨O6, 2, none⟩ = some (.int .i64 ((pbL a0_0 a0_1 a0_2 x0_3 x0_4 a1_0_0 a1_0_1 a1_1 a2_0_0 a2_0_1 a2_1))) := (by first | exact keeps hb f3_2_8 | exact keeps1 hb f3_2_8 | exact keeps hb (cell_alloc f3_2_8 _) | exact keeps hb (cell_alloc (cell_drew f3_2_8) _)); have f3_3_9 : w9.cell? ⟨O6, 3, none⟩ = some ((.slice A2 n2 c2)) := (by first | exact keeps hb f3_3_8 | exact keeps1 hb f3_3_8 | exact keeps hb (cell_alloc f3_3_8 _) | exact keeps hb (cell_alloc (cell_drew f3_3_8) _)); have f4_0_9 : w9.cell? ⟨w7.heap.size, 0, none⟩ = some (.int .i64 a0_0) := (by first | exact keeps hb f4_0_8 | exact keeps1 hb f4_0_8 | exact keeps hb (cell_alloc f4_0_8 _) | exact keeps hb (cell_alloc (cell_drew f4_0_8) _)); have f4_1_9 : w9.cell? ⟨w7.heap.size, 1, none⟩ = some (.int .i64 a0_1) := (by first | exact keeps hb f4_1_8 | exact keeps1 hb f4_1_8 | exact keeps hb (cell_alloc f4_1_8 _) | exact keeps hb (cell_alloc (cell_drew f4_1_8) _)); have f4_2_9 : w9.cell? ⟨w7.heap.size, 2, none⟩ = some (.int .i64 a0_2) := (by first | exact keeps hb f4_2_8 | exact keeps1 hb f4_2_8 | exact keeps hb (cell_alloc f4_2_8 _) | exact keeps hb (cell_alloc (cell_drew f4_2_8) _)); have f4_3_9 : w9.cell? ⟨w7.heap.size, 3, none⟩ = some ((.slice A3 n3 c3)) := (by first | exact keeps hb f4_3_8 | exact keeps1 hb f4_3_8 | exact keeps hb (cell_alloc f4_3_8 _) | exact keeps hb (cell_alloc (cell_drew f4_3_8) _)); have f4_4_9 : w9.cell? ⟨w7.heap.size, 4, none⟩ = some ((.slice A4 n4 c4)) := (by first | exact keeps hb f4_4_8 | exact keeps1 hb f4_4_8 | exact keeps hb (cell_alloc f4_4_8 _) | exact keeps hb (cell_alloc (cell_drew f4_4_8) _)); (first | (have R2_9 := Lib.hid (Row.later R2_8.out hb)) | (have R2_9 := Lib.hid (Row.later1 R2_8.out hb)) | (have R2_9 := Lib.hid (Row.later (R2_8.out.alloc_ _) hb)) | (have R2_9 := Lib.hid (Row.later (Row.alloc_ (w := w8.drew) R2_8.out _) hb))); (first | (have R3_9 := Lib.hid (Row.later R3_8.out hb)) | (have R3_9 := Lib.hid (Row.later1 R3_8.out hb)) | (have R3_9 := Lib.hid (Row.later (R3_8.out.alloc_ _) hb)) | (have R3_9 := Lib.hid (Row.later (Row.alloc_ (w := w8.drew) R3_8.out _) hb))); (first | (have R4_9 := Lib.hid (Row.later R4_8.out hb)) | (have R4_9 := Lib.hid (Row.later1 R4_8.out hb)) | (have R4_9 := Lib.hid (Row.later (R4_8.out.alloc_ _) hb)) | (have R4_9 := Lib.hid (Row.later (Row.alloc_ (w := w8.drew) R4_8.out _) hb))); (first | (have SZ9 := Lib.hid (SZ8.out.later hb)) | (have SZ9 := Lib.hid (mk_fresh1 hb)) | (have SZ9 := Lib.hid (mk_fresh2 hb)) | (have SZ9 := Lib.hid (mk_fresh hb)) | skip); (first | (have zl9 := SZ9.out.lt) | skip)))
        | (go_at_call 32; ((with_reducible refine (toEnd_any a2_0_0 a2_0_1 a2_1 _).mono ?_); rintro e w10 ⟨rfl, hb⟩; have zz10 : w9.heap.size ≤ w10.heap.size := (by have := hb.size; ((try simp at this) <;> omega)); have H10 := Lib.hid (show Below w.heap.size w w10 by repeat (first | (with_reducible exact Below.refl _ _) | (with_reducible assumption) | ((with_reducible refine bl_alloc ?_ _ ?_); (focus ((first | omega | (simp <;> omega)); done))) | ((with_reducible refine bl_set ?_ _ ?_); (focus ((first | omega | (simp <;> omega)); done))) | (with_reducible refine below_drewN ?_ _) | (with_reducible refine Below.drew ?_) | ((with_reducible refine bl_trans ?_ hb ?_); (focus ((first | omega | (simp <;> omega)); done))) | ((with_reducible refine bl_trans ?_ H9.out ?_); (focus ((first | omega | (simp <;> omega)); done))))); have HX10 := Lib.hid (show Below w8.heap.size w8 w10 by repeat (first | (with_reducible exact Below.refl _ _) | (with_reducible assumption) | ((with_reducible refine bl_alloc ?_ _ ?_); (focus ((first | omega | (simp <;> omega)); done))) | ((with_reducible refine bl_set ?_ _ ?_); (focus ((first | omega | (simp <;> omega)); done))) | (with_reducible refine below_drewN ?_ _) | (with_reducible refine Below.drew ?_) | ((with_reducible refine bl_trans ?_ hb ?_); (focus ((first | omega | (simp <;> omega)); done))) | ((with_reducible refine bl_trans ?_ HX9.out ?_); (focus ((first | omega | (simp <;> omega)); done))))); have f0_0_10 : w10.cell? ⟨w.heap.size, 0, none⟩ = some (.int .i64 a0_0) := (by first | exact keeps hb f0_0_9 | exact keeps1 hb f0_0_9 | exact keeps hb (cell_alloc f0_0_9 _) | exact keeps hb (cell_alloc (cell_drew f0_0_9) _)); have f0_1_10 : w10.cell? ⟨w.heap.size, 1, none⟩ = some (.int .i64 a0_1) := (by first | exact keeps hb f0_1_9 | exact keeps1 hb f0_1_9 | exact keeps hb (cell_alloc f0_1_9 _) | exact keeps hb (cell_alloc (cell_drew f0_1_9) _)); have f0_2_10 : w10.cell? ⟨w.heap.size, 2, none⟩ = some (.int .i64 a0_2) := (by first | exact keeps hb f0_2_9 | exact keeps1 hb f0_2_9 | exact keeps hb (cell_alloc f0_2_9 _) | exact keeps hb (cell_alloc (cell_drew f0_2_9) _)); have f0_3_10 : w10.cell? ⟨w.heap.size, 3, none⟩ = some (v0_3) := (by first | exact keeps hb f0_3_9 | exact keeps1 hb f0_3_9 | exact keeps hb (cell_alloc f0_3_9 _) | exact keeps hb (cell_alloc (cell_drew f0_3_9) _)); have f0_4_10 : w10.cell? ⟨w.heap.size, 4, none⟩ = some (v0_4) := (by first | exact keeps hb f0_4_9 | exact keeps1 hb f0_4_9 | exact keeps hb (cell_alloc f0_4_9 _) | exact keeps hb (cell_alloc (cell_drew f0_4_9) _)); have f1_0_10 : w10.cell? ⟨w.heap.size + 1, 0, none⟩ = some (.int .i64 a1_0_0) := (by first | exact keeps hb f1_0_9 | exact keeps1 hb f1_0_9 | exact keeps hb (cell_alloc f1_0_9 _) | exact keeps hb (cell_alloc (cell_drew f1_0_9) _)); have f1_1_10 : w10.cell? ⟨w.heap.size + 1, 1, none⟩ = some (.int .i64 a1_0_1) := (by first | exact keeps hb f1_1_9 | exact keeps1 hb f1_1_9 | exact keeps hb (cell_alloc f1_1_9 _) | exact keeps hb (cell_alloc (cell_drew f1_1_9) _)); have f1_2_10 : w10.cell? ⟨w.heap.size + 1, 2, none⟩ = some (.int .i64 a1_1) := (by first | exact keeps hb f1_2_9 | exact keeps1 hb f1_2_9 | exact keeps hb (cell_alloc f1_2_9 _) | exact keeps hb (cell_alloc (cell_drew f1_2_9) _)); have f2_0_10 : w10.cell? ⟨w.heap.size + 1 + 1, 0, none⟩ = some (.int .i64 a2_0_0) := (by first | exact keeps hb f2_0_9 | exact keeps1 hb f2_0_9 | exact keeps hb (cell_alloc f2_0_9 _) | exact keeps hb (cell_alloc (cell_drew f2_0_9) _)); have f2_1_10 : w10.cell? ⟨w.heap.size + 1 + 1, 1, none⟩ = some (.int .i64 a2_0_1) := (by first | exact keeps hb f2_1_9 | exact keeps1 hb f2_1_9 | exact keeps hb (cell_alloc f2_1_9 _) | exact keeps hb (cell_alloc (cell_drew f2_1_9) _)); have f2_2_10 : w10.cell? ⟨w.heap.size + 1 + 1, 2, none⟩ = some (.int .i64 a2_1) := (by first | exact keeps hb f2_2_9 | exact keeps1 hb f2_2_9 | exact keeps hb (cell_alloc f2_2_9 _) | exact keeps hb (cell_alloc (cell_drew f2_2_9) _)); have f3_0_10 : w10.cell? ⟨O6, 0, none⟩ = some (.int .i64 ((pbD a0_0 a0_1 a0_2 x0_3 x0_4 a1_0_0 a1_0_1 a1_1 a2_0_0 a2_0_1 a2_1))) := (by first | exact keeps hb f3_0_9 | exact keeps1 hb f3_0_9 | exact keeps hb (cell_alloc f3_0_9 _) | exact keeps hb (cell_alloc (cell_drew f3_0_9) _)); have f3_1_10 : w10.cell? ⟨O6, 1, none⟩ = some (.int .i64 ((pbF a0_0 a0_1 a0_2 x0_3 x0_4 a1_0_0 a1_0_1 a1_1 a2_0_0 a2_0_1 a2_1))) := (by first | exact keeps hb f3_1_9 | exact keeps1 hb f3_1_9 | exact keeps hb (cell_alloc f3_1_9 _) | exact keeps hb (cell_alloc (cell_drew f3_1_9) _)); have f3_2_10 : w10.cell? ⟨O6, 2, none⟩ = some (.int .i64 ((pbL a0_0 a0_1 a0_2 x0_3 x0_4 a1_0_0 a1_0_1 a1_1 a2_0_0 a2_0_1 a2_1))) := (by first | exact keeps hb f3_2_9 | exact keeps1 hb f3_2_9 | exact keeps hb (cell_alloc f3_2_9 _) | exact keeps hb (cell_alloc (cell_drew f3_2_9) _)); have f3_3_10 : w10.cell? ⟨O6, 3, none⟩ = some ((.slice A2 n2 c2)) := (by first | exact keeps hb f3_3_9 | exact keeps1 hb f3_3_9 | exact keeps hb (cell_alloc f3_3_9 _) | exact keeps hb (cell_alloc (cell_drew f3_3_9) _)); have f4_0_10 : w10.cell? ⟨w7.heap.size, 0, none⟩ = some (.int .i64 a0_0) := (by first | exact keeps hb f4_0_9 | exact keeps1 hb f4_0_9 | exact keeps hb (cell_alloc f4_0_9 _) | exact keeps hb (cell_alloc (cell_drew f4_0_9) _)); have f4_1_10 : w10.cell? ⟨w7.heap.size, 1, none⟩ = some (.int .i64 a0_1) := (by first | exact keeps hb f4_1_9 | exact keeps1 hb f4_1_9 | exact keeps hb (cell_alloc f4_1_9 _) | exact keeps hb (cell_alloc (cell_drew f4_1_9) _)); have f4_2_10 : w10.cell? ⟨w7.heap.size, 2, none⟩ = some (.int .i64 a0_2) := (by first | exact keeps hb f4_2_9 | exact keeps1 hb f4_2_9 | exact keeps hb (cell_alloc f4_2_9 _) | exact keeps hb (cell_alloc (cell_drew f4_2_9) _)); have f4_3_10 : w10.cell? ⟨w7.heap.size, 3, none⟩ = some ((.slice A3 n3 c3)) := (by first | exact keeps hb f4_3_9 | exact keeps1 hb f4_3_9 | exact keeps hb (cell_alloc f4_3_9 _) | exact keeps hb (cell_alloc (cell_drew f4_3_9) _)); have f4_4_10 : w10.cell? ⟨w7.heap.size, 4, none⟩ = some ((.slice A4 n4 c4)) := (by first | exact keeps hb f4_4_9 | exact keeps1 hb f4_4_9 | exact keeps hb (cell_alloc f4_4_9 _) | exact keeps hb (cell_alloc (cell_drew f4_4_9) _)); (first | (have R2_10 := Lib.hid (Row.later R2_9.out hb)) | (have R2_10 := Lib.hid (Row.later1 R2_9.out hb)) | (have R2_10 := Lib.hid (Row.later (R2_9.out.alloc_ _) hb)) | (have R2_10 := Lib.hid (Row.later (Row.alloc_ (w := w9.drew) R2_9.out _) hb))); (first | (have R3_10 := Lib.hid (Row.later R3_9.out hb)) | (have R3_10 := Lib.hid (Row.later1 R3_9.out hb)) | (have R3_10 := Lib.hid (Row.later (R3_9.out.alloc_ _) hb)) | (have R3_10 := Lib.hid (Row.later (Row.alloc_ (w := w9.drew) R3_9.out _) hb))); (first | (have R4_10 := Lib.hid (Row.later R4_9.out hb)) | (have R4_10 := Lib.hid (Row.later1 R4_9.out hb)) | (have R4_10 := Lib.hid (Row.later (R4_9.out.alloc_ _) hb)) | (have R4_10 := Lib.hid (Row.later (Row.alloc_ (w := w9.drew) R4_9.out _) hb))); (first | (have SZ10 := Lib.hid (SZ9.out.later hb)) | (have SZ10 := Lib.hid (mk_fresh1 hb)) | (have SZ10 := Lib.hid (mk_fresh2 hb)) | (have SZ10 := Lib.hid (mk_fresh hb)) | skip); (first | (have zl10 := SZ10.out.lt) | skip)))
        | (go_at_call 36; ((with_reducible refine (impl_any _ a0_0 ia0_0 a0_1 ia0_1 a0_2 ia0_2 _ x0_3 _ (by first | exact R3_10.out | exact R3_10.out.alloc_ _) ix0_3 _ x0_4 _ (by first | exact R4_10.out | exact R4_10.out.alloc_ _) ix0_4 a1_0_0 ia1_0_0 a1_0_1 ia1_0_1 a1_1 ia1_1 a2_0_0 ia2_0_0 a2_0_1 ia2_0_1 a2_1 ia2_1).mono ?_); rintro e w11 ⟨A5, n5, c5, rfl, hr5, hb⟩; have zz11 : w10.heap.size ≤ w11.heap.size := (by have := hb.size; ((try simp at this) <;> omega)); have H11 := Lib.hid (show Below w.heap.size w w11 by repeat (first | (with_reducible exact Below.refl _ _) | (with_reducible assumption) | ((with_reducible refine bl_alloc ?_ _ ?_); (focus ((first | omega | (simp <;> omega)); done))) | ((with_reducible refine bl_set ?_ _ ?_); (focus ((first | omega | (simp <;> omega)); done))) | (with_reducible refine below_drewN ?_ _) | (with_reducible refine Below.drew ?_) | ((with_reducible refine bl_trans ?_ hb ?_); (focus ((first | omega | (simp <;> omega)); done))) | ((with_reducible refine bl_trans ?_ H10.out ?_); (focus ((first | omega | (simp <;> omega)); done))))); have HX11 := Lib.hid (show Below w8.heap.size w8 w11 by repeat (first | (with_reducible exact Below.refl _ _) | (with_reducible assumption) | ((with_reducible refine bl_alloc ?_ _ ?_); (focus ((first | omega | (simp <;> omega)); done))) | ((with_reducible refine bl_set ?_ _ ?_); (focus ((first | omega | (simp <;> omega)); done))) | (with_reducible refine below_drewN ?_ _) | (with_reducible refine Below.drew ?_) | ((with_reducible refine bl_trans ?_ hb ?_); (focus ((first | omega | (simp <;> omega)); done))) | ((with_reducible refine bl_trans ?_ HX10.out ?_); (focus ((first | omega | (simp <;> omega)); done))))); have f0_0_11 : w11.cell? ⟨w.heap.size, 0, none⟩ = some (.int .i64 a0_0) := (by first | exact keeps hb f0_0_10 | exact keeps1 hb f0_0_10 | exact keeps hb (cell_alloc f0_0_10 _) | exact keeps hb (cell_alloc (cell_drew f0_0_10) _)); have f0_1_11 : w11.cell? ⟨w.heap.size, 1, none⟩ = some (.int .i64 a0_1) := (by first | exact keeps hb f0_1_10 | exact keeps1 hb f0_1_10 | exact keeps hb (cell_alloc f0_1_10 _) | exact keeps hb (cell_alloc (cell_drew f0_1_10) _)); have f0_2_11 : w11.cell? ⟨w.heap.size, 2, none⟩ = some (.int .i64 a0_2) := (by first | exact keeps hb f0_2_10 | exact keeps1 hb f0_2_10 | exact keeps hb (cell_alloc f0_2_10 _) | exact keeps hb (cell_alloc (cell_drew f0_2_10) _)); have f0_3_11 : w11.cell? ⟨w.heap.size, 3, none⟩ = some (v0_3) := (by first | exact keeps hb f0_3_10 | exact keeps1 hb f0_3_10 | exact keeps hb (cell_alloc f0_3_10 _) | exact keeps hb (cell_alloc (cell_drew f0_3_10) _)); have f0_4_11 : w11.cell? ⟨w.heap.size, 4, none⟩ = some (v0_4) := (by first | exact keeps hb f0_4_10 | exact keeps1 hb f0_4_10 | exact keeps hb (cell_alloc f0_4_10 _) | exact keeps hb (cell_alloc (cell_drew f0_4_10) _)); have f1_0_11 : w11.cell? ⟨w.heap.size + 1, 0, none⟩ = some (.int .i64 a1_0_0) := (by first | exact keeps hb f1_0_10 | exact keeps1 hb f1_0_10 | exact keeps hb (cell_alloc f1_0_10 _) | exact keeps hb (cell_alloc (cell_drew f1_0_10) _)); have f1_1_11 : w11.cell? ⟨w.heap.size + 1, 1, none⟩ = some (.int .i64 a1_0_1) := (by first | exact keeps hb f1_1_10 | exact keeps1 hb f1_1_10 | exact keeps hb (cell_alloc f1_1_10 _) | exact keeps hb (cell_alloc (cell_drew f1_1_10) _)); have f1_2_11 : w11.cell? ⟨w.heap.size + 1, 2, none⟩ = some (.int .i64 a1_1) := (by first | exact keeps hb f1_2_10 | exact keeps1 hb f1_2_10 | exact keeps hb (cell_alloc f1_2_10 _) | exact keeps hb (cell_alloc (cell_drew f1_2_10) _)); have f2_0_11 : w11.cell? ⟨w.heap.size + 1 + 1, 0, none⟩ = some (.int .i64 a2_0_0) := (by first | exact keeps hb f2_0_10 | exact keeps1 hb f2_0_10 | exact keeps hb (cell_alloc f2_0_10 _) | exact keeps hb (cell_alloc (cell_drew f2_0_10) _)); have f2_1_11 : w11.cell? ⟨w.heap.size + 1 + 1, 1, none⟩ = some (.int .i64 a2_0_1) := (by first | exact keeps hb f2_1_10 | exact keeps1 hb f2_1_10 | exact keeps hb (cell_alloc f2_1_10 _) | exact keeps hb (cell_alloc (cell_drew f2_1_10) _)); have f2_2_11 : w11.cell? ⟨w.heap.size + 1 + 1, 2, none⟩ = some (.int .i64 a2_1) := (by first | exact keeps hb f2_2_10 | exact keeps1 hb f2_2_10 | exact keeps hb (cell_alloc f2_2_10 _) | exact keeps hb (cell_alloc (cell_drew f2_2_10) _)); have f3_0_11 : w11.cell? ⟨O6, 0, none⟩ = some (.int .i64 ((pbD a0_0 a0_1 a0_2 x0_3 x0_4 a1_0_0 a1_0_1 a1_1 a2_0_0 a2_0_1 a2_1))) := (by first | exact keeps hb f3_0_10 | exact keeps1 hb f3_0_10 | exact keeps hb (cell_alloc f3_0_10 _) | exact keeps hb (cell_alloc (cell_drew f3_0_10) _)); have f3_1_11 : w11.cell? ⟨O6, 1, none⟩ = some (.int .i64 ((pbF a0_0 a0_1 a0_2 x0_3 x0_4 a1_0_0 a1_0_1 a1_1 a2_0_0 a2_0_1 a2_1))) := (by first | exact keeps hb f3_1_10 | exact keeps1 hb f3_1_10 | exact keeps hb (cell_alloc f3_1_10 _) | exact keeps hb (cell_alloc (cell_drew f3_1_10) _)); have f3_2_11 : w11.cell? ⟨O6, 2, none⟩ = some (.int .i64 ((pbL a0_0 a0_1 a0_2 x0_3 x0_4 a1_0_0 a1_0_1 a1_1 a2_0_0 a2_0_1 a2_1))) := (by first | exact keeps hb f3_2_10 | exact keeps1 hb f3_2_10 | exact keeps hb (cell_alloc f3_2_10 _) | exact keeps hb (cell_alloc (cell_drew f3_2_10) _)); have f3_3_11 : w11.cell? ⟨O6, 3, none⟩ = some ((.slice A2 n2 c2)) := (by first | exact keeps hb f3_3_10 | exact keeps1 hb f3_3_10 | exact keeps hb (cell_alloc f3_3_10 _) | exact keeps hb (cell_alloc (cell_drew f3_3_10) _)); have f4_0_11 : w11.cell? ⟨w7.heap.size, 0, none⟩ = some (.int .i64 a0_0) := (by first | exact keeps hb f4_0_10 | exact keeps1 hb f4_0_10 | exact keeps hb (cell_alloc f4_0_10 _) | exact keeps hb (cell_alloc (cell_drew f4_0_10) _)); have f4_1_11 : w11.cell? ⟨w7.heap.size, 1, none⟩ = some (.int .i64 a0_1) := (by first | exact keeps hb f4_1_10 | exact keeps1 hb f4_1_10 | exact keeps hb (cell_alloc f4_1_10 _) | exact keeps hb (cell_alloc (cell_drew f4_1_10) _)); have f4_2_11 : w11.cell? ⟨w7.heap.size, 2, none⟩ = some (.int .i64 a0_2) := (by first | exact keeps hb f4_2_10 | exact keeps1 hb f4_2_10 | exact keeps hb (cell_alloc f4_2_10 _) | exact keeps hb (cell_alloc (cell_drew f4_2_10) _)); have f4_3_11 : w11.cell? ⟨w7.heap.size, 3, none⟩ = some ((.slice A3 n3 c3)) := (by first | exact keeps hb f4_3_10 | exact keeps1 hb f4_3_10 | exact keeps hb (cell_alloc f4_3_10 _) | exact keeps hb (cell_alloc (cell_drew f4_3_10) _)); have f4_4_11 : w11.cell? ⟨w7.heap.size, 4, none⟩ = some ((.slice A4 n4 c4)) := (by first | exact keeps hb f4_4_10 | exact keeps1 hb f4_4_10 | exact keeps hb (cell_alloc f4_4_10 _) | exact keeps hb (cell_alloc (cell_drew f4_4_10) _)); (first | (have R2_11 := Lib.hid (Row.later R2_10.out hb)) | (have R2_11 := Lib.hid (Row.later1 R2_10.out hb)) | (have R2_11 := Lib.hid (Row.later (R2_10.out.alloc_ _) hb)) | (have R2_11 := Lib.hid (Row.later (Row.alloc_ (w := w10.drew) R2_10.out _) hb))); (first | (have R3_11 := Lib.hid (Row.later R3_10.out hb)) | (have R3_11 := Lib.hid (Row.later1 R3_10.out hb)) | (have R3_11 := Lib.hid (Row.later (R3_10.out.alloc_ _) hb)) | (have R3_11 := Lib.hid (Row.later (Row.alloc_ (w := w10.drew) R3_10.out _) hb))); (first | (have R4_11 := Lib.hid (Row.later R4_10.out hb)) | (have R4_11 := Lib.hid (Row.later1 R4_10.out hb)) | (have R4_11 := Lib.hid (Row.later (R4_10.out.alloc_ _) hb)) | (have R4_11 := Lib.hid (Row.later (Row.alloc_ (w := w10.drew) R4_10.out _) hb))); have R5_11 := Lib.hid (Row.base_le (b' := w8.heap.size) hr5 (by first | omega | (simp <;> omega))); have RL5 := Lib.hid (show ∀ g, Value.ownBlock (.slice A5 n5 c5) = some g → w10.heap.size ≤ g ∧ g < w11.heap.size from fun g h => by have l1 := hr5.lt g h; ((try simp at l1) <;> omega)); (first | (have SZ11 := Lib.hid (SZ10.out.later hb)) | (have SZ11 := Lib.hid (mk_fresh1 hb)) | (have SZ11 := Lib.hid (mk_fresh2 hb)) | (have SZ11 := Lib.hid (mk_fresh hb)) | skip); (first | (have zl11 := SZ11.out.lt) | skip); (first | (have SZZ := SZ11; have z0_ := SZZ.out.cell 0 _ rfl; have z1_ := SZZ.out.cell 1 _ rfl; have z2_ := SZZ.out.cell 2 _ rfl; have z3_ := SZZ.out.cell 3 _ rfl; have zf_ := SZZ.out.free; have zl_ := SZZ.out.lt) | skip))))
    all_goals (go_wp2_with fail; go_meet)
    all_goals skip
    all_goals first
      | exact ⟨_, _, _, _, rfl, rfl, SInv.fresh _ _ _, (show _ ≤ _ by omega), (R5_11.out.alloc_ _), (fun q => by have h1 := hr5.lt _ q; ((try simp at h1) <;> omega)), bl_alloc (by omega) _ HX11.out⟩
      | exact ⟨_, _, _, _, rfl, rfl, (Lib.hid (by simpa using ((((SZZ.out.set 0 (by simp) (.int .i64 ((pbD a0_0 a0_1 a0_2 x0_3 x0_4 a1_0_0 a1_0_1 a1_1 a2_0_0 a2_0_1 a2_1)))).set 1 (by simp) (.int .i64 ((pbF a0_0 a0_1 a0_2 x0_3 x0_4 a1_0_0 a1_0_1 a1_1 a2_0_0 a2_0_1 a2_1)))).set 2 (by simp) (.int .i64 ((pbL a0_0 a0_1 a0_2 x0_3 x0_4 a1_0_0 a1_0_1 a1_1 a2_0_0 a2_0_1 a2_1)))).set 3 (by simp) ((.slice A5 n5 c5))))), (show _ ≤ _ by omega), (Lib.hid (by repeat (first | (with_reducible exact R5_11.out) | (with_reducible refine Row.other ?_ (fun q => by have h1 := hr5.lt _ q; ((try simp at h1) <;> omega)) _)))), (fun q => by have h1 := hr5.lt _ q; ((try simp at h1) <;> omega)), (Lib.hid (by repeat (first | (with_reducible exact Below.refl _ _) | (with_reducible assumption) | ((with_reducible refine bl_alloc ?_ _ ?_); (focus ((first | omega | (simp <;> omega)); done))) | ((with_reducible refine bl_set ?_ _ ?_); (focus ((first | omega | (simp <;> omega)); done))) | (with_reducible refine below_drewN ?_ _) | (with_reducible refine Below.drew ?_) | ((with_reducible refine bl_trans ?_ HX11.out ?_); (focus ((first | omega | (simp <;> omega)); done))))))⟩
  obtain ⟨O12, A5, n5, c5, hpp, hcc, hs, ho, hr5, ho5, hbx⟩ := hcut
  subst hpp hcc
  obtain ⟨w12, hw_⟩ : ∃ x, x = wc := ⟨_, rfl⟩
  rw [← hw_] at hs hr5 hbx ⊢
  clear hw_
  have hb := hbx.out
  have zz12 : w8.heap.size ≤ w12.heap.size := hb.size
  have H12 := Lib.hid (show Below w.heap.size w w12 by repeat (first | (with_reducible exact Below.refl _ _) | (with_reducible assumption) | ((with_reducible refine bl_alloc ?_ _ ?_); (focus ((first | omega | (simp <;> omega)); done))) | ((with_reducible refine bl_set ?_ _ ?_); (focus ((first | omega | (simp <;> omega)); done))) | (with_reducible refine below_drewN ?_ _) | (with_reducible refine Below.drew ?_) | ((with_reducible refine bl_trans ?_ hb ?_); (focus ((first | omega | (simp <;> omega)); done))) | ((with_reducible refine bl_trans ?_ H8.out ?_); (focus ((first | omega | (simp <;> omega)); done)))))
  have lo12 : O12 < w12.heap.size := hs.out.lt
  have lp12 : w8.heap.size ≤ O12 := ho.out
  have f0_0_12 := keeps hb f0_0_8
  have f0_1_12 := keeps hb f0_1_8
  have f0_2_12 := keeps hb f0_2_8
  have f0_3_12 := keeps hb f0_3_8
  have f0_4_12 := keeps hb f0_4_8
  have g0_12 : w.heap.size < w12.heap.size := block_of_cell f0_0_12
  have f1_0_12 := keeps hb f1_0_8
  have f1_1_12 := keeps hb f1_1_8
  have f1_2_12 := keeps hb f1_2_8
  have g1_12 : w.heap.size + 1 < w12.heap.size := block_of_cell f1_0_12
  have f2_0_12 := keeps hb f2_0_8
  have f2_1_12 := keeps hb f2_1_8
  have f2_2_12 := keeps hb f2_2_8
  have g2_12 : w.heap.size + 1 + 1 < w12.heap.size := block_of_cell f2_0_12
  have f3_0_12 := keeps hb f3_0_8
  have f3_1_12 := keeps hb f3_1_8
  have f3_2_12 := keeps hb f3_2_8
  have f3_3_12 := keeps hb f3_3_8
  have g3_12 : O6 < w12.heap.size := block_of_cell f3_0_12
  have f4_0_12 := keeps hb f4_0_8
  have f4_1_12 := keeps hb f4_1_8
  have f4_2_12 := keeps hb f4_2_8
  have f4_3_12 := keeps hb f4_3_8
  have f4_4_12 := keeps hb f4_4_8
  have g4_12 : w7.heap.size < w12.heap.size := block_of_cell f4_0_12
  have R2_12 := Lib.hid (Row.later R2_8.out hb)
  have R3_12 := Lib.hid (Row.later R3_8.out hb)
  have R4_12 := Lib.hid (Row.later R4_8.out hb)
  have f5_0_12 := hs.out.cell 0 _ rfl
  have f5_1_12 := hs.out.cell 1 _ rfl
  have f5_2_12 := hs.out.cell 2 _ rfl
  have f5_3_12 := hs.out.cell 3 _ rfl
  have g5_12 : O12 < w12.heap.size := hs.out.lt
  have R5_12 := Lib.hid hr5.out
  have RL5 := Lib.hid (show ∀ g, Value.ownBlock (.slice A5 n5 c5) = some g → w8.heap.size ≤ g ∧ g < w12.heap.size from fun g h => hr5.out.lt g h)
  have HO5 := ho5
  clear hbx ho f0_0_8 f0_1_8 f0_2_8 f0_3_8 f0_4_8 g0_8 f1_0_8 f1_1_8 f1_2_8 g1_8 f2_0_8 f2_1_8 f2_2_8 g2_8 f3_0_8 f3_1_8 f3_2_8 f3_3_8 g3_8 f4_0_8 f4_1_8 f4_2_8 f4_3_8 f4_4_8 g4_8 R2_8 R3_8 R4_8 hs hr5 ho5 hb H8
  go_wp2_with fail
  refine (eqProfile_any ((pbD a0_0 a0_1 a0_2 x0_3 x0_4 a1_0_0 a1_0_1 a1_1 a2_0_0 a2_0_1 a2_1)) ((pbF a0_0 a0_1 a0_2 x0_3 x0_4 a1_0_0 a1_0_1 a1_1 a2_0_0 a2_0_1 a2_1)) ((pbL a0_0 a0_1 a0_2 x0_3 x0_4 a1_0_0 a1_0_1 a1_1 a2_0_0 a2_0_1 a2_1)) _ _ _ ((pbH a0_0 a0_1 a0_2 x0_3 x0_4 a1_0_0 a1_0_1 a1_1 a2_0_0 a2_0_1 a2_1)) _ _ R5_12.out R2_12.out).mono ?_
  rintro e w13 ⟨rfl, hb⟩
  have zz13 : w12.heap.size ≤ w13.heap.size := (by have := hb.size; ((try simp at this) <;> omega))
  have H13 := Lib.hid (show Below w.heap.size w w13 by repeat (first | (with_reducible exact Below.refl _ _) | (with_reducible assumption) | ((with_reducible refine bl_alloc ?_ _ ?_); (focus ((first | omega | (simp <;> omega)); done))) | ((with_reducible refine bl_set ?_ _ ?_); (focus ((first | omega | (simp <;> omega)); done))) | (with_reducible refine below_drewN ?_ _) | (with_reducible refine Below.drew ?_) | ((with_reducible refine bl_trans ?_ hb ?_); (focus ((first | omega | (simp <;> omega)); done))) | ((with_reducible refine bl_trans ?_ H12.out ?_); (focus ((first | omega | (simp <;> omega)); done)))))
  have f0_0_13 := keeps hb f0_0_12
  have f0_1_13 := keeps hb f0_1_12
  have f0_2_13 := keeps hb f0_2_12
  have f0_3_13 := keeps hb f0_3_12
  have f0_4_13 := keeps hb f0_4_12
  have g0_13 : w.heap.size < w13.heap.size := block_of_cell f0_0_13
  have f1_0_13 := keeps hb f1_0_12
  have f1_1_13 := keeps hb f1_1_12
  have f1_2_13 := keeps hb f1_2_12
  have g1_13 : w.heap.size + 1 < w13.heap.size := block_of_cell f1_0_13
  have f2_0_13 := keeps hb f2_0_12
  have f2_1_13 := keeps hb f2_1_12
  have f2_2_13 := keeps hb f2_2_12
  have g2_13 : w.heap.size + 1 + 1 < w13.heap.size := block_of_cell f2_0_13
  have f3_0_13 := keeps hb f3_0_12
  have f3_1_13 := keeps hb f3_1_12
  have f3_2_13 := keeps hb f3_2_12
  have f3_3_13 := keeps hb f3_3_12
  have g3_13 : O6 < w13.heap.size := block_of_cell f3_0_13
  have f4_0_13 := keeps hb f4_0_12
  have f4_1_13 := keeps hb f4_1_12
  have f4_2_13 := keeps hb f4_2_12
  have f4_3_13 := keeps hb f4_3_12
  have f4_4_13 := keeps hb f4_4_12
  have g4_13 : w7.heap.size < w13.heap.size := block_of_cell f4_0_13
  have f5_0_13 := keeps hb f5_0_12
  have f5_1_13 := keeps hb f5_1_12
  have f5_2_13 := keeps hb f5_2_12
  have f5_3_13 := keeps hb f5_3_12
  have g5_13 : O12 < w13.heap.size := block_of_cell f5_0_13
  have R2_13 := Lib.hid (Row.later R2_12.out hb)
  have R3_13 := Lib.hid (Row.later R3_12.out hb)
  have R4_13 := Lib.hid (Row.later R4_12.out hb)
  have R5_13 := Lib.hid (Row.later R5_12.out hb)
  clear hb f0_0_12 f0_1_12 f0_2_12 f0_3_12 f0_4_12 g0_12 f1_0_12 f1_1_12 f1_2_12 g1_12 f2_0_12 f2_1_12 f2_2_12 g2_12 f3_0_12 f3_1_12 f3_2_12 f3_3_12 g3_12 f4_0_12 f4_1_12 f4_2_12 f4_3_12 f4_4_12 g4_12 f5_0_12 f5_1_12 f5_2_12 f5_3_12 g5_12 R2_12 R3_12 R4_12 R5_12 H12
  go_wp2_with fail
  go_region_held3 (fun w' => w'.cell? ⟨w7.heap.size, 0, none⟩ = some (.int .i64 a0_0) ∧ w'.cell? ⟨w7.heap.size, 1, none⟩ = some (.int .i64 a0_1) ∧ w'.cell? ⟨w7.heap.size, 2, none⟩ = some (.int .i64 a0_2) ∧ w'.cell? ⟨w7.heap.size, 3, none⟩ = some ((.slice A3 n3 c3)) ∧ w'.cell? ⟨w7.heap.size, 4, none⟩ = some ((.slice A4 n4 c4)) ∧ w'.cell? ⟨w.heap.size, 0, none⟩ = some (.int .i64 a0_0) ∧ w'.cell? ⟨w.heap.size, 1, none⟩ = some (.int .i64 a0_1) ∧ w'.cell? ⟨w.heap.size, 2, none⟩ = some (.int .i64 a0_2) ∧ w'.cell? ⟨w.heap.size, 3, none⟩ = some (v0_3) ∧ w'.cell? ⟨w.heap.size, 4, none⟩ = some (v0_4))
    (first | (refine ⟨?_, ?_, ?_, ?_, ?_, ?_, ?_, ?_, ?_, ?_⟩ <;> assumption) | (go_split_ands; (refine ⟨?_, ?_, ?_, ?_, ?_, ?_, ?_, ?_, ?_, ?_⟩ <;> first | assumption | (refine keeps hb ?_; assumption))))
    (first
      | (go_at_call 31; ((with_reducible refine (toTerrain_any a0_0 a0_1 a0_2 v0_3 x0_3 v0_4 x0_4 _ w.heap.size (by first | omega | (simp <;> omega)) (Rd.below r0_3 (by repeat (first | (with_reducible exact Below.refl _ _) | (with_reducible assumption) | ((with_reducible refine bl_alloc ?_ _ ?_); (focus ((first | omega | (simp <;> omega)); done))) | ((with_reducible refine bl_set ?_ _ ?_); (focus ((first | omega | (simp <;> omega)); done))) | (with_reducible refine below_drewN ?_ _) | (with_reducible refine Below.drew ?_) | ((with_reducible refine bl_trans ?_ H13.out ?_); (focus ((first | omega | (simp <;> omega)); done)))))) (by omega) (Rd.below r0_4 (by repeat (first | (with_reducible exact Below.refl _ _) | (with_reducible assumption) | ((with_reducible refine bl_alloc ?_ _ ?_); (focus ((first | omega | (simp <;> omega)); done))) | ((with_reducible refine bl_set ?_ _ ?_); (focus ((first | omega | (simp <;> omega)); done))) | (with_reducible refine below_drewN ?_ _) | (with_reducible refine Below.drew ?_) | ((with_reducible refine bl_trans ?_ H13.out ?_); (focus ((first | omega | (simp <;> omega)); done)))))) (by omega)).mono ?_); rintro e w14 ⟨A6, n6, c6, A7, n7, c7, rfl, hr6, hr7, ha6_7, hb⟩; have zz14 : w13.heap.size ≤ w14.heap.size := (by have := hb.size; ((try simp at this) <;> omega)); have H14 := Lib.hid (show Below w.heap.size w w14 by repeat (first | (with_reducible exact Below.refl _ _) | (with_reducible assumption) | ((with_reducible refine bl_alloc ?_ _ ?_); (focus ((first | omega | (simp <;> omega)); done))) | ((with_reducible refine bl_set ?_ _ ?_); (focus ((first | omega | (simp <;> omega)); done))) | (with_reducible refine below_drewN ?_ _) | (with_reducible refine Below.drew ?_) | ((with_reducible refine bl_trans ?_ hb ?_); (focus ((first | omega | (simp <;> omega)); done))) | ((with_reducible refine bl_trans ?_ H13.out ?_); (focus ((first | omega | (simp <;> omega)); done))))); have f0_0_14 := keeps1 hb f0_0_13; have f0_1_14 := keeps1 hb f0_1_13; have f0_2_14 := keeps1 hb f0_2_13; have f0_3_14 := keeps1 hb f0_3_13; have f0_4_14 := keeps1 hb f0_4_13; have g0_14 : w.heap.size < w14.heap.size := block_of_cell f0_0_14; have f1_0_14 := keeps1 hb f1_0_13; have f1_1_14 := keeps1 hb f1_1_13; have f1_2_14 := keeps1 hb f1_2_13; have g1_14 : w.heap.size + 1 < w14.heap.size := block_of_cell f1_0_14; have f2_0_14 := keeps1 hb f2_0_13; have f2_1_14 := keeps1 hb f2_1_13; have f2_2_14 := keeps1 hb f2_2_13; have g2_14 : w.heap.size + 1 + 1 < w14.heap.size := block_of_cell f2_0_14; have f3_0_14 := keeps1 hb f3_0_13; have f3_1_14 := keeps1 hb f3_1_13; have f3_2_14 := keeps1 hb f3_2_13; have f3_3_14 := keeps1 hb f3_3_13; have g3_14 : O6 < w14.heap.size := block_of_cell f3_0_14; have f4_0_14 := keeps1 hb f4_0_13; have f4_1_14 := keeps1 hb f4_1_13; have f4_2_14 := keeps1 hb f4_2_13; have f4_3_14 := keeps1 hb f4_3_13; have f4_4_14 := keeps1 hb f4_4_13; have g4_14 : w7.heap.size < w14.heap.size := block_of_cell f4_0_14; have f5_0_14 := keeps1 hb f5_0_13; have f5_1_14 := keeps1 hb f5_1_13; have f5_2_14 := keeps1 hb f5_2_13; have f5_3_14 := keeps1 hb f5_3_13; have g5_14 : O12 < w14.heap.size := block_of_cell f5_0_14; have R2_14 := Lib.hid (Row.later1 R2_13.out hb); have R3_14 := Lib.hid (Row.later1 R3_13.out hb); have R4_14 := Lib.hid (Row.later1 R4_13.out hb); have R5_14 := Lib.hid (Row.later1 R5_13.out hb); have R6_14 := Lib.hid hr6; have RL6 := Lib.hid (show ∀ g, Value.ownBlock (.slice A6 n6 c6) = some g → w13.heap.size ≤ g ∧ g < w14.heap.size from fun g h => by have l1 := hr6.lt g h; ((try simp at l1) <;> omega)); have RA6_7 := Lib.hid ha6_7; have R7_14 := Lib.hid hr7; have RL7 := Lib.hid (show ∀ g, Value.ownBlock (.slice A7 n7 c7) = some g → w13.heap.size ≤ g ∧ g < w14.heap.size from fun g h => by have l1 := hr7.lt g h; ((try simp at l1) <;> omega)); clear f0_0_13 f0_1_13 f0_2_13 f0_3_13 f0_4_13 g0_13 f1_0_13 f1_1_13 f1_2_13 g1_13 f2_0_13 f2_1_13 f2_2_13 g2_13 f3_0_13 f3_1_13 f3_2_13 f3_3_13 g3_13 f4_0_13 f4_1_13 f4_2_13 f4_3_13 f4_4_13 g4_13 f5_0_13 f5_1_13 f5_2_13 f5_3_13 g5_13 R2_13 R3_13 R4_13 R5_13 hr6 ha6_7 hr7 H13))
      | (go_at_call 34; ((with_reducible refine (eqTerrain_any a0_0 a0_1 a0_2 _ _ _ (x0_3) _ _ R3_14.out R6_14.out _ _ (x0_4) _ _ R4_14.out R7_14.out).mono ?_); rintro e w15 ⟨rfl, hb⟩; have zz15 : w14.heap.size ≤ w15.heap.size := (by have := hb.size; ((try simp at this) <;> omega)); have H15 := Lib.hid (show Below w.heap.size w w15 by repeat (first | (with_reducible exact Below.refl _ _) | (with_reducible assumption) | ((with_reducible refine bl_alloc ?_ _ ?_); (focus ((first | omega | (simp <;> omega)); done))) | ((with_reducible refine bl_set ?_ _ ?_); (focus ((first | omega | (simp <;> omega)); done))) | (with_reducible refine below_drewN ?_ _) | (with_reducible refine Below.drew ?_) | ((with_reducible refine bl_trans ?_ hb ?_); (focus ((first | omega | (simp <;> omega)); done))) | ((with_reducible refine bl_trans ?_ H14.out ?_); (focus ((first | omega | (simp <;> omega)); done))))); have f0_0_15 := keeps hb f0_0_14; have f0_1_15 := keeps hb f0_1_14; have f0_2_15 := keeps hb f0_2_14; have f0_3_15 := keeps hb f0_3_14; have f0_4_15 := keeps hb f0_4_14; have g0_15 : w.heap.size < w15.heap.size := block_of_cell f0_0_15; have f1_0_15 := keeps hb f1_0_14; have f1_1_15 := keeps hb f1_1_14; have f1_2_15 := keeps hb f1_2_14; have g1_15 : w.heap.size + 1 < w15.heap.size := block_of_cell f1_0_15; have f2_0_15 := keeps hb f2_0_14; have f2_1_15 := keeps hb f2_1_14; have f2_2_15 := keeps hb f2_2_14; have g2_15 : w.heap.size + 1 + 1 < w15.heap.size := block_of_cell f2_0_15; have f3_0_15 := keeps hb f3_0_14; have f3_1_15 := keeps hb f3_1_14; have f3_2_15 := keeps hb f3_2_14; have f3_3_15 := keeps hb f3_3_14; have g3_15 : O6 < w15.heap.size := block_of_cell f3_0_15; have f4_0_15 := keeps hb f4_0_14; have f4_1_15 := keeps hb f4_1_14; have f4_2_15 := keeps hb f4_2_14; have f4_3_15 := keeps hb f4_3_14; have f4_4_15 := keeps hb f4_4_14; have g4_15 : w7.heap.size < w15.heap.size := block_of_cell f4_0_15; have f5_0_15 := keeps hb f5_0_14; have f5_1_15 := keeps hb f5_1_14; have f5_2_15 := keeps hb f5_2_14; have f5_3_15 := keeps hb f5_3_14; have g5_15 : O12 < w15.heap.size := block_of_cell f5_0_15; have R2_15 := Lib.hid (Row.later R2_14.out hb); have R3_15 := Lib.hid (Row.later R3_14.out hb); have R4_15 := Lib.hid (Row.later R4_14.out hb); have R5_15 := Lib.hid (Row.later R5_14.out hb); clear f0_0_14 f0_1_14 f0_2_14 f0_3_14 f0_4_14 g0_14 f1_0_14 f1_1_14 f1_2_14 g1_14 f2_0_14 f2_1_14 f2_2_14 g2_14 f3_0_14 f3_1_14 f3_2_14 f3_3_14 g3_14 f4_0_14 f4_1_14 f4_2_14 f4_3_14 f4_4_14 g4_14 f5_0_14 f5_1_14 f5_2_14 f5_3_14 g5_14 R2_14 R3_14 R4_14 R5_14 R6_14 R7_14 H14)))
  go_wp2_with fail
  refine (markTerrain_any a0_0 a0_1 a0_2 _ _ _ (x0_3) _ R3_15.out _ (x0_4) _ R4_15.out RA3_4.out (by omega) (by omega)).mono ?_
  rintro e w16 ⟨rfl, hr3, hr4, hb⟩
  have zz16 : w15.heap.size ≤ w16.heap.size := (by have := hb.size; ((try simp at this) <;> omega))
  have H16 := Lib.hid (show Below w.heap.size w w16 from Below.trans (by repeat (first | (with_reducible exact Below.refl _ _) | (with_reducible assumption) | ((with_reducible refine bl_alloc ?_ _ ?_); (focus ((first | omega | (simp <;> omega)); done))) | ((with_reducible refine bl_set ?_ _ ?_); (focus ((first | omega | (simp <;> omega)); done))) | (with_reducible refine below_drewN ?_ _) | (with_reducible refine Below.drew ?_) | ((with_reducible refine bl_trans ?_ H15.out ?_); (focus ((first | omega | (simp <;> omega)); done))))) (hb.below (by first | omega | (simp <;> omega)) (fun g hs => by rcases hs with hs | hs <;> first | (have := (RL3.out g hs).1; omega) | (have := (RL4.out g hs).1; omega))))
  have f0_0_16 := keepsW hb f0_0_15 (fun hs => by rcases hs with hs | hs <;> first | (have := RL3.out _ hs; ((try simp at this) <;> omega)) | (have := RL4.out _ hs; ((try simp at this) <;> omega)))
  have f0_1_16 := keepsW hb f0_1_15 (fun hs => by rcases hs with hs | hs <;> first | (have := RL3.out _ hs; ((try simp at this) <;> omega)) | (have := RL4.out _ hs; ((try simp at this) <;> omega)))
  have f0_2_16 := keepsW hb f0_2_15 (fun hs => by rcases hs with hs | hs <;> first | (have := RL3.out _ hs; ((try simp at this) <;> omega)) | (have := RL4.out _ hs; ((try simp at this) <;> omega)))
  have f0_3_16 := keepsW hb f0_3_15 (fun hs => by rcases hs with hs | hs <;> first | (have := RL3.out _ hs; ((try simp at this) <;> omega)) | (have := RL4.out _ hs; ((try simp at this) <;> omega)))
  have f0_4_16 := keepsW hb f0_4_15 (fun hs => by rcases hs with hs | hs <;> first | (have := RL3.out _ hs; ((try simp at this) <;> omega)) | (have := RL4.out _ hs; ((try simp at this) <;> omega)))
  have g0_16 : w.heap.size < w16.heap.size := block_of_cell f0_0_16
  have f1_0_16 := keepsW hb f1_0_15 (fun hs => by rcases hs with hs | hs <;> first | (have := RL3.out _ hs; ((try simp at this) <;> omega)) | (have := RL4.out _ hs; ((try simp at this) <;> omega)))
  have f1_1_16 := keepsW hb f1_1_15 (fun hs => by rcases hs with hs | hs <;> first | (have := RL3.out _ hs; ((try simp at this) <;> omega)) | (have := RL4.out _ hs; ((try simp at this) <;> omega)))
  have f1_2_16 := keepsW hb f1_2_15 (fun hs => by rcases hs with hs | hs <;> first | (have := RL3.out _ hs; ((try simp at this) <;> omega)) | (have := RL4.out _ hs; ((try simp at this) <;> omega)))
  have g1_16 : w.heap.size + 1 < w16.heap.size := block_of_cell f1_0_16
  have f2_0_16 := keepsW hb f2_0_15 (fun hs => by rcases hs with hs | hs <;> first | (have := RL3.out _ hs; ((try simp at this) <;> omega)) | (have := RL4.out _ hs; ((try simp at this) <;> omega)))
  have f2_1_16 := keepsW hb f2_1_15 (fun hs => by rcases hs with hs | hs <;> first | (have := RL3.out _ hs; ((try simp at this) <;> omega)) | (have := RL4.out _ hs; ((try simp at this) <;> omega)))
  have f2_2_16 := keepsW hb f2_2_15 (fun hs => by rcases hs with hs | hs <;> first | (have := RL3.out _ hs; ((try simp at this) <;> omega)) | (have := RL4.out _ hs; ((try simp at this) <;> omega)))
  have g2_16 : w.heap.size + 1 + 1 < w16.heap.size := block_of_cell f2_0_16
  have f3_0_16 := keepsW hb f3_0_15 (fun hs => by rcases hs with hs | hs <;> first | (have := RL3.out _ hs; ((try simp at this) <;> omega)) | (have := RL4.out _ hs; ((try simp at this) <;> omega)))
  have f3_1_16 := keepsW hb f3_1_15 (fun hs => by rcases hs with hs | hs <;> first | (have := RL3.out _ hs; ((try simp at this) <;> omega)) | (have := RL4.out _ hs; ((try simp at this) <;> omega)))
  have f3_2_16 := keepsW hb f3_2_15 (fun hs => by rcases hs with hs | hs <;> first | (have := RL3.out _ hs; ((try simp at this) <;> omega)) | (have := RL4.out _ hs; ((try simp at this) <;> omega)))
  have f3_3_16 := keepsW hb f3_3_15 (fun hs => by rcases hs with hs | hs <;> first | (have := RL3.out _ hs; ((try simp at this) <;> omega)) | (have := RL4.out _ hs; ((try simp at this) <;> omega)))
  have g3_16 : O6 < w16.heap.size := block_of_cell f3_0_16
  have f5_0_16 := keepsW hb f5_0_15 (fun hs => by rcases hs with hs | hs <;> first | (have := RL3.out _ hs; ((try simp at this) <;> omega)) | (have := RL4.out _ hs; ((try simp at this) <;> omega)))
  have f5_1_16 := keepsW hb f5_1_15 (fun hs => by rcases hs with hs | hs <;> first | (have := RL3.out _ hs; ((try simp at this) <;> omega)) | (have := RL4.out _ hs; ((try simp at this) <;> omega)))
  have f5_2_16 := keepsW hb f5_2_15 (fun hs => by rcases hs with hs | hs <;> first | (have := RL3.out _ hs; ((try simp at this) <;> omega)) | (have := RL4.out _ hs; ((try simp at this) <;> omega)))
  have f5_3_16 := keepsW hb f5_3_15 (fun hs => by rcases hs with hs | hs <;> first | (have := RL3.out _ hs; ((try simp at this) <;> omega)) | (have := RL4.out _ hs; ((try simp at this) <;> omega)))
  have g5_16 : O12 < w16.heap.size := block_of_cell f5_0_16
  have R2_16 := Lib.hid (Row.writes R2_15.out hb (fun g h hs => by have h1 := RL2.out g h; rcases hs with hs | hs <;> first | (have h2 := RL3.out g hs; omega) | (have h2 := RL4.out g hs; omega)))
  have R5_16 := Lib.hid (Row.writes R5_15.out hb (fun g h hs => by have h1 := RL5.out g h; rcases hs with hs | hs <;> first | (have h2 := RL3.out g hs; omega) | (have h2 := RL4.out g hs; omega)))
  have R3_16 := Lib.hid hr3
  have R4_16 := Lib.hid hr4
  clear hb f0_0_15 f0_1_15 f0_2_15 f0_3_15 f0_4_15 g0_15 f1_0_15 f1_1_15 f1_2_15 g1_15 f2_0_15 f2_1_15 f2_2_15 g2_15 f3_0_15 f3_1_15 f3_2_15 f3_3_15 g3_15 f4_0_15 f4_1_15 f4_2_15 f4_3_15 f4_4_15 g4_15 f5_0_15 f5_1_15 f5_2_15 f5_3_15 g5_15 R2_15 R5_15 R3_15 hr3 R4_15 hr4 H15
  go_wp2_with fail
  refine (eqProfile_any ((pbD a0_0 a0_1 a0_2 x0_3 x0_4 a1_0_0 a1_0_1 a1_1 a2_0_0 a2_0_1 a2_1)) ((pbF a0_0 a0_1 a0_2 x0_3 x0_4 a1_0_0 a1_0_1 a1_1 a2_0_0 a2_0_1 a2_1)) ((pbL a0_0 a0_1 a0_2 x0_3 x0_4 a1_0_0 a1_0_1 a1_1 a2_0_0 a2_0_1 a2_1)) _ _ _ ((pbH a0_0 a0_1 a0_2 x0_3 x0_4 a1_0_0 a1_0_1 a1_1 a2_0_0 a2_0_1 a2_1)) _ _ R5_16.out R2_16.out).mono ?_
  rintro e w17 ⟨rfl, hb⟩
  have zz17 : w16.heap.size ≤ w17.heap.size := (by have := hb.size; ((try simp at this) <;> omega))
  have H17 := Lib.hid (show Below w.heap.size w w17 by repeat (first | (with_reducible exact Below.refl _ _) | (with_reducible assumption) | ((with_reducible refine bl_alloc ?_ _ ?_); (focus ((first | omega | (simp <;> omega)); done))) | ((with_reducible refine bl_set ?_ _ ?_); (focus ((first | omega | (simp <;> omega)); done))) | (with_reducible refine below_drewN ?_ _) | (with_reducible refine Below.drew ?_) | ((with_reducible refine bl_trans ?_ hb ?_); (focus ((first | omega | (simp <;> omega)); done))) | ((with_reducible refine bl_trans ?_ H16.out ?_); (focus ((first | omega | (simp <;> omega)); done)))))
  have f0_0_17 := keeps hb f0_0_16
  have f0_1_17 := keeps hb f0_1_16
  have f0_2_17 := keeps hb f0_2_16
  have f0_3_17 := keeps hb f0_3_16
  have f0_4_17 := keeps hb f0_4_16
  have g0_17 : w.heap.size < w17.heap.size := block_of_cell f0_0_17
  have f1_0_17 := keeps hb f1_0_16
  have f1_1_17 := keeps hb f1_1_16
  have f1_2_17 := keeps hb f1_2_16
  have g1_17 : w.heap.size + 1 < w17.heap.size := block_of_cell f1_0_17
  have f2_0_17 := keeps hb f2_0_16
  have f2_1_17 := keeps hb f2_1_16
  have f2_2_17 := keeps hb f2_2_16
  have g2_17 : w.heap.size + 1 + 1 < w17.heap.size := block_of_cell f2_0_17
  have f3_0_17 := keeps hb f3_0_16
  have f3_1_17 := keeps hb f3_1_16
  have f3_2_17 := keeps hb f3_2_16
  have f3_3_17 := keeps hb f3_3_16
  have g3_17 : O6 < w17.heap.size := block_of_cell f3_0_17
  have f5_0_17 := keeps hb f5_0_16
  have f5_1_17 := keeps hb f5_1_16
  have f5_2_17 := keeps hb f5_2_16
  have f5_3_17 := keeps hb f5_3_16
  have g5_17 : O12 < w17.heap.size := block_of_cell f5_0_17
  have R2_17 := Lib.hid (Row.later R2_16.out hb)
  have R5_17 := Lib.hid (Row.later R5_16.out hb)
  clear hb f0_0_16 f0_1_16 f0_2_16 f0_3_16 f0_4_16 g0_16 f1_0_16 f1_1_16 f1_2_16 g1_16 f2_0_16 f2_1_16 f2_2_16 g2_16 f3_0_16 f3_1_16 f3_2_16 f3_3_16 g3_16 f5_0_16 f5_1_16 f5_2_16 f5_3_16 g5_16 R2_16 R3_16 R4_16 R5_16 H16
  go_wp2_with fail
  refine (markProfile_any ((pbD a0_0 a0_1 a0_2 x0_3 x0_4 a1_0_0 a1_0_1 a1_1 a2_0_0 a2_0_1 a2_1)) ((pbF a0_0 a0_1 a0_2 x0_3 x0_4 a1_0_0 a1_0_1 a1_1 a2_0_0 a2_0_1 a2_1)) ((pbL a0_0 a0_1 a0_2 x0_3 x0_4 a1_0_0 a1_0_1 a1_1 a2_0_0 a2_0_1 a2_1)) _ _ _ ((pbH a0_0 a0_1 a0_2 x0_3 x0_4 a1_0_0 a1_0_1 a1_1 a2_0_0 a2_0_1 a2_1)) _ R5_17.out  (by omega) (by omega)).mono ?_
  rintro e w18 ⟨rfl, hr5, hb⟩
  have zz18 : w17.heap.size ≤ w18.heap.size := (by have := hb.size; ((try simp at this) <;> omega))
  have H18 := Lib.hid (show Below w.heap.size w w18 from Below.trans (by repeat (first | (with_reducible exact Below.refl _ _) | (with_reducible assumption) | ((with_reducible refine bl_alloc ?_ _ ?_); (focus ((first | omega | (simp <;> omega)); done))) | ((with_reducible refine bl_set ?_ _ ?_); (focus ((first | omega | (simp <;> omega)); done))) | (with_reducible refine below_drewN ?_ _) | (with_reducible refine Below.drew ?_) | ((with_reducible refine bl_trans ?_ H17.out ?_); (focus ((first | omega | (simp <;> omega)); done))))) (hb.below (by first | omega | (simp <;> omega)) (fun g hs => by have := (RL5.out g hs).1; omega)))
  have f0_0_18 := keepsW hb f0_0_17 (fun hs => by first | (exact HO5.out hs) | (have := RL5.out _ hs; ((try simp at this) <;> omega)))
  have f0_1_18 := keepsW hb f0_1_17 (fun hs => by first | (exact HO5.out hs) | (have := RL5.out _ hs; ((try simp at this) <;> omega)))
  have f0_2_18 := keepsW hb f0_2_17 (fun hs => by first | (exact HO5.out hs) | (have := RL5.out _ hs; ((try simp at this) <;> omega)))
  have f0_3_18 := keepsW hb f0_3_17 (fun hs => by first | (exact HO5.out hs) | (have := RL5.out _ hs; ((try simp at this) <;> omega)))
  have f0_4_18 := keepsW hb f0_4_17 (fun hs => by first | (exact HO5.out hs) | (have := RL5.out _ hs; ((try simp at this) <;> omega)))
  have g0_18 : w.heap.size < w18.heap.size := block_of_cell f0_0_18
  have f1_0_18 := keepsW hb f1_0_17 (fun hs => by first | (exact HO5.out hs) | (have := RL5.out _ hs; ((try simp at this) <;> omega)))
  have f1_1_18 := keepsW hb f1_1_17 (fun hs => by first | (exact HO5.out hs) | (have := RL5.out _ hs; ((try simp at this) <;> omega)))
  have f1_2_18 := keepsW hb f1_2_17 (fun hs => by first | (exact HO5.out hs) | (have := RL5.out _ hs; ((try simp at this) <;> omega)))
  have g1_18 : w.heap.size + 1 < w18.heap.size := block_of_cell f1_0_18
  have f2_0_18 := keepsW hb f2_0_17 (fun hs => by first | (exact HO5.out hs) | (have := RL5.out _ hs; ((try simp at this) <;> omega)))
  have f2_1_18 := keepsW hb f2_1_17 (fun hs => by first | (exact HO5.out hs) | (have := RL5.out _ hs; ((try simp at this) <;> omega)))
  have f2_2_18 := keepsW hb f2_2_17 (fun hs => by first | (exact HO5.out hs) | (have := RL5.out _ hs; ((try simp at this) <;> omega)))
  have g2_18 : w.heap.size + 1 + 1 < w18.heap.size := block_of_cell f2_0_18
  have f3_0_18 := keepsW hb f3_0_17 (fun hs => by first | (exact HO5.out hs) | (have := RL5.out _ hs; ((try simp at this) <;> omega)))
  have f3_1_18 := keepsW hb f3_1_17 (fun hs => by first | (exact HO5.out hs) | (have := RL5.out _ hs; ((try simp at this) <;> omega)))
  have f3_2_18 := keepsW hb f3_2_17 (fun hs => by first | (exact HO5.out hs) | (have := RL5.out _ hs; ((try simp at this) <;> omega)))
  have f3_3_18 := keepsW hb f3_3_17 (fun hs => by first | (exact HO5.out hs) | (have := RL5.out _ hs; ((try simp at this) <;> omega)))
  have g3_18 : O6 < w18.heap.size := block_of_cell f3_0_18
  have f5_0_18 := keepsW hb f5_0_17 (fun hs => by first | (exact HO5.out hs) | (have := RL5.out _ hs; ((try simp at this) <;> omega)))
  have f5_1_18 := keepsW hb f5_1_17 (fun hs => by first | (exact HO5.out hs) | (have := RL5.out _ hs; ((try simp at this) <;> omega)))
  have f5_2_18 := keepsW hb f5_2_17 (fun hs => by first | (exact HO5.out hs) | (have := RL5.out _ hs; ((try simp at this) <;> omega)))
  have f5_3_18 := keepsW hb f5_3_17 (fun hs => by first | (exact HO5.out hs) | (have := RL5.out _ hs; ((try simp at this) <;> omega)))
  have g5_18 : O12 < w18.heap.size := block_of_cell f5_0_18
  have R2_18 := Lib.hid (Row.writes R2_17.out hb (fun g h hs => by have h1 := RL2.out g h; have h2 := RL5.out g hs; omega))
  have R5_18 := Lib.hid hr5
  clear hb f0_0_17 f0_1_17 f0_2_17 f0_3_17 f0_4_17 g0_17 f1_0_17 f1_1_17 f1_2_17 g1_17 f2_0_17 f2_1_17 f2_2_17 g2_17 f3_0_17 f3_1_17 f3_2_17 f3_3_17 g3_17 f5_0_17 f5_1_17 f5_2_17 f5_3_17 g5_17 R2_17 R5_17 hr5 H17
  go_wp2_with fail
  refine (heldProfile_any ((pbD a0_0 a0_1 a0_2 x0_3 x0_4 a1_0_0 a1_0_1 a1_1 a2_0_0 a2_0_1 a2_1)) ((pbF a0_0 a0_1 a0_2 x0_3 x0_4 a1_0_0 a1_0_1 a1_1 a2_0_0 a2_0_1 a2_1)) ((pbL a0_0 a0_1 a0_2 x0_3 x0_4 a1_0_0 a1_0_1 a1_1 a2_0_0 a2_0_1 a2_1)) _ _ _ _ _ R5_18.out (by omega) (by omega)).mono ?_
  rintro e w19 ⟨rfl, hb⟩
  have zz19 : w18.heap.size ≤ w19.heap.size := (by have := hb.size; ((try simp at this) <;> omega))
  have H19 := Lib.hid (show Below w.heap.size w w19 by repeat (first | (with_reducible exact Below.refl _ _) | (with_reducible assumption) | ((with_reducible refine bl_alloc ?_ _ ?_); (focus ((first | omega | (simp <;> omega)); done))) | ((with_reducible refine bl_set ?_ _ ?_); (focus ((first | omega | (simp <;> omega)); done))) | (with_reducible refine below_drewN ?_ _) | (with_reducible refine Below.drew ?_) | ((with_reducible refine bl_trans ?_ hb ?_); (focus ((first | omega | (simp <;> omega)); done))) | ((with_reducible refine bl_trans ?_ H18.out ?_); (focus ((first | omega | (simp <;> omega)); done)))))
  have f0_0_19 := keeps hb f0_0_18
  have f0_1_19 := keeps hb f0_1_18
  have f0_2_19 := keeps hb f0_2_18
  have f0_3_19 := keeps hb f0_3_18
  have f0_4_19 := keeps hb f0_4_18
  have g0_19 : w.heap.size < w19.heap.size := block_of_cell f0_0_19
  have f1_0_19 := keeps hb f1_0_18
  have f1_1_19 := keeps hb f1_1_18
  have f1_2_19 := keeps hb f1_2_18
  have g1_19 : w.heap.size + 1 < w19.heap.size := block_of_cell f1_0_19
  have f2_0_19 := keeps hb f2_0_18
  have f2_1_19 := keeps hb f2_1_18
  have f2_2_19 := keeps hb f2_2_18
  have g2_19 : w.heap.size + 1 + 1 < w19.heap.size := block_of_cell f2_0_19
  have f3_0_19 := keeps hb f3_0_18
  have f3_1_19 := keeps hb f3_1_18
  have f3_2_19 := keeps hb f3_2_18
  have f3_3_19 := keeps hb f3_3_18
  have g3_19 : O6 < w19.heap.size := block_of_cell f3_0_19
  have f5_0_19 := keeps hb f5_0_18
  have f5_1_19 := keeps hb f5_1_18
  have f5_2_19 := keeps hb f5_2_18
  have f5_3_19 := keeps hb f5_3_18
  have g5_19 : O12 < w19.heap.size := block_of_cell f5_0_19
  have R2_19 := Lib.hid (Row.later R2_18.out hb)
  have R5_19 := Lib.hid (Row.later R5_18.out hb)
  clear hb f0_0_18 f0_1_18 f0_2_18 f0_3_18 f0_4_18 g0_18 f1_0_18 f1_1_18 f1_2_18 g1_18 f2_0_18 f2_1_18 f2_2_18 g2_18 f3_0_18 f3_1_18 f3_2_18 f3_3_18 g3_18 f5_0_18 f5_1_18 f5_2_18 f5_3_18 g5_18 R2_18 R5_18 H18
  go_upto_region 24 with fail
  go_cut [16, 17] (fun p_ c_ wx => ∃ O A10 n10 c10, p_ = .pointer (some ⟨O, 0, none⟩) ∧ c_ = .int .i64 (askV a0_0 a0_1 a0_2 x0_3 x0_4 a1_0_0 a1_0_1 a1_1 a2_0_0 a2_0_1 a2_1) ∧ Hid (SInv wx O [.int .i64 ((pbD a0_0 a0_1 a0_2 x0_3 x0_4 a1_0_0 a1_0_1 a1_1 a2_0_0 a2_0_1 a2_1)), .int .i64 ((pbF a0_0 a0_1 a0_2 x0_3 x0_4 a1_0_0 a1_0_1 a1_1 a2_0_0 a2_0_1 a2_1)), .int .i64 ((pbL a0_0 a0_1 a0_2 x0_3 x0_4 a1_0_0 a1_0_1 a1_1 a2_0_0 a2_0_1 a2_1)), (.slice A10 n10 c10)]) ∧ Hid (w19.heap.size ≤ O) ∧ Hid (Row 2 wx w19.heap.size (.slice A10 n10 c10) (pbH a0_0 a0_1 a0_2 x0_3 x0_4 a1_0_0 a1_0_1 a1_1 a2_0_0 a2_0_1 a2_1)) ∧ Hid (Value.ownBlock (.slice A10 n10 c10) ≠ some O) ∧ Hid (Below w19.heap.size w19 wx))
  case first =>
    go_region_held3 (fun w' => w'.cell? ⟨w.heap.size, 0, none⟩ = some (.int .i64 a0_0) ∧ w'.cell? ⟨w.heap.size, 1, none⟩ = some (.int .i64 a0_1) ∧ w'.cell? ⟨w.heap.size, 2, none⟩ = some (.int .i64 a0_2) ∧ w'.cell? ⟨w.heap.size, 3, none⟩ = some (v0_3) ∧ w'.cell? ⟨w.heap.size, 4, none⟩ = some (v0_4) ∧ w'.cell? ⟨w.heap.size + 1, 0, none⟩ = some (.int .i64 a1_0_0) ∧ w'.cell? ⟨w.heap.size + 1, 1, none⟩ = some (.int .i64 a1_0_1) ∧ w'.cell? ⟨w.heap.size + 1, 2, none⟩ = some (.int .i64 a1_1) ∧ w'.cell? ⟨w.heap.size + 1 + 1, 0, none⟩ = some (.int .i64 a2_0_0) ∧ w'.cell? ⟨w.heap.size + 1 + 1, 1, none⟩ = some (.int .i64 a2_0_1) ∧ w'.cell? ⟨w.heap.size + 1 + 1, 2, none⟩ = some (.int .i64 a2_1))
      (((try go_split_ands); (refine ⟨?_, ?_, ?_, ?_, ?_, ?_, ?_, ?_, ?_, ?_, ?_⟩ <;> (repeat (first | (with_reducible assumption) | (with_reducible refine cell_drew ?_) | (with_reducible refine cell_drewN ?_) | (with_reducible refine cell_alloc ?_ _) | ((with_reducible refine cell_set1 ?_ ?_); (focus (omega; done))) | (with_reducible refine keeps hb ?_))))))
      (first
        | (go_at_call 31; ((with_reducible refine (toTerrain_any a0_0 a0_1 a0_2 v0_3 x0_3 v0_4 x0_4 _ w.heap.size (by first | omega | (simp <;> omega)) (Rd.below r0_3 (by repeat (first | (with_reducible exact Below.refl _ _) | (with_reducible assumption) | ((with_reducible refine bl_alloc ?_ _ ?_); (focus ((first | omega | (simp <;> omega)); done))) | ((with_reducible refine bl_set ?_ _ ?_); (focus ((first | omega | (simp <;> omega)); done))) | (with_reducible refine below_drewN ?_ _) | (with_reducible refine Below.drew ?_) | ((with_reducible refine bl_trans ?_ H19.out ?_); (focus ((first | omega | (simp <;> omega)); done)))))) (by omega) (Rd.below r0_4 (by repeat (first | (with_reducible exact Below.refl _ _) | (with_reducible assumption) | ((with_reducible refine bl_alloc ?_ _ ?_); (focus ((first | omega | (simp <;> omega)); done))) | ((with_reducible refine bl_set ?_ _ ?_); (focus ((first | omega | (simp <;> omega)); done))) | (with_reducible refine below_drewN ?_ _) | (with_reducible refine Below.drew ?_) | ((with_reducible refine bl_trans ?_ H19.out ?_); (focus ((first | omega | (simp <;> omega)); done)))))) (by omega)).mono ?_); rintro e w20 ⟨A8, n8, c8, A9, n9, c9, rfl, hr8, hr9, ha8_9, hb⟩; have zz20 : w19.heap.size ≤ w20.heap.size := (by have := hb.size; ((try simp at this) <;> omega)); have H20 := Lib.hid (show Below w.heap.size w w20 by repeat (first | (with_reducible exact Below.refl _ _) | (with_reducible assumption) | ((with_reducible refine bl_alloc ?_ _ ?_); (focus ((first | omega | (simp <;> omega)); done))) | ((with_reducible refine bl_set ?_ _ ?_); (focus ((first | omega | (simp <;> omega)); done))) | (with_reducible refine below_drewN ?_ _) | (with_reducible refine Below.drew ?_) | ((with_reducible refine bl_trans ?_ hb ?_); (focus ((first | omega | (simp <;> omega)); done))) | ((with_reducible refine bl_trans ?_ H19.out ?_); (focus ((first | omega | (simp <;> omega)); done))))); have HX20 := Lib.hid (show Below w19.heap.size w19 w20 by repeat (first | (with_reducible exact Below.refl _ _) | (with_reducible assumption) | ((with_reducible refine bl_alloc ?_ _ ?_); (focus ((first | omega | (simp <;> omega)); done))) | ((with_reducible refine bl_set ?_ _ ?_); (focus ((first | omega | (simp <;> omega)); done))) | (with_reducible refine below_drewN ?_ _) | (with_reducible refine Below.drew ?_) | ((with_reducible refine bl_trans ?_ hb ?_); (focus ((first | omega | (simp <;> omega)); done))))); have f0_0_20 : w20.cell? ⟨w.heap.size, 0, none⟩ = some (.int .i64 a0_0) := (by first | exact keeps hb f0_0_19 | exact keeps1 hb f0_0_19 | exact keeps hb (cell_alloc f0_0_19 _) | exact keeps hb (cell_alloc (cell_drew f0_0_19) _)); have f0_1_20 : w20.cell? ⟨w.heap.size, 1, none⟩ = some (.int .i64 a0_1) := (by first | exact keeps hb f0_1_19 | exact keeps1 hb f0_1_19 | exact keeps hb (cell_alloc f0_1_19 _) | exact keeps hb (cell_alloc (cell_drew f0_1_19) _)); have f0_2_20 : w20.cell? ⟨w.heap.size, 2, none⟩ = some (.int .i64 a0_2) := (by first | exact keeps hb f0_2_19 | exact keeps1 hb f0_2_19 | exact keeps hb (cell_alloc f0_2_19 _) | exact keeps hb (cell_alloc (cell_drew f0_2_19) _)); have f0_3_20 : w20.cell? ⟨w.heap.size, 3, none⟩ = some (v0_3) := (by first | exact keeps hb f0_3_19 | exact keeps1 hb f0_3_19 | exact keeps hb (cell_alloc f0_3_19 _) | exact keeps hb (cell_alloc (cell_drew f0_3_19) _)); have f0_4_20 : w20.cell? ⟨w.heap.size, 4, none⟩ = some (v0_4) := (by first | exact keeps hb f0_4_19 | exact keeps1 hb f0_4_19 | exact keeps hb (cell_alloc f0_4_19 _) | exact keeps hb (cell_alloc (cell_drew f0_4_19) _)); have f1_0_20 : w20.cell? ⟨w.heap.size + 1, 0, none⟩ = some (.int .i64 a1_0_0) := (by first | exact keeps hb f1_0_19 | exact keeps1 hb f1_0_19 | exact keeps hb (cell_alloc f1_0_19 _) | exact keeps hb (cell_alloc (cell_drew f1_0_19) _)); have f1_1_20 : w20.cell? ⟨w.heap.size + 1, 1, none⟩ = some (.int .i64 a1_0_1) := (by first | exact keeps hb f1_1_19 | exact keeps1 hb f1_1_19 | exact keeps hb (cell_alloc f1_1_19 _) | exact keeps hb (cell_alloc (cell_drew f1_1_19) _)); have f1_2_20 : w20.cell? ⟨w.heap.size + 1, 2, none⟩ = some (.int .i64 a1_1) := (by first | exact keeps hb f1_2_19 | exact keeps1 hb f1_2_19 | exact keeps hb (cell_alloc f1_2_19 _) | exact keeps hb (cell_alloc (cell_drew f1_2_19) _)); have f2_0_20 : w20.cell? ⟨w.heap.size + 1 + 1, 0, none⟩ = some (.int .i64 a2_0_0) := (by first | exact keeps hb f2_0_19 | exact keeps1 hb f2_0_19 | exact keeps hb (cell_alloc f2_0_19 _) | exact keeps hb (cell_alloc (cell_drew f2_0_19) _)); have f2_1_20 : w20.cell? ⟨w.heap.size + 1 + 1, 1, none⟩ = some (.int .i64 a2_0_1) := (by first | exact keeps hb f2_1_19 | exact keeps1 hb f2_1_19 | exact keeps hb (cell_alloc f2_1_19 _) | exact keeps hb (cell_alloc (cell_drew f2_1_19) _)); have f2_2_20 : w20.cell? ⟨w.heap.size + 1 + 1, 2, none⟩ = some (.int .i64 a2_1) := (by first | exact keeps hb f2_2_19 | exact keeps1 hb f2_2_19 | exact keeps hb (cell_alloc f2_2_19 _) | exact keeps hb (cell_alloc (cell_drew f2_2_19) _)); have f3_0_20 : w20.cell? ⟨O6, 0, none⟩ = some (.int .i64 ((pbD a0_0 a0_1 a0_2 x0_3 x0_4 a1_0_0 a1_0_1 a1_1 a2_0_0 a2_0_1 a2_1))) := (by first | exact keeps hb f3_0_19 | exact keeps1 hb f3_0_19 | exact keeps hb (cell_alloc f3_0_19 _) | exact keeps hb (cell_alloc (cell_drew f3_0_19) _)); have f3_1_20 : w20.cell? ⟨O6, 1, none⟩ = some (.int .i64 ((pbF a0_0 a0_1 a0_2 x0_3 x0_4 a1_0_0 a1_0_1 a1_1 a2_0_0 a2_0_1 a2_1))) := (by first | exact keeps hb f3_1_19 | exact keeps1 hb f3_1_19 | exact keeps hb (cell_alloc f3_1_19 _) | exact keeps hb (cell_alloc (cell_drew f3_1_19) _)); have f3_2_20 : w20.cell? ⟨O6, 2, none⟩ = some (.int .i64 ((pbL a0_0 a0_1 a0_2 x0_3 x0_4 a1_0_0 a1_0_1 a1_1 a2_0_0 a2_0_1 a2_1))) := (by first | exact keeps hb f3_2_19 | exact keeps1 hb f3_2_19 | exact keeps hb (cell_alloc f3_2_19 _) | exact keeps hb (cell_alloc (cell_drew f3_2_19) _)); have f3_3_20 : w20.cell? ⟨O6, 3, none⟩ = some ((.slice A2 n2 c2)) := (by first | exact keeps hb f3_3_19 | exact keeps1 hb f3_3_19 | exact keeps hb (cell_alloc f3_3_19 _) | exact keeps hb (cell_alloc (cell_drew f3_3_19) _)); have f5_0_20 : w20.cell? ⟨O12, 0, none⟩ = some (.int .i64 ((pbD a0_0 a0_1 a0_2 x0_3 x0_4 a1_0_0 a1_0_1 a1_1 a2_0_0 a2_0_1 a2_1))) := (by first | exact keeps hb f5_0_19 | exact keeps1 hb f5_0_19 | exact keeps hb (cell_alloc f5_0_19 _) | exact keeps hb (cell_alloc (cell_drew f5_0_19) _)); have f5_1_20 : w20.cell? ⟨O12, 1, none⟩ = some (.int .i64 ((pbF a0_0 a0_1 a0_2 x0_3 x0_4 a1_0_0 a1_0_1 a1_1 a2_0_0 a2_0_1 a2_1))) := (by first | exact keeps hb f5_1_19 | exact keeps1 hb f5_1_19 | exact keeps hb (cell_alloc f5_1_19 _) | exact keeps hb (cell_alloc (cell_drew f5_1_19) _)); have f5_2_20 : w20.cell? ⟨O12, 2, none⟩ = some (.int .i64 ((pbL a0_0 a0_1 a0_2 x0_3 x0_4 a1_0_0 a1_0_1 a1_1 a2_0_0 a2_0_1 a2_1))) := (by first | exact keeps hb f5_2_19 | exact keeps1 hb f5_2_19 | exact keeps hb (cell_alloc f5_2_19 _) | exact keeps hb (cell_alloc (cell_drew f5_2_19) _)); have f5_3_20 : w20.cell? ⟨O12, 3, none⟩ = some ((.slice A5 n5 c5)) := (by first | exact keeps hb f5_3_19 | exact keeps1 hb f5_3_19 | exact keeps hb (cell_alloc f5_3_19 _) | exact keeps hb (cell_alloc (cell_drew f5_3_19) _)); (first | (have R2_20 := Lib.hid (Row.later R2_19.out hb)) | (have R2_20 := Lib.hid (Row.later1 R2_19.out hb)) | (have R2_20 := Lib.hid (Row.later (R2_19.out.alloc_ _) hb)) | (have R2_20 := Lib.hid (Row.later (Row.alloc_ (w := w19.drew) R2_19.out _) hb))); (first | (have R5_20 := Lib.hid (Row.later R5_19.out hb)) | (have R5_20 := Lib.hid (Row.later1 R5_19.out hb)) | (have R5_20 := Lib.hid (Row.later (R5_19.out.alloc_ _) hb)) | (have R5_20 := Lib.hid (Row.later (Row.alloc_ (w := w19.drew) R5_19.out _) hb))); have R8_20 := Lib.hid (Row.base_le (b' := w19.heap.size) hr8 (by first | omega | (simp <;> omega))); have RL8 := Lib.hid (show ∀ g, Value.ownBlock (.slice A8 n8 c8) = some g → w19.heap.size ≤ g ∧ g < w20.heap.size from fun g h => by have l1 := hr8.lt g h; ((try simp at l1) <;> omega)); have RA8_9 := Lib.hid ha8_9; have R9_20 := Lib.hid (Row.base_le (b' := w19.heap.size) hr9 (by first | omega | (simp <;> omega))); have RL9 := Lib.hid (show ∀ g, Value.ownBlock (.slice A9 n9 c9) = some g → w19.heap.size ≤ g ∧ g < w20.heap.size from fun g h => by have l1 := hr9.lt g h; ((try simp at l1) <;> omega)); (first | (have SZ20 := Lib.hid (SZ19.out.later hb)) | (have SZ20 := Lib.hid (mk_fresh1 hb)) | (have SZ20 := Lib.hid (mk_fresh2 hb)) | (have SZ20 := Lib.hid (mk_fresh hb)) | skip); (first | (have zl20 := SZ20.out.lt) | skip)))
        | (go_at_call 32; ((with_reducible refine (toEnd_any a1_0_0 a1_0_1 a1_1 _).mono ?_); rintro e w21 ⟨rfl, hb⟩; have zz21 : w20.heap.size ≤ w21.heap.size := (by have := hb.size; ((try simp at this) <;> omega)); have H21 := Lib.hid (show Below w.heap.size w w21 by repeat (first | (with_reducible exact Below.refl _ _) | (with_reducible assumption) | ((with_reducible refine bl_alloc ?_ _ ?_); (focus ((first | omega | (simp <;> omega)); done))) | ((with_reducible refine bl_set ?_ _ ?_); (focus ((first | omega | (simp <;> omega)); done))) | (with_reducible refine below_drewN ?_ _) | (with_reducible refine Below.drew ?_) | ((with_reducible refine bl_trans ?_ hb ?_); (focus ((first | omega | (simp <;> omega)); done))) | ((with_reducible refine bl_trans ?_ H20.out ?_); (focus ((first | omega | (simp <;> omega)); done))))); have HX21 := Lib.hid (show Below w19.heap.size w19 w21 by repeat (first | (with_reducible exact Below.refl _ _) | (with_reducible assumption) | ((with_reducible refine bl_alloc ?_ _ ?_); (focus ((first | omega | (simp <;> omega)); done))) | ((with_reducible refine bl_set ?_ _ ?_); (focus ((first | omega | (simp <;> omega)); done))) | (with_reducible refine below_drewN ?_ _) | (with_reducible refine Below.drew ?_) | ((with_reducible refine bl_trans ?_ hb ?_); (focus ((first | omega | (simp <;> omega)); done))) | ((with_reducible refine bl_trans ?_ HX20.out ?_); (focus ((first | omega | (simp <;> omega)); done))))); have f0_0_21 : w21.cell? ⟨w.heap.size, 0, none⟩ = some (.int .i64 a0_0) := (by first | exact keeps hb f0_0_20 | exact keeps1 hb f0_0_20 | exact keeps hb (cell_alloc f0_0_20 _) | exact keeps hb (cell_alloc (cell_drew f0_0_20) _)); have f0_1_21 : w21.cell? ⟨w.heap.size, 1, none⟩ = some (.int .i64 a0_1) := (by first | exact keeps hb f0_1_20 | exact keeps1 hb f0_1_20 | exact keeps hb (cell_alloc f0_1_20 _) | exact keeps hb (cell_alloc (cell_drew f0_1_20) _)); have f0_2_21 : w21.cell? ⟨w.heap.size, 2, none⟩ = some (.int .i64 a0_2) := (by first | exact keeps hb f0_2_20 | exact keeps1 hb f0_2_20 | exact keeps hb (cell_alloc f0_2_20 _) | exact keeps hb (cell_alloc (cell_drew f0_2_20) _)); have f0_3_21 : w21.cell? ⟨w.heap.size, 3, none⟩ = some (v0_3) := (by first | exact keeps hb f0_3_20 | exact keeps1 hb f0_3_20 | exact keeps hb (cell_alloc f0_3_20 _) | exact keeps hb (cell_alloc (cell_drew f0_3_20) _)); have f0_4_21 : w21.cell? ⟨w.heap.size, 4, none⟩ = some (v0_4) := (by first | exact keeps hb f0_4_20 | exact keeps1 hb f0_4_20 | exact keeps hb (cell_alloc f0_4_20 _) | exact keeps hb (cell_alloc (cell_drew f0_4_20) _)); have f1_0_21 : w21.cell? ⟨w.heap.size + 1, 0, none⟩ = some (.int .i64 a1_0_0) := (by first | exact keeps hb f1_0_20 | exact keeps1 hb f1_0_20 | exact keeps hb (cell_alloc f1_0_20 _) | exact keeps hb (cell_alloc (cell_drew f1_0_20) _)); have f1_1_21 : w21.cell? ⟨w.heap.size + 1, 1, none⟩ = some (.int .i64 a1_0_1) := (by first | exact keeps hb f1_1_20 | exact keeps1 hb f1_1_20 | exact keeps hb (cell_alloc f1_1_20 _) | exact keeps hb (cell_alloc (cell_drew f1_1_20) _)); have f1_2_21 : w21.cell? ⟨w.heap.size + 1, 2, none⟩ = some (.int .i64 a1_1) := (by first | exact keeps hb f1_2_20 | exact keeps1 hb f1_2_20 | exact keeps hb (cell_alloc f1_2_20 _) | exact keeps hb (cell_alloc (cell_drew f1_2_20) _)); have f2_0_21 : w21.cell? ⟨w.heap.size + 1 + 1, 0, none⟩ = some (.int .i64 a2_0_0) := (by first | exact keeps hb f2_0_20 | exact keeps1 hb f2_0_20 | exact keeps hb (cell_alloc f2_0_20 _) | exact keeps hb (cell_alloc (cell_drew f2_0_20) _)); have f2_1_21 : w21.cell? ⟨w.heap.size + 1 + 1, 1, none⟩ = some (.int .i64 a2_0_1) := (by first | exact keeps hb f2_1_20 | exact keeps1 hb f2_1_20 | exact keeps hb (cell_alloc f2_1_20 _) | exact keeps hb (cell_alloc (cell_drew f2_1_20) _)); have f2_2_21 : w21.cell? ⟨w.heap.size + 1 + 1, 2, none⟩ = some (.int .i64 a2_1) := (by first | exact keeps hb f2_2_20 | exact keeps1 hb f2_2_20 | exact keeps hb (cell_alloc f2_2_20 _) | exact keeps hb (cell_alloc (cell_drew f2_2_20) _)); have f3_0_21 : w21.cell? ⟨O6, 0, none⟩ = some (.int .i64 ((pbD a0_0 a0_1 a0_2 x0_3 x0_4 a1_0_0 a1_0_1 a1_1 a2_0_0 a2_0_1 a2_1))) := (by first | exact keeps hb f3_0_20 | exact keeps1 hb f3_0_20 | exact keeps hb (cell_alloc f3_0_20 _) | exact keeps hb (cell_alloc (cell_drew f3_0_20) _)); have f3_1_21 : w21.cell? ⟨O6, 1, none⟩ = some (.int .i64 ((pbF a0_0 a0_1 a0_2 x0_3 x0_4 a1_0_0 a1_0_1 a1_1 a2_0_0 a2_0_1 a2_1))) := (by first | exact keeps hb f3_1_20 | exact keeps1 hb f3_1_20 | exact keeps hb (cell_alloc f3_1_20 _) | exact keeps hb (cell_alloc (cell_drew f3_1_20) _)); have f3_2_21 : w21.cell? ⟨O6, 2, none⟩ = some (.int .i64 ((pbL a0_0 a0_1 a0_2 x0_3 x0_4 a1_0_0 a1_0_1 a1_1 a2_0_0 a2_0_1 a2_1))) := (by first | exact keeps hb f3_2_20 | exact keeps1 hb f3_2_20 | exact keeps hb (cell_alloc f3_2_20 _) | exact keeps hb (cell_alloc (cell_drew f3_2_20) _)); have f3_3_21 : w21.cell? ⟨O6, 3, none⟩ = some ((.slice A2 n2 c2)) := (by first | exact keeps hb f3_3_20 | exact keeps1 hb f3_3_20 | exact keeps hb (cell_alloc f3_3_20 _) | exact keeps hb (cell_alloc (cell_drew f3_3_20) _)); have f5_0_21 : w21.cell? ⟨O12, 0, none⟩ = some (.int .i64 ((pbD a0_0 a0_1 a0_2 x0_3 x0_4 a1_0_0 a1_0_1 a1_1 a2_0_0 a2_0_1 a2_1))) := (by first | exact keeps hb f5_0_20 | exact keeps1 hb f5_0_20 | exact keeps hb (cell_alloc f5_0_20 _) | exact keeps hb (cell_alloc (cell_drew f5_0_20) _)); have f5_1_21 : w21.cell? ⟨O12, 1, none⟩ = some (.int .i64 ((pbF a0_0 a0_1 a0_2 x0_3 x0_4 a1_0_0 a1_0_1 a1_1 a2_0_0 a2_0_1 a2_1))) := (by first | exact keeps hb f5_1_20 | exact keeps1 hb f5_1_20 | exact keeps hb (cell_alloc f5_1_20 _) | exact keeps hb (cell_alloc (cell_drew f5_1_20) _)); have f5_2_21 : w21.cell? ⟨O12, 2, none⟩ = some (.int .i64 ((pbL a0_0 a0_1 a0_2 x0_3 x0_4 a1_0_0 a1_0_1 a1_1 a2_0_0 a2_0_1 a2_1))) := (by first | exact keeps hb f5_2_20 | exact keeps1 hb f5_2_20 | exact keeps hb (cell_alloc f5_2_20 _) | exact keeps hb (cell_alloc (cell_drew f5_2_20) _)); have f5_3_21 : w21.cell? ⟨O12, 3, none⟩ = some ((.slice A5 n5 c5)) := (by first | exact keeps hb f5_3_20 | exact keeps1 hb f5_3_20 | exact keeps hb (cell_alloc f5_3_20 _) | exact keeps hb (cell_alloc (cell_drew f5_3_20) _)); (first | (have R2_21 := Lib.hid (Row.later R2_20.out hb)) | (have R2_21 := Lib.hid (Row.later1 R2_20.out hb)) | (have R2_21 := Lib.hid (Row.later (R2_20.out.alloc_ _) hb)) | (have R2_21 := Lib.hid (Row.later (Row.alloc_ (w := w20.drew) R2_20.out _) hb))); (first | (have R5_21 := Lib.hid (Row.later R5_20.out hb)) | (have R5_21 := Lib.hid (Row.later1 R5_20.out hb)) | (have R5_21 := Lib.hid (Row.later (R5_20.out.alloc_ _) hb)) | (have R5_21 := Lib.hid (Row.later (Row.alloc_ (w := w20.drew) R5_20.out _) hb))); have R8_21 : Hid (Row 2 w21 w19.heap.size (.slice A8 n8 c8) x0_3) := (by first | exact Lib.hid (Row.later R8_20.out hb) | exact Lib.hid (Row.later (R8_20.out.alloc_ _) hb)); have R9_21 : Hid (Row 2 w21 w19.heap.size (.slice A9 n9 c9) x0_4) := (by first | exact Lib.hid (Row.later R9_20.out hb) | exact Lib.hid (Row.later (R9_20.out.alloc_ _) hb)); (first | (have SZ21 := Lib.hid (SZ20.out.later hb)) | (have SZ21 := Lib.hid (mk_fresh1 hb)) | (have SZ21 := Lib.hid (mk_fresh2 hb)) | (have SZ21 := Lib.hid (mk_fresh hb)) | skip); (first | (have zl21 := SZ21.out.lt) | skip)))
        | (go_at_call 32; ((with_reducible refine (toEnd_any a2_0_0 a2_0_1 a2_1 _).mono ?_); rintro e w22 ⟨rfl, hb⟩; have zz22 : w21.heap.size ≤ w22.heap.size := (by have := hb.size; ((try simp at this) <;> omega)); have H22 := Lib.hid (show Below w.heap.size w w22 by repeat (first | (with_reducible exact Below.refl _ _) | (with_reducible assumption) | ((with_reducible refine bl_alloc ?_ _ ?_); (focus ((first | omega | (simp <;> omega)); done))) | ((with_reducible refine bl_set ?_ _ ?_); (focus ((first | omega | (simp <;> omega)); done))) | (with_reducible refine below_drewN ?_ _) | (with_reducible refine Below.drew ?_) | ((with_reducible refine bl_trans ?_ hb ?_); (focus ((first | omega | (simp <;> omega)); done))) | ((with_reducible refine bl_trans ?_ H21.out ?_); (focus ((first | omega | (simp <;> omega)); done))))); have HX22 := Lib.hid (show Below w19.heap.size w19 w22 by repeat (first | (with_reducible exact Below.refl _ _) | (with_reducible assumption) | ((with_reducible refine bl_alloc ?_ _ ?_); (focus ((first | omega | (simp <;> omega)); done))) | ((with_reducible refine bl_set ?_ _ ?_); (focus ((first | omega | (simp <;> omega)); done))) | (with_reducible refine below_drewN ?_ _) | (with_reducible refine Below.drew ?_) | ((with_reducible refine bl_trans ?_ hb ?_); (focus ((first | omega | (simp <;> omega)); done))) | ((with_reducible refine bl_trans ?_ HX21.out ?_); (focus ((first | omega | (simp <;> omega)); done))))); have f0_0_22 : w22.cell? ⟨w.heap.size, 0, none⟩ = some (.int .i64 a0_0) := (by first | exact keeps hb f0_0_21 | exact keeps1 hb f0_0_21 | exact keeps hb (cell_alloc f0_0_21 _) | exact keeps hb (cell_alloc (cell_drew f0_0_21) _)); have f0_1_22 : w22.cell? ⟨w.heap.size, 1, none⟩ = some (.int .i64 a0_1) := (by first | exact keeps hb f0_1_21 | exact keeps1 hb f0_1_21 | exact keeps hb (cell_alloc f0_1_21 _) | exact keeps hb (cell_alloc (cell_drew f0_1_21) _)); have f0_2_22 : w22.cell? ⟨w.heap.size, 2, none⟩ = some (.int .i64 a0_2) := (by first | exact keeps hb f0_2_21 | exact keeps1 hb f0_2_21 | exact keeps hb (cell_alloc f0_2_21 _) | exact keeps hb (cell_alloc (cell_drew f0_2_21) _)); have f0_3_22 : w22.cell? ⟨w.heap.size, 3, none⟩ = some (v0_3) := (by first | exact keeps hb f0_3_21 | exact keeps1 hb f0_3_21 | exact keeps hb (cell_alloc f0_3_21 _) | exact keeps hb (cell_alloc (cell_drew f0_3_21) _)); have f0_4_22 : w22.cell? ⟨w.heap.size, 4, none⟩ = some (v0_4) := (by first | exact keeps hb f0_4_21 | exact keeps1 hb f0_4_21 | exact keeps hb (cell_alloc f0_4_21 _) | exact keeps hb (cell_alloc (cell_drew f0_4_21) _)); have f1_0_22 : w22.cell? ⟨w.heap.size + 1, 0, none⟩ = some (.int .i64 a1_0_0) := (by first | exact keeps hb f1_0_21 | exact keeps1 hb f1_0_21 | exact keeps hb (cell_alloc f1_0_21 _) | exact keeps hb (cell_alloc (cell_drew f1_0_21) _)); have f1_1_22 : w22.cell? ⟨w.heap.size + 1, 1, none⟩ = some (.int .i64 a1_0_1) := (by first | exact keeps hb f1_1_21 | exact keeps1 hb f1_1_21 | exact keeps hb (cell_alloc f1_1_21 _) | exact keeps hb (cell_alloc (cell_drew f1_1_21) _)); have f1_2_22 : w22.cell? ⟨w.heap.size + 1, 2, none⟩ = some (.int .i64 a1_1) := (by first | exact keeps hb f1_2_21 | exact keeps1 hb f1_2_21 | exact keeps hb (cell_alloc f1_2_21 _) | exact keeps hb (cell_alloc (cell_drew f1_2_21) _)); have f2_0_22 : w22.cell? ⟨w.heap.size + 1 + 1, 0, none⟩ = some (.int .i64 a2_0_0) := (by first | exact keeps hb f2_0_21 | exact keeps1 hb f2_0_21 | exact keeps hb (cell_alloc f2_0_21 _) | exact keeps hb (cell_alloc (cell_drew f2_0_21) _)); have f2_1_22 : w22.cell? ⟨w.heap.size + 1 + 1, 1, none⟩ = some (.int .i64 a2_0_1) := (by first | exact keeps hb f2_1_21 | exact keeps1 hb f2_1_21 | exact keeps hb (cell_alloc f2_1_21 _) | exact keeps hb (cell_alloc (cell_drew f2_1_21) _)); have f2_2_22 : w22.cell? ⟨w.heap.size + 1 + 1, 2, none⟩ = some (.int .i64 a2_1) := (by first | exact keeps hb f2_2_21 | exact keeps1 hb f2_2_21 | exact keeps hb (cell_alloc f2_2_21 _) | exact keeps hb (cell_alloc (cell_drew f2_2_21) _)); have f3_0_22 : w22.cell? ⟨O6, 0, none⟩ = some (.int .i64 ((pbD a0_0 a0_1 a0_2 x0_3 x0_4 a1_0_0 a1_0_1 a1_1 a2_0_0 a2_0_1 a2_1))) := (by first | exact keeps hb f3_0_21 | exact keeps1 hb f3_0_21 | exact keeps hb (cell_alloc f3_0_21 _) | exact keeps hb (cell_alloc (cell_drew f3_0_21) _)); have f3_1_22 : w22.cell? ⟨O6, 1, none⟩ = some (.int .i64 ((pbF a0_0 a0_1 a0_2 x0_3 x0_4 a1_0_0 a1_0_1 a1_1 a2_0_0 a2_0_1 a2_1))) := (by first | exact keeps hb f3_1_21 | exact keeps1 hb f3_1_21 | exact keeps hb (cell_alloc f3_1_21 _) | exact keeps hb (cell_alloc (cell_drew f3_1_21) _)); have f3_2_22 : w22.cell? ⟨O6, 2, none⟩ = some (.int .i64 ((pbL a0_0 a0_1 a0_2 x0_3 x0_4 a1_0_0 a1_0_1 a1_1 a2_0_0 a2_0_1 a2_1))) := (by first | exact keeps hb f3_2_21 | exact keeps1 hb f3_2_21 | exact keeps hb (cell_alloc f3_2_21 _) | exact keeps hb (cell_alloc (cell_drew f3_2_21) _)); have f3_3_22 : w22.cell? ⟨O6, 3, none⟩ = some ((.slice A2 n2 c2)) := (by first | exact keeps hb f3_3_21 | exact keeps1 hb f3_3_21 | exact keeps hb (cell_alloc f3_3_21 _) | exact keeps hb (cell_alloc (cell_drew f3_3_21) _)); have f5_0_22 : w22.cell? ⟨O12, 0, none⟩ = some (.int .i64 ((pbD a0_0 a0_1 a0_2 x0_3 x0_4 a1_0_0 a1_0_1 a1_1 a2_0_0 a2_0_1 a2_1))) := (by first | exact keeps hb f5_0_21 | exact keeps1 hb f5_0_21 | exact keeps hb (cell_alloc f5_0_21 _) | exact keeps hb (cell_alloc (cell_drew f5_0_21) _)); have f5_1_22 : w22.cell? ⟨O12, 1, none⟩ = some (.int .i64 ((pbF a0_0 a0_1 a0_2 x0_3 x0_4 a1_0_0 a1_0_1 a1_1 a2_0_0 a2_0_1 a2_1))) := (by first | exact keeps hb f5_1_21 | exact keeps1 hb f5_1_21 | exact keeps hb (cell_alloc f5_1_21 _) | exact keeps hb (cell_alloc (cell_drew f5_1_21) _)); have f5_2_22 : w22.cell? ⟨O12, 2, none⟩ = some (.int .i64 ((pbL a0_0 a0_1 a0_2 x0_3 x0_4 a1_0_0 a1_0_1 a1_1 a2_0_0 a2_0_1 a2_1))) := (by first | exact keeps hb f5_2_21 | exact keeps1 hb f5_2_21 | exact keeps hb (cell_alloc f5_2_21 _) | exact keeps hb (cell_alloc (cell_drew f5_2_21) _)); have f5_3_22 : w22.cell? ⟨O12, 3, none⟩ = some ((.slice A5 n5 c5)) := (by first | exact keeps hb f5_3_21 | exact keeps1 hb f5_3_21 | exact keeps hb (cell_alloc f5_3_21 _) | exact keeps hb (cell_alloc (cell_drew f5_3_21) _)); (first | (have R2_22 := Lib.hid (Row.later R2_21.out hb)) | (have R2_22 := Lib.hid (Row.later1 R2_21.out hb)) | (have R2_22 := Lib.hid (Row.later (R2_21.out.alloc_ _) hb)) | (have R2_22 := Lib.hid (Row.later (Row.alloc_ (w := w21.drew) R2_21.out _) hb))); (first | (have R5_22 := Lib.hid (Row.later R5_21.out hb)) | (have R5_22 := Lib.hid (Row.later1 R5_21.out hb)) | (have R5_22 := Lib.hid (Row.later (R5_21.out.alloc_ _) hb)) | (have R5_22 := Lib.hid (Row.later (Row.alloc_ (w := w21.drew) R5_21.out _) hb))); have R8_22 : Hid (Row 2 w22 w19.heap.size (.slice A8 n8 c8) x0_3) := (by first | exact Lib.hid (Row.later R8_21.out hb) | exact Lib.hid (Row.later (R8_21.out.alloc_ _) hb)); have R9_22 : Hid (Row 2 w22 w19.heap.size (.slice A9 n9 c9) x0_4) := (by first | exact Lib.hid (Row.later R9_21.out hb) | exact Lib.hid (Row.later (R9_21.out.alloc_ _) hb)); (first | (have SZ22 := Lib.hid (SZ21.out.later hb)) | (have SZ22 := Lib.hid (mk_fresh1 hb)) | (have SZ22 := Lib.hid (mk_fresh2 hb)) | (have SZ22 := Lib.hid (mk_fresh hb)) | skip); (first | (have zl22 := SZ22.out.lt) | skip)))
        | (go_at_call 36; ((with_reducible refine (impl_any _ a0_0 ia0_0 a0_1 ia0_1 a0_2 ia0_2 _ x0_3 _ (by first | exact R8_22.out | exact R8_22.out.alloc_ _) ix0_3 _ x0_4 _ (by first | exact R9_22.out | exact R9_22.out.alloc_ _) ix0_4 a1_0_0 ia1_0_0 a1_0_1 ia1_0_1 a1_1 ia1_1 a2_0_0 ia2_0_0 a2_0_1 ia2_0_1 a2_1 ia2_1).mono ?_); rintro e w23 ⟨A10, n10, c10, rfl, hr10, hb⟩; have zz23 : w22.heap.size ≤ w23.heap.size := (by have := hb.size; ((try simp at this) <;> omega)); have H23 := Lib.hid (show Below w.heap.size w w23 by repeat (first | (with_reducible exact Below.refl _ _) | (with_reducible assumption) | ((with_reducible refine bl_alloc ?_ _ ?_); (focus ((first | omega | (simp <;> omega)); done))) | ((with_reducible refine bl_set ?_ _ ?_); (focus ((first | omega | (simp <;> omega)); done))) | (with_reducible refine below_drewN ?_ _) | (with_reducible refine Below.drew ?_) | ((with_reducible refine bl_trans ?_ hb ?_); (focus ((first | omega | (simp <;> omega)); done))) | ((with_reducible refine bl_trans ?_ H22.out ?_); (focus ((first | omega | (simp <;> omega)); done))))); have HX23 := Lib.hid (show Below w19.heap.size w19 w23 by repeat (first | (with_reducible exact Below.refl _ _) | (with_reducible assumption) | ((with_reducible refine bl_alloc ?_ _ ?_); (focus ((first | omega | (simp <;> omega)); done))) | ((with_reducible refine bl_set ?_ _ ?_); (focus ((first | omega | (simp <;> omega)); done))) | (with_reducible refine below_drewN ?_ _) | (with_reducible refine Below.drew ?_) | ((with_reducible refine bl_trans ?_ hb ?_); (focus ((first | omega | (simp <;> omega)); done))) | ((with_reducible refine bl_trans ?_ HX22.out ?_); (focus ((first | omega | (simp <;> omega)); done))))); have f0_0_23 : w23.cell? ⟨w.heap.size, 0, none⟩ = some (.int .i64 a0_0) := (by first | exact keeps hb f0_0_22 | exact keeps1 hb f0_0_22 | exact keeps hb (cell_alloc f0_0_22 _) | exact keeps hb (cell_alloc (cell_drew f0_0_22) _)); have f0_1_23 : w23.cell? ⟨w.heap.size, 1, none⟩ = some (.int .i64 a0_1) := (by first | exact keeps hb f0_1_22 | exact keeps1 hb f0_1_22 | exact keeps hb (cell_alloc f0_1_22 _) | exact keeps hb (cell_alloc (cell_drew f0_1_22) _)); have f0_2_23 : w23.cell? ⟨w.heap.size, 2, none⟩ = some (.int .i64 a0_2) := (by first | exact keeps hb f0_2_22 | exact keeps1 hb f0_2_22 | exact keeps hb (cell_alloc f0_2_22 _) | exact keeps hb (cell_alloc (cell_drew f0_2_22) _)); have f0_3_23 : w23.cell? ⟨w.heap.size, 3, none⟩ = some (v0_3) := (by first | exact keeps hb f0_3_22 | exact keeps1 hb f0_3_22 | exact keeps hb (cell_alloc f0_3_22 _) | exact keeps hb (cell_alloc (cell_drew f0_3_22) _)); have f0_4_23 : w23.cell? ⟨w.heap.size, 4, none⟩ = some (v0_4) := (by first | exact keeps hb f0_4_22 | exact keeps1 hb f0_4_22 | exact keeps hb (cell_alloc f0_4_22 _) | exact keeps hb (cell_alloc (cell_drew f0_4_22) _)); have f1_0_23 : w23.cell? ⟨w.heap.size + 1, 0, none⟩ = some (.int .i64 a1_0_0) := (by first | exact keeps hb f1_0_22 | exact keeps1 hb f1_0_22 | exact keeps hb (cell_alloc f1_0_22 _) | exact keeps hb (cell_alloc (cell_drew f1_0_22) _)); have f1_1_23 : w23.cell? ⟨w.heap.size + 1, 1, none⟩ = some (.int .i64 a1_0_1) := (by first | exact keeps hb f1_1_22 | exact keeps1 hb f1_1_22 | exact keeps hb (cell_alloc f1_1_22 _) | exact keeps hb (cell_alloc (cell_drew f1_1_22) _)); have f1_2_23 : w23.cell? ⟨w.heap.size + 1, 2, none⟩ = some (.int .i64 a1_1) := (by first | exact keeps hb f1_2_22 | exact keeps1 hb f1_2_22 | exact keeps hb (cell_alloc f1_2_22 _) | exact keeps hb (cell_alloc (cell_drew f1_2_22) _)); have f2_0_23 : w23.cell? ⟨w.heap.size + 1 + 1, 0, none⟩ = some (.int .i64 a2_0_0) := (by first | exact keeps hb f2_0_22 | exact keeps1 hb f2_0_22 | exact keeps hb (cell_alloc f2_0_22 _) | exact keeps hb (cell_alloc (cell_drew f2_0_22) _)); have f2_1_23 : w23.cell? ⟨w.heap.size + 1 + 1, 1, none⟩ = some (.int .i64 a2_0_1) := (by first | exact keeps hb f2_1_22 | exact keeps1 hb f2_1_22 | exact keeps hb (cell_alloc f2_1_22 _) | exact keeps hb (cell_alloc (cell_drew f2_1_22) _)); have f2_2_23 : w23.cell? ⟨w.heap.size + 1 + 1, 2, none⟩ = some (.int .i64 a2_1) := (by first | exact keeps hb f2_2_22 | exact keeps1 hb f2_2_22 | exact keeps hb (cell_alloc f2_2_22 _) | exact keeps hb (cell_alloc (cell_drew f2_2_22) _)); have f3_0_23 : w23.cell? ⟨O6, 0, none⟩ = some (.int .i64 ((pbD a0_0 a0_1 a0_2 x0_3 x0_4 a1_0_0 a1_0_1 a1_1 a2_0_0 a2_0_1 a2_1))) := (by first | exact keeps hb f3_0_22 | exact keeps1 hb f3_0_22 | exact keeps hb (cell_alloc f3_0_22 _) | exact keeps hb (cell_alloc (cell_drew f3_0_22) _)); have f3_1_23 : w23.cell? ⟨O6, 1, none⟩ = some (.int .i64 ((pbF a0_0 a0_1 a0_2 x0_3 x0_4 a1_0_0 a1_0_1 a1_1 a2_0_0 a2_0_1 a2_1))) := (by first | exact keeps hb f3_1_22 | exact keeps1 hb f3_1_22 | exact keeps hb (cell_alloc f3_1_22 _) | exact keeps hb (cell_alloc (cell_drew f3_1_22) _)); have f3_2_23 : w23.cell? ⟨O6, 2, none⟩ = some (.int .i64 ((pbL a0_0 a0_1 a0_2 x0_3 x0_4 a1_0_0 a1_0_1 a1_1 a2_0_0 a2_0_1 a2_1))) := (by first | exact keeps hb f3_2_22 | exact keeps1 hb f3_2_22 | exact keeps hb (cell_alloc f3_2_22 _) | exact keeps hb (cell_alloc (cell_drew f3_2_22) _)); have f3_3_23 : w23.cell? ⟨O6, 3, none⟩ = some ((.slice A2 n2 c2)) := (by first | exact keeps hb f3_3_22 | exact keeps1 hb f3_3_22 | exact keeps hb (cell_alloc f3_3_22 _) | exact keeps hb (cell_alloc (cell_drew f3_3_22) _)); have f5_0_23 : w23.cell? ⟨O12, 0, none⟩ = some (.int .i64 ((pbD a0_0 a0_1 a0_2 x0_3 x0_4 a1_0_0 a1_0_1 a1_1 a2_0_0 a2_0_1 a2_1))) := (by first | exact keeps hb f5_0_22 | exact keeps1 hb f5_0_22 | exact keeps hb (cell_alloc f5_0_22 _) | exact keeps hb (cell_alloc (cell_drew f5_0_22) _)); have f5_1_23 : w23.cell? ⟨O12, 1, none⟩ = some (.int .i64 ((pbF a0_0 a0_1 a0_2 x0_3 x0_4 a1_0_0 a1_0_1 a1_1 a2_0_0 a2_0_1 a2_1))) := (by first | exact keeps hb f5_1_22 | exact keeps1 hb f5_1_22 | exact keeps hb (cell_alloc f5_1_22 _) | exact keeps hb (cell_alloc (cell_drew f5_1_22) _)); have f5_2_23 : w23.cell? ⟨O12, 2, none⟩ = some (.int .i64 ((pbL a0_0 a0_1 a0_2 x0_3 x0_4 a1_0_0 a1_0_1 a1_1 a2_0_0 a2_0_1 a2_1))) := (by first | exact keeps hb f5_2_22 | exact keeps1 hb f5_2_22 | exact keeps hb (cell_alloc f5_2_22 _) | exact keeps hb (cell_alloc (cell_drew f5_2_22) _)); have f5_3_23 : w23.cell? ⟨O12, 3, none⟩ = some ((.slice A5 n5 c5)) := (by first | exact keeps hb f5_3_22 | exact keeps1 hb f5_3_22 | exact keeps hb (cell_alloc f5_3_22 _) | exact keeps hb (cell_alloc (cell_drew f5_3_22) _)); (first | (have R2_23 := Lib.hid (Row.later R2_22.out hb)) | (have R2_23 := Lib.hid (Row.later1 R2_22.out hb)) | (have R2_23 := Lib.hid (Row.later (R2_22.out.alloc_ _) hb)) | (have R2_23 := Lib.hid (Row.later (Row.alloc_ (w := w22.drew) R2_22.out _) hb))); (first | (have R5_23 := Lib.hid (Row.later R5_22.out hb)) | (have R5_23 := Lib.hid (Row.later1 R5_22.out hb)) | (have R5_23 := Lib.hid (Row.later (R5_22.out.alloc_ _) hb)) | (have R5_23 := Lib.hid (Row.later (Row.alloc_ (w := w22.drew) R5_22.out _) hb))); have R10_23 := Lib.hid (Row.base_le (b' := w19.heap.size) hr10 (by first | omega | (simp <;> omega))); have RL10 := Lib.hid (show ∀ g, Value.ownBlock (.slice A10 n10 c10) = some g → w22.heap.size ≤ g ∧ g < w23.heap.size from fun g h => by have l1 := hr10.lt g h; ((try simp at l1) <;> omega)); (first | (have SZ23 := Lib.hid (SZ22.out.later hb)) | (have SZ23 := Lib.hid (mk_fresh1 hb)) | (have SZ23 := Lib.hid (mk_fresh2 hb)) | (have SZ23 := Lib.hid (mk_fresh hb)) | skip); (first | (have zl23 := SZ23.out.lt) | skip); (first | (have SZZ := SZ23; have z0_ := SZZ.out.cell 0 _ rfl; have z1_ := SZZ.out.cell 1 _ rfl; have z2_ := SZZ.out.cell 2 _ rfl; have z3_ := SZZ.out.cell 3 _ rfl; have zf_ := SZZ.out.free; have zl_ := SZZ.out.lt) | skip))))
    all_goals (go_wp2_with fail; go_meet)
    all_goals skip
    all_goals first
      | exact ⟨_, _, _, _, rfl, rfl, SInv.fresh _ _ _, (show _ ≤ _ by omega), (R10_23.out.alloc_ _), (fun q => by have h1 := hr10.lt _ q; ((try simp at h1) <;> omega)), bl_alloc (by omega) _ HX23.out⟩
      | exact ⟨_, _, _, _, rfl, rfl, (Lib.hid (by simpa using ((((SZZ.out.set 0 (by simp) (.int .i64 ((pbD a0_0 a0_1 a0_2 x0_3 x0_4 a1_0_0 a1_0_1 a1_1 a2_0_0 a2_0_1 a2_1)))).set 1 (by simp) (.int .i64 ((pbF a0_0 a0_1 a0_2 x0_3 x0_4 a1_0_0 a1_0_1 a1_1 a2_0_0 a2_0_1 a2_1)))).set 2 (by simp) (.int .i64 ((pbL a0_0 a0_1 a0_2 x0_3 x0_4 a1_0_0 a1_0_1 a1_1 a2_0_0 a2_0_1 a2_1)))).set 3 (by simp) ((.slice A10 n10 c10))))), (show _ ≤ _ by omega), (Lib.hid (by repeat (first | (with_reducible exact R10_23.out) | (with_reducible refine Row.other ?_ (fun q => by have h1 := hr10.lt _ q; ((try simp at h1) <;> omega)) _)))), (fun q => by have h1 := hr10.lt _ q; ((try simp at h1) <;> omega)), (Lib.hid (by repeat (first | (with_reducible exact Below.refl _ _) | (with_reducible assumption) | ((with_reducible refine bl_alloc ?_ _ ?_); (focus ((first | omega | (simp <;> omega)); done))) | ((with_reducible refine bl_set ?_ _ ?_); (focus ((first | omega | (simp <;> omega)); done))) | (with_reducible refine below_drewN ?_ _) | (with_reducible refine Below.drew ?_) | ((with_reducible refine bl_trans ?_ HX23.out ?_); (focus ((first | omega | (simp <;> omega)); done))))))⟩
  obtain ⟨O24, A10, n10, c10, hpp, hcc, hs, ho, hr10, ho10, hbx⟩ := hcut
  subst hpp hcc
  obtain ⟨w24, hw_⟩ : ∃ x, x = wc := ⟨_, rfl⟩
  rw [← hw_] at hs hr10 hbx ⊢
  clear hw_
  have hb := hbx.out
  have zz24 : w19.heap.size ≤ w24.heap.size := hb.size
  have H24 := Lib.hid (show Below w.heap.size w w24 by repeat (first | (with_reducible exact Below.refl _ _) | (with_reducible assumption) | ((with_reducible refine bl_alloc ?_ _ ?_); (focus ((first | omega | (simp <;> omega)); done))) | ((with_reducible refine bl_set ?_ _ ?_); (focus ((first | omega | (simp <;> omega)); done))) | (with_reducible refine below_drewN ?_ _) | (with_reducible refine Below.drew ?_) | ((with_reducible refine bl_trans ?_ hb ?_); (focus ((first | omega | (simp <;> omega)); done))) | ((with_reducible refine bl_trans ?_ H19.out ?_); (focus ((first | omega | (simp <;> omega)); done)))))
  have lo24 : O24 < w24.heap.size := hs.out.lt
  have lp24 : w19.heap.size ≤ O24 := ho.out
  have f0_0_24 := keeps hb f0_0_19
  have f0_1_24 := keeps hb f0_1_19
  have f0_2_24 := keeps hb f0_2_19
  have f0_3_24 := keeps hb f0_3_19
  have f0_4_24 := keeps hb f0_4_19
  have g0_24 : w.heap.size < w24.heap.size := block_of_cell f0_0_24
  have f1_0_24 := keeps hb f1_0_19
  have f1_1_24 := keeps hb f1_1_19
  have f1_2_24 := keeps hb f1_2_19
  have g1_24 : w.heap.size + 1 < w24.heap.size := block_of_cell f1_0_24
  have f2_0_24 := keeps hb f2_0_19
  have f2_1_24 := keeps hb f2_1_19
  have f2_2_24 := keeps hb f2_2_19
  have g2_24 : w.heap.size + 1 + 1 < w24.heap.size := block_of_cell f2_0_24
  have f3_0_24 := keeps hb f3_0_19
  have f3_1_24 := keeps hb f3_1_19
  have f3_2_24 := keeps hb f3_2_19
  have f3_3_24 := keeps hb f3_3_19
  have g3_24 : O6 < w24.heap.size := block_of_cell f3_0_24
  have f5_0_24 := keeps hb f5_0_19
  have f5_1_24 := keeps hb f5_1_19
  have f5_2_24 := keeps hb f5_2_19
  have f5_3_24 := keeps hb f5_3_19
  have g5_24 : O12 < w24.heap.size := block_of_cell f5_0_24
  have R2_24 := Lib.hid (Row.later R2_19.out hb)
  have R5_24 := Lib.hid (Row.later R5_19.out hb)
  have f6_0_24 := hs.out.cell 0 _ rfl
  have f6_1_24 := hs.out.cell 1 _ rfl
  have f6_2_24 := hs.out.cell 2 _ rfl
  have f6_3_24 := hs.out.cell 3 _ rfl
  have g6_24 : O24 < w24.heap.size := hs.out.lt
  have R10_24 := Lib.hid hr10.out
  have RL10 := Lib.hid (show ∀ g, Value.ownBlock (.slice A10 n10 c10) = some g → w19.heap.size ≤ g ∧ g < w24.heap.size from fun g h => hr10.out.lt g h)
  have HO10 := ho10
  clear hbx ho f0_0_19 f0_1_19 f0_2_19 f0_3_19 f0_4_19 g0_19 f1_0_19 f1_1_19 f1_2_19 g1_19 f2_0_19 f2_1_19 f2_2_19 g2_19 f3_0_19 f3_1_19 f3_2_19 f3_3_19 g3_19 f5_0_19 f5_1_19 f5_2_19 f5_3_19 g5_19 R2_19 R5_19 hs hr10 ho10 hb H19
  go_wp2_with fail
  refine (eqProfile_any ((pbD a0_0 a0_1 a0_2 x0_3 x0_4 a1_0_0 a1_0_1 a1_1 a2_0_0 a2_0_1 a2_1)) ((pbF a0_0 a0_1 a0_2 x0_3 x0_4 a1_0_0 a1_0_1 a1_1 a2_0_0 a2_0_1 a2_1)) ((pbL a0_0 a0_1 a0_2 x0_3 x0_4 a1_0_0 a1_0_1 a1_1 a2_0_0 a2_0_1 a2_1)) _ _ _ ((pbH a0_0 a0_1 a0_2 x0_3 x0_4 a1_0_0 a1_0_1 a1_1 a2_0_0 a2_0_1 a2_1)) _ _ R10_24.out R2_24.out).mono ?_
  rintro e w25 ⟨rfl, hb⟩
  have zz25 : w24.heap.size ≤ w25.heap.size := (by have := hb.size; ((try simp at this) <;> omega))
  have H25 := Lib.hid (show Below w.heap.size w w25 by repeat (first | (with_reducible exact Below.refl _ _) | (with_reducible assumption) | ((with_reducible refine bl_alloc ?_ _ ?_); (focus ((first | omega | (simp <;> omega)); done))) | ((with_reducible refine bl_set ?_ _ ?_); (focus ((first | omega | (simp <;> omega)); done))) | (with_reducible refine below_drewN ?_ _) | (with_reducible refine Below.drew ?_) | ((with_reducible refine bl_trans ?_ hb ?_); (focus ((first | omega | (simp <;> omega)); done))) | ((with_reducible refine bl_trans ?_ H24.out ?_); (focus ((first | omega | (simp <;> omega)); done)))))
  have f5_0_25 := keeps hb f5_0_24
  have f5_1_25 := keeps hb f5_1_24
  have f5_2_25 := keeps hb f5_2_24
  have f5_3_25 := keeps hb f5_3_24
  have g5_25 : O12 < w25.heap.size := block_of_cell f5_0_25
  have R5_25 := Lib.hid (Row.later R5_24.out hb)
  clear hb f0_0_24 f0_1_24 f0_2_24 f0_3_24 f0_4_24 g0_24 f1_0_24 f1_1_24 f1_2_24 g1_24 f2_0_24 f2_1_24 f2_2_24 g2_24 f3_0_24 f3_1_24 f3_2_24 f3_3_24 g3_24 f5_0_24 f5_1_24 f5_2_24 f5_3_24 g5_24 f6_0_24 f6_1_24 f6_2_24 f6_3_24 g6_24 R2_24 R5_24 R10_24 H24
  go_wp2_with fail
  refine (heldProfile_any ((pbD a0_0 a0_1 a0_2 x0_3 x0_4 a1_0_0 a1_0_1 a1_1 a2_0_0 a2_0_1 a2_1)) ((pbF a0_0 a0_1 a0_2 x0_3 x0_4 a1_0_0 a1_0_1 a1_1 a2_0_0 a2_0_1 a2_1)) ((pbL a0_0 a0_1 a0_2 x0_3 x0_4 a1_0_0 a1_0_1 a1_1 a2_0_0 a2_0_1 a2_1)) _ _ _ _ _ R5_25.out (by omega) (by omega)).mono ?_
  rintro e w26 ⟨rfl, hb⟩
  have zz26 : w25.heap.size ≤ w26.heap.size := (by have := hb.size; ((try simp at this) <;> omega))
  have H26 := Lib.hid (show Below w.heap.size w w26 by repeat (first | (with_reducible exact Below.refl _ _) | (with_reducible assumption) | ((with_reducible refine bl_alloc ?_ _ ?_); (focus ((first | omega | (simp <;> omega)); done))) | ((with_reducible refine bl_set ?_ _ ?_); (focus ((first | omega | (simp <;> omega)); done))) | (with_reducible refine below_drewN ?_ _) | (with_reducible refine Below.drew ?_) | ((with_reducible refine bl_trans ?_ hb ?_); (focus ((first | omega | (simp <;> omega)); done))) | ((with_reducible refine bl_trans ?_ H25.out ?_); (focus ((first | omega | (simp <;> omega)); done)))))
  clear hb f5_0_25 f5_1_25 f5_2_25 f5_3_25 g5_25 R5_25 H25
  go_wp2_with fail
  go_ret
  exact ⟨rfl, (by repeat (first | (with_reducible exact Below.refl _ _) | (with_reducible assumption) | ((with_reducible refine bl_alloc ?_ _ ?_); (focus ((first | omega | (simp <;> omega)); done))) | ((with_reducible refine bl_set ?_ _ ?_); (focus ((first | omega | (simp <;> omega)); done))) | (with_reducible refine below_drewN ?_ _) | (with_reducible refine Below.drew ?_) | ((with_reducible refine bl_trans ?_ H26.out ?_); (focus ((first | omega | (simp <;> omega)); done)))))⟩
end Go.Proofs.Ytedpdcdmemenhaa.fnExactProfileBetween
