/-
  The walk of FnExactPathText: it returns true, and of what was there nothing has turned. The conditions are what its arguments' readings give.
-/
import Derived.Test.YtboglgkaelbdcaaDoorRows
import Derived.Test.YtboglgkaelbdcaaDoorLib
import Derived.Test.YtboglgkaelbdcaaDoorShelf
import Derived.Test.YtboglgkaelbdcaaDoorDec
import Derived.Test.YtboglgkaelbdcaaDoorPow
import Derived.Test.YtboglgkaelbdcaaDoorInt
import Derived.Test.YtboglgkaelbdcaaDoorOwn
import Derived.Test.YtboglgkaelbdcaaDoorField
import Derived.Test.YtboglgkaelbdcaaDoorGRow
import Derived.Test.YtboglgkaelbdcaaDoorDecS
import Derived.Test.YtboglgkaelbdcaaDoorDecW
import Derived.Test.YtboglgkaelbdcaaDoorListT
import Derived.Outline
import Derived.Deep.RegionHeld3
import Derived.Deep.DrawnRows
import Derived.Laws.Concat
namespace Go.Proofs.YtboglgkaelbdcaaDoor.fnExactPathText
open Go.RowKit Go.ChangeShapes Go.WideShapes Go.ChangeAt
set_option linter.unusedVariables false
set_option linter.unusedSimpArgs false

attribute [local go_sem ↓] Go.wp_at_zero Go.wp_at_succ
def pathL (a0 a1 a2 a3 a4 a5 a6 a7 : Int) : List (List UInt8 × Int) := [([100, 105, 115, 116, 97, 110, 99, 101], a0), ([98, 101, 97, 114, 105, 110, 103], a1), ([101, 108, 101, 118, 97, 116, 105, 111, 110], a2), ([102, 114, 101, 101], a3), ([103, 97, 115], a4), ([100, 105, 102, 102, 114, 97, 99, 116, 105, 111, 110], a5), ([99, 108, 117, 116, 116, 101, 114], a6), ([116, 111, 116, 97, 108], a7)]
def stepT (p : List UInt8 × Int) : List UInt8 := p.1 ++ [32] ++ Lib.itoa p.2 ++ [32]
def pathK (ps : List (List UInt8 × Int)) (k : Nat) : List UInt8 := ((ps.take k).map stepT).flatten
def pathT (a0 a1 a2 a3 a4 a5 a6 a7 : Int) (c : Bool) : List UInt8 := pathK (pathL a0 a1 a2 a3 a4 a5 a6 a7) 8 ++ (if c = true then [99, 108, 101, 97, 114] else [111, 98, 115, 116, 114, 117, 99, 116, 101, 100])
theorem pathK_zero (ps : List (List UInt8 × Int)) : pathK ps 0 = [] := by unfold pathK; rw [List.take_zero]; rfl
theorem pathK_next {ps : List (List UInt8 × Int)} {k : Nat} (h : k < ps.length) : pathK ps (k + 1) = pathK ps k ++ stepT (ps.getD k ([], 0)) := by
  unfold pathK
  rw [List.take_succ_eq_append_getElem h, List.map_append, List.flatten_append]
  simp [h]
theorem itoa_len {n : Int} (h : In64 n) : (Lib.itoa n).length ≤ 21 := by
  obtain ⟨h0, h1⟩ := h
  exact Lib.itoa_length_le n (by omega) (by omega)
def okP (p : List UInt8 × Int) : Prop := p.1.length ≤ 11 ∧ In64 p.2
theorem pathK_len {ps : List (List UInt8 × Int)} (hb : ∀ k, k < ps.length → okP (ps.getD k ([], 0))) : ∀ k, k ≤ ps.length → (pathK ps k).length ≤ 34 * k
  | 0, _ => by rw [pathK_zero]; exact Nat.le_refl _
  | k + 1, h => by
    obtain ⟨h1, h2⟩ := hb k (by omega)
    have h3 := itoa_len h2
    have := pathK_len hb k (by omega)
    rw [pathK_next (by omega)]
    unfold stepT
    simp only [List.length_append, List.length_cons, List.length_nil]
    omega
theorem pathL_ok {a0 a1 a2 a3 a4 a5 a6 a7 : Int} (h0 : In64 a0) (h1 : In64 a1) (h2 : In64 a2) (h3 : In64 a3) (h4 : In64 a4) (h5 : In64 a5) (h6 : In64 a6) (h7 : In64 a7) : ∀ k, k < 8 → okP ((pathL a0 a1 a2 a3 a4 a5 a6 a7).getD k ([], 0)) := by
  intro k hk
  match k, hk with
  | 0, _ => exact ⟨by simp [pathL], h0⟩
  | 1, _ => exact ⟨by simp [pathL], h1⟩
  | 2, _ => exact ⟨by simp [pathL], h2⟩
  | 3, _ => exact ⟨by simp [pathL], h3⟩
  | 4, _ => exact ⟨by simp [pathL], h4⟩
  | 5, _ => exact ⟨by simp [pathL], h5⟩
  | 6, _ => exact ⟨by simp [pathL], h6⟩
  | 7, _ => exact ⟨by simp [pathL], h7⟩
theorem path_spec (a0 a1 a2 a3 a4 a5 a6 a7 : Int) : pathK (pathL a0 a1 a2 a3 a4 a5 a6 a7) 8 = [100, 105, 115, 116, 97, 110, 99, 101, 32] ++ Lib.itoa a0 ++ [32, 98, 101, 97, 114, 105, 110, 103, 32] ++ Lib.itoa a1 ++ [32, 101, 108, 101, 118, 97, 116, 105, 111, 110, 32] ++ Lib.itoa a2 ++ [32, 102, 114, 101, 101, 32] ++ Lib.itoa a3 ++ [32, 103, 97, 115, 32] ++ Lib.itoa a4 ++ [32, 100, 105, 102, 102, 114, 97, 99, 116, 105, 111, 110, 32] ++ Lib.itoa a5 ++ [32, 99, 108, 117, 116, 116, 101, 114, 32] ++ Lib.itoa a6 ++ [32, 116, 111, 116, 97, 108, 32] ++ Lib.itoa a7 ++ [32] := by
  simp [pathK, pathL, stepT, List.append_assoc]
theorem toPath_any (w : World) (a0 : Int) (a1 : Int) (a2 : Int) (a3 : Int) (a4 : Int) (a5 : Int) (a6 : Int) (a7 : Int) (c : Bool) :
    Calls Tryd.prog 11 #[.agg #[.int .i64 a0, .int .i64 a1, .int .i64 a2, .int .i64 a3, .int .i64 a4, .int .i64 a5, .int .i64 a6, .int .i64 a7, .bool c]] w fun e w' => e = .returned (.agg #[.int .i64 a0, .int .i64 a1, .int .i64 a2, .int .i64 a3, .int .i64 a4, .int .i64 a5, .int .i64 a6, .int .i64 a7, .bool c]) ∧ Below w.heap.size w w' := by
  go_enter Tryd.func11, Tryd.ntmps11
  go_wp2_with fail
  refine bodyPost_ret (v := .agg #[.int .i64 a0, .int .i64 a1, .int .i64 a2, .int .i64 a3, .int .i64 a4, .int .i64 a5, .int .i64 a6, .int .i64 a7, .bool c]) (by simp [results, Tryd.results11, go_sem]) rfl ?_
  exact ⟨rfl, by repeat (first | (with_reducible exact Below.refl _ _) | (with_reducible assumption) | ((with_reducible refine bl_alloc ?_ _ ?_); (focus ((first | omega | (simp <;> omega)); done))) | ((with_reducible refine bl_set ?_ _ ?_); (focus ((first | omega | (simp <;> omega)); done))) | (with_reducible refine below_drewN ?_ _) | (with_reducible refine Below.drew ?_))⟩
set_option maxRecDepth 20000 in
set_option maxHeartbeats 8000000 in
theorem spec_any (w : World) (a0 : Int) (ia0 : In64 a0) (a1 : Int) (ia1 : In64 a1) (a2 : Int) (ia2 : In64 a2) (a3 : Int) (ia3 : In64 a3) (a4 : Int) (ia4 : In64 a4) (a5 : Int) (ia5 : In64 a5) (a6 : Int) (ia6 : In64 a6) (a7 : Int) (ia7 : In64 a7) (c : Bool) :
    Calls Tryd.prog 10 #[.agg #[.int .i64 a0, .int .i64 a1, .int .i64 a2, .int .i64 a3, .int .i64 a4, .int .i64 a5, .int .i64 a6, .int .i64 a7, .bool c]] w fun e w' => e = .returned (.string ⟨(pathT a0 a1 a2 a3 a4 a5 a6 a7 c).toArray⟩) ∧ Below w.heap.size w w' := by
  have u0 := itoa_len ia0
  have HC0 : Hid (∀ W : World, Calls Tryd.prog 40 #[.int .i64 a0] W fun e w' => e = .returned (.string ⟨(Lib.itoa a0).toArray⟩) ∧ Below W.heap.size W w') := fun W => l01DecW_any W a0 ia0.1 ia0.2
  have u1 := itoa_len ia1
  have HC1 : Hid (∀ W : World, Calls Tryd.prog 40 #[.int .i64 a1] W fun e w' => e = .returned (.string ⟨(Lib.itoa a1).toArray⟩) ∧ Below W.heap.size W w') := fun W => l01DecW_any W a1 ia1.1 ia1.2
  have u2 := itoa_len ia2
  have HC2 : Hid (∀ W : World, Calls Tryd.prog 40 #[.int .i64 a2] W fun e w' => e = .returned (.string ⟨(Lib.itoa a2).toArray⟩) ∧ Below W.heap.size W w') := fun W => l01DecW_any W a2 ia2.1 ia2.2
  have u3 := itoa_len ia3
  have HC3 : Hid (∀ W : World, Calls Tryd.prog 40 #[.int .i64 a3] W fun e w' => e = .returned (.string ⟨(Lib.itoa a3).toArray⟩) ∧ Below W.heap.size W w') := fun W => l01DecW_any W a3 ia3.1 ia3.2
  have u4 := itoa_len ia4
  have HC4 : Hid (∀ W : World, Calls Tryd.prog 40 #[.int .i64 a4] W fun e w' => e = .returned (.string ⟨(Lib.itoa a4).toArray⟩) ∧ Below W.heap.size W w') := fun W => l01DecW_any W a4 ia4.1 ia4.2
  have u5 := itoa_len ia5
  have HC5 : Hid (∀ W : World, Calls Tryd.prog 40 #[.int .i64 a5] W fun e w' => e = .returned (.string ⟨(Lib.itoa a5).toArray⟩) ∧ Below W.heap.size W w') := fun W => l01DecW_any W a5 ia5.1 ia5.2
  have u6 := itoa_len ia6
  have HC6 : Hid (∀ W : World, Calls Tryd.prog 40 #[.int .i64 a6] W fun e w' => e = .returned (.string ⟨(Lib.itoa a6).toArray⟩) ∧ Below W.heap.size W w') := fun W => l01DecW_any W a6 ia6.1 ia6.2
  have u7 := itoa_len ia7
  have HC7 : Hid (∀ W : World, Calls Tryd.prog 40 #[.int .i64 a7] W fun e w' => e = .returned (.string ⟨(Lib.itoa a7).toArray⟩) ∧ Below W.heap.size W w') := fun W => l01DecW_any W a7 ia7.1 ia7.2
  have HH : Hid (pathT a0 a1 a2 a3 a4 a5 a6 a7 c = [100, 105, 115, 116, 97, 110, 99, 101, 32] ++ Lib.itoa a0 ++ [32, 98, 101, 97, 114, 105, 110, 103, 32] ++ Lib.itoa a1 ++ [32, 101, 108, 101, 118, 97, 116, 105, 111, 110, 32] ++ Lib.itoa a2 ++ [32, 102, 114, 101, 101, 32] ++ Lib.itoa a3 ++ [32, 103, 97, 115, 32] ++ Lib.itoa a4 ++ [32, 100, 105, 102, 102, 114, 97, 99, 116, 105, 111, 110, 32] ++ Lib.itoa a5 ++ [32, 99, 108, 117, 116, 116, 101, 114, 32] ++ Lib.itoa a6 ++ [32, 116, 111, 116, 97, 108, 32] ++ Lib.itoa a7 ++ [32] ++ (if c = true then [99, 108, 101, 97, 114] else [111, 98, 115, 116, 114, 117, 99, 116, 101, 100])) := by show _ = _; unfold pathT; rw [path_spec]
  rw [HH.out]
  cases c with
  | true =>
    clear HH ia0 ia1 ia2 ia3 ia4 ia5 ia6 ia7
    obtain ⟨D0, hD0⟩ : ∃ D, D = Lib.itoa a0 := ⟨_, rfl⟩
    rw [← hD0] at u0 HC0 ⊢
    clear hD0
    obtain ⟨D1, hD1⟩ : ∃ D, D = Lib.itoa a1 := ⟨_, rfl⟩
    rw [← hD1] at u1 HC1 ⊢
    clear hD1
    obtain ⟨D2, hD2⟩ : ∃ D, D = Lib.itoa a2 := ⟨_, rfl⟩
    rw [← hD2] at u2 HC2 ⊢
    clear hD2
    obtain ⟨D3, hD3⟩ : ∃ D, D = Lib.itoa a3 := ⟨_, rfl⟩
    rw [← hD3] at u3 HC3 ⊢
    clear hD3
    obtain ⟨D4, hD4⟩ : ∃ D, D = Lib.itoa a4 := ⟨_, rfl⟩
    rw [← hD4] at u4 HC4 ⊢
    clear hD4
    obtain ⟨D5, hD5⟩ : ∃ D, D = Lib.itoa a5 := ⟨_, rfl⟩
    rw [← hD5] at u5 HC5 ⊢
    clear hD5
    obtain ⟨D6, hD6⟩ : ∃ D, D = Lib.itoa a6 := ⟨_, rfl⟩
    rw [← hD6] at u6 HC6 ⊢
    clear hD6
    obtain ⟨D7, hD7⟩ : ∃ D, D = Lib.itoa a7 := ⟨_, rfl⟩
    rw [← hD7] at u7 HC7 ⊢
    clear hD7
    have hadd1 : ∀ W : World, (Op.stringOp .add ⟨#[100, 105, 115, 116, 97, 110, 99, 101, 32]⟩ ⟨D0.toArray⟩).run Tryd.prog W = .ok (.string ⟨([100, 105, 115, 116, 97, 110, 99, 101, 32] ++ D0).toArray⟩) W := fun W => str_add [100, 105, 115, 116, 97, 110, 99, 101, 32] D0 (by (try simp); omega) W
    have y1 : ([100, 105, 115, 116, 97, 110, 99, 101, 32] ++ D0).length ≤ 30 := by (try simp); omega
    obtain ⟨Z1, hZ1⟩ : ∃ Z, Z = [100, 105, 115, 116, 97, 110, 99, 101, 32] ++ D0 := ⟨_, rfl⟩
    rw [← hZ1] at hadd1 y1 ⊢
    clear hZ1
    have hadd2 : ∀ W : World, (Op.stringOp .add ⟨Z1.toArray⟩ ⟨#[32, 98, 101, 97, 114, 105, 110, 103, 32]⟩).run Tryd.prog W = .ok (.string ⟨(Z1 ++ [32, 98, 101, 97, 114, 105, 110, 103, 32]).toArray⟩) W := fun W => str_add Z1 [32, 98, 101, 97, 114, 105, 110, 103, 32] (by (try simp); omega) W
    have y2 : (Z1 ++ [32, 98, 101, 97, 114, 105, 110, 103, 32]).length ≤ 39 := by (try simp); omega
    obtain ⟨Z2, hZ2⟩ : ∃ Z, Z = Z1 ++ [32, 98, 101, 97, 114, 105, 110, 103, 32] := ⟨_, rfl⟩
    rw [← hZ2] at hadd2 y2 ⊢
    clear hZ2
    have hadd3 : ∀ W : World, (Op.stringOp .add ⟨Z2.toArray⟩ ⟨D1.toArray⟩).run Tryd.prog W = .ok (.string ⟨(Z2 ++ D1).toArray⟩) W := fun W => str_add Z2 D1 (by (try simp); omega) W
    have y3 : (Z2 ++ D1).length ≤ 60 := by (try simp); omega
    obtain ⟨Z3, hZ3⟩ : ∃ Z, Z = Z2 ++ D1 := ⟨_, rfl⟩
    rw [← hZ3] at hadd3 y3 ⊢
    clear hZ3
    have hadd4 : ∀ W : World, (Op.stringOp .add ⟨Z3.toArray⟩ ⟨#[32, 101, 108, 101, 118, 97, 116, 105, 111, 110, 32]⟩).run Tryd.prog W = .ok (.string ⟨(Z3 ++ [32, 101, 108, 101, 118, 97, 116, 105, 111, 110, 32]).toArray⟩) W := fun W => str_add Z3 [32, 101, 108, 101, 118, 97, 116, 105, 111, 110, 32] (by (try simp); omega) W
    have y4 : (Z3 ++ [32, 101, 108, 101, 118, 97, 116, 105, 111, 110, 32]).length ≤ 71 := by (try simp); omega
    obtain ⟨Z4, hZ4⟩ : ∃ Z, Z = Z3 ++ [32, 101, 108, 101, 118, 97, 116, 105, 111, 110, 32] := ⟨_, rfl⟩
    rw [← hZ4] at hadd4 y4 ⊢
    clear hZ4
    have hadd5 : ∀ W : World, (Op.stringOp .add ⟨Z4.toArray⟩ ⟨D2.toArray⟩).run Tryd.prog W = .ok (.string ⟨(Z4 ++ D2).toArray⟩) W := fun W => str_add Z4 D2 (by (try simp); omega) W
    have y5 : (Z4 ++ D2).length ≤ 92 := by (try simp); omega
    obtain ⟨Z5, hZ5⟩ : ∃ Z, Z = Z4 ++ D2 := ⟨_, rfl⟩
    rw [← hZ5] at hadd5 y5 ⊢
    clear hZ5
    have hadd6 : ∀ W : World, (Op.stringOp .add ⟨Z5.toArray⟩ ⟨#[32, 102, 114, 101, 101, 32]⟩).run Tryd.prog W = .ok (.string ⟨(Z5 ++ [32, 102, 114, 101, 101, 32]).toArray⟩) W := fun W => str_add Z5 [32, 102, 114, 101, 101, 32] (by (try simp); omega) W
    have y6 : (Z5 ++ [32, 102, 114, 101, 101, 32]).length ≤ 98 := by (try simp); omega
    obtain ⟨Z6, hZ6⟩ : ∃ Z, Z = Z5 ++ [32, 102, 114, 101, 101, 32] := ⟨_, rfl⟩
    rw [← hZ6] at hadd6 y6 ⊢
    clear hZ6
    have hadd7 : ∀ W : World, (Op.stringOp .add ⟨Z6.toArray⟩ ⟨D3.toArray⟩).run Tryd.prog W = .ok (.string ⟨(Z6 ++ D3).toArray⟩) W := fun W => str_add Z6 D3 (by (try simp); omega) W
    have y7 : (Z6 ++ D3).length ≤ 119 := by (try simp); omega
    obtain ⟨Z7, hZ7⟩ : ∃ Z, Z = Z6 ++ D3 := ⟨_, rfl⟩
    rw [← hZ7] at hadd7 y7 ⊢
    clear hZ7
    have hadd8 : ∀ W : World, (Op.stringOp .add ⟨Z7.toArray⟩ ⟨#[32, 103, 97, 115, 32]⟩).run Tryd.prog W = .ok (.string ⟨(Z7 ++ [32, 103, 97, 115, 32]).toArray⟩) W := fun W => str_add Z7 [32, 103, 97, 115, 32] (by (try simp); omega) W
    have y8 : (Z7 ++ [32, 103, 97, 115, 32]).length ≤ 124 := by (try simp); omega
    obtain ⟨Z8, hZ8⟩ : ∃ Z, Z = Z7 ++ [32, 103, 97, 115, 32] := ⟨_, rfl⟩
    rw [← hZ8] at hadd8 y8 ⊢
    clear hZ8
    have hadd9 : ∀ W : World, (Op.stringOp .add ⟨Z8.toArray⟩ ⟨D4.toArray⟩).run Tryd.prog W = .ok (.string ⟨(Z8 ++ D4).toArray⟩) W := fun W => str_add Z8 D4 (by (try simp); omega) W
    have y9 : (Z8 ++ D4).length ≤ 145 := by (try simp); omega
    obtain ⟨Z9, hZ9⟩ : ∃ Z, Z = Z8 ++ D4 := ⟨_, rfl⟩
    rw [← hZ9] at hadd9 y9 ⊢
    clear hZ9
    have hadd10 : ∀ W : World, (Op.stringOp .add ⟨Z9.toArray⟩ ⟨#[32, 100, 105, 102, 102, 114, 97, 99, 116, 105, 111, 110, 32]⟩).run Tryd.prog W = .ok (.string ⟨(Z9 ++ [32, 100, 105, 102, 102, 114, 97, 99, 116, 105, 111, 110, 32]).toArray⟩) W := fun W => str_add Z9 [32, 100, 105, 102, 102, 114, 97, 99, 116, 105, 111, 110, 32] (by (try simp); omega) W
    have y10 : (Z9 ++ [32, 100, 105, 102, 102, 114, 97, 99, 116, 105, 111, 110, 32]).length ≤ 158 := by (try simp); omega
    obtain ⟨Z10, hZ10⟩ : ∃ Z, Z = Z9 ++ [32, 100, 105, 102, 102, 114, 97, 99, 116, 105, 111, 110, 32] := ⟨_, rfl⟩
    rw [← hZ10] at hadd10 y10 ⊢
    clear hZ10
    have hadd11 : ∀ W : World, (Op.stringOp .add ⟨Z10.toArray⟩ ⟨D5.toArray⟩).run Tryd.prog W = .ok (.string ⟨(Z10 ++ D5).toArray⟩) W := fun W => str_add Z10 D5 (by (try simp); omega) W
    have y11 : (Z10 ++ D5).length ≤ 179 := by (try simp); omega
    obtain ⟨Z11, hZ11⟩ : ∃ Z, Z = Z10 ++ D5 := ⟨_, rfl⟩
    rw [← hZ11] at hadd11 y11 ⊢
    clear hZ11
    have hadd12 : ∀ W : World, (Op.stringOp .add ⟨Z11.toArray⟩ ⟨#[32, 99, 108, 117, 116, 116, 101, 114, 32]⟩).run Tryd.prog W = .ok (.string ⟨(Z11 ++ [32, 99, 108, 117, 116, 116, 101, 114, 32]).toArray⟩) W := fun W => str_add Z11 [32, 99, 108, 117, 116, 116, 101, 114, 32] (by (try simp); omega) W
    have y12 : (Z11 ++ [32, 99, 108, 117, 116, 116, 101, 114, 32]).length ≤ 188 := by (try simp); omega
    obtain ⟨Z12, hZ12⟩ : ∃ Z, Z = Z11 ++ [32, 99, 108, 117, 116, 116, 101, 114, 32] := ⟨_, rfl⟩
    rw [← hZ12] at hadd12 y12 ⊢
    clear hZ12
    have hadd13 : ∀ W : World, (Op.stringOp .add ⟨Z12.toArray⟩ ⟨D6.toArray⟩).run Tryd.prog W = .ok (.string ⟨(Z12 ++ D6).toArray⟩) W := fun W => str_add Z12 D6 (by (try simp); omega) W
    have y13 : (Z12 ++ D6).length ≤ 209 := by (try simp); omega
    obtain ⟨Z13, hZ13⟩ : ∃ Z, Z = Z12 ++ D6 := ⟨_, rfl⟩
    rw [← hZ13] at hadd13 y13 ⊢
    clear hZ13
    have hadd14 : ∀ W : World, (Op.stringOp .add ⟨Z13.toArray⟩ ⟨#[32, 116, 111, 116, 97, 108, 32]⟩).run Tryd.prog W = .ok (.string ⟨(Z13 ++ [32, 116, 111, 116, 97, 108, 32]).toArray⟩) W := fun W => str_add Z13 [32, 116, 111, 116, 97, 108, 32] (by (try simp); omega) W
    have y14 : (Z13 ++ [32, 116, 111, 116, 97, 108, 32]).length ≤ 216 := by (try simp); omega
    obtain ⟨Z14, hZ14⟩ : ∃ Z, Z = Z13 ++ [32, 116, 111, 116, 97, 108, 32] := ⟨_, rfl⟩
    rw [← hZ14] at hadd14 y14 ⊢
    clear hZ14
    have hadd15 : ∀ W : World, (Op.stringOp .add ⟨Z14.toArray⟩ ⟨D7.toArray⟩).run Tryd.prog W = .ok (.string ⟨(Z14 ++ D7).toArray⟩) W := fun W => str_add Z14 D7 (by (try simp); omega) W
    have y15 : (Z14 ++ D7).length ≤ 237 := by (try simp); omega
    obtain ⟨Z15, hZ15⟩ : ∃ Z, Z = Z14 ++ D7 := ⟨_, rfl⟩
    rw [← hZ15] at hadd15 y15 ⊢
    clear hZ15
    clear y1 y2 y3 y4 y5 y6 y7 y8 y9 y10 y11 y12 y13 y14 u0 u1 u2 u3 u4 u5 u6 u7
    have he1 : Z15 ++ [32] ++ [99, 108, 101, 97, 114] = Z15 ++ [32, 99, 108, 101, 97, 114] := by simp
    have he2 : Z15 ++ [32] ++ [111, 98, 115, 116, 114, 117, 99, 116, 101, 100] = Z15 ++ [32, 111, 98, 115, 116, 114, 117, 99, 116, 101, 100] := by simp
    have hf1 : ∀ W : World, (Op.stringOp .add ⟨Z15.toArray⟩ ⟨#[32, 99, 108, 101, 97, 114]⟩).run Tryd.prog W = .ok (.string ⟨(Z15 ++ [32, 99, 108, 101, 97, 114]).toArray⟩) W := fun W => str_add Z15 [32, 99, 108, 101, 97, 114] (by (try simp); omega) W
    have hf2 : ∀ W : World, (Op.stringOp .add ⟨Z15.toArray⟩ ⟨#[32, 111, 98, 115, 116, 114, 117, 99, 116, 101, 100]⟩).run Tryd.prog W = .ok (.string ⟨(Z15 ++ [32, 111, 98, 115, 116, 114, 117, 99, 116, 101, 100]).toArray⟩) W := fun W => str_add Z15 [32, 111, 98, 115, 116, 114, 117, 99, 116, 101, 100] (by (try simp); omega) W
    obtain ⟨F1, hF1⟩ : ∃ F, F = Z15 ++ [32, 99, 108, 101, 97, 114] := ⟨_, rfl⟩
    obtain ⟨F2, hF2⟩ : ∃ F, F = Z15 ++ [32, 111, 98, 115, 116, 114, 117, 99, 116, 101, 100] := ⟨_, rfl⟩
    rw [← hF1] at he1 hf1
    rw [← hF2] at he2 hf2
    have HE1 := Lib.hid he1
    have HE2 := Lib.hid he2
    clear he1 he2 hF1 hF2 y15
    have HW := Lib.hid (show Below w.heap.size w (w.alloc (.cells #[.int .i64 a0, .int .i64 a1, .int .i64 a2, .int .i64 a3, .int .i64 a4, .int .i64 a5, .int .i64 a6, .int .i64 a7, .bool true] 25)) by repeat (first | (with_reducible exact Below.refl _ _) | (with_reducible assumption) | ((with_reducible refine bl_alloc ?_ _ ?_); (focus ((first | omega | (simp <;> omega)); done))) | ((with_reducible refine bl_set ?_ _ ?_); (focus ((first | omega | (simp <;> omega)); done))) | (with_reducible refine below_drewN ?_ _) | (with_reducible refine Below.drew ?_)))
    have d0 : (w.alloc (.cells #[.int .i64 a0, .int .i64 a1, .int .i64 a2, .int .i64 a3, .int .i64 a4, .int .i64 a5, .int .i64 a6, .int .i64 a7, .bool true] 25)).cell? ⟨w.heap.size, 0, none⟩ = some (.int .i64 a0) := by simp [go_sem]
    have d1 : (w.alloc (.cells #[.int .i64 a0, .int .i64 a1, .int .i64 a2, .int .i64 a3, .int .i64 a4, .int .i64 a5, .int .i64 a6, .int .i64 a7, .bool true] 25)).cell? ⟨w.heap.size, 1, none⟩ = some (.int .i64 a1) := by simp [go_sem]
    have d2 : (w.alloc (.cells #[.int .i64 a0, .int .i64 a1, .int .i64 a2, .int .i64 a3, .int .i64 a4, .int .i64 a5, .int .i64 a6, .int .i64 a7, .bool true] 25)).cell? ⟨w.heap.size, 2, none⟩ = some (.int .i64 a2) := by simp [go_sem]
    have d3 : (w.alloc (.cells #[.int .i64 a0, .int .i64 a1, .int .i64 a2, .int .i64 a3, .int .i64 a4, .int .i64 a5, .int .i64 a6, .int .i64 a7, .bool true] 25)).cell? ⟨w.heap.size, 3, none⟩ = some (.int .i64 a3) := by simp [go_sem]
    have d4 : (w.alloc (.cells #[.int .i64 a0, .int .i64 a1, .int .i64 a2, .int .i64 a3, .int .i64 a4, .int .i64 a5, .int .i64 a6, .int .i64 a7, .bool true] 25)).cell? ⟨w.heap.size, 4, none⟩ = some (.int .i64 a4) := by simp [go_sem]
    have d5 : (w.alloc (.cells #[.int .i64 a0, .int .i64 a1, .int .i64 a2, .int .i64 a3, .int .i64 a4, .int .i64 a5, .int .i64 a6, .int .i64 a7, .bool true] 25)).cell? ⟨w.heap.size, 5, none⟩ = some (.int .i64 a5) := by simp [go_sem]
    have d6 : (w.alloc (.cells #[.int .i64 a0, .int .i64 a1, .int .i64 a2, .int .i64 a3, .int .i64 a4, .int .i64 a5, .int .i64 a6, .int .i64 a7, .bool true] 25)).cell? ⟨w.heap.size, 6, none⟩ = some (.int .i64 a6) := by simp [go_sem]
    have d7 : (w.alloc (.cells #[.int .i64 a0, .int .i64 a1, .int .i64 a2, .int .i64 a3, .int .i64 a4, .int .i64 a5, .int .i64 a6, .int .i64 a7, .bool true] 25)).cell? ⟨w.heap.size, 7, none⟩ = some (.int .i64 a7) := by simp [go_sem]
    have d8 : (w.alloc (.cells #[.int .i64 a0, .int .i64 a1, .int .i64 a2, .int .i64 a3, .int .i64 a4, .int .i64 a5, .int .i64 a6, .int .i64 a7, .bool true] 25)).cell? ⟨w.heap.size, 8, none⟩ = some (.bool true) := by simp [go_sem]
    have zW : (w.alloc (.cells #[.int .i64 a0, .int .i64 a1, .int .i64 a2, .int .i64 a3, .int .i64 a4, .int .i64 a5, .int .i64 a6, .int .i64 a7, .bool true] 25)).heap.size = w.heap.size + 1 := by simp
    rw [if_pos rfl, HE1.out]
    go_enter Tryd.func10, Tryd.ntmps10
    go_wp2_with fail
    go_region_held3 (fun w' => w'.cell? ⟨w.heap.size, 0, none⟩ = some (.int .i64 a0) ∧ w'.cell? ⟨w.heap.size, 1, none⟩ = some (.int .i64 a1) ∧ w'.cell? ⟨w.heap.size, 2, none⟩ = some (.int .i64 a2) ∧ w'.cell? ⟨w.heap.size, 3, none⟩ = some (.int .i64 a3) ∧ w'.cell? ⟨w.heap.size, 4, none⟩ = some (.int .i64 a4) ∧ w'.cell? ⟨w.heap.size, 5, none⟩ = some (.int .i64 a5) ∧ w'.cell? ⟨w.heap.size, 6, none⟩ = some (.int .i64 a6) ∧ w'.cell? ⟨w.heap.size, 7, none⟩ = some (.int .i64 a7) ∧ w'.cell? ⟨w.heap.size, 8, none⟩ = some (.bool true))
      (((try go_split_ands); (refine ⟨?_, ?_, ?_, ?_, ?_, ?_, ?_, ?_, ?_⟩ <;> (repeat (first | (with_reducible assumption) | (with_reducible refine cell_drew ?_) | (with_reducible refine cell_drewN ?_) | (with_reducible refine cell_alloc ?_ _) | (with_reducible refine keeps hb ?_) | fail)))))
      (first
        | (go_at_call 40; ((with_reducible refine (HC0.out _).mono ?_); rintro e v0 ⟨rfl, hb⟩; have H0 := Lib.hid (show Below w.heap.size w v0 by repeat (first | (with_reducible exact Below.refl _ _) | (with_reducible assumption) | ((with_reducible refine bl_alloc ?_ _ ?_); (focus ((first | omega | (simp <;> omega)); done))) | ((with_reducible refine bl_set ?_ _ ?_); (focus ((first | omega | (simp <;> omega)); done))) | (with_reducible refine below_drewN ?_ _) | (with_reducible refine Below.drew ?_) | ((with_reducible refine bl_trans ?_ hb ?_); (focus ((first | omega | (simp <;> omega)); done))) | ((with_reducible refine bl_trans ?_ HW.out ?_); (focus ((first | omega | (simp <;> omega)); done))))); have z0 := H0.out.size))
        | (go_at_call 40; ((with_reducible refine (HC1.out _).mono ?_); rintro e v1 ⟨rfl, hb⟩; have H1 := Lib.hid (show Below w.heap.size w v1 by repeat (first | (with_reducible exact Below.refl _ _) | (with_reducible assumption) | ((with_reducible refine bl_alloc ?_ _ ?_); (focus ((first | omega | (simp <;> omega)); done))) | ((with_reducible refine bl_set ?_ _ ?_); (focus ((first | omega | (simp <;> omega)); done))) | (with_reducible refine below_drewN ?_ _) | (with_reducible refine Below.drew ?_) | ((with_reducible refine bl_trans ?_ hb ?_); (focus ((first | omega | (simp <;> omega)); done))) | ((with_reducible refine bl_trans ?_ H0.out ?_); (focus ((first | omega | (simp <;> omega)); done))))); have z1 := H1.out.size))
        | (go_at_call 40; ((with_reducible refine (HC2.out _).mono ?_); rintro e v2 ⟨rfl, hb⟩; have H2 := Lib.hid (show Below w.heap.size w v2 by repeat (first | (with_reducible exact Below.refl _ _) | (with_reducible assumption) | ((with_reducible refine bl_alloc ?_ _ ?_); (focus ((first | omega | (simp <;> omega)); done))) | ((with_reducible refine bl_set ?_ _ ?_); (focus ((first | omega | (simp <;> omega)); done))) | (with_reducible refine below_drewN ?_ _) | (with_reducible refine Below.drew ?_) | ((with_reducible refine bl_trans ?_ hb ?_); (focus ((first | omega | (simp <;> omega)); done))) | ((with_reducible refine bl_trans ?_ H1.out ?_); (focus ((first | omega | (simp <;> omega)); done))))); have z2 := H2.out.size))
        | (go_at_call 40; ((with_reducible refine (HC3.out _).mono ?_); rintro e v3 ⟨rfl, hb⟩; have H3 := Lib.hid (show Below w.heap.size w v3 by repeat (first | (with_reducible exact Below.refl _ _) | (with_reducible assumption) | ((with_reducible refine bl_alloc ?_ _ ?_); (focus ((first | omega | (simp <;> omega)); done))) | ((with_reducible refine bl_set ?_ _ ?_); (focus ((first | omega | (simp <;> omega)); done))) | (with_reducible refine below_drewN ?_ _) | (with_reducible refine Below.drew ?_) | ((with_reducible refine bl_trans ?_ hb ?_); (focus ((first | omega | (simp <;> omega)); done))) | ((with_reducible refine bl_trans ?_ H2.out ?_); (focus ((first | omega | (simp <;> omega)); done))))); have z3 := H3.out.size))
        | (go_at_call 40; ((with_reducible refine (HC4.out _).mono ?_); rintro e v4 ⟨rfl, hb⟩; have H4 := Lib.hid (show Below w.heap.size w v4 by repeat (first | (with_reducible exact Below.refl _ _) | (with_reducible assumption) | ((with_reducible refine bl_alloc ?_ _ ?_); (focus ((first | omega | (simp <;> omega)); done))) | ((with_reducible refine bl_set ?_ _ ?_); (focus ((first | omega | (simp <;> omega)); done))) | (with_reducible refine below_drewN ?_ _) | (with_reducible refine Below.drew ?_) | ((with_reducible refine bl_trans ?_ hb ?_); (focus ((first | omega | (simp <;> omega)); done))) | ((with_reducible refine bl_trans ?_ H3.out ?_); (focus ((first | omega | (simp <;> omega)); done))))); have z4 := H4.out.size))
        | (go_at_call 40; ((with_reducible refine (HC5.out _).mono ?_); rintro e v5 ⟨rfl, hb⟩; have H5 := Lib.hid (show Below w.heap.size w v5 by repeat (first | (with_reducible exact Below.refl _ _) | (with_reducible assumption) | ((with_reducible refine bl_alloc ?_ _ ?_); (focus ((first | omega | (simp <;> omega)); done))) | ((with_reducible refine bl_set ?_ _ ?_); (focus ((first | omega | (simp <;> omega)); done))) | (with_reducible refine below_drewN ?_ _) | (with_reducible refine Below.drew ?_) | ((with_reducible refine bl_trans ?_ hb ?_); (focus ((first | omega | (simp <;> omega)); done))) | ((with_reducible refine bl_trans ?_ H4.out ?_); (focus ((first | omega | (simp <;> omega)); done))))); have z5 := H5.out.size))
        | (go_at_call 40; ((with_reducible refine (HC6.out _).mono ?_); rintro e v6 ⟨rfl, hb⟩; have H6 := Lib.hid (show Below w.heap.size w v6 by repeat (first | (with_reducible exact Below.refl _ _) | (with_reducible assumption) | ((with_reducible refine bl_alloc ?_ _ ?_); (focus ((first | omega | (simp <;> omega)); done))) | ((with_reducible refine bl_set ?_ _ ?_); (focus ((first | omega | (simp <;> omega)); done))) | (with_reducible refine below_drewN ?_ _) | (with_reducible refine Below.drew ?_) | ((with_reducible refine bl_trans ?_ hb ?_); (focus ((first | omega | (simp <;> omega)); done))) | ((with_reducible refine bl_trans ?_ H5.out ?_); (focus ((first | omega | (simp <;> omega)); done))))); have z6 := H6.out.size))
        | (go_at_call 40; ((with_reducible refine (HC7.out _).mono ?_); rintro e v7 ⟨rfl, hb⟩; have H7 := Lib.hid (show Below w.heap.size w v7 by repeat (first | (with_reducible exact Below.refl _ _) | (with_reducible assumption) | ((with_reducible refine bl_alloc ?_ _ ?_); (focus ((first | omega | (simp <;> omega)); done))) | ((with_reducible refine bl_set ?_ _ ?_); (focus ((first | omega | (simp <;> omega)); done))) | (with_reducible refine below_drewN ?_ _) | (with_reducible refine Below.drew ?_) | ((with_reducible refine bl_trans ?_ hb ?_); (focus ((first | omega | (simp <;> omega)); done))) | ((with_reducible refine bl_trans ?_ H6.out ?_); (focus ((first | omega | (simp <;> omega)); done))))); have z7 := H7.out.size)))
    go_wp2_with fail
    go_ret
    exact ⟨rfl, H7.out⟩
  | false =>
    clear HH ia0 ia1 ia2 ia3 ia4 ia5 ia6 ia7
    obtain ⟨D0, hD0⟩ : ∃ D, D = Lib.itoa a0 := ⟨_, rfl⟩
    rw [← hD0] at u0 HC0 ⊢
    clear hD0
    obtain ⟨D1, hD1⟩ : ∃ D, D = Lib.itoa a1 := ⟨_, rfl⟩
    rw [← hD1] at u1 HC1 ⊢
    clear hD1
    obtain ⟨D2, hD2⟩ : ∃ D, D = Lib.itoa a2 := ⟨_, rfl⟩
    rw [← hD2] at u2 HC2 ⊢
    clear hD2
    obtain ⟨D3, hD3⟩ : ∃ D, D = Lib.itoa a3 := ⟨_, rfl⟩
    rw [← hD3] at u3 HC3 ⊢
    clear hD3
    obtain ⟨D4, hD4⟩ : ∃ D, D = Lib.itoa a4 := ⟨_, rfl⟩
    rw [← hD4] at u4 HC4 ⊢
    clear hD4
    obtain ⟨D5, hD5⟩ : ∃ D, D = Lib.itoa a5 := ⟨_, rfl⟩
    rw [← hD5] at u5 HC5 ⊢
    clear hD5
    obtain ⟨D6, hD6⟩ : ∃ D, D = Lib.itoa a6 := ⟨_, rfl⟩
    rw [← hD6] at u6 HC6 ⊢
    clear hD6
    obtain ⟨D7, hD7⟩ : ∃ D, D = Lib.itoa a7 := ⟨_, rfl⟩
    rw [← hD7] at u7 HC7 ⊢
    clear hD7
    have hadd1 : ∀ W : World, (Op.stringOp .add ⟨#[100, 105, 115, 116, 97, 110, 99, 101, 32]⟩ ⟨D0.toArray⟩).run Tryd.prog W = .ok (.string ⟨([100, 105, 115, 116, 97, 110, 99, 101, 32] ++ D0).toArray⟩) W := fun W => str_add [100, 105, 115, 116, 97, 110, 99, 101, 32] D0 (by (try simp); omega) W
    have y1 : ([100, 105, 115, 116, 97, 110, 99, 101, 32] ++ D0).length ≤ 30 := by (try simp); omega
    obtain ⟨Z1, hZ1⟩ : ∃ Z, Z = [100, 105, 115, 116, 97, 110, 99, 101, 32] ++ D0 := ⟨_, rfl⟩
    rw [← hZ1] at hadd1 y1 ⊢
    clear hZ1
    have hadd2 : ∀ W : World, (Op.stringOp .add ⟨Z1.toArray⟩ ⟨#[32, 98, 101, 97, 114, 105, 110, 103, 32]⟩).run Tryd.prog W = .ok (.string ⟨(Z1 ++ [32, 98, 101, 97, 114, 105, 110, 103, 32]).toArray⟩) W := fun W => str_add Z1 [32, 98, 101, 97, 114, 105, 110, 103, 32] (by (try simp); omega) W
    have y2 : (Z1 ++ [32, 98, 101, 97, 114, 105, 110, 103, 32]).length ≤ 39 := by (try simp); omega
    obtain ⟨Z2, hZ2⟩ : ∃ Z, Z = Z1 ++ [32, 98, 101, 97, 114, 105, 110, 103, 32] := ⟨_, rfl⟩
    rw [← hZ2] at hadd2 y2 ⊢
    clear hZ2
    have hadd3 : ∀ W : World, (Op.stringOp .add ⟨Z2.toArray⟩ ⟨D1.toArray⟩).run Tryd.prog W = .ok (.string ⟨(Z2 ++ D1).toArray⟩) W := fun W => str_add Z2 D1 (by (try simp); omega) W
    have y3 : (Z2 ++ D1).length ≤ 60 := by (try simp); omega
    obtain ⟨Z3, hZ3⟩ : ∃ Z, Z = Z2 ++ D1 := ⟨_, rfl⟩
    rw [← hZ3] at hadd3 y3 ⊢
    clear hZ3
    have hadd4 : ∀ W : World, (Op.stringOp .add ⟨Z3.toArray⟩ ⟨#[32, 101, 108, 101, 118, 97, 116, 105, 111, 110, 32]⟩).run Tryd.prog W = .ok (.string ⟨(Z3 ++ [32, 101, 108, 101, 118, 97, 116, 105, 111, 110, 32]).toArray⟩) W := fun W => str_add Z3 [32, 101, 108, 101, 118, 97, 116, 105, 111, 110, 32] (by (try simp); omega) W
    have y4 : (Z3 ++ [32, 101, 108, 101, 118, 97, 116, 105, 111, 110, 32]).length ≤ 71 := by (try simp); omega
    obtain ⟨Z4, hZ4⟩ : ∃ Z, Z = Z3 ++ [32, 101, 108, 101, 118, 97, 116, 105, 111, 110, 32] := ⟨_, rfl⟩
    rw [← hZ4] at hadd4 y4 ⊢
    clear hZ4
    have hadd5 : ∀ W : World, (Op.stringOp .add ⟨Z4.toArray⟩ ⟨D2.toArray⟩).run Tryd.prog W = .ok (.string ⟨(Z4 ++ D2).toArray⟩) W := fun W => str_add Z4 D2 (by (try simp); omega) W
    have y5 : (Z4 ++ D2).length ≤ 92 := by (try simp); omega
    obtain ⟨Z5, hZ5⟩ : ∃ Z, Z = Z4 ++ D2 := ⟨_, rfl⟩
    rw [← hZ5] at hadd5 y5 ⊢
    clear hZ5
    have hadd6 : ∀ W : World, (Op.stringOp .add ⟨Z5.toArray⟩ ⟨#[32, 102, 114, 101, 101, 32]⟩).run Tryd.prog W = .ok (.string ⟨(Z5 ++ [32, 102, 114, 101, 101, 32]).toArray⟩) W := fun W => str_add Z5 [32, 102, 114, 101, 101, 32] (by (try simp); omega) W
    have y6 : (Z5 ++ [32, 102, 114, 101, 101, 32]).length ≤ 98 := by (try simp); omega
    obtain ⟨Z6, hZ6⟩ : ∃ Z, Z = Z5 ++ [32, 102, 114, 101, 101, 32] := ⟨_, rfl⟩
    rw [← hZ6] at hadd6 y6 ⊢
    clear hZ6
    have hadd7 : ∀ W : World, (Op.stringOp .add ⟨Z6.toArray⟩ ⟨D3.toArray⟩).run Tryd.prog W = .ok (.string ⟨(Z6 ++ D3).toArray⟩) W := fun W => str_add Z6 D3 (by (try simp); omega) W
    have y7 : (Z6 ++ D3).length ≤ 119 := by (try simp); omega
    obtain ⟨Z7, hZ7⟩ : ∃ Z, Z = Z6 ++ D3 := ⟨_, rfl⟩
    rw [← hZ7] at hadd7 y7 ⊢
    clear hZ7
    have hadd8 : ∀ W : World, (Op.stringOp .add ⟨Z7.toArray⟩ ⟨#[32, 103, 97, 115, 32]⟩).run Tryd.prog W = .ok (.string ⟨(Z7 ++ [32, 103, 97, 115, 32]).toArray⟩) W := fun W => str_add Z7 [32, 103, 97, 115, 32] (by (try simp); omega) W
    have y8 : (Z7 ++ [32, 103, 97, 115, 32]).length ≤ 124 := by (try simp); omega
    obtain ⟨Z8, hZ8⟩ : ∃ Z, Z = Z7 ++ [32, 103, 97, 115, 32] := ⟨_, rfl⟩
    rw [← hZ8] at hadd8 y8 ⊢
    clear hZ8
    have hadd9 : ∀ W : World, (Op.stringOp .add ⟨Z8.toArray⟩ ⟨D4.toArray⟩).run Tryd.prog W = .ok (.string ⟨(Z8 ++ D4).toArray⟩) W := fun W => str_add Z8 D4 (by (try simp); omega) W
    have y9 : (Z8 ++ D4).length ≤ 145 := by (try simp); omega
    obtain ⟨Z9, hZ9⟩ : ∃ Z, Z = Z8 ++ D4 := ⟨_, rfl⟩
    rw [← hZ9] at hadd9 y9 ⊢
    clear hZ9
    have hadd10 : ∀ W : World, (Op.stringOp .add ⟨Z9.toArray⟩ ⟨#[32, 100, 105, 102, 102, 114, 97, 99, 116, 105, 111, 110, 32]⟩).run Tryd.prog W = .ok (.string ⟨(Z9 ++ [32, 100, 105, 102, 102, 114, 97, 99, 116, 105, 111, 110, 32]).toArray⟩) W := fun W => str_add Z9 [32, 100, 105, 102, 102, 114, 97, 99, 116, 105, 111, 110, 32] (by (try simp); omega) W
    have y10 : (Z9 ++ [32, 100, 105, 102, 102, 114, 97, 99, 116, 105, 111, 110, 32]).length ≤ 158 := by (try simp); omega
    obtain ⟨Z10, hZ10⟩ : ∃ Z, Z = Z9 ++ [32, 100, 105, 102, 102, 114, 97, 99, 116, 105, 111, 110, 32] := ⟨_, rfl⟩
    rw [← hZ10] at hadd10 y10 ⊢
    clear hZ10
    have hadd11 : ∀ W : World, (Op.stringOp .add ⟨Z10.toArray⟩ ⟨D5.toArray⟩).run Tryd.prog W = .ok (.string ⟨(Z10 ++ D5).toArray⟩) W := fun W => str_add Z10 D5 (by (try simp); omega) W
    have y11 : (Z10 ++ D5).length ≤ 179 := by (try simp); omega
    obtain ⟨Z11, hZ11⟩ : ∃ Z, Z = Z10 ++ D5 := ⟨_, rfl⟩
    rw [← hZ11] at hadd11 y11 ⊢
    clear hZ11
    have hadd12 : ∀ W : World, (Op.stringOp .add ⟨Z11.toArray⟩ ⟨#[32, 99, 108, 117, 116, 116, 101, 114, 32]⟩).run Tryd.prog W = .ok (.string ⟨(Z11 ++ [32, 99, 108, 117, 116, 116, 101, 114, 32]).toArray⟩) W := fun W => str_add Z11 [32, 99, 108, 117, 116, 116, 101, 114, 32] (by (try simp); omega) W
    have y12 : (Z11 ++ [32, 99, 108, 117, 116, 116, 101, 114, 32]).length ≤ 188 := by (try simp); omega
    obtain ⟨Z12, hZ12⟩ : ∃ Z, Z = Z11 ++ [32, 99, 108, 117, 116, 116, 101, 114, 32] := ⟨_, rfl⟩
    rw [← hZ12] at hadd12 y12 ⊢
    clear hZ12
    have hadd13 : ∀ W : World, (Op.stringOp .add ⟨Z12.toArray⟩ ⟨D6.toArray⟩).run Tryd.prog W = .ok (.string ⟨(Z12 ++ D6).toArray⟩) W := fun W => str_add Z12 D6 (by (try simp); omega) W
    have y13 : (Z12 ++ D6).length ≤ 209 := by (try simp); omega
    obtain ⟨Z13, hZ13⟩ : ∃ Z, Z = Z12 ++ D6 := ⟨_, rfl⟩
    rw [← hZ13] at hadd13 y13 ⊢
    clear hZ13
    have hadd14 : ∀ W : World, (Op.stringOp .add ⟨Z13.toArray⟩ ⟨#[32, 116, 111, 116, 97, 108, 32]⟩).run Tryd.prog W = .ok (.string ⟨(Z13 ++ [32, 116, 111, 116, 97, 108, 32]).toArray⟩) W := fun W => str_add Z13 [32, 116, 111, 116, 97, 108, 32] (by (try simp); omega) W
    have y14 : (Z13 ++ [32, 116, 111, 116, 97, 108, 32]).length ≤ 216 := by (try simp); omega
    obtain ⟨Z14, hZ14⟩ : ∃ Z, Z = Z13 ++ [32, 116, 111, 116, 97, 108, 32] := ⟨_, rfl⟩
    rw [← hZ14] at hadd14 y14 ⊢
    clear hZ14
    have hadd15 : ∀ W : World, (Op.stringOp .add ⟨Z14.toArray⟩ ⟨D7.toArray⟩).run Tryd.prog W = .ok (.string ⟨(Z14 ++ D7).toArray⟩) W := fun W => str_add Z14 D7 (by (try simp); omega) W
    have y15 : (Z14 ++ D7).length ≤ 237 := by (try simp); omega
    obtain ⟨Z15, hZ15⟩ : ∃ Z, Z = Z14 ++ D7 := ⟨_, rfl⟩
    rw [← hZ15] at hadd15 y15 ⊢
    clear hZ15
    clear y1 y2 y3 y4 y5 y6 y7 y8 y9 y10 y11 y12 y13 y14 u0 u1 u2 u3 u4 u5 u6 u7
    have he1 : Z15 ++ [32] ++ [99, 108, 101, 97, 114] = Z15 ++ [32, 99, 108, 101, 97, 114] := by simp
    have he2 : Z15 ++ [32] ++ [111, 98, 115, 116, 114, 117, 99, 116, 101, 100] = Z15 ++ [32, 111, 98, 115, 116, 114, 117, 99, 116, 101, 100] := by simp
    have hf1 : ∀ W : World, (Op.stringOp .add ⟨Z15.toArray⟩ ⟨#[32, 99, 108, 101, 97, 114]⟩).run Tryd.prog W = .ok (.string ⟨(Z15 ++ [32, 99, 108, 101, 97, 114]).toArray⟩) W := fun W => str_add Z15 [32, 99, 108, 101, 97, 114] (by (try simp); omega) W
    have hf2 : ∀ W : World, (Op.stringOp .add ⟨Z15.toArray⟩ ⟨#[32, 111, 98, 115, 116, 114, 117, 99, 116, 101, 100]⟩).run Tryd.prog W = .ok (.string ⟨(Z15 ++ [32, 111, 98, 115, 116, 114, 117, 99, 116, 101, 100]).toArray⟩) W := fun W => str_add Z15 [32, 111, 98, 115, 116, 114, 117, 99, 116, 101, 100] (by (try simp); omega) W
    obtain ⟨F1, hF1⟩ : ∃ F, F = Z15 ++ [32, 99, 108, 101, 97, 114] := ⟨_, rfl⟩
    obtain ⟨F2, hF2⟩ : ∃ F, F = Z15 ++ [32, 111, 98, 115, 116, 114, 117, 99, 116, 101, 100] := ⟨_, rfl⟩
    rw [← hF1] at he1 hf1
    rw [← hF2] at he2 hf2
    have HE1 := Lib.hid he1
    have HE2 := Lib.hid he2
    clear he1 he2 hF1 hF2 y15
    have HW := Lib.hid (show Below w.heap.size w (w.alloc (.cells #[.int .i64 a0, .int .i64 a1, .int .i64 a2, .int .i64 a3, .int .i64 a4, .int .i64 a5, .int .i64 a6, .int .i64 a7, .bool false] 25)) by repeat (first | (with_reducible exact Below.refl _ _) | (with_reducible assumption) | ((with_reducible refine bl_alloc ?_ _ ?_); (focus ((first | omega | (simp <;> omega)); done))) | ((with_reducible refine bl_set ?_ _ ?_); (focus ((first | omega | (simp <;> omega)); done))) | (with_reducible refine below_drewN ?_ _) | (with_reducible refine Below.drew ?_)))
    have d0 : (w.alloc (.cells #[.int .i64 a0, .int .i64 a1, .int .i64 a2, .int .i64 a3, .int .i64 a4, .int .i64 a5, .int .i64 a6, .int .i64 a7, .bool false] 25)).cell? ⟨w.heap.size, 0, none⟩ = some (.int .i64 a0) := by simp [go_sem]
    have d1 : (w.alloc (.cells #[.int .i64 a0, .int .i64 a1, .int .i64 a2, .int .i64 a3, .int .i64 a4, .int .i64 a5, .int .i64 a6, .int .i64 a7, .bool false] 25)).cell? ⟨w.heap.size, 1, none⟩ = some (.int .i64 a1) := by simp [go_sem]
    have d2 : (w.alloc (.cells #[.int .i64 a0, .int .i64 a1, .int .i64 a2, .int .i64 a3, .int .i64 a4, .int .i64 a5, .int .i64 a6, .int .i64 a7, .bool false] 25)).cell? ⟨w.heap.size, 2, none⟩ = some (.int .i64 a2) := by simp [go_sem]
    have d3 : (w.alloc (.cells #[.int .i64 a0, .int .i64 a1, .int .i64 a2, .int .i64 a3, .int .i64 a4, .int .i64 a5, .int .i64 a6, .int .i64 a7, .bool false] 25)).cell? ⟨w.heap.size, 3, none⟩ = some (.int .i64 a3) := by simp [go_sem]
    have d4 : (w.alloc (.cells #[.int .i64 a0, .int .i64 a1, .int .i64 a2, .int .i64 a3, .int .i64 a4, .int .i64 a5, .int .i64 a6, .int .i64 a7, .bool false] 25)).cell? ⟨w.heap.size, 4, none⟩ = some (.int .i64 a4) := by simp [go_sem]
    have d5 : (w.alloc (.cells #[.int .i64 a0, .int .i64 a1, .int .i64 a2, .int .i64 a3, .int .i64 a4, .int .i64 a5, .int .i64 a6, .int .i64 a7, .bool false] 25)).cell? ⟨w.heap.size, 5, none⟩ = some (.int .i64 a5) := by simp [go_sem]
    have d6 : (w.alloc (.cells #[.int .i64 a0, .int .i64 a1, .int .i64 a2, .int .i64 a3, .int .i64 a4, .int .i64 a5, .int .i64 a6, .int .i64 a7, .bool false] 25)).cell? ⟨w.heap.size, 6, none⟩ = some (.int .i64 a6) := by simp [go_sem]
    have d7 : (w.alloc (.cells #[.int .i64 a0, .int .i64 a1, .int .i64 a2, .int .i64 a3, .int .i64 a4, .int .i64 a5, .int .i64 a6, .int .i64 a7, .bool false] 25)).cell? ⟨w.heap.size, 7, none⟩ = some (.int .i64 a7) := by simp [go_sem]
    have d8 : (w.alloc (.cells #[.int .i64 a0, .int .i64 a1, .int .i64 a2, .int .i64 a3, .int .i64 a4, .int .i64 a5, .int .i64 a6, .int .i64 a7, .bool false] 25)).cell? ⟨w.heap.size, 8, none⟩ = some (.bool false) := by simp [go_sem]
    have zW : (w.alloc (.cells #[.int .i64 a0, .int .i64 a1, .int .i64 a2, .int .i64 a3, .int .i64 a4, .int .i64 a5, .int .i64 a6, .int .i64 a7, .bool false] 25)).heap.size = w.heap.size + 1 := by simp
    rw [if_neg (by decide), HE2.out]
    go_enter Tryd.func10, Tryd.ntmps10
    go_wp2_with fail
    go_region_held3 (fun w' => w'.cell? ⟨w.heap.size, 0, none⟩ = some (.int .i64 a0) ∧ w'.cell? ⟨w.heap.size, 1, none⟩ = some (.int .i64 a1) ∧ w'.cell? ⟨w.heap.size, 2, none⟩ = some (.int .i64 a2) ∧ w'.cell? ⟨w.heap.size, 3, none⟩ = some (.int .i64 a3) ∧ w'.cell? ⟨w.heap.size, 4, none⟩ = some (.int .i64 a4) ∧ w'.cell? ⟨w.heap.size, 5, none⟩ = some (.int .i64 a5) ∧ w'.cell? ⟨w.heap.size, 6, none⟩ = some (.int .i64 a6) ∧ w'.cell? ⟨w.heap.size, 7, none⟩ = some (.int .i64 a7) ∧ w'.cell? ⟨w.heap.size, 8, none⟩ = some (.bool false))
      (((try go_split_ands); (refine ⟨?_, ?_, ?_, ?_, ?_, ?_, ?_, ?_, ?_⟩ <;> (repeat (first | (with_reducible assumption) | (with_reducible refine cell_drew ?_) | (with_reducible refine cell_drewN ?_) | (with_reducible refine cell_alloc ?_ _) | (with_reducible refine keeps hb ?_) | fail)))))
      (first
        | (go_at_call 40; ((with_reducible refine (HC0.out _).mono ?_); rintro e v0 ⟨rfl, hb⟩; have H0 := Lib.hid (show Below w.heap.size w v0 by repeat (first | (with_reducible exact Below.refl _ _) | (with_reducible assumption) | ((with_reducible refine bl_alloc ?_ _ ?_); (focus ((first | omega | (simp <;> omega)); done))) | ((with_reducible refine bl_set ?_ _ ?_); (focus ((first | omega | (simp <;> omega)); done))) | (with_reducible refine below_drewN ?_ _) | (with_reducible refine Below.drew ?_) | ((with_reducible refine bl_trans ?_ hb ?_); (focus ((first | omega | (simp <;> omega)); done))) | ((with_reducible refine bl_trans ?_ HW.out ?_); (focus ((first | omega | (simp <;> omega)); done))))); have z0 := H0.out.size))
        | (go_at_call 40; ((with_reducible refine (HC1.out _).mono ?_); rintro e v1 ⟨rfl, hb⟩; have H1 := Lib.hid (show Below w.heap.size w v1 by repeat (first | (with_reducible exact Below.refl _ _) | (with_reducible assumption) | ((with_reducible refine bl_alloc ?_ _ ?_); (focus ((first | omega | (simp <;> omega)); done))) | ((with_reducible refine bl_set ?_ _ ?_); (focus ((first | omega | (simp <;> omega)); done))) | (with_reducible refine below_drewN ?_ _) | (with_reducible refine Below.drew ?_) | ((with_reducible refine bl_trans ?_ hb ?_); (focus ((first | omega | (simp <;> omega)); done))) | ((with_reducible refine bl_trans ?_ H0.out ?_); (focus ((first | omega | (simp <;> omega)); done))))); have z1 := H1.out.size))
        | (go_at_call 40; ((with_reducible refine (HC2.out _).mono ?_); rintro e v2 ⟨rfl, hb⟩; have H2 := Lib.hid (show Below w.heap.size w v2 by repeat (first | (with_reducible exact Below.refl _ _) | (with_reducible assumption) | ((with_reducible refine bl_alloc ?_ _ ?_); (focus ((first | omega | (simp <;> omega)); done))) | ((with_reducible refine bl_set ?_ _ ?_); (focus ((first | omega | (simp <;> omega)); done))) | (with_reducible refine below_drewN ?_ _) | (with_reducible refine Below.drew ?_) | ((with_reducible refine bl_trans ?_ hb ?_); (focus ((first | omega | (simp <;> omega)); done))) | ((with_reducible refine bl_trans ?_ H1.out ?_); (focus ((first | omega | (simp <;> omega)); done))))); have z2 := H2.out.size))
        | (go_at_call 40; ((with_reducible refine (HC3.out _).mono ?_); rintro e v3 ⟨rfl, hb⟩; have H3 := Lib.hid (show Below w.heap.size w v3 by repeat (first | (with_reducible exact Below.refl _ _) | (with_reducible assumption) | ((with_reducible refine bl_alloc ?_ _ ?_); (focus ((first | omega | (simp <;> omega)); done))) | ((with_reducible refine bl_set ?_ _ ?_); (focus ((first | omega | (simp <;> omega)); done))) | (with_reducible refine below_drewN ?_ _) | (with_reducible refine Below.drew ?_) | ((with_reducible refine bl_trans ?_ hb ?_); (focus ((first | omega | (simp <;> omega)); done))) | ((with_reducible refine bl_trans ?_ H2.out ?_); (focus ((first | omega | (simp <;> omega)); done))))); have z3 := H3.out.size))
        | (go_at_call 40; ((with_reducible refine (HC4.out _).mono ?_); rintro e v4 ⟨rfl, hb⟩; have H4 := Lib.hid (show Below w.heap.size w v4 by repeat (first | (with_reducible exact Below.refl _ _) | (with_reducible assumption) | ((with_reducible refine bl_alloc ?_ _ ?_); (focus ((first | omega | (simp <;> omega)); done))) | ((with_reducible refine bl_set ?_ _ ?_); (focus ((first | omega | (simp <;> omega)); done))) | (with_reducible refine below_drewN ?_ _) | (with_reducible refine Below.drew ?_) | ((with_reducible refine bl_trans ?_ hb ?_); (focus ((first | omega | (simp <;> omega)); done))) | ((with_reducible refine bl_trans ?_ H3.out ?_); (focus ((first | omega | (simp <;> omega)); done))))); have z4 := H4.out.size))
        | (go_at_call 40; ((with_reducible refine (HC5.out _).mono ?_); rintro e v5 ⟨rfl, hb⟩; have H5 := Lib.hid (show Below w.heap.size w v5 by repeat (first | (with_reducible exact Below.refl _ _) | (with_reducible assumption) | ((with_reducible refine bl_alloc ?_ _ ?_); (focus ((first | omega | (simp <;> omega)); done))) | ((with_reducible refine bl_set ?_ _ ?_); (focus ((first | omega | (simp <;> omega)); done))) | (with_reducible refine below_drewN ?_ _) | (with_reducible refine Below.drew ?_) | ((with_reducible refine bl_trans ?_ hb ?_); (focus ((first | omega | (simp <;> omega)); done))) | ((with_reducible refine bl_trans ?_ H4.out ?_); (focus ((first | omega | (simp <;> omega)); done))))); have z5 := H5.out.size))
        | (go_at_call 40; ((with_reducible refine (HC6.out _).mono ?_); rintro e v6 ⟨rfl, hb⟩; have H6 := Lib.hid (show Below w.heap.size w v6 by repeat (first | (with_reducible exact Below.refl _ _) | (with_reducible assumption) | ((with_reducible refine bl_alloc ?_ _ ?_); (focus ((first | omega | (simp <;> omega)); done))) | ((with_reducible refine bl_set ?_ _ ?_); (focus ((first | omega | (simp <;> omega)); done))) | (with_reducible refine below_drewN ?_ _) | (with_reducible refine Below.drew ?_) | ((with_reducible refine bl_trans ?_ hb ?_); (focus ((first | omega | (simp <;> omega)); done))) | ((with_reducible refine bl_trans ?_ H5.out ?_); (focus ((first | omega | (simp <;> omega)); done))))); have z6 := H6.out.size))
        | (go_at_call 40; ((with_reducible refine (HC7.out _).mono ?_); rintro e v7 ⟨rfl, hb⟩; have H7 := Lib.hid (show Below w.heap.size w v7 by repeat (first | (with_reducible exact Below.refl _ _) | (with_reducible assumption) | ((with_reducible refine bl_alloc ?_ _ ?_); (focus ((first | omega | (simp <;> omega)); done))) | ((with_reducible refine bl_set ?_ _ ?_); (focus ((first | omega | (simp <;> omega)); done))) | (with_reducible refine below_drewN ?_ _) | (with_reducible refine Below.drew ?_) | ((with_reducible refine bl_trans ?_ hb ?_); (focus ((first | omega | (simp <;> omega)); done))) | ((with_reducible refine bl_trans ?_ H6.out ?_); (focus ((first | omega | (simp <;> omega)); done))))); have z7 := H7.out.size)))
    go_wp2_with fail
    go_ret
    exact ⟨rfl, H7.out⟩
set_option maxRecDepth 20000 in
set_option maxHeartbeats 8000000 in
theorem impl_any (w : World) (hT : PowTab w) (a0 : Int) (ia0 : In64 a0) (a1 : Int) (ia1 : In64 a1) (a2 : Int) (ia2 : In64 a2) (a3 : Int) (ia3 : In64 a3) (a4 : Int) (ia4 : In64 a4) (a5 : Int) (ia5 : In64 a5) (a6 : Int) (ia6 : In64 a6) (a7 : Int) (ia7 : In64 a7) (c : Bool) :
    Calls Tryd.prog 12 #[.agg #[.int .i64 a0, .int .i64 a1, .int .i64 a2, .int .i64 a3, .int .i64 a4, .int .i64 a5, .int .i64 a6, .int .i64 a7, .bool c]] w fun e w' => e = .returned (.string ⟨(pathT a0 a1 a2 a3 a4 a5 a6 a7 c).toArray⟩) ∧ Below w.heap.size w w' := by
  cases c with
  | true =>
    have HT := Lib.hid hT
    clear hT
    have HOK := Lib.hid (pathL_ok ia0 ia1 ia2 ia3 ia4 ia5 ia6 ia7)
    clear ia0 ia1 ia2 ia3 ia4 ia5 ia6 ia7
    obtain ⟨P, hP⟩ : ∃ P, P = pathL a0 a1 a2 a3 a4 a5 a6 a7 := ⟨_, rfl⟩
    have hPl : P.length = 8 := by rw [hP]; rfl
    have HML := Lib.hid (pathK_len (ps := P) (by rw [hPl, hP]; exact HOK.out))
    have HPL := Lib.hid hPl
    unfold pathT; rw [if_pos rfl]
    rw [← hP] at HOK ⊢
    obtain ⟨WR, hWR⟩ : ∃ WR, WR = w.alloc (.cells #[.int .i64 a0, .int .i64 a1, .int .i64 a2, .int .i64 a3, .int .i64 a4, .int .i64 a5, .int .i64 a6, .int .i64 a7, .bool true] 25) := ⟨_, rfl⟩
    obtain ⟨WS, hWS⟩ : ∃ WS, WS = WR.alloc (.cells #[.string ⟨#[100, 105, 115, 116, 97, 110, 99, 101]⟩, .int .i64 a0, .string ⟨#[98, 101, 97, 114, 105, 110, 103]⟩, .int .i64 a1, .string ⟨#[101, 108, 101, 118, 97, 116, 105, 111, 110]⟩, .int .i64 a2, .string ⟨#[102, 114, 101, 101]⟩, .int .i64 a3, .string ⟨#[103, 97, 115]⟩, .int .i64 a4, .string ⟨#[100, 105, 102, 102, 114, 97, 99, 116, 105, 111, 110]⟩, .int .i64 a5, .string ⟨#[99, 108, 117, 116, 116, 101, 114]⟩, .int .i64 a6, .string ⟨#[116, 111, 116, 97, 108]⟩, .int .i64 a7] 67) := ⟨_, rfl⟩
    have HCS : Hid (∀ k, k < 8 → WS.cell? ⟨w.heap.size + 1, k * 2, none⟩ = some (.string ⟨(P.getD k ([], 0)).1.toArray⟩) ∧ WS.cell? ⟨w.heap.size + 1, k * 2 + 1, none⟩ = some (.int .i64 (P.getD k ([], 0)).2)) := by
      intro k hk
      rw [hP, hWS, hWR]
      match k, hk with
      | 0, _ => exact ⟨by simp [go_sem, pathL], by simp [go_sem, pathL]⟩
      | 1, _ => exact ⟨by simp [go_sem, pathL], by simp [go_sem, pathL]⟩
      | 2, _ => exact ⟨by simp [go_sem, pathL], by simp [go_sem, pathL]⟩
      | 3, _ => exact ⟨by simp [go_sem, pathL], by simp [go_sem, pathL]⟩
      | 4, _ => exact ⟨by simp [go_sem, pathL], by simp [go_sem, pathL]⟩
      | 5, _ => exact ⟨by simp [go_sem, pathL], by simp [go_sem, pathL]⟩
      | 6, _ => exact ⟨by simp [go_sem, pathL], by simp [go_sem, pathL]⟩
      | 7, _ => exact ⟨by simp [go_sem, pathL], by simp [go_sem, pathL]⟩
    have x8 : WS.cell? ⟨w.heap.size, 8, none⟩ = some (.bool true) := by rw [hWS, hWR]; simp [go_sem]
    have HWS := Lib.hid (show Below w.heap.size w WS by rw [hWS, hWR]; repeat (first | (with_reducible exact Below.refl _ _) | (with_reducible assumption) | ((with_reducible refine bl_alloc ?_ _ ?_); (focus ((first | omega | (simp <;> omega)); done))) | ((with_reducible refine bl_set ?_ _ ?_); (focus ((first | omega | (simp <;> omega)); done))) | (with_reducible refine below_drewN ?_ _) | (with_reducible refine Below.drew ?_)))
    have zS : WS.heap.size = w.heap.size + 2 := by rw [hWS, hWR]; simp
    clear hP hPl
    go_enter Tryd.func12, Tryd.ntmps12
    go_wp2_with fail
    skip
    go_loopw [3, 32] (fun t i wr => ∃ k : Nat, k ≤ 8 ∧ t = .string ⟨(pathK P k).toArray⟩ ∧ i = .int .i64 (k : Int) ∧ Hid (Below WS.heap.size WS wr)) (fun _ i _ => 9 - (intOf i).toNat)
    case atStart => exact ⟨0, Nat.zero_le _, by rw [pathK_zero], rfl, (show Below _ _ _ by rw [hWS, hWR]; exact Below.refl _ _)⟩
    case round =>
      obtain ⟨k, hk, rfl, rfl, hbw⟩ := hrel
      have k0 : (0 : Int) ≤ (k : Int) := Int.natCast_nonneg _
      have zw := hbw.out.size
      have HBW := Lib.hid (show Below w.heap.size w wr from HWS.out.trans (hbw.out.mono (by omega)))
      have zW := HBW.out.size
      by_cases hlt : k < 8
      · have hlt' : (k : Int) < 8 := by omega
        obtain ⟨cx_, cy_⟩ := HCS.out k hlt
        have cx := (hbw.out.cell (p := ⟨w.heap.size + 1, k * 2, none⟩) (by show w.heap.size + 1 < _; omega)).trans cx_
        have cy := (hbw.out.cell (p := ⟨w.heap.size + 1, k * 2 + 1, none⟩) (by show w.heap.size + 1 < _; omega)).trans cy_
        clear cx_ cy_
        obtain ⟨ow, oi⟩ := HOK.out k hlt
        have ud := itoa_len oi
        have hT := HML.out k (by rw [HPL.out]; exact hk)
        have hst : Hid (pathK P (k + 1) = pathK P k ++ ((P.getD k ([], 0)).1 ++ [32] ++ Lib.itoa (P.getD k ([], 0)).2 ++ [32])) := by show _ = _; rw [pathK_next (by rw [HPL.out]; exact hlt)]; rfl
        obtain ⟨u, hu⟩ : ∃ u, u = (P.getD k ([], 0)).1 := ⟨_, rfl⟩
        obtain ⟨x, hx⟩ : ∃ x, x = (P.getD k ([], 0)).2 := ⟨_, rfl⟩
        rw [← hu] at cx ow hst
        rw [← hx] at cy oi ud hst
        clear hu hx
        have HX : Hid (∀ W : World, Below w.heap.size w W → Calls Tryd.prog 41 #[.int .i64 x] W fun e w' => e = .returned (.string ⟨(Lib.itoa x).toArray⟩) ∧ Below W.heap.size W w') := fun W hW => Decimal_any W (HT.out.below hW) x oi
        obtain ⟨E, hE⟩ : ∃ E, E = Lib.itoa x := ⟨_, rfl⟩
        rw [← hE] at ud hst HX
        clear hE oi
        have ha1 : ∀ W : World, (Op.stringOp .add ⟨u.toArray⟩ ⟨#[32]⟩).run Tryd.prog W = .ok (.string ⟨(u ++ [32]).toArray⟩) W := fun W => str_add u [32] (by simp; omega) W
        have ha2 : ∀ W : World, (Op.stringOp .add ⟨(u ++ [32]).toArray⟩ ⟨E.toArray⟩).run Tryd.prog W = .ok (.string ⟨(u ++ [32] ++ E).toArray⟩) W := fun W => str_add (u ++ [32]) E (by simp; omega) W
        have ha3 : ∀ W : World, (Op.stringOp .add ⟨(u ++ [32] ++ E).toArray⟩ ⟨#[32]⟩).run Tryd.prog W = .ok (.string ⟨(u ++ [32] ++ E ++ [32]).toArray⟩) W := fun W => str_add (u ++ [32] ++ E) [32] (by simp; omega) W
        have uM : (u ++ [32] ++ E ++ [32]).length ≤ 40 := by simp; omega
        obtain ⟨A1, hA1⟩ : ∃ A, A = u ++ [32] := ⟨_, rfl⟩
        rw [← hA1] at ha1 ha2 ha3 hst uM
        obtain ⟨A2, hA2⟩ : ∃ A, A = A1 ++ E := ⟨_, rfl⟩
        rw [← hA2] at ha2 ha3 hst uM
        obtain ⟨A3, hA3⟩ : ∃ A, A = A2 ++ [32] := ⟨_, rfl⟩
        rw [← hA3] at ha3 hst uM
        clear hA1 hA2 hA3
        obtain ⟨T, hTT⟩ : ∃ T, T = pathK P k := ⟨_, rfl⟩
        rw [← hTT] at hst hT ⊢
        have ha4 : ∀ W : World, (Op.stringOp .add ⟨T.toArray⟩ ⟨A3.toArray⟩).run Tryd.prog W = .ok (.string ⟨(T ++ A3).toArray⟩) W := fun W => str_add T A3 (by omega) W
        obtain ⟨V, hV⟩ : ∃ V, V = T ++ A3 := ⟨_, rfl⟩
        rw [← hV] at ha4 hst
        clear hTT hV hT uM ud ow
        have hWB := (show Below w.heap.size w (wr.alloc (.cells #[.string ⟨u.toArray⟩, .int .i64 x] 67)) by repeat (first | (with_reducible exact Below.refl _ _) | (with_reducible assumption) | ((with_reducible refine bl_alloc ?_ _ ?_); (focus ((first | omega | (simp <;> omega)); done))) | ((with_reducible refine bl_set ?_ _ ?_); (focus ((first | omega | (simp <;> omega)); done))) | (with_reducible refine below_drewN ?_ _) | (with_reducible refine Below.drew ?_) | ((with_reducible refine bl_trans ?_ HBW.out ?_); (focus ((first | omega | (simp <;> omega)); done)))))
        have HWB := Lib.hid hWB
        clear hWB
        have d0 : (wr.alloc (.cells #[.string ⟨u.toArray⟩, .int .i64 x] 67)).cell? ⟨wr.heap.size, 0, none⟩ = some (.string ⟨u.toArray⟩) := by simp [go_sem]
        have d1 : (wr.alloc (.cells #[.string ⟨u.toArray⟩, .int .i64 x] 67)).cell? ⟨wr.heap.size, 1, none⟩ = some (.int .i64 x) := by simp [go_sem]
        go_wp2_with fail
        go_region_held3 (fun w' => w'.cell? ⟨wr.heap.size, 0, none⟩ = some (.string ⟨u.toArray⟩) ∧ w'.cell? ⟨wr.heap.size, 1, none⟩ = some (.int .i64 x))
          (((try go_split_ands); (refine ⟨?_, ?_⟩ <;> (repeat (first | (with_reducible assumption) | (with_reducible refine cell_drew ?_) | (with_reducible refine cell_drewN ?_) | (with_reducible refine cell_alloc ?_ _) | (with_reducible refine keeps hb7 ?_) | fail)))))
          ((go_at_call 41; ((with_reducible refine (HX.out _ (by repeat (first | (with_reducible exact Below.refl _ _) | (with_reducible assumption) | ((with_reducible refine bl_alloc ?_ _ ?_); (focus ((first | omega | (simp <;> omega)); done))) | ((with_reducible refine bl_set ?_ _ ?_); (focus ((first | omega | (simp <;> omega)); done))) | (with_reducible refine below_drewN ?_ _) | (with_reducible refine Below.drew ?_) | ((with_reducible refine bl_trans ?_ HBW.out ?_); (focus ((first | omega | (simp <;> omega)); done)))))).mono ?_); rintro e w7 ⟨rfl, hb7⟩; have z7 := hb7.size)))
        have H7 := Lib.hid (show Below WS.heap.size WS w7 by repeat (first | (with_reducible exact Below.refl _ _) | (with_reducible assumption) | ((with_reducible refine bl_alloc ?_ _ ?_); (focus ((first | omega | (simp <;> omega)); done))) | ((with_reducible refine bl_set ?_ _ ?_); (focus ((first | omega | (simp <;> omega)); done))) | (with_reducible refine below_drewN ?_ _) | (with_reducible refine Below.drew ?_) | ((with_reducible refine bl_trans ?_ hb7 ?_); (focus ((first | omega | (simp <;> omega)); done))) | ((with_reducible refine bl_trans ?_ hbw.out ?_); (focus ((first | omega | (simp <;> omega)); done)))))
        clear hb7 cx cy d0 d1 x8
        go_wp2_with fail
        refine ⟨?_, ?_⟩
        · first
            | ((repeat apply Exists.intro); (refine ⟨?_, rfl⟩); exact ⟨k + 1, hlt, by rw [hst.out], rfl, H7⟩)
            | exact ⟨k + 1, hlt, by rw [hst.out], rfl, H7⟩
        · first | (simp [intOf]; done) | (simp [intOf]; omega)
      · have hge : 8 ≤ k := by omega
        have hgI : (8 : Int) ≤ (k : Int) := by omega
        have hk8 : k = 8 := by omega
        have hT := HML.out k (by rw [HPL.out]; exact hk)
        obtain ⟨T, hTT⟩ : ∃ T, T = pathK P k := ⟨_, rfl⟩
        have HTT : Hid (pathK P 8 = T) := by show _ = _; rw [hTT, hk8]
        rw [← hTT] at hT ⊢
        clear hTT hk8
        have y8 := (hbw.out.cell (p := ⟨w.heap.size, 8, none⟩) (by show w.heap.size < _; omega)).trans x8
        clear x8
        have hf1 : ∀ W : World, (Op.stringOp .add ⟨T.toArray⟩ ⟨#[99, 108, 101, 97, 114]⟩).run Tryd.prog W = .ok (.string ⟨(T ++ [99, 108, 101, 97, 114]).toArray⟩) W := fun W => str_add T [99, 108, 101, 97, 114] (by (try simp); omega) W
        have hf2 : ∀ W : World, (Op.stringOp .add ⟨T.toArray⟩ ⟨#[111, 98, 115, 116, 114, 117, 99, 116, 101, 100]⟩).run Tryd.prog W = .ok (.string ⟨(T ++ [111, 98, 115, 116, 114, 117, 99, 116, 101, 100]).toArray⟩) W := fun W => str_add T [111, 98, 115, 116, 114, 117, 99, 116, 101, 100] (by (try simp); omega) W
        obtain ⟨F1, hF1⟩ : ∃ F, F = T ++ [99, 108, 101, 97, 114] := ⟨_, rfl⟩
        obtain ⟨F2, hF2⟩ : ∃ F, F = T ++ [111, 98, 115, 116, 114, 117, 99, 116, 101, 100] := ⟨_, rfl⟩
        rw [← hF1] at hf1
        rw [← hF2] at hf2
        have HF1 := Lib.hid hF1
        have HF2 := Lib.hid hF2
        clear hF1 hF2 hT
        go_wp2_with fail
        go_ret
        have hfin : Hid (pathK P 8 ++ [99, 108, 101, 97, 114] = F1) := by show _ = _; rw [HTT.out, HF1.out]
        exact ⟨by rw [hfin.out] <;> rfl, HBW.out⟩
  | false =>
    have HT := Lib.hid hT
    clear hT
    have HOK := Lib.hid (pathL_ok ia0 ia1 ia2 ia3 ia4 ia5 ia6 ia7)
    clear ia0 ia1 ia2 ia3 ia4 ia5 ia6 ia7
    obtain ⟨P, hP⟩ : ∃ P, P = pathL a0 a1 a2 a3 a4 a5 a6 a7 := ⟨_, rfl⟩
    have hPl : P.length = 8 := by rw [hP]; rfl
    have HML := Lib.hid (pathK_len (ps := P) (by rw [hPl, hP]; exact HOK.out))
    have HPL := Lib.hid hPl
    unfold pathT; rw [if_neg (by decide)]
    rw [← hP] at HOK ⊢
    obtain ⟨WR, hWR⟩ : ∃ WR, WR = w.alloc (.cells #[.int .i64 a0, .int .i64 a1, .int .i64 a2, .int .i64 a3, .int .i64 a4, .int .i64 a5, .int .i64 a6, .int .i64 a7, .bool false] 25) := ⟨_, rfl⟩
    obtain ⟨WS, hWS⟩ : ∃ WS, WS = WR.alloc (.cells #[.string ⟨#[100, 105, 115, 116, 97, 110, 99, 101]⟩, .int .i64 a0, .string ⟨#[98, 101, 97, 114, 105, 110, 103]⟩, .int .i64 a1, .string ⟨#[101, 108, 101, 118, 97, 116, 105, 111, 110]⟩, .int .i64 a2, .string ⟨#[102, 114, 101, 101]⟩, .int .i64 a3, .string ⟨#[103, 97, 115]⟩, .int .i64 a4, .string ⟨#[100, 105, 102, 102, 114, 97, 99, 116, 105, 111, 110]⟩, .int .i64 a5, .string ⟨#[99, 108, 117, 116, 116, 101, 114]⟩, .int .i64 a6, .string ⟨#[116, 111, 116, 97, 108]⟩, .int .i64 a7] 67) := ⟨_, rfl⟩
    have HCS : Hid (∀ k, k < 8 → WS.cell? ⟨w.heap.size + 1, k * 2, none⟩ = some (.string ⟨(P.getD k ([], 0)).1.toArray⟩) ∧ WS.cell? ⟨w.heap.size + 1, k * 2 + 1, none⟩ = some (.int .i64 (P.getD k ([], 0)).2)) := by
      intro k hk
      rw [hP, hWS, hWR]
      match k, hk with
      | 0, _ => exact ⟨by simp [go_sem, pathL], by simp [go_sem, pathL]⟩
      | 1, _ => exact ⟨by simp [go_sem, pathL], by simp [go_sem, pathL]⟩
      | 2, _ => exact ⟨by simp [go_sem, pathL], by simp [go_sem, pathL]⟩
      | 3, _ => exact ⟨by simp [go_sem, pathL], by simp [go_sem, pathL]⟩
      | 4, _ => exact ⟨by simp [go_sem, pathL], by simp [go_sem, pathL]⟩
      | 5, _ => exact ⟨by simp [go_sem, pathL], by simp [go_sem, pathL]⟩
      | 6, _ => exact ⟨by simp [go_sem, pathL], by simp [go_sem, pathL]⟩
      | 7, _ => exact ⟨by simp [go_sem, pathL], by simp [go_sem, pathL]⟩
    have x8 : WS.cell? ⟨w.heap.size, 8, none⟩ = some (.bool false) := by rw [hWS, hWR]; simp [go_sem]
    have HWS := Lib.hid (show Below w.heap.size w WS by rw [hWS, hWR]; repeat (first | (with_reducible exact Below.refl _ _) | (with_reducible assumption) | ((with_reducible refine bl_alloc ?_ _ ?_); (focus ((first | omega | (simp <;> omega)); done))) | ((with_reducible refine bl_set ?_ _ ?_); (focus ((first | omega | (simp <;> omega)); done))) | (with_reducible refine below_drewN ?_ _) | (with_reducible refine Below.drew ?_)))
    have zS : WS.heap.size = w.heap.size + 2 := by rw [hWS, hWR]; simp
    clear hP hPl
    go_enter Tryd.func12, Tryd.ntmps12
    go_wp2_with fail
    skip
    go_loopw [3, 32] (fun t i wr => ∃ k : Nat, k ≤ 8 ∧ t = .string ⟨(pathK P k).toArray⟩ ∧ i = .int .i64 (k : Int) ∧ Hid (Below WS.heap.size WS wr)) (fun _ i _ => 9 - (intOf i).toNat)
    case atStart => exact ⟨0, Nat.zero_le _, by rw [pathK_zero], rfl, (show Below _ _ _ by rw [hWS, hWR]; exact Below.refl _ _)⟩
    case round =>
      obtain ⟨k, hk, rfl, rfl, hbw⟩ := hrel
      have k0 : (0 : Int) ≤ (k : Int) := Int.natCast_nonneg _
      have zw := hbw.out.size
      have HBW := Lib.hid (show Below w.heap.size w wr from HWS.out.trans (hbw.out.mono (by omega)))
      have zW := HBW.out.size
      by_cases hlt : k < 8
      · have hlt' : (k : Int) < 8 := by omega
        obtain ⟨cx_, cy_⟩ := HCS.out k hlt
        have cx := (hbw.out.cell (p := ⟨w.heap.size + 1, k * 2, none⟩) (by show w.heap.size + 1 < _; omega)).trans cx_
        have cy := (hbw.out.cell (p := ⟨w.heap.size + 1, k * 2 + 1, none⟩) (by show w.heap.size + 1 < _; omega)).trans cy_
        clear cx_ cy_
        obtain ⟨ow, oi⟩ := HOK.out k hlt
        have ud := itoa_len oi
        have hT := HML.out k (by rw [HPL.out]; exact hk)
        have hst : Hid (pathK P (k + 1) = pathK P k ++ ((P.getD k ([], 0)).1 ++ [32] ++ Lib.itoa (P.getD k ([], 0)).2 ++ [32])) := by show _ = _; rw [pathK_next (by rw [HPL.out]; exact hlt)]; rfl
        obtain ⟨u, hu⟩ : ∃ u, u = (P.getD k ([], 0)).1 := ⟨_, rfl⟩
        obtain ⟨x, hx⟩ : ∃ x, x = (P.getD k ([], 0)).2 := ⟨_, rfl⟩
        rw [← hu] at cx ow hst
        rw [← hx] at cy oi ud hst
        clear hu hx
        have HX : Hid (∀ W : World, Below w.heap.size w W → Calls Tryd.prog 41 #[.int .i64 x] W fun e w' => e = .returned (.string ⟨(Lib.itoa x).toArray⟩) ∧ Below W.heap.size W w') := fun W hW => Decimal_any W (HT.out.below hW) x oi
        obtain ⟨E, hE⟩ : ∃ E, E = Lib.itoa x := ⟨_, rfl⟩
        rw [← hE] at ud hst HX
        clear hE oi
        have ha1 : ∀ W : World, (Op.stringOp .add ⟨u.toArray⟩ ⟨#[32]⟩).run Tryd.prog W = .ok (.string ⟨(u ++ [32]).toArray⟩) W := fun W => str_add u [32] (by simp; omega) W
        have ha2 : ∀ W : World, (Op.stringOp .add ⟨(u ++ [32]).toArray⟩ ⟨E.toArray⟩).run Tryd.prog W = .ok (.string ⟨(u ++ [32] ++ E).toArray⟩) W := fun W => str_add (u ++ [32]) E (by simp; omega) W
        have ha3 : ∀ W : World, (Op.stringOp .add ⟨(u ++ [32] ++ E).toArray⟩ ⟨#[32]⟩).run Tryd.prog W = .ok (.string ⟨(u ++ [32] ++ E ++ [32]).toArray⟩) W := fun W => str_add (u ++ [32] ++ E) [32] (by simp; omega) W
        have uM : (u ++ [32] ++ E ++ [32]).length ≤ 40 := by simp; omega
        obtain ⟨A1, hA1⟩ : ∃ A, A = u ++ [32] := ⟨_, rfl⟩
        rw [← hA1] at ha1 ha2 ha3 hst uM
        obtain ⟨A2, hA2⟩ : ∃ A, A = A1 ++ E := ⟨_, rfl⟩
        rw [← hA2] at ha2 ha3 hst uM
        obtain ⟨A3, hA3⟩ : ∃ A, A = A2 ++ [32] := ⟨_, rfl⟩
        rw [← hA3] at ha3 hst uM
        clear hA1 hA2 hA3
        obtain ⟨T, hTT⟩ : ∃ T, T = pathK P k := ⟨_, rfl⟩
        rw [← hTT] at hst hT ⊢
        have ha4 : ∀ W : World, (Op.stringOp .add ⟨T.toArray⟩ ⟨A3.toArray⟩).run Tryd.prog W = .ok (.string ⟨(T ++ A3).toArray⟩) W := fun W => str_add T A3 (by omega) W
        obtain ⟨V, hV⟩ : ∃ V, V = T ++ A3 := ⟨_, rfl⟩
        rw [← hV] at ha4 hst
        clear hTT hV hT uM ud ow
        have hWB := (show Below w.heap.size w (wr.alloc (.cells #[.string ⟨u.toArray⟩, .int .i64 x] 67)) by repeat (first | (with_reducible exact Below.refl _ _) | (with_reducible assumption) | ((with_reducible refine bl_alloc ?_ _ ?_); (focus ((first | omega | (simp <;> omega)); done))) | ((with_reducible refine bl_set ?_ _ ?_); (focus ((first | omega | (simp <;> omega)); done))) | (with_reducible refine below_drewN ?_ _) | (with_reducible refine Below.drew ?_) | ((with_reducible refine bl_trans ?_ HBW.out ?_); (focus ((first | omega | (simp <;> omega)); done)))))
        have HWB := Lib.hid hWB
        clear hWB
        have d0 : (wr.alloc (.cells #[.string ⟨u.toArray⟩, .int .i64 x] 67)).cell? ⟨wr.heap.size, 0, none⟩ = some (.string ⟨u.toArray⟩) := by simp [go_sem]
        have d1 : (wr.alloc (.cells #[.string ⟨u.toArray⟩, .int .i64 x] 67)).cell? ⟨wr.heap.size, 1, none⟩ = some (.int .i64 x) := by simp [go_sem]
        go_wp2_with fail
        go_region_held3 (fun w' => w'.cell? ⟨wr.heap.size, 0, none⟩ = some (.string ⟨u.toArray⟩) ∧ w'.cell? ⟨wr.heap.size, 1, none⟩ = some (.int .i64 x))
          (((try go_split_ands); (refine ⟨?_, ?_⟩ <;> (repeat (first | (with_reducible assumption) | (with_reducible refine cell_drew ?_) | (with_reducible refine cell_drewN ?_) | (with_reducible refine cell_alloc ?_ _) | (with_reducible refine keeps hb7 ?_) | fail)))))
          ((go_at_call 41; ((with_reducible refine (HX.out _ (by repeat (first | (with_reducible exact Below.refl _ _) | (with_reducible assumption) | ((with_reducible refine bl_alloc ?_ _ ?_); (focus ((first | omega | (simp <;> omega)); done))) | ((with_reducible refine bl_set ?_ _ ?_); (focus ((first | omega | (simp <;> omega)); done))) | (with_reducible refine below_drewN ?_ _) | (with_reducible refine Below.drew ?_) | ((with_reducible refine bl_trans ?_ HBW.out ?_); (focus ((first | omega | (simp <;> omega)); done)))))).mono ?_); rintro e w7 ⟨rfl, hb7⟩; have z7 := hb7.size)))
        have H7 := Lib.hid (show Below WS.heap.size WS w7 by repeat (first | (with_reducible exact Below.refl _ _) | (with_reducible assumption) | ((with_reducible refine bl_alloc ?_ _ ?_); (focus ((first | omega | (simp <;> omega)); done))) | ((with_reducible refine bl_set ?_ _ ?_); (focus ((first | omega | (simp <;> omega)); done))) | (with_reducible refine below_drewN ?_ _) | (with_reducible refine Below.drew ?_) | ((with_reducible refine bl_trans ?_ hb7 ?_); (focus ((first | omega | (simp <;> omega)); done))) | ((with_reducible refine bl_trans ?_ hbw.out ?_); (focus ((first | omega | (simp <;> omega)); done)))))
        clear hb7 cx cy d0 d1 x8
        go_wp2_with fail
        refine ⟨?_, ?_⟩
        · first
            | ((repeat apply Exists.intro); (refine ⟨?_, rfl⟩); exact ⟨k + 1, hlt, by rw [hst.out], rfl, H7⟩)
            | exact ⟨k + 1, hlt, by rw [hst.out], rfl, H7⟩
        · first | (simp [intOf]; done) | (simp [intOf]; omega)
      · have hge : 8 ≤ k := by omega
        have hgI : (8 : Int) ≤ (k : Int) := by omega
        have hk8 : k = 8 := by omega
        have hT := HML.out k (by rw [HPL.out]; exact hk)
        obtain ⟨T, hTT⟩ : ∃ T, T = pathK P k := ⟨_, rfl⟩
        have HTT : Hid (pathK P 8 = T) := by show _ = _; rw [hTT, hk8]
        rw [← hTT] at hT ⊢
        clear hTT hk8
        have y8 := (hbw.out.cell (p := ⟨w.heap.size, 8, none⟩) (by show w.heap.size < _; omega)).trans x8
        clear x8
        have hf1 : ∀ W : World, (Op.stringOp .add ⟨T.toArray⟩ ⟨#[99, 108, 101, 97, 114]⟩).run Tryd.prog W = .ok (.string ⟨(T ++ [99, 108, 101, 97, 114]).toArray⟩) W := fun W => str_add T [99, 108, 101, 97, 114] (by (try simp); omega) W
        have hf2 : ∀ W : World, (Op.stringOp .add ⟨T.toArray⟩ ⟨#[111, 98, 115, 116, 114, 117, 99, 116, 101, 100]⟩).run Tryd.prog W = .ok (.string ⟨(T ++ [111, 98, 115, 116, 114, 117, 99, 116, 101, 100]).toArray⟩) W := fun W => str_add T [111, 98, 115, 116, 114, 117, 99, 116, 101, 100] (by (try simp); omega) W
        obtain ⟨F1, hF1⟩ : ∃ F, F = T ++ [99, 108, 101, 97, 114] := ⟨_, rfl⟩
        obtain ⟨F2, hF2⟩ : ∃ F, F = T ++ [111, 98, 115, 116, 114, 117, 99, 116, 101, 100] := ⟨_, rfl⟩
        rw [← hF1] at hf1
        rw [← hF2] at hf2
        have HF1 := Lib.hid hF1
        have HF2 := Lib.hid hF2
        clear hF1 hF2 hT
        go_wp2_with fail
        go_ret
        have hfin : Hid (pathK P 8 ++ [111, 98, 115, 116, 114, 117, 99, 116, 101, 100] = F2) := by show _ = _; rw [HTT.out, HF2.out]
        exact ⟨by rw [hfin.out] <;> rfl, HBW.out⟩
set_option maxRecDepth 20000 in
set_option maxHeartbeats 4000000 in
theorem walk (w : World) (hT : PowTab w) (a0_0 : Int) (ia0_0 : In64 a0_0) (a0_1 : Int) (ia0_1 : In64 a0_1) (a0_2 : Int) (ia0_2 : In64 a0_2) (a0_3 : Int) (ia0_3 : In64 a0_3) (a0_4 : Int) (ia0_4 : In64 a0_4) (a0_5 : Int) (ia0_5 : In64 a0_5) (a0_6 : Int) (ia0_6 : In64 a0_6) (a0_7 : Int) (ia0_7 : In64 a0_7) (b0_8 : Bool) :
    Calls Tryd.prog 3 #[.agg #[.int .i64 a0_0, .int .i64 a0_1, .int .i64 a0_2, .int .i64 a0_3, .int .i64 a0_4, .int .i64 a0_5, .int .i64 a0_6, .int .i64 a0_7, .bool b0_8]] w fun e w' => e = .returned (.bool true) ∧ Below w.heap.size w w' := by
  have HTab := Lib.hid hT
  clear hT
  go_enter Tryd.func3, Tryd.ntmps3
  go_wp2_with fail
  refine (toPath_any _ a0_0 a0_1 a0_2 a0_3 a0_4 a0_5 a0_6 a0_7 b0_8).mono ?_
  rintro e w1 ⟨rfl, hb⟩
  have z1 : w.heap.size + 1 ≤ w1.heap.size := by have := hb.size; simp at this; omega
  have H1 := Lib.hid (show Below w.heap.size w w1 by repeat (first | (with_reducible exact Below.refl _ _) | (with_reducible assumption) | ((with_reducible refine bl_alloc ?_ _ ?_); (focus ((first | omega | (simp <;> omega)); done))) | ((with_reducible refine bl_set ?_ _ ?_); (focus ((first | omega | (simp <;> omega)); done))) | (with_reducible refine below_drewN ?_ _) | (with_reducible refine Below.drew ?_) | ((with_reducible refine bl_trans ?_ hb ?_); (focus ((first | omega | (simp <;> omega)); done)))))
  have f0 := keeps hb (p := ⟨w.heap.size, 0, none⟩) (v := .int .i64 a0_0) (by simp [go_sem])
  have f1 := keeps hb (p := ⟨w.heap.size, 1, none⟩) (v := .int .i64 a0_1) (by simp [go_sem])
  have f2 := keeps hb (p := ⟨w.heap.size, 2, none⟩) (v := .int .i64 a0_2) (by simp [go_sem])
  have f3 := keeps hb (p := ⟨w.heap.size, 3, none⟩) (v := .int .i64 a0_3) (by simp [go_sem])
  have f4 := keeps hb (p := ⟨w.heap.size, 4, none⟩) (v := .int .i64 a0_4) (by simp [go_sem])
  have f5 := keeps hb (p := ⟨w.heap.size, 5, none⟩) (v := .int .i64 a0_5) (by simp [go_sem])
  have f6 := keeps hb (p := ⟨w.heap.size, 6, none⟩) (v := .int .i64 a0_6) (by simp [go_sem])
  have f7 := keeps hb (p := ⟨w.heap.size, 7, none⟩) (v := .int .i64 a0_7) (by simp [go_sem])
  have f8 := keeps hb (p := ⟨w.heap.size, 8, none⟩) (v := .bool b0_8) (by simp [go_sem])
  clear hb
  go_wp2_with fail
  refine (spec_any _ a0_0 ia0_0 a0_1 ia0_1 a0_2 ia0_2 a0_3 ia0_3 a0_4 ia0_4 a0_5 ia0_5 a0_6 ia0_6 a0_7 ia0_7 b0_8).mono ?_
  rintro e w2 ⟨rfl, hb⟩
  have H2 := Lib.hid (show Below w.heap.size w w2 by repeat (first | (with_reducible exact Below.refl _ _) | (with_reducible assumption) | ((with_reducible refine bl_alloc ?_ _ ?_); (focus ((first | omega | (simp <;> omega)); done))) | ((with_reducible refine bl_set ?_ _ ?_); (focus ((first | omega | (simp <;> omega)); done))) | (with_reducible refine below_drewN ?_ _) | (with_reducible refine Below.drew ?_) | ((with_reducible refine bl_trans ?_ hb ?_); (focus ((first | omega | (simp <;> omega)); done))) | ((with_reducible refine bl_trans ?_ H1.out ?_); (focus ((first | omega | (simp <;> omega)); done)))))
  have z2 := hb.size
  have g0 := keeps hb f0
  have g1 := keeps hb f1
  have g2 := keeps hb f2
  have g3 := keeps hb f3
  have g4 := keeps hb f4
  have g5 := keeps hb f5
  have g6 := keeps hb f6
  have g7 := keeps hb f7
  have g8 := keeps hb f8
  clear hb f0 f1 f2 f3 f4 f5 f6 f7 f8
  go_wp2_with fail
  refine (toPath_any _ a0_0 a0_1 a0_2 a0_3 a0_4 a0_5 a0_6 a0_7 b0_8).mono ?_
  rintro e w3 ⟨rfl, hb⟩
  have z3 := hb.size
  have H3 := Lib.hid (show Below w.heap.size w w3 by repeat (first | (with_reducible exact Below.refl _ _) | (with_reducible assumption) | ((with_reducible refine bl_alloc ?_ _ ?_); (focus ((first | omega | (simp <;> omega)); done))) | ((with_reducible refine bl_set ?_ _ ?_); (focus ((first | omega | (simp <;> omega)); done))) | (with_reducible refine below_drewN ?_ _) | (with_reducible refine Below.drew ?_) | ((with_reducible refine bl_trans ?_ hb ?_); (focus ((first | omega | (simp <;> omega)); done))) | ((with_reducible refine bl_trans ?_ H2.out ?_); (focus ((first | omega | (simp <;> omega)); done)))))
  clear hb
  go_wp2_with fail
  refine (impl_any _ (HTab.out.below H3.out) a0_0 ia0_0 a0_1 ia0_1 a0_2 ia0_2 a0_3 ia0_3 a0_4 ia0_4 a0_5 ia0_5 a0_6 ia0_6 a0_7 ia0_7 b0_8).mono ?_
  rintro e w4 ⟨rfl, hb⟩
  have z4 := hb.size
  have H4 := Lib.hid (show Below w.heap.size w w4 by repeat (first | (with_reducible exact Below.refl _ _) | (with_reducible assumption) | ((with_reducible refine bl_alloc ?_ _ ?_); (focus ((first | omega | (simp <;> omega)); done))) | ((with_reducible refine bl_set ?_ _ ?_); (focus ((first | omega | (simp <;> omega)); done))) | (with_reducible refine below_drewN ?_ _) | (with_reducible refine Below.drew ?_) | ((with_reducible refine bl_trans ?_ hb ?_); (focus ((first | omega | (simp <;> omega)); done))) | ((with_reducible refine bl_trans ?_ H3.out ?_); (focus ((first | omega | (simp <;> omega)); done)))))
  clear hb
  obtain ⟨R, hR⟩ : ∃ R, R = pathT a0_0 a0_1 a0_2 a0_3 a0_4 a0_5 a0_6 a0_7 b0_8 := ⟨_, rfl⟩
  rw [← hR]
  clear hR
  go_wp2_with fail
  go_ret
  exact ⟨rfl, H4.out⟩
end Go.Proofs.YtboglgkaelbdcaaDoor.fnExactPathText
