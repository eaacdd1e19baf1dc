/-
  Contracts of the laws' own helpers over Mask values: copy, size, comparison, marking. The conditions are the hypotheses.
-/
import Derived.Test.YtampjgfddakdoaaDoorRows
import Derived.Test.YtampjgfddakdoaaDoorLib
import Derived.Test.YtampjgfddakdoaaDoorInts
namespace Go.Proofs.YtampjgfddakdoaaDoor
open Go.RowKit
set_option linter.unusedSimpArgs false
set_option linter.unusedVariables false
theorem eqMask_any (w : World) (a0' b0' : Value) (x0 : List Int) (p0 q0 : Nat) (h0 : Row 2 w p0 a0' x0) (k0 : Row 2 w q0 b0' x0) (a1' b1' : Value) (x1 : List Int) (p1 q1 : Nat) (h1 : Row 2 w p1 a1' x1) (k1 : Row 2 w q1 b1' x1) :
    Calls Tryd.prog 8 #[.agg #[a0', a1'], .agg #[b0', b1']] w fun e w' => e = .returned (.bool true) ∧ Below w.heap.size w w' := by
  have H0 := Lib.hid h0
  have K0 := Lib.hid k0
  clear h0 k0
  have H1 := Lib.hid h1
  have K1 := Lib.hid k1
  clear h1 k1
  go_enter Tryd.func8, Tryd.ntmps8
  go_wp2_with fail
  refine (eq_rows _ _ x0 p0 q0 _ ((H0.out.alloc_ _).alloc_ _) ((K0.out.alloc_ _).alloc_ _)).mono ?_
  rintro e w0 ⟨rfl, m0, rfl⟩
  go_wp2_with fail
  refine (eq_rows _ _ x1 p1 q1 _ (((H1.out.alloc_ _).alloc_ _).drewN m0) (((K1.out.alloc_ _).alloc_ _).drewN m0)).mono ?_
  rintro e w1 ⟨rfl, m1, rfl⟩
  go_wp2_with fail
  go_ret
  exact ⟨rfl, by repeat (first | (with_reducible exact Below.refl _ _) | (with_reducible assumption) | ((with_reducible refine bl_alloc ?_ _ ?_); (focus ((first | omega | (simp <;> omega)); done))) | ((with_reducible refine bl_set ?_ _ ?_); (focus ((first | omega | (simp <;> omega)); done))) | (with_reducible refine below_drewN ?_ _) | (with_reducible refine Below.drew ?_))⟩
theorem markMask_any (w : World) (K : Int) (a0' : Value) (x0 : List Int) (p0 : Nat) (h0 : Row 2 w p0 a0' x0) (a1' : Value) (x1 : List Int) (p1 : Nat) (h1 : Row 2 w p1 a1' x1) (hA : Apart a0' a1') (hK0 : 0 ≤ K) (hK : K + x0.length + x1.length ≤ 1000000000) :
    Calls Tryd.prog 9 #[.agg #[a0', a1'], .int .i64 K] w fun e w' => e = .returned (.int .i64 (K + x0.length + x1.length)) ∧ Row 2 w' p0 a0' (seqFrom (K) x0.length) ∧ Row 2 w' p1 a1' (seqFrom (K + x0.length) x1.length) ∧ Writes w w' (fun g => a0'.ownBlock = some g ∨ a1'.ownBlock = some g) := by
  have H0 := Lib.hid h0
  clear h0
  have H1 := Lib.hid h1
  clear h1
  have HA := Lib.hid hA
  clear hA
  go_enter Tryd.func9, Tryd.ntmps9
  go_wp2_with fail
  refine (mark_row _ x0 K p0 _ (H0.out.alloc_ _) hK0 (by omega)).mono ?_
  rintro e w1 ⟨rfl, r1, g1⟩
  have R0 := Lib.hid r1
  have G1 : Hid (Writes w w1 (fun g => a0'.ownBlock = some g ∨ a1'.ownBlock = some g)) := Writes.trans (Writes.of_below (by repeat (first | (with_reducible exact Below.refl _ _) | (with_reducible assumption) | ((with_reducible refine bl_alloc ?_ _ ?_); (focus ((first | omega | (simp <;> omega)); done))) | ((with_reducible refine bl_set ?_ _ ?_); (focus ((first | omega | (simp <;> omega)); done))) | (with_reducible refine below_drewN ?_ _) | (with_reducible refine Below.drew ?_))) _) (Writes.of_grown g1 (fun g h => .inl h))
  have l1 := H0.out.lt
  have c1 : w1.cell? ⟨w.heap.size, 1, none⟩ = some a1' := g1.cell (by simp) (fun h => by have := l1 _ h.symm; simp at this)
  have R1 := Lib.hid ((H1.out.alloc_ (.cells #[a0', a1'] 24)).writes (Writes.of_grown g1 (S := fun g => a0'.ownBlock = some g) (fun g h => h)) (fun g h h' => HA.out g h' h))
  clear r1 g1 l1
  go_wp2_with fail
  refine (mark_row _ x1 (K + x0.length) p1 _ R1.out (by omega) (by omega)).mono ?_
  rintro e w2 ⟨rfl, r2, g2⟩
  have R0' := Lib.hid (R0.out.writes (Writes.of_grown g2 (S := fun g => a1'.ownBlock = some g) (fun g h => h)) (fun g h h' => HA.out g h h'))
  have G2 : Hid (Writes w w2 (fun g => a0'.ownBlock = some g ∨ a1'.ownBlock = some g)) := Writes.trans G1.out (Writes.of_grown g2 (fun g h => .inr h))
  have R1' := Lib.hid r2
  clear r2 g2
  go_wp2_with fail
  go_ret
  exact ⟨rfl, R0'.out, R1'.out, G2.out⟩
theorem heldMask_any (w : World) (K : Int) (a0' : Value) (n0 : Nat) (p0 : Nat) (h0 : Row 2 w p0 a0' (seqFrom (K) n0)) (a1' : Value) (n1 : Nat) (p1 : Nat) (h1 : Row 2 w p1 a1' (seqFrom (K + n0) n1)) (hK0 : 0 ≤ K) (hK : K + n0 + n1 ≤ 1000000000) :
    Calls Tryd.prog 10 #[.agg #[a0', a1'], .int .i64 K] w fun e w' => e = .returned (.int .i64 (K + n0 + n1)) ∧ Below w.heap.size w w' := by
  have H0 := Lib.hid h0
  clear h0
  have H1 := Lib.hid h1
  clear h1
  go_enter Tryd.func10, Tryd.ntmps10
  go_wp2_with fail
  refine (held_row _ (K) n0 p0 _ (H0.out.alloc_ _) (by omega) (by omega)).mono ?_
  rintro e w0 ⟨rfl, rfl⟩
  go_wp2_with fail
  refine (held_row _ (K + n0) n1 p1 _ (H1.out.alloc_ _) (by omega) (by omega)).mono ?_
  rintro e w1 ⟨rfl, rfl⟩
  go_wp2_with fail
  go_ret
  exact ⟨rfl, by repeat (first | (with_reducible exact Below.refl _ _) | (with_reducible assumption) | ((with_reducible refine bl_alloc ?_ _ ?_); (focus ((first | omega | (simp <;> omega)); done))) | ((with_reducible refine bl_set ?_ _ ?_); (focus ((first | omega | (simp <;> omega)); done))) | (with_reducible refine below_drewN ?_ _) | (with_reducible refine Below.drew ?_))⟩
end Go.Proofs.YtampjgfddakdoaaDoor
