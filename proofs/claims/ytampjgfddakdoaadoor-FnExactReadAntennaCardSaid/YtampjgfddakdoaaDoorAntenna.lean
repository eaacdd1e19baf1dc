/-
  Contracts of the laws' own helpers over Antenna values: copy, size, comparison, marking. The conditions are the hypotheses.
-/
import Derived.Test.YtampjgfddakdoaaDoorRows
import Derived.Test.YtampjgfddakdoaaDoorLib
import Derived.Test.YtampjgfddakdoaaDoorInts
namespace Go.Proofs.YtampjgfddakdoaaDoor
open Go.RowKit
set_option linter.unusedSimpArgs false
set_option linter.unusedVariables false
theorem eqAntenna_any (s0 : ByteArray) (a1 : Int) (w : World) (a2' b2' : Value) (x2 : List Int) (p2 q2 : Nat) (h2 : Row 2 w p2 a2' x2) (k2 : Row 2 w q2 b2' x2) (a3' b3' : Value) (x3 : List Int) (p3 q3 : Nat) (h3 : Row 2 w p3 a3' x3) (k3 : Row 2 w q3 b3' x3) :
    Calls Tryd.prog 18 #[.agg #[.string s0, .int .i64 a1, a2', a3'], .agg #[.string s0, .int .i64 a1, b2', b3']] w fun e w' => e = .returned (.bool true) ∧ Below w.heap.size w w' := by
  have H2 := Lib.hid h2
  have K2 := Lib.hid k2
  clear h2 k2
  have H3 := Lib.hid h3
  have K3 := Lib.hid k3
  clear h3 k3
  go_enter Tryd.func18, Tryd.ntmps18
  go_wp2_with fail
  refine (eq_rows _ _ x2 p2 q2 _ ((H2.out.alloc_ _).alloc_ _) ((K2.out.alloc_ _).alloc_ _)).mono ?_
  rintro e w0 ⟨rfl, m0, rfl⟩
  go_wp2_with fail
  refine (eq_rows _ _ x3 p3 q3 _ (((H3.out.alloc_ _).alloc_ _).drewN m0) (((K3.out.alloc_ _).alloc_ _).drewN m0)).mono ?_
  rintro e w1 ⟨rfl, m1, rfl⟩
  go_wp2_with fail
  go_ret
  exact ⟨rfl, by repeat (first | (with_reducible exact Below.refl _ _) | (with_reducible assumption) | ((with_reducible refine bl_alloc ?_ _ ?_); (focus ((first | omega | (simp <;> omega)); done))) | ((with_reducible refine bl_set ?_ _ ?_); (focus ((first | omega | (simp <;> omega)); done))) | (with_reducible refine below_drewN ?_ _) | (with_reducible refine Below.drew ?_))⟩
theorem markAntenna_any (s0 : ByteArray) (a1 : Int) (w : World) (K : Int) (a2' : Value) (x2 : List Int) (p2 : Nat) (h2 : Row 2 w p2 a2' x2) (a3' : Value) (x3 : List Int) (p3 : Nat) (h3 : Row 2 w p3 a3' x3) (hA : Apart a2' a3') (hK0 : 0 ≤ K) (hK : K + x2.length + x3.length ≤ 1000000000) :
    Calls Tryd.prog 19 #[.agg #[.string s0, .int .i64 a1, a2', a3'], .int .i64 K] w fun e w' => e = .returned (.int .i64 (K + x2.length + x3.length)) ∧ Row 2 w' p2 a2' (seqFrom (K) x2.length) ∧ Row 2 w' p3 a3' (seqFrom (K + x2.length) x3.length) ∧ Writes w w' (fun g => a2'.ownBlock = some g ∨ a3'.ownBlock = some g) := by
  have H2 := Lib.hid h2
  clear h2
  have H3 := Lib.hid h3
  clear h3
  have HA := Lib.hid hA
  clear hA
  go_enter Tryd.func19, Tryd.ntmps19
  go_wp2_with fail
  refine (mark_row _ x2 K p2 _ (H2.out.alloc_ _) hK0 (by omega)).mono ?_
  rintro e w1 ⟨rfl, r1, g1⟩
  have R2 := Lib.hid r1
  have G1 : Hid (Writes w w1 (fun g => a2'.ownBlock = some g ∨ a3'.ownBlock = some g)) := Writes.trans (Writes.of_below (by repeat (first | (with_reducible exact Below.refl _ _) | (with_reducible assumption) | ((with_reducible refine bl_alloc ?_ _ ?_); (focus ((first | omega | (simp <;> omega)); done))) | ((with_reducible refine bl_set ?_ _ ?_); (focus ((first | omega | (simp <;> omega)); done))) | (with_reducible refine below_drewN ?_ _) | (with_reducible refine Below.drew ?_))) _) (Writes.of_grown g1 (fun g h => .inl h))
  have l1 := H2.out.lt
  have c1 : w1.cell? ⟨w.heap.size, 3, none⟩ = some a3' := g1.cell (by simp) (fun h => by have := l1 _ h.symm; simp at this)
  have R3 := Lib.hid ((H3.out.alloc_ (.cells #[.string s0, .int .i64 a1, a2', a3'] 38)).writes (Writes.of_grown g1 (S := fun g => a2'.ownBlock = some g) (fun g h => h)) (fun g h h' => HA.out g h' h))
  clear r1 g1 l1
  go_wp2_with fail
  refine (mark_row _ x3 (K + x2.length) p3 _ R3.out (by omega) (by omega)).mono ?_
  rintro e w2 ⟨rfl, r2, g2⟩
  have R2' := Lib.hid (R2.out.writes (Writes.of_grown g2 (S := fun g => a3'.ownBlock = some g) (fun g h => h)) (fun g h h' => HA.out g h h'))
  have G2 : Hid (Writes w w2 (fun g => a2'.ownBlock = some g ∨ a3'.ownBlock = some g)) := Writes.trans G1.out (Writes.of_grown g2 (fun g h => .inr h))
  have R3' := Lib.hid r2
  clear r2 g2
  go_wp2_with fail
  go_ret
  exact ⟨rfl, R2'.out, R3'.out, G2.out⟩
theorem heldAntenna_any (s0 : ByteArray) (a1 : Int) (w : World) (K : Int) (a2' : Value) (n2 : Nat) (p2 : Nat) (h2 : Row 2 w p2 a2' (seqFrom (K) n2)) (a3' : Value) (n3 : Nat) (p3 : Nat) (h3 : Row 2 w p3 a3' (seqFrom (K + n2) n3)) (hK0 : 0 ≤ K) (hK : K + n2 + n3 ≤ 1000000000) :
    Calls Tryd.prog 20 #[.agg #[.string s0, .int .i64 a1, a2', a3'], .int .i64 K] w fun e w' => e = .returned (.int .i64 (K + n2 + n3)) ∧ Below w.heap.size w w' := by
  have H2 := Lib.hid h2
  clear h2
  have H3 := Lib.hid h3
  clear h3
  go_enter Tryd.func20, Tryd.ntmps20
  go_wp2_with fail
  refine (held_row _ (K) n2 p2 _ (H2.out.alloc_ _) (by omega) (by omega)).mono ?_
  rintro e w0 ⟨rfl, rfl⟩
  go_wp2_with fail
  refine (held_row _ (K + n2) n3 p3 _ (H3.out.alloc_ _) (by omega) (by omega)).mono ?_
  rintro e w1 ⟨rfl, rfl⟩
  go_wp2_with fail
  go_ret
  exact ⟨rfl, by repeat (first | (with_reducible exact Below.refl _ _) | (with_reducible assumption) | ((with_reducible refine bl_alloc ?_ _ ?_); (focus ((first | omega | (simp <;> omega)); done))) | ((with_reducible refine bl_set ?_ _ ?_); (focus ((first | omega | (simp <;> omega)); done))) | (with_reducible refine below_drewN ?_ _) | (with_reducible refine Below.drew ?_))⟩
end Go.Proofs.YtampjgfddakdoaaDoor
