/-
  Contracts of the tests of the ranges: of a loss and of a field. The conditions are the hypotheses.
-/
import Derived.Test.YtbmmgkicgcdpmaaDoorRows
import Derived.Test.YtbmmgkicgcdpmaaDoorLib
import Derived.Test.YtbmmgkicgcdpmaaDoorLast
import Derived.Test.YtbmmgkicgcdpmaaDoorFree
import Derived.Outline
import Derived.Deep.RegionHeld3
import Derived.Deep.DrawnRows
namespace Go.Proofs.YtbmmgkicgcdpmaaDoor
open Go.RowKit
set_option linter.unusedSimpArgs false
set_option linter.unusedVariables false
def lossSo (f loss d : Int) : Bool := decide (freeV f d ≤ loss)
def fieldSo (eirp field d : Int) : Bool := decide (field ≤ eirp - 2 * logV d + 104771)
theorem lossSo_falls {f loss : Int} : ∀ a b, 1 ≤ a → a ≤ b → b ≤ 283000 → lossSo f loss b = true → lossSo f loss a = true := by
  intro a b h1 h2 h3 h
  have := logV_mono h2 (by omega)
  have h := of_decide_eq_true h
  refine decide_eq_true ?_
  unfold freeV at *
  omega
theorem fieldSo_falls {e f : Int} : ∀ a b, 1 ≤ a → a ≤ b → b ≤ 283000 → fieldSo e f b = true → fieldSo e f a = true := by
  intro a b h1 h2 h3 h
  have := logV_mono h2 (by omega)
  have h := of_decide_eq_true h
  refine decide_eq_true ?_
  omega
theorem rangeV_bd (so : Int → Bool) : 0 ≤ rangeV so ∧ rangeV so ≤ 283000 := ⟨(rangeV_is so).1, (rangeV_is so).2.1⟩
attribute [local go_sem ↓] Go.wp_at_zero Go.wp_at_succ
theorem rangeLoss_one (w : World) (hT : PowTab w) (b0 b1 : Nat) (f loss d : Int) (c0 : w.cell? ⟨b0, 0, none⟩ = some (.int .i64 f)) (c1 : w.cell? ⟨b1, 0, none⟩ = some (.int .i64 loss)) (f0 : 1 ≤ f) (f1 : f ≤ 100000000) (d0 : 1 ≤ d) (d1 : d ≤ 283000) :
    Calls Tryd.prog 63 (#[.int .i64 d] ++ #[.pointer (some ⟨b0, 0, none⟩), .pointer (some ⟨b1, 0, none⟩)]) w fun e w' => e = .returned (.bool (lossSo f loss d)) ∧ Below w.heap.size w w' := by
  have HV : Hid (lossSo f loss d = decide (freeV f d ≤ loss)) := rfl
  have HT := Lib.hid hT
  clear hT
  have F0 := Lib.hid f0
  have F1 := Lib.hid f1
  have D0 := Lib.hid d0
  have D1 := Lib.hid (show d ≤ 100000000 by omega)
  go_enter Tryd.func63, Tryd.ntmps63
  go_wp2_with fail
  go_region_held3 (fun w' => w'.cell? ⟨b0, 0, none⟩ = some (.int .i64 f) ∧ w'.cell? ⟨b1, 0, none⟩ = some (.int .i64 loss))
    (first | (refine ⟨?_, ?_⟩ <;> assumption) | (go_split_ands; (refine ⟨?_, ?_⟩ <;> first | assumption | (refine keeps hb ?_; assumption))) | go_keep)
    (first | (go_at_call 56; ((with_reducible refine (freeLoss_any _ (PowTab.below HT.out (by repeat (first | (with_reducible exact Below.refl _ _) | (with_reducible assumption) | ((with_reducible refine bl_alloc ?_ _ ?_); (focus ((first | omega | (simp <;> omega)); done))) | ((with_reducible refine bl_set ?_ _ ?_); (focus ((first | omega | (simp <;> omega)); done))) | (with_reducible refine below_drewN ?_ _) | (with_reducible refine Below.drew ?_)))) f d F0.out F1.out D0.out D1.out).mono ?_); rintro e w1 ⟨rfl, hb⟩)))
  have H1 := Lib.hid (show Below w.heap.size w w1 by repeat (first | (with_reducible exact Below.refl _ _) | (with_reducible assumption) | ((with_reducible refine bl_alloc ?_ _ ?_); (focus ((first | omega | (simp <;> omega)); done))) | ((with_reducible refine bl_set ?_ _ ?_); (focus ((first | omega | (simp <;> omega)); done))) | (with_reducible refine below_drewN ?_ _) | (with_reducible refine Below.drew ?_) | ((with_reducible refine bl_trans ?_ hb ?_); (focus ((first | omega | (simp <;> omega)); done)))))
  clear hb
  go_wp2_with fail
  go_ret
  exact ⟨ret_bool HV.out.symm, H1.out⟩
theorem rangeField_one (w : World) (hT : PowTab w) (b0 b1 : Nat) (f g d : Int) (c0 : w.cell? ⟨b0, 0, none⟩ = some (.int .i64 f)) (c1 : w.cell? ⟨b1, 0, none⟩ = some (.int .i64 g)) (f0 : -300000 ≤ f) (f1 : f ≤ 300000) (d0 : 1 ≤ d) (d1 : d ≤ 283000) :
    Calls Tryd.prog 58 (#[.int .i64 d] ++ #[.pointer (some ⟨b0, 0, none⟩), .pointer (some ⟨b1, 0, none⟩)]) w fun e w' => e = .returned (.bool (fieldSo f g d)) ∧ Below w.heap.size w w' := by
  have HV : Hid (fieldSo f g d = decide (g ≤ f - 2 * logV d + 104771)) := rfl
  have HT := Lib.hid hT
  clear hT
  obtain ⟨k0, k1⟩ := logV_bd (n := d) (by omega)
  have ID := Lib.hid (show In64 d from ⟨by omega, by omega⟩)
  have i1 : IntKind.i64.wrap (2 * logV d) = 2 * logV d := by rw [IntKind.wrap_i64]; omega
  have i2 : IntKind.i64.wrap (f - 2 * logV d) = f - 2 * logV d := by rw [IntKind.wrap_i64]; omega
  have i3 : IntKind.i64.wrap (f - 2 * logV d + 104771) = f - 2 * logV d + 104771 := by rw [IntKind.wrap_i64]; omega
  go_enter Tryd.func58, Tryd.ntmps58
  go_wp2_with fail
  go_region_held3 (fun w' => w'.cell? ⟨b0, 0, none⟩ = some (.int .i64 f) ∧ w'.cell? ⟨b1, 0, none⟩ = some (.int .i64 g))
    (first | (refine ⟨?_, ?_⟩ <;> assumption) | (go_split_ands; (refine ⟨?_, ?_⟩ <;> first | assumption | (refine keeps hb ?_; assumption))) | go_keep)
    (first | (go_at_call 51; ((with_reducible refine (LogDb_any _ (PowTab.below HT.out (by repeat (first | (with_reducible exact Below.refl _ _) | (with_reducible assumption) | ((with_reducible refine bl_alloc ?_ _ ?_); (focus ((first | omega | (simp <;> omega)); done))) | ((with_reducible refine bl_set ?_ _ ?_); (focus ((first | omega | (simp <;> omega)); done))) | (with_reducible refine below_drewN ?_ _) | (with_reducible refine Below.drew ?_)))) d ID.out).mono ?_); rintro e w1 ⟨rfl, hb⟩)))
  have H1 := Lib.hid (show Below w.heap.size w w1 by repeat (first | (with_reducible exact Below.refl _ _) | (with_reducible assumption) | ((with_reducible refine bl_alloc ?_ _ ?_); (focus ((first | omega | (simp <;> omega)); done))) | ((with_reducible refine bl_set ?_ _ ?_); (focus ((first | omega | (simp <;> omega)); done))) | (with_reducible refine below_drewN ?_ _) | (with_reducible refine Below.drew ?_) | ((with_reducible refine bl_trans ?_ hb ?_); (focus ((first | omega | (simp <;> omega)); done)))))
  clear hb
  go_wp2_with fail
  go_ret
  exact ⟨ret_bool HV.out.symm, H1.out⟩
end Go.Proofs.YtbmmgkicgcdpmaaDoor
