/-
  A contract of sort.Search: where a test's answers cross. The conditions are the hypotheses.
-/
import Derived.Test.YtedpdcdmemenhaaRows
import Derived.Test.YtedpdcdmemenhaaLib
import Derived.Shelf.Abstract
namespace Go.Proofs.Ytedpdcdmemenhaa
open Go.RowKit
set_option linter.unusedSimpArgs false
set_option linter.unusedVariables false
/-- Where the answers cross from no to yes. -/
def Cross (p : Nat → Bool) (n k : Nat) : Prop := k ≤ n ∧ (k = 0 ∨ p (k - 1) = false) ∧ (k = n ∨ p k = true)
set_option maxHeartbeats 4000000 in
set_option maxRecDepth 20000 in
theorem search_any (w : World) (g : Nat) (cb : Array Value) (n : Nat) (p : Nat → Bool) (eg : ∀ args w, (callFunc g args).run Try.prog w = .ok (.enter g args) w) (hn : n < 4611686018427387904)
    (hf : ∀ (w1 : World) (i : Nat), Below w.heap.size w w1 → i < n → Calls Try.prog g (#[.int .i64 i] ++ cb) w1 fun e w2 => e = .returned (.bool (p i)) ∧ Below w1.heap.size w1 w2) :
    Calls Try.prog 141 #[.int .i64 n, .func (.func g) #[] cb] w fun e w' => ∃ k : Nat, Cross p n k ∧ e = .returned (.int .i64 k) ∧ Below w.heap.size w w' := by
  have HF := Lib.hid hf
  clear hf
  go_enter Try.func141, Try.ntmps141
  go_wp2_with fail
  go_loopw [5, 6] (fun a b wr => ∃ (lo hi : Nat), a = .int .i64 lo ∧ b = .int .i64 hi ∧ lo ≤ hi ∧ hi ≤ n ∧ Hid ((lo = 0 ∨ p (lo - 1) = false) ∧ (hi = n ∨ p hi = true)) ∧ Hid (Below w.heap.size w wr)) (fun a b _ => (intOf b - intOf a).toNat)
  case atStart => exact ⟨0, n, rfl, rfl, by omega, by omega, ⟨.inl rfl, .inl rfl⟩, Below.refl _ _⟩
  case round =>
    obtain ⟨lo, hi, rfl, rfl, l1, l2, hp, hb⟩ := hrel
    by_cases hlt : lo < hi
    · have hlt' : (lo : Int) < (hi : Int) := by omega
      have l0 : (0 : Int) ≤ (lo : Int) := by omega
      have hm : (((lo + hi) / 2 : Nat) : Int) = ((lo : Int) + (hi : Int)) / 2 := by omega
      obtain ⟨c0, c1⟩ := hp.out
      cases hv : p ((lo + hi) / 2)
      · have hc := HF.out _ ((lo + hi) / 2) hb.out (by omega)
        rw [hm, hv] at hc
        have hp' : Hid (((lo + hi) / 2 + 1 = 0 ∨ p ((lo + hi) / 2 + 1 - 1) = false) ∧ (hi = n ∨ p hi = true)) := ⟨.inr (by rw [Nat.add_sub_cancel]; exact hv), c1⟩
        have HC := Lib.hid hc
        clear c0 c1 hv hp hc
        go_wp2_with (go_at_fn g; refine HC.out.mono ?_; rintro e w' ⟨rfl, hb2⟩)
        have hb' := Lib.hid (hb.out.trans (hb2.mono hb.out.size))
        go_roundw
        case rel => exact ⟨(lo + hi) / 2 + 1, hi, by rw [Int.natCast_add, hm]; rfl, rfl, by omega, l2, hp', hb'⟩
        case measure => simp [intOf]; omega
      · have hc := HF.out _ ((lo + hi) / 2) hb.out (by omega)
        rw [hm, hv] at hc
        have hp' : Hid ((lo = 0 ∨ p (lo - 1) = false) ∧ ((lo + hi) / 2 = n ∨ p ((lo + hi) / 2) = true)) := ⟨c0, .inr hv⟩
        have HC := Lib.hid hc
        clear c0 c1 hv hp hc
        go_wp2_with (go_at_fn g; refine HC.out.mono ?_; rintro e w' ⟨rfl, hb2⟩)
        have hb' := Lib.hid (hb.out.trans (hb2.mono hb.out.size))
        go_roundw
        case rel => exact ⟨lo, (lo + hi) / 2, rfl, by rw [hm], by omega, by omega, hp', hb'⟩
        case measure => simp [intOf]; omega
    · obtain rfl : lo = hi := by omega
      have hx : decide ((lo : Int) < (lo : Int)) = false := decide_eq_false (by omega)
      have HK : Hid (Cross p n lo) := ⟨l2, hp.out.1, hp.out.2⟩
      clear hp
      go_wp2_with fail
      go_ret
      exact ⟨lo, HK.out, rfl, hb.out⟩
end Go.Proofs.Ytedpdcdmemenhaa
