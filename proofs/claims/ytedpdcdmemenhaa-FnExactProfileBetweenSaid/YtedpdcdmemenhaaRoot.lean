/-
  Contracts of the square root rounded down: the program's by a search, the reference's by halving: one model. The conditions are the hypotheses.
-/
import Derived.Test.YtedpdcdmemenhaaRows
import Derived.Test.YtedpdcdmemenhaaLib
import Derived.Test.YtedpdcdmemenhaaRootMath
import Derived.Test.YtedpdcdmemenhaaMath
import Derived.Test.YtedpdcdmemenhaaSearch
namespace Go.Proofs.Ytedpdcdmemenhaa
open Go.RowKit
set_option linter.unusedSimpArgs false
set_option linter.unusedVariables false
theorem root_sq {r : Int} (h0 : 0 ≤ r) (h : r ≤ 3037000499) : 0 ≤ r * r ∧ r * r ≤ 9223372030926249001 := by
  have := mul_nn (A := 3037000499) (B := 3037000499) h0 h h0 h
  omega
theorem root_cross {n : Int} {k : Nat} (h0 : 0 ≤ n) (h1 : n ≤ 9223372036854775807) (h : Cross (fun r => decide (n < ((r : Int) + 1) * ((r : Int) + 1))) 3037000499 k) : rootV n = k := by
  obtain ⟨c0, c1, c2⟩ := h
  refine rootV_eq h1 ⟨Int.natCast_nonneg _, ?_, ?_⟩
  · rcases c1 with rfl | c1
    · simpa using h0
    · rcases Nat.eq_zero_or_pos k with rfl | hk
      · simpa using h0
      · have c1 := of_decide_eq_false c1
        rw [show (((k - 1 : Nat) : Int) + 1) = (k : Int) by omega] at c1
        omega
  · rcases c2 with rfl | c2
    · have : ((3037000499 : Nat) : Int) = 3037000499 := rfl
      rw [this]
      omega
    · exact of_decide_eq_true c2
theorem root_test (w : World) (b : Nat) (n r : Int) (hc : w.cell? ⟨b, 0, none⟩ = some (.int .i64 n)) (r0 : 0 ≤ r) (r1 : r < 3037000499) :
    Calls Try.prog 142 (#[.int .i64 r] ++ #[.pointer (some ⟨b, 0, none⟩)]) w fun e w' => e = .returned (.bool (decide (n < (r + 1) * (r + 1)))) ∧ Below w.heap.size w w' := by
  obtain ⟨m0, m1⟩ := root_sq (r := r + 1) (by omega) (by omega)
  go_enter Try.func142, Try.ntmps142
  go_wp2_with fail
  go_ret
  exact ⟨rfl, by repeat (first | (with_reducible exact Below.refl _ _) | (with_reducible assumption) | ((with_reducible refine bl_alloc ?_ _ ?_); (focus ((first | omega | (simp <;> omega)); done))) | ((with_reducible refine bl_set ?_ _ ?_); (focus ((first | omega | (simp <;> omega)); done))) | (with_reducible refine below_drewN ?_ _) | (with_reducible refine Below.drew ?_))⟩
theorem RootOf_any (w : World) (n : Int) (h0 : 0 ≤ n) (h1 : n ≤ 9223372036854775807) :
    Calls Try.prog 132 #[.int .i64 n] w fun e w' => e = .returned (.int .i64 (rootV n)) ∧ Below w.heap.size w w' := by
  have hcr : ∀ k : Nat, Cross (fun r => decide (n < ((r : Int) + 1) * ((r : Int) + 1))) 3037000499 k → rootV n = k := fun k => root_cross h0 h1
  have HC := Lib.hid hcr
  clear hcr
  go_enter Try.func132, Try.ntmps132
  go_wp2_with fail
  refine (search_any _ 142 _ 3037000499 (fun r => decide (n < ((r : Int) + 1) * ((r : Int) + 1))) (enters_of Try.func142 (by kernel_rfl) rfl) (by omega) ?_).mono ?_
  · intro w1 i hb hi
    exact root_test w1 _ n i (keeps hb (by simp [go_sem])) (by omega) (by omega)
  rintro e w1 ⟨k, hk, rfl, hb⟩
  have he := Lib.hid (HC.out k hk)
  have H1 := Lib.hid (show Below w.heap.size w w1 by repeat (first | (with_reducible exact Below.refl _ _) | (with_reducible assumption) | ((with_reducible refine bl_alloc ?_ _ ?_); (focus ((first | omega | (simp <;> omega)); done))) | ((with_reducible refine bl_set ?_ _ ?_); (focus ((first | omega | (simp <;> omega)); done))) | (with_reducible refine below_drewN ?_ _) | (with_reducible refine Below.drew ?_) | ((with_reducible refine bl_trans ?_ hb ?_); (focus ((first | omega | (simp <;> omega)); done)))))
  have k0 : (0 : Int) ≤ (k : Int) := Int.natCast_nonneg _
  have k1 : (k : Int) ≤ 3037000499 := by have := hk.1; omega
  clear hb hk
  go_wp2_with fail
  go_ret
  exact ⟨ret_int he.out.symm, H1.out⟩
set_option maxRecDepth 20000 in
theorem l01Root_any (w : World) (n : Int) :
    Calls Try.prog 130 #[.int .i64 n] w fun e w' => e = .returned (.int .i64 (rootV n)) ∧ w = w' := by
  have HP : Hid (rootV n = rootIt n 32 0 3037000499) := rfl
  generalize rootV n = P at *
  go_enter Try.func130, Try.ntmps130
  go_wp2_with fail
  go_loop [3, 4] (fun a b => ∃ (low high : Int) (f : Nat), a = .int .i64 low ∧ b = .int .i64 high ∧ 0 ≤ low ∧ low ≤ high ∧ high ≤ 3037000499 ∧ Hid (P = rootIt n f low high) ∧ Hid (high - low < 2 ^ f)) (fun a b => (intOf b - intOf a).toNat)
  case atStart => exact ⟨0, 3037000499, 32, rfl, rfl, by omega, by omega, by omega, HP, pow2_32⟩
  case round =>
    obtain ⟨low, high, f, rfl, rfl, l1, l2, l3, hp, hf⟩ := hrel
    by_cases hlt : low < high
    · obtain ⟨M, hM⟩ : ∃ M, M = (low + high + 1) / 2 := ⟨_, rfl⟩
      obtain ⟨g, rfl, g1, g2⟩ := root_step hlt hf.out
      have p1 := rootIt_up (n := n) (f := g) hlt
      have p2 := rootIt_dn (n := n) (f := g) hlt
      rw [← hM] at p1 p2 g1 g2
      have G1 := Lib.hid g1
      have G2 := Lib.hid g2
      have P1 := Lib.hid (fun h => hp.out.trans (p1 h))
      have P2 := Lib.hid (fun h => hp.out.trans (p2 h))
      have m1 : low < M := by omega
      have m2 : M ≤ high := by omega
      have hM' : (low + high + 1) / 2 = M := hM.symm
      have HM := Lib.hid hM
      obtain ⟨s0, s1⟩ := root_sq (r := M) (by omega) (by omega)
      clear hM p1 p2 g1 g2 hp hf
      by_cases hv : M * M ≤ n
      · have hp' := Lib.hid (P1.out hv)
        clear P1 P2
        go_wp2_with fail
        go_round
        case rel => exact ⟨M, high, g, by first | rfl | rw [hM'], rfl, by omega, m2, l3, hp', G1⟩
        case measure => simp [intOf]; omega
      · have hp' := Lib.hid (P2.out hv)
        clear P1 P2
        go_wp2_with fail
        go_round
        case rel => exact ⟨low, M - 1, g, rfl, by first | rfl | rw [hM'], l1, by omega, by omega, hp', G2⟩
        case measure => simp [intOf]; omega
    · have he := Lib.hid (hp.out.trans (rootIt_end hlt f))
      clear hp hf
      go_wp2_with fail
      go_ret
      exact ⟨ret_int he.out.symm, rfl⟩
end Go.Proofs.Ytedpdcdmemenhaa
