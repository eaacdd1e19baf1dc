/-
  Plain integer lemmas: the nearest quotient and its two ways of being computed. No program is in sight; the conditions are the hypotheses of each lemma.
-/
namespace Go.Proofs.Ytbckbjkpmcomcaa

/-- The nearest quotient of two numbers, halves away from 0 (the divisor is positive). -/
def rdiv (a b : Int) : Int := if 0 ≤ a then (2 * a + b) / (2 * b) else -((b - 2 * a) / (2 * b))

theorem rdiv_pos {a b : Int} (ha : 0 ≤ a) (hb : 0 < b) : rdiv a b = if b ≤ 2 * (a % b) then a / b + 1 else a / b := by
  have h0 := Int.emod_nonneg a (show b ≠ 0 by omega)
  have h1 := Int.emod_lt_of_pos a hb
  have h2 : 2 * a + b = (2 * (a % b) + b) + 2 * b * (a / b) := by
    have := Int.emod_add_mul_ediv a b
    have e : 2 * b * (a / b) = 2 * (b * (a / b)) := Int.mul_assoc ..
    rw [e]
    generalize b * (a / b) = t at *
    omega
  unfold rdiv
  rw [if_pos ha, h2, Int.add_mul_ediv_left _ _ (by omega)]
  generalize a % b = r at *
  split
  · rw [show 2 * r + b = (2 * r - b) + 2 * b * 1 by omega, Int.add_mul_ediv_left _ _ (by omega), Int.ediv_eq_zero_of_lt (by omega) (by omega)]
    omega
  · rw [Int.ediv_eq_zero_of_lt (by omega) (by omega)]
    omega
theorem rdiv_neg {a b : Int} (ha : a < 0) : rdiv a b = -rdiv (-a) b := by
  unfold rdiv
  rw [if_neg (by omega), if_pos (by omega), show 2 * -a + b = b - 2 * a by omega]
theorem rdiv_zero {b : Int} (hb : 0 < b) : rdiv 0 b = 0 := by
  rw [rdiv_pos (by omega) hb]
  simp
  omega
theorem rdiv_nonneg {a b : Int} (ha : 0 ≤ a) (hb : 0 < b) : 0 ≤ rdiv a b := by
  unfold rdiv
  rw [if_pos ha]
  exact Int.ediv_nonneg (by omega) (by omega)
theorem rdiv_le {a b c : Int} (ha : 0 ≤ a) (hb : 0 < b) (h : a ≤ c * b) : rdiv a b ≤ c := by
  unfold rdiv
  rw [if_pos ha]
  refine Int.le_of_lt_add_one (Int.ediv_lt_of_lt_mul (by omega) ?_)
  have e : (c + 1) * (2 * b) = 2 * (c * b) + 2 * b := by
    rw [Int.add_mul, Int.one_mul, Int.mul_left_comm]
  rw [e]
  omega
end Go.Proofs.Ytbckbjkpmcomcaa
