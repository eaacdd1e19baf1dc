/-
  Plain integer lemmas: the nearest quotient and its two ways of being computed. No program is in sight; the conditions are the hypotheses of each lemma.
-/
namespace Go.Proofs.YtampjgfddakdoaaDoor

/-- The nearest quotient of two numbers, halves away from 0 (the divisor is positive). -/
def rdiv (a b : Int) : Int := if 0 ≤ a then (2 * a + b) / (2 * b) else -((b - 2 * a) / (2 * b))

theorem rdiv_pos {a b : Int} (ha : 0 ≤ a) (hb : 0 < b) : rdiv a b = if b ≤ 2 * (a % b) then a / b + 1 else a / b := by
  have h0 := Int.emod_nonneg a (show b ≠ 0 by omega)
  have h1 := Int.emod_lt_of_pos a hb
  have h2 : 2 * a + b = (2 * (a % b) + b) + 2 * b * (a / b) := by
    have := Int.emod_add_mul_ediv a b
    have e : 2 * b * (a / b) = 2 * (b * (a / b)) := Int.mul_assoc ..
    rw [e]
    generalize b * (a / b) = t at *
    omega
  unfold rdiv
  rw [if_pos ha, h2, Int.add_mul_ediv_left _ _ (by omega)]
  generalize a % b = r at *
  split
  · rw [show 2 * r + b = (2 * r - b) + 2 * b * 1 by omega, Int.add_mul_ediv_left _ _ (by omega), Int.ediv_eq_zero_of_lt (by omega) (by omega)]
    omega
  · rw [Int.ediv_eq_zero_of_lt (by omega) (by omega)]
    omega
theorem rdiv_neg {a b : Int} (ha : a < 0) : rdiv a b = -rdiv (-a) b := by
  unfold rdiv
  rw [if_neg (by omega), if_pos (by omega), show 2 * -a + b = b - 2 * a by omega]
theorem rdiv_zero {b : Int} (hb : 0 < b) : rdiv 0 b = 0 := by
  rw [rdiv_pos (by omega) hb]
  simp
  omega
theorem rdiv_nonneg {a b : Int} (ha : 0 ≤ a) (hb : 0 < b) : 0 ≤ rdiv a b := by
  unfold rdiv
  rw [if_pos ha]
  exact Int.ediv_nonneg (by omega) (by omega)
theorem rdiv_le {a b c : Int} (ha : 0 ≤ a) (hb : 0 < b) (h : a ≤ c * b) : rdiv a b ≤ c := by
  unfold rdiv
  rw [if_pos ha]
  refine Int.le_of_lt_add_one (Int.ediv_lt_of_lt_mul (by omega) ?_)
  have e : (c + 1) * (2 * b) = 2 * (c * b) + 2 * b := by
    rw [Int.add_mul, Int.one_mul, Int.mul_left_comm]
  rw [e]
  omega

theorem mul_bd {a b A B : Int} (h1 : -A ≤ a) (h2 : a ≤ A) (h3 : -B ≤ b) (h4 : b ≤ B) : -(A * B) ≤ a * b ∧ a * b ≤ A * B := by
  have hA : 0 ≤ A := by omega
  have hB : 0 ≤ B := by omega
  have k1 : 0 ≤ (A - a) * (B - b) := Int.mul_nonneg (by omega) (by omega)
  have k2 : 0 ≤ (A + a) * (B + b) := Int.mul_nonneg (by omega) (by omega)
  have k3 : 0 ≤ (A - a) * (B + b) := Int.mul_nonneg (by omega) (by omega)
  have k4 : 0 ≤ (A + a) * (B - b) := Int.mul_nonneg (by omega) (by omega)
  simp only [Int.sub_mul, Int.mul_sub, Int.add_mul, Int.mul_add] at k1 k2 k3 k4
  omega
theorem mul_nn {a b A B : Int} (h1 : 0 ≤ a) (h2 : a ≤ A) (h3 : 0 ≤ b) (h4 : b ≤ B) : 0 ≤ a * b ∧ a * b ≤ A * B :=
  ⟨Int.mul_nonneg h1 h3, Int.mul_le_mul h2 h4 h3 (by omega)⟩

/-- The value at x of the line through two points; outside them that of the nearer end. -/
def line (x0 y0 x1 y1 x : Int) : Int := if x ≤ x0 ∨ x1 ≤ x0 then y0 else if x1 ≤ x then y1 else y0 + rdiv ((y1 - y0) * (x - x0)) (x1 - x0)
theorem line_lo {x0 y0 x1 y1 x : Int} (h : x ≤ x0 ∨ x1 ≤ x0) : line x0 y0 x1 y1 x = y0 := if_pos h
theorem line_hi {x0 y0 x1 y1 x : Int} (h : ¬ (x ≤ x0 ∨ x1 ≤ x0)) (h' : x1 ≤ x) : line x0 y0 x1 y1 x = y1 := by rw [line, if_neg h, if_pos h']
theorem line_mid {x0 y0 x1 y1 x : Int} (h : ¬ (x ≤ x0 ∨ x1 ≤ x0)) (h' : ¬ x1 ≤ x) : line x0 y0 x1 y1 x = y0 + rdiv ((y1 - y0) * (x - x0)) (x1 - x0) := by rw [line, if_neg h, if_neg h']
/-- What lies between: the part of a difference. -/
theorem rdiv_part {d t e : Int} (ht0 : 0 ≤ t) (hte : t ≤ e) (he : 0 < e) : (0 ≤ d → 0 ≤ rdiv (d * t) e ∧ rdiv (d * t) e ≤ d) ∧ (d ≤ 0 → d ≤ rdiv (d * t) e ∧ rdiv (d * t) e ≤ 0) := by
  have up : ∀ d : Int, 0 ≤ d → 0 ≤ rdiv (d * t) e ∧ rdiv (d * t) e ≤ d := fun d hd =>
    ⟨rdiv_nonneg (Int.mul_nonneg hd ht0) he, rdiv_le (Int.mul_nonneg hd ht0) he (Int.mul_le_mul_of_nonneg_left hte hd)⟩
  refine ⟨up d, fun hd => ?_⟩
  by_cases h0 : d * t < 0
  · have h := up (-d) (by omega)
    rw [rdiv_neg h0]
    rw [Int.neg_mul] at h
    omega
  · have h1 : d * t = 0 := by
      have := Int.mul_nonneg (show 0 ≤ -d by omega) ht0
      rw [Int.neg_mul] at this
      omega
    rw [h1, rdiv_zero he]
    omega
theorem line_bd {x0 y0 x1 y1 x lo hi : Int} (h0 : lo ≤ y0 ∧ y0 ≤ hi) (h1 : lo ≤ y1 ∧ y1 ≤ hi) : lo ≤ line x0 y0 x1 y1 x ∧ line x0 y0 x1 y1 x ≤ hi := by
  unfold line
  split
  · exact h0
  split
  · exact h1
  have h := rdiv_part (d := y1 - y0) (t := x - x0) (e := x1 - x0) (by omega) (by omega) (by omega)
  by_cases hd : 0 ≤ y1 - y0
  · have := h.1 hd; omega
  · have := h.2 (by omega); omega

/-- The value of a table at x, between its rows. -/
def tabAt (x : Int) : List (Int × Int) → Int
  | p :: q :: r => if r = [] ∨ ¬ q.1 < x then line p.1 p.2 q.1 q.2 x else tabAt x (q :: r)
  | _ => 0
theorem tabAt_line {x : Int} {ps : List (Int × Int)} {j : Nat} (h : j + 1 < ps.length) (hs : j + 2 = ps.length ∨ ¬ (ps.getD (j + 1) (0, 0)).1 < x) :
    tabAt x (ps.drop j) = line (ps.getD j (0, 0)).1 (ps.getD j (0, 0)).2 (ps.getD (j + 1) (0, 0)).1 (ps.getD (j + 1) (0, 0)).2 x := by
  rw [List.drop_eq_getElem_cons (by omega), List.drop_eq_getElem_cons h]
  have e1 : ps.getD j (0, 0) = ps[j] := by simp [List.getD, show j < ps.length by omega]
  have e2 : ps.getD (j + 1) (0, 0) = ps[j + 1] := by simp [List.getD, h]
  rw [e1, e2]
  rw [e2] at hs
  unfold tabAt
  refine if_pos ?_
  rcases hs with hs | hs
  · left
    exact List.drop_eq_nil_of_le (by omega)
  · exact .inr hs
theorem tabAt_next {x : Int} {ps : List (Int × Int)} {j : Nat} (h : j + 2 < ps.length) (hs : (ps.getD (j + 1) (0, 0)).1 < x) : tabAt x (ps.drop j) = tabAt x (ps.drop (j + 1)) := by
  rw [List.drop_eq_getElem_cons (by omega), List.drop_eq_getElem_cons (show j + 1 < ps.length by omega)]
  have e2 : ps.getD (j + 1) (0, 0) = ps[j + 1] := by simp [List.getD, show j + 1 < ps.length by omega]
  rw [e2] at hs
  rw [tabAt]
  refine if_neg ?_
  rintro (h1 | h1)
  · have := congrArg List.length h1
    simp at this
    omega
  · exact h1 hs
theorem tabAt_bd {x lo hi : Int} : ∀ {ps : List (Int × Int)}, 2 ≤ ps.length → (∀ p ∈ ps, lo ≤ p.2 ∧ p.2 ≤ hi) → lo ≤ tabAt x ps ∧ tabAt x ps ≤ hi
  | p :: q :: r, _, h => by
    unfold tabAt
    split
    · exact line_bd (h p (by simp)) (h q (by simp))
    · rename_i hn
      refine tabAt_bd ?_ (fun a ha => h a (List.mem_cons_of_mem _ ha))
      have : r ≠ [] := fun e => hn (.inl e)
      have := List.length_pos_iff.2 this
      simp
      omega
end Go.Proofs.YtampjgfddakdoaaDoor
