/-
  Plain lemmas: the square root rounded down, and the least number with a logarithm: by halving. No program is in sight; the conditions are the hypotheses of each lemma.
-/
import Derived.Test.YtedpdcdmemenhaaLogMath
namespace Go.Proofs.Ytedpdcdmemenhaa
set_option linter.unusedVariables false
/-- The root of n, rounded down. -/
def IsRoot (n r : Int) : Prop := 0 ≤ r ∧ r * r ≤ n ∧ n < (r + 1) * (r + 1)
theorem root_unique {n r s : Int} (h : IsRoot n r) (k : IsRoot n s) : r = s := by
  obtain ⟨h0, h1, h2⟩ := h
  obtain ⟨k0, k1, k2⟩ := k
  rcases Int.lt_trichotomy r s with hlt | he | hlt
  · have := Int.mul_le_mul (show r + 1 ≤ s by omega) (show r + 1 ≤ s by omega) (by omega) (by omega)
    omega
  · exact he
  · have := Int.mul_le_mul (show s + 1 ≤ r by omega) (show s + 1 ≤ r by omega) (by omega) (by omega)
    omega
/-- The root by halving. -/
def rootIt (n : Int) : Nat → Int → Int → Int
  | 0, low, _ => low
  | f + 1, low, high => if low < high then (if (low + high + 1) / 2 * ((low + high + 1) / 2) ≤ n then rootIt n f ((low + high + 1) / 2) high else rootIt n f low ((low + high + 1) / 2 - 1)) else low
theorem rootIt_is {n : Int} : ∀ (f : Nat) (low high : Int), 0 ≤ low → low ≤ high → low * low ≤ n → n < (high + 1) * (high + 1) → high - low < 2 ^ f → IsRoot n (rootIt n f low high)
  | 0, low, high, h0, h1, h2, h3, h4 => by
    simp at h4
    obtain rfl : high = low := by omega
    exact ⟨h0, h2, h3⟩
  | f + 1, low, high, h0, h1, h2, h3, h4 => by
    rw [Int.pow_succ] at h4
    unfold rootIt
    by_cases hl : low < high
    · rw [if_pos hl]
      by_cases hm : (low + high + 1) / 2 * ((low + high + 1) / 2) ≤ n
      · rw [if_pos hm]
        refine rootIt_is f _ _ (by omega) (by omega) hm h3 ?_
        generalize (2 : Int) ^ f = T at *
        omega
      · rw [if_neg hm]
        refine rootIt_is f _ _ h0 (by omega) h2 ?_ ?_
        · rw [show (low + high + 1) / 2 - 1 + 1 = (low + high + 1) / 2 by omega]
          omega
        · generalize (2 : Int) ^ f = T at *
          omega
    · rw [if_neg hl]
      obtain rfl : high = low := by omega
      exact ⟨h0, h2, h3⟩
def rootV (n : Int) : Int := rootIt n 32 0 3037000499
theorem rootV_is {n : Int} (h : 0 ≤ n) (h1 : n ≤ 9223372036854775807) : IsRoot n (rootV n) :=
  rootIt_is 32 0 3037000499 (by omega) (by omega) h (by omega) (by decide)
theorem rootV_eq {n r : Int} (h1 : n ≤ 9223372036854775807) (h : IsRoot n r) : rootV n = r := root_unique (rootV_is (Int.le_trans (Int.mul_nonneg h.1 h.1) h.2.1) h1) h
theorem sq_le {a b : Int} (h0 : 0 ≤ a) (h : a ≤ b) : a * a ≤ b * b := Int.mul_le_mul h h h0 (by omega)

/-- The least number from low to high with a logarithm of v at least, by halving. -/
def powIt (v : Int) : Nat → Int → Int → Int
  | 0, low, _ => low
  | f + 1, low, high => if low < high then (if v ≤ logV ((low + high) / 2) then powIt v f low ((low + high) / 2) else powIt v f ((low + high) / 2 + 1) high) else low
theorem powIt_end {v low high : Int} (h : ¬ low < high) : ∀ f, powIt v f low high = low
  | 0 => rfl
  | f + 1 => if_neg h
theorem powIt_lo {v low high : Int} {f : Nat} (h : low < high) (hv : v ≤ logV ((low + high) / 2)) : powIt v (f + 1) low high = powIt v f low ((low + high) / 2) := by
  rw [powIt, if_pos h, if_pos hv]
theorem powIt_hi {v low high : Int} {f : Nat} (h : low < high) (hv : ¬ v ≤ logV ((low + high) / 2)) : powIt v (f + 1) low high = powIt v f ((low + high) / 2 + 1) high := by
  rw [powIt, if_pos h, if_neg hv]
def powV (v : Int) : Int := powIt v 60 1 1000000000000000000
theorem powIt_ge {v : Int} : ∀ (f : Nat) (low high : Int), low ≤ powIt v f low high
  | 0, low, _ => Int.le_refl _
  | f + 1, low, high => by
    unfold powIt
    split
    · split
      · exact powIt_ge f _ _
      · have := powIt_ge (v := v) f ((low + high) / 2 + 1) high
        omega
    · exact Int.le_refl _
theorem powV_ge (v : Int) : 1 ≤ powV v := powIt_ge 60 1 _
theorem powIt_le {v N : Int} (hN : v ≤ logV N) : ∀ (f : Nat) (low high : Int), low ≤ N → high ≤ 1000000000000000000 → powIt v f low high ≤ N
  | 0, low, _, h, _ => h
  | f + 1, low, high, h, hh => by
    unfold powIt
    split
    · rename_i hlt
      split
      · exact powIt_le hN f _ _ h (by omega)
      · rename_i hv
        refine powIt_le hN f _ _ ?_ hh
        rcases Int.lt_or_le ((low + high) / 2) N with hl | hg
        · omega
        · exact absurd (Int.le_trans hN (logV_mono hg (by omega))) hv
    · exact h
theorem powV_le {v N : Int} (hN : v ≤ logV N) (h1 : 1 ≤ N) : powV v ≤ N := powIt_le hN 60 1 _ h1 (by omega)
theorem pow2_60 : (1000000000000000000 : Int) - 1 < 2 ^ 60 := by decide
/-- One halving: what is left is told by half as many steps. -/
theorem pow_step {f : Nat} {low high : Int} (hl : low < high) (h : high - low < 2 ^ f) : ∃ g, f = g + 1 ∧ (low + high) / 2 - low < 2 ^ g ∧ high - ((low + high) / 2 + 1) < 2 ^ g := by
  cases f with
  | zero => simp at h; omega
  | succ g =>
    refine ⟨g, rfl, ?_, ?_⟩
    · rw [Int.pow_succ] at h
      generalize (2 : Int) ^ g = T at *
      omega
    · rw [Int.pow_succ] at h
      generalize (2 : Int) ^ g = T at *
      omega
theorem rootIt_end {n low high : Int} (h : ¬ low < high) : ∀ f, rootIt n f low high = low
  | 0 => rfl
  | f + 1 => if_neg h
theorem rootIt_up {n low high : Int} {f : Nat} (h : low < high) (hv : (low + high + 1) / 2 * ((low + high + 1) / 2) ≤ n) : rootIt n (f + 1) low high = rootIt n f ((low + high + 1) / 2) high := by
  rw [rootIt, if_pos h, if_pos hv]
theorem rootIt_dn {n low high : Int} {f : Nat} (h : low < high) (hv : ¬ (low + high + 1) / 2 * ((low + high + 1) / 2) ≤ n) : rootIt n (f + 1) low high = rootIt n f low ((low + high + 1) / 2 - 1) := by
  rw [rootIt, if_pos h, if_neg hv]
theorem pow2_32 : (3037000499 : Int) - 0 < 2 ^ 32 := by decide
/-- One halving, of the greater kind. -/
theorem root_step {f : Nat} {low high : Int} (hl : low < high) (h : high - low < 2 ^ f) : ∃ g, f = g + 1 ∧ high - (low + high + 1) / 2 < 2 ^ g ∧ (low + high + 1) / 2 - 1 - low < 2 ^ g := by
  cases f with
  | zero => simp at h; omega
  | succ g =>
    refine ⟨g, rfl, ?_, ?_⟩
    · rw [Int.pow_succ] at h
      generalize (2 : Int) ^ g = T at *
      omega
    · rw [Int.pow_succ] at h
      generalize (2 : Int) ^ g = T at *
      omega
/-- The greatest number up to a bound at which a test that falls is met, by halving. -/
def lastIt (so : Int → Bool) : Nat → Int → Int → Int
  | 0, low, _ => low
  | f + 1, low, high => if low < high then (if so ((low + high + 1) / 2) = true then lastIt so f ((low + high + 1) / 2) high else lastIt so f low ((low + high + 1) / 2 - 1)) else low
theorem lastIt_end {so : Int → Bool} {low high : Int} (h : ¬ low < high) : ∀ f, lastIt so f low high = low
  | 0 => rfl
  | f + 1 => if_neg h
theorem lastIt_up {so : Int → Bool} {low high : Int} {f : Nat} (h : low < high) (hv : so ((low + high + 1) / 2) = true) : lastIt so (f + 1) low high = lastIt so f ((low + high + 1) / 2) high := by
  rw [lastIt, if_pos h, if_pos hv]
theorem lastIt_dn {so : Int → Bool} {low high : Int} {f : Nat} (h : low < high) (hv : so ((low + high + 1) / 2) = false) : lastIt so (f + 1) low high = lastIt so f low ((low + high + 1) / 2 - 1) := by
  rw [lastIt, if_pos h, if_neg (by rw [hv]; decide)]
/-- Where the answers cross from yes to no. -/
def Turns (so : Int → Bool) (N k : Int) : Prop := 0 ≤ k ∧ k ≤ N ∧ (k = 0 ∨ so k = true) ∧ (k = N ∨ so (k + 1) = false)
theorem lastIt_is {so : Int → Bool} {N : Int} : ∀ (f : Nat) (low high : Int), 0 ≤ low → low ≤ high → high ≤ N → (low = 0 ∨ so low = true) → (high = N ∨ so (high + 1) = false) → high - low < 2 ^ f → Turns so N (lastIt so f low high)
  | 0, low, high, h0, h1, h2, h3, h4, h5 => by
    simp at h5
    obtain rfl : high = low := by omega
    exact ⟨h0, h2, h3, h4⟩
  | f + 1, low, high, h0, h1, h2, h3, h4, h5 => by
    rw [Int.pow_succ] at h5
    unfold lastIt
    by_cases hl : low < high
    · rw [if_pos hl]
      by_cases hm : so ((low + high + 1) / 2) = true
      · rw [if_pos hm]
        refine lastIt_is f _ _ (by omega) (by omega) h2 (.inr hm) h4 ?_
        generalize (2 : Int) ^ f = T at *
        omega
      · rw [if_neg hm]
        refine lastIt_is f _ _ h0 (by omega) (by omega) h3 (.inr ?_) ?_
        · rw [show (low + high + 1) / 2 - 1 + 1 = (low + high + 1) / 2 by omega]
          simpa using hm
        · generalize (2 : Int) ^ f = T at *
          omega
    · rw [if_neg hl]
      obtain rfl : high = low := by omega
      exact ⟨h0, h2, h3, h4⟩
theorem turns_unique {so : Int → Bool} {N k m : Int} (hs : ∀ a b, 1 ≤ a → a ≤ b → b ≤ N → so b = true → so a = true) (h : Turns so N k) (g : Turns so N m) : k = m := by
  obtain ⟨h0, h1, h2, h3⟩ := h
  obtain ⟨g0, g1, g2, g3⟩ := g
  rcases Int.lt_trichotomy k m with hlt | he | hlt
  · rcases g2 with g2 | g2
    · omega
    · rcases h3 with h3 | h3
      · omega
      · rw [hs (k + 1) m (by omega) (by omega) (by omega) g2] at h3
        cases h3
  · exact he
  · rcases h2 with h2 | h2
    · omega
    · rcases g3 with g3 | g3
      · omega
      · rw [hs (m + 1) k (by omega) (by omega) (by omega) h2] at g3
        cases g3
def rangeV (so : Int → Bool) : Int := lastIt so 19 0 283000
theorem pow2_19 : (283000 : Int) - 0 < 2 ^ 19 := by decide
theorem rangeV_is (so : Int → Bool) : Turns so 283000 (rangeV so) := lastIt_is 19 0 283000 (by omega) (by omega) (by omega) (.inl rfl) (.inl rfl) pow2_19
theorem rangeV_eq {so : Int → Bool} {k : Int} (hs : ∀ a b, 1 ≤ a → a ≤ b → b ≤ 283000 → so b = true → so a = true) (h : Turns so 283000 k) : rangeV so = k := turns_unique hs (rangeV_is so) h
end Go.Proofs.Ytedpdcdmemenhaa
