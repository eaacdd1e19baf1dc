/-
  Plain lemmas: the logarithm of a positive number by four tenth powers of eight digits: how it is computed, its bounds, and that it does not fall. No program is in sight; the conditions are the hypotheses of each lemma.
-/
namespace Go.Proofs.Ytedpdcdmemenhaa
set_option linter.unusedVariables false

/-- The product of two numbers of nine digits that stand for 1 to 10, and 1 if it has been divided by 10. -/
def tmC (a b : Int) : Int := a * b / 100000000
def tmX (a b : Int) : Int := if 1000000000 ≤ tmC a b then tmC a b / 10 else tmC a b
def tmE (a b : Int) : Int := if 1000000000 ≤ tmC a b then 1 else 0
theorem tm_hi {a b : Int} (h : 1000000000 ≤ a * b / 100000000) : tmX a b = a * b / 100000000 / 10 ∧ tmE a b = 1 := ⟨if_pos h, if_pos h⟩
theorem tm_lo {a b : Int} (h : ¬ 1000000000 ≤ a * b / 100000000) : tmX a b = a * b / 100000000 ∧ tmE a b = 0 := ⟨if_neg h, if_neg h⟩
/-- Nine digits. -/
def Nine (x : Int) : Prop := 100000000 ≤ x ∧ x ≤ 999999999
theorem nine_mul {a b : Int} (ha : Nine a) (hb : Nine b) : 10000000000000000 ≤ a * b ∧ a * b ≤ 999999998000000001 := by
  obtain ⟨a1, a2⟩ := ha
  obtain ⟨b1, b2⟩ := hb
  have h1 := Int.mul_le_mul a1 b1 (by omega) (by omega)
  have h2 := Int.mul_le_mul a2 b2 (by omega) (by omega)
  omega
theorem tm_nine {a b : Int} (ha : Nine a) (hb : Nine b) : Nine (tmX a b) := by
  have h := nine_mul ha hb
  unfold tmX tmC Nine
  generalize a * b = p at *
  split <;> omega
theorem tmE_bd (a b : Int) : 0 ≤ tmE a b ∧ tmE a b ≤ 1 := by
  unfold tmE
  split <;> omega

/-- The tenth power of such a number, and the power of 10 by which it has been divided. -/
def tX (x : Int) : Int := tmX (tmX (tmX (tmX x x) (tmX x x)) x) (tmX (tmX (tmX x x) (tmX x x)) x)
def tE (x : Int) : Int := 2 * (2 * tmE x x + tmE (tmX x x) (tmX x x) + tmE (tmX (tmX x x) (tmX x x)) x) + tmE (tmX (tmX (tmX x x) (tmX x x)) x) (tmX (tmX (tmX x x) (tmX x x)) x)
theorem tX_nine {x : Int} (h : Nine x) : Nine (tX x) := by
  have h2 := tm_nine h h
  have h4 := tm_nine h2 h2
  have h5 := tm_nine h4 h
  exact tm_nine h5 h5
theorem tE_bd (x : Int) : 0 ≤ tE x ∧ tE x ≤ 9 := by
  have h1 := tmE_bd x x
  have h2 := tmE_bd (tmX x x) (tmX x x)
  have h3 := tmE_bd (tmX (tmX x x) (tmX x x)) x
  have h4 := tmE_bd (tmX (tmX (tmX x x) (tmX x x)) x) (tmX (tmX (tmX x x) (tmX x x)) x)
  unfold tE
  omega
/-- k rounds: the number, and the logarithm's digits so far. -/
def lgIt : Nat → Int → Int → Int × Int
  | 0, x, r => (x, r)
  | k + 1, x, r => (tX (lgIt k x r).1, 10 * (lgIt k x r).2 + tE (lgIt k x r).1)
theorem lgIt_nine {x r : Int} (h : Nine x) : ∀ k, Nine (lgIt k x r).1
  | 0 => h
  | k + 1 => tX_nine (lgIt_nine h k)
theorem lgIt_lo {x r : Int} (h : 0 ≤ r) : ∀ k, 0 ≤ (lgIt k x r).2
  | 0 => h
  | k + 1 => by
    have h1 := lgIt_lo (x := x) h k
    have h2 := tE_bd (lgIt k x r).1
    show 0 ≤ 10 * (lgIt k x r).2 + tE (lgIt k x r).1
    omega
theorem lgIt_hi {x r : Int} (h : r ≤ 18) : (lgIt 0 x r).2 ≤ 18 ∧ (lgIt 1 x r).2 ≤ 189 ∧ (lgIt 2 x r).2 ≤ 1899 ∧ (lgIt 3 x r).2 ≤ 18999 ∧ (lgIt 4 x r).2 ≤ 189999 := by
  have h0 := tE_bd (lgIt 0 x r).1
  have h1 := tE_bd (lgIt 1 x r).1
  have h2 := tE_bd (lgIt 2 x r).1
  have h3 := tE_bd (lgIt 3 x r).1
  have e1 : (lgIt 1 x r).2 = 10 * (lgIt 0 x r).2 + tE (lgIt 0 x r).1 := rfl
  have e2 : (lgIt 2 x r).2 = 10 * (lgIt 1 x r).2 + tE (lgIt 1 x r).1 := rfl
  have e3 : (lgIt 3 x r).2 = 10 * (lgIt 2 x r).2 + tE (lgIt 2 x r).1 := rfl
  have e4 : (lgIt 4 x r).2 = 10 * (lgIt 3 x r).2 + tE (lgIt 3 x r).1 := rfl
  have e0 : (lgIt 0 x r).2 = r := rfl
  omega
theorem lgIt_bd {x r : Int} (h0 : 0 ≤ r) (h : r ≤ 18) (k : Nat) (hk : k ≤ 4) : 0 ≤ (lgIt k x r).2 ∧ (lgIt k x r).2 ≤ 189999 := by
  refine ⟨lgIt_lo h0 k, ?_⟩
  obtain ⟨h0, h1, h2, h3, h4⟩ := lgIt_hi (x := x) h
  match k, hk with
  | 0, _ => omega
  | 1, _ => omega
  | 2, _ => omega
  | 3, _ => omega
  | 4, _ => omega

/-- How many digits behind the first. -/
def digR (n : Nat) : Nat := if n < 10 then 0 else digR (n / 10) + 1
theorem digR_small {n : Nat} (h : n < 10) : digR n = 0 := by rw [digR, if_pos h]
theorem digR_step {n : Nat} (h : ¬ n < 10) : digR n = digR (n / 10) + 1 := by rw [digR, if_neg h]
theorem digR_pow (n : Nat) (h : 1 ≤ n) : 10 ^ digR n ≤ n ∧ n < 10 ^ (digR n + 1) := by
  induction n using digR.induct with
  | case1 n hn => rw [digR_small hn]; omega
  | case2 n hn ih =>
    have := ih (by omega)
    rw [digR_step hn, Nat.pow_succ, Nat.pow_succ]
    rw [Nat.pow_succ] at this
    omega
theorem pow10_18 : (10 : Nat) ^ 18 = 1000000000000000000 := rfl
theorem pow10_19 : (10 : Nat) ^ 19 = 10000000000000000000 := rfl
theorem pow10_8 : (10 : Nat) ^ 8 = 100000000 := rfl
theorem pow10_9 : (10 : Nat) ^ 9 = 1000000000 := rfl
theorem digR_le {n : Nat} (h1 : 1 ≤ n) (h : n < 10000000000000000000) : digR n ≤ 18 := by
  have hp := (digR_pow n h1).1
  rcases Nat.lt_or_ge 18 (digR n) with hlt | hge
  · have := Nat.pow_le_pow_right (show 0 < 10 by omega) (show 19 ≤ digR n by omega)
    rw [pow10_19] at this
    omega
  · exact hge
theorem digR_mono {a b : Nat} (h1 : 1 ≤ a) (h : a ≤ b) : digR a ≤ digR b := by
  have ha := (digR_pow a h1).1
  have hb := (digR_pow b (by omega)).2
  rcases Nat.lt_or_ge (digR b) (digR a) with hlt | hge
  · have := Nat.pow_le_pow_right (show 0 < 10 by omega) (show digR b + 1 ≤ digR a by omega)
    omega
  · exact hge
/-- The number of nine digits with which the rounds begin: made longer or shorter. -/
def startX (n : Nat) : Nat := if digR n ≤ 8 then n * 10 ^ (8 - digR n) else n / 10 ^ (digR n - 8)
theorem startX_up {n : Nat} (h : digR n ≤ 8) : startX n = n * 10 ^ (8 - digR n) := if_pos h
theorem startX_down {n : Nat} (h : ¬ digR n ≤ 8) : startX n = n / 10 ^ (digR n - 8) := if_neg h
theorem up_lt {n k : Nat} (h1 : 1 ≤ n) (hk : digR n + k ≤ 8) : n * 10 ^ k < 1000000000 := by
  have h := (digR_pow n h1).2
  have h2 : n * 10 ^ k < 10 ^ (digR n + 1) * 10 ^ k := Nat.mul_lt_mul_of_pos_right h (Nat.pow_pos (by omega))
  rw [← Nat.pow_add] at h2
  have h3 := Nat.pow_le_pow_right (show 0 < 10 by omega) (show digR n + 1 + k ≤ 9 by omega)
  rw [pow10_9] at h3
  omega
theorem startX_both {n a b : Nat} (ha : (a : Int) = max (8 - (digR n : Int)) 0) (hb : (b : Int) = max ((digR n : Int) - 8) 0) : startX n = n * 10 ^ a / 10 ^ b := by
  by_cases h : digR n ≤ 8
  · have h1 : a = 8 - digR n := by omega
    have h2 : b = 0 := by omega
    rw [startX_up h, h1, h2, Nat.pow_zero, Nat.div_one]
  · have h1 : a = 0 := by omega
    have h2 : b = digR n - 8 := by omega
    rw [startX_down h, h1, h2, Nat.pow_zero, Nat.mul_one]
theorem startX_nine {n : Nat} (h1 : 1 ≤ n) : 100000000 ≤ startX n ∧ startX n ≤ 999999999 := by
  have hp := digR_pow n h1
  by_cases h : digR n ≤ 8
  · rw [startX_up h]
    have hu := up_lt (k := 8 - digR n) h1 (by omega)
    have h2 : 10 ^ digR n * 10 ^ (8 - digR n) ≤ n * 10 ^ (8 - digR n) := Nat.mul_le_mul_right _ hp.1
    rw [← Nat.pow_add, show digR n + (8 - digR n) = 8 by omega, pow10_8] at h2
    omega
  · rw [startX_down h]
    obtain ⟨h2, h3⟩ := hp
    obtain ⟨d, hd⟩ : ∃ d, digR n = d + 8 := ⟨digR n - 8, by omega⟩
    have hpos : 0 < 10 ^ d := Nat.pow_pos (by omega)
    rw [hd, Nat.pow_add, pow10_8] at h2
    rw [hd, Nat.add_assoc, Nat.pow_add, pow10_9] at h3
    rw [hd, Nat.add_sub_cancel]
    refine ⟨(Nat.le_div_iff_mul_le hpos).2 (by rw [Nat.mul_comm]; exact h2), Nat.le_of_lt_succ ((Nat.div_lt_iff_lt_mul hpos).2 (by rw [Nat.mul_comm]; exact h3))⟩
/-- Ten times the decimal logarithm, in thousandths. -/
def logN (n : Nat) : Int := (lgIt 4 (startX n) (digR n)).2
def logV (n : Int) : Int := if n < 1 then 0 else logN n.toNat
theorem logV_pos {n : Nat} (h : 1 ≤ n) : logV n = logN n := by
  unfold logV
  rw [if_neg (by omega), Int.toNat_natCast]
theorem logV_none {n : Int} (h : n < 1) : logV n = 0 := if_pos h
theorem logN_bd {n : Nat} (h1 : 1 ≤ n) (h : n < 10000000000000000000) : 0 ≤ logN n ∧ logN n ≤ 189999 := by
  have := digR_le h1 h
  exact lgIt_bd (by omega) (by omega) 4 (by omega)
theorem logV_bd {n : Int} (h : n < 10000000000000000000) : 0 ≤ logV n ∧ logV n ≤ 189999 := by
  unfold logV
  split
  · omega
  · exact logN_bd (by omega) (by omega)

/-! ### the logarithm does not fall -/
/-- Exponent and number in their order. -/
def lexLe (e x f y : Int) : Prop := e < f ∨ (e = f ∧ x ≤ y)
theorem tm_mono_div {p q : Int} (h : p ≤ 10 * q) (hp : 0 ≤ p) : p / 100000000 / 10 ≤ q / 100000000 := by omega
theorem tm_mono {e a f b e' a' f' b' : Int} (h1 : lexLe e a e' a') (h2 : lexLe f b f' b') (na : Nine a) (nb : Nine b) (na' : Nine a') (nb' : Nine b') :
    lexLe (e + f + tmE a b) (tmX a b) (e' + f' + tmE a' b') (tmX a' b') := by
  have m1 := nine_mul na nb
  have m2 := nine_mul na' nb'
  have key : (e = e' → f = f' → a * b ≤ a' * b') ∧ (e < e' → f = f' → a * b ≤ 10 * (a' * b')) ∧ (e = e' → f < f' → a * b ≤ 10 * (a' * b')) := by
    obtain ⟨a1, a2⟩ := na
    obtain ⟨b1, b2⟩ := nb
    obtain ⟨c1, c2⟩ := na'
    obtain ⟨d1, d2⟩ := nb'
    refine ⟨fun he hf => ?_, fun he hf => ?_, fun he hf => ?_⟩
    · have l1 : a ≤ a' := by rcases h1 with h | h <;> omega
      have l2 : b ≤ b' := by rcases h2 with h | h <;> omega
      exact Int.mul_le_mul l1 l2 (by omega) (by omega)
    · have l2 : b ≤ b' := by rcases h2 with h | h <;> omega
      have := Int.mul_le_mul (show a ≤ 10 * a' by omega) l2 (by omega) (by omega)
      rwa [Int.mul_assoc] at this
    · have l1 : a ≤ a' := by rcases h1 with h | h <;> omega
      have := Int.mul_le_mul l1 (show b ≤ 10 * b' by omega) (by omega) (by omega)
      rwa [Int.mul_left_comm] at this
  have le1 : e ≤ e' := by rcases h1 with h | h <;> omega
  have le2 : f ≤ f' := by rcases h2 with h | h <;> omega
  clear h1 h2 na nb na' nb'
  unfold lexLe tmX tmE tmC
  generalize a * b = p at *
  generalize a' * b' = q at *
  obtain ⟨k1, k2, k3⟩ := key
  by_cases c1 : e = e'
  · by_cases c2 : f = f'
    · have := k1 c1 c2
      split <;> split <;> omega
    · have := k3 c1 (by omega)
      split <;> split <;> omega
  · by_cases c2 : f = f'
    · have := k2 (by omega) c2
      split <;> split <;> omega
    · split <;> split <;> omega
theorem ten_mono {x y : Int} (h : x ≤ y) (hx : Nine x) (hy : Nine y) : lexLe (tE x) (tX x) (tE y) (tX y) := by
  have h1 : lexLe 0 x 0 y := .inr ⟨rfl, h⟩
  have x2 := tm_nine hx hx
  have y2 := tm_nine hy hy
  have h2 := tm_mono h1 h1 hx hx hy hy
  have x4 := tm_nine x2 x2
  have y4 := tm_nine y2 y2
  have h4 := tm_mono h2 h2 x2 x2 y2 y2
  have x5 := tm_nine x4 hx
  have y5 := tm_nine y4 hy
  have h5 := tm_mono h4 h1 x4 hx y4 hy
  have h10 := tm_mono h5 h5 x5 x5 y5 y5
  unfold tE tX
  unfold lexLe at h10 ⊢
  omega
theorem lgIt_mono {x r y q : Int} (h : lexLe r x q y) (hx : Nine x) (hy : Nine y) : ∀ k, lexLe (lgIt k x r).2 (lgIt k x r).1 (lgIt k y q).2 (lgIt k y q).1
  | 0 => h
  | k + 1 => by
    have ih := lgIt_mono h hx hy k
    have n1 := lgIt_nine (r := r) hx k
    have n2 := lgIt_nine (r := q) hy k
    have b1 := tE_bd (lgIt k x r).1
    have b2 := tE_bd (lgIt k y q).1
    show lexLe (10 * (lgIt k x r).2 + tE (lgIt k x r).1) (tX (lgIt k x r).1) (10 * (lgIt k y q).2 + tE (lgIt k y q).1) (tX (lgIt k y q).1)
    generalize (lgIt k x r).1 = a at *
    generalize (lgIt k y q).1 = b at *
    rcases ih with ih | ⟨ih, ih2⟩
    · left; omega
    · have := ten_mono ih2 n1 n2
      unfold lexLe at this ⊢
      omega
theorem startX_mono {a b : Nat} (h1 : 1 ≤ a) (h : a ≤ b) (hd : digR a = digR b) : startX a ≤ startX b := by
  unfold startX
  rw [← hd]
  split
  · exact Nat.mul_le_mul_right _ h
  · exact Nat.div_le_div_right h
theorem logN_mono {a b : Nat} (h1 : 1 ≤ a) (h : a ≤ b) : logN a ≤ logN b := by
  have hd := digR_mono h1 h
  have n1 := startX_nine h1
  have n2 := startX_nine (show 1 ≤ b by omega)
  have hl : lexLe (digR a) (startX a) (digR b) (startX b) := by
    by_cases e : digR a = digR b
    · exact .inr ⟨by omega, by have := startX_mono h1 h e; omega⟩
    · exact .inl (by omega)
  have := lgIt_mono hl (show Nine _ from ⟨by omega, by omega⟩) (show Nine _ from ⟨by omega, by omega⟩) 4
  unfold logN
  unfold lexLe at this
  omega
theorem logV_mono {a b : Int} (h : a ≤ b) (hb : b < 10000000000000000000) : logV a ≤ logV b := by
  unfold logV
  by_cases h1 : a < 1
  · rw [if_pos h1]
    split
    · omega
    · exact (logN_bd (by omega) (by omega)).1
  · rw [if_neg h1, if_neg (by omega)]
    exact logN_mono (by omega) (by omega)
end Go.Proofs.Ytedpdcdmemenhaa
