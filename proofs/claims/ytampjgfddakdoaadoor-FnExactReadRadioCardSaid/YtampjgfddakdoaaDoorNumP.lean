/-
  The number with a decimal form of at most 18 digits: read and written. No condition beyond the hypotheses.
-/
import Derived.Test.YtampjgfddakdoaaDoorRows
import Derived.Test.YtampjgfddakdoaaDoorLib
import Derived.Lib.ItoaMem
import Derived.Lib.ParseIntBCases
import Derived.Lib.ParseIntBTie
import Derived.Lib.AtoiTie
namespace Go.Proofs.YtampjgfddakdoaaDoor
open Go
def tailN (s : List UInt8) : List UInt8 := if s.head? = some 45 then s.tail else s
/-- The number with a decimal form of at most 18 digits. -/
def numL (s : List UInt8) : Option Int :=
  if (tailN s).length = 0 ∨ 18 < (tailN s).length ∨ ((tailN s).head? = some 48 ∧ 1 < s.length) then none
  else (Lib.decFrom 0 (tailN s)).map fun (n : Nat) => if s.head? = some 45 then -(n : Int) else (n : Int)
theorem digit_byte {b : UInt8} {d : Nat} (h : Lib.digitVal b = some d) : b = UInt8.ofNat (48 + d) ∧ d < 10 := by
  obtain ⟨h1, h2, h3⟩ := Lib.digitVal_eq h
  refine ⟨?_, by omega⟩
  have : 48 + d = b.toNat := by omega
  rw [this]
  simp
theorem digit_of {d : Nat} (h : d < 10) : Lib.digitVal (UInt8.ofNat (48 + d)) = some d := by
  unfold Lib.digitVal
  have : (UInt8.ofNat (48 + d)).toNat = 48 + d := by simp; omega
  rw [this, if_pos (by omega)]
  congr 1
  omega
theorem digits_app {m d : Nat} (hm : 0 < m) (hd : d < 10) : Lib.decDigits (m * 10 + d) = Lib.decDigits m ++ [UInt8.ofNat (48 + d)] := by
  conv => lhs; rw [Lib.decDigits, dif_neg (by omega)]
  have e1 : (m * 10 + d) / 10 = m := by omega
  have e2 : (m * 10 + d) % 10 = d := by omega
  rw [e1, e2]
theorem digits_from : ∀ (l : List UInt8) (acc n : Nat), 0 < acc → Lib.decFrom acc l = some n → Lib.decDigits n = Lib.decDigits acc ++ l
  | [], acc, n, _, h => by
    simp only [Lib.decFrom, Option.some.injEq] at h
    rw [h, List.append_nil]
  | b :: r, acc, n, ha, h => by
    cases hd : Lib.digitVal b with
    | none => simp [Lib.decFrom, hd] at h
    | some d =>
      obtain ⟨hb, hd10⟩ := digit_byte hd
      simp only [Lib.decFrom, hd] at h
      have := digits_from r (acc * 10 + d) n (by omega) h
      rw [this, digits_app ha hd10, hb]
      simp
theorem from_app : ∀ (l : List UInt8) (acc n : Nat) (d : Nat), d < 10 → Lib.decFrom acc l = some n → Lib.decFrom acc (l ++ [UInt8.ofNat (48 + d)]) = some (n * 10 + d)
  | [], acc, n, d, hd, h => by
    simp only [Lib.decFrom, Option.some.injEq] at h
    subst h
    simp only [List.nil_append, Lib.decFrom, digit_of hd]
  | b :: r, acc, n, d, hd, h => by
    cases hb : Lib.digitVal b with
    | none => simp [Lib.decFrom, hb] at h
    | some e =>
      simp only [Lib.decFrom, hb] at h
      simp only [List.cons_append, Lib.decFrom, hb]
      exact from_app r _ n d hd h
theorem from_digits (u : Nat) : Lib.decFrom 0 (Lib.decDigits u) = some u := by
  induction u using Nat.strongRecOn with
  | _ u ih =>
    by_cases h : u < 10
    · rw [Lib.decDigits, dif_pos h]
      simp only [Lib.decFrom, digit_of h, Nat.zero_mul, Nat.zero_add]
    · rw [Lib.decDigits, dif_neg h]
      rw [from_app _ 0 (u / 10) (u % 10) (by omega) (ih (u / 10) (by omega))]
      congr 1
      omega
theorem digits_head (u : Nat) (h : 0 < u) : ∃ d r, Lib.decDigits u = UInt8.ofNat (48 + d) :: r ∧ 0 < d ∧ d < 10 := by
  induction u using Nat.strongRecOn with
  | _ u ih =>
    by_cases h10 : u < 10
    · rw [Lib.decDigits, dif_pos h10]
      exact ⟨u, [], rfl, h, h10⟩
    · obtain ⟨d, r, e, h1, h2⟩ := ih (u / 10) (by omega) (by omega)
      rw [Lib.decDigits, dif_neg h10, e]
      exact ⟨d, r ++ [UInt8.ofNat (48 + u % 10)], rfl, h1, h2⟩
theorem digits_zero : Lib.decDigits 0 = [48] := by rw [Lib.decDigits, dif_pos (by omega)]; rfl
theorem byte_ne {d : Nat} (h : d < 10) : UInt8.ofNat (48 + d) ≠ 45 := by
  intro e
  have := congrArg UInt8.toNat e
  have h2 : (UInt8.ofNat (48 + d)).toNat = 48 + d := by simp; omega
  rw [h2] at this
  have h3 : (45 : UInt8).toNat = 45 := rfl
  omega
theorem byte_ne0 {d : Nat} (h : d < 10) (h0 : 0 < d) : UInt8.ofNat (48 + d) ≠ 48 := by
  intro e
  have := congrArg UInt8.toNat e
  have h2 : (UInt8.ofNat (48 + d)).toNat = 48 + d := by simp; omega
  rw [h2] at this
  have h3 : (48 : UInt8).toNat = 48 := rfl
  omega
theorem digits_len {u : Nat} (h : u < 10 ^ 18) : (Lib.decDigits u).length ≤ 18 := by
  rw [Lib.decDigits_length]
  have := digits_head
  by_cases h0 : u < 10
  · rw [Lib.nDigits_small h0]; omega
  · have hn := Lib.nDigits_pos u
    rcases Nat.lt_or_ge 18 (Lib.nDigits u) with h1 | h1
    · exfalso
      obtain ⟨k, hk⟩ : ∃ k, Lib.nDigits u = k + 1 := ⟨Lib.nDigits u - 1, by omega⟩
      -- least u with that many digits
      have key : ∀ (k u : Nat), Lib.nDigits u = k + 1 → 0 < u → 10 ^ k ≤ u := by
        intro k
        induction k with
        | zero => intro u _ h; rw [Nat.pow_zero]; exact h
        | succ k ih =>
          intro u hu h
          by_cases h10 : u < 10
          · rw [Lib.nDigits_small h10] at hu; omega
          · rw [Lib.nDigits_big h10] at hu
            have := ih (u / 10) (by omega) (by omega)
            rw [Nat.pow_succ]
            omega
      have := key k u hk (by omega)
      have h18 : 10 ^ 18 ≤ 10 ^ k := Nat.pow_le_pow_right (by decide) (by omega)
      omega
    · exact h1
/-- What is read is the number's own form. -/
theorem numL_form {s : List UInt8} {n : Int} (h : numL s = some n) : Lib.itoa n = s ∧ -1000000000000000000 < n ∧ n < 1000000000000000000 := by
  unfold numL at h
  split at h
  · cases h
  · rename_i hc
    simp only [not_or, not_and] at hc
    obtain ⟨h1, h2, h3⟩ := hc
    rw [Option.map_eq_some_iff] at h
    obtain ⟨u, hu, hn⟩ := h
    have hu18 := Lib.decFrom_lt18 hu (by omega)
    cases s with
    | nil => simp [tailN] at h1
    | cons c r =>
      by_cases hc : c = 45
      · subst hc
        simp only [List.head?_cons, if_true] at hn
        have ht : tailN (45 :: r) = r := by simp [tailN]
        rw [ht] at h1 h2 h3 hu
        cases r with
        | nil => simp at h1
        | cons b r =>
          cases hb : Lib.digitVal b with
          | none => simp [Lib.decFrom, hb] at hu
          | some d =>
            obtain ⟨hbe, hd⟩ := digit_byte hb
            have hd0 : 0 < d := by
              rcases Nat.eq_zero_or_pos d with h0 | h0
              · exfalso
                subst h0
                exact h3 (by rw [hbe]; rfl) (by simp)
              · exact h0
            simp only [Lib.decFrom, hb, Nat.zero_mul, Nat.zero_add] at hu
            have hf := digits_from r d u hd0 hu
            rw [Lib.decDigits_one hd, ← hbe] at hf
            have hu0 : 1 ≤ u := by
              rcases Nat.eq_zero_or_pos u with h0 | h0
              · subst h0
                rw [digits_zero] at hf
                simp at hf
                exfalso
                rw [hbe] at hf
                exact byte_ne0 hd hd0 hf.1.symm
              · exact h0
            subst hn
            refine ⟨?_, by omega, by omega⟩
            rw [Lib.itoa_neg u hu0, hf]
            rfl
      · have hne : ¬ ((c :: r).head? = some 45) := by simpa using hc
        rw [if_neg hne] at hn
        have ht : tailN (c :: r) = c :: r := by unfold tailN; rw [if_neg hne]
        rw [ht] at h1 h2 h3 hu
        subst hn
        refine ⟨?_, by omega, by omega⟩
        rw [Lib.itoa_nonneg]
        cases hb : Lib.digitVal c with
        | none => simp [Lib.decFrom, hb] at hu
        | some d =>
          obtain ⟨hbe, hd⟩ := digit_byte hb
          simp only [Lib.decFrom, hb, Nat.zero_mul, Nat.zero_add] at hu
          rcases Nat.eq_zero_or_pos d with h0 | h0
          · subst h0
            have hr : r = [] := by
              cases r with
              | nil => rfl
              | cons x y => exact absurd (by simp : 1 < (c :: x :: y).length) (h3 (by rw [hbe]; rfl))
            subst hr
            simp only [Lib.decFrom, Option.some.injEq] at hu
            rw [← hu, digits_zero, hbe]
            rfl
          · have hf := digits_from r d u h0 hu
            rw [Lib.decDigits_one hd, ← hbe] at hf
            exact hf
/-- A number's own form is read. -/
theorem numL_itoa {n : Int} (h0 : -1000000000000000000 < n) (h1 : n < 1000000000000000000) : numL (Lib.itoa n) = some n := by
  rcases (by omega : n < 0 ∨ 0 ≤ n) with hn | hn
  · obtain ⟨u, hu⟩ : ∃ u : Nat, n = -(u : Int) := ⟨n.natAbs, by omega⟩
    subst hu
    have hu1 : 1 ≤ u := by omega
    rw [Lib.itoa_neg u hu1]
    obtain ⟨d, r, e, d0, d1⟩ := digits_head u (by omega)
    have hl := digits_len (u := u) (by omega)
    have ht : tailN (45 :: Lib.decDigits u) = Lib.decDigits u := by simp [tailN]
    unfold numL
    rw [ht, if_neg, from_digits]
    · simp
    · rw [e] at hl ⊢
      simp only [not_or, not_and]
      refine ⟨by simp, by omega, fun h => ?_⟩
      simp only [List.head?_cons, Option.some.injEq] at h
      exact absurd h (byte_ne0 d1 d0)
  · obtain ⟨u, hu⟩ : ∃ u : Nat, n = (u : Int) := ⟨n.toNat, by omega⟩
    subst hu
    rw [Lib.itoa_nonneg]
    have hl := digits_len (u := u) (by omega)
    by_cases hu0 : u = 0
    · subst hu0
      rw [digits_zero]
      decide
    · obtain ⟨d, r, e, d0, d1⟩ := digits_head u (by omega)
      have hne : ¬ ((Lib.decDigits u).head? = some 45) := by rw [e]; simpa using byte_ne d1
      have ht : tailN (Lib.decDigits u) = Lib.decDigits u := by unfold tailN; rw [if_neg hne]
      unfold numL
      rw [ht, if_neg, from_digits]
      · simp only [Option.map_some, if_neg hne]
      · rw [e] at hl ⊢
        simp only [not_or, not_and]
        refine ⟨by simp, by omega, fun h => ?_⟩
        simp only [List.head?_cons, Option.some.injEq] at h
        exact absurd h (byte_ne0 d1 d0)
theorem parse_num {s : List UInt8} {n : Int} (h : numL s = some n) : Lib.parseIntB 64 s = .ok n := by
  obtain ⟨hf, h0, h1⟩ := numL_form h
  have hl : (tailN s).length ≤ 18 ∧ (tailN s) ≠ [] := by
    unfold numL at h
    split at h
    · cases h
    · rename_i hc
      simp only [not_or] at hc
      exact ⟨by omega, fun e => hc.1 (by rw [e]; rfl)⟩
  have hv : (Lib.decFrom 0 (tailN s)).map (fun (n : Nat) => if s.head? = some 45 then -(n : Int) else (n : Int)) = some n := by
    unfold numL at h
    split at h
    · cases h
    · exact h
  rw [Option.map_eq_some_iff] at hv
  obtain ⟨u, hu, hn⟩ := hv
  have hm : Lib.decNat (tailN s) = some u := by
    unfold Lib.decNat
    rw [if_neg (by simpa using hl.2)]
    exact hu
  have hb := Lib.decNat_small hl.1 hm
  have hp : Lib.parseUintB 64 (tailN s) = .ok u := by
    rw [Lib.parseUintB_64, Lib.parseMag_short _ hl.1, hm]
    rfl
  cases s with
  | nil => simp [tailN] at hl
  | cons c r =>
    by_cases hc : c = 45
    · subst hc
      have ht : tailN (45 :: r) = r := by simp [tailN]
      rw [ht] at hp
      rw [Lib.parseIntB_minus, hp]
      simp only [List.head?_cons, if_true] at hn
      simp only [Lib.signedC]
      rw [if_neg (by omega), hn]
    · have hne : ¬ ((c :: r).head? = some 45) := by simpa using hc
      have ht : tailN (c :: r) = c :: r := by unfold tailN; rw [if_neg hne]
      rw [ht] at hp hu
      rw [if_neg hne] at hn
      have h43 : c.toNat ≠ 43 := by
        intro e
        have : Lib.digitVal c = none := by unfold Lib.digitVal; rw [if_neg (by omega)]
        simp [Lib.decFrom, this] at hu
      have h45 : c.toNat ≠ 45 := by
        intro e
        exact hc (UInt8.toNat_inj.1 e)
      rw [Lib.parseIntB_plain 64 c r h43 h45, hp]
      simp only [Lib.signlessC]
      rw [if_neg (by omega), hn]
theorem itoa_tail (v : Int) : tailN (Lib.itoa v) = Lib.decDigits v.natAbs := by
  rcases (by omega : v < 0 ∨ 0 ≤ v) with hn | hn
  · obtain ⟨u, hu⟩ : ∃ u : Nat, v = -(u : Int) := ⟨v.natAbs, by omega⟩
    subst hu
    rw [Lib.itoa_neg u (by omega)]
    simp [tailN]
  · obtain ⟨u, hu⟩ : ∃ u : Nat, v = (u : Int) := ⟨v.toNat, by omega⟩
    subst hu
    rw [Lib.itoa_nonneg]
    unfold tailN
    rw [if_neg]
    · simp
    · by_cases hu0 : u = 0
      · subst hu0; rw [digits_zero]; decide
      · obtain ⟨d, r, e, d0, d1⟩ := digits_head u (by omega)
        rw [e]
        simpa using byte_ne d1
/-- What the program's reading does behind the library's. -/
theorem num_of_parse {s : List UInt8} {v : Int} (hl : (tailN s).length ≤ 18) (h : Lib.itoa v = s) : numL s = some v := by
  subst h
  rw [itoa_tail, Lib.decDigits_length] at hl
  have h1 := Lib.lt_pow_nDigits v.natAbs
  have h2 : 10 ^ Lib.nDigits v.natAbs ≤ 10 ^ 18 := Nat.pow_le_pow_right (by decide) hl
  exact numL_itoa (by omega) (by omega)
theorem num_none_parse {s : List UInt8} (h : ∀ v, Lib.parseIntB 64 s = .ok v → 18 < (tailN s).length ∨ Lib.itoa v ≠ s) : numL s = none := by
  cases hn : numL s with
  | none => rfl
  | some n =>
    exfalso
    have hf := (numL_form hn).1
    rcases h n (parse_num hn) with h1 | h1
    · unfold numL at hn
      rw [if_pos (by omega)] at hn
      cases hn
    · exact h1 hf
end Go.Proofs.YtampjgfddakdoaaDoor
