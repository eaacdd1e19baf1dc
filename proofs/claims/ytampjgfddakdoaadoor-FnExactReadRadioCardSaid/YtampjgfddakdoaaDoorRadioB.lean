/-
  Plain: which radios are valid, as one Bool; each test on its own. No program is in sight.
-/
import Derived.Test.YtampjgfddakdoaaDoorLib
import Derived.Test.YtampjgfddakdoaaDoorNames
import Derived.Test.YtampjgfddakdoaaDoorWithin
namespace Go.Proofs.YtampjgfddakdoaaDoor
/-- What the k-th mode must meet. -/
def modeP (ms : List (Int × Int)) (k : Nat) : Prop :=
  (-50000 ≤ (ms.getD k (0, 0)).1 ∧ (ms.getD k (0, 0)).1 ≤ 100000) ∧ (1 ≤ (ms.getD k (0, 0)).2 ∧ (ms.getD k (0, 0)).2 ≤ 1000000) ∧
    (0 < k → (ms.getD (k - 1) (0, 0)).1 < (ms.getD k (0, 0)).1 ∧ (ms.getD (k - 1) (0, 0)).2 < (ms.getD k (0, 0)).2)
instance (ms : List (Int × Int)) (k : Nat) : Decidable (modeP ms k) := by unfold modeP; infer_instance
def modesB (ms : List (Int × Int)) : Bool := decide (∀ k, k < ms.length → modeP ms k)
theorem modesB_yes {ms : List (Int × Int)} (h : ∀ k, k < ms.length → modeP ms k) : modesB ms = true := decide_eq_true h
theorem modesB_no {ms : List (Int × Int)} {k : Nat} (hk : k < ms.length) (h : ¬ modeP ms k) : modesB ms = false := decide_eq_false fun q => h (q k hk)
/-- The numbers of a radio, and how many modes it has. -/
def numsP (p f n wd : Int) (m : Nat) : Prop := (-100000 ≤ p ∧ p ≤ 100000) ∧ (0 ≤ f ∧ f ≤ 30000) ∧ (0 ≤ n ∧ n ≤ 30000) ∧ (1 ≤ wd ∧ wd ≤ 100000) ∧ 1 ≤ m ∧ m ≤ 8
instance (p f n wd : Int) (m : Nat) : Decidable (numsP p f n wd m) := by unfold numsP; infer_instance
def radB (s : ByteArray) (p f n wd : Int) (ms : List (Int × Int)) : Bool := nameB s && decide (numsP p f n wd ms.length) && modesB ms
theorem rad_name {s : ByteArray} {p f n wd : Int} {ms : List (Int × Int)} (h : nameB s = false) : radB s p f n wd ms = false := by simp [radB, h]
theorem rad_nums {s : ByteArray} {p f n wd : Int} {ms : List (Int × Int)} (h : ¬ numsP p f n wd ms.length) : radB s p f n wd ms = false := by simp [radB, h]
theorem rad_modes {s : ByteArray} {p f n wd : Int} {ms : List (Int × Int)} (h : modesB ms = false) : radB s p f n wd ms = false := by simp [radB, h]
theorem rad_yes {s : ByteArray} {p f n wd : Int} {ms : List (Int × Int)} (h1 : nameB s = true) (h2 : numsP p f n wd ms.length) (h3 : modesB ms = true) : radB s p f n wd ms = true := by simp [radB, h1, h2, h3]
theorem rad_parts {s : ByteArray} {p f n wd : Int} {ms : List (Int × Int)} (h : radB s p f n wd ms = true) : nameB s = true ∧ numsP p f n wd ms.length ∧ ∀ k, k < ms.length → modeP ms k := by
  unfold radB modesB at h
  simp only [Bool.and_eq_true, decide_eq_true_eq] at h
  exact ⟨h.1.1, h.1.2, h.2⟩
/-- The ways in which the test of the k-th mode can end. -/
theorem mode_ways (ms : List (Int × Int)) (k : Nat) :
    (modeP ms k ∧ inB (ms.getD k (0, 0)).1 (-50000) 100000 = true ∧ inB (ms.getD k (0, 0)).2 1 1000000 = true ∧ k = 0) ∨
    (modeP ms k ∧ inB (ms.getD k (0, 0)).1 (-50000) 100000 = true ∧ inB (ms.getD k (0, 0)).2 1 1000000 = true ∧ ∃ j, k = j + 1 ∧ (ms.getD j (0, 0)).1 < (ms.getD k (0, 0)).1 ∧ (ms.getD j (0, 0)).2 < (ms.getD k (0, 0)).2) ∨
    (¬ modeP ms k ∧ inB (ms.getD k (0, 0)).1 (-50000) 100000 = false) ∨
    (¬ modeP ms k ∧ inB (ms.getD k (0, 0)).1 (-50000) 100000 = true ∧ inB (ms.getD k (0, 0)).2 1 1000000 = false) ∨
    (¬ modeP ms k ∧ inB (ms.getD k (0, 0)).1 (-50000) 100000 = true ∧ inB (ms.getD k (0, 0)).2 1 1000000 = true ∧ ∃ j, k = j + 1 ∧ (ms.getD k (0, 0)).1 ≤ (ms.getD j (0, 0)).1) ∨
    (¬ modeP ms k ∧ inB (ms.getD k (0, 0)).1 (-50000) 100000 = true ∧ inB (ms.getD k (0, 0)).2 1 1000000 = true ∧ ∃ j, k = j + 1 ∧ (ms.getD j (0, 0)).1 < (ms.getD k (0, 0)).1 ∧ (ms.getD k (0, 0)).2 ≤ (ms.getD j (0, 0)).2) := by
  unfold modeP
  generalize (ms.getD k (0, 0)).1 = x
  generalize (ms.getD k (0, 0)).2 = y
  by_cases h1 : -50000 ≤ x ∧ x ≤ 100000
  · have e1 := inB_yes h1.1 h1.2
    by_cases h2 : 1 ≤ y ∧ y ≤ 1000000
    · have e2 := inB_yes h2.1 h2.2
      cases k with
      | zero => exact .inl ⟨⟨h1, h2, fun q => absurd q (by omega)⟩, e1, e2, rfl⟩
      | succ j =>
        rw [Nat.add_sub_cancel]
        by_cases h5 : x ≤ (ms.getD j (0, 0)).1
        · exact .inr (.inr (.inr (.inr (.inl ⟨fun q => by have := (q.2.2 (by omega)).1; omega, e1, e2, j, rfl, h5⟩))))
        · by_cases h6 : y ≤ (ms.getD j (0, 0)).2
          · exact .inr (.inr (.inr (.inr (.inr ⟨fun q => by have := (q.2.2 (by omega)).2; omega, e1, e2, j, rfl, by omega, h6⟩))))
          · exact .inr (.inl ⟨⟨h1, h2, fun _ => ⟨by omega, by omega⟩⟩, e1, e2, j, rfl, by omega, by omega⟩)
    · exact .inr (.inr (.inr (.inl ⟨fun q => h2 q.2.1, e1, inB_no h2⟩)))
  · exact .inr (.inr (.inl ⟨fun q => h1 q.1, inB_no h1⟩))
/-- The ways in which the tests of the numbers can end. -/
theorem nums_cases (p f n wd : Int) (m : Nat) :
    (numsP p f n wd m ∧ (-100000 ≤ p ∧ p ≤ 100000) ∧ (0 ≤ f ∧ f ≤ 30000) ∧ (0 ≤ n ∧ n ≤ 30000) ∧ (1 ≤ wd ∧ wd ≤ 100000) ∧ 1 ≤ m ∧ m ≤ 8) ∨
    (¬ numsP p f n wd m ∧ ((decide (-100000 ≤ p) = false) ∨ (-100000 ≤ p ∧ decide (p ≤ 100000) = false) ∨
      ((-100000 ≤ p ∧ p ≤ 100000) ∧ ((decide (0 ≤ f) = false) ∨ (0 ≤ f ∧ decide (f ≤ 30000) = false) ∨
      ((0 ≤ f ∧ f ≤ 30000) ∧ ((decide (0 ≤ n) = false) ∨ (0 ≤ n ∧ decide (n ≤ 30000) = false) ∨
      ((0 ≤ n ∧ n ≤ 30000) ∧ ((decide (1 ≤ wd) = false) ∨ (1 ≤ wd ∧ decide (wd ≤ 100000) = false) ∨
      ((1 ≤ wd ∧ wd ≤ 100000) ∧ (m = 0 ∨ (1 ≤ m ∧ 8 < m)))))))))))  := by
  rcases in_cases p (-100000) 100000 with ⟨a1, a2⟩ | a1 | ⟨a1, a2⟩
  · rcases in_cases f 0 30000 with ⟨b1, b2⟩ | b1 | ⟨b1, b2⟩
    · rcases in_cases n 0 30000 with ⟨c1, c2⟩ | c1 | ⟨c1, c2⟩
      · rcases in_cases wd 1 100000 with ⟨d1, d2⟩ | d1 | ⟨d1, d2⟩
        · by_cases m0 : m = 0
          · exact .inr ⟨fun q => by have := q.2.2.2.2.1; omega, .inr (.inr ⟨⟨a1, a2⟩, .inr (.inr ⟨⟨b1, b2⟩, .inr (.inr ⟨⟨c1, c2⟩, .inr (.inr ⟨⟨d1, d2⟩, .inl m0⟩)⟩)⟩)⟩)⟩
          · by_cases m1 : m ≤ 8
            · exact .inl ⟨⟨⟨a1, a2⟩, ⟨b1, b2⟩, ⟨c1, c2⟩, ⟨d1, d2⟩, by omega, m1⟩, ⟨a1, a2⟩, ⟨b1, b2⟩, ⟨c1, c2⟩, ⟨d1, d2⟩, by omega, m1⟩
            · exact .inr ⟨fun q => m1 q.2.2.2.2.2, .inr (.inr ⟨⟨a1, a2⟩, .inr (.inr ⟨⟨b1, b2⟩, .inr (.inr ⟨⟨c1, c2⟩, .inr (.inr ⟨⟨d1, d2⟩, .inr ⟨by omega, by omega⟩⟩)⟩)⟩)⟩)⟩
        · exact .inr ⟨fun q => dec_no d1 q.2.2.2.1.1, .inr (.inr ⟨⟨a1, a2⟩, .inr (.inr ⟨⟨b1, b2⟩, .inr (.inr ⟨⟨c1, c2⟩, .inl d1⟩)⟩)⟩)⟩
        · exact .inr ⟨fun q => dec_no d2 q.2.2.2.1.2, .inr (.inr ⟨⟨a1, a2⟩, .inr (.inr ⟨⟨b1, b2⟩, .inr (.inr ⟨⟨c1, c2⟩, .inr (.inl ⟨d1, d2⟩)⟩)⟩)⟩)⟩
      · exact .inr ⟨fun q => dec_no c1 q.2.2.1.1, .inr (.inr ⟨⟨a1, a2⟩, .inr (.inr ⟨⟨b1, b2⟩, .inl c1⟩)⟩)⟩
      · exact .inr ⟨fun q => dec_no c2 q.2.2.1.2, .inr (.inr ⟨⟨a1, a2⟩, .inr (.inr ⟨⟨b1, b2⟩, .inr (.inl ⟨c1, c2⟩)⟩)⟩)⟩
    · exact .inr ⟨fun q => dec_no b1 q.2.1.1, .inr (.inr ⟨⟨a1, a2⟩, .inl b1⟩)⟩
    · exact .inr ⟨fun q => dec_no b2 q.2.1.2, .inr (.inr ⟨⟨a1, a2⟩, .inr (.inl ⟨b1, b2⟩)⟩)⟩
  · exact .inr ⟨fun q => dec_no a1 q.1.1, .inl a1⟩
  · exact .inr ⟨fun q => dec_no a2 q.1.2, .inr (.inl ⟨a1, a2⟩)⟩
end Go.Proofs.YtampjgfddakdoaaDoor
