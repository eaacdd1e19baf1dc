/-
  Plain: lists that rise, lists that do not fall, valid masks, tables of discriminations, as Bools. No program is in sight.
-/
import Derived.Test.YtampjgfddakdoaaDoorLib
namespace Go.Proofs.YtampjgfddakdoaaDoor
set_option linter.unusedVariables false
def incP (xs : List Int) (k : Nat) : Prop := 0 < k → xs.getD (k - 1) 0 < xs.getD k 0
def ascP (xs : List Int) (k : Nat) : Prop := 0 < k → xs.getD (k - 1) 0 ≤ xs.getD k 0
instance (xs : List Int) (k : Nat) : Decidable (incP xs k) := by unfold incP; infer_instance
instance (xs : List Int) (k : Nat) : Decidable (ascP xs k) := by unfold ascP; infer_instance
def incB (xs : List Int) : Bool := decide (∀ k, k < xs.length → incP xs k)
def ascB (xs : List Int) : Bool := decide (∀ k, k < xs.length → ascP xs k)
theorem incB_yes {xs : List Int} (h : ∀ k, k < xs.length → incP xs k) : incB xs = true := decide_eq_true h
theorem incB_no {xs : List Int} {k : Nat} (hk : k < xs.length) (h : ¬ incP xs k) : incB xs = false := decide_eq_false fun q => h (q k hk)
theorem ascB_yes {xs : List Int} (h : ∀ k, k < xs.length → ascP xs k) : ascB xs = true := decide_eq_true h
theorem ascB_no {xs : List Int} {k : Nat} (hk : k < xs.length) (h : ¬ ascP xs k) : ascB xs = false := decide_eq_false fun q => h (q k hk)
/-- Within bounds, and above the one before. -/
def riseP (xs : List Int) (hi : Int) (k : Nat) : Prop := (0 ≤ xs.getD k 0 ∧ xs.getD k 0 ≤ hi) ∧ incP xs k
def sortP (xs : List Int) (hi : Int) (k : Nat) : Prop := (0 ≤ xs.getD k 0 ∧ xs.getD k 0 ≤ hi) ∧ ascP xs k
instance (xs : List Int) (hi : Int) (k : Nat) : Decidable (riseP xs hi k) := by unfold riseP; infer_instance
instance (xs : List Int) (hi : Int) (k : Nat) : Decidable (sortP xs hi k) := by unfold sortP; infer_instance
def riseB (xs : List Int) (hi : Int) : Bool := decide (∀ k, k < xs.length → riseP xs hi k)
def sortB (xs : List Int) (hi : Int) : Bool := decide (∀ k, k < xs.length → sortP xs hi k)
theorem riseB_yes {xs : List Int} {hi : Int} (h : ∀ k, k < xs.length → riseP xs hi k) : riseB xs hi = true := decide_eq_true h
theorem riseB_no {xs : List Int} {hi : Int} {k : Nat} (hk : k < xs.length) (h : ¬ riseP xs hi k) : riseB xs hi = false := decide_eq_false fun q => h (q k hk)
theorem sortB_yes {xs : List Int} {hi : Int} (h : ∀ k, k < xs.length → sortP xs hi k) : sortB xs hi = true := decide_eq_true h
theorem sortB_no {xs : List Int} {hi : Int} {k : Nat} (hk : k < xs.length) (h : ¬ sortP xs hi k) : sortB xs hi = false := decide_eq_false fun q => h (q k hk)
theorem asc_le {xs : List Int} (h : ∀ k, k < xs.length → ascP xs k) : ∀ (d j : Nat), j + d < xs.length → xs.getD j 0 ≤ xs.getD (j + d) 0
  | 0, j, _ => Int.le_refl _
  | d + 1, j, hj => by
    have h1 := asc_le h d j (by omega)
    have h2 := h (j + (d + 1)) hj (by omega)
    rw [show j + (d + 1) - 1 = j + d by omega] at h2
    omega
theorem inc_asc {xs : List Int} {k : Nat} (h : incP xs k) : ascP xs k := fun q => Int.le_of_lt (h q)
theorem sort_last {xs : List Int} {hi : Int} (h0 : xs.getD 0 0 = 0) (hl : 0 < xs.length) : sortB xs hi = (ascB xs && decide (xs.getD (xs.length - 1) 0 ≤ hi)) := by
  rw [Bool.eq_iff_iff]
  simp only [sortB, ascB, Bool.and_eq_true, decide_eq_true_eq]
  refine ⟨fun h => ⟨fun k hk => (h k hk).2, (h (xs.length - 1) (by omega)).1.2⟩, fun h k hk => ⟨⟨?_, ?_⟩, h.1 k hk⟩⟩
  · have := asc_le h.1 k 0 (by omega)
    rw [Nat.zero_add] at this
    omega
  · have := asc_le h.1 (xs.length - 1 - k) k (by omega)
    rw [show k + (xs.length - 1 - k) = xs.length - 1 by omega] at this
    omega
theorem rise_last {xs : List Int} {hi : Int} (h0 : xs.getD 0 0 = 0) (hl : 0 < xs.length) : riseB xs hi = (incB xs && decide (xs.getD (xs.length - 1) 0 ≤ hi)) := by
  rw [Bool.eq_iff_iff]
  simp only [riseB, incB, Bool.and_eq_true, decide_eq_true_eq]
  refine ⟨fun h => ⟨fun k hk => (h k hk).2, (h (xs.length - 1) (by omega)).1.2⟩, fun h k hk => ⟨⟨?_, ?_⟩, h.1 k hk⟩⟩
  · have := asc_le (fun k hk => inc_asc (h.1 k hk)) k 0 (by omega)
    rw [Nat.zero_add] at this
    omega
  · have := asc_le (fun k hk => inc_asc (h.1 k hk)) (xs.length - 1 - k) k (by omega)
    rw [show k + (xs.length - 1 - k) = xs.length - 1 by omega] at this
    omega
/-- Which masks are valid. -/
def maskB (xs ys : List Int) : Bool := decide (2 ≤ xs.length ∧ xs.length ≤ 12) && decide (ys.length = xs.length) && decide (xs.getD 0 0 = 0) && decide (ys.getD 0 0 = 0) && riseB xs 100000 && sortB ys 120000
theorem mask_size {xs ys : List Int} (h : ¬ (2 ≤ xs.length ∧ xs.length ≤ 12)) : maskB xs ys = false := by
  unfold maskB
  rw [decide_eq_false h]
  simp
theorem mask_len {xs ys : List Int} (h : ¬ ys.length = xs.length) : maskB xs ys = false := by simp [maskB, h]
theorem mask_o {xs ys : List Int} (h : ¬ xs.getD 0 0 = 0) : maskB xs ys = false := by
  unfold maskB
  rw [decide_eq_false h]
  simp
theorem mask_l {xs ys : List Int} (h : ¬ ys.getD 0 0 = 0) : maskB xs ys = false := by
  unfold maskB
  rw [decide_eq_false h]
  simp
theorem mask_rise {xs ys : List Int} (h : riseB xs 100000 = false) : maskB xs ys = false := by simp [maskB, h]
theorem mask_sort {xs ys : List Int} (h : sortB ys 120000 = false) : maskB xs ys = false := by simp [maskB, h]
theorem mask_yes {xs ys : List Int} (h1 : 2 ≤ xs.length) (h2 : xs.length ≤ 12) (h3 : ys.length = xs.length) (h4 : xs.getD 0 0 = 0) (h5 : ys.getD 0 0 = 0) (h6 : riseB xs 100000 = true) (h7 : sortB ys 120000 = true) : maskB xs ys = true := by
  unfold maskB
  rw [decide_eq_true (show 2 ≤ xs.length ∧ xs.length ≤ 12 from ⟨h1, h2⟩), decide_eq_true h3, decide_eq_true h4, decide_eq_true h5, h6, h7]
  rfl
theorem mask_parts {xs ys : List Int} (h : maskB xs ys = true) : 2 ≤ xs.length ∧ xs.length ≤ 12 ∧ ys.length = xs.length ∧ xs.getD 0 0 = 0 ∧ ys.getD 0 0 = 0 ∧ (∀ k, k < xs.length → riseP xs 100000 k) ∧ (∀ k, k < ys.length → sortP ys 120000 k) := by
  unfold maskB riseB sortB at h
  simp only [Bool.and_eq_true, decide_eq_true_eq] at h
  exact ⟨h.1.1.1.1.1.1, h.1.1.1.1.1.2, h.1.1.1.1.2, h.1.1.1.2, h.1.1.2, h.1.2, h.2⟩
/-- Which lists are tables of discriminations. -/
def tableB (xs : List Int) : Bool := decide (1 ≤ xs.length ∧ xs.length ≤ 64) && decide (xs.getD 0 0 = 0) && sortB xs 120000
theorem table_size {xs : List Int} (h : ¬ (1 ≤ xs.length ∧ xs.length ≤ 64)) : tableB xs = false := by
  unfold tableB
  rw [decide_eq_false h]
  simp
theorem table_first {xs : List Int} (h : ¬ xs.getD 0 0 = 0) : tableB xs = false := by
  unfold tableB
  rw [decide_eq_false h]
  simp
theorem table_sort {xs : List Int} (h : sortB xs 120000 = false) : tableB xs = false := by simp [tableB, h]
theorem table_yes {xs : List Int} (h1 : 1 ≤ xs.length) (h2 : xs.length ≤ 64) (h3 : xs.getD 0 0 = 0) (h4 : sortB xs 120000 = true) : tableB xs = true := by
  unfold tableB
  rw [decide_eq_true (show 1 ≤ xs.length ∧ xs.length ≤ 64 from ⟨h1, h2⟩), decide_eq_true h3, h4]
  rfl
theorem table_parts {xs : List Int} (h : tableB xs = true) : 1 ≤ xs.length ∧ xs.length ≤ 64 := by
  unfold tableB at h
  simp only [Bool.and_eq_true, decide_eq_true_eq] at h
  exact h.1.1
/-- Where the list first reaches a number: its length if nowhere. -/
def firstGe (need : Int) : List Int → Nat
  | [] => 0
  | x :: r => if need ≤ x then 0 else firstGe need r + 1
theorem firstGe_le (need : Int) : ∀ xs, firstGe need xs ≤ xs.length
  | [] => Nat.le_refl _
  | x :: r => by
    have := firstGe_le need r
    unfold firstGe
    split <;> simp <;> omega
theorem firstGe_drop {need : Int} {xs : List Int} {k : Nat} (hk : k < xs.length) : (need ≤ xs.getD k 0 → firstGe need (xs.drop k) = 0) ∧ (¬ need ≤ xs.getD k 0 → firstGe need (xs.drop k) = firstGe need (xs.drop (k + 1)) + 1) := by
  have e : xs.getD k 0 = xs[k] := by simp [hk]
  rw [List.drop_eq_getElem_cons hk, e]
  exact ⟨fun h => if_pos h, fun h => if_neg h⟩
end Go.Proofs.YtampjgfddakdoaaDoor
