/-
  MeetMasks: one model, its bounds (plain).
-/
import Derived.Test.YtgbehaapmnmifaaMath
import Derived.Test.YtgbehaapmnmifaaInt
import Derived.Test.YtgbehaapmnmifaaMaskB
import Derived.Test.YtgbehaapmnmifaaMeetP
import Derived.Test.YtgbehaapmnmifaaTab
import Derived.Test.YtgbehaapmnmifaaLoss
namespace Go.Proofs.Ytgbehaapmnmifaa
set_option linter.unusedVariables false
def mtB (xs ys us vs : List Int) : Bool := maskB xs ys && maskB us vs
def mtV (xs ys us vs : List Int) (o : Int) : Int := max (tabAt (absV o) (xs.zip ys)) (tabAt (absV o) (us.zip vs))
def mtFits (xs ys us vs : List Int) : Bool := mtB xs ys us vs && decide ((meetL xs us).length ≤ 12)
def mtF (xs ys us vs : List Int) : List Int := if mtFits xs ys us vs = true then meetL xs us else []
def mtL (xs ys us vs : List Int) : List Int := if mtFits xs ys us vs = true then (meetL xs us).map (mtV xs ys us vs) else []
def mtC (xs ys us vs : List Int) : Int := if mtB xs ys us vs = true then (if (meetL xs us).length ≤ 12 then 0 else 5) else 1
theorem mt_bad {xs ys us vs : List Int} (h : maskB xs ys = false ∨ maskB us vs = false) : mtF xs ys us vs = [] ∧ mtL xs ys us vs = [] ∧ mtC xs ys us vs = 1 := by
  have hb : mtB xs ys us vs = false := by unfold mtB; rcases h with h | h <;> simp [h]
  simp [mtF, mtL, mtC, mtFits, hb]
theorem mt_full {xs ys us vs : List Int} (h1 : maskB xs ys = true) (h2 : maskB us vs = true) (h : 12 < (meetL xs us).length) : mtF xs ys us vs = [] ∧ mtL xs ys us vs = [] ∧ mtC xs ys us vs = 5 := by
  have hb : mtB xs ys us vs = true := by unfold mtB; simp [h1, h2]
  have hn : ¬ (meetL xs us).length ≤ 12 := by omega
  simp [mtF, mtL, mtC, mtFits, hb, hn]
theorem mt_yes {xs ys us vs : List Int} (h1 : maskB xs ys = true) (h2 : maskB us vs = true) (h : (meetL xs us).length ≤ 12) : mtF xs ys us vs = meetL xs us ∧ mtL xs ys us vs = (meetL xs us).map (mtV xs ys us vs) ∧ mtC xs ys us vs = 0 := by
  have hb : mtB xs ys us vs = true := by unfold mtB; simp [h1, h2]
  simp [mtF, mtL, mtC, mtFits, hb, h]
theorem mt_len (xs ys us vs : List Int) : (mtF xs ys us vs).length ≤ 12 ∧ (mtL xs ys us vs).length ≤ 12 := by
  by_cases h : mtFits xs ys us vs = true
  · have h' := h
    unfold mtFits at h'
    simp only [Bool.and_eq_true, decide_eq_true_eq] at h'
    rw [mtF, mtL, if_pos h, if_pos h, List.length_map]
    exact ⟨h'.2, h'.2⟩
  · rw [mtF, mtL, if_neg h, if_neg h]
    simp
theorem putL_len {n : Int} : ∀ {xs : List Int}, xs.length ≤ (putL xs n).length ∧ (putL xs n).length ≤ xs.length + 1 ∧ 0 < (putL xs n).length
  | [] => by simp [putL]
  | x :: r => by
    have ih := putL_len (n := n) (xs := r)
    unfold putL
    split
    · simp
    · split
      · simp
      · simp; omega
theorem meetL_len : ∀ {ys xs : List Int}, xs.length ≤ (meetL xs ys).length ∧ (meetL xs ys).length ≤ xs.length + ys.length
  | [], xs => by simp [meetL]
  | y :: ys, xs => by
    have ih := meetL_len (ys := ys) (xs := putL xs y)
    have hp := putL_len (n := y) (xs := xs)
    show _ ≤ (meetL (putL xs y) ys).length ∧ (meetL (putL xs y) ys).length ≤ _
    simp only [List.length_cons]
    omega
theorem meetL_snoc (xs ys : List Int) (n : Int) : meetL xs (ys ++ [n]) = putL (meetL xs ys) n := by simp [meetL]
theorem meetL_take {xs ys : List Int} {k : Nat} (h : k < ys.length) : meetL xs (ys.take (k + 1)) = putL (meetL xs (ys.take k)) (ys.getD k 0) := by
  have e : ys.take (k + 1) = ys.take k ++ [ys.getD k 0] := by
    rw [List.take_add_one]
    congr 1
    simp [h]
  rw [e, meetL_snoc]
/-- A valid mask's offsets rise, and lie within bounds. -/
theorem mask_pair {xs ys : List Int} (h : maskB xs ys = true) : xs.Pairwise (· < ·) ∧ ∀ m ∈ xs, 0 ≤ m ∧ m ≤ 100000 := by
  obtain ⟨_, _, _, _, _, hr, _⟩ := mask_parts h
  have hs : ∀ (d j : Nat), j + d + 1 < xs.length → xs.getD j 0 < xs.getD (j + d + 1) 0 := by
    intro d
    induction d with
    | zero => intro j hj; have := (hr (j + 1) hj).2 (by omega); simpa using this
    | succ d ih =>
      intro j hj
      have h1 := ih j (by omega)
      have h2 := (hr (j + (d + 1) + 1) hj).2 (by omega)
      have e : j + (d + 1) + 1 - 1 = j + d + 1 := by omega
      rw [e] at h2
      omega
  constructor
  · rw [List.pairwise_iff_getElem]
    intro i j hi hj hij
    have h1 := hs (j - i - 1) i (by omega)
    have e : i + (j - i - 1) + 1 = j := by omega
    rw [e] at h1
    simpa [hi, hj] using h1
  · intro m hm
    obtain ⟨k, hk, rfl⟩ := List.getElem_of_mem hm
    have := (hr k hk).1
    simpa [hk] using this
theorem meet_bd {xs ys us vs : List Int} (h1 : maskB xs ys = true) (h2 : maskB us vs = true) : ∀ m ∈ meetL xs us, 0 ≤ m ∧ m ≤ 100000 := by
  intro m hm
  rcases meetL_mem.1 hm with h | h
  · exact (mask_pair h1).2 m h
  · exact (mask_pair h2).2 m h
theorem meet_at {xs ys us vs : List Int} (h1 : maskB xs ys = true) (h2 : maskB us vs = true) {k : Nat} (h : k < (meetL xs us).length) : 0 ≤ (meetL xs us).getD k 0 ∧ (meetL xs us).getD k 0 ≤ 100000 := by
  apply meet_bd h1 h2
  have e : (meetL xs us).getD k 0 = (meetL xs us)[k] := by simp [List.getD, h]
  rw [e]
  exact List.getElem_mem h
theorem mtL_take {xs ys us vs zs : List Int} {k : Nat} (h : k < zs.length) : (zs.map (mtV xs ys us vs)).take (k + 1) = (zs.map (mtV xs ys us vs)).take k ++ [mtV xs ys us vs (zs.getD k 0)] := by
  rw [List.take_add_one]
  congr 1
  simp [h]
end Go.Proofs.Ytgbehaapmnmifaa
