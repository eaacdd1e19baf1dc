/-
  The places of a profile: one model, its bounds (plain).
-/
import Derived.Test.YtedpdcdmemenhaaMath
namespace Go.Proofs.Ytedpdcdmemenhaa
def plP (x y s t : Int) (k : Int) : Int × Int := (x + rdiv (k * (s - x)) 16, y + rdiv (k * (t - y)) 16)
def befP (x y s t : Int) : Bool := decide (x < s ∨ (x = s ∧ y ≤ t))
def plK (x y s t : Int) (k : Nat) : Int × Int := if befP x y s t = true then plP x y s t k else plP s t x y (16 - (k : Int))
def placesL (x y s t : Int) : List (Int × Int) := (List.range 17).map (plK x y s t)
theorem places_len (x y s t : Int) : (placesL x y s t).length = 17 := by simp [placesL]
theorem places_at {x y s t : Int} {k : Nat} (h : k < 17) : (placesL x y s t).getD k (0, 0) = plK x y s t k := by simp [placesL, h]
theorem plK_bef {x y s t : Int} (h : befP x y s t = true) (k : Nat) : plK x y s t k = plP x y s t k := if_pos h
theorem plK_back {x y s t : Int} (h : befP x y s t = false) (k : Nat) : plK x y s t k = plP s t x y (16 - (k : Int)) := if_neg (by rw [h]; decide)
theorem bef_1 {x y s t : Int} (h : x < s) : befP x y s t = true := decide_eq_true (.inl h)
theorem bef_2 {x y s t : Int} (h1 : x ≤ s) (h2 : s ≤ x) (h : y ≤ t) : befP x y s t = true := decide_eq_true (by omega)
theorem bef_3 {x y s t : Int} (h : s < x) : befP x y s t = false := decide_eq_false (by omega)
theorem bef_4 {x y s t : Int} (h1 : x ≤ s) (h2 : s ≤ x) (h : t < y) : befP x y s t = false := decide_eq_false (by omega)
theorem between_bd {x s k M : Int} (x0 : 0 ≤ x) (x1 : x ≤ M) (s0 : 0 ≤ s) (s1 : s ≤ M) (k0 : 0 ≤ k) (k1 : k ≤ 16) : 0 ≤ x + rdiv (k * (s - x)) 16 ∧ x + rdiv (k * (s - x)) 16 ≤ M := by
  have h := rdiv_part (d := s - x) (t := k) (e := 16) k0 k1 (by omega)
  rw [Int.mul_comm k]
  rcases Int.le_total 0 (s - x) with hd | hd
  · have := h.1 hd; omega
  · have := h.2 hd; omega
theorem plP_bd {x y s t k M N : Int} (x0 : 0 ≤ x) (x1 : x ≤ M) (y0 : 0 ≤ y) (y1 : y ≤ N) (s0 : 0 ≤ s) (s1 : s ≤ M) (t0 : 0 ≤ t) (t1 : t ≤ N) (k0 : 0 ≤ k) (k1 : k ≤ 16) :
    (0 ≤ (plP x y s t k).1 ∧ (plP x y s t k).1 ≤ M) ∧ (0 ≤ (plP x y s t k).2 ∧ (plP x y s t k).2 ≤ N) := ⟨between_bd x0 x1 s0 s1 k0 k1, between_bd y0 y1 t0 t1 k0 k1⟩
theorem plK_bd {x y s t M N : Int} {k : Nat} (x0 : 0 ≤ x) (x1 : x ≤ M) (y0 : 0 ≤ y) (y1 : y ≤ N) (s0 : 0 ≤ s) (s1 : s ≤ M) (t0 : 0 ≤ t) (t1 : t ≤ N) (k1 : k < 17) :
    (0 ≤ (plK x y s t k).1 ∧ (plK x y s t k).1 ≤ M) ∧ (0 ≤ (plK x y s t k).2 ∧ (plK x y s t k).2 ≤ N) := by
  unfold plK
  split
  · exact plP_bd x0 x1 y0 y1 s0 s1 t0 t1 (by omega) (by omega)
  · exact plP_bd s0 s1 t0 t1 x0 x1 y0 y1 (by omega) (by omega)
theorem pl_mul {x s k : Int} (x0 : 0 ≤ x) (x1 : x ≤ 200000) (s0 : 0 ≤ s) (s1 : s ≤ 200000) (k0 : 0 ≤ k) (k1 : k ≤ 16) : -3200000 ≤ k * (s - x) ∧ k * (s - x) ≤ 3200000 := by
  have := mul_bd (a := k) (b := s - x) (A := 16) (B := 200000) (by omega) k1 (by omega) (by omega)
  omega
theorem take_plK {x y s t : Int} {k : Nat} (h : k < 17) : (placesL x y s t).take (k + 1) = (placesL x y s t).take k ++ [plK x y s t k] := by
  rw [List.take_add_one]
  congr 1
  simp [placesL, h]
def backL (x y s t : Int) : List (Int × Int) := (List.range 17).map fun k : Nat => plP x y s t (k : Int)
theorem backL_len (x y s t : Int) : (backL x y s t).length = 17 := by simp [backL]
theorem take_backL {x y s t : Int} {k : Nat} (h : k < 17) : (backL x y s t).take (k + 1) = (backL x y s t).take k ++ [plP x y s t (k : Int)] := by
  rw [List.take_add_one]
  congr 1
  simp [backL, h]
theorem places_rev {x y s t : Int} (h : befP x y s t = false) : placesL x y s t = (backL s t x y).reverse := by
  unfold backL
  apply List.ext_getElem (by simp [placesL])
  intro k h1 h2
  have hk : k < 17 := by simpa [placesL] using h1
  rw [List.getElem_reverse]
  simp only [placesL, List.getElem_map, List.getElem_range, List.length_map, List.length_range]
  rw [plK_back h]
  congr 1
  omega
end Go.Proofs.Ytedpdcdmemenhaa
