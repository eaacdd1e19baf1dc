/-
  Two rising rows made one: put in one by one, or sorted and stripped of doubles: the same (plain).
-/
import Derived.Test.YtgbehaapmnmifaaMath
import Derived.Lib.SlicesCompact
namespace Go.Proofs.Ytgbehaapmnmifaa
open Go.Lib
set_option linter.unusedVariables false
/-- A number at its place among rising ones, once. -/
def putL : List Int → Int → List Int
  | [], n => [n]
  | x :: r, n => if n < x then n :: x :: r else if n = x then x :: r else x :: putL r n
theorem putL_mem {n m : Int} : ∀ {xs : List Int}, m ∈ putL xs n ↔ m = n ∨ m ∈ xs
  | [] => by simp [putL]
  | x :: r => by
    unfold putL
    split
    · simp
    · split
      · rename_i h; subst h; simp
      · rw [List.mem_cons, putL_mem, List.mem_cons]
        constructor
        · rintro (h | h | h)
          · exact .inr (.inl h)
          · exact .inl h
          · exact .inr (.inr h)
        · rintro (h | h | h)
          · exact .inr (.inl h)
          · exact .inl h
          · exact .inr (.inr h)
theorem putL_rises {n : Int} : ∀ {xs : List Int}, xs.Pairwise (· < ·) → (putL xs n).Pairwise (· < ·)
  | [], _ => by simp [putL]
  | x :: r, h => by
    obtain ⟨h1, h2⟩ := List.pairwise_cons.1 h
    unfold putL
    split
    · rename_i hn
      refine List.pairwise_cons.2 ⟨fun a ha => ?_, h⟩
      rcases List.mem_cons.1 ha with rfl | ha
      · exact hn
      · exact Int.lt_trans hn (h1 a ha)
    · split
      · exact h
      · rename_i hn hne
        refine List.pairwise_cons.2 ⟨fun a ha => ?_, putL_rises h2⟩
        rcases putL_mem.1 ha with rfl | ha
        · omega
        · exact h1 a ha
theorem rises_ext : ∀ {xs ys : List Int}, xs.Pairwise (· < ·) → ys.Pairwise (· < ·) → (∀ m, m ∈ xs ↔ m ∈ ys) → xs = ys
  | [], [], _, _, _ => rfl
  | [], y :: ys, _, _, h => by have := (h y).2 (List.mem_cons_self ..); cases this
  | x :: xs, [], _, _, h => by have := (h x).1 (List.mem_cons_self ..); cases this
  | x :: xs, y :: ys, hx, hy, h => by
    obtain ⟨a1, a2⟩ := List.pairwise_cons.1 hx
    obtain ⟨b1, b2⟩ := List.pairwise_cons.1 hy
    have hxy : x = y := by
      rcases List.mem_cons.1 ((h x).1 (List.mem_cons_self ..)) with e | e
      · exact e
      · rcases List.mem_cons.1 ((h y).2 (List.mem_cons_self ..)) with e2 | e2
        · exact e2.symm
        · have := b1 x e; have := a1 y e2; omega
    subst hxy
    congr 1
    refine rises_ext a2 b2 fun m => ⟨fun hm => ?_, fun hm => ?_⟩
    · rcases List.mem_cons.1 ((h m).1 (List.mem_cons_of_mem _ hm)) with e | e
      · have := a1 m hm; omega
      · exact e
    · rcases List.mem_cons.1 ((h m).2 (List.mem_cons_of_mem _ hm)) with e | e
      · have := b1 m hm; omega
      · exact e
def meetL (xs ys : List Int) : List Int := ys.foldl putL xs
theorem meetL_mem {m : Int} : ∀ {ys xs : List Int}, m ∈ meetL xs ys ↔ m ∈ xs ∨ m ∈ ys
  | [], xs => by simp [meetL]
  | y :: ys, xs => by
    show m ∈ meetL (putL xs y) ys ↔ _
    rw [meetL_mem, putL_mem, List.mem_cons]
    constructor
    · rintro ((h | h) | h)
      · exact .inr (.inl h)
      · exact .inl h
      · exact .inr (.inr h)
    · rintro (h | h | h)
      · exact .inl (.inr h)
      · exact .inl (.inl h)
      · exact .inr h
theorem meetL_rises : ∀ {ys xs : List Int}, xs.Pairwise (· < ·) → (meetL xs ys).Pairwise (· < ·)
  | [], _, h => h
  | y :: ys, xs, h => meetL_rises (ys := ys) (putL_rises h)
theorem compact_rises (d : Array Int) (hs : ∀ i j, i ≤ j → j < d.size → d[i]! ≤ d[j]!) : ∀ m, m ≤ d.size → (compactUpTo d m).Pairwise (· < ·) ∧ ∀ x, x ∈ compactUpTo d m ↔ ∃ j, j < m ∧ d[j]! = x
  | 0, _ => ⟨by simp [compactUpTo], fun x => by simp [compactUpTo]⟩
  | m + 1, hm => by
    obtain ⟨h1, h2⟩ := compact_rises d hs m (by omega)
    rw [compactUpTo_succ]
    by_cases hk : keeps d m = true
    · rw [if_pos hk]
      have hk' : m = 0 ∨ d[m]! ≠ d[m - 1]! := by simpa [keeps] using hk
      refine ⟨List.pairwise_append.2 ⟨h1, by simp, fun a ha b hb => ?_⟩, fun x => ?_⟩
      · obtain rfl : b = d[m]! := by simpa using hb
        obtain ⟨j, hj, rfl⟩ := (h2 a).1 ha
        rcases hk' with rfl | hk'
        · omega
        · have e1 := hs j (m - 1) (by omega) (by omega)
          have e2 := hs (m - 1) m (by omega) (by omega)
          omega
      · rw [List.mem_append, h2]
        constructor
        · rintro (⟨j, hj, e⟩ | h)
          · exact ⟨j, by omega, e⟩
          · exact ⟨m, by omega, (List.mem_singleton.1 h).symm⟩
        · rintro ⟨j, hj, e⟩
          by_cases hjm : j = m
          · subst hjm; exact .inr (by simp [e])
          · exact .inl ⟨j, by omega, e⟩
    · rw [if_neg hk, List.append_nil]
      have hk' : ¬ (m = 0 ∨ d[m]! ≠ d[m - 1]!) := by
        intro q
        exact hk (by simpa [keeps] using q)
      refine ⟨h1, fun x => ?_⟩
      rw [h2]
      constructor
      · rintro ⟨j, hj, e⟩
        exact ⟨j, by omega, e⟩
      · rintro ⟨j, hj, e⟩
        by_cases hjm : j = m
        · subst hjm
          refine ⟨j - 1, by omega, ?_⟩
          rw [← e]
          by_cases q : d[j]! = d[j - 1]!
          · exact q.symm
          · exact absurd (.inr q) hk'
        · exact ⟨j, by omega, e⟩
def sortL (xs : List Int) : List Int := xs.mergeSort fun x y => decide (x ≤ y)
theorem sortL_mem {xs : List Int} {m : Int} : m ∈ sortL xs ↔ m ∈ xs := by unfold sortL; exact List.mem_mergeSort
theorem sortL_len (xs : List Int) : (sortL xs).length = xs.length := by unfold sortL; exact List.length_mergeSort xs
theorem sortL_le (xs : List Int) : (sortL xs).Pairwise (fun x y => x ≤ y) := by
  have h := List.pairwise_mergeSort (le := fun x y : Int => decide (x ≤ y)) (fun a b c h1 h2 => by simp at *; omega) (fun a b => by simp; omega) xs
  unfold sortL
  exact h.imp (fun h => by simpa using h)
theorem meet_is {xs ys : List Int} (hx : xs.Pairwise (· < ·)) : compactUpTo (sortL (xs ++ ys)).toArray (sortL (xs ++ ys)).toArray.size = meetL xs ys := by
  have hp := sortL_le (xs ++ ys)
  have hs : ∀ i j, i ≤ j → j < (sortL (xs ++ ys)).toArray.size → (sortL (xs ++ ys)).toArray[i]! ≤ (sortL (xs ++ ys)).toArray[j]! := by
    intro i j hij hj
    have hj' : j < (sortL (xs ++ ys)).length := by simpa using hj
    have hi' : i < (sortL (xs ++ ys)).length := by omega
    rw [getElem!_pos _ i (by simpa using hi'), getElem!_pos _ j hj]
    simp only [List.getElem_toArray]
    rcases Nat.lt_or_ge i j with h | h
    · exact List.pairwise_iff_getElem.1 hp i j hi' hj' h
    · have : i = j := by omega
      subst this
      exact Int.le_refl _
  obtain ⟨h1, h2⟩ := compact_rises _ hs _ (Nat.le_refl _)
  refine rises_ext h1 (meetL_rises hx) fun m => ?_
  rw [h2, meetL_mem, ← List.mem_append, ← sortL_mem]
  constructor
  · rintro ⟨j, hj, rfl⟩
    rw [getElem!_pos _ j hj]
    simp
  · intro hm
    obtain ⟨j, hj, rfl⟩ := List.getElem_of_mem hm
    refine ⟨j, by simpa using hj, ?_⟩
    rw [getElem!_pos _ j (by simpa using hj)]
    simp
theorem putL_low {n : Int} : ∀ {xs : List Int}, (∀ a ∈ xs, a < n) → putL xs n = xs ++ [n]
  | [], _ => rfl
  | x :: r, h => by
    have hx := h x (List.mem_cons_self ..)
    unfold putL
    rw [if_neg (by omega), if_neg (by omega), putL_low fun a ha => h a (List.mem_cons_of_mem _ ha)]
    rfl
theorem putL_hit {n : Int} : ∀ {xs : List Int}, (∀ a ∈ xs, a < n) → putL (xs ++ [n]) n = xs ++ [n]
  | [], _ => by simp [putL]
  | x :: r, h => by
    have hx := h x (List.mem_cons_self ..)
    show putL (x :: (r ++ [n])) n = _
    unfold putL
    rw [if_neg (by omega), if_neg (by omega), putL_hit fun a ha => h a (List.mem_cons_of_mem _ ha)]
    rfl
theorem putL_gt {n y : Int} (hy : n < y) : ∀ {xs : List Int}, (∀ a ∈ xs, a < n) → putL (xs ++ [y]) n = xs ++ [n] ++ [y]
  | [], _ => by simp [putL, hy]
  | x :: r, h => by
    have hx := h x (List.mem_cons_self ..)
    show putL (x :: (r ++ [y])) n = _
    unfold putL
    rw [if_neg (by omega), if_neg (by omega), putL_gt hy fun a ha => h a (List.mem_cons_of_mem _ ha)]
    rfl
theorem putL_more {n y : Int} : ∀ {xs : List Int}, (∃ a ∈ xs, n ≤ a) → putL (xs ++ [y]) n = putL xs n ++ [y]
  | [], h => by obtain ⟨a, ha, _⟩ := h; cases ha
  | x :: r, h => by
    show putL (x :: (r ++ [y])) n = _
    unfold putL
    by_cases h1 : n < x
    · rw [if_pos h1, if_pos h1]; rfl
    · rw [if_neg h1, if_neg h1]
      by_cases h2 : n = x
      · rw [if_pos h2, if_pos h2]; rfl
      · rw [if_neg h2, if_neg h2, putL_more]
        · rfl
        · obtain ⟨a, ha, hn⟩ := h
          rcases List.mem_cons.1 ha with e | ha
          · omega
          · exact ⟨a, ha, hn⟩
/-- What the reference holds behind k rounds: whether the number is placed, the row so far. -/
def putSt (xs : List Int) (n : Int) : Nat → Bool × List Int
  | 0 => (false, [])
  | k + 1 =>
    let x := xs.getD k 0
    if (putSt xs n k).1 = true then (true, (putSt xs n k).2 ++ [x])
    else if x < n then (false, (putSt xs n k).2 ++ [x]) else if n < x then (true, (putSt xs n k).2 ++ [n] ++ [x]) else (true, (putSt xs n k).2 ++ [x])
theorem putSt_is {xs : List Int} {n : Int} : ∀ (k : Nat), k ≤ xs.length → ((putSt xs n k).1 = true → (putSt xs n k).2 = putL (xs.take k) n ∧ ∃ a ∈ xs.take k, n ≤ a) ∧ ((putSt xs n k).1 = false → (putSt xs n k).2 = xs.take k ∧ ∀ a ∈ xs.take k, a < n)
  | 0, _ => by simp [putSt]
  | k + 1, hk => by
    obtain ⟨h1, h2⟩ := putSt_is (xs := xs) (n := n) k (by omega)
    have ht : xs.take (k + 1) = xs.take k ++ [xs.getD k 0] := by
      rw [List.take_add_one]
      congr 1
      simp [List.getD, show k < xs.length by omega]
    obtain ⟨x, hx⟩ : ∃ x, x = xs.getD k 0 := ⟨_, rfl⟩
    rw [ht, ← hx]
    unfold putSt
    simp only [← hx]
    cases hd : (putSt xs n k).1 with
    | true =>
      obtain ⟨e1, a, ha, hn⟩ := h1 hd
      simp only [if_true]
      refine ⟨fun _ => ⟨by rw [e1, putL_more ⟨a, ha, hn⟩], a, List.mem_append_left _ ha, hn⟩, fun h => by cases h⟩
    | false =>
      obtain ⟨e1, hl⟩ := h2 hd
      simp only [Bool.false_eq_true, if_false]
      by_cases c1 : x < n
      · simp only [if_pos c1]
        refine ⟨fun h => by simp at h, fun _ => ⟨by rw [e1], fun a ha => ?_⟩⟩
        rcases List.mem_append.1 ha with ha | ha
        · exact hl a ha
        · rw [List.mem_singleton.1 ha]; exact c1
      · simp only [if_neg c1]
        by_cases c2 : n < x
        · simp only [if_pos c2]
          refine ⟨fun _ => ⟨by rw [e1, putL_gt c2 hl], x, by simp, by omega⟩, fun h => by simp at h⟩
        · simp only [if_neg c2]
          have hxn : x = n := by omega
          subst hxn
          refine ⟨fun _ => ⟨by rw [e1, putL_hit hl], x, by simp, by omega⟩, fun h => by simp at h⟩
theorem putSt_end {xs : List Int} {n : Int} : putL xs n = if (putSt xs n xs.length).1 = true then (putSt xs n xs.length).2 else (putSt xs n xs.length).2 ++ [n] := by
  obtain ⟨h1, h2⟩ := putSt_is (xs := xs) (n := n) xs.length (Nat.le_refl _)
  rw [List.take_length] at h1 h2
  cases hd : (putSt xs n xs.length).1 with
  | true => rw [if_pos rfl, (h1 hd).1]
  | false => rw [if_neg (by simp), (h2 hd).1, putL_low (h2 hd).2]
end Go.Proofs.Ytgbehaapmnmifaa
