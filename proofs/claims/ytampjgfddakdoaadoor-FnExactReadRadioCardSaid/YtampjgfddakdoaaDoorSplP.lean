/-
  A text divided at each instance of a byte: joined again, and the library's own pieces. No condition beyond the hypotheses.
-/
import Derived.Test.YtampjgfddakdoaaDoorRows
import Derived.Test.YtampjgfddakdoaaDoorLib
import Derived.Lib.Split
import Derived.Lib.SplitLaws
import Derived.Lib.CutLaws
import Derived.Lib.Join
namespace Go.Proofs.YtampjgfddakdoaaDoor
open Go
/-- A text divided at each instance of a byte. -/
def splitL (c : UInt8) : List UInt8 → List (List UInt8)
  | [] => [[]]
  | b :: r => if b = c then [] :: splitL c r else (b :: (splitL c r).headD []) :: (splitL c r).tail
theorem splitL_hit (c : UInt8) (r : List UInt8) : splitL c (c :: r) = [] :: splitL c r := if_pos rfl
theorem splitL_miss {c b : UInt8} (r : List UInt8) (h : b ≠ c) : splitL c (b :: r) = (b :: (splitL c r).headD []) :: (splitL c r).tail := if_neg h
theorem splitL_ne (c : UInt8) (s : List UInt8) : splitL c s ≠ [] := by
  cases s with
  | nil => simp [splitL]
  | cons b r => unfold splitL; split <;> simp
theorem splitL_eta (c : UInt8) (s : List UInt8) : splitL c s = (splitL c s).headD [] :: (splitL c s).tail := by
  cases h : splitL c s with
  | nil => exact absurd h (splitL_ne c s)
  | cons p ps => rfl
theorem splitL_len (c : UInt8) (s : List UInt8) : 0 < (splitL c s).length := by
  have := splitL_ne c s
  cases h : splitL c s with
  | nil => exact absurd h this
  | cons p ps => simp
theorem splitL_none {c : UInt8} : ∀ {s : List UInt8}, c ∉ s → splitL c s = [s]
  | [], _ => rfl
  | b :: r, h => by
    simp only [List.mem_cons, not_or] at h
    unfold splitL
    rw [if_neg (fun e => h.1 e.symm), splitL_none h.2]
    rfl
theorem splitL_app {c : UInt8} : ∀ {p r : List UInt8}, c ∉ p → splitL c (p ++ c :: r) = p :: splitL c r
  | [], r, _ => by simp [splitL]
  | b :: p, r, h => by
    simp only [List.mem_cons, not_or] at h
    rw [List.cons_append, splitL_miss _ (fun e => h.1 e.symm), splitL_app h.2]
    rfl
theorem splitL_mem {c : UInt8} : ∀ {s : List UInt8}, ∀ p ∈ splitL c s, c ∉ p
  | [], p, h => by simp [splitL] at h; subst h; simp
  | b :: r, p, h => by
    unfold splitL at h
    split at h
    · rcases List.mem_cons.1 h with rfl | h
      · simp
      · exact splitL_mem p h
    · rename_i hb
      rcases List.mem_cons.1 h with rfl | h
      · simp only [List.mem_cons, not_or]
        refine ⟨fun e => hb e.symm, splitL_mem (s := r) _ ?_⟩
        cases hq : splitL c r with
        | nil => exact absurd hq (splitL_ne c r)
        | cons x y => simp
      · refine splitL_mem (s := r) p ?_
        rw [splitL_eta c r]
        exact List.mem_cons_of_mem _ h
theorem splitL_join {c : UInt8} : ∀ {ps : List (List UInt8)}, ps ≠ [] → (∀ p ∈ ps, c ∉ p) → splitL c (Lib.join ps [c]) = ps
  | [], h, _ => absurd rfl h
  | [p], _, h => by rw [Lib.join_one]; exact splitL_none (h p (by simp))
  | p :: q :: r, _, h => by
    rw [Lib.join_cons]
    have e : Lib.joinTail [c] (q :: r) = c :: Lib.join (q :: r) [c] := by
      rw [Lib.join_cons]
      simp [Lib.joinTail]
    rw [e, splitL_app (h p (by simp)), splitL_join (by simp) (fun x hx => h x (List.mem_cons_of_mem _ hx))]
theorem join_split (c : UInt8) : ∀ (s : List UInt8), Lib.join (splitL c s) [c] = s
  | [] => rfl
  | b :: r => by
    have ih := join_split c r
    unfold splitL
    split
    · rename_i hb
      subst hb
      rw [Lib.join_cons, splitL_eta b r]
      rw [splitL_eta b r, Lib.join_cons] at ih
      show [] ++ Lib.joinTail [b] ((splitL b r).headD [] :: (splitL b r).tail) = b :: r
      simp only [Lib.joinTail, List.map_cons, List.flatten_cons, List.nil_append, List.cons_append] at ih ⊢
      rw [ih]
    · rw [splitL_eta c r, Lib.join_cons] at ih
      rw [Lib.join_cons, List.cons_append, ih]
theorem splitL_mem_byte {c : UInt8} {s p : List UInt8} (h : p ∈ splitL c s) : ∀ b ∈ p, b ∈ s := by
  intro b hb
  rw [← join_split c s]
  have key : ∀ (ps : List (List UInt8)), p ∈ ps → b ∈ Lib.join ps [c] := by
    intro ps hp
    cases ps with
    | nil => cases hp
    | cons q r =>
      rw [Lib.join_cons, List.mem_append]
      rcases List.mem_cons.1 hp with rfl | hp
      · exact .inl hb
      · right
        unfold Lib.joinTail
        rw [List.mem_flatten]
        exact ⟨[c] ++ p, List.mem_map.2 ⟨p, hp, rfl⟩, by simp [hb]⟩
  exact key _ h
theorem index_none {c : UInt8} : ∀ {s : List UInt8}, c ∉ s → Lib.index s [c] = -1
  | [], _ => by simp [Lib.index]
  | b :: r, h => by
    simp only [List.mem_cons, not_or] at h
    unfold Lib.index
    have : ([c] : List UInt8).isPrefixOf (b :: r) = false := by simp [List.isPrefixOf, h.1]
    rw [this, index_none h.2]
    simp
theorem index_app {c : UInt8} : ∀ {p r : List UInt8}, c ∉ p → Lib.index (p ++ c :: r) [c] = (p.length : Int)
  | [], r, _ => by simp [Lib.index, List.isPrefixOf]
  | b :: p, r, h => by
    simp only [List.mem_cons, not_or] at h
    rw [List.cons_append]
    unfold Lib.index
    have : ([c] : List UInt8).isPrefixOf (b :: (p ++ c :: r)) = false := by simp [List.isPrefixOf, h.1]
    rw [this, index_app h.2]
    have hne : ¬ ((p.length : Int) == -1) = true := fun e => by have := beq_iff_eq.1 e; omega
    rw [if_neg (by simp), if_neg hne]
    simp
theorem part_of (c : UInt8) (s : List UInt8) : c ∉ s ∨ ∃ p r, c ∉ p ∧ s = p ++ c :: r := by
  induction s with
  | nil => left; simp
  | cons b s ih =>
    by_cases hb : b = c
    · subst hb
      exact .inr ⟨[], s, by simp, rfl⟩
    · rcases ih with h | ⟨p, r, h, e⟩
      · left
        simp only [List.mem_cons, not_or]
        exact ⟨fun e => hb e.symm, h⟩
      · refine .inr ⟨b :: p, r, ?_, by rw [e]; rfl⟩
        simp only [List.mem_cons, not_or]
        exact ⟨fun e => hb e.symm, h⟩
/-- The kit's own pieces, cut at no more than k instances. -/
theorem splitK_few {c : UInt8} : ∀ (k : Nat) (s : List UInt8), (splitL c s).length ≤ k + 1 → Lib.splitK [c] 0 k s = splitL c s
  | 0, s, h => by
    rcases part_of c s with hn | ⟨p, r, hp, rfl⟩
    · rw [splitL_none hn]; rfl
    · rw [splitL_app hp] at h
      have h2 := splitL_len c r
      rw [List.length_cons] at h
      omega
  | k + 1, s, h => by
    rcases part_of c s with hn | ⟨p, r, hp, rfl⟩
    · rw [splitL_none hn]
      unfold Lib.splitK
      rw [index_none hn]
      simp
    · rw [splitL_app hp] at h ⊢
      unfold Lib.splitK
      have hne : ¬ ((p.length : Int) == -1) = true := fun e => by have := beq_iff_eq.1 e; omega
      rw [index_app hp, if_neg hne]
      rw [Int.toNat_natCast, Nat.add_zero, List.take_left]
      have e : (p ++ c :: r).drop (p.length + [c].length) = r := by
        rw [List.drop_append]
        simp
      rw [e, splitK_few k r (by simpa using h)]
theorem splitK_many {c : UInt8} : ∀ (k : Nat) (s : List UInt8), k + 1 ≤ (splitL c s).length → (Lib.splitK [c] 0 k s).length = k + 1 ∧ (∀ j, j < k → (Lib.splitK [c] 0 k s).getD j [] = (splitL c s).getD j []) ∧ Lib.join (Lib.splitK [c] 0 k s) [c] = s
  | 0, s, h => ⟨rfl, fun j hj => by omega, Lib.join_one _ _⟩
  | k + 1, s, h => by
    rcases part_of c s with hn | ⟨p, r, hp, rfl⟩
    · rw [splitL_none hn] at h
      simp at h
    · rw [splitL_app hp] at h ⊢
      unfold Lib.splitK
      have hne : ¬ ((p.length : Int) == -1) = true := fun e => by have := beq_iff_eq.1 e; omega
      rw [index_app hp, if_neg hne]
      rw [Int.toNat_natCast, Nat.add_zero, List.take_left]
      have e : (p ++ c :: r).drop (p.length + [c].length) = r := by
        rw [List.drop_append]
        simp
      rw [e]
      obtain ⟨i1, i2, i3⟩ := splitK_many k r (by simpa using h)
      refine ⟨by simp [i1], fun j hj => ?_, ?_⟩
      · cases j with
        | zero => rfl
        | succ j => exact i2 j (by omega)
      · rw [Lib.join_cons]
        congr 1
        cases hq : Lib.splitK [c] 0 k r with
        | nil => rw [hq] at i1; simp at i1
        | cons x y =>
          rw [hq, Lib.join_cons] at i3
          simp only [Lib.joinTail, List.map_cons, List.flatten_cons, List.cons_append, List.nil_append] at i3 ⊢
          rw [i3]
theorem count_split (c : UInt8) (s : List UInt8) : Lib.count s [c] + 1 = (splitL c s).length := by
  rw [Lib.count_one]
  induction s with
  | nil => rfl
  | cons b r ih =>
    unfold splitL
    split
    · rename_i hb
      subst hb
      rw [List.count_cons_self]
      simp only [List.length_cons]
      omega
    · rename_i hb
      rw [List.count_cons_of_ne (by simpa using hb), ih, splitL_eta c r]
      simp
/-- strings.Split, at one byte. -/
theorem split_is (c : UInt8) (s : List UInt8) : Lib.split s [c] = splitL c s :=
  splitK_few _ s (by have := count_split c s; omega)
theorem splitN_few {c : UInt8} {s : List UInt8} {n : Nat} (h : (splitL c s).length ≤ n) : Lib.splitN s [c] n = splitL c s := by
  unfold Lib.splitN
  have h1 := count_split c s
  rw [Lib.count_one] at h1
  have h2 : s.count c ≤ s.length := List.count_le_length
  have h3 : (splitL c s).length ≤ min n (s.length + 1) - 1 + 1 := by omega
  exact splitK_few _ s h3
theorem splitN_many {c : UInt8} {s : List UInt8} {n : Nat} (hn : 1 ≤ n) (h : n < (splitL c s).length) : (Lib.splitN s [c] n).length = n ∧ (∀ j, j + 1 < n → (Lib.splitN s [c] n).getD j [] = (splitL c s).getD j []) ∧ Lib.join (Lib.splitN s [c] n) [c] = s := by
  unfold Lib.splitN
  have h1 := count_split c s
  rw [Lib.count_one] at h1
  have h2 : s.count c ≤ s.length := List.count_le_length
  have e : min n (s.length + 1) - 1 = n - 1 := by omega
  rw [e]
  obtain ⟨i1, i2, i3⟩ := splitK_many (c := c) (n - 1) s (by omega)
  exact ⟨by omega, fun j hj => i2 j (by omega), i3⟩
theorem cut_none {c : UInt8} {s : List UInt8} (h : c ∉ s) : Lib.cut s [c] = (s, [], false) := by
  unfold Lib.cut
  rw [index_none h]
  rfl
theorem cut_app {c : UInt8} {p r : List UInt8} (h : c ∉ p) : Lib.cut (p ++ c :: r) [c] = (p, r, true) := by
  unfold Lib.cut
  rw [index_app h, if_pos (by omega), Int.toNat_natCast, List.take_left]
  have e : (p ++ c :: r).drop (p.length + [c].length) = r := by
    rw [List.drop_append]
    simp
  rw [e]
end Go.Proofs.YtampjgfddakdoaaDoor
