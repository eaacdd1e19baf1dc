/-
  The list of numbers with a text: read and written. No condition beyond the hypotheses.
-/
import Derived.Test.YtampjgfddakdoaaDoorRows
import Derived.Test.YtampjgfddakdoaaDoorLib
import Derived.Test.YtampjgfddakdoaaDoorNumP
import Derived.Test.YtampjgfddakdoaaDoorSplP
import Derived.Test.YtampjgfddakdoaaDoorListT
namespace Go.Proofs.YtampjgfddakdoaaDoor
open Go
theorem getD_get {α : Type} {xs : List (List α)} {k : Nat} (h : k < xs.length) : xs.getD k [] = xs[k] := by simp [List.getD, h]
theorem getD_get0 {xs : List Int} {k : Nat} (h : k < xs.length) : xs.getD k 0 = xs[k] := by simp [List.getD, h]
def numR (p : List UInt8) : Option Int := (numL p).bind fun n => if -1000000000000 ≤ n ∧ n ≤ 1000000000000 then some n else none
def allO (f : List UInt8 → Option Int) : List (List UInt8) → Option (List Int)
  | [] => some []
  | p :: ps => (f p).bind fun n => (allO f ps).map (n :: ·)
theorem allO_snoc {f : List UInt8 → Option Int} {q : List UInt8} {n : Int} (hq : f q = some n) : ∀ {ps : List (List UInt8)} {xs : List Int}, allO f ps = some xs → allO f (ps ++ [q]) = some (xs ++ [n])
  | [], xs, h => by
    simp only [allO, Option.some.injEq] at h
    subst h
    simp [allO, hq]
  | p :: ps, xs, h => by
    simp only [allO, Option.bind_eq_some_iff, Option.map_eq_some_iff] at h
    obtain ⟨m, hm, ys, hy, rfl⟩ := h
    simp only [List.cons_append, allO, hm, allO_snoc hq hy, Option.bind_some, Option.map_some]
theorem allO_none {f : List UInt8 → Option Int} : ∀ {ps : List (List UInt8)} {p : List UInt8}, p ∈ ps → f p = none → allO f ps = none
  | [], p, h, _ => by cases h
  | q :: ps, p, h, hp => by
    rcases List.mem_cons.1 h with rfl | h
    · simp [allO, hp]
    · simp [allO, allO_none h hp]
theorem allO_some {f : List UInt8 → Option Int} : ∀ {ps : List (List UInt8)} {xs : List Int}, allO f ps = some xs → xs.length = ps.length ∧ ∀ k, k < ps.length → f (ps.getD k []) = some (xs.getD k 0)
  | [], xs, h => by
    simp only [allO, Option.some.injEq] at h
    subst h
    exact ⟨rfl, fun k hk => absurd hk (by simp)⟩
  | p :: ps, xs, h => by
    simp only [allO, Option.bind_eq_some_iff, Option.map_eq_some_iff] at h
    obtain ⟨m, hm, ys, hy, rfl⟩ := h
    obtain ⟨h1, h2⟩ := allO_some hy
    refine ⟨by simp [h1], fun k hk => ?_⟩
    cases k with
    | zero => simpa using hm
    | succ k => simpa using h2 k (by simpa using hk)
theorem allO_of {f : List UInt8 → Option Int} : ∀ {ps : List (List UInt8)} {xs : List Int}, xs.length = ps.length → (∀ k, k < ps.length → f (ps.getD k []) = some (xs.getD k 0)) → allO f ps = some xs
  | [], xs, h, _ => by
    have : xs = [] := List.eq_nil_of_length_eq_zero (by simpa using h)
    subst this
    rfl
  | p :: ps, xs, h, hk => by
    cases xs with
    | nil => simp at h
    | cons x ys =>
      have h0 := hk 0 (by simp)
      simp only [List.getD_cons_zero] at h0
      have := allO_of (f := f) (ps := ps) (xs := ys) (by simpa using h) (fun k hk' => by simpa using hk (k + 1) (by simpa using hk'))
      simp [allO, h0, this]
theorem allO_form {ps : List (List UInt8)} {xs : List Int} (h : allO numL ps = some xs) : ps = xs.map Lib.itoa := by
  obtain ⟨h1, h2⟩ := allO_some h
  apply List.ext_getElem
  · simp [h1]
  · intro k h3 h4
    have := (numL_form (h2 k h3)).1
    simp only [List.getElem_map]
    rw [getD_get h3, getD_get0 (by omega : k < xs.length)] at this
    exact this.symm
theorem numR_of {p : List UInt8} {n : Int} (h : numL p = some n) (h0 : -1000000000000 ≤ n) (h1 : n ≤ 1000000000000) : numR p = some n := by
  simp [numR, h, h0, h1]
theorem numR_out {p : List UInt8} {n : Int} (h : numL p = some n) (h0 : ¬ (-1000000000000 ≤ n ∧ n ≤ 1000000000000)) : numR p = none := by
  simp only [numR, h, Option.bind_some, if_neg h0]
theorem numR_none {p : List UInt8} (h : numL p = none) : numR p = none := by simp [numR, h]
theorem numR_parts {p : List UInt8} {n : Int} (h : numR p = some n) : numL p = some n ∧ -1000000000000 ≤ n ∧ n ≤ 1000000000000 := by
  simp only [numR, Option.bind_eq_some_iff] at h
  obtain ⟨m, h1, h2⟩ := h
  split at h2
  · simp only [Option.some.injEq] at h2
    subst h2
    rename_i hr
    exact ⟨h1, hr⟩
  · cases h2
/-- The list with a text. -/
def lstM (s : List UInt8) : Option (List Int) := if s = [45] then some [] else if 64 < (splitL 44 s).length then none else allO numR (splitL 44 s)
theorem lstM_dash : lstM [45] = some [] := if_pos rfl
theorem lstM_long {s : List UInt8} (h : s ≠ [45]) (hl : 64 < (splitL 44 s).length) : lstM s = none := by
  unfold lstM
  rw [if_neg h, if_pos hl]
theorem lstM_all {s : List UInt8} (h : s ≠ [45]) (hl : (splitL 44 s).length ≤ 64) : lstM s = allO numR (splitL 44 s) := by
  unfold lstM
  rw [if_neg h, if_neg (by omega)]
theorem lstM_form {s : List UInt8} {xs : List Int} (h : lstM s = some xs) : listT xs = s ∧ lst12 xs ∧ xs.length ≤ 64 := by
  by_cases hd : s = [45]
  · subst hd
    rw [lstM_dash] at h
    simp only [Option.some.injEq] at h
    subst h
    exact ⟨rfl, fun k hk => absurd hk (by simp), by simp⟩
  · rcases Nat.lt_or_ge 64 (splitL 44 s).length with hl | hl
    · rw [lstM_long hd hl] at h
      cases h
    · rw [lstM_all hd hl] at h
      obtain ⟨h1, h2⟩ := allO_some h
      have hL : allO numL (splitL 44 s) = some xs := allO_of h1 (fun k hk => (numR_parts (h2 k hk)).1)
      have hf := allO_form hL
      have h0 := splitL_len 44 s
      refine ⟨?_, fun k hk => (numR_parts (h2 k (by omega))).2, by omega⟩
      unfold listT txtK
      rw [if_neg (by omega), List.take_of_length_le (Nat.le_refl _), ← hf]
      exact join_split 44 s
theorem numL_nil : numL [] = none := by decide
theorem split_nil (c : UInt8) : splitL c [] = [[]] := rfl
/-- What the program does behind its reading of the pieces: pieces as they are. -/
theorem lst_few {s : List UInt8} {xs : List Int} (h : s ≠ [45]) (hl : (splitL 44 s).length ≤ 64) (hx : allO numL (splitL 44 s) = some xs) :
    s ≠ [] ∧ 0 < xs.length ∧ xs.length ≤ 64 ∧ (lst12 xs → lstM s = some xs ∧ listT xs = s) ∧ (¬ lst12 xs → lstM s = none) := by
  obtain ⟨h1, h2⟩ := allO_some hx
  have h0 := splitL_len 44 s
  refine ⟨?_, by omega, by omega, fun hb => ?_, fun hb => ?_⟩
  · rintro rfl
    have := h2 0 h0
    rw [split_nil] at this
    have e : numL [] = some (xs.getD 0 0) := this
    rw [numL_nil] at e
    cases e
  · have hr : lstM s = some xs := by
      rw [lstM_all h hl]
      exact allO_of h1 (fun k hk => numR_of (h2 k hk) (hb k (by omega)).1 (hb k (by omega)).2)
    exact ⟨hr, (lstM_form hr).1⟩
  · cases hm : lstM s with
    | none => rfl
    | some ys =>
      exfalso
      obtain ⟨_, hb2, _⟩ := lstM_form hm
      rw [lstM_all h hl] at hm
      obtain ⟨h3, h4⟩ := allO_some hm
      apply hb
      intro k hk
      have e1 := (numR_parts (h4 k (by omega))).1
      rw [h2 k (by omega)] at e1
      simp only [Option.some.injEq] at e1
      rw [e1]
      exact hb2 k (by omega)
theorem lst_few_none {s : List UInt8} {k : Nat} (h : s ≠ [45]) (hl : (splitL 44 s).length ≤ 64) (hk : k < (splitL 44 s).length) (hx : numL ((splitL 44 s).getD k []) = none) : lstM s = none := by
  rw [lstM_all h hl]
  refine allO_none (p := (splitL 44 s).getD k []) ?_ (numR_none hx)
  rw [getD_get hk]
  exact List.getElem_mem hk
theorem itoa_bytes (n : Int) : ∀ b ∈ Lib.itoa n, b = 45 ∨ (48 ≤ b.toNat ∧ b.toNat ≤ 57) := by
  have key : ∀ u : Nat, ∀ b ∈ Lib.decDigits u, 48 ≤ b.toNat ∧ b.toNat ≤ 57 := by
    intro u
    induction u using Nat.strongRecOn with
    | _ u ih =>
      intro b hb
      rw [Lib.decDigits] at hb
      split at hb
      · simp only [List.mem_cons, List.not_mem_nil, or_false] at hb
        subst hb
        have : (UInt8.ofNat (48 + u)).toNat = 48 + u := by simp; omega
        omega
      · rcases List.mem_append.1 hb with hb | hb
        · exact ih (u / 10) (by omega) b hb
        · simp only [List.mem_cons, List.not_mem_nil, or_false] at hb
          subst hb
          have : (UInt8.ofNat (48 + u % 10)).toNat = 48 + u % 10 := by simp; omega
          omega
  intro b hb
  rcases (by omega : n < 0 ∨ 0 ≤ n) with hn | hn
  · unfold Lib.itoa at hb
    rw [if_pos hn] at hb
    rcases List.mem_cons.1 hb with h | h
    · exact .inl h
    · exact .inr (key _ b h)
  · unfold Lib.itoa at hb
    rw [if_neg (by omega)] at hb
    exact .inr (key _ b hb)
theorem not_in_itoa {c : UInt8} (h0 : c ≠ 45) (h1 : ¬ (48 ≤ c.toNat ∧ c.toNat ≤ 57)) (n : Int) : c ∉ Lib.itoa n := fun h => by
  rcases itoa_bytes n c h with h2 | h2
  · exact h0 h2
  · exact h1 h2
theorem mem_join {c : UInt8} {ps : List (List UInt8)} {sep : List UInt8} (h : c ∈ Lib.join ps sep) : c ∈ sep ∨ ∃ p ∈ ps, c ∈ p := by
  cases ps with
  | nil => cases h
  | cons q r =>
    rw [Lib.join_cons, List.mem_append] at h
    rcases h with h | h
    · exact .inr ⟨q, by simp, h⟩
    · unfold Lib.joinTail at h
      rw [List.mem_flatten] at h
      obtain ⟨l, hl, hc⟩ := h
      obtain ⟨p, hp, rfl⟩ := List.mem_map.1 hl
      rcases List.mem_append.1 hc with hc | hc
      · exact .inl hc
      · exact .inr ⟨p, List.mem_cons_of_mem _ hp, hc⟩
theorem blank_listT (xs : List Int) : (32 : UInt8) ∉ listT xs := by
  unfold listT txtK
  split
  · decide
  · intro h
    rcases mem_join h with h | ⟨p, hp, h⟩
    · revert h; decide
    · obtain ⟨n, _, rfl⟩ := List.mem_map.1 hp
      exact not_in_itoa (by decide) (by decide) n h
theorem lstM_blank {s : List UInt8} (h : (32 : UInt8) ∈ s) : lstM s = none := by
  cases hm : lstM s with
  | none => rfl
  | some xs =>
    exfalso
    have := (lstM_form hm).1
    rw [← this] at h
    exact blank_listT xs h
theorem lstM_nil : lstM [] = none := by decide
end Go.Proofs.YtampjgfddakdoaaDoor
