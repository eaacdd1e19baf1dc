/-
  Contracts of the functions that say whether an antenna is valid: the program's on the value, the reference's behind a pointer. One model. The slices are rows of the call's own.
-/
import Derived.Test.YtampjgfddakdoaaDoorLib
import Derived.Test.YtampjgfddakdoaaDoorRows
import Derived.Test.YtampjgfddakdoaaDoorAll
import Derived.Test.YtampjgfddakdoaaDoorNames
namespace Go.Proofs.YtampjgfddakdoaaDoor
open Go.RowKit
set_option linter.unusedSimpArgs false
set_option linter.unusedVariables false
theorem bool_two (b : Bool) : b = true ∨ b = false := by cases b <;> simp
def lossB (xs : List Int) (many main : Nat) : Bool := decide (xs.length = many) && decide (xs.getD main 0 = 0) && allIn xs 0 60000
def antB (s : ByteArray) (g : Int) (xs ys : List Int) : Bool := nameB s && decide (-60000 ≤ g ∧ g ≤ 60000) && lossB xs 36 0 && lossB ys 19 9
theorem ant_1 {s : ByteArray} {g : Int} {xs ys : List Int} (h : nameB s = false) : antB s g xs ys = false := by simp [antB, h]
theorem ant_2 {s : ByteArray} {g : Int} {xs ys : List Int} (h : ¬ (-60000 ≤ g ∧ g ≤ 60000)) : antB s g xs ys = false := by simp [antB, h]
theorem ant_3 {s : ByteArray} {g : Int} {xs ys : List Int} (h : lossB xs 36 0 = false) : antB s g xs ys = false := by simp [antB, h]
theorem ant_4 {s : ByteArray} {g : Int} {xs ys : List Int} (h : lossB ys 19 9 = false) : antB s g xs ys = false := by simp [antB, h]
theorem ant_yes {s : ByteArray} {g : Int} {xs ys : List Int} (h1 : nameB s = true) (h2 : -60000 ≤ g) (h3 : g ≤ 60000) (h4 : lossB xs 36 0 = true) (h5 : lossB ys 19 9 = true) : antB s g xs ys = true := by simp [antB, h1, h2, h3, h4, h5]
theorem loss_len {xs : List Int} {n m : Nat} (h : ¬ xs.length = n) : lossB xs n m = false := by simp [lossB, h]
theorem loss_main {xs : List Int} {n m : Nat} (h : ¬ xs.getD m 0 = 0) : lossB xs n m = false := by
  unfold lossB
  rw [decide_eq_false h]
  simp
theorem loss_all {xs : List Int} {n m : Nat} (h : allIn xs 0 60000 = false) : lossB xs n m = false := by simp [lossB, h]
theorem loss_yes {xs : List Int} {n m : Nat} (h1 : xs.length = n) (h2 : xs.getD m 0 = 0) (h3 : allIn xs 0 60000 = true) : lossB xs n m = true := by
  unfold lossB
  rw [decide_eq_true h1, decide_eq_true h2, h3]
  rfl
theorem loss_parts {xs : List Int} {n m : Nat} (h : lossB xs n m = true) : xs.length = n ∧ xs.getD m 0 = 0 ∧ allIn xs 0 60000 = true := by
  unfold lossB at h
  simp only [Bool.and_eq_true, decide_eq_true_eq] at h
  exact ⟨h.1.1, h.1.2, h.2⟩
theorem ant_parts {s : ByteArray} {g : Int} {xs ys : List Int} (h : antB s g xs ys = true) : nameB s = true ∧ -60000 ≤ g ∧ g ≤ 60000 ∧ lossB xs 36 0 = true ∧ lossB ys 19 9 = true := by
  unfold antB at h
  simp only [Bool.and_eq_true, decide_eq_true_eq] at h
  exact ⟨h.1.1.1, h.1.1.2.1, h.1.1.2.2, h.1.2, h.2⟩
/-- A valid antenna's two slices. -/
theorem ant_open {e : TypeId} {w : World} {s : ByteArray} {g : Int} {a b : Value} {xs ys : List Int} {p q : Nat} (h : antB s g xs ys = true) (ha : Row e w p a xs) (hb : Row e w q b ys) :
    ∃ ga ca gb cb, a = .slice (some ⟨ga, 0, none⟩) 36 ca ∧ b = .slice (some ⟨gb, 0, none⟩) 19 cb ∧ xs.length = 36 ∧ ys.length = 19 ∧ allIn xs 0 60000 = true ∧ allIn ys 0 60000 = true ∧ ga < w.heap.size ∧ gb < w.heap.size ∧
      (∀ k, k < 36 → w.cell? ⟨ga, k, none⟩ = some (.int .i64 (xs.getD k 0))) ∧ (∀ k, k < 19 → w.cell? ⟨gb, k, none⟩ = some (.int .i64 (ys.getD k 0))) := by
  obtain ⟨_, _, _, h1, h2⟩ := ant_parts h
  obtain ⟨n1, _, r1⟩ := loss_parts h1
  obtain ⟨n2, _, r2⟩ := loss_parts h2
  rcases ha.forms with ⟨_, rfl⟩ | ⟨ga, ca, rfl, _, l1, k1, _⟩
  · simp at n1
  rcases hb.forms with ⟨_, rfl⟩ | ⟨gb, cb, rfl, _, l2, k2, _⟩
  · simp at n2
  rw [n1] at k1
  rw [n2] at k2
  exact ⟨ga, ca, gb, cb, by rw [n1], by rw [n2], n1, n2, r1, r2, l1, l2, k1, k2⟩
theorem l06Losses_any (w : World) (v : Value) (xs : List Int) (p : Nat) (h : Row 2 w p v xs) (n m : Nat) (hm : m < n) (hn : n ≤ 1000) :
    Calls Tryd.prog 58 #[v, .int .i64 n, .int .i64 m] w fun e w' => e = .returned (.bool (lossB xs n m)) ∧ ∃ k, w' = w.drewN k := by
  have hl := h.len
  unfold maxLen at hl
  have z1 : (xs.length : Int) ≤ 9223372036854775807 := by omega
  have z2 : (n : Int) ≤ 1000 := by omega
  have z3 : (0 : Int) ≤ (m : Int) := Int.natCast_nonneg _
  have z4 : (m : Int) < (n : Int) := by omega
  by_cases hx : xs.length = n
  · rcases h.forms with ⟨rfl, rfl⟩ | ⟨g, c, rfl, _, la, hc, _⟩
    · simp at hx
      omega
    clear h
    have cm := hc m (by omega)
    have HC := Lib.hid hc
    clear hc
    by_cases h0 : xs.getD m 0 = 0
    · have HY := Lib.hid (fun q => loss_yes hx h0 (allIn_yes (xs := xs) (lo := 0) (hi := 60000) q))
      have HN := Lib.hid (fun k hk q => loss_all (n := n) (m := m) (allIn_no (xs := xs) (lo := 0) (hi := 60000) (k := k) hk q))
      rw [h0] at cm
      generalize lossB xs n m = R at *
      rw [hx] at *
      clear h0 hx
      go_enter Tryd.func58, Tryd.ntmps58
      go_wp2_with fail
      go_loopw [7] (fun i wr => ∃ k : Nat, k ≤ n ∧ i = .int .i64 (k : Int) ∧ Hid (∀ m, m < k → 0 ≤ xs.getD m 0 ∧ xs.getD m 0 ≤ 60000) ∧ ∃ d, wr = w.drewN d) (fun i _ => n + 1 - (intOf i).toNat)
      case atStart => exact ⟨0, Nat.zero_le _, rfl, fun m h => by omega, 0, rfl⟩
      case round =>
        obtain ⟨k, hk, rfl, hr, d, rfl⟩ := hrel
        have i0 : (0 : Int) ≤ (k : Int) := Int.natCast_nonneg _
        by_cases hlt : k < n
        · have c1 := HC.out k hlt
          have i1 : (k : Int) < (n : Int) := by omega
          rcases in_cases (xs.getD k 0) 0 60000 with ⟨h1, h2⟩ | h1 | ⟨h1, h2⟩
          · have hr' : Hid (∀ m, m < k + 1 → 0 ≤ xs.getD m 0 ∧ xs.getD m 0 ≤ 60000) := fun m hm => by
              by_cases e : m = k
              · subst e; exact ⟨h1, h2⟩
              · exact hr.out m (by omega)
            clear hr
            generalize xs.getD k 0 = x at *
            go_wp2
            go_roundw
            case rel => exact ⟨k + 1, by omega, by go_num, hr', d, rfl⟩
            case measure => simp [intOf]; omega
          · have he := Lib.hid (HN.out k hlt (fun q => dec_no h1 q.1))
            clear hr HY
            generalize xs.getD k 0 = x at *
            go_wp2
            go_ret
            exact ⟨ret_bool he.out.symm, d, rfl⟩
          · have he := Lib.hid (HN.out k hlt (fun q => dec_no h2 q.2))
            clear hr HY
            generalize xs.getD k 0 = x at *
            go_wp2
            go_ret
            exact ⟨ret_bool he.out.symm, d, rfl⟩
        · obtain rfl : k = n := by omega
          have he := Lib.hid (HY.out hr.out)
          clear hr HN
          go_wp2
          go_ret
          exact ⟨ret_bool he.out.symm, d, rfl⟩
    · have he := Lib.hid (loss_main (n := n) (m := m) h0)
      have hd : (xs.getD m 0 != 0) = true := bne_iff_ne.2 h0
      clear h0
      generalize xs.getD m 0 = x at *
      rw [hx]
      go_enter Tryd.func58, Tryd.ntmps58
      go_wp2_with fail
      go_ret
      exact ⟨ret_bool he.out.symm, 0, rfl⟩
  · have he := Lib.hid (loss_len (m := m) hx)
    have hd : ((xs.length : Int) != (n : Int)) = true := bne_iff_ne.2 (by omega)
    obtain ⟨A, c, rfl⟩ := h.reads.form
    clear h hx
    go_enter Tryd.func58, Tryd.ntmps58
    go_wp2_with fail
    go_ret
    exact ⟨ret_bool he.out.symm, 0, rfl⟩
set_option maxHeartbeats 4000000 in
theorem ValidAntenna_any (w : World) (s : ByteArray) (is : s.size ≤ maxLen) (g : Int) (a : Value) (xs : List Int) (p : Nat) (ha : Row 2 w p a xs) (b : Value) (ys : List Int) (q : Nat) (hb : Row 2 w q b ys) :
    Calls Tryd.prog 59 #[.agg #[.string s, .int .i64 g, a, b]] w fun e w' => e = .returned (.bool (antB s g xs ys)) ∧ Below w.heap.size w w' := by
  have l1 := ha.len
  have l2 := hb.len
  unfold maxLen at l1 l2
  have z1 : (xs.length : Int) ≤ 9223372036854775807 := by omega
  have z2 : (ys.length : Int) ≤ 9223372036854775807 := by omega
  have IS := Lib.hid is
  clear is
  rcases bool_two (nameB s) with e1 | e1
  rotate_left
  · have HE := Lib.hid (ant_1 (g := g) (xs := xs) (ys := ys) e1)
    obtain ⟨A, c, rfl⟩ := ha.reads.form
    obtain ⟨A', c', rfl⟩ := hb.reads.form
    clear ha hb
    go_enter Tryd.func59, Tryd.ntmps59
    go_wp2_with fail
    refine (IsName_any _ s IS.out).mono ?_
    rintro e w1 ⟨rfl, rfl⟩
    go_wp2_with (first | (go_at_call 75; go_in) | (go_at_call 54; go_in))
    go_ret
    exact ⟨ret_bool (HE.out).symm, by repeat (first | (with_reducible exact Below.refl _ _) | (with_reducible assumption) | ((with_reducible refine bl_alloc ?_ _ ?_); (focus ((first | omega | (simp <;> omega)); done))) | ((with_reducible refine bl_set ?_ _ ?_); (focus ((first | omega | (simp <;> omega)); done))) | (with_reducible refine below_drewN ?_ _) | (with_reducible refine Below.drew ?_))⟩
  rcases in_cases g (-60000) 60000 with ⟨e2, e3⟩ | e2 | ⟨e2, e3⟩
  rotate_left
  · have HE := Lib.hid (ant_2 (s := s) (xs := xs) (ys := ys) (fun h => dec_no e2 h.1))
    obtain ⟨A, c, rfl⟩ := ha.reads.form
    obtain ⟨A', c', rfl⟩ := hb.reads.form
    clear ha hb
    go_enter Tryd.func59, Tryd.ntmps59
    go_wp2_with fail
    refine (IsName_any _ s IS.out).mono ?_
    rintro e w1 ⟨rfl, rfl⟩
    go_wp2_with (first | (go_at_call 75; go_in) | (go_at_call 54; go_in))
    go_ret
    exact ⟨ret_bool (HE.out).symm, by repeat (first | (with_reducible exact Below.refl _ _) | (with_reducible assumption) | ((with_reducible refine bl_alloc ?_ _ ?_); (focus ((first | omega | (simp <;> omega)); done))) | ((with_reducible refine bl_set ?_ _ ?_); (focus ((first | omega | (simp <;> omega)); done))) | (with_reducible refine below_drewN ?_ _) | (with_reducible refine Below.drew ?_))⟩
  · have HE := Lib.hid (ant_2 (s := s) (xs := xs) (ys := ys) (fun h => dec_no e3 h.2))
    obtain ⟨A, c, rfl⟩ := ha.reads.form
    obtain ⟨A', c', rfl⟩ := hb.reads.form
    clear ha hb
    go_enter Tryd.func59, Tryd.ntmps59
    go_wp2_with fail
    refine (IsName_any _ s IS.out).mono ?_
    rintro e w1 ⟨rfl, rfl⟩
    go_wp2_with (first | (go_at_call 75; go_in) | (go_at_call 54; go_in))
    go_ret
    exact ⟨ret_bool (HE.out).symm, by repeat (first | (with_reducible exact Below.refl _ _) | (with_reducible assumption) | ((with_reducible refine bl_alloc ?_ _ ?_); (focus ((first | omega | (simp <;> omega)); done))) | ((with_reducible refine bl_set ?_ _ ?_); (focus ((first | omega | (simp <;> omega)); done))) | (with_reducible refine below_drewN ?_ _) | (with_reducible refine Below.drew ?_))⟩
  by_cases e4 : xs.length = 36
  rotate_left
  · have HE := Lib.hid (ant_3 (s := s) (g := g) (ys := ys) (loss_len (m := 0) e4))
    have e4' : decide ((xs.length : Int) = 36) = false := decide_eq_false (by omega)
    obtain ⟨A, c, rfl⟩ := ha.reads.form
    obtain ⟨A', c', rfl⟩ := hb.reads.form
    clear ha hb
    go_enter Tryd.func59, Tryd.ntmps59
    go_wp2_with fail
    refine (IsName_any _ s IS.out).mono ?_
    rintro e w1 ⟨rfl, rfl⟩
    go_wp2_with (first | (go_at_call 75; go_in) | (go_at_call 54; go_in))
    go_ret
    exact ⟨ret_bool (HE.out).symm, by repeat (first | (with_reducible exact Below.refl _ _) | (with_reducible assumption) | ((with_reducible refine bl_alloc ?_ _ ?_); (focus ((first | omega | (simp <;> omega)); done))) | ((with_reducible refine bl_set ?_ _ ?_); (focus ((first | omega | (simp <;> omega)); done))) | (with_reducible refine below_drewN ?_ _) | (with_reducible refine Below.drew ?_))⟩
  by_cases e5 : ys.length = 19
  rotate_left
  · have HE := Lib.hid (ant_4 (s := s) (g := g) (xs := xs) (loss_len (m := 9) e5))
    have e5' : decide ((ys.length : Int) = 19) = false := decide_eq_false (by omega)
    have e4' : (xs.length : Int) = 36 := by omega
    obtain ⟨A, c, rfl⟩ := ha.reads.form
    obtain ⟨A', c', rfl⟩ := hb.reads.form
    clear ha hb
    go_enter Tryd.func59, Tryd.ntmps59
    go_wp2_with fail
    refine (IsName_any _ s IS.out).mono ?_
    rintro e w1 ⟨rfl, rfl⟩
    go_wp2_with (first | (go_at_call 75; go_in) | (go_at_call 54; go_in))
    go_ret
    exact ⟨ret_bool (HE.out).symm, by repeat (first | (with_reducible exact Below.refl _ _) | (with_reducible assumption) | ((with_reducible refine bl_alloc ?_ _ ?_); (focus ((first | omega | (simp <;> omega)); done))) | ((with_reducible refine bl_set ?_ _ ?_); (focus ((first | omega | (simp <;> omega)); done))) | (with_reducible refine below_drewN ?_ _) | (with_reducible refine Below.drew ?_))⟩
  have HA := Lib.hid ha
  have HB := Lib.hid hb
  rcases ha.forms with ⟨_, rfl⟩ | ⟨ga, ca, rfl, _, la, hca, _⟩
  · simp at e4
  rcases hb.forms with ⟨_, rfl⟩ | ⟨gb, cb, rfl, _, lb, hcb, _⟩
  · simp at e5
  clear ha hb l1 l2 z1 z2
  have x0 := hca 0 (by omega)
  have y0 := hcb 9 (by omega)
  clear hca hcb
  have f1 := Lib.hid (fun h => ant_3 (s := s) (g := g) (ys := ys) (loss_all (xs := xs) (n := 36) (m := 0) h))
  have f2 := Lib.hid (fun h => ant_4 (s := s) (g := g) (xs := xs) (loss_all (xs := ys) (n := 19) (m := 9) h))
  have f3 := Lib.hid (fun h => ant_3 (s := s) (g := g) (ys := ys) (loss_main (xs := xs) (n := 36) (m := 0) h))
  have f4 := Lib.hid (fun h => ant_4 (s := s) (g := g) (xs := xs) (loss_main (xs := ys) (n := 19) (m := 9) h))
  have f5 := Lib.hid (fun h6 h7 h8 h9 => ant_yes e1 e2 e3 (loss_yes (xs := xs) (m := 0) e4 h6 h7) (loss_yes (xs := ys) (m := 9) e5 h8 h9))
  generalize antB s g xs ys = R at *
  rw [e4] at *
  rw [e5] at *
  clear e4 e5
  rcases bool_two (allIn xs 0 60000) with e6 | e6
  rotate_left
  · have HE' := Lib.hid (f1.out e6)
    go_enter Tryd.func59, Tryd.ntmps59
    go_wp2_with fail
    refine (IsName_any _ s IS.out).mono ?_
    rintro e w1 ⟨rfl, rfl⟩
    go_wp2_with (first | (go_at_call 75; go_in) | (go_at_call 54; go_in))
    refine (allWithin_any _ _ xs p (HA.out.alloc_ _) 0 60000).mono ?_
    rintro e w1 ⟨rfl, hb⟩
    have zz1 : w.heap.size + 1 ≤ w1.heap.size := (by have := hb.size; ((try simp at this) <;> omega))
    have H1 := Lib.hid (show Below w.heap.size w w1 by repeat (first | (with_reducible exact Below.refl _ _) | (with_reducible assumption) | ((with_reducible refine bl_alloc ?_ _ ?_); (focus ((first | omega | (simp <;> omega)); done))) | ((with_reducible refine bl_set ?_ _ ?_); (focus ((first | omega | (simp <;> omega)); done))) | (with_reducible refine below_drewN ?_ _) | (with_reducible refine Below.drew ?_) | ((with_reducible refine bl_trans ?_ hb ?_); (focus ((first | omega | (simp <;> omega)); done)))))
    obtain ⟨d1, d2⟩ := bcell hb
    have k1 : ga < w1.heap.size := by omega
    have k2 : gb < w1.heap.size := by omega
    have k3 : w.heap.size < w1.heap.size := by omega
    have RB := Lib.hid ((HB.out.alloc_ _).later hb)
    clear hb
    go_wp2_with fail
    go_ret
    exact ⟨ret_bool HE'.out.symm, by repeat (first | (with_reducible exact Below.refl _ _) | (with_reducible assumption) | ((with_reducible refine bl_alloc ?_ _ ?_); (focus ((first | omega | (simp <;> omega)); done))) | ((with_reducible refine bl_set ?_ _ ?_); (focus ((first | omega | (simp <;> omega)); done))) | (with_reducible refine below_drewN ?_ _) | (with_reducible refine Below.drew ?_) | ((with_reducible refine bl_trans ?_ H1.out ?_); (focus ((first | omega | (simp <;> omega)); done))))⟩
  rcases bool_two (allIn ys 0 60000) with e7 | e7
  rotate_left
  · have HE' := Lib.hid (f2.out e7)
    go_enter Tryd.func59, Tryd.ntmps59
    go_wp2_with fail
    refine (IsName_any _ s IS.out).mono ?_
    rintro e w1 ⟨rfl, rfl⟩
    go_wp2_with (first | (go_at_call 75; go_in) | (go_at_call 54; go_in))
    refine (allWithin_any _ _ xs p (HA.out.alloc_ _) 0 60000).mono ?_
    rintro e w1 ⟨rfl, hb⟩
    have zz1 : w.heap.size + 1 ≤ w1.heap.size := (by have := hb.size; ((try simp at this) <;> omega))
    have H1 := Lib.hid (show Below w.heap.size w w1 by repeat (first | (with_reducible exact Below.refl _ _) | (with_reducible assumption) | ((with_reducible refine bl_alloc ?_ _ ?_); (focus ((first | omega | (simp <;> omega)); done))) | ((with_reducible refine bl_set ?_ _ ?_); (focus ((first | omega | (simp <;> omega)); done))) | (with_reducible refine below_drewN ?_ _) | (with_reducible refine Below.drew ?_) | ((with_reducible refine bl_trans ?_ hb ?_); (focus ((first | omega | (simp <;> omega)); done)))))
    obtain ⟨d1, d2⟩ := bcell hb
    have k1 : ga < w1.heap.size := by omega
    have k2 : gb < w1.heap.size := by omega
    have k3 : w.heap.size < w1.heap.size := by omega
    have RB := Lib.hid ((HB.out.alloc_ _).later hb)
    clear hb
    go_wp2_with fail
    refine (allWithin_any _ _ ys q RB.out 0 60000).mono ?_
    rintro e w2 ⟨rfl, hb⟩
    have H2 := Lib.hid (show Below w.heap.size w w2 by repeat (first | (with_reducible exact Below.refl _ _) | (with_reducible assumption) | ((with_reducible refine bl_alloc ?_ _ ?_); (focus ((first | omega | (simp <;> omega)); done))) | ((with_reducible refine bl_set ?_ _ ?_); (focus ((first | omega | (simp <;> omega)); done))) | (with_reducible refine below_drewN ?_ _) | (with_reducible refine Below.drew ?_) | ((with_reducible refine bl_trans ?_ hb ?_); (focus ((first | omega | (simp <;> omega)); done))) | ((with_reducible refine bl_trans ?_ H1.out ?_); (focus ((first | omega | (simp <;> omega)); done)))))
    clear hb H1
    go_wp2_with fail
    go_ret
    exact ⟨ret_bool HE'.out.symm, by repeat (first | (with_reducible exact Below.refl _ _) | (with_reducible assumption) | ((with_reducible refine bl_alloc ?_ _ ?_); (focus ((first | omega | (simp <;> omega)); done))) | ((with_reducible refine bl_set ?_ _ ?_); (focus ((first | omega | (simp <;> omega)); done))) | (with_reducible refine below_drewN ?_ _) | (with_reducible refine Below.drew ?_) | ((with_reducible refine bl_trans ?_ H2.out ?_); (focus ((first | omega | (simp <;> omega)); done))))⟩
  by_cases e8 : xs.getD 0 0 = 0
  rotate_left
  · have HE' := Lib.hid (f3.out e8)
    have e8' : (xs.getD 0 0 == 0) = false := beq_eq_false_iff_ne.2 e8
    clear f1 f2 f3 f4 f5 e8
    generalize xs.getD 0 0 = x at *
    go_enter Tryd.func59, Tryd.ntmps59
    go_wp2_with fail
    refine (IsName_any _ s IS.out).mono ?_
    rintro e w1 ⟨rfl, rfl⟩
    go_wp2_with (first | (go_at_call 75; go_in) | (go_at_call 54; go_in))
    refine (allWithin_any _ _ xs p (HA.out.alloc_ _) 0 60000).mono ?_
    rintro e w1 ⟨rfl, hb⟩
    have zz1 : w.heap.size + 1 ≤ w1.heap.size := (by have := hb.size; ((try simp at this) <;> omega))
    have H1 := Lib.hid (show Below w.heap.size w w1 by repeat (first | (with_reducible exact Below.refl _ _) | (with_reducible assumption) | ((with_reducible refine bl_alloc ?_ _ ?_); (focus ((first | omega | (simp <;> omega)); done))) | ((with_reducible refine bl_set ?_ _ ?_); (focus ((first | omega | (simp <;> omega)); done))) | (with_reducible refine below_drewN ?_ _) | (with_reducible refine Below.drew ?_) | ((with_reducible refine bl_trans ?_ hb ?_); (focus ((first | omega | (simp <;> omega)); done)))))
    obtain ⟨d1, d2⟩ := bcell hb
    have k1 : ga < w1.heap.size := by omega
    have k2 : gb < w1.heap.size := by omega
    have k3 : w.heap.size < w1.heap.size := by omega
    have RB := Lib.hid ((HB.out.alloc_ _).later hb)
    clear hb
    go_wp2_with fail
    refine (allWithin_any _ _ ys q RB.out 0 60000).mono ?_
    rintro e w2 ⟨rfl, hb⟩
    have H2 := Lib.hid (show Below w.heap.size w w2 by repeat (first | (with_reducible exact Below.refl _ _) | (with_reducible assumption) | ((with_reducible refine bl_alloc ?_ _ ?_); (focus ((first | omega | (simp <;> omega)); done))) | ((with_reducible refine bl_set ?_ _ ?_); (focus ((first | omega | (simp <;> omega)); done))) | (with_reducible refine below_drewN ?_ _) | (with_reducible refine Below.drew ?_) | ((with_reducible refine bl_trans ?_ hb ?_); (focus ((first | omega | (simp <;> omega)); done))) | ((with_reducible refine bl_trans ?_ H1.out ?_); (focus ((first | omega | (simp <;> omega)); done)))))
    have zz2 : w1.heap.size ≤ w2.heap.size := (by have := hb.size; ((try simp at this) <;> omega))
    obtain ⟨d3, d4⟩ := bcell hb
    clear hb H1
    go_wp2_with fail
    go_ret
    exact ⟨ret_bool HE'.out.symm, by repeat (first | (with_reducible exact Below.refl _ _) | (with_reducible assumption) | ((with_reducible refine bl_alloc ?_ _ ?_); (focus ((first | omega | (simp <;> omega)); done))) | ((with_reducible refine bl_set ?_ _ ?_); (focus ((first | omega | (simp <;> omega)); done))) | (with_reducible refine below_drewN ?_ _) | (with_reducible refine Below.drew ?_) | ((with_reducible refine bl_trans ?_ H2.out ?_); (focus ((first | omega | (simp <;> omega)); done))))⟩
  rw [e8] at x0
  by_cases e9 : ys.getD 9 0 = 0
  rotate_left
  · have HE' := Lib.hid (f4.out e9)
    have e9' : (ys.getD 9 0 == 0) = false := beq_eq_false_iff_ne.2 e9
    clear f1 f2 f3 f4 f5 e9
    generalize ys.getD 9 0 = y at *
    go_enter Tryd.func59, Tryd.ntmps59
    go_wp2_with fail
    refine (IsName_any _ s IS.out).mono ?_
    rintro e w1 ⟨rfl, rfl⟩
    go_wp2_with (first | (go_at_call 75; go_in) | (go_at_call 54; go_in))
    refine (allWithin_any _ _ xs p (HA.out.alloc_ _) 0 60000).mono ?_
    rintro e w1 ⟨rfl, hb⟩
    have zz1 : w.heap.size + 1 ≤ w1.heap.size := (by have := hb.size; ((try simp at this) <;> omega))
    have H1 := Lib.hid (show Below w.heap.size w w1 by repeat (first | (with_reducible exact Below.refl _ _) | (with_reducible assumption) | ((with_reducible refine bl_alloc ?_ _ ?_); (focus ((first | omega | (simp <;> omega)); done))) | ((with_reducible refine bl_set ?_ _ ?_); (focus ((first | omega | (simp <;> omega)); done))) | (with_reducible refine below_drewN ?_ _) | (with_reducible refine Below.drew ?_) | ((with_reducible refine bl_trans ?_ hb ?_); (focus ((first | omega | (simp <;> omega)); done)))))
    obtain ⟨d1, d2⟩ := bcell hb
    have k1 : ga < w1.heap.size := by omega
    have k2 : gb < w1.heap.size := by omega
    have k3 : w.heap.size < w1.heap.size := by omega
    have RB := Lib.hid ((HB.out.alloc_ _).later hb)
    clear hb
    go_wp2_with fail
    refine (allWithin_any _ _ ys q RB.out 0 60000).mono ?_
    rintro e w2 ⟨rfl, hb⟩
    have H2 := Lib.hid (show Below w.heap.size w w2 by repeat (first | (with_reducible exact Below.refl _ _) | (with_reducible assumption) | ((with_reducible refine bl_alloc ?_ _ ?_); (focus ((first | omega | (simp <;> omega)); done))) | ((with_reducible refine bl_set ?_ _ ?_); (focus ((first | omega | (simp <;> omega)); done))) | (with_reducible refine below_drewN ?_ _) | (with_reducible refine Below.drew ?_) | ((with_reducible refine bl_trans ?_ hb ?_); (focus ((first | omega | (simp <;> omega)); done))) | ((with_reducible refine bl_trans ?_ H1.out ?_); (focus ((first | omega | (simp <;> omega)); done)))))
    have zz2 : w1.heap.size ≤ w2.heap.size := (by have := hb.size; ((try simp at this) <;> omega))
    obtain ⟨d3, d4⟩ := bcell hb
    clear hb H1
    go_wp2_with fail
    go_ret
    exact ⟨ret_bool HE'.out.symm, by repeat (first | (with_reducible exact Below.refl _ _) | (with_reducible assumption) | ((with_reducible refine bl_alloc ?_ _ ?_); (focus ((first | omega | (simp <;> omega)); done))) | ((with_reducible refine bl_set ?_ _ ?_); (focus ((first | omega | (simp <;> omega)); done))) | (with_reducible refine below_drewN ?_ _) | (with_reducible refine Below.drew ?_) | ((with_reducible refine bl_trans ?_ H2.out ?_); (focus ((first | omega | (simp <;> omega)); done))))⟩
  rw [e9] at y0
  · have HE' := Lib.hid (f5.out e8 e6 e9 e7)
    clear f1 f2 f3 f4 f5 e8 e9
    go_enter Tryd.func59, Tryd.ntmps59
    go_wp2_with fail
    refine (IsName_any _ s IS.out).mono ?_
    rintro e w1 ⟨rfl, rfl⟩
    go_wp2_with (first | (go_at_call 75; go_in) | (go_at_call 54; go_in))
    refine (allWithin_any _ _ xs p (HA.out.alloc_ _) 0 60000).mono ?_
    rintro e w1 ⟨rfl, hb⟩
    have zz1 : w.heap.size + 1 ≤ w1.heap.size := (by have := hb.size; ((try simp at this) <;> omega))
    have H1 := Lib.hid (show Below w.heap.size w w1 by repeat (first | (with_reducible exact Below.refl _ _) | (with_reducible assumption) | ((with_reducible refine bl_alloc ?_ _ ?_); (focus ((first | omega | (simp <;> omega)); done))) | ((with_reducible refine bl_set ?_ _ ?_); (focus ((first | omega | (simp <;> omega)); done))) | (with_reducible refine below_drewN ?_ _) | (with_reducible refine Below.drew ?_) | ((with_reducible refine bl_trans ?_ hb ?_); (focus ((first | omega | (simp <;> omega)); done)))))
    obtain ⟨d1, d2⟩ := bcell hb
    have k1 : ga < w1.heap.size := by omega
    have k2 : gb < w1.heap.size := by omega
    have k3 : w.heap.size < w1.heap.size := by omega
    have RB := Lib.hid ((HB.out.alloc_ _).later hb)
    clear hb
    go_wp2_with fail
    refine (allWithin_any _ _ ys q RB.out 0 60000).mono ?_
    rintro e w2 ⟨rfl, hb⟩
    have H2 := Lib.hid (show Below w.heap.size w w2 by repeat (first | (with_reducible exact Below.refl _ _) | (with_reducible assumption) | ((with_reducible refine bl_alloc ?_ _ ?_); (focus ((first | omega | (simp <;> omega)); done))) | ((with_reducible refine bl_set ?_ _ ?_); (focus ((first | omega | (simp <;> omega)); done))) | (with_reducible refine below_drewN ?_ _) | (with_reducible refine Below.drew ?_) | ((with_reducible refine bl_trans ?_ hb ?_); (focus ((first | omega | (simp <;> omega)); done))) | ((with_reducible refine bl_trans ?_ H1.out ?_); (focus ((first | omega | (simp <;> omega)); done)))))
    have zz2 : w1.heap.size ≤ w2.heap.size := (by have := hb.size; ((try simp at this) <;> omega))
    obtain ⟨d3, d4⟩ := bcell hb
    clear hb H1
    go_wp2_with fail
    go_ret
    exact ⟨ret_bool HE'.out.symm, by repeat (first | (with_reducible exact Below.refl _ _) | (with_reducible assumption) | ((with_reducible refine bl_alloc ?_ _ ?_); (focus ((first | omega | (simp <;> omega)); done))) | ((with_reducible refine bl_set ?_ _ ?_); (focus ((first | omega | (simp <;> omega)); done))) | (with_reducible refine below_drewN ?_ _) | (with_reducible refine Below.drew ?_) | ((with_reducible refine bl_trans ?_ H2.out ?_); (focus ((first | omega | (simp <;> omega)); done))))⟩
set_option maxHeartbeats 4000000 in
theorem l06Ok_any (w : World) (o : Nat) (s : ByteArray) (is : s.size ≤ maxLen) (g : Int) (a : Value) (xs : List Int) (p : Nat) (ha : Row 2 w p a xs) (b : Value) (ys : List Int) (q : Nat) (hb : Row 2 w q b ys)
    (c0 : w.cell? ⟨o, 0, none⟩ = some (.string s)) (c1 : w.cell? ⟨o, 1, none⟩ = some (.int .i64 g)) (c2 : w.cell? ⟨o, 2, none⟩ = some a) (c3 : w.cell? ⟨o, 3, none⟩ = some b) :
    Calls Tryd.prog 40 #[.pointer (some ⟨o, 0, none⟩)] w fun e w' => e = .returned (.bool (antB s g xs ys)) ∧ ∃ k, w' = w.drewN k := by
  have IS := Lib.hid is
  have HA := Lib.hid ha
  have HB := Lib.hid hb
  clear is ha hb
  rcases bool_two (nameB s) with e1 | e1
  rotate_left
  · have HE := Lib.hid (ant_1 (g := g) (xs := xs) (ys := ys) e1)
    go_enter Tryd.func40, Tryd.ntmps40
    go_wp2_with fail
    refine (l01Name_any _ s IS.out).mono ?_
    rintro e w1 ⟨rfl, rfl⟩
    go_wp2_with fail
    go_ret
    exact ⟨ret_bool HE.out.symm, 0, rfl⟩
  rcases in_cases g (-60000) 60000 with ⟨e2, e3⟩ | e2 | ⟨e2, e3⟩
  rotate_left
  · have HE := Lib.hid (ant_2 (s := s) (xs := xs) (ys := ys) (fun h => dec_no e2 h.1))
    go_enter Tryd.func40, Tryd.ntmps40
    go_wp2_with fail
    refine (l01Name_any _ s IS.out).mono ?_
    rintro e w1 ⟨rfl, rfl⟩
    go_wp2_with (first | (go_at_call 57; go_in) | (go_at_call 42; go_in))
    go_ret
    exact ⟨ret_bool HE.out.symm, 0, rfl⟩
  · have HE := Lib.hid (ant_2 (s := s) (xs := xs) (ys := ys) (fun h => dec_no e3 h.2))
    go_enter Tryd.func40, Tryd.ntmps40
    go_wp2_with fail
    refine (l01Name_any _ s IS.out).mono ?_
    rintro e w1 ⟨rfl, rfl⟩
    go_wp2_with (first | (go_at_call 57; go_in) | (go_at_call 42; go_in))
    go_ret
    exact ⟨ret_bool HE.out.symm, 0, rfl⟩
  have F3 := Lib.hid (fun h => ant_3 (s := s) (g := g) (xs := xs) (ys := ys) h)
  have F4 := Lib.hid (fun h => ant_4 (s := s) (g := g) (xs := xs) (ys := ys) h)
  have F5 := Lib.hid (fun h4 h5 => ant_yes (s := s) (xs := xs) (ys := ys) e1 e2 e3 h4 h5)
  generalize antB s g xs ys = R at *
  rcases bool_two (lossB xs 36 0) with e4 | e4
  rotate_left
  · have HE := Lib.hid (F3.out e4)
    clear F3 F4 F5
    go_enter Tryd.func40, Tryd.ntmps40
    go_wp2_with fail
    refine (l01Name_any _ s IS.out).mono ?_
    rintro e w1 ⟨rfl, rfl⟩
    go_wp2_with (first | (go_at_call 57; go_in) | (go_at_call 42; go_in))
    refine (l06Losses_any _ _ xs p HA.out 36 0 (by omega) (by omega)).mono ?_
    rintro e w1 ⟨rfl, k, rfl⟩
    go_wp2_with fail
    go_ret
    exact ⟨ret_bool HE.out.symm, k, rfl⟩
  rcases bool_two (lossB ys 19 9) with e5 | e5
  rotate_left
  · have HE := Lib.hid (F4.out e5)
    clear F3 F4 F5
    go_enter Tryd.func40, Tryd.ntmps40
    go_wp2_with fail
    refine (l01Name_any _ s IS.out).mono ?_
    rintro e w1 ⟨rfl, rfl⟩
    go_wp2_with (first | (go_at_call 57; go_in) | (go_at_call 42; go_in))
    refine (l06Losses_any _ _ xs p HA.out 36 0 (by omega) (by omega)).mono ?_
    rintro e w1 ⟨rfl, k, rfl⟩
    go_wp2_with fail
    refine (l06Losses_any _ _ ys q (HB.out.drewN k) 19 9 (by omega) (by omega)).mono ?_
    rintro e w1 ⟨rfl, k', rfl⟩
    go_wp2_with fail
    go_ret
    exact ⟨ret_bool HE.out.symm, _, rfl⟩
  · have HE := Lib.hid (F5.out e4 e5)
    clear F3 F4 F5
    go_enter Tryd.func40, Tryd.ntmps40
    go_wp2_with fail
    refine (l01Name_any _ s IS.out).mono ?_
    rintro e w1 ⟨rfl, rfl⟩
    go_wp2_with (first | (go_at_call 57; go_in) | (go_at_call 42; go_in))
    refine (l06Losses_any _ _ xs p HA.out 36 0 (by omega) (by omega)).mono ?_
    rintro e w1 ⟨rfl, k, rfl⟩
    go_wp2_with fail
    refine (l06Losses_any _ _ ys q (HB.out.drewN k) 19 9 (by omega) (by omega)).mono ?_
    rintro e w1 ⟨rfl, k', rfl⟩
    go_wp2_with fail
    go_ret
    exact ⟨ret_bool HE.out.symm, _, rfl⟩
end Go.Proofs.YtampjgfddakdoaaDoor
