/-
  When a terrain is valid: the reference's and the program's tests, one model. The conditions are the hypotheses.
-/
import Derived.Test.YtedpdcdmemenhaaRows
import Derived.Test.YtedpdcdmemenhaaLib
import Derived.Test.YtedpdcdmemenhaaInt
import Derived.Test.YtedpdcdmemenhaaWithin
import Derived.Test.YtedpdcdmemenhaaAll
import Derived.Test.YtedpdcdmemenhaaOwn
import Derived.Test.YtedpdcdmemenhaaField
import Derived.Test.YtedpdcdmemenhaaTer
import Derived.Outline
import Derived.Deep.QuietTactic
import Derived.BigQuiet
import Derived.Deep.RegionHeld3
import Derived.Deep.DrawnRows
namespace Go.Proofs.Ytedpdcdmemenhaa
open Go.RowKit
set_option linter.unusedSimpArgs false
set_option linter.unusedVariables false
attribute [local go_sem ↓] Go.wp_at_zero Go.wp_at_succ
set_option maxRecDepth 20000 in
set_option maxHeartbeats 4000000 in
theorem l04Ok_any (w : World) (o : Nat) (st wd ht : Int) (v : Value) (hs : List Int) (p : Nat) (hr : Row 2 w p v hs) (u : Value) (cs : List Int) (q : Nat) (hc : Row 2 w q u cs) (c0 : w.cell? ⟨o, 0, none⟩ = some (.int .i64 st)) (c1 : w.cell? ⟨o, 1, none⟩ = some (.int .i64 wd)) (c2 : w.cell? ⟨o, 2, none⟩ = some (.int .i64 ht)) (c3 : w.cell? ⟨o, 3, none⟩ = some (v)) (c4 : w.cell? ⟨o, 4, none⟩ = some (u)) :
    Calls Try.prog 66 #[.pointer (some ⟨o, 0, none⟩)] w fun e w' => e = .returned (.bool (terB st wd ht hs cs)) ∧ ∃ k, w' = w.drewN k := by
  have HR := Lib.hid hr
  have HQ := Lib.hid hc
  have l1 := hr.len
  have l2 := hc.len
  unfold maxLen at l1 l2
  clear hr hc
  rcases bool_tf (sizeB st wd ht) with e1 | e1
  rotate_left
  · have HE := Lib.hid (ter_1 (hs := hs) (cs := cs) e1)
    have HSZ : Hid (∀ W : World, Calls Try.prog 96 #[.int .i64 st, .int .i64 wd, .int .i64 ht] W fun e w' => e = .returned (.bool false) ∧ W = w') := fun W => by have h := l04Size_any W st wd ht; rw [e1] at h; exact h
    obtain ⟨R, hR⟩ : ∃ R, R = terB st wd ht hs cs := ⟨_, rfl⟩
    rw [← hR] at HE ⊢
    clear hR e1 HR HQ
    go_enter Try.func66, Try.ntmps66
    go_wp2_with fail
    go_quiet ((go_at_call 96; exact quiet_left (HSZ.out _)))
    go_wp2_with fail
    go_ret
    exact ⟨ret_bool HE.out.symm, _, rfl⟩
  obtain ⟨s0, s1, s2, _, _⟩ := size_parts e1
  have HSZ : Hid (∀ W : World, Calls Try.prog 96 #[.int .i64 st, .int .i64 wd, .int .i64 ht] W fun e w' => e = .returned (.bool true) ∧ W = w') := fun W => by have h := l04Size_any W st wd ht; rw [e1] at h; exact h
  obtain ⟨p0, p1⟩ := mul_nn (a := wd) (b := ht) (A := 24) (B := 24) (by omega) s1.2 (by omega) s2.2
  have p4 : 4 ≤ wd * ht := by have := Int.mul_le_mul (a := 2) (b := 2) (c := wd) (d := ht) s1.1 s2.1 (by omega) (by omega); omega
  have i1 : IntKind.i64.wrap (wd * ht) = wd * ht := by rw [IntKind.wrap_i64]; omega
  by_cases e2 : (hs.length : Int) = wd * ht
  rotate_left
  · have HE := Lib.hid (ter_2 (st := st) (cs := cs) e2)
    obtain ⟨R, hR⟩ : ∃ R, R = terB st wd ht hs cs := ⟨_, rfl⟩
    rw [← hR] at HE ⊢
    obtain ⟨A, ca, rfl⟩ := HR.out.reads.form
    obtain ⟨A', cb, rfl⟩ := HQ.out.reads.form
    clear hR e1 HR HQ
    obtain ⟨n, hn⟩ : ∃ n, n = hs.length := ⟨_, rfl⟩
    obtain ⟨n', hn'⟩ : ∃ n, n = cs.length := ⟨_, rfl⟩
    rw [← hn] at l1 e2 c3
    rw [← hn'] at l2 c4
    clear hn hn'
    have g1 : ((n : Int) == wd * ht) = false := by rw [beq_eq_false_iff_ne]; exact e2
    have g2 : ((n : Int) != wd * ht) = true := by rw [bne_iff_ne]; exact e2
    go_enter Try.func66, Try.ntmps66
    go_wp2_with fail
    go_quiet ((go_at_call 96; exact quiet_left (HSZ.out _)))
    go_wp2_with fail
    go_ret
    exact ⟨ret_bool HE.out.symm, _, rfl⟩
  by_cases e3 : cs.length = hs.length
  rotate_left
  · have HE := Lib.hid (ter_3 (st := st) (wd := wd) (ht := ht) e3)
    obtain ⟨R, hR⟩ : ∃ R, R = terB st wd ht hs cs := ⟨_, rfl⟩
    rw [← hR] at HE ⊢
    obtain ⟨A, ca, rfl⟩ := HR.out.reads.form
    obtain ⟨A', cb, rfl⟩ := HQ.out.reads.form
    clear hR e1 HR HQ
    obtain ⟨n, hn⟩ : ∃ n, n = hs.length := ⟨_, rfl⟩
    obtain ⟨n', hn'⟩ : ∃ n, n = cs.length := ⟨_, rfl⟩
    rw [← hn] at l1 e2 e3 c3
    rw [← hn'] at l2 e3 c4
    clear hn hn'
    have g1 : ((n : Int) == wd * ht) = true := by rw [beq_iff_eq]; exact e2
    have g2 : ((n : Int) != wd * ht) = false := by rw [bne_eq_false_iff_eq]; exact e2
    have g3 : ((n' : Int) == (n : Int)) = false := by rw [beq_eq_false_iff_ne]; omega
    have g4 : ((n' : Int) != (n : Int)) = true := by rw [bne_iff_ne]; omega
    have E2 := Lib.hid e2
    clear e2
    go_enter Try.func66, Try.ntmps66
    go_wp2_with fail
    go_quiet ((go_at_call 96; exact quiet_left (HSZ.out _)))
    go_wp2_with fail
    go_ret
    exact ⟨ret_bool HE.out.symm, _, rfl⟩
  have HP4 := Lib.hid (fun k (hk : k < hs.length) h => ter_4 (st := st) (wd := wd) (ht := ht) (cs := cs) (allIn_no (xs := hs) (lo := 0) (hi := 90000) hk h))
  have HP5 := Lib.hid (fun k (hk : k < cs.length) h => ter_5 (st := st) (wd := wd) (ht := ht) (hs := hs) (allIn_no (xs := cs) (lo := 0) (hi := 7) hk h))
  have HPY := Lib.hid (ter_yes e1 e2 e3)
  rcases HR.out.forms with ⟨_, hz⟩ | ⟨g, ca, rfl, _, lg, hx, _⟩
  · rw [hz] at e2; simp at e2; omega
  rcases HQ.out.forms with ⟨_, hz⟩ | ⟨g', cb, rfl, _, lg', hy, _⟩
  · exfalso; rw [hz] at e3; simp at e3; omega
  have HX := Lib.hid hx
  have HY := Lib.hid hy
  obtain ⟨R, hR⟩ : ∃ R, R = terB st wd ht hs cs := ⟨_, rfl⟩
  rw [← hR] at HP4 HP5 HPY ⊢
  clear hR e1 HR HQ hx hy
  rw [e3] at HP5 HY c4
  have HN2 := Lib.hid e3
  obtain ⟨n, hn⟩ : ∃ n, n = hs.length := ⟨_, rfl⟩
  have HN := Lib.hid hn
  rw [← hn] at l1 e2 HP4 HP5 HX HY c3 c4
  clear hn e3 l2
  have g1 : ((n : Int) != wd * ht) = false := by rw [bne_eq_false_iff_eq]; exact e2
  clear e2
  have HI1 : Hid (∀ (W : World) (x : Int), Calls Try.prog 60 #[.int .i64 x, .int .i64 0, .int .i64 90000] W fun e w' => e = .returned (.bool (inB x 0 90000)) ∧ W = w') := fun W x => l00In_any W x 0 90000
  have HI2 : Hid (∀ (W : World) (x : Int), Calls Try.prog 60 #[.int .i64 x, .int .i64 0, .int .i64 7] W fun e w' => e = .returned (.bool (inB x 0 7)) ∧ W = w') := fun W x => l00In_any W x 0 7
  go_enter Try.func66, Try.ntmps66
  go_wp2_with fail
  go_quiet ((go_at_call 96; exact quiet_left (HSZ.out _)))
  go_wp2_with fail
  go_loopw [3] (fun i wr => ∃ k : Nat, k ≤ n ∧ i = .int .i64 (k : Int) ∧ Hid (∀ m, m < k → (0 ≤ hs.getD m 0 ∧ hs.getD m 0 ≤ 90000) ∧ (0 ≤ cs.getD m 0 ∧ cs.getD m 0 ≤ 7)) ∧ ∃ q, wr = w.drewN q) (fun i _ => n + 1 - (intOf i).toNat)
  case atStart => exact ⟨0, Nat.zero_le _, rfl, fun m h => by omega, _, rfl⟩
  case round =>
    obtain ⟨k, hk, rfl, hin, q, rfl⟩ := hrel
    have i0 : (0 : Int) ≤ (k : Int) := Int.natCast_nonneg _
    by_cases hlt : k < n
    · have cx := HX.out k hlt
      have cy := HY.out k hlt
      have i2 : (k : Int) < (n : Int) := by omega
      rcases bool_tf (inB (hs.getD k 0) 0 90000) with hb1 | hb1
      rotate_left
      · have HE := Lib.hid (HP4.out k hlt (fun q => by rw [inB_yes q.1 q.2] at hb1; cases hb1))
        obtain ⟨x, hx⟩ : ∃ x, x = hs.getD k 0 := ⟨_, rfl⟩
        obtain ⟨y, hy⟩ : ∃ y, y = cs.getD k 0 := ⟨_, rfl⟩
        rw [← hx] at cx hb1
        rw [← hy] at cy
        clear hx hy
        have HJ1 : Hid (∀ W : World, Calls Try.prog 60 #[.int .i64 x, .int .i64 0, .int .i64 90000] W fun e w' => e = .returned (.bool false) ∧ W = w') := fun W => by have h := HI1.out W x; rw [hb1] at h; exact h
        clear hin HP4 HP5 HPY hb1
        go_wp2_with ((go_at_call 60; ((with_reducible refine (HJ1.out _).mono ?_); rintro e w1 ⟨rfl, rfl⟩)))
        go_ret
        exact ⟨ret_bool HE.out.symm, _, rfl⟩
      rcases bool_tf (inB (cs.getD k 0) 0 7) with hb2 | hb2
      rotate_left
      · have HE := Lib.hid (HP5.out k hlt (fun q => by rw [inB_yes q.1 q.2] at hb2; cases hb2))
        obtain ⟨x, hx⟩ : ∃ x, x = hs.getD k 0 := ⟨_, rfl⟩
        obtain ⟨y, hy⟩ : ∃ y, y = cs.getD k 0 := ⟨_, rfl⟩
        rw [← hx] at cx hb1
        rw [← hy] at cy hb2
        clear hx hy
        have HJ1 : Hid (∀ W : World, Calls Try.prog 60 #[.int .i64 x, .int .i64 0, .int .i64 90000] W fun e w' => e = .returned (.bool true) ∧ W = w') := fun W => by have h := HI1.out W x; rw [hb1] at h; exact h
        have HJ2 : Hid (∀ W : World, Calls Try.prog 60 #[.int .i64 y, .int .i64 0, .int .i64 7] W fun e w' => e = .returned (.bool false) ∧ W = w') := fun W => by have h := HI2.out W y; rw [hb2] at h; exact h
        clear hin HP4 HP5 HPY hb1 hb2
        go_wp2_with (first | (go_at_call 60; ((with_reducible refine (HJ1.out _).mono ?_); rintro e w1 ⟨rfl, rfl⟩)) | (go_at_call 60; ((with_reducible refine (HJ2.out _).mono ?_); rintro e w1 ⟨rfl, rfl⟩)))
        go_ret
        exact ⟨ret_bool HE.out.symm, _, rfl⟩
      have hin' : Hid (∀ m, m < k + 1 → (0 ≤ hs.getD m 0 ∧ hs.getD m 0 ≤ 90000) ∧ (0 ≤ cs.getD m 0 ∧ cs.getD m 0 ≤ 7)) := fun m hm => by
        by_cases e : m = k
        · subst e; exact ⟨inB_out hb1, inB_out hb2⟩
        · exact hin.out m (by omega)
      obtain ⟨x, hx⟩ : ∃ x, x = hs.getD k 0 := ⟨_, rfl⟩
      obtain ⟨y, hy⟩ : ∃ y, y = cs.getD k 0 := ⟨_, rfl⟩
      rw [← hx] at cx hb1
      rw [← hy] at cy hb2
      clear hx hy
      have HJ1 : Hid (∀ W : World, Calls Try.prog 60 #[.int .i64 x, .int .i64 0, .int .i64 90000] W fun e w' => e = .returned (.bool true) ∧ W = w') := fun W => by have h := HI1.out W x; rw [hb1] at h; exact h
      have HJ2 : Hid (∀ W : World, Calls Try.prog 60 #[.int .i64 y, .int .i64 0, .int .i64 7] W fun e w' => e = .returned (.bool true) ∧ W = w') := fun W => by have h := HI2.out W y; rw [hb2] at h; exact h
      clear hin HP4 HP5 HPY hb1 hb2
      go_wp2_with (first | (go_at_call 60; ((with_reducible refine (HJ1.out _).mono ?_); rintro e w1 ⟨rfl, rfl⟩)) | (go_at_call 60; ((with_reducible refine (HJ2.out _).mono ?_); rintro e w1 ⟨rfl, rfl⟩)))
      go_roundw
      case rel => exact ⟨k + 1, by omega, by go_num, hin', _, rfl⟩
      case measure => (simp [intOf] <;> omega)
    · obtain rfl : k = n := by omega
      have HE := Lib.hid (HPY.out (allIn_yes (fun m hm => (hin.out m (by have := HN.out; omega)).1)) (allIn_yes (fun m hm => (hin.out m (by have := HN.out; have := HN2.out; omega)).2)))
      clear hin HP4 HP5 HPY
      go_wp2_with fail
      go_ret
      exact ⟨ret_bool HE.out.symm, _, rfl⟩
set_option maxRecDepth 20000 in
set_option maxHeartbeats 4000000 in
theorem ValidTerrain_any (w : World) (st wd ht : Int) (v : Value) (hs : List Int) (p : Nat) (hr : Row 2 w p v hs) (u : Value) (cs : List Int) (q : Nat) (hc : Row 2 w q u cs) :
    Calls Try.prog 99 #[.agg #[.int .i64 st, .int .i64 wd, .int .i64 ht, v, u]] w fun e w' => e = .returned (.bool (terB st wd ht hs cs)) ∧ Below w.heap.size w w' := by
  have HR := Lib.hid hr
  have HQ := Lib.hid hc
  have l1 := hr.len
  have l2 := hc.len
  unfold maxLen at l1 l2
  clear hr hc
  rcases bool_tf (sizeB st wd ht) with e1 | e1
  rotate_left
  · have HE := Lib.hid (ter_1 (hs := hs) (cs := cs) e1)
    have HSZ : Hid (∀ W : World, Calls Try.prog 126 #[.int .i64 st, .int .i64 wd, .int .i64 ht] W fun e w' => e = .returned (.bool false) ∧ W = w') := fun W => by have h := sizeOk_any W st wd ht; rw [e1] at h; exact h
    obtain ⟨R, hR⟩ : ∃ R, R = terB st wd ht hs cs := ⟨_, rfl⟩
    rw [← hR] at HE ⊢
    clear hR e1 HR HQ
    go_enter Try.func99, Try.ntmps99
    go_wp2_with ((go_at_call 126; ((with_reducible refine (HSZ.out _).mono ?_); rintro e w1 ⟨rfl, rfl⟩)))
    go_ret
    exact ⟨ret_bool HE.out.symm, by repeat (first | (with_reducible exact Below.refl _ _) | (with_reducible assumption) | ((with_reducible refine bl_alloc ?_ _ ?_); (focus ((first | omega | (simp <;> omega)); done))) | ((with_reducible refine bl_set ?_ _ ?_); (focus ((first | omega | (simp <;> omega)); done))) | (with_reducible refine below_drewN ?_ _) | (with_reducible refine Below.drew ?_))⟩
  obtain ⟨s0, s1, s2, _, _⟩ := size_parts e1
  have HSZ : Hid (∀ W : World, Calls Try.prog 126 #[.int .i64 st, .int .i64 wd, .int .i64 ht] W fun e w' => e = .returned (.bool true) ∧ W = w') := fun W => by have h := sizeOk_any W st wd ht; rw [e1] at h; exact h
  obtain ⟨p0, p1⟩ := mul_nn (a := wd) (b := ht) (A := 24) (B := 24) (by omega) s1.2 (by omega) s2.2
  have p4 : 4 ≤ wd * ht := by have := Int.mul_le_mul (a := 2) (b := 2) (c := wd) (d := ht) s1.1 s2.1 (by omega) (by omega); omega
  have i1 : IntKind.i64.wrap (wd * ht) = wd * ht := by rw [IntKind.wrap_i64]; omega
  by_cases e2 : (hs.length : Int) = wd * ht
  rotate_left
  · have HE := Lib.hid (ter_2 (st := st) (cs := cs) e2)
    obtain ⟨R, hR⟩ : ∃ R, R = terB st wd ht hs cs := ⟨_, rfl⟩
    rw [← hR] at HE ⊢
    obtain ⟨A, ca, rfl⟩ := HR.out.reads.form
    obtain ⟨A', cb, rfl⟩ := HQ.out.reads.form
    clear hR e1 HR HQ
    obtain ⟨n, hn⟩ : ∃ n, n = hs.length := ⟨_, rfl⟩
    obtain ⟨n', hn'⟩ : ∃ n, n = cs.length := ⟨_, rfl⟩
    rw [← hn] at l1 e2 ⊢
    rw [← hn'] at l2 ⊢
    clear hn hn'
    have g1 : ((n : Int) == wd * ht) = false := by rw [beq_eq_false_iff_ne]; exact e2
    have g2 : ((n : Int) != wd * ht) = true := by rw [bne_iff_ne]; exact e2
    go_enter Try.func99, Try.ntmps99
    go_wp2_with ((go_at_call 126; ((with_reducible refine (HSZ.out _).mono ?_); rintro e w1 ⟨rfl, rfl⟩)))
    go_ret
    exact ⟨ret_bool HE.out.symm, by repeat (first | (with_reducible exact Below.refl _ _) | (with_reducible assumption) | ((with_reducible refine bl_alloc ?_ _ ?_); (focus ((first | omega | (simp <;> omega)); done))) | ((with_reducible refine bl_set ?_ _ ?_); (focus ((first | omega | (simp <;> omega)); done))) | (with_reducible refine below_drewN ?_ _) | (with_reducible refine Below.drew ?_))⟩
  by_cases e3 : cs.length = hs.length
  rotate_left
  · have HE := Lib.hid (ter_3 (st := st) (wd := wd) (ht := ht) e3)
    obtain ⟨R, hR⟩ : ∃ R, R = terB st wd ht hs cs := ⟨_, rfl⟩
    rw [← hR] at HE ⊢
    obtain ⟨A, ca, rfl⟩ := HR.out.reads.form
    obtain ⟨A', cb, rfl⟩ := HQ.out.reads.form
    clear hR e1 HR HQ
    obtain ⟨n, hn⟩ : ∃ n, n = hs.length := ⟨_, rfl⟩
    obtain ⟨n', hn'⟩ : ∃ n, n = cs.length := ⟨_, rfl⟩
    rw [← hn] at l1 e2 e3 ⊢
    rw [← hn'] at l2 e3 ⊢
    clear hn hn'
    have g1 : ((n : Int) == wd * ht) = true := by rw [beq_iff_eq]; exact e2
    have g2 : ((n : Int) != wd * ht) = false := by rw [bne_eq_false_iff_eq]; exact e2
    have g3 : ((n' : Int) == (n : Int)) = false := by rw [beq_eq_false_iff_ne]; omega
    have g4 : ((n' : Int) != (n : Int)) = true := by rw [bne_iff_ne]; omega
    have E2 := Lib.hid e2
    clear e2
    go_enter Try.func99, Try.ntmps99
    go_wp2_with ((go_at_call 126; ((with_reducible refine (HSZ.out _).mono ?_); rintro e w1 ⟨rfl, rfl⟩)))
    go_ret
    exact ⟨ret_bool HE.out.symm, by repeat (first | (with_reducible exact Below.refl _ _) | (with_reducible assumption) | ((with_reducible refine bl_alloc ?_ _ ?_); (focus ((first | omega | (simp <;> omega)); done))) | ((with_reducible refine bl_set ?_ _ ?_); (focus ((first | omega | (simp <;> omega)); done))) | (with_reducible refine below_drewN ?_ _) | (with_reducible refine Below.drew ?_))⟩
  have HP4 := Lib.hid (ter_4 (st := st) (wd := wd) (ht := ht) (hs := hs) (cs := cs))
  have HP5 := Lib.hid (ter_5 (st := st) (wd := wd) (ht := ht) (hs := hs) (cs := cs))
  have HPY := Lib.hid (ter_yes e1 e2 e3)
  obtain ⟨A, ca, rfl⟩ := HR.out.reads.form
  obtain ⟨A', cb, rfl⟩ := HQ.out.reads.form
  have HA : Hid (∀ W : World, Below w.heap.size w W → Calls Try.prog 82 #[.slice A hs.length ca, .int .i64 0, .int .i64 90000] W fun e w' => e = .returned (.bool (allIn hs 0 90000)) ∧ Below W.heap.size W w') := fun W hW => allWithin_any W _ hs p (HR.out.later hW) 0 90000
  have HC : Hid (∀ W : World, Below w.heap.size w W → Calls Try.prog 82 #[.slice A' cs.length cb, .int .i64 0, .int .i64 7] W fun e w' => e = .returned (.bool (allIn cs 0 7)) ∧ Below W.heap.size W w') := fun W hW => allWithin_any W _ cs q (HQ.out.later hW) 0 7
  obtain ⟨R, hR⟩ : ∃ R, R = terB st wd ht hs cs := ⟨_, rfl⟩
  rw [← hR] at HP4 HP5 HPY ⊢
  clear hR e1 HR HQ
  rw [e3] at HC ⊢
  obtain ⟨n, hn⟩ : ∃ n, n = hs.length := ⟨_, rfl⟩
  rw [← hn] at l1 e2 HA HC ⊢
  clear hn e3 l2
  have g1 : ((n : Int) == wd * ht) = true := by rw [beq_iff_eq]; exact e2
  clear e2
  rcases bool_tf (allIn hs 0 90000) with f1 | f1
  rotate_left
  · rw [f1] at HA
    have HE := Lib.hid (HP4.out f1)
    clear HP4 HP5 HPY f1
    go_enter Try.func99, Try.ntmps99
    go_wp2_with ((go_at_call 126; ((with_reducible refine (HSZ.out _).mono ?_); rintro e w1 ⟨rfl, rfl⟩)))
    refine (HA.out _ (by repeat (first | (with_reducible exact Below.refl _ _) | (with_reducible assumption) | ((with_reducible refine bl_alloc ?_ _ ?_); (focus ((first | omega | (simp <;> omega)); done))) | ((with_reducible refine bl_set ?_ _ ?_); (focus ((first | omega | (simp <;> omega)); done))) | (with_reducible refine below_drewN ?_ _) | (with_reducible refine Below.drew ?_)))).mono ?_
    rintro e w2 ⟨rfl, hb⟩
    have H2 := Lib.hid (show Below w.heap.size w w2 by repeat (first | (with_reducible exact Below.refl _ _) | (with_reducible assumption) | ((with_reducible refine bl_alloc ?_ _ ?_); (focus ((first | omega | (simp <;> omega)); done))) | ((with_reducible refine bl_set ?_ _ ?_); (focus ((first | omega | (simp <;> omega)); done))) | (with_reducible refine below_drewN ?_ _) | (with_reducible refine Below.drew ?_) | ((with_reducible refine bl_trans ?_ hb ?_); (focus ((first | omega | (simp <;> omega)); done)))))
    clear hb
    go_wp2_with fail
    go_ret
    exact ⟨ret_bool HE.out.symm, H2.out⟩
  rcases bool_tf (allIn cs 0 7) with f2 | f2
  rotate_left
  · rw [f1] at HA
    rw [f2] at HC
    have HE := Lib.hid (HP5.out f2)
    clear HP4 HP5 HPY f1 f2
    go_enter Try.func99, Try.ntmps99
    go_wp2_with ((go_at_call 126; ((with_reducible refine (HSZ.out _).mono ?_); rintro e w1 ⟨rfl, rfl⟩)))
    refine (HA.out _ (by repeat (first | (with_reducible exact Below.refl _ _) | (with_reducible assumption) | ((with_reducible refine bl_alloc ?_ _ ?_); (focus ((first | omega | (simp <;> omega)); done))) | ((with_reducible refine bl_set ?_ _ ?_); (focus ((first | omega | (simp <;> omega)); done))) | (with_reducible refine below_drewN ?_ _) | (with_reducible refine Below.drew ?_)))).mono ?_
    rintro e w2 ⟨rfl, hb⟩
    have H2 := Lib.hid (show Below w.heap.size w w2 by repeat (first | (with_reducible exact Below.refl _ _) | (with_reducible assumption) | ((with_reducible refine bl_alloc ?_ _ ?_); (focus ((first | omega | (simp <;> omega)); done))) | ((with_reducible refine bl_set ?_ _ ?_); (focus ((first | omega | (simp <;> omega)); done))) | (with_reducible refine below_drewN ?_ _) | (with_reducible refine Below.drew ?_) | ((with_reducible refine bl_trans ?_ hb ?_); (focus ((first | omega | (simp <;> omega)); done)))))
    have x4 := keeps hb (p := ⟨w.heap.size, 4, none⟩) (v := .slice A' n cb) (by simp [go_sem])
    have z2 := H2.out.size
    clear hb
    go_wp2_with fail
    refine (HC.out _ H2.out).mono ?_
    rintro e w3 ⟨rfl, hb⟩
    have H3 := Lib.hid (show Below w.heap.size w w3 by repeat (first | (with_reducible exact Below.refl _ _) | (with_reducible assumption) | ((with_reducible refine bl_alloc ?_ _ ?_); (focus ((first | omega | (simp <;> omega)); done))) | ((with_reducible refine bl_set ?_ _ ?_); (focus ((first | omega | (simp <;> omega)); done))) | (with_reducible refine below_drewN ?_ _) | (with_reducible refine Below.drew ?_) | ((with_reducible refine bl_trans ?_ hb ?_); (focus ((first | omega | (simp <;> omega)); done))) | ((with_reducible refine bl_trans ?_ H2.out ?_); (focus ((first | omega | (simp <;> omega)); done)))))
    clear hb
    go_wp2_with fail
    go_ret
    exact ⟨ret_bool HE.out.symm, H3.out⟩
  rw [f1] at HA
  rw [f2] at HC
  have HE := Lib.hid (HPY.out f1 f2)
  clear HP4 HP5 HPY f1 f2
  go_enter Try.func99, Try.ntmps99
  go_wp2_with ((go_at_call 126; ((with_reducible refine (HSZ.out _).mono ?_); rintro e w1 ⟨rfl, rfl⟩)))
  refine (HA.out _ (by repeat (first | (with_reducible exact Below.refl _ _) | (with_reducible assumption) | ((with_reducible refine bl_alloc ?_ _ ?_); (focus ((first | omega | (simp <;> omega)); done))) | ((with_reducible refine bl_set ?_ _ ?_); (focus ((first | omega | (simp <;> omega)); done))) | (with_reducible refine below_drewN ?_ _) | (with_reducible refine Below.drew ?_)))).mono ?_
  rintro e w2 ⟨rfl, hb⟩
  have H2 := Lib.hid (show Below w.heap.size w w2 by repeat (first | (with_reducible exact Below.refl _ _) | (with_reducible assumption) | ((with_reducible refine bl_alloc ?_ _ ?_); (focus ((first | omega | (simp <;> omega)); done))) | ((with_reducible refine bl_set ?_ _ ?_); (focus ((first | omega | (simp <;> omega)); done))) | (with_reducible refine below_drewN ?_ _) | (with_reducible refine Below.drew ?_) | ((with_reducible refine bl_trans ?_ hb ?_); (focus ((first | omega | (simp <;> omega)); done)))))
  have x4 := keeps hb (p := ⟨w.heap.size, 4, none⟩) (v := .slice A' n cb) (by simp [go_sem])
  have z2 := H2.out.size
  clear hb
  go_wp2_with fail
  refine (HC.out _ H2.out).mono ?_
  rintro e w3 ⟨rfl, hb⟩
  have H3 := Lib.hid (show Below w.heap.size w w3 by repeat (first | (with_reducible exact Below.refl _ _) | (with_reducible assumption) | ((with_reducible refine bl_alloc ?_ _ ?_); (focus ((first | omega | (simp <;> omega)); done))) | ((with_reducible refine bl_set ?_ _ ?_); (focus ((first | omega | (simp <;> omega)); done))) | (with_reducible refine below_drewN ?_ _) | (with_reducible refine Below.drew ?_) | ((with_reducible refine bl_trans ?_ hb ?_); (focus ((first | omega | (simp <;> omega)); done))) | ((with_reducible refine bl_trans ?_ H2.out ?_); (focus ((first | omega | (simp <;> omega)); done)))))
  clear hb
  go_wp2_with fail
  go_ret
  exact ⟨ret_bool HE.out.symm, H3.out⟩
end Go.Proofs.Ytedpdcdmemenhaa
