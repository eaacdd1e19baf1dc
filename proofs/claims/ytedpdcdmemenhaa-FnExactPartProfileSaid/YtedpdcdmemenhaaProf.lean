/-
  When a profile is valid: the program's test and the reference's, one model. The conditions are the hypotheses.
-/
import Derived.Test.YtedpdcdmemenhaaRows
import Derived.Test.YtedpdcdmemenhaaLib
import Derived.Test.YtedpdcdmemenhaaInt
import Derived.Test.YtedpdcdmemenhaaWithin
import Derived.Test.YtedpdcdmemenhaaAll
import Derived.Test.YtedpdcdmemenhaaOwn
import Derived.Test.YtedpdcdmemenhaaField
import Derived.Outline
import Derived.Deep.QuietTactic
import Derived.BigQuiet
import Derived.Deep.RegionHeld3
import Derived.Deep.DrawnRows
namespace Go.Proofs.Ytedpdcdmemenhaa
open Go.RowKit
set_option linter.unusedSimpArgs false
set_option linter.unusedVariables false
attribute [local go_sem ↓] Go.wp_at_zero Go.wp_at_succ
def profB (d f l : Int) (hs : List Int) : Bool := inB d 1 283000 && inB f 0 180000 && inB l 0 180000 && decide (2 ≤ hs.length ∧ hs.length ≤ 65) && allIn hs 0 90000 && decide (hs.getD 0 0 ≤ f) && decide (hs.getD (hs.length - 1) 0 ≤ l)
theorem prof_1 {d f l : Int} {hs : List Int} (h : inB d 1 283000 = false) : profB d f l hs = false := by simp [profB, h]
theorem prof_2 {d f l : Int} {hs : List Int} (h : inB f 0 180000 = false) : profB d f l hs = false := by simp [profB, h]
theorem prof_3 {d f l : Int} {hs : List Int} (h : inB l 0 180000 = false) : profB d f l hs = false := by simp [profB, h]
theorem prof_4 {d f l : Int} {hs : List Int} (h : ¬ (2 ≤ hs.length ∧ hs.length ≤ 65)) : profB d f l hs = false := by simp [profB, h]
theorem prof_5 {d f l : Int} {hs : List Int} (h : allIn hs 0 90000 = false) : profB d f l hs = false := by simp [profB, h]
theorem prof_6 {d f l : Int} {hs : List Int} (h : ¬ hs.getD 0 0 ≤ f) : profB d f l hs = false := by
  unfold profB
  rw [decide_eq_false h]
  simp
theorem prof_7 {d f l : Int} {hs : List Int} (h : ¬ hs.getD (hs.length - 1) 0 ≤ l) : profB d f l hs = false := by
  unfold profB
  rw [decide_eq_false h]
  simp
theorem prof_yes {d f l : Int} {hs : List Int} (h1 : inB d 1 283000 = true) (h2 : inB f 0 180000 = true) (h3 : inB l 0 180000 = true) (h4 : 2 ≤ hs.length ∧ hs.length ≤ 65) (h5 : allIn hs 0 90000 = true) (h6 : hs.getD 0 0 ≤ f) (h7 : hs.getD (hs.length - 1) 0 ≤ l) : profB d f l hs = true := by
  unfold profB
  rw [h1, h2, h3, h5, decide_eq_true h4, decide_eq_true h6, decide_eq_true h7]
  rfl
theorem prof_parts {d f l : Int} {hs : List Int} (h : profB d f l hs = true) : (1 ≤ d ∧ d ≤ 283000) ∧ (0 ≤ f ∧ f ≤ 180000) ∧ (0 ≤ l ∧ l ≤ 180000) ∧ (2 ≤ hs.length ∧ hs.length ≤ 65) ∧ (∀ k, k < hs.length → 0 ≤ hs.getD k 0 ∧ hs.getD k 0 ≤ 90000) := by
  unfold profB at h
  simp only [Bool.and_eq_true, decide_eq_true_eq] at h
  exact ⟨inB_out h.1.1.1.1.1.1, inB_out h.1.1.1.1.1.2, inB_out h.1.1.1.1.2, h.1.1.1.2, of_decide_eq_true h.1.1.2⟩
set_option maxRecDepth 20000 in
set_option maxHeartbeats 4000000 in
theorem l05Ok_any (w : World) (o : Nat) (d f l : Int) (v : Value) (hs : List Int) (p : Nat) (hr : Row 2 w p v hs) (c0 : w.cell? ⟨o, 0, none⟩ = some (.int .i64 d)) (c1 : w.cell? ⟨o, 1, none⟩ = some (.int .i64 f)) (c2 : w.cell? ⟨o, 2, none⟩ = some (.int .i64 l)) (c3 : w.cell? ⟨o, 3, none⟩ = some (v)) :
    Calls Try.prog 59 #[.pointer (some ⟨o, 0, none⟩)] w fun e w' => e = .returned (.bool (profB d f l hs)) ∧ ∃ k, w' = w.drewN k := by
  have HR := Lib.hid hr
  clear hr
  have hlen := HR.out.len
  unfold maxLen at hlen
  rcases bool_tf (inB d 1 283000) with ed | ed
  rotate_left
  · have HE := Lib.hid (prof_1 (d := d) (f := f) (l := l) (hs := hs) ed)
    have HId : Hid (∀ W : World, Calls Try.prog 60 #[.int .i64 d, .int .i64 1, .int .i64 283000] W fun e w' => e = .returned (.bool false) ∧ W = w') := fun W => by have h := l00In_any W d 1 283000; rw [ed] at h; exact h
    obtain ⟨R, hR⟩ : ∃ R, R = profB d f l hs := ⟨_, rfl⟩
    rw [← hR] at HE ⊢
    clear hR ed
    go_enter Try.func59, Try.ntmps59
    go_wp2_with (first | (go_at_call 60; ((with_reducible refine (HId.out _).mono ?_); rintro e w1 ⟨rfl, rfl⟩)))
    go_ret
    exact ⟨ret_bool HE.out.symm, 0, rfl⟩
  rcases bool_tf (inB f 0 180000) with ef | ef
  rotate_left
  · have HE := Lib.hid (prof_2 (d := d) (f := f) (l := l) (hs := hs) ef)
    have HId : Hid (∀ W : World, Calls Try.prog 60 #[.int .i64 d, .int .i64 1, .int .i64 283000] W fun e w' => e = .returned (.bool true) ∧ W = w') := fun W => by have h := l00In_any W d 1 283000; rw [ed] at h; exact h
    have HIf : Hid (∀ W : World, Calls Try.prog 60 #[.int .i64 f, .int .i64 0, .int .i64 180000] W fun e w' => e = .returned (.bool false) ∧ W = w') := fun W => by have h := l00In_any W f 0 180000; rw [ef] at h; exact h
    obtain ⟨R, hR⟩ : ∃ R, R = profB d f l hs := ⟨_, rfl⟩
    rw [← hR] at HE ⊢
    clear hR ed ef
    go_enter Try.func59, Try.ntmps59
    go_wp2_with (first | (go_at_call 60; ((with_reducible refine (HId.out _).mono ?_); rintro e w1 ⟨rfl, rfl⟩)) | (go_at_call 60; ((with_reducible refine (HIf.out _).mono ?_); rintro e w1 ⟨rfl, rfl⟩)))
    go_ret
    exact ⟨ret_bool HE.out.symm, 0, rfl⟩
  rcases bool_tf (inB l 0 180000) with el | el
  rotate_left
  · have HE := Lib.hid (prof_3 (d := d) (f := f) (l := l) (hs := hs) el)
    have HId : Hid (∀ W : World, Calls Try.prog 60 #[.int .i64 d, .int .i64 1, .int .i64 283000] W fun e w' => e = .returned (.bool true) ∧ W = w') := fun W => by have h := l00In_any W d 1 283000; rw [ed] at h; exact h
    have HIf : Hid (∀ W : World, Calls Try.prog 60 #[.int .i64 f, .int .i64 0, .int .i64 180000] W fun e w' => e = .returned (.bool true) ∧ W = w') := fun W => by have h := l00In_any W f 0 180000; rw [ef] at h; exact h
    have HIl : Hid (∀ W : World, Calls Try.prog 60 #[.int .i64 l, .int .i64 0, .int .i64 180000] W fun e w' => e = .returned (.bool false) ∧ W = w') := fun W => by have h := l00In_any W l 0 180000; rw [el] at h; exact h
    obtain ⟨R, hR⟩ : ∃ R, R = profB d f l hs := ⟨_, rfl⟩
    rw [← hR] at HE ⊢
    clear hR ed ef el
    go_enter Try.func59, Try.ntmps59
    go_wp2_with (first | (go_at_call 60; ((with_reducible refine (HId.out _).mono ?_); rintro e w1 ⟨rfl, rfl⟩)) | (go_at_call 60; ((with_reducible refine (HIf.out _).mono ?_); rintro e w1 ⟨rfl, rfl⟩)) | (go_at_call 60; ((with_reducible refine (HIl.out _).mono ?_); rintro e w1 ⟨rfl, rfl⟩)))
    go_ret
    exact ⟨ret_bool HE.out.symm, 0, rfl⟩
  have HId : Hid (∀ W : World, Calls Try.prog 60 #[.int .i64 d, .int .i64 1, .int .i64 283000] W fun e w' => e = .returned (.bool true) ∧ W = w') := fun W => by have h := l00In_any W d 1 283000; rw [ed] at h; exact h
  have HIf : Hid (∀ W : World, Calls Try.prog 60 #[.int .i64 f, .int .i64 0, .int .i64 180000] W fun e w' => e = .returned (.bool true) ∧ W = w') := fun W => by have h := l00In_any W f 0 180000; rw [ef] at h; exact h
  have HIl : Hid (∀ W : World, Calls Try.prog 60 #[.int .i64 l, .int .i64 0, .int .i64 180000] W fun e w' => e = .returned (.bool true) ∧ W = w') := fun W => by have h := l00In_any W l 0 180000; rw [el] at h; exact h
  have HP4 := Lib.hid (prof_4 (d := d) (f := f) (l := l) (hs := hs))
  have HP5 := Lib.hid (fun k (hk : k < hs.length) h => prof_5 (d := d) (f := f) (l := l) (allIn_no (xs := hs) (lo := 0) (hi := 90000) hk h))
  have HP6 := Lib.hid (prof_6 (d := d) (f := f) (l := l) (hs := hs))
  have HP7 := Lib.hid (prof_7 (d := d) (f := f) (l := l) (hs := hs))
  have HPY := Lib.hid (fun h4 h5 => prof_yes ed ef el h4 (hs := hs) (allIn_yes h5))
  have HIN : Hid (∀ (W : World) (x : Int), Calls Try.prog 60 #[.int .i64 x, .int .i64 0, .int .i64 90000] W fun e w' => e = .returned (.bool (inB x 0 90000)) ∧ W = w') := fun W x => l00In_any W x 0 90000
  rcases HR.out.forms with ⟨rfl, rfl⟩ | ⟨g, c, rfl, _, lg, hc, _⟩
  · have HE := Lib.hid (HP4.out (by simp))
    obtain ⟨R, hR⟩ : ∃ R, R = profB d f l [] := ⟨_, rfl⟩
    rw [← hR] at HE ⊢
    clear hR HP4 HP5 HP6 HP7 HPY HR ed ef el
    go_enter Try.func59, Try.ntmps59
    go_wp2_with (first | ((with_reducible refine wp_loop_rounds 1 ?_); rw [rounds_succ]) | (go_at_call 60; ((with_reducible refine (HId.out _).mono ?_); rintro e w1 ⟨rfl, rfl⟩)) | (go_at_call 60; ((with_reducible refine (HIf.out _).mono ?_); rintro e w1 ⟨rfl, rfl⟩)) | (go_at_call 60; ((with_reducible refine (HIl.out _).mono ?_); rintro e w1 ⟨rfl, rfl⟩)))
    go_quiet (fail)
    go_wp2_with fail
    go_ret
    exact ⟨ret_bool HE.out.symm, _, rfl⟩
  have HC := Lib.hid hc
  obtain ⟨R, hR⟩ : ∃ R, R = profB d f l hs := ⟨_, rfl⟩
  rw [← hR] at HP4 HP5 HP6 HP7 HPY ⊢
  clear hR HR hc ed ef el
  obtain ⟨n, hnn⟩ : ∃ n, n = hs.length := ⟨_, rfl⟩
  rw [← hnn] at HC HP4 HP5 HP7 HPY hlen c3
  clear hnn
  have hl2 : (n : Int) ≤ 9223372036854775807 := by omega
  go_enter Try.func59, Try.ntmps59
  go_wp2_with (first | (go_at_call 60; ((with_reducible refine (HId.out _).mono ?_); rintro e w1 ⟨rfl, rfl⟩)) | (go_at_call 60; ((with_reducible refine (HIf.out _).mono ?_); rintro e w1 ⟨rfl, rfl⟩)) | (go_at_call 60; ((with_reducible refine (HIl.out _).mono ?_); rintro e w1 ⟨rfl, rfl⟩)))
  go_loopw [3] (fun i wr => ∃ k : Nat, k ≤ n ∧ i = .int .i64 (k : Int) ∧ Hid (∀ m, m < k → 0 ≤ hs.getD m 0 ∧ hs.getD m 0 ≤ 90000) ∧ ∃ q, wr = w.drewN q) (fun i _ => n + 1 - (intOf i).toNat)
  case atStart => exact ⟨0, Nat.zero_le _, rfl, fun m h => by omega, 0, rfl⟩
  case round =>
    obtain ⟨k, hk, rfl, hin, q, rfl⟩ := hrel
    have i0 : (0 : Int) ≤ (k : Int) := Int.natCast_nonneg _
    by_cases hlt : k < n
    · have cx := HC.out k hlt
      have i1 : (k : Int) < (n : Int) := by omega
      rcases bool_tf (inB (hs.getD k 0) 0 90000) with hb | hb
      rotate_left
      · have HE := Lib.hid (HP5.out k hlt (fun q => by rw [inB_yes q.1 q.2] at hb; cases hb))
        clear hin HP4 HP5 HP6 HP7 HPY
        obtain ⟨x, hx⟩ : ∃ x, x = hs.getD k 0 := ⟨_, rfl⟩
        rw [← hx] at cx hb
        clear hx
        have HB := Lib.hid hb
        clear hb
        go_wp2_with ((go_at_call 93; go_in))
        refine (HIN.out _ x).mono ?_
        rintro e w1 ⟨he, rfl⟩
        rw [HB.out] at he
        subst he
        go_wp2_with fail
        go_ret
        exact ⟨ret_bool HE.out.symm, _, rfl⟩
      have hin' : Hid (∀ m, m < k + 1 → 0 ≤ hs.getD m 0 ∧ hs.getD m 0 ≤ 90000) := fun m hm => by
        by_cases e : m = k
        · subst e; exact inB_out hb
        · exact hin.out m (by omega)
      clear hin HP4 HP5 HP6 HP7 HPY
      obtain ⟨x, hx⟩ : ∃ x, x = hs.getD k 0 := ⟨_, rfl⟩
      rw [← hx] at cx hb
      clear hx
      have HB := Lib.hid hb
      clear hb
      go_wp2_with ((go_at_call 93; go_in))
      refine (HIN.out _ x).mono ?_
      rintro e w1 ⟨he, rfl⟩
      rw [HB.out] at he
      subst he
      go_wp2_with fail
      go_roundw
      case rel => exact ⟨k + 1, by omega, by go_num, hin', _, rfl⟩
      case measure => (simp [intOf] <;> omega)
    · obtain rfl : k = n := by omega
      have HY := Lib.hid (fun h4 => HPY.out h4 hin.out)
      clear hin HP5 HPY
      by_cases hn : 2 ≤ k ∧ k ≤ 65
      rotate_left
      · have HE := Lib.hid (HP4.out hn)
        clear HP4 HP6 HP7 HY
        by_cases hn2 : (k : Int) < 2
        · have g1 : decide ((2 : Int) ≤ (k : Int)) = false := decide_eq_false (by omega)
          clear hn
          go_wp2_with fail
          go_quiet (fail)
          go_wp2_with fail
          go_ret
          exact ⟨ret_bool HE.out.symm, _, by rw [World.drewN_drewN]⟩
        · have g1 : decide ((2 : Int) ≤ (k : Int)) = true := decide_eq_true (by omega)
          have g2 : decide ((k : Int) ≤ 65) = false := decide_eq_false (by omega)
          clear hn
          go_wp2_with fail
          go_quiet (fail)
          go_wp2_with fail
          go_ret
          exact ⟨ret_bool HE.out.symm, _, by rw [World.drewN_drewN]⟩
      have HY2 := Lib.hid (HY.out hn)
      have g1 : decide ((2 : Int) ≤ (k : Int)) = true := decide_eq_true (by omega)
      have g2 : decide ((k : Int) ≤ 65) = true := decide_eq_true (by omega)
      have g3 : (0 : Int) < (k : Int) := by omega
      have x0 := HC.out 0 (by omega)
      have x1 := HC.out (k - 1) (by omega)
      have i1 : IntKind.i64.wrap ((k : Int) - 1) = ((k - 1 : Nat) : Int) := by rw [IntKind.wrap_i64]; omega
      have j0 : (0 : Int) ≤ ((k - 1 : Nat) : Int) := by omega
      have j1 : ((k - 1 : Nat) : Int) < (k : Int) := by omega
      have i2 : (k : Int) - 1 = ((k - 1 : Nat) : Int) := by omega
      obtain ⟨m, hm⟩ : ∃ m, m = k - 1 := ⟨_, rfl⟩
      rw [← hm] at x1 i1 j0 j1 i2 HP7 HY2
      clear hm HY HP4 hn
      obtain ⟨y0, hy0⟩ : ∃ y, y = hs.getD 0 0 := ⟨_, rfl⟩
      obtain ⟨y1, hy1⟩ : ∃ y, y = hs.getD m 0 := ⟨_, rfl⟩
      rw [← hy0] at x0 HP6 HY2
      rw [← hy1] at x1 HP7 HY2
      clear hy0 hy1
      by_cases h6 : y0 ≤ f
      rotate_left
      · have q1 : decide (y0 ≤ f) = false := decide_eq_false h6
        have HE := Lib.hid (HP6.out (by omega))
        clear HP6 HP7 HY2 h6
        go_wp2_with fail
        go_quiet (fail)
        go_wp2_with fail
        go_ret
        exact ⟨ret_bool HE.out.symm, _, by rw [World.drewN_drewN]⟩
      by_cases h7 : y1 ≤ l
      rotate_left
      · have q1 : decide (y0 ≤ f) = true := decide_eq_true h6
        have q2 : decide (y1 ≤ l) = false := decide_eq_false h7
        have HE := Lib.hid (HP7.out (by omega))
        clear HP6 HP7 HY2 h6 h7
        go_wp2_with fail
        go_quiet (fail)
        go_wp2_with fail
        go_ret
        exact ⟨ret_bool HE.out.symm, _, by rw [World.drewN_drewN]⟩
      have q1 : decide (y0 ≤ f) = true := decide_eq_true h6
      have q2 : decide (y1 ≤ l) = true := decide_eq_true h7
      have HE := Lib.hid (HY2.out h6 h7)
      clear HP6 HP7 HY2 h6 h7
      go_wp2_with fail
      go_quiet (fail)
      go_wp2_with fail
      go_ret
      exact ⟨ret_bool HE.out.symm, _, by rw [World.drewN_drewN]⟩
end Go.Proofs.Ytedpdcdmemenhaa
