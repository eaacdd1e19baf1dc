/-
  Sizes of a terrain: the reference's and the program's tests, one model. The conditions are the hypotheses.
-/
import Derived.Test.YtedpdcdmemenhaaRows
import Derived.Test.YtedpdcdmemenhaaLib
import Derived.Test.YtedpdcdmemenhaaInt
import Derived.Test.YtedpdcdmemenhaaWithin
import Derived.Test.YtedpdcdmemenhaaAll
import Derived.Test.YtedpdcdmemenhaaOwn
import Derived.Test.YtedpdcdmemenhaaField
import Derived.Outline
import Derived.Deep.QuietTactic
import Derived.BigQuiet
import Derived.Deep.RegionHeld3
import Derived.Deep.DrawnRows
namespace Go.Proofs.Ytedpdcdmemenhaa
open Go.RowKit
set_option linter.unusedSimpArgs false
set_option linter.unusedVariables false
attribute [local go_sem ↓] Go.wp_at_zero Go.wp_at_succ
def sizeB (st wd ht : Int) : Bool := inB st 1 10000 && inB wd 2 24 && inB ht 2 24 && decide ((wd - 1) * st ≤ 200000) && decide ((ht - 1) * st ≤ 200000)
theorem size_1 {st wd ht : Int} (h : inB st 1 10000 = false) : sizeB st wd ht = false := by simp [sizeB, h]
theorem size_2 {st wd ht : Int} (h : inB wd 2 24 = false) : sizeB st wd ht = false := by simp [sizeB, h]
theorem size_3 {st wd ht : Int} (h : inB ht 2 24 = false) : sizeB st wd ht = false := by simp [sizeB, h]
theorem size_4 {st wd ht : Int} (h : ¬ (wd - 1) * st ≤ 200000) : sizeB st wd ht = false := by
  unfold sizeB
  rw [decide_eq_false h]
  simp
theorem size_5 {st wd ht : Int} (h : ¬ (ht - 1) * st ≤ 200000) : sizeB st wd ht = false := by
  unfold sizeB
  rw [decide_eq_false h]
  simp
theorem size_yes {st wd ht : Int} (h1 : inB st 1 10000 = true) (h2 : inB wd 2 24 = true) (h3 : inB ht 2 24 = true) (h4 : (wd - 1) * st ≤ 200000) (h5 : (ht - 1) * st ≤ 200000) : sizeB st wd ht = true := by
  unfold sizeB
  rw [h1, h2, h3, decide_eq_true h4, decide_eq_true h5]
  rfl
theorem size_parts {st wd ht : Int} (h : sizeB st wd ht = true) : (1 ≤ st ∧ st ≤ 10000) ∧ (2 ≤ wd ∧ wd ≤ 24) ∧ (2 ≤ ht ∧ ht ≤ 24) ∧ (wd - 1) * st ≤ 200000 ∧ (ht - 1) * st ≤ 200000 := by
  unfold sizeB at h
  simp only [Bool.and_eq_true, decide_eq_true_eq] at h
  exact ⟨inB_out h.1.1.1.1, inB_out h.1.1.1.2, inB_out h.1.1.2, h.1.2, h.2⟩
theorem size_mul {st wd : Int} (a0 : 1 ≤ st) (a1 : st ≤ 10000) (b0 : 2 ≤ wd) (b1 : wd ≤ 24) : 0 ≤ (wd - 1) * st ∧ (wd - 1) * st ≤ 230000 := by
  have h := mul_nn (a := wd - 1) (b := st) (A := 23) (B := 10000) (by omega) (by omega) (by omega) a1
  omega
def terB (st wd ht : Int) (hs cs : List Int) : Bool := sizeB st wd ht && decide ((hs.length : Int) = wd * ht) && decide (cs.length = hs.length) && allIn hs 0 90000 && allIn cs 0 7
theorem ter_1 {st wd ht : Int} {hs cs : List Int} (h : sizeB st wd ht = false) : terB st wd ht hs cs = false := by simp [terB, h]
theorem ter_2 {st wd ht : Int} {hs cs : List Int} (h : ¬ (hs.length : Int) = wd * ht) : terB st wd ht hs cs = false := by simp [terB, h]
theorem ter_3 {st wd ht : Int} {hs cs : List Int} (h : ¬ cs.length = hs.length) : terB st wd ht hs cs = false := by simp [terB, h]
theorem ter_4 {st wd ht : Int} {hs cs : List Int} (h : allIn hs 0 90000 = false) : terB st wd ht hs cs = false := by simp [terB, h]
theorem ter_5 {st wd ht : Int} {hs cs : List Int} (h : allIn cs 0 7 = false) : terB st wd ht hs cs = false := by simp [terB, h]
theorem ter_yes {st wd ht : Int} {hs cs : List Int} (h1 : sizeB st wd ht = true) (h2 : (hs.length : Int) = wd * ht) (h3 : cs.length = hs.length) (h4 : allIn hs 0 90000 = true) (h5 : allIn cs 0 7 = true) : terB st wd ht hs cs = true := by
  unfold terB
  rw [h1, h4, h5, decide_eq_true h2, decide_eq_true h3]
  rfl
theorem ter_parts {st wd ht : Int} {hs cs : List Int} (h : terB st wd ht hs cs = true) : sizeB st wd ht = true ∧ (hs.length : Int) = wd * ht ∧ cs.length = hs.length ∧ (∀ k, k < hs.length → 0 ≤ hs.getD k 0 ∧ hs.getD k 0 ≤ 90000) := by
  unfold terB at h
  simp only [Bool.and_eq_true, decide_eq_true_eq] at h
  exact ⟨h.1.1.1.1, h.1.1.1.2, h.1.1.2, of_decide_eq_true h.1.2⟩
set_option maxRecDepth 20000 in
theorem l04Size_any (w : World) (st wd ht : Int) :
    Calls Try.prog 96 #[.int .i64 st, .int .i64 wd, .int .i64 ht] w fun e w' => e = .returned (.bool (sizeB st wd ht)) ∧ w = w' := by
  rcases bool_tf (inB st 1 10000) with est | est
  rotate_left
  · have HE := Lib.hid (size_1 (st := st) (wd := wd) (ht := ht) est)
    have HIst : Hid (∀ W : World, Calls Try.prog 60 #[.int .i64 st, .int .i64 1, .int .i64 10000] W fun e w' => e = .returned (.bool false) ∧ W = w') := fun W => by have h := l00In_any W st 1 10000; rw [est] at h; exact h
    obtain ⟨R, hR⟩ : ∃ R, R = sizeB st wd ht := ⟨_, rfl⟩
    rw [← hR] at HE ⊢
    clear hR est
    go_enter Try.func96, Try.ntmps96
    go_wp2_with (first | (go_at_call 60; ((with_reducible refine (HIst.out _).mono ?_); rintro e w1 ⟨rfl, rfl⟩)))
    go_ret
    exact ⟨ret_bool HE.out.symm, rfl⟩
  rcases bool_tf (inB wd 2 24) with ewd | ewd
  rotate_left
  · have HE := Lib.hid (size_2 (st := st) (wd := wd) (ht := ht) ewd)
    have HIst : Hid (∀ W : World, Calls Try.prog 60 #[.int .i64 st, .int .i64 1, .int .i64 10000] W fun e w' => e = .returned (.bool true) ∧ W = w') := fun W => by have h := l00In_any W st 1 10000; rw [est] at h; exact h
    have HIwd : Hid (∀ W : World, Calls Try.prog 60 #[.int .i64 wd, .int .i64 2, .int .i64 24] W fun e w' => e = .returned (.bool false) ∧ W = w') := fun W => by have h := l00In_any W wd 2 24; rw [ewd] at h; exact h
    obtain ⟨R, hR⟩ : ∃ R, R = sizeB st wd ht := ⟨_, rfl⟩
    rw [← hR] at HE ⊢
    clear hR est ewd
    go_enter Try.func96, Try.ntmps96
    go_wp2_with (first | (go_at_call 60; ((with_reducible refine (HIst.out _).mono ?_); rintro e w1 ⟨rfl, rfl⟩)) | (go_at_call 60; ((with_reducible refine (HIwd.out _).mono ?_); rintro e w1 ⟨rfl, rfl⟩)))
    go_ret
    exact ⟨ret_bool HE.out.symm, rfl⟩
  rcases bool_tf (inB ht 2 24) with eht | eht
  rotate_left
  · have HE := Lib.hid (size_3 (st := st) (wd := wd) (ht := ht) eht)
    have HIst : Hid (∀ W : World, Calls Try.prog 60 #[.int .i64 st, .int .i64 1, .int .i64 10000] W fun e w' => e = .returned (.bool true) ∧ W = w') := fun W => by have h := l00In_any W st 1 10000; rw [est] at h; exact h
    have HIwd : Hid (∀ W : World, Calls Try.prog 60 #[.int .i64 wd, .int .i64 2, .int .i64 24] W fun e w' => e = .returned (.bool true) ∧ W = w') := fun W => by have h := l00In_any W wd 2 24; rw [ewd] at h; exact h
    have HIht : Hid (∀ W : World, Calls Try.prog 60 #[.int .i64 ht, .int .i64 2, .int .i64 24] W fun e w' => e = .returned (.bool false) ∧ W = w') := fun W => by have h := l00In_any W ht 2 24; rw [eht] at h; exact h
    obtain ⟨R, hR⟩ : ∃ R, R = sizeB st wd ht := ⟨_, rfl⟩
    rw [← hR] at HE ⊢
    clear hR est ewd eht
    go_enter Try.func96, Try.ntmps96
    go_wp2_with (first | (go_at_call 60; ((with_reducible refine (HIst.out _).mono ?_); rintro e w1 ⟨rfl, rfl⟩)) | (go_at_call 60; ((with_reducible refine (HIwd.out _).mono ?_); rintro e w1 ⟨rfl, rfl⟩)) | (go_at_call 60; ((with_reducible refine (HIht.out _).mono ?_); rintro e w1 ⟨rfl, rfl⟩)))
    go_ret
    exact ⟨ret_bool HE.out.symm, rfl⟩
  have HIst : Hid (∀ W : World, Calls Try.prog 60 #[.int .i64 st, .int .i64 1, .int .i64 10000] W fun e w' => e = .returned (.bool true) ∧ W = w') := fun W => by have h := l00In_any W st 1 10000; rw [est] at h; exact h
  have HIwd : Hid (∀ W : World, Calls Try.prog 60 #[.int .i64 wd, .int .i64 2, .int .i64 24] W fun e w' => e = .returned (.bool true) ∧ W = w') := fun W => by have h := l00In_any W wd 2 24; rw [ewd] at h; exact h
  have HIht : Hid (∀ W : World, Calls Try.prog 60 #[.int .i64 ht, .int .i64 2, .int .i64 24] W fun e w' => e = .returned (.bool true) ∧ W = w') := fun W => by have h := l00In_any W ht 2 24; rw [eht] at h; exact h
  have hs := inB_out est
  have hw := inB_out ewd
  have hh := inB_out eht
  obtain ⟨m0, m1⟩ := size_mul hs.1 hs.2 hw.1 hw.2
  obtain ⟨m2, m3⟩ := size_mul hs.1 hs.2 hh.1 hh.2
  have i1 : IntKind.i64.wrap (wd - 1) = wd - 1 := by rw [IntKind.wrap_i64]; omega
  have i2 : IntKind.i64.wrap (ht - 1) = ht - 1 := by rw [IntKind.wrap_i64]; omega
  have i3 : IntKind.i64.wrap ((wd - 1) * st) = (wd - 1) * st := by rw [IntKind.wrap_i64]; omega
  have i4 : IntKind.i64.wrap ((ht - 1) * st) = (ht - 1) * st := by rw [IntKind.wrap_i64]; omega
  have HE4 := Lib.hid (size_4 (st := st) (wd := wd) (ht := ht))
  have HE5 := Lib.hid (size_5 (st := st) (wd := wd) (ht := ht))
  have HEY := Lib.hid (size_yes est ewd eht)
  obtain ⟨R, hR⟩ : ∃ R, R = sizeB st wd ht := ⟨_, rfl⟩
  rw [← hR] at HE4 HE5 HEY ⊢
  clear hR est ewd eht
  by_cases c1 : (wd - 1) * st ≤ 200000
  rotate_left
  · have q1 : decide ((wd - 1) * st ≤ 200000) = false := decide_eq_false c1
    have HE := Lib.hid (HE4.out (by first | exact c1 | omega))
    clear HE4 HE5 HEY
    go_enter Try.func96, Try.ntmps96
    go_wp2_with (first | (go_at_call 60; ((with_reducible refine (HIst.out _).mono ?_); rintro e w1 ⟨rfl, rfl⟩)) | (go_at_call 60; ((with_reducible refine (HIwd.out _).mono ?_); rintro e w1 ⟨rfl, rfl⟩)) | (go_at_call 60; ((with_reducible refine (HIht.out _).mono ?_); rintro e w1 ⟨rfl, rfl⟩)))
    go_ret
    exact ⟨ret_bool HE.out.symm, rfl⟩
  by_cases c2 : (ht - 1) * st ≤ 200000
  rotate_left
  · have q1 : decide ((wd - 1) * st ≤ 200000) = true := decide_eq_true c1
    have q2 : decide ((ht - 1) * st ≤ 200000) = false := decide_eq_false c2
    have HE := Lib.hid (HE5.out (by first | exact c2 | omega))
    clear HE4 HE5 HEY
    go_enter Try.func96, Try.ntmps96
    go_wp2_with (first | (go_at_call 60; ((with_reducible refine (HIst.out _).mono ?_); rintro e w1 ⟨rfl, rfl⟩)) | (go_at_call 60; ((with_reducible refine (HIwd.out _).mono ?_); rintro e w1 ⟨rfl, rfl⟩)) | (go_at_call 60; ((with_reducible refine (HIht.out _).mono ?_); rintro e w1 ⟨rfl, rfl⟩)))
    go_ret
    exact ⟨ret_bool HE.out.symm, rfl⟩
  have q1 : decide ((wd - 1) * st ≤ 200000) = true := decide_eq_true c1
  have q2 : decide ((ht - 1) * st ≤ 200000) = true := decide_eq_true c2
  have HE := Lib.hid (HEY.out c1 c2)
  clear HE4 HE5 HEY
  go_enter Try.func96, Try.ntmps96
  go_wp2_with (first | (go_at_call 60; ((with_reducible refine (HIst.out _).mono ?_); rintro e w1 ⟨rfl, rfl⟩)) | (go_at_call 60; ((with_reducible refine (HIwd.out _).mono ?_); rintro e w1 ⟨rfl, rfl⟩)) | (go_at_call 60; ((with_reducible refine (HIht.out _).mono ?_); rintro e w1 ⟨rfl, rfl⟩)))
  go_ret
  exact ⟨ret_bool HE.out.symm, rfl⟩
set_option maxRecDepth 20000 in
theorem sizeOk_any (w : World) (st wd ht : Int) :
    Calls Try.prog 126 #[.int .i64 st, .int .i64 wd, .int .i64 ht] w fun e w' => e = .returned (.bool (sizeB st wd ht)) ∧ w = w' := by
  rcases bool_tf (inB st 1 10000) with est | est
  rotate_left
  · have HE := Lib.hid (size_1 (st := st) (wd := wd) (ht := ht) est)
    have HIst : Hid (∀ W : World, Calls Try.prog 63 #[.int .i64 st, .int .i64 1, .int .i64 10000] W fun e w' => e = .returned (.bool false) ∧ W = w') := fun W => by have h := within_any W st 1 10000; rw [est] at h; exact h
    obtain ⟨R, hR⟩ : ∃ R, R = sizeB st wd ht := ⟨_, rfl⟩
    rw [← hR] at HE ⊢
    clear hR est
    go_enter Try.func126, Try.ntmps126
    go_wp2_with (first | (go_at_call 63; ((with_reducible refine (HIst.out _).mono ?_); rintro e w1 ⟨rfl, rfl⟩)))
    go_ret
    exact ⟨ret_bool HE.out.symm, rfl⟩
  rcases bool_tf (inB wd 2 24) with ewd | ewd
  rotate_left
  · have HE := Lib.hid (size_2 (st := st) (wd := wd) (ht := ht) ewd)
    have HIst : Hid (∀ W : World, Calls Try.prog 63 #[.int .i64 st, .int .i64 1, .int .i64 10000] W fun e w' => e = .returned (.bool true) ∧ W = w') := fun W => by have h := within_any W st 1 10000; rw [est] at h; exact h
    have HIwd : Hid (∀ W : World, Calls Try.prog 63 #[.int .i64 wd, .int .i64 2, .int .i64 24] W fun e w' => e = .returned (.bool false) ∧ W = w') := fun W => by have h := within_any W wd 2 24; rw [ewd] at h; exact h
    obtain ⟨R, hR⟩ : ∃ R, R = sizeB st wd ht := ⟨_, rfl⟩
    rw [← hR] at HE ⊢
    clear hR est ewd
    go_enter Try.func126, Try.ntmps126
    go_wp2_with (first | (go_at_call 63; ((with_reducible refine (HIst.out _).mono ?_); rintro e w1 ⟨rfl, rfl⟩)) | (go_at_call 63; ((with_reducible refine (HIwd.out _).mono ?_); rintro e w1 ⟨rfl, rfl⟩)))
    go_ret
    exact ⟨ret_bool HE.out.symm, rfl⟩
  rcases bool_tf (inB ht 2 24) with eht | eht
  rotate_left
  · have HE := Lib.hid (size_3 (st := st) (wd := wd) (ht := ht) eht)
    have HIst : Hid (∀ W : World, Calls Try.prog 63 #[.int .i64 st, .int .i64 1, .int .i64 10000] W fun e w' => e = .returned (.bool true) ∧ W = w') := fun W => by have h := within_any W st 1 10000; rw [est] at h; exact h
    have HIwd : Hid (∀ W : World, Calls Try.prog 63 #[.int .i64 wd, .int .i64 2, .int .i64 24] W fun e w' => e = .returned (.bool true) ∧ W = w') := fun W => by have h := within_any W wd 2 24; rw [ewd] at h; exact h
    have HIht : Hid (∀ W : World, Calls Try.prog 63 #[.int .i64 ht, .int .i64 2, .int .i64 24] W fun e w' => e = .returned (.bool false) ∧ W = w') := fun W => by have h := within_any W ht 2 24; rw [eht] at h; exact h
    obtain ⟨R, hR⟩ : ∃ R, R = sizeB st wd ht := ⟨_, rfl⟩
    rw [← hR] at HE ⊢
    clear hR est ewd eht
    go_enter Try.func126, Try.ntmps126
    go_wp2_with (first | (go_at_call 63; ((with_reducible refine (HIst.out _).mono ?_); rintro e w1 ⟨rfl, rfl⟩)) | (go_at_call 63; ((with_reducible refine (HIwd.out _).mono ?_); rintro e w1 ⟨rfl, rfl⟩)) | (go_at_call 63; ((with_reducible refine (HIht.out _).mono ?_); rintro e w1 ⟨rfl, rfl⟩)))
    go_ret
    exact ⟨ret_bool HE.out.symm, rfl⟩
  have HIst : Hid (∀ W : World, Calls Try.prog 63 #[.int .i64 st, .int .i64 1, .int .i64 10000] W fun e w' => e = .returned (.bool true) ∧ W = w') := fun W => by have h := within_any W st 1 10000; rw [est] at h; exact h
  have HIwd : Hid (∀ W : World, Calls Try.prog 63 #[.int .i64 wd, .int .i64 2, .int .i64 24] W fun e w' => e = .returned (.bool true) ∧ W = w') := fun W => by have h := within_any W wd 2 24; rw [ewd] at h; exact h
  have HIht : Hid (∀ W : World, Calls Try.prog 63 #[.int .i64 ht, .int .i64 2, .int .i64 24] W fun e w' => e = .returned (.bool true) ∧ W = w') := fun W => by have h := within_any W ht 2 24; rw [eht] at h; exact h
  have hs := inB_out est
  have hw := inB_out ewd
  have hh := inB_out eht
  obtain ⟨m0, m1⟩ := size_mul hs.1 hs.2 hw.1 hw.2
  obtain ⟨m2, m3⟩ := size_mul hs.1 hs.2 hh.1 hh.2
  have i1 : IntKind.i64.wrap (wd - 1) = wd - 1 := by rw [IntKind.wrap_i64]; omega
  have i2 : IntKind.i64.wrap (ht - 1) = ht - 1 := by rw [IntKind.wrap_i64]; omega
  have i3 : IntKind.i64.wrap ((wd - 1) * st) = (wd - 1) * st := by rw [IntKind.wrap_i64]; omega
  have i4 : IntKind.i64.wrap ((ht - 1) * st) = (ht - 1) * st := by rw [IntKind.wrap_i64]; omega
  have mono : (wd - 1 < ht - 1 → (wd - 1) * st ≤ (ht - 1) * st) ∧ (¬ wd - 1 < ht - 1 → (ht - 1) * st ≤ (wd - 1) * st) := ⟨fun h => Int.mul_le_mul_of_nonneg_right (by omega) (by omega), fun h => Int.mul_le_mul_of_nonneg_right (by omega) (by omega)⟩
  have HE4 := Lib.hid (size_4 (st := st) (wd := wd) (ht := ht))
  have HE5 := Lib.hid (size_5 (st := st) (wd := wd) (ht := ht))
  have HEY := Lib.hid (size_yes est ewd eht)
  obtain ⟨R, hR⟩ : ∃ R, R = sizeB st wd ht := ⟨_, rfl⟩
  rw [← hR] at HE4 HE5 HEY ⊢
  clear hR est ewd eht
  by_cases cl : wd - 1 < ht - 1
  · have mm := mono.1 cl
    clear mono
    by_cases c1 : (ht - 1) * st ≤ 200000
    rotate_left
    · have q1 : decide ((ht - 1) * st ≤ 200000) = false := decide_eq_false c1
      have HE := Lib.hid (HE5.out (by first | exact c1 | omega))
      clear HE4 HE5 HEY
      go_enter Try.func126, Try.ntmps126
      go_wp2_with (first | (go_at_call 63; ((with_reducible refine (HIst.out _).mono ?_); rintro e w1 ⟨rfl, rfl⟩)) | (go_at_call 63; ((with_reducible refine (HIwd.out _).mono ?_); rintro e w1 ⟨rfl, rfl⟩)) | (go_at_call 63; ((with_reducible refine (HIht.out _).mono ?_); rintro e w1 ⟨rfl, rfl⟩)))
      go_ret
      exact ⟨ret_bool HE.out.symm, rfl⟩
    have q1 : decide ((ht - 1) * st ≤ 200000) = true := decide_eq_true c1
    have HE := Lib.hid (HEY.out (by omega) (by omega))
    clear HE4 HE5 HEY
    go_enter Try.func126, Try.ntmps126
    go_wp2_with (first | (go_at_call 63; ((with_reducible refine (HIst.out _).mono ?_); rintro e w1 ⟨rfl, rfl⟩)) | (go_at_call 63; ((with_reducible refine (HIwd.out _).mono ?_); rintro e w1 ⟨rfl, rfl⟩)) | (go_at_call 63; ((with_reducible refine (HIht.out _).mono ?_); rintro e w1 ⟨rfl, rfl⟩)))
    go_ret
    exact ⟨ret_bool HE.out.symm, rfl⟩
  · have mm := mono.2 cl
    clear mono
    by_cases c1 : (wd - 1) * st ≤ 200000
    rotate_left
    · have q1 : decide ((wd - 1) * st ≤ 200000) = false := decide_eq_false c1
      have HE := Lib.hid (HE4.out (by first | exact c1 | omega))
      clear HE4 HE5 HEY
      go_enter Try.func126, Try.ntmps126
      go_wp2_with (first | (go_at_call 63; ((with_reducible refine (HIst.out _).mono ?_); rintro e w1 ⟨rfl, rfl⟩)) | (go_at_call 63; ((with_reducible refine (HIwd.out _).mono ?_); rintro e w1 ⟨rfl, rfl⟩)) | (go_at_call 63; ((with_reducible refine (HIht.out _).mono ?_); rintro e w1 ⟨rfl, rfl⟩)))
      go_ret
      exact ⟨ret_bool HE.out.symm, rfl⟩
    have q1 : decide ((wd - 1) * st ≤ 200000) = true := decide_eq_true c1
    have HE := Lib.hid (HEY.out (by omega) (by omega))
    clear HE4 HE5 HEY
    go_enter Try.func126, Try.ntmps126
    go_wp2_with (first | (go_at_call 63; ((with_reducible refine (HIst.out _).mono ?_); rintro e w1 ⟨rfl, rfl⟩)) | (go_at_call 63; ((with_reducible refine (HIwd.out _).mono ?_); rintro e w1 ⟨rfl, rfl⟩)) | (go_at_call 63; ((with_reducible refine (HIht.out _).mono ?_); rintro e w1 ⟨rfl, rfl⟩)))
    go_ret
    exact ⟨ret_bool HE.out.symm, rfl⟩
end Go.Proofs.Ytedpdcdmemenhaa
