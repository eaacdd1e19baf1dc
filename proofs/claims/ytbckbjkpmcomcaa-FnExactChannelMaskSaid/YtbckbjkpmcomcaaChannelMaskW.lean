/-
  The walk of FnExactChannelMask: it returns true, and of what was there nothing has turned. The conditions are what its arguments' readings give.
-/
import Derived.Test.YtbckbjkpmcomcaaRows
import Derived.Test.YtbckbjkpmcomcaaLib
import Derived.Test.YtbckbjkpmcomcaaInts
import Derived.Test.YtbckbjkpmcomcaaMask
namespace Go.Proofs.Ytbckbjkpmcomcaa.fnExactChannelMask
open Go.RowKit Go.ChangeShapes Go.WideShapes Go.ChangeAt
set_option linter.unusedVariables false
set_option linter.unusedSimpArgs false

def chanM (a b : Int) : List Int × List Int × Int := if 2 ≤ a ∧ a ≤ 100000 ∧ 0 ≤ b ∧ b ≤ 120000 then ([0, a / 2, a], [0, 0, b], 0) else ([], [], 2)
theorem chan_len (a b : Int) : (chanM a b).1.length ≤ 3 ∧ (chanM a b).2.1.length ≤ 3 := by unfold chanM; split <;> simp
theorem chan_yes {a b : Int} (h : 2 ≤ a ∧ a ≤ 100000 ∧ 0 ≤ b ∧ b ≤ 120000) : chanM a b = ([0, a / 2, a], [0, 0, b], 0) := if_pos h
theorem chan_no {a b : Int} (h : ¬ (2 ≤ a ∧ a ≤ 100000 ∧ 0 ≤ b ∧ b ≤ 120000)) : chanM a b = ([], [], 2) := if_neg h
theorem channel_any (w : World) (a b : Int) (h1 : 2 ≤ a) (h2 : a ≤ 100000) :
    Calls Try.prog 43 #[.int .i64 a, .int .i64 b] w fun e w' => ∃ A0 n0 c0 A1 n1 c1, e = .returned (.agg #[.slice A0 n0 c0, .slice A1 n1 c1]) ∧
      Row 2 w' w.heap.size (.slice A0 n0 c0) [0, a / 2, a] ∧ Row 2 w' w.heap.size (.slice A1 n1 c1) [0, 0, b] ∧ Apart (.slice A0 n0 c0) (.slice A1 n1 c1) ∧ Below w.heap.size w w' := by
  go_enter Try.func43, Try.ntmps43
  go_wp2
  refine bodyPost_ret (v := .agg #[.slice (some ⟨w.heap.size + 1, 0, none⟩) 3 3, .slice (some ⟨w.heap.size + 1 + 1, 0, none⟩) 3 3]) (by simp [results, Try.results43, go_sem]) rfl ?_
  refine ⟨_, _, _, _, _, _, rfl, ?_, ?_, apart_of (by omega), by repeat (first | (with_reducible exact Below.refl _ _) | (with_reducible assumption) | ((with_reducible refine bl_alloc ?_ _ ?_); (focus ((first | omega | (simp <;> omega)); done))) | ((with_reducible refine bl_set ?_ _ ?_); (focus ((first | omega | (simp <;> omega)); done))) | (with_reducible refine below_drewN ?_ _) | (with_reducible refine Below.drew ?_))⟩
  · exact (Row.lit _ _ [0, a / 2, a] _ _ _ (by simp) rfl (by simp [maxLen]) (by simp)).alloc_ _
  · exact Row.lit _ _ [0, 0, b] _ _ _ (by simp) rfl (by simp [maxLen]) (by simp <;> omega)
theorem impl_any (w : World) (a : Int) (ia : In64 a) (b : Int) (ib : In64 b) :
    Calls Try.prog 23 #[.int .i64 a, .int .i64 b] w fun e w' => ∃ A0 n0 c0 A1 n1 c1, e = .returned (.tuple #[.agg #[.slice A0 n0 c0, .slice A1 n1 c1], .int .i64 (chanM a b).2.2]) ∧
      Row 2 w' w.heap.size (.slice A0 n0 c0) (chanM a b).1 ∧ Row 2 w' w.heap.size (.slice A1 n1 c1) (chanM a b).2.1 ∧ Apart (.slice A0 n0 c0) (.slice A1 n1 c1) ∧ Below w.heap.size w w' := by
  by_cases h : 2 ≤ a ∧ a ≤ 100000 ∧ 0 ≤ b ∧ b ≤ 120000
  · rw [chan_yes h]
    obtain ⟨h1, h2, h3, h4⟩ := h
    go_enter Try.func23, Try.ntmps23
    go_wp2
    refine bodyPost_ret (v := .tuple #[.agg #[.slice (some ⟨w.heap.size + 1, 0, none⟩) 3 3, .slice (some ⟨w.heap.size + 1 + 1, 0, none⟩) 3 3], .int .i64 0]) (by simp [results, Try.results23, go_sem]) rfl ?_
    refine ⟨_, _, _, _, _, _, rfl, ?_, ?_, apart_of (by omega), by repeat (first | (with_reducible exact Below.refl _ _) | (with_reducible assumption) | ((with_reducible refine bl_alloc ?_ _ ?_); (focus ((first | omega | (simp <;> omega)); done))) | ((with_reducible refine bl_set ?_ _ ?_); (focus ((first | omega | (simp <;> omega)); done))) | (with_reducible refine below_drewN ?_ _) | (with_reducible refine Below.drew ?_))⟩
    · exact (Row.lit _ _ [0, a / 2, a] _ _ _ (by simp) rfl (by simp [maxLen]) (by simp)).alloc_ _
    · exact Row.lit _ _ [0, 0, b] _ _ _ (by simp) rfl (by simp [maxLen]) (by simp <;> omega)
  · rw [chan_no h]
    by_cases h1 : 2 ≤ a
    · by_cases h2 : a ≤ 100000
      · by_cases h3 : 0 ≤ b
        · have h4 : decide (b ≤ 120000) = false := decide_eq_false (by omega)
          clear h
          go_enter Try.func23, Try.ntmps23
          go_wp2
          exact bodyPost_ret (v := .tuple #[.agg #[.slice none 0 0, .slice none 0 0], .int .i64 2]) (by simp [results, Try.results23, go_sem]) rfl ⟨_, _, _, _, _, _, rfl, Row.nil_, Row.nil_, apart_nil, by repeat (first | (with_reducible exact Below.refl _ _) | (with_reducible assumption) | ((with_reducible refine bl_alloc ?_ _ ?_); (focus ((first | omega | (simp <;> omega)); done))) | ((with_reducible refine bl_set ?_ _ ?_); (focus ((first | omega | (simp <;> omega)); done))) | (with_reducible refine below_drewN ?_ _) | (with_reducible refine Below.drew ?_))⟩
        · clear h
          go_enter Try.func23, Try.ntmps23
          go_wp2
          exact bodyPost_ret (v := .tuple #[.agg #[.slice none 0 0, .slice none 0 0], .int .i64 2]) (by simp [results, Try.results23, go_sem]) rfl ⟨_, _, _, _, _, _, rfl, Row.nil_, Row.nil_, apart_nil, by repeat (first | (with_reducible exact Below.refl _ _) | (with_reducible assumption) | ((with_reducible refine bl_alloc ?_ _ ?_); (focus ((first | omega | (simp <;> omega)); done))) | ((with_reducible refine bl_set ?_ _ ?_); (focus ((first | omega | (simp <;> omega)); done))) | (with_reducible refine below_drewN ?_ _) | (with_reducible refine Below.drew ?_))⟩
      · clear h
        go_enter Try.func23, Try.ntmps23
        go_wp2
        exact bodyPost_ret (v := .tuple #[.agg #[.slice none 0 0, .slice none 0 0], .int .i64 2]) (by simp [results, Try.results23, go_sem]) rfl ⟨_, _, _, _, _, _, rfl, Row.nil_, Row.nil_, apart_nil, by repeat (first | (with_reducible exact Below.refl _ _) | (with_reducible assumption) | ((with_reducible refine bl_alloc ?_ _ ?_); (focus ((first | omega | (simp <;> omega)); done))) | ((with_reducible refine bl_set ?_ _ ?_); (focus ((first | omega | (simp <;> omega)); done))) | (with_reducible refine below_drewN ?_ _) | (with_reducible refine Below.drew ?_))⟩
    · clear h
      go_enter Try.func23, Try.ntmps23
      go_wp2
      exact bodyPost_ret (v := .tuple #[.agg #[.slice none 0 0, .slice none 0 0], .int .i64 2]) (by simp [results, Try.results23, go_sem]) rfl ⟨_, _, _, _, _, _, rfl, Row.nil_, Row.nil_, apart_nil, by repeat (first | (with_reducible exact Below.refl _ _) | (with_reducible assumption) | ((with_reducible refine bl_alloc ?_ _ ?_); (focus ((first | omega | (simp <;> omega)); done))) | ((with_reducible refine bl_set ?_ _ ?_); (focus ((first | omega | (simp <;> omega)); done))) | (with_reducible refine below_drewN ?_ _) | (with_reducible refine Below.drew ?_))⟩
theorem spec_any (w : World) (a : Int) (ia : In64 a) (b : Int) (ib : In64 b) :
    Calls Try.prog 22 #[.int .i64 a, .int .i64 b] w fun e w' => ∃ A0 n0 c0 A1 n1 c1, e = .returned (.tuple #[.agg #[.slice A0 n0 c0, .slice A1 n1 c1], .int .i64 (chanM a b).2.2]) ∧
      Row 2 w' w.heap.size (.slice A0 n0 c0) (chanM a b).1 ∧ Row 2 w' w.heap.size (.slice A1 n1 c1) (chanM a b).2.1 ∧ Apart (.slice A0 n0 c0) (.slice A1 n1 c1) ∧ Below w.heap.size w w' := by
  by_cases h : 2 ≤ a ∧ a ≤ 100000 ∧ 0 ≤ b ∧ b ≤ 120000
  · rw [chan_yes h]
    obtain ⟨h1, h2, h3, h4⟩ := h
    go_enter Try.func22, Try.ntmps22
    go_wp2_with (go_at_call 34; go_in)
    refine (channel_any _ a b h1 h2).mono ?_
    rintro e w1 ⟨A0, n0, c0, A1, n1, c1, rfl, hr0, hr1, ha, hb⟩
    have R0 := Lib.hid hr0
    have R1 := Lib.hid hr1
    have HB := Lib.hid (show Below w.heap.size w w1 by repeat (first | (with_reducible exact Below.refl _ _) | (with_reducible assumption) | ((with_reducible refine bl_alloc ?_ _ ?_); (focus ((first | omega | (simp <;> omega)); done))) | ((with_reducible refine bl_set ?_ _ ?_); (focus ((first | omega | (simp <;> omega)); done))) | (with_reducible refine below_drewN ?_ _) | (with_reducible refine Below.drew ?_) | ((with_reducible refine bl_trans ?_ hb ?_); (focus ((first | omega | (simp <;> omega)); done)))))
    obtain ⟨hc, hf⟩ := bcell hb
    have zz : w.heap.size < w1.heap.size := by have := hb.size; simp at this; omega
    clear hr0 hr1 hb
    go_wp2
    refine bodyPost_ret (v := .tuple #[.agg #[.slice A0 n0 c0, .slice A1 n1 c1], .int .i64 0]) (by simp [results, Try.results22, go_sem, *]) rfl ?_
    refine ⟨_, _, _, _, _, _, rfl, ?_, ?_, ha, by repeat (first | (with_reducible exact Below.refl _ _) | (with_reducible assumption) | ((with_reducible refine bl_alloc ?_ _ ?_); (focus ((first | omega | (simp <;> omega)); done))) | ((with_reducible refine bl_set ?_ _ ?_); (focus ((first | omega | (simp <;> omega)); done))) | (with_reducible refine below_drewN ?_ _) | (with_reducible refine Below.drew ?_) | ((with_reducible refine bl_trans ?_ HB.out ?_); (focus ((first | omega | (simp <;> omega)); done))))⟩
    · refine Row.base_le (base := w.heap.size + 1) ?_ (by omega)
      exact Row.low (by simp) _ (Row.low (by simp) _ (Row.base_le R0.out (by simp)))
    · refine Row.base_le (base := w.heap.size + 1) ?_ (by omega)
      exact Row.low (by simp) _ (Row.low (by simp) _ (Row.base_le R1.out (by simp)))
  · rw [chan_no h]
    by_cases h1 : 2 ≤ a
    · by_cases h2 : a ≤ 100000
      · by_cases h3 : 0 ≤ b
        · have h4 : decide (b ≤ 120000) = false := decide_eq_false (by omega)
          clear h
          go_enter Try.func22, Try.ntmps22
          go_wp2
          exact bodyPost_ret (v := .tuple #[.agg #[.slice none 0 0, .slice none 0 0], .int .i64 2]) (by simp [results, Try.results22, go_sem]) rfl ⟨_, _, _, _, _, _, rfl, Row.nil_, Row.nil_, apart_nil, by repeat (first | (with_reducible exact Below.refl _ _) | (with_reducible assumption) | ((with_reducible refine bl_alloc ?_ _ ?_); (focus ((first | omega | (simp <;> omega)); done))) | ((with_reducible refine bl_set ?_ _ ?_); (focus ((first | omega | (simp <;> omega)); done))) | (with_reducible refine below_drewN ?_ _) | (with_reducible refine Below.drew ?_))⟩
        · clear h
          go_enter Try.func22, Try.ntmps22
          go_wp2
          exact bodyPost_ret (v := .tuple #[.agg #[.slice none 0 0, .slice none 0 0], .int .i64 2]) (by simp [results, Try.results22, go_sem]) rfl ⟨_, _, _, _, _, _, rfl, Row.nil_, Row.nil_, apart_nil, by repeat (first | (with_reducible exact Below.refl _ _) | (with_reducible assumption) | ((with_reducible refine bl_alloc ?_ _ ?_); (focus ((first | omega | (simp <;> omega)); done))) | ((with_reducible refine bl_set ?_ _ ?_); (focus ((first | omega | (simp <;> omega)); done))) | (with_reducible refine below_drewN ?_ _) | (with_reducible refine Below.drew ?_))⟩
      · clear h
        go_enter Try.func22, Try.ntmps22
        go_wp2
        exact bodyPost_ret (v := .tuple #[.agg #[.slice none 0 0, .slice none 0 0], .int .i64 2]) (by simp [results, Try.results22, go_sem]) rfl ⟨_, _, _, _, _, _, rfl, Row.nil_, Row.nil_, apart_nil, by repeat (first | (with_reducible exact Below.refl _ _) | (with_reducible assumption) | ((with_reducible refine bl_alloc ?_ _ ?_); (focus ((first | omega | (simp <;> omega)); done))) | ((with_reducible refine bl_set ?_ _ ?_); (focus ((first | omega | (simp <;> omega)); done))) | (with_reducible refine below_drewN ?_ _) | (with_reducible refine Below.drew ?_))⟩
    · clear h
      go_enter Try.func22, Try.ntmps22
      go_wp2
      exact bodyPost_ret (v := .tuple #[.agg #[.slice none 0 0, .slice none 0 0], .int .i64 2]) (by simp [results, Try.results22, go_sem]) rfl ⟨_, _, _, _, _, _, rfl, Row.nil_, Row.nil_, apart_nil, by repeat (first | (with_reducible exact Below.refl _ _) | (with_reducible assumption) | ((with_reducible refine bl_alloc ?_ _ ?_); (focus ((first | omega | (simp <;> omega)); done))) | ((with_reducible refine bl_set ?_ _ ?_); (focus ((first | omega | (simp <;> omega)); done))) | (with_reducible refine below_drewN ?_ _) | (with_reducible refine Below.drew ?_))⟩
set_option maxHeartbeats 4000000 in
theorem walk (w : World) (a0 : Int) (ia0 : In64 a0) (a1 : Int) (ia1 : In64 a1) :
    Calls Try.prog 8 #[.int .i64 a0, .int .i64 a1] w fun e w' => e = .returned (.bool true) ∧ Below w.heap.size w w' := by
  have hl1 := chan_len a0 a1
  go_enter Try.func8, Try.ntmps8
  go_wp2_with fail
  refine (spec_any _ a0 ia0 a1 ia1).mono ?_
  rintro e w1 ⟨A0, n0, c0, A1, n1, c1, rfl, hr0, hr1, ha0_1, hb⟩
  have zz1 : w.heap.size ≤ w1.heap.size := (by have := hb.size; ((try simp at this) <;> omega))
  have H1 := Lib.hid (show Below w.heap.size w w1 by repeat (first | (with_reducible exact Below.refl _ _) | (with_reducible assumption) | ((with_reducible refine bl_alloc ?_ _ ?_); (focus ((first | omega | (simp <;> omega)); done))) | ((with_reducible refine bl_set ?_ _ ?_); (focus ((first | omega | (simp <;> omega)); done))) | (with_reducible refine below_drewN ?_ _) | (with_reducible refine Below.drew ?_) | ((with_reducible refine bl_trans ?_ hb ?_); (focus ((first | omega | (simp <;> omega)); done)))))
  have R0_1 := Lib.hid hr0
  have RL0 := Lib.hid (show ∀ g, Value.ownBlock (.slice A0 n0 c0) = some g → w.heap.size ≤ g ∧ g < w1.heap.size from fun g h => by have l1 := hr0.lt g h; ((try simp at l1) <;> omega))
  have RA0_1 := Lib.hid ha0_1
  have R1_1 := Lib.hid hr1
  have RL1 := Lib.hid (show ∀ g, Value.ownBlock (.slice A1 n1 c1) = some g → w.heap.size ≤ g ∧ g < w1.heap.size from fun g h => by have l1 := hr1.lt g h; ((try simp at l1) <;> omega))
  clear hb hr0 ha0_1 hr1
  go_wp2_with fail
  refine (impl_any _ a0 ia0 a1 ia1).mono ?_
  rintro e w2 ⟨A2, n2, c2, A3, n3, c3, rfl, hr2, hr3, ha2_3, hb⟩
  have zz2 : w1.heap.size + 1 ≤ w2.heap.size := (by have := hb.size; ((try simp at this) <;> omega))
  have H2 := Lib.hid (show Below w.heap.size w w2 by repeat (first | (with_reducible exact Below.refl _ _) | (with_reducible assumption) | ((with_reducible refine bl_alloc ?_ _ ?_); (focus ((first | omega | (simp <;> omega)); done))) | ((with_reducible refine bl_set ?_ _ ?_); (focus ((first | omega | (simp <;> omega)); done))) | (with_reducible refine below_drewN ?_ _) | (with_reducible refine Below.drew ?_) | ((with_reducible refine bl_trans ?_ hb ?_); (focus ((first | omega | (simp <;> omega)); done))) | ((with_reducible refine bl_trans ?_ H1.out ?_); (focus ((first | omega | (simp <;> omega)); done)))))
  have f0_0_2 := keeps hb (p := ⟨w1.heap.size, 0, none⟩) (v := (.slice A0 n0 c0)) (by simp [go_sem])
  have f0_1_2 := keeps hb (p := ⟨w1.heap.size, 1, none⟩) (v := (.slice A1 n1 c1)) (by simp [go_sem])
  have g0_2 : w1.heap.size < w2.heap.size := block_of_cell f0_0_2
  have R0_2 := Lib.hid (Row.later (R0_1.out.alloc_ _) hb)
  have R1_2 := Lib.hid (Row.later (R1_1.out.alloc_ _) hb)
  have R2_2 := Lib.hid hr2
  have RL2 := Lib.hid (show ∀ g, Value.ownBlock (.slice A2 n2 c2) = some g → w1.heap.size + 1 ≤ g ∧ g < w2.heap.size from fun g h => by have l1 := hr2.lt g h; ((try simp at l1) <;> omega))
  have RA2_3 := Lib.hid ha2_3
  have R3_2 := Lib.hid hr3
  have RL3 := Lib.hid (show ∀ g, Value.ownBlock (.slice A3 n3 c3) = some g → w1.heap.size + 1 ≤ g ∧ g < w2.heap.size from fun g h => by have l1 := hr3.lt g h; ((try simp at l1) <;> omega))
  clear hb R0_1 R1_1 hr2 ha2_3 hr3 H1
  go_wp2_with fail
  refine (eqMask_any  _ _ _ (((chanM a0 a1).1)) _ _ (R2_2.out.alloc_ _) (R0_2.out.alloc_ _) _ _ (((chanM a0 a1).2.1)) _ _ (R3_2.out.alloc_ _) (R1_2.out.alloc_ _)).mono ?_
  rintro e w3 ⟨rfl, hb⟩
  have zz3 : w2.heap.size + 1 ≤ w3.heap.size := (by have := hb.size; ((try simp at this) <;> omega))
  have H3 := Lib.hid (show Below w.heap.size w w3 by repeat (first | (with_reducible exact Below.refl _ _) | (with_reducible assumption) | ((with_reducible refine bl_alloc ?_ _ ?_); (focus ((first | omega | (simp <;> omega)); done))) | ((with_reducible refine bl_set ?_ _ ?_); (focus ((first | omega | (simp <;> omega)); done))) | (with_reducible refine below_drewN ?_ _) | (with_reducible refine Below.drew ?_) | ((with_reducible refine bl_trans ?_ hb ?_); (focus ((first | omega | (simp <;> omega)); done))) | ((with_reducible refine bl_trans ?_ H2.out ?_); (focus ((first | omega | (simp <;> omega)); done)))))
  have f0_0_3 := keeps hb (cell_alloc f0_0_2 _)
  have f0_1_3 := keeps hb (cell_alloc f0_1_2 _)
  have g0_3 : w1.heap.size < w3.heap.size := block_of_cell f0_0_3
  have f1_0_3 := keeps hb (p := ⟨w2.heap.size, 0, none⟩) (v := (.slice A2 n2 c2)) (by simp [go_sem])
  have f1_1_3 := keeps hb (p := ⟨w2.heap.size, 1, none⟩) (v := (.slice A3 n3 c3)) (by simp [go_sem])
  have g1_3 : w2.heap.size < w3.heap.size := block_of_cell f1_0_3
  have R0_3 := Lib.hid (Row.later (R0_2.out.alloc_ _) hb)
  have R1_3 := Lib.hid (Row.later (R1_2.out.alloc_ _) hb)
  have R2_3 := Lib.hid (Row.later (R2_2.out.alloc_ _) hb)
  have R3_3 := Lib.hid (Row.later (R3_2.out.alloc_ _) hb)
  clear hb f0_0_2 f0_1_2 g0_2 R0_2 R1_2 R2_2 R3_2 H2
  go_wp2_with fail
  refine (markMask_any  _ _ _ (((chanM a0 a1).1)) _ R2_3.out _ (((chanM a0 a1).2.1)) _ R3_3.out RA2_3.out (by omega) (by omega)).mono ?_
  rintro e w4 ⟨rfl, hr2, hr3, hb⟩
  have zz4 : w3.heap.size ≤ w4.heap.size := (by have := hb.size; ((try simp at this) <;> omega))
  have H4 := Lib.hid (show Below w.heap.size w w4 from Below.trans (by repeat (first | (with_reducible exact Below.refl _ _) | (with_reducible assumption) | ((with_reducible refine bl_alloc ?_ _ ?_); (focus ((first | omega | (simp <;> omega)); done))) | ((with_reducible refine bl_set ?_ _ ?_); (focus ((first | omega | (simp <;> omega)); done))) | (with_reducible refine below_drewN ?_ _) | (with_reducible refine Below.drew ?_) | ((with_reducible refine bl_trans ?_ H3.out ?_); (focus ((first | omega | (simp <;> omega)); done))))) (hb.below (by first | omega | (simp <;> omega)) (fun g hs => by rcases hs with hs | hs <;> first | (have := (RL2.out g hs).1; omega) | (have := (RL3.out g hs).1; omega))))
  have f0_0_4 := keepsW hb f0_0_3 (fun hs => by rcases hs with hs | hs <;> first | (have := RL2.out _ hs; ((try simp at this) <;> omega)) | (have := RL3.out _ hs; ((try simp at this) <;> omega)))
  have f0_1_4 := keepsW hb f0_1_3 (fun hs => by rcases hs with hs | hs <;> first | (have := RL2.out _ hs; ((try simp at this) <;> omega)) | (have := RL3.out _ hs; ((try simp at this) <;> omega)))
  have g0_4 : w1.heap.size < w4.heap.size := block_of_cell f0_0_4
  have f1_0_4 := keepsW hb f1_0_3 (fun hs => by rcases hs with hs | hs <;> first | (have := RL2.out _ hs; ((try simp at this) <;> omega)) | (have := RL3.out _ hs; ((try simp at this) <;> omega)))
  have f1_1_4 := keepsW hb f1_1_3 (fun hs => by rcases hs with hs | hs <;> first | (have := RL2.out _ hs; ((try simp at this) <;> omega)) | (have := RL3.out _ hs; ((try simp at this) <;> omega)))
  have g1_4 : w2.heap.size < w4.heap.size := block_of_cell f1_0_4
  have R0_4 := Lib.hid (Row.writes R0_3.out hb (fun g h hs => by have h1 := RL0.out g h; rcases hs with hs | hs <;> first | (have h2 := RL2.out g hs; omega) | (have h2 := RL3.out g hs; omega)))
  have R1_4 := Lib.hid (Row.writes R1_3.out hb (fun g h hs => by have h1 := RL1.out g h; rcases hs with hs | hs <;> first | (have h2 := RL2.out g hs; omega) | (have h2 := RL3.out g hs; omega)))
  have R2_4 := Lib.hid hr2
  have R3_4 := Lib.hid hr3
  clear hb f0_0_3 f0_1_3 g0_3 f1_0_3 f1_1_3 g1_3 R0_3 R1_3 R2_3 hr2 R3_3 hr3 H3
  go_wp2_with fail
  refine (heldMask_any  _ _ _ _ _ R2_4.out _ _ _ R3_4.out (by omega) (by omega)).mono ?_
  rintro e w5 ⟨rfl, hb⟩
  have zz5 : w4.heap.size ≤ w5.heap.size := (by have := hb.size; ((try simp at this) <;> omega))
  have H5 := Lib.hid (show Below w.heap.size w w5 by repeat (first | (with_reducible exact Below.refl _ _) | (with_reducible assumption) | ((with_reducible refine bl_alloc ?_ _ ?_); (focus ((first | omega | (simp <;> omega)); done))) | ((with_reducible refine bl_set ?_ _ ?_); (focus ((first | omega | (simp <;> omega)); done))) | (with_reducible refine below_drewN ?_ _) | (with_reducible refine Below.drew ?_) | ((with_reducible refine bl_trans ?_ hb ?_); (focus ((first | omega | (simp <;> omega)); done))) | ((with_reducible refine bl_trans ?_ H4.out ?_); (focus ((first | omega | (simp <;> omega)); done)))))
  have f0_0_5 := keeps hb f0_0_4
  have f0_1_5 := keeps hb f0_1_4
  have g0_5 : w1.heap.size < w5.heap.size := block_of_cell f0_0_5
  have f1_0_5 := keeps hb f1_0_4
  have f1_1_5 := keeps hb f1_1_4
  have g1_5 : w2.heap.size < w5.heap.size := block_of_cell f1_0_5
  have R0_5 := Lib.hid (Row.later R0_4.out hb)
  have R1_5 := Lib.hid (Row.later R1_4.out hb)
  have R2_5 := Lib.hid (Row.later R2_4.out hb)
  have R3_5 := Lib.hid (Row.later R3_4.out hb)
  clear hb f0_0_4 f0_1_4 g0_4 f1_0_4 f1_1_4 g1_4 R0_4 R1_4 R2_4 R3_4 H4
  go_wp2_with fail
  refine (impl_any _ a0 ia0 a1 ia1).mono ?_
  rintro e w6 ⟨A4, n4, c4, A5, n5, c5, rfl, hr4, hr5, ha4_5, hb⟩
  have zz6 : w5.heap.size ≤ w6.heap.size := (by have := hb.size; ((try simp at this) <;> omega))
  have H6 := Lib.hid (show Below w.heap.size w w6 by repeat (first | (with_reducible exact Below.refl _ _) | (with_reducible assumption) | ((with_reducible refine bl_alloc ?_ _ ?_); (focus ((first | omega | (simp <;> omega)); done))) | ((with_reducible refine bl_set ?_ _ ?_); (focus ((first | omega | (simp <;> omega)); done))) | (with_reducible refine below_drewN ?_ _) | (with_reducible refine Below.drew ?_) | ((with_reducible refine bl_trans ?_ hb ?_); (focus ((first | omega | (simp <;> omega)); done))) | ((with_reducible refine bl_trans ?_ H5.out ?_); (focus ((first | omega | (simp <;> omega)); done)))))
  have f0_0_6 := keeps hb f0_0_5
  have f0_1_6 := keeps hb f0_1_5
  have g0_6 : w1.heap.size < w6.heap.size := block_of_cell f0_0_6
  have f1_0_6 := keeps hb f1_0_5
  have f1_1_6 := keeps hb f1_1_5
  have g1_6 : w2.heap.size < w6.heap.size := block_of_cell f1_0_6
  have R0_6 := Lib.hid (Row.later R0_5.out hb)
  have R1_6 := Lib.hid (Row.later R1_5.out hb)
  have R2_6 := Lib.hid (Row.later R2_5.out hb)
  have R3_6 := Lib.hid (Row.later R3_5.out hb)
  have R4_6 := Lib.hid hr4
  have RL4 := Lib.hid (show ∀ g, Value.ownBlock (.slice A4 n4 c4) = some g → w5.heap.size ≤ g ∧ g < w6.heap.size from fun g h => by have l1 := hr4.lt g h; ((try simp at l1) <;> omega))
  have RA4_5 := Lib.hid ha4_5
  have R5_6 := Lib.hid hr5
  have RL5 := Lib.hid (show ∀ g, Value.ownBlock (.slice A5 n5 c5) = some g → w5.heap.size ≤ g ∧ g < w6.heap.size from fun g h => by have l1 := hr5.lt g h; ((try simp at l1) <;> omega))
  clear hb f0_0_5 f0_1_5 g0_5 f1_0_5 f1_1_5 g1_5 R0_5 R1_5 R2_5 R3_5 hr4 ha4_5 hr5 H5
  go_wp2_with fail
  refine (eqMask_any  _ _ _ (((chanM a0 a1).1)) _ _ (R4_6.out.alloc_ _) (R0_6.out.alloc_ _) _ _ (((chanM a0 a1).2.1)) _ _ (R5_6.out.alloc_ _) (R1_6.out.alloc_ _)).mono ?_
  rintro e w7 ⟨rfl, hb⟩
  have zz7 : w6.heap.size + 1 ≤ w7.heap.size := (by have := hb.size; ((try simp at this) <;> omega))
  have H7 := Lib.hid (show Below w.heap.size w w7 by repeat (first | (with_reducible exact Below.refl _ _) | (with_reducible assumption) | ((with_reducible refine bl_alloc ?_ _ ?_); (focus ((first | omega | (simp <;> omega)); done))) | ((with_reducible refine bl_set ?_ _ ?_); (focus ((first | omega | (simp <;> omega)); done))) | (with_reducible refine below_drewN ?_ _) | (with_reducible refine Below.drew ?_) | ((with_reducible refine bl_trans ?_ hb ?_); (focus ((first | omega | (simp <;> omega)); done))) | ((with_reducible refine bl_trans ?_ H6.out ?_); (focus ((first | omega | (simp <;> omega)); done)))))
  have f1_0_7 := keeps hb (cell_alloc f1_0_6 _)
  have f1_1_7 := keeps hb (cell_alloc f1_1_6 _)
  have g1_7 : w2.heap.size < w7.heap.size := block_of_cell f1_0_7
  have R2_7 := Lib.hid (Row.later (R2_6.out.alloc_ _) hb)
  have R3_7 := Lib.hid (Row.later (R3_6.out.alloc_ _) hb)
  clear hb f0_0_6 f0_1_6 g0_6 f1_0_6 f1_1_6 g1_6 R0_6 R1_6 R2_6 R3_6 R4_6 R5_6 H6
  go_wp2_with fail
  refine (heldMask_any  _ _ _ _ _ R2_7.out _ _ _ R3_7.out (by omega) (by omega)).mono ?_
  rintro e w8 ⟨rfl, hb⟩
  have zz8 : w7.heap.size ≤ w8.heap.size := (by have := hb.size; ((try simp at this) <;> omega))
  have H8 := Lib.hid (show Below w.heap.size w w8 by repeat (first | (with_reducible exact Below.refl _ _) | (with_reducible assumption) | ((with_reducible refine bl_alloc ?_ _ ?_); (focus ((first | omega | (simp <;> omega)); done))) | ((with_reducible refine bl_set ?_ _ ?_); (focus ((first | omega | (simp <;> omega)); done))) | (with_reducible refine below_drewN ?_ _) | (with_reducible refine Below.drew ?_) | ((with_reducible refine bl_trans ?_ hb ?_); (focus ((first | omega | (simp <;> omega)); done))) | ((with_reducible refine bl_trans ?_ H7.out ?_); (focus ((first | omega | (simp <;> omega)); done)))))
  clear hb f1_0_7 f1_1_7 g1_7 R2_7 R3_7 H7
  go_wp2_with fail
  go_ret
  exact ⟨rfl, (by repeat (first | (with_reducible exact Below.refl _ _) | (with_reducible assumption) | ((with_reducible refine bl_alloc ?_ _ ?_); (focus ((first | omega | (simp <;> omega)); done))) | ((with_reducible refine bl_set ?_ _ ?_); (focus ((first | omega | (simp <;> omega)); done))) | (with_reducible refine below_drewN ?_ _) | (with_reducible refine Below.drew ?_) | ((with_reducible refine bl_trans ?_ H8.out ?_); (focus ((first | omega | (simp <;> omega)); done)))))⟩
end Go.Proofs.Ytbckbjkpmcomcaa.fnExactChannelMask
