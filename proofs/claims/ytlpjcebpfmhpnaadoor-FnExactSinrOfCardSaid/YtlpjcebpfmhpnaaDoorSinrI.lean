/-
  Contracts of SinrOf: the program's. The conditions are the hypotheses.
-/
import Derived.Test.YtlpjcebpfmhpnaaDoorRows
import Derived.Test.YtlpjcebpfmhpnaaDoorLib
import Derived.Test.YtlpjcebpfmhpnaaDoorInt
import Derived.Test.YtlpjcebpfmhpnaaDoorWithin
import Derived.Test.YtlpjcebpfmhpnaaDoorNames
import Derived.Test.YtlpjcebpfmhpnaaDoorRadioB
import Derived.Test.YtlpjcebpfmhpnaaDoorModes
import Derived.Test.YtlpjcebpfmhpnaaDoorRadios
import Derived.Test.YtlpjcebpfmhpnaaDoorRadioS
import Derived.Test.YtlpjcebpfmhpnaaDoorRadio
import Derived.Test.YtlpjcebpfmhpnaaDoorLogS
import Derived.Test.YtlpjcebpfmhpnaaDoorLogI
import Derived.Test.YtlpjcebpfmhpnaaDoorFloor
import Derived.Test.YtlpjcebpfmhpnaaDoorDec
import Derived.Test.YtlpjcebpfmhpnaaDoorSum
import Derived.Test.YtlpjcebpfmhpnaaDoorOwn
import Derived.Test.YtlpjcebpfmhpnaaDoorSinrB
import Derived.Outline
import Derived.Deep.RegionHeld3
import Derived.Deep.DrawnRows
import Derived.Deep.AppendLies
import Derived.OwnWalk
import Derived.Laws.AppendOwnNone
namespace Go.Proofs.YtlpjcebpfmhpnaaDoor.ofSinrOf
open Go.RowKit
set_option linter.unusedSimpArgs false
set_option linter.unusedVariables false
attribute [local go_sem ↓] Go.wp_at_zero Go.wp_at_succ
set_option maxRecDepth 20000 in
set_option maxHeartbeats 8000000 in
theorem impl_bad (w : World) (hT : PowTab w) (s : ByteArray) (is : s.size ≤ maxLen) (p : Int) (ip : In64 p) (f : Int) (jf : In64 f) (n : Int) (jn : In64 n) (wd : Int) (iw : In64 wd) (v : Value) (ms : List (Int × Int)) (q : Nat) (hr : RowM 57 w q v ms) (ims : ∀ m ∈ ms, In64 m.1 ∧ In64 m.2) (l : Int) (il : In64 l) (v2 : Value) (xs : List Int) (p2 : Nat) (hx : Row 2 w p2 v2 xs) (ixs : ∀ n ∈ xs, In64 n) (hxl : xs.length ≤ 1048576) (hv : radB s p f n wd ms = false) :
    Calls Tryd.prog 23 #[.agg #[.string s, .int .i64 p, .int .i64 f, .int .i64 n, .int .i64 wd, v], .int .i64 l, v2] w fun e w' => e = .returned (.tuple #[.int .i64 (sinM s p f n wd ms l xs).1, .int .i64 (sinM s p f n wd ms l xs).2]) ∧ Below w.heap.size w w' := by
  rw [sin_bad hv]
  have IS := Lib.hid is
  have HR := Lib.hid hr
  have HX := Lib.hid hx
  clear is ims ixs
  have HT := Lib.hid hT
  clear hT
  have hform : ∃ A c, v2 = .slice A xs.length c := by
    rcases hx.forms with ⟨rfl, rfl⟩ | ⟨g, c, rfl, _⟩ <;> exact ⟨_, _, rfl⟩
  obtain ⟨A, c, rfl⟩ := hform
  generalize xs.length = m at *
  have HE := Lib.hid hv
  clear hv hr hx
  go_enter Tryd.func23, Tryd.ntmps23
  go_wp2_with fail
  refine (ValidRadio_any _ s IS.out p f n wd v ms q (HR.out.alloc_ _)).mono ?_
  rintro e w1 ⟨he, hb⟩
  rw [HE.out] at he
  subst he
  have H1 := Lib.hid (show Below w.heap.size w w1 by repeat (first | (with_reducible exact Below.refl _ _) | (with_reducible assumption) | ((with_reducible refine bl_alloc ?_ _ ?_); (focus ((first | omega | (simp <;> omega)); done))) | ((with_reducible refine bl_set ?_ _ ?_); (focus ((first | omega | (simp <;> omega)); done))) | (with_reducible refine below_drewN ?_ _) | (with_reducible refine Below.drew ?_) | ((with_reducible refine bl_trans ?_ hb ?_); (focus ((first | omega | (simp <;> omega)); done)))))
  have x0 := keeps hb (p := ⟨w.heap.size, 0, none⟩) (v := .string s) (by simp [go_sem])
  have x1 := keeps hb (p := ⟨w.heap.size, 1, none⟩) (v := .int .i64 p) (by simp [go_sem])
  have x2 := keeps hb (p := ⟨w.heap.size, 2, none⟩) (v := .int .i64 f) (by simp [go_sem])
  have x3 := keeps hb (p := ⟨w.heap.size, 3, none⟩) (v := .int .i64 n) (by simp [go_sem])
  have x4 := keeps hb (p := ⟨w.heap.size, 4, none⟩) (v := .int .i64 wd) (by simp [go_sem])
  have x5 := keeps hb (p := ⟨w.heap.size, 5, none⟩) (v := v) (by simp [go_sem])
  have lW : w.heap.size < w1.heap.size := block_of_cell x5
  have zz : w.heap.size ≤ w1.heap.size := by omega
  have HRR := Lib.hid ((HR.out.alloc_ (.cells #[.string s, .int .i64 p, .int .i64 f, .int .i64 n, .int .i64 wd, v] 30)).later hb)
  clear hb
  go_wp2_with fail
  all_goals go_ret2
  all_goals exact ⟨rfl, by repeat (first | (with_reducible exact Below.refl _ _) | (with_reducible assumption) | ((with_reducible refine bl_alloc ?_ _ ?_); (focus ((first | omega | (simp <;> omega)); done))) | ((with_reducible refine bl_set ?_ _ ?_); (focus ((first | omega | (simp <;> omega)); done))) | (with_reducible refine below_drewN ?_ _) | (with_reducible refine Below.drew ?_) | ((with_reducible refine bl_trans ?_ H1.out ?_); (focus ((first | omega | (simp <;> omega)); done))))⟩
theorem cons_form {e : TypeId} {w : World} {base m : Nat} {v : Value} {l : Int} {xs : List Int} (hm : m = xs.length) (h : Row e w base v (l :: xs)) : ∃ g cap, v = .slice (some ⟨g, 0, none⟩) (m + 1) cap ∧ base ≤ g ∧ g < w.heap.size ∧ ∀ k, k < m + 1 → w.cell? ⟨g, k, none⟩ = some (.int .i64 ((l :: xs).getD k 0)) := by
  subst hm
  rcases h.forms with ⟨_, hz⟩ | ⟨g, cap, rfl, hb, hl, hc, _⟩
  · cases hz
  · exact ⟨g, cap, rfl, hb, hl, hc⟩
set_option maxRecDepth 20000 in
set_option maxHeartbeats 8000000 in
theorem impl_nil (w : World) (hT : PowTab w) (s : ByteArray) (is : s.size ≤ maxLen) (p : Int) (ip : In64 p) (f : Int) (jf : In64 f) (n : Int) (jn : In64 n) (wd : Int) (iw : In64 wd) (v : Value) (ms : List (Int × Int)) (q : Nat) (hr : RowM 57 w q v ms) (ims : ∀ m ∈ ms, In64 m.1 ∧ In64 m.2) (l : Int) (il : In64 l) (xs : List Int) (p2 : Nat) (hx : Row 2 w p2 (.slice none 0 0) xs) (ixs : ∀ n ∈ xs, In64 n) (hxl : xs.length ≤ 1048576) (hv : radB s p f n wd ms = true) (hz : xs = []) :
    Calls Tryd.prog 23 #[.agg #[.string s, .int .i64 p, .int .i64 f, .int .i64 n, .int .i64 wd, v], .int .i64 l, .slice none 0 0] w fun e w' => e = .returned (.tuple #[.int .i64 (sinM s p f n wd ms l xs).1, .int .i64 (sinM s p f n wd ms l xs).2]) ∧ Below w.heap.size w w' := by
  have IS := Lib.hid is
  have HR := Lib.hid hr
  have HX := Lib.hid hx
  clear is ims ixs
  have HT := Lib.hid hT
  clear hT
  obtain ⟨l0, l1⟩ := il
  obtain ⟨_, ⟨⟨p1, p2⟩, ⟨f1, f2⟩, ⟨n1, n2⟩, ⟨d1, d2⟩, m1, m8⟩, hmm⟩ := rad_parts hv
  clear hmm
  obtain ⟨M, hM⟩ : ∃ M, M = sinM s p f n wd ms l xs := ⟨_, rfl⟩
  rw [← hM]
  obtain ⟨k0, k1⟩ := flV_bd (wd := wd) d2 n1 n2
  have hm : 0 = xs.length := by rw [hz]; rfl
  have HNO : Hid (∀ k, k < 1 → ¬ levP f ((l :: xs).getD k 0) → M = (0, 2)) := by
    intro k hk q
    cases k with
    | zero => exact hM.trans (sin_lev hv q)
    | succ j => exact hM.trans (sin_all hv (k := j) (by omega) q)
  have HFU : Hid ((∀ k, k < 1 → levP f ((l :: xs).getD k 0)) → ¬ 0 ≤ 63 → M = (0, 5)) := fun q h => hM.trans (sin_full hv (q 0 (by omega)) (fun k hk => q (k + 1) (by omega)) (by rw [← hm]; exact h))
  have HYE : Hid ((∀ k, k < 1 → levP f ((l :: xs).getD k 0)) → 0 ≤ 63 → M = (l - f - sumV (noiseL (flV wd n) f xs), 0)) := fun q h => hM.trans (sin_yes hv (q 0 (by omega)) (fun k hk => q (k + 1) (by omega)) (by rw [← hm]; exact h))
  obtain ⟨K, hK⟩ : ∃ K, K = flV wd n := ⟨_, rfl⟩
  rw [← hK] at k0 k1 HYE
  have HK := Lib.hid hK
  have HE := Lib.hid hv
  have HM := Lib.hid hm
  clear hM hK hv hm hr hx
  obtain ⟨i0, hi, hz0, hz1, hz2⟩ := info_parts Tryd.info_i64
  have HI := Lib.hid hi
  have HZ0 := Lib.hid hz0
  have HZ1 := Lib.hid hz1
  have HZ2 := Lib.hid hz2
  clear hi hz0 hz1 hz2
  go_enter Tryd.func23, Tryd.ntmps23
  go_wp2_with fail
  refine (ValidRadio_any _ s IS.out p f n wd v ms q (HR.out.alloc_ _)).mono ?_
  rintro e w1 ⟨he, hb⟩
  rw [HE.out] at he
  subst he
  have H1 := Lib.hid (show Below w.heap.size w w1 by repeat (first | (with_reducible exact Below.refl _ _) | (with_reducible assumption) | ((with_reducible refine bl_alloc ?_ _ ?_); (focus ((first | omega | (simp <;> omega)); done))) | ((with_reducible refine bl_set ?_ _ ?_); (focus ((first | omega | (simp <;> omega)); done))) | (with_reducible refine below_drewN ?_ _) | (with_reducible refine Below.drew ?_) | ((with_reducible refine bl_trans ?_ hb ?_); (focus ((first | omega | (simp <;> omega)); done)))))
  have x0 := keeps hb (p := ⟨w.heap.size, 0, none⟩) (v := .string s) (by simp [go_sem])
  have x1 := keeps hb (p := ⟨w.heap.size, 1, none⟩) (v := .int .i64 p) (by simp [go_sem])
  have x2 := keeps hb (p := ⟨w.heap.size, 2, none⟩) (v := .int .i64 f) (by simp [go_sem])
  have x3 := keeps hb (p := ⟨w.heap.size, 3, none⟩) (v := .int .i64 n) (by simp [go_sem])
  have x4 := keeps hb (p := ⟨w.heap.size, 4, none⟩) (v := .int .i64 wd) (by simp [go_sem])
  have x5 := keeps hb (p := ⟨w.heap.size, 5, none⟩) (v := v) (by simp [go_sem])
  have lW : w.heap.size < w1.heap.size := block_of_cell x5
  have zz : w.heap.size ≤ w1.heap.size := by omega
  have HRR := Lib.hid ((HR.out.alloc_ (.cells #[.string s, .int .i64 p, .int .i64 f, .int .i64 n, .int .i64 wd, v] 30)).later hb)
  clear hb
  go_wp2_with (first | (at_builtin; refine wpList_append_own_none _ rfl _ _ 37 rfl w1.heap.size 2 i0 1 Tryd.underlying37 HI.out _ 1 [.int .i64 l] rfl (Row.lit w1 2 [l] w1.heap.size 1 w1.heap.size rfl rfl (by unfold maxLen; omega) (Nat.le_refl _)) rfl ?_))
  have H12 := Lib.hid (show Below w1.heap.size w1 (w1.alloc (.cells #[.int .i64 l] 2)) by repeat (first | (with_reducible exact Below.refl _ _) | (with_reducible assumption) | ((with_reducible refine bl_alloc ?_ _ ?_); (focus ((first | omega | (simp <;> omega)); done))) | ((with_reducible refine bl_set ?_ _ ?_); (focus ((first | omega | (simp <;> omega)); done))) | (with_reducible refine below_drewN ?_ _) | (with_reducible refine Below.drew ?_)))
  have hl2 : w1.heap.size < (w1.alloc (.cells #[.int .i64 l] 2)).heap.size := by simp
  have hc2 : ∀ k, k < 1 → (w1.alloc (.cells #[.int .i64 l] 2)).cell? ⟨w1.heap.size, k, none⟩ = some (.int .i64 ((l :: xs).getD k 0)) := by
    intro k hk
    obtain rfl : k = 0 := by omega
    simp [go_sem]
  have y0 := H12.out.cell (p := ⟨w.heap.size, 0, none⟩) lW
  have y1 := H12.out.cell (p := ⟨w.heap.size, 1, none⟩) lW
  have y2 := H12.out.cell (p := ⟨w.heap.size, 2, none⟩) lW
  have y3 := H12.out.cell (p := ⟨w.heap.size, 3, none⟩) lW
  have y4 := H12.out.cell (p := ⟨w.heap.size, 4, none⟩) lW
  have y5 := H12.out.cell (p := ⟨w.heap.size, 5, none⟩) lW
  rw [x0] at y0
  rw [x1] at y1
  rw [x2] at y2
  rw [x3] at y3
  rw [x4] at y4
  rw [x5] at y5
  have HC2 := Lib.hid hc2
  have H2 := Lib.hid (show Below w.heap.size w (w1.alloc (.cells #[.int .i64 l] 2)) from H1.out.trans (H12.out.mono zz))
  have zz2 : w1.heap.size ≤ (w1.alloc (.cells #[.int .i64 l] 2)).heap.size := H12.out.size
  clear hc2 x0 x1 x2 x3 x4 x5
  go_wp2_with fail
  go_loop [21] (fun i => ∃ k : Nat, k ≤ 1 ∧ i = .int .i64 (k : Int) ∧ Hid (∀ j, j < k → levP f ((l :: xs).getD j 0))) (fun i => 1 + 1 - (intOf i).toNat)
  case atStart => exact ⟨0, Nat.zero_le _, rfl, fun j h => by omega⟩
  case round =>
    obtain ⟨k, hk, rfl, hle⟩ := hrel
    have kk0 : (0 : Int) ≤ (k : Int) := Int.natCast_nonneg _
    by_cases hlt : k < 1
    · have hlt' : (k : Int) < (1 : Int) := by omega
      have c1 := HC2.out k hlt
      have hno := Lib.hid (HNO.out k hlt)
      have hup := Lib.hid (fun (q : levP f ((l :: xs).getD k 0)) => (show ∀ j, j < k + 1 → levP f ((l :: xs).getD j 0) from fun j hj => by
        by_cases e : j = k
        · subst e; exact q
        · exact hle.out j (by omega)))
      rcases lev_cases f1 ((l :: xs).getD k 0) with ⟨hq, e1, e2, e3, e4⟩ | ⟨hq, e1, e2⟩ | ⟨hq, e1, e2, e3⟩ | ⟨hq, e1, e2, e3, e4, e5⟩
      · have hup' := Lib.hid (hup.out hq)
        clear hup hno hle hq
        generalize (l :: xs).getD k 0 = x at *
        go_wp2_with (first | (go_at_call 53; go_in) | (go_at_call 60; go_in))
        go_round
        case rel => exact ⟨k + 1, by omega, by go_num, hup'⟩
        case measure => simp [intOf]; omega
      · have he := Lib.hid (hno.out hq)
        clear hup hno hle hq
        generalize (l :: xs).getD k 0 = x at *
        clear e2
        go_wp2_with (first | (go_at_call 53; go_in) | (go_at_call 60; go_in))
        all_goals go_ret2
        all_goals exact ⟨(by rw [he.out] <;> rfl), by repeat (first | (with_reducible exact Below.refl _ _) | (with_reducible assumption) | ((with_reducible refine bl_alloc ?_ _ ?_); (focus ((first | omega | (simp <;> omega)); done))) | ((with_reducible refine bl_set ?_ _ ?_); (focus ((first | omega | (simp <;> omega)); done))) | (with_reducible refine below_drewN ?_ _) | (with_reducible refine Below.drew ?_) | ((with_reducible refine bl_trans ?_ H2.out ?_); (focus ((first | omega | (simp <;> omega)); done))) | ((with_reducible refine bl_trans ?_ H1.out ?_); (focus ((first | omega | (simp <;> omega)); done))))⟩
      · have he := Lib.hid (hno.out hq)
        clear hup hno hle hq
        generalize (l :: xs).getD k 0 = x at *
        clear e3
        go_wp2_with (first | (go_at_call 53; go_in) | (go_at_call 60; go_in))
        all_goals go_ret2
        all_goals exact ⟨(by rw [he.out] <;> rfl), by repeat (first | (with_reducible exact Below.refl _ _) | (with_reducible assumption) | ((with_reducible refine bl_alloc ?_ _ ?_); (focus ((first | omega | (simp <;> omega)); done))) | ((with_reducible refine bl_set ?_ _ ?_); (focus ((first | omega | (simp <;> omega)); done))) | (with_reducible refine below_drewN ?_ _) | (with_reducible refine Below.drew ?_) | ((with_reducible refine bl_trans ?_ H2.out ?_); (focus ((first | omega | (simp <;> omega)); done))) | ((with_reducible refine bl_trans ?_ H1.out ?_); (focus ((first | omega | (simp <;> omega)); done))))⟩
      · have he := Lib.hid (hno.out hq)
        clear hup hno hle hq
        generalize (l :: xs).getD k 0 = x at *
        clear e4 e5
        go_wp2_with (first | (go_at_call 53; go_in) | (go_at_call 60; go_in))
        all_goals go_ret2
        all_goals exact ⟨(by rw [he.out] <;> rfl), by repeat (first | (with_reducible exact Below.refl _ _) | (with_reducible assumption) | ((with_reducible refine bl_alloc ?_ _ ?_); (focus ((first | omega | (simp <;> omega)); done))) | ((with_reducible refine bl_set ?_ _ ?_); (focus ((first | omega | (simp <;> omega)); done))) | (with_reducible refine below_drewN ?_ _) | (with_reducible refine Below.drew ?_) | ((with_reducible refine bl_trans ?_ H2.out ?_); (focus ((first | omega | (simp <;> omega)); done))) | ((with_reducible refine bl_trans ?_ H1.out ?_); (focus ((first | omega | (simp <;> omega)); done))))⟩
    · obtain rfl : k = 1 := by omega
      have hd : decide ((1 : Int) < (1 : Int)) = false := decide_eq_false (by omega)
      by_cases h63 : 0 ≤ 63
      rotate_left
      · omega
      · have he := Lib.hid (HYE.out hle.out h63)
        have HLE : Hid (∀ j, j < xs.length → levP f (xs.getD j 0)) := fun j hj => hle.out (j + 1) (by have := HM.out; omega)
        have hl3 := (hle.out 0 (by omega))
        obtain ⟨⟨q0, q1⟩, q2, q3⟩ := (show (-300000 ≤ l ∧ l ≤ 300000) ∧ -300000 ≤ l - f ∧ l - f ≤ 300000 from hl3)
        clear hle HNO HFU HYE hl3 hd
        go_wp2_with fail
        refine (floor_any _ (HT.out.below H2.out) s p f n wd _ d1 d2 n1 n2).mono ?_
        rintro e w3 ⟨hq3, hb3⟩
        rw [← HK.out] at hq3
        subst hq3
        have z2 := keeps hb3 y2
        have H23 := Lib.hid hb3
        have H3 := Lib.hid (show Below w.heap.size w w3 from H2.out.trans (hb3.mono H2.out.size))
        have lW3 : w.heap.size < w3.heap.size := block_of_cell z2
        have zz3 : (w1.alloc (.cells #[.int .i64 l] 2)).heap.size ≤ w3.heap.size := hb3.size
        clear hb3 y0 y1 y2 y3 y4 y5 HC2
        go_wp2_with fail
        go_loopw [10, 45] (fun t i wr => ∃ k : Nat, k ≤ 0 ∧ i = .int .i64 (k : Int) ∧ Hid (Row 2 wr w3.heap.size t ((noiseL K f xs).take (k + 1))) ∧ Hid (Below w3.heap.size w3 wr)) (fun _ i _ => 0 + 1 - (intOf i).toNat)
        case atStart => exact ⟨0, Nat.zero_le _, rfl, (show Row _ _ _ _ _ from Row.lit w3 2 [K] w3.heap.size 1 w3.heap.size rfl rfl (by unfold maxLen; omega) (Nat.le_refl _)), (show Below _ _ _ by repeat (first | (with_reducible exact Below.refl _ _) | (with_reducible assumption) | ((with_reducible refine bl_alloc ?_ _ ?_); (focus ((first | omega | (simp <;> omega)); done))) | ((with_reducible refine bl_set ?_ _ ?_); (focus ((first | omega | (simp <;> omega)); done))) | (with_reducible refine below_drewN ?_ _) | (with_reducible refine Below.drew ?_)))⟩
        case round =>
          obtain ⟨k, hk, rfl, hrw, hbw⟩ := hrel
          have kk0 : (0 : Int) ≤ (k : Int) := Int.natCast_nonneg _
          have zr : w3.heap.size ≤ wr.heap.size := hbw.out.size
          have yf := (hbw.out.cell (p := ⟨w.heap.size, 2, none⟩) lW3).trans z2
          have HBW := Lib.hid (show Below w.heap.size w wr from H3.out.trans (hbw.out.mono H3.out.size))
          by_cases hlt : k < 0
          · omega
          · obtain rfl : k = 0 := by omega
            have hd : decide ((0 : Int) < (0 : Int)) = false := decide_eq_false (by omega)
            have hrr : Hid (Row 2 wr w3.heap.size u10 (noiseL K f xs)) := by
              have h := hrw.out
              rw [List.take_of_length_le (by rw [noise_len]; have := HM.out; omega)] at h
              exact h
            clear hrw
            obtain ⟨h3, cap3, rfl, _, hl3, hc3⟩ := cons_form (l := K) (xs := xs.map (fun z => z - f)) (m := 0) (by rw [List.length_map]; exact HM.out) hrr.out
            have hbd := noise_bd (K := K) (f := f) (xs := xs) (by omega) (by omega) HLE.out
            obtain ⟨v0, v1⟩ := sumV_bd (xs := noiseL K f xs) (by rw [noise_len]; omega) (by rw [noise_len]; have := HM.out; omega) hbd
            have HS : Hid (∀ W : World, Below wr.heap.size wr W → Calls Tryd.prog 62 #[.slice (some ⟨h3, 0, none⟩) (1) cap3] W fun e w' => e = .returned (.int .i64 (sumV (noiseL K f xs))) ∧ Below W.heap.size W w') := fun W hW => sumDb_any W (HT.out.below (HBW.out.trans (hW.mono HBW.out.size))) h3 cap3 (1) (noiseL K f xs) (Nat.lt_of_lt_of_le hl3 hW.size) (by rw [noise_len]; have := HM.out; omega) (by omega) (by omega) (fun j hj => hbd j (by rw [noise_len]; have := HM.out; omega)) (fun j hj => (hW.cell (p := ⟨h3, j, none⟩) hl3).trans (hc3 j (by omega)))
            obtain ⟨V, hV⟩ : ∃ V, V = sumV (noiseL K f xs) := ⟨_, rfl⟩
            rw [← hV] at HS v0 v1 he
            have i1 : IntKind.i64.wrap (l - f) = l - f := by rw [IntKind.wrap_i64]; omega
            have i2 : IntKind.i64.wrap (l - f - V) = l - f - V := by rw [IntKind.wrap_i64]; omega
            clear hV hbd hc3 HLE
            go_wp2_with fail
            go_region_held3 (fun w' => w'.cell? ⟨w.heap.size, 2, none⟩ = some (.int .i64 f))
              (first | assumption | (refine keeps hb ?_; assumption) | go_keep)
              (first | (go_at_call 62; ((with_reducible refine (HS.out _ (by repeat (first | (with_reducible exact Below.refl _ _) | (with_reducible assumption) | ((with_reducible refine bl_alloc ?_ _ ?_); (focus ((first | omega | (simp <;> omega)); done))) | ((with_reducible refine bl_set ?_ _ ?_); (focus ((first | omega | (simp <;> omega)); done))) | (with_reducible refine below_drewN ?_ _) | (with_reducible refine Below.drew ?_)))).mono ?_); rintro e w5 ⟨rfl, hb⟩)))
            have H5 := Lib.hid (show Below w.heap.size w w5 by repeat (first | (with_reducible exact Below.refl _ _) | (with_reducible assumption) | ((with_reducible refine bl_alloc ?_ _ ?_); (focus ((first | omega | (simp <;> omega)); done))) | ((with_reducible refine bl_set ?_ _ ?_); (focus ((first | omega | (simp <;> omega)); done))) | (with_reducible refine below_drewN ?_ _) | (with_reducible refine Below.drew ?_) | ((with_reducible refine bl_trans ?_ hb ?_); (focus ((first | omega | (simp <;> omega)); done))) | ((with_reducible refine bl_trans ?_ HBW.out ?_); (focus ((first | omega | (simp <;> omega)); done)))))
            clear hb
            go_wp2_with fail
            go_ret2
            exact ⟨(by rw [he.out] <;> rfl), H5.out⟩
set_option maxRecDepth 20000 in
set_option maxHeartbeats 8000000 in
theorem impl_some (w : World) (hT : PowTab w) (s : ByteArray) (is : s.size ≤ maxLen) (p : Int) (ip : In64 p) (f : Int) (jf : In64 f) (n : Int) (jn : In64 n) (wd : Int) (iw : In64 wd) (v : Value) (ms : List (Int × Int)) (q : Nat) (hr : RowM 57 w q v ms) (ims : ∀ m ∈ ms, In64 m.1 ∧ In64 m.2) (l : Int) (il : In64 l) (gx cx : Nat) (xs : List Int) (p2 : Nat) (hx : Row 2 w p2 (.slice (some ⟨gx, 0, none⟩) xs.length cx) xs) (ixs : ∀ n ∈ xs, In64 n) (hxl : xs.length ≤ 1048576) (lx : gx < w.heap.size) (hcx : ∀ k, k < xs.length → w.cell? ⟨gx, k, none⟩ = some (.int .i64 (xs.getD k 0))) (hv : radB s p f n wd ms = true) :
    Calls Tryd.prog 23 #[.agg #[.string s, .int .i64 p, .int .i64 f, .int .i64 n, .int .i64 wd, v], .int .i64 l, .slice (some ⟨gx, 0, none⟩) xs.length cx] w fun e w' => e = .returned (.tuple #[.int .i64 (sinM s p f n wd ms l xs).1, .int .i64 (sinM s p f n wd ms l xs).2]) ∧ Below w.heap.size w w' := by
  have IS := Lib.hid is
  have HR := Lib.hid hr
  have HX := Lib.hid hx
  clear is ims ixs
  have HT := Lib.hid hT
  clear hT
  obtain ⟨l0, l1⟩ := il
  obtain ⟨_, ⟨⟨p1, p2⟩, ⟨f1, f2⟩, ⟨n1, n2⟩, ⟨d1, d2⟩, m1, m8⟩, hmm⟩ := rad_parts hv
  clear hmm
  obtain ⟨M, hM⟩ : ∃ M, M = sinM s p f n wd ms l xs := ⟨_, rfl⟩
  rw [← hM]
  obtain ⟨k0, k1⟩ := flV_bd (wd := wd) d2 n1 n2
  obtain ⟨m, hm⟩ : ∃ m, m = xs.length := ⟨_, rfl⟩
  have HNO : Hid (∀ k, k < m + 1 → ¬ levP f ((l :: xs).getD k 0) → M = (0, 2)) := by
    intro k hk q
    cases k with
    | zero => exact hM.trans (sin_lev hv q)
    | succ j => exact hM.trans (sin_all hv (k := j) (by omega) q)
  have HFU : Hid ((∀ k, k < m + 1 → levP f ((l :: xs).getD k 0)) → ¬ m ≤ 63 → M = (0, 5)) := fun q h => hM.trans (sin_full hv (q 0 (by omega)) (fun k hk => q (k + 1) (by omega)) (by rw [← hm]; exact h))
  have HYE : Hid ((∀ k, k < m + 1 → levP f ((l :: xs).getD k 0)) → m ≤ 63 → M = (l - f - sumV (noiseL (flV wd n) f xs), 0)) := fun q h => hM.trans (sin_yes hv (q 0 (by omega)) (fun k hk => q (k + 1) (by omega)) (by rw [← hm]; exact h))
  obtain ⟨K, hK⟩ : ∃ K, K = flV wd n := ⟨_, rfl⟩
  rw [← hK] at k0 k1 HYE
  have HK := Lib.hid hK
  have HE := Lib.hid hv
  have HM := Lib.hid hm
  rw [← hm] at hcx hxl HX ⊢
  have HC := Lib.hid hcx
  have HNW := Lib.hid (fun (w' : World) (h : ∀ k, k < m → w'.cell? ⟨gx, k, none⟩ = some (.int .i64 (xs.getD k 0))) => news_row hm h)
  clear hcx
  clear hM hK hv hm hr hx
  obtain ⟨i0, hi, hz0, hz1, hz2⟩ := info_parts Tryd.info_i64
  have HI := Lib.hid hi
  have HZ0 := Lib.hid hz0
  have HZ1 := Lib.hid hz1
  have HZ2 := Lib.hid hz2
  clear hi hz0 hz1 hz2
  go_enter Tryd.func23, Tryd.ntmps23
  go_wp2_with fail
  refine (ValidRadio_any _ s IS.out p f n wd v ms q (HR.out.alloc_ _)).mono ?_
  rintro e w1 ⟨he, hb⟩
  rw [HE.out] at he
  subst he
  have H1 := Lib.hid (show Below w.heap.size w w1 by repeat (first | (with_reducible exact Below.refl _ _) | (with_reducible assumption) | ((with_reducible refine bl_alloc ?_ _ ?_); (focus ((first | omega | (simp <;> omega)); done))) | ((with_reducible refine bl_set ?_ _ ?_); (focus ((first | omega | (simp <;> omega)); done))) | (with_reducible refine below_drewN ?_ _) | (with_reducible refine Below.drew ?_) | ((with_reducible refine bl_trans ?_ hb ?_); (focus ((first | omega | (simp <;> omega)); done)))))
  have x0 := keeps hb (p := ⟨w.heap.size, 0, none⟩) (v := .string s) (by simp [go_sem])
  have x1 := keeps hb (p := ⟨w.heap.size, 1, none⟩) (v := .int .i64 p) (by simp [go_sem])
  have x2 := keeps hb (p := ⟨w.heap.size, 2, none⟩) (v := .int .i64 f) (by simp [go_sem])
  have x3 := keeps hb (p := ⟨w.heap.size, 3, none⟩) (v := .int .i64 n) (by simp [go_sem])
  have x4 := keeps hb (p := ⟨w.heap.size, 4, none⟩) (v := .int .i64 wd) (by simp [go_sem])
  have x5 := keeps hb (p := ⟨w.heap.size, 5, none⟩) (v := v) (by simp [go_sem])
  have lW : w.heap.size < w1.heap.size := block_of_cell x5
  have zz : w.heap.size ≤ w1.heap.size := by omega
  have HRR := Lib.hid ((HR.out.alloc_ (.cells #[.string s, .int .i64 p, .int .i64 f, .int .i64 n, .int .i64 wd, v] 30)).later hb)
  clear hb
  go_wp2_with (first | (at_builtin; refine wpList_append_own _ rfl _ _ 37 rfl w1.heap.size 2 i0 (.int .i64 0) 1 8 Tryd.underlying37 HI.out HZ0.out HZ1.out HZ2.out rfl (by decide) _ 1 [.int .i64 l] rfl (Row.lit w1 2 [l] w1.heap.size 1 w1.heap.size rfl rfl (by unfold maxLen; omega) (Nat.le_refl _)) ⟨gx, 0, none⟩ m cx (xs.map (Value.int .i64)) rfl (by rw [List.length_map, HM.out, Nat.mul_one]) (HNW.out _ (fun k hk => cell_alloc ((H1.out.cell (p := ⟨gx, k, none⟩) lx).trans (HC.out k hk)) _)) (news_one xs) (by unfold maxLen; omega) (by omega) (by simp) ?_; intro v' w2 hown hgrow hnil; have hr2 : Hid (Row 2 w2 w1.heap.size v' (l :: xs)) := app_rows (ys := [l]) (m := 1) rfl HM.out hown; have hb12 := app_below (Row.lit w1 2 [l] w1.heap.size 1 w1.heap.size rfl rfl (by unfold maxLen; omega) (Nat.le_refl _)) hgrow (by simp); have H12 := Lib.hid (show Below w1.heap.size w1 w2 from (bl_alloc (Nat.le_refl _) _ (Below.refl _ _)).trans hb12); clear hown hgrow hnil hb12; obtain ⟨g2, cap2, rfl, hg2, hl2, hc2⟩ := cons_form HM.out hr2.out))
  have y0 := H12.out.cell (p := ⟨w.heap.size, 0, none⟩) lW
  have y1 := H12.out.cell (p := ⟨w.heap.size, 1, none⟩) lW
  have y2 := H12.out.cell (p := ⟨w.heap.size, 2, none⟩) lW
  have y3 := H12.out.cell (p := ⟨w.heap.size, 3, none⟩) lW
  have y4 := H12.out.cell (p := ⟨w.heap.size, 4, none⟩) lW
  have y5 := H12.out.cell (p := ⟨w.heap.size, 5, none⟩) lW
  rw [x0] at y0
  rw [x1] at y1
  rw [x2] at y2
  rw [x3] at y3
  rw [x4] at y4
  rw [x5] at y5
  have HC2 := Lib.hid hc2
  have H2 := Lib.hid (show Below w.heap.size w w2 from H1.out.trans (H12.out.mono zz))
  have zz2 : w1.heap.size ≤ w2.heap.size := H12.out.size
  clear hc2 x0 x1 x2 x3 x4 x5
  go_wp2_with fail
  go_loop [21] (fun i => ∃ k : Nat, k ≤ m + 1 ∧ i = .int .i64 (k : Int) ∧ Hid (∀ j, j < k → levP f ((l :: xs).getD j 0))) (fun i => m + 1 + 1 - (intOf i).toNat)
  case atStart => exact ⟨0, Nat.zero_le _, rfl, fun j h => by omega⟩
  case round =>
    obtain ⟨k, hk, rfl, hle⟩ := hrel
    have kk0 : (0 : Int) ≤ (k : Int) := Int.natCast_nonneg _
    by_cases hlt : k < m + 1
    · have hlt' : (k : Int) < ((m : Int) + 1 : Int) := by omega
      have c1 := HC2.out k hlt
      have hno := Lib.hid (HNO.out k hlt)
      have hup := Lib.hid (fun (q : levP f ((l :: xs).getD k 0)) => (show ∀ j, j < k + 1 → levP f ((l :: xs).getD j 0) from fun j hj => by
        by_cases e : j = k
        · subst e; exact q
        · exact hle.out j (by omega)))
      rcases lev_cases f1 ((l :: xs).getD k 0) with ⟨hq, e1, e2, e3, e4⟩ | ⟨hq, e1, e2⟩ | ⟨hq, e1, e2, e3⟩ | ⟨hq, e1, e2, e3, e4, e5⟩
      · have hup' := Lib.hid (hup.out hq)
        clear hup hno hle hq
        generalize (l :: xs).getD k 0 = x at *
        go_wp2_with (first | (go_at_call 53; go_in) | (go_at_call 60; go_in))
        go_round
        case rel => exact ⟨k + 1, by omega, by go_num, hup'⟩
        case measure => simp [intOf]; omega
      · have he := Lib.hid (hno.out hq)
        clear hup hno hle hq
        generalize (l :: xs).getD k 0 = x at *
        clear e2
        go_wp2_with (first | (go_at_call 53; go_in) | (go_at_call 60; go_in))
        all_goals go_ret2
        all_goals exact ⟨(by rw [he.out] <;> rfl), by repeat (first | (with_reducible exact Below.refl _ _) | (with_reducible assumption) | ((with_reducible refine bl_alloc ?_ _ ?_); (focus ((first | omega | (simp <;> omega)); done))) | ((with_reducible refine bl_set ?_ _ ?_); (focus ((first | omega | (simp <;> omega)); done))) | (with_reducible refine below_drewN ?_ _) | (with_reducible refine Below.drew ?_) | ((with_reducible refine bl_trans ?_ H2.out ?_); (focus ((first | omega | (simp <;> omega)); done))) | ((with_reducible refine bl_trans ?_ H1.out ?_); (focus ((first | omega | (simp <;> omega)); done))))⟩
      · have he := Lib.hid (hno.out hq)
        clear hup hno hle hq
        generalize (l :: xs).getD k 0 = x at *
        clear e3
        go_wp2_with (first | (go_at_call 53; go_in) | (go_at_call 60; go_in))
        all_goals go_ret2
        all_goals exact ⟨(by rw [he.out] <;> rfl), by repeat (first | (with_reducible exact Below.refl _ _) | (with_reducible assumption) | ((with_reducible refine bl_alloc ?_ _ ?_); (focus ((first | omega | (simp <;> omega)); done))) | ((with_reducible refine bl_set ?_ _ ?_); (focus ((first | omega | (simp <;> omega)); done))) | (with_reducible refine below_drewN ?_ _) | (with_reducible refine Below.drew ?_) | ((with_reducible refine bl_trans ?_ H2.out ?_); (focus ((first | omega | (simp <;> omega)); done))) | ((with_reducible refine bl_trans ?_ H1.out ?_); (focus ((first | omega | (simp <;> omega)); done))))⟩
      · have he := Lib.hid (hno.out hq)
        clear hup hno hle hq
        generalize (l :: xs).getD k 0 = x at *
        clear e4 e5
        go_wp2_with (first | (go_at_call 53; go_in) | (go_at_call 60; go_in))
        all_goals go_ret2
        all_goals exact ⟨(by rw [he.out] <;> rfl), by repeat (first | (with_reducible exact Below.refl _ _) | (with_reducible assumption) | ((with_reducible refine bl_alloc ?_ _ ?_); (focus ((first | omega | (simp <;> omega)); done))) | ((with_reducible refine bl_set ?_ _ ?_); (focus ((first | omega | (simp <;> omega)); done))) | (with_reducible refine below_drewN ?_ _) | (with_reducible refine Below.drew ?_) | ((with_reducible refine bl_trans ?_ H2.out ?_); (focus ((first | omega | (simp <;> omega)); done))) | ((with_reducible refine bl_trans ?_ H1.out ?_); (focus ((first | omega | (simp <;> omega)); done))))⟩
    · obtain rfl : k = m + 1 := by omega
      have hd : decide (((m : Int) + 1 : Int) < ((m : Int) + 1 : Int)) = false := decide_eq_false (by omega)
      by_cases h63 : m ≤ 63
      rotate_left
      · have he := Lib.hid (HFU.out hle.out h63)
        have hq : (63 : Int) < (m : Int) := by omega
        clear hle HNO HFU HYE
        go_wp2_with fail
        all_goals go_ret2
        all_goals exact ⟨(by rw [he.out] <;> rfl), by repeat (first | (with_reducible exact Below.refl _ _) | (with_reducible assumption) | ((with_reducible refine bl_alloc ?_ _ ?_); (focus ((first | omega | (simp <;> omega)); done))) | ((with_reducible refine bl_set ?_ _ ?_); (focus ((first | omega | (simp <;> omega)); done))) | (with_reducible refine below_drewN ?_ _) | (with_reducible refine Below.drew ?_) | ((with_reducible refine bl_trans ?_ H2.out ?_); (focus ((first | omega | (simp <;> omega)); done))) | ((with_reducible refine bl_trans ?_ H1.out ?_); (focus ((first | omega | (simp <;> omega)); done))))⟩
      · have he := Lib.hid (HYE.out hle.out h63)
        have hq : ¬ (63 : Int) < (m : Int) := by omega
        have HLE : Hid (∀ j, j < xs.length → levP f (xs.getD j 0)) := fun j hj => hle.out (j + 1) (by have := HM.out; omega)
        have hl3 := (hle.out 0 (by omega))
        obtain ⟨⟨q0, q1⟩, q2, q3⟩ := (show (-300000 ≤ l ∧ l ≤ 300000) ∧ -300000 ≤ l - f ∧ l - f ≤ 300000 from hl3)
        clear hle HNO HFU HYE hl3 hd
        go_wp2_with fail
        refine (floor_any _ (HT.out.below H2.out) s p f n wd _ d1 d2 n1 n2).mono ?_
        rintro e w3 ⟨hq3, hb3⟩
        rw [← HK.out] at hq3
        subst hq3
        have z2 := keeps hb3 y2
        have H23 := Lib.hid hb3
        have H3 := Lib.hid (show Below w.heap.size w w3 from H2.out.trans (hb3.mono H2.out.size))
        have lW3 : w.heap.size < w3.heap.size := block_of_cell z2
        have zz3 : w2.heap.size ≤ w3.heap.size := hb3.size
        clear hb3 y0 y1 y2 y3 y4 y5 HC2
        go_wp2_with fail
        go_loopw [10, 45] (fun t i wr => ∃ k : Nat, k ≤ m ∧ i = .int .i64 (k : Int) ∧ Hid (Row 2 wr w3.heap.size t ((noiseL K f xs).take (k + 1))) ∧ Hid (Below w3.heap.size w3 wr)) (fun _ i _ => m + 1 - (intOf i).toNat)
        case atStart => exact ⟨0, Nat.zero_le _, rfl, (show Row _ _ _ _ _ from Row.lit w3 2 [K] w3.heap.size 1 w3.heap.size rfl rfl (by unfold maxLen; omega) (Nat.le_refl _)), (show Below _ _ _ by repeat (first | (with_reducible exact Below.refl _ _) | (with_reducible assumption) | ((with_reducible refine bl_alloc ?_ _ ?_); (focus ((first | omega | (simp <;> omega)); done))) | ((with_reducible refine bl_set ?_ _ ?_); (focus ((first | omega | (simp <;> omega)); done))) | (with_reducible refine below_drewN ?_ _) | (with_reducible refine Below.drew ?_)))⟩
        case round =>
          obtain ⟨k, hk, rfl, hrw, hbw⟩ := hrel
          have kk0 : (0 : Int) ≤ (k : Int) := Int.natCast_nonneg _
          have zr : w3.heap.size ≤ wr.heap.size := hbw.out.size
          have yf := (hbw.out.cell (p := ⟨w.heap.size, 2, none⟩) lW3).trans z2
          have HBW := Lib.hid (show Below w.heap.size w wr from H3.out.trans (hbw.out.mono H3.out.size))
          by_cases hlt : k < m
          · have hlt' : (k : Int) < (m : Int) := by omega
            have gc := (HBW.out.cell (p := ⟨gx, k, none⟩) lx).trans (HC.out k hlt)
            have hst := Lib.hid (noise_step K f xs (k := k) (by have := HM.out; omega))
            obtain ⟨⟨e1, e2⟩, e3, e4⟩ := (show (-300000 ≤ xs.getD k 0 ∧ xs.getD k 0 ≤ 300000) ∧ -300000 ≤ xs.getD k 0 - f ∧ xs.getD k 0 - f ≤ 300000 from HLE.out k (by have := HM.out; omega))
            have hlen : ((noiseL K f xs).take (k + 1)).length = k + 1 := by rw [List.length_take, noise_len]; have := HM.out; omega
            obtain ⟨ys, hy⟩ : ∃ ys, ys = (noiseL K f xs).take (k + 1) := ⟨_, rfl⟩
            rw [← hy] at hrw hlen hst
            clear hy
            generalize xs.getD k 0 = x at *
            obtain ⟨z, hz⟩ : ∃ z, z = x - f := ⟨_, rfl⟩
            rw [← hz] at hst
            have HZ := Lib.hid hz
            clear hz
            go_wp2_with (first | (at_builtin; refine wpList_append_own _ rfl _ _ 37 rfl w3.heap.size 2 i0 (.int .i64 0) 1 8 Tryd.underlying37 HI.out HZ0.out HZ1.out HZ2.out rfl (by decide) _ (k + 1) (ys.map (Value.int .i64)) rfl (Row.owns hlen (hrw.out.alloc_ _)) ⟨wr.heap.size, 0, none⟩ 1 1 [.int .i64 (x - f)] rfl rfl ?c1 ?c2 ?c3 ?c4 ?c5 ?_))
            case c1 =>
              intro j u hj
              match j, hj with
              | 0, hj => simp at hj; subst hj; simp [Addr.add]
            case c2 => intro u hu; simp at hu; subst hu; rfl
            case c3 => unfold maxLen; omega
            case c4 => omega
            case c5 => simp; omega
            · intro v' w4 hown hgrow _
              have hr4 : Hid (Row 2 w4 w3.heap.size v' ((noiseL K f xs).take (k + 1 + 1))) := by
                show Row _ _ _ _ _
                rw [hst.out, HZ.out]
                exact app_row hlen hown
              have hb4 := app_below (hrw.out.alloc_ _) hgrow (by simp; omega)
              have H4 := Lib.hid (show Below w3.heap.size w3 w4 from (bl_alloc hbw.out.size _ hbw.out).trans hb4)
              clear hown hgrow hb4 hrw
              go_wp2
              go_roundw
              case rel => exact ⟨k + 1, by omega, by go_num, hr4, H4⟩
              case measure => simp [intOf]; omega
          · obtain rfl : k = m := by omega
            have hd : decide (((k : Int) : Int) < ((k : Int) : Int)) = false := decide_eq_false (by omega)
            have hrr : Hid (Row 2 wr w3.heap.size u10 (noiseL K f xs)) := by
              have h := hrw.out
              rw [List.take_of_length_le (by rw [noise_len]; have := HM.out; omega)] at h
              exact h
            clear hrw
            obtain ⟨h3, cap3, rfl, _, hl3, hc3⟩ := cons_form (l := K) (xs := xs.map (fun z => z - f)) (m := k) (by rw [List.length_map]; exact HM.out) hrr.out
            have hbd := noise_bd (K := K) (f := f) (xs := xs) (by omega) (by omega) HLE.out
            obtain ⟨v0, v1⟩ := sumV_bd (xs := noiseL K f xs) (by rw [noise_len]; omega) (by rw [noise_len]; have := HM.out; omega) hbd
            have HS : Hid (∀ W : World, Below wr.heap.size wr W → Calls Tryd.prog 62 #[.slice (some ⟨h3, 0, none⟩) (k + 1) cap3] W fun e w' => e = .returned (.int .i64 (sumV (noiseL K f xs))) ∧ Below W.heap.size W w') := fun W hW => sumDb_any W (HT.out.below (HBW.out.trans (hW.mono HBW.out.size))) h3 cap3 (k + 1) (noiseL K f xs) (Nat.lt_of_lt_of_le hl3 hW.size) (by rw [noise_len]; have := HM.out; omega) (by omega) (by omega) (fun j hj => hbd j (by rw [noise_len]; have := HM.out; omega)) (fun j hj => (hW.cell (p := ⟨h3, j, none⟩) hl3).trans (hc3 j (by omega)))
            obtain ⟨V, hV⟩ : ∃ V, V = sumV (noiseL K f xs) := ⟨_, rfl⟩
            rw [← hV] at HS v0 v1 he
            have i1 : IntKind.i64.wrap (l - f) = l - f := by rw [IntKind.wrap_i64]; omega
            have i2 : IntKind.i64.wrap (l - f - V) = l - f - V := by rw [IntKind.wrap_i64]; omega
            clear hV hbd hc3 HLE
            go_wp2_with fail
            go_region_held3 (fun w' => w'.cell? ⟨w.heap.size, 2, none⟩ = some (.int .i64 f))
              (first | assumption | (refine keeps hb ?_; assumption) | go_keep)
              (first | (go_at_call 62; ((with_reducible refine (HS.out _ (by repeat (first | (with_reducible exact Below.refl _ _) | (with_reducible assumption) | ((with_reducible refine bl_alloc ?_ _ ?_); (focus ((first | omega | (simp <;> omega)); done))) | ((with_reducible refine bl_set ?_ _ ?_); (focus ((first | omega | (simp <;> omega)); done))) | (with_reducible refine below_drewN ?_ _) | (with_reducible refine Below.drew ?_)))).mono ?_); rintro e w5 ⟨rfl, hb⟩)))
            have H5 := Lib.hid (show Below w.heap.size w w5 by repeat (first | (with_reducible exact Below.refl _ _) | (with_reducible assumption) | ((with_reducible refine bl_alloc ?_ _ ?_); (focus ((first | omega | (simp <;> omega)); done))) | ((with_reducible refine bl_set ?_ _ ?_); (focus ((first | omega | (simp <;> omega)); done))) | (with_reducible refine below_drewN ?_ _) | (with_reducible refine Below.drew ?_) | ((with_reducible refine bl_trans ?_ hb ?_); (focus ((first | omega | (simp <;> omega)); done))) | ((with_reducible refine bl_trans ?_ HBW.out ?_); (focus ((first | omega | (simp <;> omega)); done)))))
            clear hb
            go_wp2_with fail
            go_ret2
            exact ⟨(by rw [he.out] <;> rfl), H5.out⟩
theorem impl_any (w : World) (hT : PowTab w) (s : ByteArray) (is : s.size ≤ maxLen) (p : Int) (ip : In64 p) (f : Int) (jf : In64 f) (n : Int) (jn : In64 n) (wd : Int) (iw : In64 wd) (v : Value) (ms : List (Int × Int)) (q : Nat) (hr : RowM 57 w q v ms) (ims : ∀ m ∈ ms, In64 m.1 ∧ In64 m.2) (l : Int) (il : In64 l) (v2 : Value) (xs : List Int) (p2 : Nat) (hx : Row 2 w p2 v2 xs) (ixs : ∀ n ∈ xs, In64 n) (hxl : xs.length ≤ 1048576) :
    Calls Tryd.prog 23 #[.agg #[.string s, .int .i64 p, .int .i64 f, .int .i64 n, .int .i64 wd, v], .int .i64 l, v2] w fun e w' => e = .returned (.tuple #[.int .i64 (sinM s p f n wd ms l xs).1, .int .i64 (sinM s p f n wd ms l xs).2]) ∧ Below w.heap.size w w' := by
  rcases bool_tf (radB s p f n wd ms) with h | h
  · rcases hx.forms with ⟨rfl, hz⟩ | ⟨gx, cx, rfl, _, lx, hcx, _⟩
    · exact impl_nil w hT s is p ip f jf n jn wd iw v ms q hr ims l il xs p2 hx ixs hxl h hz
    · exact impl_some w hT s is p ip f jf n jn wd iw v ms q hr ims l il gx cx xs p2 hx ixs hxl lx hcx h
  · exact impl_bad w hT s is p ip f jf n jn wd iw v ms q hr ims l il v2 xs p2 hx ixs hxl h
end Go.Proofs.YtlpjcebpfmhpnaaDoor.ofSinrOf
