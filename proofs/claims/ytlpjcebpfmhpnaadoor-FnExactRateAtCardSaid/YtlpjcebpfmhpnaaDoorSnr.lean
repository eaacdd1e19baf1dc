/-
  Contracts of SnrOf: the program's and the reference's, as in the law's own text. The conditions are the hypotheses.
-/
import Derived.Test.YtlpjcebpfmhpnaaDoorRows
import Derived.Test.YtlpjcebpfmhpnaaDoorLib
import Derived.Test.YtlpjcebpfmhpnaaDoorInt
import Derived.Test.YtlpjcebpfmhpnaaDoorWithin
import Derived.Test.YtlpjcebpfmhpnaaDoorNames
import Derived.Test.YtlpjcebpfmhpnaaDoorRadioB
import Derived.Test.YtlpjcebpfmhpnaaDoorModes
import Derived.Test.YtlpjcebpfmhpnaaDoorRadios
import Derived.Test.YtlpjcebpfmhpnaaDoorRadioS
import Derived.Test.YtlpjcebpfmhpnaaDoorRadio
import Derived.Test.YtlpjcebpfmhpnaaDoorLogS
import Derived.Test.YtlpjcebpfmhpnaaDoorLogI
import Derived.Test.YtlpjcebpfmhpnaaDoorFloor
import Derived.Test.YtlpjcebpfmhpnaaDoorDec
import Derived.Outline
import Derived.Deep.RegionHeld3
import Derived.Deep.DrawnRows
namespace Go.Proofs.YtlpjcebpfmhpnaaDoor.ofSnrOf
open Go.RowKit
set_option linter.unusedSimpArgs false
set_option linter.unusedVariables false
attribute [local go_sem ↓] Go.wp_at_zero Go.wp_at_succ
def snrOfM (s : ByteArray) (p f n wd : Int) (ms : List (Int × Int)) (l : Int) : Int × Int := if radB s p f n wd ms = true then (if -300000 ≤ l ∧ l ≤ 300000 then (l - f - flV wd n, 0) else (0, 2)) else (0, 1)
theorem snrOfM_bad {s : ByteArray} {p f n wd : Int} {ms : List (Int × Int)} {l : Int} (h : radB s p f n wd ms = false) : snrOfM s p f n wd ms l = (0, 1) := if_neg (by rw [h]; decide)
theorem snrOfM_out {s : ByteArray} {p f n wd : Int} {ms : List (Int × Int)} {l : Int} (h : radB s p f n wd ms = true) (h1 : ¬ (-300000 ≤ l ∧ l ≤ 300000)) : snrOfM s p f n wd ms l = (0, 2) := by
  unfold snrOfM
  rw [if_pos h, if_neg h1]
theorem snrOfM_yes {s : ByteArray} {p f n wd : Int} {ms : List (Int × Int)} {l : Int} (h : radB s p f n wd ms = true) (h1 : -300000 ≤ l ∧ l ≤ 300000) : snrOfM s p f n wd ms l = (l - f - flV wd n, 0) := by
  unfold snrOfM
  rw [if_pos h, if_pos h1]
set_option maxRecDepth 20000 in
set_option maxHeartbeats 4000000 in
theorem impl_any (w : World) (hT : PowTab w) (s : ByteArray) (is : s.size ≤ maxLen) (p : Int) (ip : In64 p) (f : Int) (jf : In64 f) (n : Int) (jn : In64 n) (wd : Int) (iw : In64 wd) (v : Value) (ms : List (Int × Int)) (q : Nat) (hr : RowM 57 w q v ms) (ims : ∀ m ∈ ms, In64 m.1 ∧ In64 m.2) (l : Int) (il : In64 l) :
    Calls Tryd.prog 39 #[.agg #[.string s, .int .i64 p, .int .i64 f, .int .i64 n, .int .i64 wd, v], .int .i64 l] w fun e w' => e = .returned (.tuple #[.int .i64 (snrOfM s p f n wd ms l).1, .int .i64 (snrOfM s p f n wd ms l).2]) ∧ Below w.heap.size w w' := by
  have IS := Lib.hid is
  have HR := Lib.hid hr
  clear is hr ims
  have HT := Lib.hid hT
  clear hT
  rcases bool_tf (radB s p f n wd ms) with hv | hv
  rotate_left
  · rw [snrOfM_bad hv]
    have HE := Lib.hid hv
    clear hv
    go_enter Tryd.func39, Tryd.ntmps39
    go_wp2_with fail
    refine (ValidRadio_any _ s IS.out p f n wd v ms q (HR.out.alloc_ _)).mono ?_
    rintro e w1 ⟨he, hb⟩
    rw [HE.out] at he
    subst he
    have H1 := Lib.hid (show Below w.heap.size w w1 by repeat (first | (with_reducible exact Below.refl _ _) | (with_reducible assumption) | ((with_reducible refine bl_alloc ?_ _ ?_); (focus ((first | omega | (simp <;> omega)); done))) | ((with_reducible refine bl_set ?_ _ ?_); (focus ((first | omega | (simp <;> omega)); done))) | (with_reducible refine below_drewN ?_ _) | (with_reducible refine Below.drew ?_) | ((with_reducible refine bl_trans ?_ hb ?_); (focus ((first | omega | (simp <;> omega)); done)))))
    have x0 := keeps hb (p := ⟨w.heap.size, 0, none⟩) (v := .string s) (by simp [go_sem])
    have x1 := keeps hb (p := ⟨w.heap.size, 1, none⟩) (v := .int .i64 p) (by simp [go_sem])
    have x2 := keeps hb (p := ⟨w.heap.size, 2, none⟩) (v := .int .i64 f) (by simp [go_sem])
    have x3 := keeps hb (p := ⟨w.heap.size, 3, none⟩) (v := .int .i64 n) (by simp [go_sem])
    have x4 := keeps hb (p := ⟨w.heap.size, 4, none⟩) (v := .int .i64 wd) (by simp [go_sem])
    have x5 := keeps hb (p := ⟨w.heap.size, 5, none⟩) (v := v) (by simp [go_sem])
    have lW : w.heap.size < w1.heap.size := block_of_cell x5
    have zz : w.heap.size ≤ w1.heap.size := by omega
    have HRR := Lib.hid ((HR.out.alloc_ (.cells #[.string s, .int .i64 p, .int .i64 f, .int .i64 n, .int .i64 wd, v] 30)).later hb)
    clear hb
    go_wp2_with fail
    go_ret2
    exact ⟨rfl, by repeat (first | (with_reducible exact Below.refl _ _) | (with_reducible assumption) | ((with_reducible refine bl_alloc ?_ _ ?_); (focus ((first | omega | (simp <;> omega)); done))) | ((with_reducible refine bl_set ?_ _ ?_); (focus ((first | omega | (simp <;> omega)); done))) | (with_reducible refine below_drewN ?_ _) | (with_reducible refine Below.drew ?_) | ((with_reducible refine bl_trans ?_ H1.out ?_); (focus ((first | omega | (simp <;> omega)); done))))⟩
  rcases in_cases l (-300000) 300000 with ⟨t0, u0⟩ | t0 | ⟨t0, u0⟩
  · rw [snrOfM_yes hv ⟨t0, u0⟩]
    obtain ⟨_, ⟨⟨p1, p2⟩, ⟨f1, f2⟩, ⟨n1, n2⟩, ⟨d1, d2⟩, m1, m8⟩, hm⟩ := rad_parts hv
    have HE := Lib.hid hv
    have HM := Lib.hid hm
    clear hv hm
    obtain ⟨k0, k1⟩ := flV_bd (wd := wd) d2 n1 n2
    obtain ⟨K, hK⟩ : ∃ K, K = flV wd n := ⟨_, rfl⟩
    rw [← hK] at k0 k1 ⊢
    have HK := Lib.hid hK
    clear hK
    have i1 : IntKind.i64.wrap (l - f) = l - f := by rw [IntKind.wrap_i64]; omega
    have i2 : IntKind.i64.wrap (l - f - K) = l - f - K := by rw [IntKind.wrap_i64]; omega
    go_enter Tryd.func39, Tryd.ntmps39
    go_wp2_with fail
    refine (ValidRadio_any _ s IS.out p f n wd v ms q (HR.out.alloc_ _)).mono ?_
    rintro e w1 ⟨he, hb⟩
    rw [HE.out] at he
    subst he
    have H1 := Lib.hid (show Below w.heap.size w w1 by repeat (first | (with_reducible exact Below.refl _ _) | (with_reducible assumption) | ((with_reducible refine bl_alloc ?_ _ ?_); (focus ((first | omega | (simp <;> omega)); done))) | ((with_reducible refine bl_set ?_ _ ?_); (focus ((first | omega | (simp <;> omega)); done))) | (with_reducible refine below_drewN ?_ _) | (with_reducible refine Below.drew ?_) | ((with_reducible refine bl_trans ?_ hb ?_); (focus ((first | omega | (simp <;> omega)); done)))))
    have x0 := keeps hb (p := ⟨w.heap.size, 0, none⟩) (v := .string s) (by simp [go_sem])
    have x1 := keeps hb (p := ⟨w.heap.size, 1, none⟩) (v := .int .i64 p) (by simp [go_sem])
    have x2 := keeps hb (p := ⟨w.heap.size, 2, none⟩) (v := .int .i64 f) (by simp [go_sem])
    have x3 := keeps hb (p := ⟨w.heap.size, 3, none⟩) (v := .int .i64 n) (by simp [go_sem])
    have x4 := keeps hb (p := ⟨w.heap.size, 4, none⟩) (v := .int .i64 wd) (by simp [go_sem])
    have x5 := keeps hb (p := ⟨w.heap.size, 5, none⟩) (v := v) (by simp [go_sem])
    have lW : w.heap.size < w1.heap.size := block_of_cell x5
    have zz : w.heap.size ≤ w1.heap.size := by omega
    have HRR := Lib.hid ((HR.out.alloc_ (.cells #[.string s, .int .i64 p, .int .i64 f, .int .i64 n, .int .i64 wd, v] 30)).later hb)
    clear hb
    go_wp2_with (first | (go_at_call 53; go_in) | (go_at_call 60; go_in))
    have HC : Hid (∀ W : World, Below w.heap.size w W → Calls Tryd.prog 61 #[.agg #[.string s, .int .i64 p, .int .i64 f, .int .i64 n, .int .i64 wd, v]] W fun e w' => e = .returned (.int .i64 K) ∧ Below W.heap.size W w') := fun W hW => by
      rw [HK.out]
      exact floor_any W (PowTab.below HT.out hW) s p f n wd v d1 d2 n1 n2
    go_region_held3 (fun w' => w'.cell? ⟨w.heap.size, 0, none⟩ = some (.string s) ∧ w'.cell? ⟨w.heap.size, 1, none⟩ = some (.int .i64 p) ∧ w'.cell? ⟨w.heap.size, 2, none⟩ = some (.int .i64 f) ∧ w'.cell? ⟨w.heap.size, 3, none⟩ = some (.int .i64 n) ∧ w'.cell? ⟨w.heap.size, 4, none⟩ = some (.int .i64 wd) ∧ w'.cell? ⟨w.heap.size, 5, none⟩ = some v)
      (first | (refine ⟨?_, ?_, ?_, ?_, ?_, ?_⟩ <;> assumption) | (go_split_ands; (refine ⟨?_, ?_, ?_, ?_, ?_, ?_⟩ <;> first | assumption | (refine keeps hb ?_; assumption))))
      (first | (go_at_call 61; ((with_reducible refine (HC.out _ (by repeat (first | (with_reducible exact Below.refl _ _) | (with_reducible assumption) | ((with_reducible refine bl_alloc ?_ _ ?_); (focus ((first | omega | (simp <;> omega)); done))) | ((with_reducible refine bl_set ?_ _ ?_); (focus ((first | omega | (simp <;> omega)); done))) | (with_reducible refine below_drewN ?_ _) | (with_reducible refine Below.drew ?_) | ((with_reducible refine bl_trans ?_ H1.out ?_); (focus ((first | omega | (simp <;> omega)); done)))))).mono ?_); rintro e w2 ⟨rfl, hb⟩)))
    have H2 := Lib.hid (show Below w.heap.size w w2 by repeat (first | (with_reducible exact Below.refl _ _) | (with_reducible assumption) | ((with_reducible refine bl_alloc ?_ _ ?_); (focus ((first | omega | (simp <;> omega)); done))) | ((with_reducible refine bl_set ?_ _ ?_); (focus ((first | omega | (simp <;> omega)); done))) | (with_reducible refine below_drewN ?_ _) | (with_reducible refine Below.drew ?_) | ((with_reducible refine bl_trans ?_ hb ?_); (focus ((first | omega | (simp <;> omega)); done))) | ((with_reducible refine bl_trans ?_ H1.out ?_); (focus ((first | omega | (simp <;> omega)); done)))))
    clear hb
    go_wp2_with fail
    go_ret2
    exact ⟨rfl, H2.out⟩
  · rw [snrOfM_out hv (fun h => dec_no t0 h.1)]
    have HE := Lib.hid hv
    clear hv
    go_enter Tryd.func39, Tryd.ntmps39
    go_wp2_with fail
    refine (ValidRadio_any _ s IS.out p f n wd v ms q (HR.out.alloc_ _)).mono ?_
    rintro e w1 ⟨he, hb⟩
    rw [HE.out] at he
    subst he
    have H1 := Lib.hid (show Below w.heap.size w w1 by repeat (first | (with_reducible exact Below.refl _ _) | (with_reducible assumption) | ((with_reducible refine bl_alloc ?_ _ ?_); (focus ((first | omega | (simp <;> omega)); done))) | ((with_reducible refine bl_set ?_ _ ?_); (focus ((first | omega | (simp <;> omega)); done))) | (with_reducible refine below_drewN ?_ _) | (with_reducible refine Below.drew ?_) | ((with_reducible refine bl_trans ?_ hb ?_); (focus ((first | omega | (simp <;> omega)); done)))))
    have x0 := keeps hb (p := ⟨w.heap.size, 0, none⟩) (v := .string s) (by simp [go_sem])
    have x1 := keeps hb (p := ⟨w.heap.size, 1, none⟩) (v := .int .i64 p) (by simp [go_sem])
    have x2 := keeps hb (p := ⟨w.heap.size, 2, none⟩) (v := .int .i64 f) (by simp [go_sem])
    have x3 := keeps hb (p := ⟨w.heap.size, 3, none⟩) (v := .int .i64 n) (by simp [go_sem])
    have x4 := keeps hb (p := ⟨w.heap.size, 4, none⟩) (v := .int .i64 wd) (by simp [go_sem])
    have x5 := keeps hb (p := ⟨w.heap.size, 5, none⟩) (v := v) (by simp [go_sem])
    have lW : w.heap.size < w1.heap.size := block_of_cell x5
    have zz : w.heap.size ≤ w1.heap.size := by omega
    have HRR := Lib.hid ((HR.out.alloc_ (.cells #[.string s, .int .i64 p, .int .i64 f, .int .i64 n, .int .i64 wd, v] 30)).later hb)
    clear hb
    go_wp2_with (first | (go_at_call 53; go_in) | (go_at_call 60; go_in))
    all_goals go_ret2
    all_goals exact ⟨rfl, by repeat (first | (with_reducible exact Below.refl _ _) | (with_reducible assumption) | ((with_reducible refine bl_alloc ?_ _ ?_); (focus ((first | omega | (simp <;> omega)); done))) | ((with_reducible refine bl_set ?_ _ ?_); (focus ((first | omega | (simp <;> omega)); done))) | (with_reducible refine below_drewN ?_ _) | (with_reducible refine Below.drew ?_) | ((with_reducible refine bl_trans ?_ H1.out ?_); (focus ((first | omega | (simp <;> omega)); done))))⟩
  · rw [snrOfM_out hv (fun h => dec_no u0 h.2)]
    have HE := Lib.hid hv
    clear hv
    go_enter Tryd.func39, Tryd.ntmps39
    go_wp2_with fail
    refine (ValidRadio_any _ s IS.out p f n wd v ms q (HR.out.alloc_ _)).mono ?_
    rintro e w1 ⟨he, hb⟩
    rw [HE.out] at he
    subst he
    have H1 := Lib.hid (show Below w.heap.size w w1 by repeat (first | (with_reducible exact Below.refl _ _) | (with_reducible assumption) | ((with_reducible refine bl_alloc ?_ _ ?_); (focus ((first | omega | (simp <;> omega)); done))) | ((with_reducible refine bl_set ?_ _ ?_); (focus ((first | omega | (simp <;> omega)); done))) | (with_reducible refine below_drewN ?_ _) | (with_reducible refine Below.drew ?_) | ((with_reducible refine bl_trans ?_ hb ?_); (focus ((first | omega | (simp <;> omega)); done)))))
    have x0 := keeps hb (p := ⟨w.heap.size, 0, none⟩) (v := .string s) (by simp [go_sem])
    have x1 := keeps hb (p := ⟨w.heap.size, 1, none⟩) (v := .int .i64 p) (by simp [go_sem])
    have x2 := keeps hb (p := ⟨w.heap.size, 2, none⟩) (v := .int .i64 f) (by simp [go_sem])
    have x3 := keeps hb (p := ⟨w.heap.size, 3, none⟩) (v := .int .i64 n) (by simp [go_sem])
    have x4 := keeps hb (p := ⟨w.heap.size, 4, none⟩) (v := .int .i64 wd) (by simp [go_sem])
    have x5 := keeps hb (p := ⟨w.heap.size, 5, none⟩) (v := v) (by simp [go_sem])
    have lW : w.heap.size < w1.heap.size := block_of_cell x5
    have zz : w.heap.size ≤ w1.heap.size := by omega
    have HRR := Lib.hid ((HR.out.alloc_ (.cells #[.string s, .int .i64 p, .int .i64 f, .int .i64 n, .int .i64 wd, v] 30)).later hb)
    clear hb
    go_wp2_with (first | (go_at_call 53; go_in) | (go_at_call 60; go_in))
    all_goals go_ret2
    all_goals exact ⟨rfl, by repeat (first | (with_reducible exact Below.refl _ _) | (with_reducible assumption) | ((with_reducible refine bl_alloc ?_ _ ?_); (focus ((first | omega | (simp <;> omega)); done))) | ((with_reducible refine bl_set ?_ _ ?_); (focus ((first | omega | (simp <;> omega)); done))) | (with_reducible refine below_drewN ?_ _) | (with_reducible refine Below.drew ?_) | ((with_reducible refine bl_trans ?_ H1.out ?_); (focus ((first | omega | (simp <;> omega)); done))))⟩
end Go.Proofs.YtlpjcebpfmhpnaaDoor.ofSnrOf
