/-
  Contracts of GreatestLoss: the program's. The conditions are the hypotheses.
-/
import Derived.Test.YtlpjcebpfmhpnaaDoorRows
import Derived.Test.YtlpjcebpfmhpnaaDoorLib
import Derived.Test.YtlpjcebpfmhpnaaDoorInt
import Derived.Test.YtlpjcebpfmhpnaaDoorWithin
import Derived.Test.YtlpjcebpfmhpnaaDoorNames
import Derived.Test.YtlpjcebpfmhpnaaDoorRadioB
import Derived.Test.YtlpjcebpfmhpnaaDoorModes
import Derived.Test.YtlpjcebpfmhpnaaDoorRadios
import Derived.Test.YtlpjcebpfmhpnaaDoorRadioS
import Derived.Test.YtlpjcebpfmhpnaaDoorRadio
import Derived.Test.YtlpjcebpfmhpnaaDoorLogS
import Derived.Test.YtlpjcebpfmhpnaaDoorLogI
import Derived.Test.YtlpjcebpfmhpnaaDoorFloor
import Derived.Test.YtlpjcebpfmhpnaaDoorLeast
import Derived.Test.YtlpjcebpfmhpnaaDoorGreatB
import Derived.Test.YtlpjcebpfmhpnaaDoorDec
import Derived.Outline
import Derived.Deep.RegionHeld3
import Derived.Deep.DrawnRows
namespace Go.Proofs.YtlpjcebpfmhpnaaDoor.ofGreatestLoss
open Go.RowKit
set_option linter.unusedSimpArgs false
set_option linter.unusedVariables false
attribute [local go_sem ↓] Go.wp_at_zero Go.wp_at_succ
set_option maxRecDepth 20000 in
set_option maxHeartbeats 4000000 in
theorem impl_bad1 (w : World) (hT : PowTab w) (s1 : ByteArray) (is1 : s1.size ≤ maxLen) (p1 : Int) (ip1 : In64 p1) (f1 : Int) (jf1 : In64 f1) (n1 : Int) (jn1 : In64 n1) (d1 : Int) (jd1 : In64 d1) (v1 : Value) (m1 : List (Int × Int)) (q1 : Nat) (hr1 : RowM 57 w q1 v1 m1) (im1 : ∀ a ∈ m1, In64 a.1 ∧ In64 a.2) (g : Int) (ig : In64 g) (s2 : ByteArray) (is2 : s2.size ≤ maxLen) (p2 : Int) (ip2 : In64 p2) (f2 : Int) (jf2 : In64 f2) (n2 : Int) (jn2 : In64 n2) (d2 : Int) (jd2 : In64 d2) (v2 : Value) (m2 : List (Int × Int)) (q2 : Nat) (hr2 : RowM 57 w q2 v2 m2) (im2 : ∀ a ∈ m2, In64 a.1 ∧ In64 a.2) (t : Int) (it : In64 t) (k : Int) (ik : In64 k) (hv : radB s1 p1 f1 n1 d1 m1 = false) :
    Calls Tryd.prog 14 #[.agg #[.string s1, .int .i64 p1, .int .i64 f1, .int .i64 n1, .int .i64 d1, v1], .int .i64 g, .agg #[.string s2, .int .i64 p2, .int .i64 f2, .int .i64 n2, .int .i64 d2, v2], .int .i64 t, .int .i64 k] w fun e w' => e = .returned (.tuple #[.int .i64 (greatM s1 p1 f1 n1 d1 m1 g s2 p2 f2 n2 d2 m2 t k).1, .int .i64 (greatM s1 p1 f1 n1 d1 m1 g s2 p2 f2 n2 d2 m2 t k).2]) ∧ Below w.heap.size w w' := by
  rw [great_bad1 hv]
  have IS1 := Lib.hid is1
  have IS2 := Lib.hid is2
  have HR1 := Lib.hid hr1
  have HR2 := Lib.hid hr2
  have hf2 := hr2.forms
  obtain ⟨jk0, jk1⟩ := ik
  clear is1 is2 hr1 hr2 im1 im2 ip1 jf1 jn1 jd1 ip2 jf2 jn2 jd2
  have HT := Lib.hid hT
  clear hT
  have HE1 := Lib.hid hv
  clear hv hf2
  go_enter Tryd.func14, Tryd.ntmps14
  go_wp2_with fail
  refine (ValidRadio_any _ s1 IS1.out p1 f1 n1 d1 _ m1 q1 ((HR1.out.alloc_ _).alloc_ _)).mono ?_
  rintro e w1 ⟨he, hb⟩
  rw [HE1.out] at he
  subst he
  have H1 := Lib.hid (show Below w.heap.size w w1 by repeat (first | (with_reducible exact Below.refl _ _) | (with_reducible assumption) | ((with_reducible refine bl_alloc ?_ _ ?_); (focus ((first | omega | (simp <;> omega)); done))) | ((with_reducible refine bl_set ?_ _ ?_); (focus ((first | omega | (simp <;> omega)); done))) | (with_reducible refine below_drewN ?_ _) | (with_reducible refine Below.drew ?_) | ((with_reducible refine bl_trans ?_ hb ?_); (focus ((first | omega | (simp <;> omega)); done)))))
  have x0 := keeps hb (p := ⟨w.heap.size, 0, none⟩) (v := .string s1) (by simp [go_sem])
  have x1 := keeps hb (p := ⟨w.heap.size, 1, none⟩) (v := .int .i64 p1) (by simp [go_sem])
  have x2 := keeps hb (p := ⟨w.heap.size, 2, none⟩) (v := .int .i64 f1) (by simp [go_sem])
  have x3 := keeps hb (p := ⟨w.heap.size, 3, none⟩) (v := .int .i64 n1) (by simp [go_sem])
  have x4 := keeps hb (p := ⟨w.heap.size, 4, none⟩) (v := .int .i64 d1) (by simp [go_sem])
  have x5 := keeps hb (p := ⟨w.heap.size, 5, none⟩) (v := v1) (by simp [go_sem])
  have y0 := keeps hb (p := ⟨w.heap.size + 1, 0, none⟩) (v := .string s2) (by simp [go_sem])
  have y1 := keeps hb (p := ⟨w.heap.size + 1, 1, none⟩) (v := .int .i64 p2) (by simp [go_sem])
  have y2 := keeps hb (p := ⟨w.heap.size + 1, 2, none⟩) (v := .int .i64 f2) (by simp [go_sem])
  have y3 := keeps hb (p := ⟨w.heap.size + 1, 3, none⟩) (v := .int .i64 n2) (by simp [go_sem])
  have y4 := keeps hb (p := ⟨w.heap.size + 1, 4, none⟩) (v := .int .i64 d2) (by simp [go_sem])
  have y5 := keeps hb (p := ⟨w.heap.size + 1, 5, none⟩) (v := v2) (by simp [go_sem])
  have lW1 : w.heap.size + 1 < w1.heap.size := block_of_cell y5
  have lW0 : w.heap.size < w1.heap.size := by omega
  have HQ2 := Lib.hid (((HR2.out.alloc_ (.cells #[.string s1, .int .i64 p1, .int .i64 f1, .int .i64 n1, .int .i64 d1, v1] 30)).alloc_ (.cells #[.string s2, .int .i64 p2, .int .i64 f2, .int .i64 n2, .int .i64 d2, v2] 30)).later hb)
  clear hb
  go_wp2_with fail
  all_goals go_ret2
  all_goals exact ⟨rfl, by repeat (first | (with_reducible exact Below.refl _ _) | (with_reducible assumption) | ((with_reducible refine bl_alloc ?_ _ ?_); (focus ((first | omega | (simp <;> omega)); done))) | ((with_reducible refine bl_set ?_ _ ?_); (focus ((first | omega | (simp <;> omega)); done))) | (with_reducible refine below_drewN ?_ _) | (with_reducible refine Below.drew ?_) | ((with_reducible refine bl_trans ?_ H1.out ?_); (focus ((first | omega | (simp <;> omega)); done))))⟩
set_option maxRecDepth 20000 in
set_option maxHeartbeats 4000000 in
theorem impl_bad2 (w : World) (hT : PowTab w) (s1 : ByteArray) (is1 : s1.size ≤ maxLen) (p1 : Int) (ip1 : In64 p1) (f1 : Int) (jf1 : In64 f1) (n1 : Int) (jn1 : In64 n1) (d1 : Int) (jd1 : In64 d1) (v1 : Value) (m1 : List (Int × Int)) (q1 : Nat) (hr1 : RowM 57 w q1 v1 m1) (im1 : ∀ a ∈ m1, In64 a.1 ∧ In64 a.2) (g : Int) (ig : In64 g) (s2 : ByteArray) (is2 : s2.size ≤ maxLen) (p2 : Int) (ip2 : In64 p2) (f2 : Int) (jf2 : In64 f2) (n2 : Int) (jn2 : In64 n2) (d2 : Int) (jd2 : In64 d2) (v2 : Value) (m2 : List (Int × Int)) (q2 : Nat) (hr2 : RowM 57 w q2 v2 m2) (im2 : ∀ a ∈ m2, In64 a.1 ∧ In64 a.2) (t : Int) (it : In64 t) (k : Int) (ik : In64 k) (hv1 : radB s1 p1 f1 n1 d1 m1 = true) (hv : radB s2 p2 f2 n2 d2 m2 = false) :
    Calls Tryd.prog 14 #[.agg #[.string s1, .int .i64 p1, .int .i64 f1, .int .i64 n1, .int .i64 d1, v1], .int .i64 g, .agg #[.string s2, .int .i64 p2, .int .i64 f2, .int .i64 n2, .int .i64 d2, v2], .int .i64 t, .int .i64 k] w fun e w' => e = .returned (.tuple #[.int .i64 (greatM s1 p1 f1 n1 d1 m1 g s2 p2 f2 n2 d2 m2 t k).1, .int .i64 (greatM s1 p1 f1 n1 d1 m1 g s2 p2 f2 n2 d2 m2 t k).2]) ∧ Below w.heap.size w w' := by
  rw [great_bad2 hv]
  have IS1 := Lib.hid is1
  have IS2 := Lib.hid is2
  have HR1 := Lib.hid hr1
  have HR2 := Lib.hid hr2
  have hf2 := hr2.forms
  obtain ⟨jk0, jk1⟩ := ik
  clear is1 is2 hr1 hr2 im1 im2 ip1 jf1 jn1 jd1 ip2 jf2 jn2 jd2
  have HT := Lib.hid hT
  clear hT
  have HE1 := Lib.hid hv1
  have HE2 := Lib.hid hv
  clear hv hv1 hf2
  go_enter Tryd.func14, Tryd.ntmps14
  go_wp2_with fail
  refine (ValidRadio_any _ s1 IS1.out p1 f1 n1 d1 _ m1 q1 ((HR1.out.alloc_ _).alloc_ _)).mono ?_
  rintro e w1 ⟨he, hb⟩
  rw [HE1.out] at he
  subst he
  have H1 := Lib.hid (show Below w.heap.size w w1 by repeat (first | (with_reducible exact Below.refl _ _) | (with_reducible assumption) | ((with_reducible refine bl_alloc ?_ _ ?_); (focus ((first | omega | (simp <;> omega)); done))) | ((with_reducible refine bl_set ?_ _ ?_); (focus ((first | omega | (simp <;> omega)); done))) | (with_reducible refine below_drewN ?_ _) | (with_reducible refine Below.drew ?_) | ((with_reducible refine bl_trans ?_ hb ?_); (focus ((first | omega | (simp <;> omega)); done)))))
  have x0 := keeps hb (p := ⟨w.heap.size, 0, none⟩) (v := .string s1) (by simp [go_sem])
  have x1 := keeps hb (p := ⟨w.heap.size, 1, none⟩) (v := .int .i64 p1) (by simp [go_sem])
  have x2 := keeps hb (p := ⟨w.heap.size, 2, none⟩) (v := .int .i64 f1) (by simp [go_sem])
  have x3 := keeps hb (p := ⟨w.heap.size, 3, none⟩) (v := .int .i64 n1) (by simp [go_sem])
  have x4 := keeps hb (p := ⟨w.heap.size, 4, none⟩) (v := .int .i64 d1) (by simp [go_sem])
  have x5 := keeps hb (p := ⟨w.heap.size, 5, none⟩) (v := v1) (by simp [go_sem])
  have y0 := keeps hb (p := ⟨w.heap.size + 1, 0, none⟩) (v := .string s2) (by simp [go_sem])
  have y1 := keeps hb (p := ⟨w.heap.size + 1, 1, none⟩) (v := .int .i64 p2) (by simp [go_sem])
  have y2 := keeps hb (p := ⟨w.heap.size + 1, 2, none⟩) (v := .int .i64 f2) (by simp [go_sem])
  have y3 := keeps hb (p := ⟨w.heap.size + 1, 3, none⟩) (v := .int .i64 n2) (by simp [go_sem])
  have y4 := keeps hb (p := ⟨w.heap.size + 1, 4, none⟩) (v := .int .i64 d2) (by simp [go_sem])
  have y5 := keeps hb (p := ⟨w.heap.size + 1, 5, none⟩) (v := v2) (by simp [go_sem])
  have lW1 : w.heap.size + 1 < w1.heap.size := block_of_cell y5
  have lW0 : w.heap.size < w1.heap.size := by omega
  have HQ2 := Lib.hid (((HR2.out.alloc_ (.cells #[.string s1, .int .i64 p1, .int .i64 f1, .int .i64 n1, .int .i64 d1, v1] 30)).alloc_ (.cells #[.string s2, .int .i64 p2, .int .i64 f2, .int .i64 n2, .int .i64 d2, v2] 30)).later hb)
  clear hb
  go_wp2_with fail
  refine (ValidRadio_any _ s2 IS2.out p2 f2 n2 d2 _ m2 q2 HQ2.out).mono ?_
  rintro e w2 ⟨he, hb⟩
  rw [HE2.out] at he
  subst he
  have H2 := Lib.hid (show Below w.heap.size w w2 by repeat (first | (with_reducible exact Below.refl _ _) | (with_reducible assumption) | ((with_reducible refine bl_alloc ?_ _ ?_); (focus ((first | omega | (simp <;> omega)); done))) | ((with_reducible refine bl_set ?_ _ ?_); (focus ((first | omega | (simp <;> omega)); done))) | (with_reducible refine below_drewN ?_ _) | (with_reducible refine Below.drew ?_) | ((with_reducible refine bl_trans ?_ hb ?_); (focus ((first | omega | (simp <;> omega)); done))) | ((with_reducible refine bl_trans ?_ H1.out ?_); (focus ((first | omega | (simp <;> omega)); done)))))
  have a1 := keeps hb x1
  have a2 := keeps hb x2
  have b0 := keeps hb y0
  have b1 := keeps hb y1
  have b2 := keeps hb y2
  have b3 := keeps hb y3
  have b4 := keeps hb y4
  have b5 := keeps hb y5
  have lZ1 : w.heap.size + 1 < w2.heap.size := block_of_cell b5
  have lZ0 : w.heap.size < w2.heap.size := by omega
  clear hb x0 y0 x1 y1 x2 y2 x3 y3 x4 y4 x5 y5 lW1 lW0
  go_wp2_with fail
  all_goals go_ret2
  all_goals exact ⟨rfl, by repeat (first | (with_reducible exact Below.refl _ _) | (with_reducible assumption) | ((with_reducible refine bl_alloc ?_ _ ?_); (focus ((first | omega | (simp <;> omega)); done))) | ((with_reducible refine bl_set ?_ _ ?_); (focus ((first | omega | (simp <;> omega)); done))) | (with_reducible refine below_drewN ?_ _) | (with_reducible refine Below.drew ?_) | ((with_reducible refine bl_trans ?_ H2.out ?_); (focus ((first | omega | (simp <;> omega)); done))))⟩
set_option maxRecDepth 20000 in
set_option maxHeartbeats 4000000 in
theorem impl_g (w : World) (hT : PowTab w) (s1 : ByteArray) (is1 : s1.size ≤ maxLen) (p1 : Int) (ip1 : In64 p1) (f1 : Int) (jf1 : In64 f1) (n1 : Int) (jn1 : In64 n1) (d1 : Int) (jd1 : In64 d1) (v1 : Value) (m1 : List (Int × Int)) (q1 : Nat) (hr1 : RowM 57 w q1 v1 m1) (im1 : ∀ a ∈ m1, In64 a.1 ∧ In64 a.2) (g : Int) (ig : In64 g) (s2 : ByteArray) (is2 : s2.size ≤ maxLen) (p2 : Int) (ip2 : In64 p2) (f2 : Int) (jf2 : In64 f2) (n2 : Int) (jn2 : In64 n2) (d2 : Int) (jd2 : In64 d2) (v2 : Value) (m2 : List (Int × Int)) (q2 : Nat) (hr2 : RowM 57 w q2 v2 m2) (im2 : ∀ a ∈ m2, In64 a.1 ∧ In64 a.2) (t : Int) (it : In64 t) (k : Int) (ik : In64 k) (hv1 : radB s1 p1 f1 n1 d1 m1 = true) (hv : radB s2 p2 f2 n2 d2 m2 = true) (hg : ¬ (-60000 ≤ g ∧ g ≤ 60000)) :
    Calls Tryd.prog 14 #[.agg #[.string s1, .int .i64 p1, .int .i64 f1, .int .i64 n1, .int .i64 d1, v1], .int .i64 g, .agg #[.string s2, .int .i64 p2, .int .i64 f2, .int .i64 n2, .int .i64 d2, v2], .int .i64 t, .int .i64 k] w fun e w' => e = .returned (.tuple #[.int .i64 (greatM s1 p1 f1 n1 d1 m1 g s2 p2 f2 n2 d2 m2 t k).1, .int .i64 (greatM s1 p1 f1 n1 d1 m1 g s2 p2 f2 n2 d2 m2 t k).2]) ∧ Below w.heap.size w w' := by
  have IS1 := Lib.hid is1
  have IS2 := Lib.hid is2
  have HR1 := Lib.hid hr1
  have HR2 := Lib.hid hr2
  have hf2 := hr2.forms
  obtain ⟨jk0, jk1⟩ := ik
  clear is1 is2 hr1 hr2 im1 im2 ip1 jf1 jn1 jd1 ip2 jf2 jn2 jd2
  have HT := Lib.hid hT
  clear hT
  obtain ⟨_, ⟨⟨pa, pb⟩, ⟨fa, fb⟩, ⟨na, nb⟩, ⟨da, db⟩, ma, mb⟩, hm⟩ := rad_parts hv
  obtain ⟨_, ⟨⟨pc, pd⟩, ⟨fc, fd⟩, _, _, _, _⟩, _⟩ := rad_parts hv1
  rcases hf2 with ⟨_, h0⟩ | ⟨gb, cb, rfl, _, lb, hc, _⟩
  · rw [h0] at ma; simp at ma
  rcases in_cases g (-60000) 60000 with ⟨t0, u0⟩ | t0 | ⟨t0, u0⟩
  · exact absurd ⟨t0, u0⟩ hg
  · rw [great_out hv1 hv (fun h => hg h.1)]
    clear hg
    have HE1 := Lib.hid hv1
    have HE2 := Lib.hid hv
    clear hv hv1 hm hc
    obtain ⟨m, hmm⟩ : ∃ m, m = m2.length := ⟨_, rfl⟩
    rw [← hmm] at HR2 ma mb 
    rw [← hmm]
    clear hmm
    go_enter Tryd.func14, Tryd.ntmps14
    go_wp2_with fail
    refine (ValidRadio_any _ s1 IS1.out p1 f1 n1 d1 _ m1 q1 ((HR1.out.alloc_ _).alloc_ _)).mono ?_
    rintro e w1 ⟨he, hb⟩
    rw [HE1.out] at he
    subst he
    have H1 := Lib.hid (show Below w.heap.size w w1 by repeat (first | (with_reducible exact Below.refl _ _) | (with_reducible assumption) | ((with_reducible refine bl_alloc ?_ _ ?_); (focus ((first | omega | (simp <;> omega)); done))) | ((with_reducible refine bl_set ?_ _ ?_); (focus ((first | omega | (simp <;> omega)); done))) | (with_reducible refine below_drewN ?_ _) | (with_reducible refine Below.drew ?_) | ((with_reducible refine bl_trans ?_ hb ?_); (focus ((first | omega | (simp <;> omega)); done)))))
    have x0 := keeps hb (p := ⟨w.heap.size, 0, none⟩) (v := .string s1) (by simp [go_sem])
    have x1 := keeps hb (p := ⟨w.heap.size, 1, none⟩) (v := .int .i64 p1) (by simp [go_sem])
    have x2 := keeps hb (p := ⟨w.heap.size, 2, none⟩) (v := .int .i64 f1) (by simp [go_sem])
    have x3 := keeps hb (p := ⟨w.heap.size, 3, none⟩) (v := .int .i64 n1) (by simp [go_sem])
    have x4 := keeps hb (p := ⟨w.heap.size, 4, none⟩) (v := .int .i64 d1) (by simp [go_sem])
    have x5 := keeps hb (p := ⟨w.heap.size, 5, none⟩) (v := v1) (by simp [go_sem])
    have y0 := keeps hb (p := ⟨w.heap.size + 1, 0, none⟩) (v := .string s2) (by simp [go_sem])
    have y1 := keeps hb (p := ⟨w.heap.size + 1, 1, none⟩) (v := .int .i64 p2) (by simp [go_sem])
    have y2 := keeps hb (p := ⟨w.heap.size + 1, 2, none⟩) (v := .int .i64 f2) (by simp [go_sem])
    have y3 := keeps hb (p := ⟨w.heap.size + 1, 3, none⟩) (v := .int .i64 n2) (by simp [go_sem])
    have y4 := keeps hb (p := ⟨w.heap.size + 1, 4, none⟩) (v := .int .i64 d2) (by simp [go_sem])
    have y5 := keeps hb (p := ⟨w.heap.size + 1, 5, none⟩) (v := .slice (some ⟨gb, 0, none⟩) m cb) (by simp [go_sem])
    have lW1 : w.heap.size + 1 < w1.heap.size := block_of_cell y5
    have lW0 : w.heap.size < w1.heap.size := by omega
    have HQ2 := Lib.hid (((HR2.out.alloc_ (.cells #[.string s1, .int .i64 p1, .int .i64 f1, .int .i64 n1, .int .i64 d1, v1] 30)).alloc_ (.cells #[.string s2, .int .i64 p2, .int .i64 f2, .int .i64 n2, .int .i64 d2, .slice (some ⟨gb, 0, none⟩) m cb] 30)).later hb)
    clear hb
    go_wp2_with fail
    refine (ValidRadio_any _ s2 IS2.out p2 f2 n2 d2 _ m2 q2 HQ2.out).mono ?_
    rintro e w2 ⟨he, hb⟩
    rw [HE2.out] at he
    subst he
    have H2 := Lib.hid (show Below w.heap.size w w2 by repeat (first | (with_reducible exact Below.refl _ _) | (with_reducible assumption) | ((with_reducible refine bl_alloc ?_ _ ?_); (focus ((first | omega | (simp <;> omega)); done))) | ((with_reducible refine bl_set ?_ _ ?_); (focus ((first | omega | (simp <;> omega)); done))) | (with_reducible refine below_drewN ?_ _) | (with_reducible refine Below.drew ?_) | ((with_reducible refine bl_trans ?_ hb ?_); (focus ((first | omega | (simp <;> omega)); done))) | ((with_reducible refine bl_trans ?_ H1.out ?_); (focus ((first | omega | (simp <;> omega)); done)))))
    have a1 := keeps hb x1
    have a2 := keeps hb x2
    have b0 := keeps hb y0
    have b1 := keeps hb y1
    have b2 := keeps hb y2
    have b3 := keeps hb y3
    have b4 := keeps hb y4
    have b5 := keeps hb y5
    have lZ1 : w.heap.size + 1 < w2.heap.size := block_of_cell b5
    have lZ0 : w.heap.size < w2.heap.size := by omega
    clear hb x0 y0 x1 y1 x2 y2 x3 y3 x4 y4 x5 y5 lW1 lW0
    go_wp2_with (first | (go_at_call 53; go_in) | (go_at_call 34; go_in) | (go_at_call 30; go_in))
    all_goals go_ret2
    all_goals exact ⟨rfl, by repeat (first | (with_reducible exact Below.refl _ _) | (with_reducible assumption) | ((with_reducible refine bl_alloc ?_ _ ?_); (focus ((first | omega | (simp <;> omega)); done))) | ((with_reducible refine bl_set ?_ _ ?_); (focus ((first | omega | (simp <;> omega)); done))) | (with_reducible refine below_drewN ?_ _) | (with_reducible refine Below.drew ?_) | ((with_reducible refine bl_trans ?_ H2.out ?_); (focus ((first | omega | (simp <;> omega)); done))))⟩
  · rw [great_out hv1 hv (fun h => hg h.1)]
    clear hg
    have HE1 := Lib.hid hv1
    have HE2 := Lib.hid hv
    clear hv hv1 hm hc
    obtain ⟨m, hmm⟩ : ∃ m, m = m2.length := ⟨_, rfl⟩
    rw [← hmm] at HR2 ma mb 
    rw [← hmm]
    clear hmm
    go_enter Tryd.func14, Tryd.ntmps14
    go_wp2_with fail
    refine (ValidRadio_any _ s1 IS1.out p1 f1 n1 d1 _ m1 q1 ((HR1.out.alloc_ _).alloc_ _)).mono ?_
    rintro e w1 ⟨he, hb⟩
    rw [HE1.out] at he
    subst he
    have H1 := Lib.hid (show Below w.heap.size w w1 by repeat (first | (with_reducible exact Below.refl _ _) | (with_reducible assumption) | ((with_reducible refine bl_alloc ?_ _ ?_); (focus ((first | omega | (simp <;> omega)); done))) | ((with_reducible refine bl_set ?_ _ ?_); (focus ((first | omega | (simp <;> omega)); done))) | (with_reducible refine below_drewN ?_ _) | (with_reducible refine Below.drew ?_) | ((with_reducible refine bl_trans ?_ hb ?_); (focus ((first | omega | (simp <;> omega)); done)))))
    have x0 := keeps hb (p := ⟨w.heap.size, 0, none⟩) (v := .string s1) (by simp [go_sem])
    have x1 := keeps hb (p := ⟨w.heap.size, 1, none⟩) (v := .int .i64 p1) (by simp [go_sem])
    have x2 := keeps hb (p := ⟨w.heap.size, 2, none⟩) (v := .int .i64 f1) (by simp [go_sem])
    have x3 := keeps hb (p := ⟨w.heap.size, 3, none⟩) (v := .int .i64 n1) (by simp [go_sem])
    have x4 := keeps hb (p := ⟨w.heap.size, 4, none⟩) (v := .int .i64 d1) (by simp [go_sem])
    have x5 := keeps hb (p := ⟨w.heap.size, 5, none⟩) (v := v1) (by simp [go_sem])
    have y0 := keeps hb (p := ⟨w.heap.size + 1, 0, none⟩) (v := .string s2) (by simp [go_sem])
    have y1 := keeps hb (p := ⟨w.heap.size + 1, 1, none⟩) (v := .int .i64 p2) (by simp [go_sem])
    have y2 := keeps hb (p := ⟨w.heap.size + 1, 2, none⟩) (v := .int .i64 f2) (by simp [go_sem])
    have y3 := keeps hb (p := ⟨w.heap.size + 1, 3, none⟩) (v := .int .i64 n2) (by simp [go_sem])
    have y4 := keeps hb (p := ⟨w.heap.size + 1, 4, none⟩) (v := .int .i64 d2) (by simp [go_sem])
    have y5 := keeps hb (p := ⟨w.heap.size + 1, 5, none⟩) (v := .slice (some ⟨gb, 0, none⟩) m cb) (by simp [go_sem])
    have lW1 : w.heap.size + 1 < w1.heap.size := block_of_cell y5
    have lW0 : w.heap.size < w1.heap.size := by omega
    have HQ2 := Lib.hid (((HR2.out.alloc_ (.cells #[.string s1, .int .i64 p1, .int .i64 f1, .int .i64 n1, .int .i64 d1, v1] 30)).alloc_ (.cells #[.string s2, .int .i64 p2, .int .i64 f2, .int .i64 n2, .int .i64 d2, .slice (some ⟨gb, 0, none⟩) m cb] 30)).later hb)
    clear hb
    go_wp2_with fail
    refine (ValidRadio_any _ s2 IS2.out p2 f2 n2 d2 _ m2 q2 HQ2.out).mono ?_
    rintro e w2 ⟨he, hb⟩
    rw [HE2.out] at he
    subst he
    have H2 := Lib.hid (show Below w.heap.size w w2 by repeat (first | (with_reducible exact Below.refl _ _) | (with_reducible assumption) | ((with_reducible refine bl_alloc ?_ _ ?_); (focus ((first | omega | (simp <;> omega)); done))) | ((with_reducible refine bl_set ?_ _ ?_); (focus ((first | omega | (simp <;> omega)); done))) | (with_reducible refine below_drewN ?_ _) | (with_reducible refine Below.drew ?_) | ((with_reducible refine bl_trans ?_ hb ?_); (focus ((first | omega | (simp <;> omega)); done))) | ((with_reducible refine bl_trans ?_ H1.out ?_); (focus ((first | omega | (simp <;> omega)); done)))))
    have a1 := keeps hb x1
    have a2 := keeps hb x2
    have b0 := keeps hb y0
    have b1 := keeps hb y1
    have b2 := keeps hb y2
    have b3 := keeps hb y3
    have b4 := keeps hb y4
    have b5 := keeps hb y5
    have lZ1 : w.heap.size + 1 < w2.heap.size := block_of_cell b5
    have lZ0 : w.heap.size < w2.heap.size := by omega
    clear hb x0 y0 x1 y1 x2 y2 x3 y3 x4 y4 x5 y5 lW1 lW0
    go_wp2_with (first | (go_at_call 53; go_in) | (go_at_call 34; go_in) | (go_at_call 30; go_in))
    all_goals go_ret2
    all_goals exact ⟨rfl, by repeat (first | (with_reducible exact Below.refl _ _) | (with_reducible assumption) | ((with_reducible refine bl_alloc ?_ _ ?_); (focus ((first | omega | (simp <;> omega)); done))) | ((with_reducible refine bl_set ?_ _ ?_); (focus ((first | omega | (simp <;> omega)); done))) | (with_reducible refine below_drewN ?_ _) | (with_reducible refine Below.drew ?_) | ((with_reducible refine bl_trans ?_ H2.out ?_); (focus ((first | omega | (simp <;> omega)); done))))⟩
set_option maxRecDepth 20000 in
set_option maxHeartbeats 4000000 in
theorem impl_t (w : World) (hT : PowTab w) (s1 : ByteArray) (is1 : s1.size ≤ maxLen) (p1 : Int) (ip1 : In64 p1) (f1 : Int) (jf1 : In64 f1) (n1 : Int) (jn1 : In64 n1) (d1 : Int) (jd1 : In64 d1) (v1 : Value) (m1 : List (Int × Int)) (q1 : Nat) (hr1 : RowM 57 w q1 v1 m1) (im1 : ∀ a ∈ m1, In64 a.1 ∧ In64 a.2) (g : Int) (ig : In64 g) (s2 : ByteArray) (is2 : s2.size ≤ maxLen) (p2 : Int) (ip2 : In64 p2) (f2 : Int) (jf2 : In64 f2) (n2 : Int) (jn2 : In64 n2) (d2 : Int) (jd2 : In64 d2) (v2 : Value) (m2 : List (Int × Int)) (q2 : Nat) (hr2 : RowM 57 w q2 v2 m2) (im2 : ∀ a ∈ m2, In64 a.1 ∧ In64 a.2) (t : Int) (it : In64 t) (k : Int) (ik : In64 k) (hv1 : radB s1 p1 f1 n1 d1 m1 = true) (hv : radB s2 p2 f2 n2 d2 m2 = true) (g0 : -60000 ≤ g) (g1 : g ≤ 60000) (hg : ¬ (-60000 ≤ t ∧ t ≤ 60000)) :
    Calls Tryd.prog 14 #[.agg #[.string s1, .int .i64 p1, .int .i64 f1, .int .i64 n1, .int .i64 d1, v1], .int .i64 g, .agg #[.string s2, .int .i64 p2, .int .i64 f2, .int .i64 n2, .int .i64 d2, v2], .int .i64 t, .int .i64 k] w fun e w' => e = .returned (.tuple #[.int .i64 (greatM s1 p1 f1 n1 d1 m1 g s2 p2 f2 n2 d2 m2 t k).1, .int .i64 (greatM s1 p1 f1 n1 d1 m1 g s2 p2 f2 n2 d2 m2 t k).2]) ∧ Below w.heap.size w w' := by
  have IS1 := Lib.hid is1
  have IS2 := Lib.hid is2
  have HR1 := Lib.hid hr1
  have HR2 := Lib.hid hr2
  have hf2 := hr2.forms
  obtain ⟨jk0, jk1⟩ := ik
  clear is1 is2 hr1 hr2 im1 im2 ip1 jf1 jn1 jd1 ip2 jf2 jn2 jd2
  have HT := Lib.hid hT
  clear hT
  obtain ⟨_, ⟨⟨pa, pb⟩, ⟨fa, fb⟩, ⟨na, nb⟩, ⟨da, db⟩, ma, mb⟩, hm⟩ := rad_parts hv
  obtain ⟨_, ⟨⟨pc, pd⟩, ⟨fc, fd⟩, _, _, _, _⟩, _⟩ := rad_parts hv1
  rcases hf2 with ⟨_, h0⟩ | ⟨gb, cb, rfl, _, lb, hc, _⟩
  · rw [h0] at ma; simp at ma
  rcases in_cases t (-60000) 60000 with ⟨t0, u0⟩ | t0 | ⟨t0, u0⟩
  · exact absurd ⟨t0, u0⟩ hg
  · rw [great_out hv1 hv (fun h => hg h.2.1)]
    clear hg
    have HE1 := Lib.hid hv1
    have HE2 := Lib.hid hv
    clear hv hv1 hm hc
    obtain ⟨m, hmm⟩ : ∃ m, m = m2.length := ⟨_, rfl⟩
    rw [← hmm] at HR2 ma mb 
    rw [← hmm]
    clear hmm
    go_enter Tryd.func14, Tryd.ntmps14
    go_wp2_with fail
    refine (ValidRadio_any _ s1 IS1.out p1 f1 n1 d1 _ m1 q1 ((HR1.out.alloc_ _).alloc_ _)).mono ?_
    rintro e w1 ⟨he, hb⟩
    rw [HE1.out] at he
    subst he
    have H1 := Lib.hid (show Below w.heap.size w w1 by repeat (first | (with_reducible exact Below.refl _ _) | (with_reducible assumption) | ((with_reducible refine bl_alloc ?_ _ ?_); (focus ((first | omega | (simp <;> omega)); done))) | ((with_reducible refine bl_set ?_ _ ?_); (focus ((first | omega | (simp <;> omega)); done))) | (with_reducible refine below_drewN ?_ _) | (with_reducible refine Below.drew ?_) | ((with_reducible refine bl_trans ?_ hb ?_); (focus ((first | omega | (simp <;> omega)); done)))))
    have x0 := keeps hb (p := ⟨w.heap.size, 0, none⟩) (v := .string s1) (by simp [go_sem])
    have x1 := keeps hb (p := ⟨w.heap.size, 1, none⟩) (v := .int .i64 p1) (by simp [go_sem])
    have x2 := keeps hb (p := ⟨w.heap.size, 2, none⟩) (v := .int .i64 f1) (by simp [go_sem])
    have x3 := keeps hb (p := ⟨w.heap.size, 3, none⟩) (v := .int .i64 n1) (by simp [go_sem])
    have x4 := keeps hb (p := ⟨w.heap.size, 4, none⟩) (v := .int .i64 d1) (by simp [go_sem])
    have x5 := keeps hb (p := ⟨w.heap.size, 5, none⟩) (v := v1) (by simp [go_sem])
    have y0 := keeps hb (p := ⟨w.heap.size + 1, 0, none⟩) (v := .string s2) (by simp [go_sem])
    have y1 := keeps hb (p := ⟨w.heap.size + 1, 1, none⟩) (v := .int .i64 p2) (by simp [go_sem])
    have y2 := keeps hb (p := ⟨w.heap.size + 1, 2, none⟩) (v := .int .i64 f2) (by simp [go_sem])
    have y3 := keeps hb (p := ⟨w.heap.size + 1, 3, none⟩) (v := .int .i64 n2) (by simp [go_sem])
    have y4 := keeps hb (p := ⟨w.heap.size + 1, 4, none⟩) (v := .int .i64 d2) (by simp [go_sem])
    have y5 := keeps hb (p := ⟨w.heap.size + 1, 5, none⟩) (v := .slice (some ⟨gb, 0, none⟩) m cb) (by simp [go_sem])
    have lW1 : w.heap.size + 1 < w1.heap.size := block_of_cell y5
    have lW0 : w.heap.size < w1.heap.size := by omega
    have HQ2 := Lib.hid (((HR2.out.alloc_ (.cells #[.string s1, .int .i64 p1, .int .i64 f1, .int .i64 n1, .int .i64 d1, v1] 30)).alloc_ (.cells #[.string s2, .int .i64 p2, .int .i64 f2, .int .i64 n2, .int .i64 d2, .slice (some ⟨gb, 0, none⟩) m cb] 30)).later hb)
    clear hb
    go_wp2_with fail
    refine (ValidRadio_any _ s2 IS2.out p2 f2 n2 d2 _ m2 q2 HQ2.out).mono ?_
    rintro e w2 ⟨he, hb⟩
    rw [HE2.out] at he
    subst he
    have H2 := Lib.hid (show Below w.heap.size w w2 by repeat (first | (with_reducible exact Below.refl _ _) | (with_reducible assumption) | ((with_reducible refine bl_alloc ?_ _ ?_); (focus ((first | omega | (simp <;> omega)); done))) | ((with_reducible refine bl_set ?_ _ ?_); (focus ((first | omega | (simp <;> omega)); done))) | (with_reducible refine below_drewN ?_ _) | (with_reducible refine Below.drew ?_) | ((with_reducible refine bl_trans ?_ hb ?_); (focus ((first | omega | (simp <;> omega)); done))) | ((with_reducible refine bl_trans ?_ H1.out ?_); (focus ((first | omega | (simp <;> omega)); done)))))
    have a1 := keeps hb x1
    have a2 := keeps hb x2
    have b0 := keeps hb y0
    have b1 := keeps hb y1
    have b2 := keeps hb y2
    have b3 := keeps hb y3
    have b4 := keeps hb y4
    have b5 := keeps hb y5
    have lZ1 : w.heap.size + 1 < w2.heap.size := block_of_cell b5
    have lZ0 : w.heap.size < w2.heap.size := by omega
    clear hb x0 y0 x1 y1 x2 y2 x3 y3 x4 y4 x5 y5 lW1 lW0
    go_wp2_with (first | (go_at_call 53; go_in) | (go_at_call 34; go_in) | (go_at_call 30; go_in))
    all_goals go_ret2
    all_goals exact ⟨rfl, by repeat (first | (with_reducible exact Below.refl _ _) | (with_reducible assumption) | ((with_reducible refine bl_alloc ?_ _ ?_); (focus ((first | omega | (simp <;> omega)); done))) | ((with_reducible refine bl_set ?_ _ ?_); (focus ((first | omega | (simp <;> omega)); done))) | (with_reducible refine below_drewN ?_ _) | (with_reducible refine Below.drew ?_) | ((with_reducible refine bl_trans ?_ H2.out ?_); (focus ((first | omega | (simp <;> omega)); done))))⟩
  · rw [great_out hv1 hv (fun h => hg h.2.1)]
    clear hg
    have HE1 := Lib.hid hv1
    have HE2 := Lib.hid hv
    clear hv hv1 hm hc
    obtain ⟨m, hmm⟩ : ∃ m, m = m2.length := ⟨_, rfl⟩
    rw [← hmm] at HR2 ma mb 
    rw [← hmm]
    clear hmm
    go_enter Tryd.func14, Tryd.ntmps14
    go_wp2_with fail
    refine (ValidRadio_any _ s1 IS1.out p1 f1 n1 d1 _ m1 q1 ((HR1.out.alloc_ _).alloc_ _)).mono ?_
    rintro e w1 ⟨he, hb⟩
    rw [HE1.out] at he
    subst he
    have H1 := Lib.hid (show Below w.heap.size w w1 by repeat (first | (with_reducible exact Below.refl _ _) | (with_reducible assumption) | ((with_reducible refine bl_alloc ?_ _ ?_); (focus ((first | omega | (simp <;> omega)); done))) | ((with_reducible refine bl_set ?_ _ ?_); (focus ((first | omega | (simp <;> omega)); done))) | (with_reducible refine below_drewN ?_ _) | (with_reducible refine Below.drew ?_) | ((with_reducible refine bl_trans ?_ hb ?_); (focus ((first | omega | (simp <;> omega)); done)))))
    have x0 := keeps hb (p := ⟨w.heap.size, 0, none⟩) (v := .string s1) (by simp [go_sem])
    have x1 := keeps hb (p := ⟨w.heap.size, 1, none⟩) (v := .int .i64 p1) (by simp [go_sem])
    have x2 := keeps hb (p := ⟨w.heap.size, 2, none⟩) (v := .int .i64 f1) (by simp [go_sem])
    have x3 := keeps hb (p := ⟨w.heap.size, 3, none⟩) (v := .int .i64 n1) (by simp [go_sem])
    have x4 := keeps hb (p := ⟨w.heap.size, 4, none⟩) (v := .int .i64 d1) (by simp [go_sem])
    have x5 := keeps hb (p := ⟨w.heap.size, 5, none⟩) (v := v1) (by simp [go_sem])
    have y0 := keeps hb (p := ⟨w.heap.size + 1, 0, none⟩) (v := .string s2) (by simp [go_sem])
    have y1 := keeps hb (p := ⟨w.heap.size + 1, 1, none⟩) (v := .int .i64 p2) (by simp [go_sem])
    have y2 := keeps hb (p := ⟨w.heap.size + 1, 2, none⟩) (v := .int .i64 f2) (by simp [go_sem])
    have y3 := keeps hb (p := ⟨w.heap.size + 1, 3, none⟩) (v := .int .i64 n2) (by simp [go_sem])
    have y4 := keeps hb (p := ⟨w.heap.size + 1, 4, none⟩) (v := .int .i64 d2) (by simp [go_sem])
    have y5 := keeps hb (p := ⟨w.heap.size + 1, 5, none⟩) (v := .slice (some ⟨gb, 0, none⟩) m cb) (by simp [go_sem])
    have lW1 : w.heap.size + 1 < w1.heap.size := block_of_cell y5
    have lW0 : w.heap.size < w1.heap.size := by omega
    have HQ2 := Lib.hid (((HR2.out.alloc_ (.cells #[.string s1, .int .i64 p1, .int .i64 f1, .int .i64 n1, .int .i64 d1, v1] 30)).alloc_ (.cells #[.string s2, .int .i64 p2, .int .i64 f2, .int .i64 n2, .int .i64 d2, .slice (some ⟨gb, 0, none⟩) m cb] 30)).later hb)
    clear hb
    go_wp2_with fail
    refine (ValidRadio_any _ s2 IS2.out p2 f2 n2 d2 _ m2 q2 HQ2.out).mono ?_
    rintro e w2 ⟨he, hb⟩
    rw [HE2.out] at he
    subst he
    have H2 := Lib.hid (show Below w.heap.size w w2 by repeat (first | (with_reducible exact Below.refl _ _) | (with_reducible assumption) | ((with_reducible refine bl_alloc ?_ _ ?_); (focus ((first | omega | (simp <;> omega)); done))) | ((with_reducible refine bl_set ?_ _ ?_); (focus ((first | omega | (simp <;> omega)); done))) | (with_reducible refine below_drewN ?_ _) | (with_reducible refine Below.drew ?_) | ((with_reducible refine bl_trans ?_ hb ?_); (focus ((first | omega | (simp <;> omega)); done))) | ((with_reducible refine bl_trans ?_ H1.out ?_); (focus ((first | omega | (simp <;> omega)); done)))))
    have a1 := keeps hb x1
    have a2 := keeps hb x2
    have b0 := keeps hb y0
    have b1 := keeps hb y1
    have b2 := keeps hb y2
    have b3 := keeps hb y3
    have b4 := keeps hb y4
    have b5 := keeps hb y5
    have lZ1 : w.heap.size + 1 < w2.heap.size := block_of_cell b5
    have lZ0 : w.heap.size < w2.heap.size := by omega
    clear hb x0 y0 x1 y1 x2 y2 x3 y3 x4 y4 x5 y5 lW1 lW0
    go_wp2_with (first | (go_at_call 53; go_in) | (go_at_call 34; go_in) | (go_at_call 30; go_in))
    all_goals go_ret2
    all_goals exact ⟨rfl, by repeat (first | (with_reducible exact Below.refl _ _) | (with_reducible assumption) | ((with_reducible refine bl_alloc ?_ _ ?_); (focus ((first | omega | (simp <;> omega)); done))) | ((with_reducible refine bl_set ?_ _ ?_); (focus ((first | omega | (simp <;> omega)); done))) | (with_reducible refine below_drewN ?_ _) | (with_reducible refine Below.drew ?_) | ((with_reducible refine bl_trans ?_ H2.out ?_); (focus ((first | omega | (simp <;> omega)); done))))⟩
set_option maxRecDepth 20000 in
set_option maxHeartbeats 4000000 in
theorem impl_k (w : World) (hT : PowTab w) (s1 : ByteArray) (is1 : s1.size ≤ maxLen) (p1 : Int) (ip1 : In64 p1) (f1 : Int) (jf1 : In64 f1) (n1 : Int) (jn1 : In64 n1) (d1 : Int) (jd1 : In64 d1) (v1 : Value) (m1 : List (Int × Int)) (q1 : Nat) (hr1 : RowM 57 w q1 v1 m1) (im1 : ∀ a ∈ m1, In64 a.1 ∧ In64 a.2) (g : Int) (ig : In64 g) (s2 : ByteArray) (is2 : s2.size ≤ maxLen) (p2 : Int) (ip2 : In64 p2) (f2 : Int) (jf2 : In64 f2) (n2 : Int) (jn2 : In64 n2) (d2 : Int) (jd2 : In64 d2) (v2 : Value) (m2 : List (Int × Int)) (q2 : Nat) (hr2 : RowM 57 w q2 v2 m2) (im2 : ∀ a ∈ m2, In64 a.1 ∧ In64 a.2) (t : Int) (it : In64 t) (k : Int) (ik : In64 k) (hv1 : radB s1 p1 f1 n1 d1 m1 = true) (hv : radB s2 p2 f2 n2 d2 m2 = true) (g0 : -60000 ≤ g) (g1 : g ≤ 60000) (t0 : -60000 ≤ t) (t1 : t ≤ 60000) (hg : ¬ (0 ≤ k ∧ k ≤ (m2.length : Int) - 1)) :
    Calls Tryd.prog 14 #[.agg #[.string s1, .int .i64 p1, .int .i64 f1, .int .i64 n1, .int .i64 d1, v1], .int .i64 g, .agg #[.string s2, .int .i64 p2, .int .i64 f2, .int .i64 n2, .int .i64 d2, v2], .int .i64 t, .int .i64 k] w fun e w' => e = .returned (.tuple #[.int .i64 (greatM s1 p1 f1 n1 d1 m1 g s2 p2 f2 n2 d2 m2 t k).1, .int .i64 (greatM s1 p1 f1 n1 d1 m1 g s2 p2 f2 n2 d2 m2 t k).2]) ∧ Below w.heap.size w w' := by
  have IS1 := Lib.hid is1
  have IS2 := Lib.hid is2
  have HR1 := Lib.hid hr1
  have HR2 := Lib.hid hr2
  have hf2 := hr2.forms
  obtain ⟨jk0, jk1⟩ := ik
  clear is1 is2 hr1 hr2 im1 im2 ip1 jf1 jn1 jd1 ip2 jf2 jn2 jd2
  have HT := Lib.hid hT
  clear hT
  obtain ⟨_, ⟨⟨pa, pb⟩, ⟨fa, fb⟩, ⟨na, nb⟩, ⟨da, db⟩, ma, mb⟩, hm⟩ := rad_parts hv
  obtain ⟨_, ⟨⟨pc, pd⟩, ⟨fc, fd⟩, _, _, _, _⟩, _⟩ := rad_parts hv1
  rcases hf2 with ⟨_, h0⟩ | ⟨gb, cb, rfl, _, lb, hc, _⟩
  · rw [h0] at ma; simp at ma
  rcases in_cases k 0 ((m2.length : Int) - 1) with ⟨r0, u0⟩ | r0 | ⟨r0, u0⟩
  · exact absurd ⟨r0, u0⟩ hg
  · rw [great_out hv1 hv (fun h => hg h.2.2)]
    clear hg
    have HE1 := Lib.hid hv1
    have HE2 := Lib.hid hv
    clear hv hv1 hm hc
    obtain ⟨m, hmm⟩ : ∃ m, m = m2.length := ⟨_, rfl⟩
    rw [← hmm] at HR2 ma mb 
    rw [← hmm]
    clear hmm
    go_enter Tryd.func14, Tryd.ntmps14
    go_wp2_with fail
    refine (ValidRadio_any _ s1 IS1.out p1 f1 n1 d1 _ m1 q1 ((HR1.out.alloc_ _).alloc_ _)).mono ?_
    rintro e w1 ⟨he, hb⟩
    rw [HE1.out] at he
    subst he
    have H1 := Lib.hid (show Below w.heap.size w w1 by repeat (first | (with_reducible exact Below.refl _ _) | (with_reducible assumption) | ((with_reducible refine bl_alloc ?_ _ ?_); (focus ((first | omega | (simp <;> omega)); done))) | ((with_reducible refine bl_set ?_ _ ?_); (focus ((first | omega | (simp <;> omega)); done))) | (with_reducible refine below_drewN ?_ _) | (with_reducible refine Below.drew ?_) | ((with_reducible refine bl_trans ?_ hb ?_); (focus ((first | omega | (simp <;> omega)); done)))))
    have x0 := keeps hb (p := ⟨w.heap.size, 0, none⟩) (v := .string s1) (by simp [go_sem])
    have x1 := keeps hb (p := ⟨w.heap.size, 1, none⟩) (v := .int .i64 p1) (by simp [go_sem])
    have x2 := keeps hb (p := ⟨w.heap.size, 2, none⟩) (v := .int .i64 f1) (by simp [go_sem])
    have x3 := keeps hb (p := ⟨w.heap.size, 3, none⟩) (v := .int .i64 n1) (by simp [go_sem])
    have x4 := keeps hb (p := ⟨w.heap.size, 4, none⟩) (v := .int .i64 d1) (by simp [go_sem])
    have x5 := keeps hb (p := ⟨w.heap.size, 5, none⟩) (v := v1) (by simp [go_sem])
    have y0 := keeps hb (p := ⟨w.heap.size + 1, 0, none⟩) (v := .string s2) (by simp [go_sem])
    have y1 := keeps hb (p := ⟨w.heap.size + 1, 1, none⟩) (v := .int .i64 p2) (by simp [go_sem])
    have y2 := keeps hb (p := ⟨w.heap.size + 1, 2, none⟩) (v := .int .i64 f2) (by simp [go_sem])
    have y3 := keeps hb (p := ⟨w.heap.size + 1, 3, none⟩) (v := .int .i64 n2) (by simp [go_sem])
    have y4 := keeps hb (p := ⟨w.heap.size + 1, 4, none⟩) (v := .int .i64 d2) (by simp [go_sem])
    have y5 := keeps hb (p := ⟨w.heap.size + 1, 5, none⟩) (v := .slice (some ⟨gb, 0, none⟩) m cb) (by simp [go_sem])
    have lW1 : w.heap.size + 1 < w1.heap.size := block_of_cell y5
    have lW0 : w.heap.size < w1.heap.size := by omega
    have HQ2 := Lib.hid (((HR2.out.alloc_ (.cells #[.string s1, .int .i64 p1, .int .i64 f1, .int .i64 n1, .int .i64 d1, v1] 30)).alloc_ (.cells #[.string s2, .int .i64 p2, .int .i64 f2, .int .i64 n2, .int .i64 d2, .slice (some ⟨gb, 0, none⟩) m cb] 30)).later hb)
    clear hb
    go_wp2_with fail
    refine (ValidRadio_any _ s2 IS2.out p2 f2 n2 d2 _ m2 q2 HQ2.out).mono ?_
    rintro e w2 ⟨he, hb⟩
    rw [HE2.out] at he
    subst he
    have H2 := Lib.hid (show Below w.heap.size w w2 by repeat (first | (with_reducible exact Below.refl _ _) | (with_reducible assumption) | ((with_reducible refine bl_alloc ?_ _ ?_); (focus ((first | omega | (simp <;> omega)); done))) | ((with_reducible refine bl_set ?_ _ ?_); (focus ((first | omega | (simp <;> omega)); done))) | (with_reducible refine below_drewN ?_ _) | (with_reducible refine Below.drew ?_) | ((with_reducible refine bl_trans ?_ hb ?_); (focus ((first | omega | (simp <;> omega)); done))) | ((with_reducible refine bl_trans ?_ H1.out ?_); (focus ((first | omega | (simp <;> omega)); done)))))
    have a1 := keeps hb x1
    have a2 := keeps hb x2
    have b0 := keeps hb y0
    have b1 := keeps hb y1
    have b2 := keeps hb y2
    have b3 := keeps hb y3
    have b4 := keeps hb y4
    have b5 := keeps hb y5
    have lZ1 : w.heap.size + 1 < w2.heap.size := block_of_cell b5
    have lZ0 : w.heap.size < w2.heap.size := by omega
    clear hb x0 y0 x1 y1 x2 y2 x3 y3 x4 y4 x5 y5 lW1 lW0
    go_wp2_with (first | (go_at_call 53; go_in) | (go_at_call 34; go_in) | (go_at_call 30; go_in))
    all_goals go_ret2
    all_goals exact ⟨rfl, by repeat (first | (with_reducible exact Below.refl _ _) | (with_reducible assumption) | ((with_reducible refine bl_alloc ?_ _ ?_); (focus ((first | omega | (simp <;> omega)); done))) | ((with_reducible refine bl_set ?_ _ ?_); (focus ((first | omega | (simp <;> omega)); done))) | (with_reducible refine below_drewN ?_ _) | (with_reducible refine Below.drew ?_) | ((with_reducible refine bl_trans ?_ H2.out ?_); (focus ((first | omega | (simp <;> omega)); done))))⟩
  · rw [great_out hv1 hv (fun h => hg h.2.2)]
    clear hg
    have HE1 := Lib.hid hv1
    have HE2 := Lib.hid hv
    clear hv hv1 hm hc
    obtain ⟨m, hmm⟩ : ∃ m, m = m2.length := ⟨_, rfl⟩
    rw [← hmm] at HR2 ma mb u0
    rw [← hmm]
    clear hmm
    go_enter Tryd.func14, Tryd.ntmps14
    go_wp2_with fail
    refine (ValidRadio_any _ s1 IS1.out p1 f1 n1 d1 _ m1 q1 ((HR1.out.alloc_ _).alloc_ _)).mono ?_
    rintro e w1 ⟨he, hb⟩
    rw [HE1.out] at he
    subst he
    have H1 := Lib.hid (show Below w.heap.size w w1 by repeat (first | (with_reducible exact Below.refl _ _) | (with_reducible assumption) | ((with_reducible refine bl_alloc ?_ _ ?_); (focus ((first | omega | (simp <;> omega)); done))) | ((with_reducible refine bl_set ?_ _ ?_); (focus ((first | omega | (simp <;> omega)); done))) | (with_reducible refine below_drewN ?_ _) | (with_reducible refine Below.drew ?_) | ((with_reducible refine bl_trans ?_ hb ?_); (focus ((first | omega | (simp <;> omega)); done)))))
    have x0 := keeps hb (p := ⟨w.heap.size, 0, none⟩) (v := .string s1) (by simp [go_sem])
    have x1 := keeps hb (p := ⟨w.heap.size, 1, none⟩) (v := .int .i64 p1) (by simp [go_sem])
    have x2 := keeps hb (p := ⟨w.heap.size, 2, none⟩) (v := .int .i64 f1) (by simp [go_sem])
    have x3 := keeps hb (p := ⟨w.heap.size, 3, none⟩) (v := .int .i64 n1) (by simp [go_sem])
    have x4 := keeps hb (p := ⟨w.heap.size, 4, none⟩) (v := .int .i64 d1) (by simp [go_sem])
    have x5 := keeps hb (p := ⟨w.heap.size, 5, none⟩) (v := v1) (by simp [go_sem])
    have y0 := keeps hb (p := ⟨w.heap.size + 1, 0, none⟩) (v := .string s2) (by simp [go_sem])
    have y1 := keeps hb (p := ⟨w.heap.size + 1, 1, none⟩) (v := .int .i64 p2) (by simp [go_sem])
    have y2 := keeps hb (p := ⟨w.heap.size + 1, 2, none⟩) (v := .int .i64 f2) (by simp [go_sem])
    have y3 := keeps hb (p := ⟨w.heap.size + 1, 3, none⟩) (v := .int .i64 n2) (by simp [go_sem])
    have y4 := keeps hb (p := ⟨w.heap.size + 1, 4, none⟩) (v := .int .i64 d2) (by simp [go_sem])
    have y5 := keeps hb (p := ⟨w.heap.size + 1, 5, none⟩) (v := .slice (some ⟨gb, 0, none⟩) m cb) (by simp [go_sem])
    have lW1 : w.heap.size + 1 < w1.heap.size := block_of_cell y5
    have lW0 : w.heap.size < w1.heap.size := by omega
    have HQ2 := Lib.hid (((HR2.out.alloc_ (.cells #[.string s1, .int .i64 p1, .int .i64 f1, .int .i64 n1, .int .i64 d1, v1] 30)).alloc_ (.cells #[.string s2, .int .i64 p2, .int .i64 f2, .int .i64 n2, .int .i64 d2, .slice (some ⟨gb, 0, none⟩) m cb] 30)).later hb)
    clear hb
    go_wp2_with fail
    refine (ValidRadio_any _ s2 IS2.out p2 f2 n2 d2 _ m2 q2 HQ2.out).mono ?_
    rintro e w2 ⟨he, hb⟩
    rw [HE2.out] at he
    subst he
    have H2 := Lib.hid (show Below w.heap.size w w2 by repeat (first | (with_reducible exact Below.refl _ _) | (with_reducible assumption) | ((with_reducible refine bl_alloc ?_ _ ?_); (focus ((first | omega | (simp <;> omega)); done))) | ((with_reducible refine bl_set ?_ _ ?_); (focus ((first | omega | (simp <;> omega)); done))) | (with_reducible refine below_drewN ?_ _) | (with_reducible refine Below.drew ?_) | ((with_reducible refine bl_trans ?_ hb ?_); (focus ((first | omega | (simp <;> omega)); done))) | ((with_reducible refine bl_trans ?_ H1.out ?_); (focus ((first | omega | (simp <;> omega)); done)))))
    have a1 := keeps hb x1
    have a2 := keeps hb x2
    have b0 := keeps hb y0
    have b1 := keeps hb y1
    have b2 := keeps hb y2
    have b3 := keeps hb y3
    have b4 := keeps hb y4
    have b5 := keeps hb y5
    have lZ1 : w.heap.size + 1 < w2.heap.size := block_of_cell b5
    have lZ0 : w.heap.size < w2.heap.size := by omega
    clear hb x0 y0 x1 y1 x2 y2 x3 y3 x4 y4 x5 y5 lW1 lW0
    go_wp2_with (first | (go_at_call 53; go_in) | (go_at_call 34; go_in) | (go_at_call 30; go_in))
    all_goals go_ret2
    all_goals exact ⟨rfl, by repeat (first | (with_reducible exact Below.refl _ _) | (with_reducible assumption) | ((with_reducible refine bl_alloc ?_ _ ?_); (focus ((first | omega | (simp <;> omega)); done))) | ((with_reducible refine bl_set ?_ _ ?_); (focus ((first | omega | (simp <;> omega)); done))) | (with_reducible refine below_drewN ?_ _) | (with_reducible refine Below.drew ?_) | ((with_reducible refine bl_trans ?_ H2.out ?_); (focus ((first | omega | (simp <;> omega)); done))))⟩
set_option maxRecDepth 20000 in
set_option maxHeartbeats 4000000 in
theorem impl_yes (w : World) (hT : PowTab w) (s1 : ByteArray) (is1 : s1.size ≤ maxLen) (p1 : Int) (ip1 : In64 p1) (f1 : Int) (jf1 : In64 f1) (n1 : Int) (jn1 : In64 n1) (d1 : Int) (jd1 : In64 d1) (v1 : Value) (m1 : List (Int × Int)) (q1 : Nat) (hr1 : RowM 57 w q1 v1 m1) (im1 : ∀ a ∈ m1, In64 a.1 ∧ In64 a.2) (g : Int) (ig : In64 g) (s2 : ByteArray) (is2 : s2.size ≤ maxLen) (p2 : Int) (ip2 : In64 p2) (f2 : Int) (jf2 : In64 f2) (n2 : Int) (jn2 : In64 n2) (d2 : Int) (jd2 : In64 d2) (v2 : Value) (m2 : List (Int × Int)) (q2 : Nat) (hr2 : RowM 57 w q2 v2 m2) (im2 : ∀ a ∈ m2, In64 a.1 ∧ In64 a.2) (t : Int) (it : In64 t) (k : Int) (ik : In64 k) (hv1 : radB s1 p1 f1 n1 d1 m1 = true) (hv : radB s2 p2 f2 n2 d2 m2 = true) (g0 : -60000 ≤ g) (g1 : g ≤ 60000) (t0 : -60000 ≤ t) (t1 : t ≤ 60000) (k0 : 0 ≤ k) (k1 : k ≤ (m2.length : Int) - 1) (hX : 0 ≤ greatX p1 f1 g t (leastV m2 k.toNat f2 d2 n2)) :
    Calls Tryd.prog 14 #[.agg #[.string s1, .int .i64 p1, .int .i64 f1, .int .i64 n1, .int .i64 d1, v1], .int .i64 g, .agg #[.string s2, .int .i64 p2, .int .i64 f2, .int .i64 n2, .int .i64 d2, v2], .int .i64 t, .int .i64 k] w fun e w' => e = .returned (.tuple #[.int .i64 (greatM s1 p1 f1 n1 d1 m1 g s2 p2 f2 n2 d2 m2 t k).1, .int .i64 (greatM s1 p1 f1 n1 d1 m1 g s2 p2 f2 n2 d2 m2 t k).2]) ∧ Below w.heap.size w w' := by
  have IS1 := Lib.hid is1
  have IS2 := Lib.hid is2
  have HR1 := Lib.hid hr1
  have HR2 := Lib.hid hr2
  have hf2 := hr2.forms
  obtain ⟨jk0, jk1⟩ := ik
  clear is1 is2 hr1 hr2 im1 im2 ip1 jf1 jn1 jd1 ip2 jf2 jn2 jd2
  have HT := Lib.hid hT
  clear hT
  obtain ⟨_, ⟨⟨pa, pb⟩, ⟨fa, fb⟩, ⟨na, nb⟩, ⟨da, db⟩, ma, mb⟩, hm⟩ := rad_parts hv
  obtain ⟨_, ⟨⟨pc, pd⟩, ⟨fc, fd⟩, _, _, _, _⟩, _⟩ := rad_parts hv1
  rcases hf2 with ⟨_, h0⟩ | ⟨gb, cb, rfl, _, lb, hc, _⟩
  · rw [h0] at ma; simp at ma
  obtain ⟨j, rfl⟩ : ∃ j : Nat, k = j := ⟨k.toNat, by omega⟩
  rw [Int.toNat_natCast] at hX
  have hj : j < m2.length := by omega
  obtain ⟨⟨e0, e1⟩, _, _⟩ := hm j hj
  obtain ⟨l0, l1⟩ := least_bd (f := f2) (wd := d2) (n := n2) e0 e1 db na nb fa fb
  obtain ⟨K, hK⟩ : ∃ K, K = leastV m2 j f2 d2 n2 := ⟨_, rfl⟩
  rw [← hK] at l0 l1 hX
  have hR : greatM s1 p1 f1 n1 d1 m1 g s2 p2 f2 n2 d2 m2 t (j : Int) = (p1 - f1 + g + t - K, 0) := by rw [great_yes hv1 hv ⟨⟨g0, g1⟩, ⟨t0, t1⟩, k0, k1⟩ (by rw [Int.toNat_natCast, ← hK]; exact hX), Int.toNat_natCast, ← hK]; rfl
  unfold greatX at hX
  rw [hR]
  have HK := Lib.hid hK
  have HE1 := Lib.hid hv1
  have HE2 := Lib.hid hv
  have HC := Lib.hid (fun k hk => (hc k hk).1)
  clear hK hR hv hv1 hm hc
  obtain ⟨m, hmm⟩ : ∃ m, m = m2.length := ⟨_, rfl⟩
  rw [← hmm] at HR2 ma mb HC hj k1
  rw [← hmm]
  clear hmm
  have i1 : IntKind.i64.wrap (p1 - f1) = p1 - f1 := by rw [IntKind.wrap_i64]; omega
  have i2 : IntKind.i64.wrap (p1 - f1 + g) = p1 - f1 + g := by rw [IntKind.wrap_i64]; omega
  have i3 : IntKind.i64.wrap (p1 - f1 + g + t) = p1 - f1 + g + t := by rw [IntKind.wrap_i64]; omega
  have i4 : IntKind.i64.wrap (p1 - f1 + g + t - K) = p1 - f1 + g + t - K := by rw [IntKind.wrap_i64]; omega
  have hd1 : decide (0 ≤ p1 - f1 + g + t - K) = true := decide_eq_true hX
  have hd2 : decide (p1 - f1 + g + t - K < 0) = false := decide_eq_false (by omega)
  have hd3 : decide (K ≤ p1 - f1 + g + t) = true := decide_eq_true (by omega)
  go_enter Tryd.func14, Tryd.ntmps14
  go_wp2_with fail
  refine (ValidRadio_any _ s1 IS1.out p1 f1 n1 d1 _ m1 q1 ((HR1.out.alloc_ _).alloc_ _)).mono ?_
  rintro e w1 ⟨he, hb⟩
  rw [HE1.out] at he
  subst he
  have H1 := Lib.hid (show Below w.heap.size w w1 by repeat (first | (with_reducible exact Below.refl _ _) | (with_reducible assumption) | ((with_reducible refine bl_alloc ?_ _ ?_); (focus ((first | omega | (simp <;> omega)); done))) | ((with_reducible refine bl_set ?_ _ ?_); (focus ((first | omega | (simp <;> omega)); done))) | (with_reducible refine below_drewN ?_ _) | (with_reducible refine Below.drew ?_) | ((with_reducible refine bl_trans ?_ hb ?_); (focus ((first | omega | (simp <;> omega)); done)))))
  have x0 := keeps hb (p := ⟨w.heap.size, 0, none⟩) (v := .string s1) (by simp [go_sem])
  have x1 := keeps hb (p := ⟨w.heap.size, 1, none⟩) (v := .int .i64 p1) (by simp [go_sem])
  have x2 := keeps hb (p := ⟨w.heap.size, 2, none⟩) (v := .int .i64 f1) (by simp [go_sem])
  have x3 := keeps hb (p := ⟨w.heap.size, 3, none⟩) (v := .int .i64 n1) (by simp [go_sem])
  have x4 := keeps hb (p := ⟨w.heap.size, 4, none⟩) (v := .int .i64 d1) (by simp [go_sem])
  have x5 := keeps hb (p := ⟨w.heap.size, 5, none⟩) (v := v1) (by simp [go_sem])
  have y0 := keeps hb (p := ⟨w.heap.size + 1, 0, none⟩) (v := .string s2) (by simp [go_sem])
  have y1 := keeps hb (p := ⟨w.heap.size + 1, 1, none⟩) (v := .int .i64 p2) (by simp [go_sem])
  have y2 := keeps hb (p := ⟨w.heap.size + 1, 2, none⟩) (v := .int .i64 f2) (by simp [go_sem])
  have y3 := keeps hb (p := ⟨w.heap.size + 1, 3, none⟩) (v := .int .i64 n2) (by simp [go_sem])
  have y4 := keeps hb (p := ⟨w.heap.size + 1, 4, none⟩) (v := .int .i64 d2) (by simp [go_sem])
  have y5 := keeps hb (p := ⟨w.heap.size + 1, 5, none⟩) (v := .slice (some ⟨gb, 0, none⟩) m cb) (by simp [go_sem])
  have lW1 : w.heap.size + 1 < w1.heap.size := block_of_cell y5
  have lW0 : w.heap.size < w1.heap.size := by omega
  have HQ2 := Lib.hid (((HR2.out.alloc_ (.cells #[.string s1, .int .i64 p1, .int .i64 f1, .int .i64 n1, .int .i64 d1, v1] 30)).alloc_ (.cells #[.string s2, .int .i64 p2, .int .i64 f2, .int .i64 n2, .int .i64 d2, .slice (some ⟨gb, 0, none⟩) m cb] 30)).later hb)
  clear hb
  go_wp2_with fail
  refine (ValidRadio_any _ s2 IS2.out p2 f2 n2 d2 _ m2 q2 HQ2.out).mono ?_
  rintro e w2 ⟨he, hb⟩
  rw [HE2.out] at he
  subst he
  have H2 := Lib.hid (show Below w.heap.size w w2 by repeat (first | (with_reducible exact Below.refl _ _) | (with_reducible assumption) | ((with_reducible refine bl_alloc ?_ _ ?_); (focus ((first | omega | (simp <;> omega)); done))) | ((with_reducible refine bl_set ?_ _ ?_); (focus ((first | omega | (simp <;> omega)); done))) | (with_reducible refine below_drewN ?_ _) | (with_reducible refine Below.drew ?_) | ((with_reducible refine bl_trans ?_ hb ?_); (focus ((first | omega | (simp <;> omega)); done))) | ((with_reducible refine bl_trans ?_ H1.out ?_); (focus ((first | omega | (simp <;> omega)); done)))))
  have a1 := keeps hb x1
  have a2 := keeps hb x2
  have b0 := keeps hb y0
  have b1 := keeps hb y1
  have b2 := keeps hb y2
  have b3 := keeps hb y3
  have b4 := keeps hb y4
  have b5 := keeps hb y5
  have lZ1 : w.heap.size + 1 < w2.heap.size := block_of_cell b5
  have lZ0 : w.heap.size < w2.heap.size := by omega
  clear hb x0 y0 x1 y1 x2 y2 x3 y3 x4 y4 x5 y5 lW1 lW0
  go_wp2_with (first | (go_at_call 53; go_in) | (go_at_call 34; go_in) | (go_at_call 30; go_in))
  have HL : Hid (∀ W : World, Below w.heap.size w W → Calls Tryd.prog 31 #[.agg #[.string s2, .int .i64 p2, .int .i64 f2, .int .i64 n2, .int .i64 d2, .slice (some ⟨gb, 0, none⟩) m cb], .int .i64 j] W fun e w' => e = .returned (.int .i64 K) ∧ Below W.heap.size W w') := fun W hW => by
    rw [HK.out]
    exact leastLevel_any W (PowTab.below HT.out hW) s2 p2 f2 n2 d2 gb cb m m2 (Nat.lt_of_lt_of_le lb hW.size) (fun k hk => (hW.cell (p := ⟨gb, k * 2, none⟩) lb).trans (HC.out k hk)) (by omega) (by omega) da db na nb j hj e0 e1
  go_region_held3 (fun w' => w'.cell? ⟨w.heap.size, 1, none⟩ = some (.int .i64 p1) ∧ w'.cell? ⟨w.heap.size, 2, none⟩ = some (.int .i64 f1) ∧ w'.cell? ⟨w.heap.size + 1, 0, none⟩ = some (.string s2) ∧ w'.cell? ⟨w.heap.size + 1, 1, none⟩ = some (.int .i64 p2) ∧ w'.cell? ⟨w.heap.size + 1, 2, none⟩ = some (.int .i64 f2) ∧ w'.cell? ⟨w.heap.size + 1, 3, none⟩ = some (.int .i64 n2) ∧ w'.cell? ⟨w.heap.size + 1, 4, none⟩ = some (.int .i64 d2) ∧ w'.cell? ⟨w.heap.size + 1, 5, none⟩ = some (.slice (some ⟨gb, 0, none⟩) m cb))
    (first | (refine ⟨?_, ?_, ?_, ?_, ?_, ?_, ?_, ?_⟩ <;> assumption) | (go_split_ands; (refine ⟨?_, ?_, ?_, ?_, ?_, ?_, ?_, ?_⟩ <;> first | assumption | (refine keeps hb ?_; assumption))))
    (first | (go_at_call 31; ((with_reducible refine (HL.out _ (by repeat (first | (with_reducible exact Below.refl _ _) | (with_reducible assumption) | ((with_reducible refine bl_alloc ?_ _ ?_); (focus ((first | omega | (simp <;> omega)); done))) | ((with_reducible refine bl_set ?_ _ ?_); (focus ((first | omega | (simp <;> omega)); done))) | (with_reducible refine below_drewN ?_ _) | (with_reducible refine Below.drew ?_) | ((with_reducible refine bl_trans ?_ H2.out ?_); (focus ((first | omega | (simp <;> omega)); done)))))).mono ?_); rintro e w3 ⟨rfl, hb⟩)))
  have H3 := Lib.hid (show Below w.heap.size w w3 by repeat (first | (with_reducible exact Below.refl _ _) | (with_reducible assumption) | ((with_reducible refine bl_alloc ?_ _ ?_); (focus ((first | omega | (simp <;> omega)); done))) | ((with_reducible refine bl_set ?_ _ ?_); (focus ((first | omega | (simp <;> omega)); done))) | (with_reducible refine below_drewN ?_ _) | (with_reducible refine Below.drew ?_) | ((with_reducible refine bl_trans ?_ hb ?_); (focus ((first | omega | (simp <;> omega)); done))) | ((with_reducible refine bl_trans ?_ H2.out ?_); (focus ((first | omega | (simp <;> omega)); done)))))
  clear hb
  go_wp2_with (go_at_call 35; go_in)
  all_goals go_ret2
  all_goals exact ⟨rfl, H3.out⟩
set_option maxRecDepth 20000 in
set_option maxHeartbeats 4000000 in
theorem impl_none (w : World) (hT : PowTab w) (s1 : ByteArray) (is1 : s1.size ≤ maxLen) (p1 : Int) (ip1 : In64 p1) (f1 : Int) (jf1 : In64 f1) (n1 : Int) (jn1 : In64 n1) (d1 : Int) (jd1 : In64 d1) (v1 : Value) (m1 : List (Int × Int)) (q1 : Nat) (hr1 : RowM 57 w q1 v1 m1) (im1 : ∀ a ∈ m1, In64 a.1 ∧ In64 a.2) (g : Int) (ig : In64 g) (s2 : ByteArray) (is2 : s2.size ≤ maxLen) (p2 : Int) (ip2 : In64 p2) (f2 : Int) (jf2 : In64 f2) (n2 : Int) (jn2 : In64 n2) (d2 : Int) (jd2 : In64 d2) (v2 : Value) (m2 : List (Int × Int)) (q2 : Nat) (hr2 : RowM 57 w q2 v2 m2) (im2 : ∀ a ∈ m2, In64 a.1 ∧ In64 a.2) (t : Int) (it : In64 t) (k : Int) (ik : In64 k) (hv1 : radB s1 p1 f1 n1 d1 m1 = true) (hv : radB s2 p2 f2 n2 d2 m2 = true) (g0 : -60000 ≤ g) (g1 : g ≤ 60000) (t0 : -60000 ≤ t) (t1 : t ≤ 60000) (k0 : 0 ≤ k) (k1 : k ≤ (m2.length : Int) - 1) (hX : ¬ 0 ≤ greatX p1 f1 g t (leastV m2 k.toNat f2 d2 n2)) :
    Calls Tryd.prog 14 #[.agg #[.string s1, .int .i64 p1, .int .i64 f1, .int .i64 n1, .int .i64 d1, v1], .int .i64 g, .agg #[.string s2, .int .i64 p2, .int .i64 f2, .int .i64 n2, .int .i64 d2, v2], .int .i64 t, .int .i64 k] w fun e w' => e = .returned (.tuple #[.int .i64 (greatM s1 p1 f1 n1 d1 m1 g s2 p2 f2 n2 d2 m2 t k).1, .int .i64 (greatM s1 p1 f1 n1 d1 m1 g s2 p2 f2 n2 d2 m2 t k).2]) ∧ Below w.heap.size w w' := by
  have IS1 := Lib.hid is1
  have IS2 := Lib.hid is2
  have HR1 := Lib.hid hr1
  have HR2 := Lib.hid hr2
  have hf2 := hr2.forms
  obtain ⟨jk0, jk1⟩ := ik
  clear is1 is2 hr1 hr2 im1 im2 ip1 jf1 jn1 jd1 ip2 jf2 jn2 jd2
  have HT := Lib.hid hT
  clear hT
  obtain ⟨_, ⟨⟨pa, pb⟩, ⟨fa, fb⟩, ⟨na, nb⟩, ⟨da, db⟩, ma, mb⟩, hm⟩ := rad_parts hv
  obtain ⟨_, ⟨⟨pc, pd⟩, ⟨fc, fd⟩, _, _, _, _⟩, _⟩ := rad_parts hv1
  rcases hf2 with ⟨_, h0⟩ | ⟨gb, cb, rfl, _, lb, hc, _⟩
  · rw [h0] at ma; simp at ma
  obtain ⟨j, rfl⟩ : ∃ j : Nat, k = j := ⟨k.toNat, by omega⟩
  rw [Int.toNat_natCast] at hX
  have hj : j < m2.length := by omega
  obtain ⟨⟨e0, e1⟩, _, _⟩ := hm j hj
  obtain ⟨l0, l1⟩ := least_bd (f := f2) (wd := d2) (n := n2) e0 e1 db na nb fa fb
  obtain ⟨K, hK⟩ : ∃ K, K = leastV m2 j f2 d2 n2 := ⟨_, rfl⟩
  rw [← hK] at l0 l1 hX
  have hR : greatM s1 p1 f1 n1 d1 m1 g s2 p2 f2 n2 d2 m2 t (j : Int) = (0, 3) := great_none hv1 hv ⟨⟨g0, g1⟩, ⟨t0, t1⟩, k0, k1⟩ (by rw [Int.toNat_natCast, ← hK]; exact hX)
  unfold greatX at hX
  rw [hR]
  have HK := Lib.hid hK
  have HE1 := Lib.hid hv1
  have HE2 := Lib.hid hv
  have HC := Lib.hid (fun k hk => (hc k hk).1)
  clear hK hR hv hv1 hm hc
  obtain ⟨m, hmm⟩ : ∃ m, m = m2.length := ⟨_, rfl⟩
  rw [← hmm] at HR2 ma mb HC hj k1
  rw [← hmm]
  clear hmm
  have i1 : IntKind.i64.wrap (p1 - f1) = p1 - f1 := by rw [IntKind.wrap_i64]; omega
  have i2 : IntKind.i64.wrap (p1 - f1 + g) = p1 - f1 + g := by rw [IntKind.wrap_i64]; omega
  have i3 : IntKind.i64.wrap (p1 - f1 + g + t) = p1 - f1 + g + t := by rw [IntKind.wrap_i64]; omega
  have i4 : IntKind.i64.wrap (p1 - f1 + g + t - K) = p1 - f1 + g + t - K := by rw [IntKind.wrap_i64]; omega
  have hd1 : decide (0 ≤ p1 - f1 + g + t - K) = false := decide_eq_false hX
  have hd2 : decide (p1 - f1 + g + t - K < 0) = true := decide_eq_true (by omega)
  have hX2 : p1 - f1 + g + t - K < 0 := by omega
  have hd3 : decide (K ≤ p1 - f1 + g + t) = false := decide_eq_false (by omega)
  go_enter Tryd.func14, Tryd.ntmps14
  go_wp2_with fail
  refine (ValidRadio_any _ s1 IS1.out p1 f1 n1 d1 _ m1 q1 ((HR1.out.alloc_ _).alloc_ _)).mono ?_
  rintro e w1 ⟨he, hb⟩
  rw [HE1.out] at he
  subst he
  have H1 := Lib.hid (show Below w.heap.size w w1 by repeat (first | (with_reducible exact Below.refl _ _) | (with_reducible assumption) | ((with_reducible refine bl_alloc ?_ _ ?_); (focus ((first | omega | (simp <;> omega)); done))) | ((with_reducible refine bl_set ?_ _ ?_); (focus ((first | omega | (simp <;> omega)); done))) | (with_reducible refine below_drewN ?_ _) | (with_reducible refine Below.drew ?_) | ((with_reducible refine bl_trans ?_ hb ?_); (focus ((first | omega | (simp <;> omega)); done)))))
  have x0 := keeps hb (p := ⟨w.heap.size, 0, none⟩) (v := .string s1) (by simp [go_sem])
  have x1 := keeps hb (p := ⟨w.heap.size, 1, none⟩) (v := .int .i64 p1) (by simp [go_sem])
  have x2 := keeps hb (p := ⟨w.heap.size, 2, none⟩) (v := .int .i64 f1) (by simp [go_sem])
  have x3 := keeps hb (p := ⟨w.heap.size, 3, none⟩) (v := .int .i64 n1) (by simp [go_sem])
  have x4 := keeps hb (p := ⟨w.heap.size, 4, none⟩) (v := .int .i64 d1) (by simp [go_sem])
  have x5 := keeps hb (p := ⟨w.heap.size, 5, none⟩) (v := v1) (by simp [go_sem])
  have y0 := keeps hb (p := ⟨w.heap.size + 1, 0, none⟩) (v := .string s2) (by simp [go_sem])
  have y1 := keeps hb (p := ⟨w.heap.size + 1, 1, none⟩) (v := .int .i64 p2) (by simp [go_sem])
  have y2 := keeps hb (p := ⟨w.heap.size + 1, 2, none⟩) (v := .int .i64 f2) (by simp [go_sem])
  have y3 := keeps hb (p := ⟨w.heap.size + 1, 3, none⟩) (v := .int .i64 n2) (by simp [go_sem])
  have y4 := keeps hb (p := ⟨w.heap.size + 1, 4, none⟩) (v := .int .i64 d2) (by simp [go_sem])
  have y5 := keeps hb (p := ⟨w.heap.size + 1, 5, none⟩) (v := .slice (some ⟨gb, 0, none⟩) m cb) (by simp [go_sem])
  have lW1 : w.heap.size + 1 < w1.heap.size := block_of_cell y5
  have lW0 : w.heap.size < w1.heap.size := by omega
  have HQ2 := Lib.hid (((HR2.out.alloc_ (.cells #[.string s1, .int .i64 p1, .int .i64 f1, .int .i64 n1, .int .i64 d1, v1] 30)).alloc_ (.cells #[.string s2, .int .i64 p2, .int .i64 f2, .int .i64 n2, .int .i64 d2, .slice (some ⟨gb, 0, none⟩) m cb] 30)).later hb)
  clear hb
  go_wp2_with fail
  refine (ValidRadio_any _ s2 IS2.out p2 f2 n2 d2 _ m2 q2 HQ2.out).mono ?_
  rintro e w2 ⟨he, hb⟩
  rw [HE2.out] at he
  subst he
  have H2 := Lib.hid (show Below w.heap.size w w2 by repeat (first | (with_reducible exact Below.refl _ _) | (with_reducible assumption) | ((with_reducible refine bl_alloc ?_ _ ?_); (focus ((first | omega | (simp <;> omega)); done))) | ((with_reducible refine bl_set ?_ _ ?_); (focus ((first | omega | (simp <;> omega)); done))) | (with_reducible refine below_drewN ?_ _) | (with_reducible refine Below.drew ?_) | ((with_reducible refine bl_trans ?_ hb ?_); (focus ((first | omega | (simp <;> omega)); done))) | ((with_reducible refine bl_trans ?_ H1.out ?_); (focus ((first | omega | (simp <;> omega)); done)))))
  have a1 := keeps hb x1
  have a2 := keeps hb x2
  have b0 := keeps hb y0
  have b1 := keeps hb y1
  have b2 := keeps hb y2
  have b3 := keeps hb y3
  have b4 := keeps hb y4
  have b5 := keeps hb y5
  have lZ1 : w.heap.size + 1 < w2.heap.size := block_of_cell b5
  have lZ0 : w.heap.size < w2.heap.size := by omega
  clear hb x0 y0 x1 y1 x2 y2 x3 y3 x4 y4 x5 y5 lW1 lW0
  go_wp2_with (first | (go_at_call 53; go_in) | (go_at_call 34; go_in) | (go_at_call 30; go_in))
  have HL : Hid (∀ W : World, Below w.heap.size w W → Calls Tryd.prog 31 #[.agg #[.string s2, .int .i64 p2, .int .i64 f2, .int .i64 n2, .int .i64 d2, .slice (some ⟨gb, 0, none⟩) m cb], .int .i64 j] W fun e w' => e = .returned (.int .i64 K) ∧ Below W.heap.size W w') := fun W hW => by
    rw [HK.out]
    exact leastLevel_any W (PowTab.below HT.out hW) s2 p2 f2 n2 d2 gb cb m m2 (Nat.lt_of_lt_of_le lb hW.size) (fun k hk => (hW.cell (p := ⟨gb, k * 2, none⟩) lb).trans (HC.out k hk)) (by omega) (by omega) da db na nb j hj e0 e1
  go_region_held3 (fun w' => w'.cell? ⟨w.heap.size, 1, none⟩ = some (.int .i64 p1) ∧ w'.cell? ⟨w.heap.size, 2, none⟩ = some (.int .i64 f1) ∧ w'.cell? ⟨w.heap.size + 1, 0, none⟩ = some (.string s2) ∧ w'.cell? ⟨w.heap.size + 1, 1, none⟩ = some (.int .i64 p2) ∧ w'.cell? ⟨w.heap.size + 1, 2, none⟩ = some (.int .i64 f2) ∧ w'.cell? ⟨w.heap.size + 1, 3, none⟩ = some (.int .i64 n2) ∧ w'.cell? ⟨w.heap.size + 1, 4, none⟩ = some (.int .i64 d2) ∧ w'.cell? ⟨w.heap.size + 1, 5, none⟩ = some (.slice (some ⟨gb, 0, none⟩) m cb))
    (first | (refine ⟨?_, ?_, ?_, ?_, ?_, ?_, ?_, ?_⟩ <;> assumption) | (go_split_ands; (refine ⟨?_, ?_, ?_, ?_, ?_, ?_, ?_, ?_⟩ <;> first | assumption | (refine keeps hb ?_; assumption))))
    (first | (go_at_call 31; ((with_reducible refine (HL.out _ (by repeat (first | (with_reducible exact Below.refl _ _) | (with_reducible assumption) | ((with_reducible refine bl_alloc ?_ _ ?_); (focus ((first | omega | (simp <;> omega)); done))) | ((with_reducible refine bl_set ?_ _ ?_); (focus ((first | omega | (simp <;> omega)); done))) | (with_reducible refine below_drewN ?_ _) | (with_reducible refine Below.drew ?_) | ((with_reducible refine bl_trans ?_ H2.out ?_); (focus ((first | omega | (simp <;> omega)); done)))))).mono ?_); rintro e w3 ⟨rfl, hb⟩)))
  have H3 := Lib.hid (show Below w.heap.size w w3 by repeat (first | (with_reducible exact Below.refl _ _) | (with_reducible assumption) | ((with_reducible refine bl_alloc ?_ _ ?_); (focus ((first | omega | (simp <;> omega)); done))) | ((with_reducible refine bl_set ?_ _ ?_); (focus ((first | omega | (simp <;> omega)); done))) | (with_reducible refine below_drewN ?_ _) | (with_reducible refine Below.drew ?_) | ((with_reducible refine bl_trans ?_ hb ?_); (focus ((first | omega | (simp <;> omega)); done))) | ((with_reducible refine bl_trans ?_ H2.out ?_); (focus ((first | omega | (simp <;> omega)); done)))))
  clear hb
  go_wp2_with (go_at_call 35; go_in)
  all_goals go_ret2
  all_goals exact ⟨rfl, H3.out⟩
theorem impl_any (w : World) (hT : PowTab w) (s1 : ByteArray) (is1 : s1.size ≤ maxLen) (p1 : Int) (ip1 : In64 p1) (f1 : Int) (jf1 : In64 f1) (n1 : Int) (jn1 : In64 n1) (d1 : Int) (jd1 : In64 d1) (v1 : Value) (m1 : List (Int × Int)) (q1 : Nat) (hr1 : RowM 57 w q1 v1 m1) (im1 : ∀ a ∈ m1, In64 a.1 ∧ In64 a.2) (g : Int) (ig : In64 g) (s2 : ByteArray) (is2 : s2.size ≤ maxLen) (p2 : Int) (ip2 : In64 p2) (f2 : Int) (jf2 : In64 f2) (n2 : Int) (jn2 : In64 n2) (d2 : Int) (jd2 : In64 d2) (v2 : Value) (m2 : List (Int × Int)) (q2 : Nat) (hr2 : RowM 57 w q2 v2 m2) (im2 : ∀ a ∈ m2, In64 a.1 ∧ In64 a.2) (t : Int) (it : In64 t) (k : Int) (ik : In64 k) :
    Calls Tryd.prog 14 #[.agg #[.string s1, .int .i64 p1, .int .i64 f1, .int .i64 n1, .int .i64 d1, v1], .int .i64 g, .agg #[.string s2, .int .i64 p2, .int .i64 f2, .int .i64 n2, .int .i64 d2, v2], .int .i64 t, .int .i64 k] w fun e w' => e = .returned (.tuple #[.int .i64 (greatM s1 p1 f1 n1 d1 m1 g s2 p2 f2 n2 d2 m2 t k).1, .int .i64 (greatM s1 p1 f1 n1 d1 m1 g s2 p2 f2 n2 d2 m2 t k).2]) ∧ Below w.heap.size w w' := by
  rcases bool_tf (radB s1 p1 f1 n1 d1 m1) with h1 | h1
  rotate_left
  · exact impl_bad1 w hT s1 is1 p1 ip1 f1 jf1 n1 jn1 d1 jd1 v1 m1 q1 hr1 im1 g ig s2 is2 p2 ip2 f2 jf2 n2 jn2 d2 jd2 v2 m2 q2 hr2 im2 t it k ik h1
  rcases bool_tf (radB s2 p2 f2 n2 d2 m2) with h2 | h2
  rotate_left
  · exact impl_bad2 w hT s1 is1 p1 ip1 f1 jf1 n1 jn1 d1 jd1 v1 m1 q1 hr1 im1 g ig s2 is2 p2 ip2 f2 jf2 n2 jn2 d2 jd2 v2 m2 q2 hr2 im2 t it k ik h1 h2
  by_cases hg : -60000 ≤ g ∧ g ≤ 60000
  rotate_left
  · exact impl_g w hT s1 is1 p1 ip1 f1 jf1 n1 jn1 d1 jd1 v1 m1 q1 hr1 im1 g ig s2 is2 p2 ip2 f2 jf2 n2 jn2 d2 jd2 v2 m2 q2 hr2 im2 t it k ik h1 h2 hg
  by_cases ht : -60000 ≤ t ∧ t ≤ 60000
  rotate_left
  · exact impl_t w hT s1 is1 p1 ip1 f1 jf1 n1 jn1 d1 jd1 v1 m1 q1 hr1 im1 g ig s2 is2 p2 ip2 f2 jf2 n2 jn2 d2 jd2 v2 m2 q2 hr2 im2 t it k ik h1 h2 hg.1 hg.2 ht
  by_cases hk : 0 ≤ k ∧ k ≤ (m2.length : Int) - 1
  rotate_left
  · exact impl_k w hT s1 is1 p1 ip1 f1 jf1 n1 jn1 d1 jd1 v1 m1 q1 hr1 im1 g ig s2 is2 p2 ip2 f2 jf2 n2 jn2 d2 jd2 v2 m2 q2 hr2 im2 t it k ik h1 h2 hg.1 hg.2 ht.1 ht.2 hk
  by_cases hX : 0 ≤ greatX p1 f1 g t (leastV m2 k.toNat f2 d2 n2)
  · exact impl_yes w hT s1 is1 p1 ip1 f1 jf1 n1 jn1 d1 jd1 v1 m1 q1 hr1 im1 g ig s2 is2 p2 ip2 f2 jf2 n2 jn2 d2 jd2 v2 m2 q2 hr2 im2 t it k ik h1 h2 hg.1 hg.2 ht.1 ht.2 hk.1 hk.2 hX
  · exact impl_none w hT s1 is1 p1 ip1 f1 jf1 n1 jn1 d1 jd1 v1 m1 q1 hr1 im1 g ig s2 is2 p2 ip2 f2 jf2 n2 jn2 d2 jd2 v2 m2 q2 hr2 im2 t it k ik h1 h2 hg.1 hg.2 ht.1 ht.2 hk.1 hk.2 hX
end Go.Proofs.YtlpjcebpfmhpnaaDoor.ofGreatestLoss
