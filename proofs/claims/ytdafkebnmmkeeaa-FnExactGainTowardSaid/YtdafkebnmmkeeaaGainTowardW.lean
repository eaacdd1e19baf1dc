/-
  The walk of FnExactGainToward: it returns true, and of what was there nothing has turned. The conditions are what its arguments' readings give.
-/
import Derived.Test.YtdafkebnmmkeeaaRows
import Derived.Test.YtdafkebnmmkeeaaLib
import Derived.Test.YtdafkebnmmkeeaaInt
import Derived.Test.YtdafkebnmmkeeaaAll
import Derived.Test.YtdafkebnmmkeeaaNames
import Derived.Test.YtdafkebnmmkeeaaPattern
import Derived.Test.YtdafkebnmmkeeaaAcross
import Derived.Test.YtdafkebnmmkeeaaInts
import Derived.Test.YtdafkebnmmkeeaaAntenna
import Derived.Test.YtdafkebnmmkeeaaWithin
import Derived.Test.YtdafkebnmmkeeaaToward
import Derived.Outline
import Derived.Deep.RegionHeld3
import Derived.Deep.DrawnRows
namespace Go.Proofs.Ytdafkebnmmkeeaa.fnExactGainToward
open Go.RowKit Go.ChangeShapes Go.WideShapes Go.ChangeAt
set_option linter.unusedVariables false
set_option linter.unusedSimpArgs false

attribute [local go_sem ↓] Go.wp_at_zero Go.wp_at_succ
def towM (s : ByteArray) (g : Int) (xs ys : List Int) (az ti be el : Int) : Int × Int := if antB s g xs ys = true then (if 0 ≤ az ∧ az ≤ 359 ∧ 0 ≤ be ∧ be ≤ 359 ∧ -90 ≤ ti ∧ ti ≤ 90 ∧ -90 ≤ el ∧ el ≤ 90 then (towV g xs ys az ti be el, 0) else (0, 2)) else (0, 1)
theorem towM_bad {s : ByteArray} {g : Int} {xs ys : List Int} {az ti be el : Int} (h : antB s g xs ys = false) : towM s g xs ys az ti be el = (0, 1) := if_neg (by rw [h]; decide)
theorem towM_out {s : ByteArray} {g : Int} {xs ys : List Int} {az ti be el : Int} (h : antB s g xs ys = true) (h1 : ¬ (0 ≤ az ∧ az ≤ 359 ∧ 0 ≤ be ∧ be ≤ 359 ∧ -90 ≤ ti ∧ ti ≤ 90 ∧ -90 ≤ el ∧ el ≤ 90)) : towM s g xs ys az ti be el = (0, 2) := by
  unfold towM
  rw [if_pos h, if_neg h1]
theorem towM_yes {s : ByteArray} {g : Int} {xs ys : List Int} {az ti be el : Int} (h : antB s g xs ys = true) (h1 : 0 ≤ az ∧ az ≤ 359 ∧ 0 ≤ be ∧ be ≤ 359 ∧ -90 ≤ ti ∧ ti ≤ 90 ∧ -90 ≤ el ∧ el ≤ 90) : towM s g xs ys az ti be el = (towV g xs ys az ti be el, 0) := by
  unfold towM
  rw [if_pos h, if_pos h1]
set_option maxRecDepth 20000 in
set_option maxHeartbeats 4000000 in
theorem spec_any (w : World) (s : ByteArray) (is : s.size ≤ maxLen) (g : Int) (ig : In64 g) (a : Value) (xs : List Int) (p : Nat) (ha : Row 2 w p a xs) (ixs : ∀ n ∈ xs, In64 n) (b : Value) (ys : List Int) (q : Nat) (hb : Row 2 w q b ys) (iys : ∀ n ∈ ys, In64 n) (az : Int) (iaz : In64 az) (ti : Int) (iti : In64 ti) (be : Int) (ibe : In64 be) (el : Int) (iel : In64 el) :
    Calls Try.prog 23 #[.agg #[.string s, .int .i64 g, a, b], .int .i64 az, .int .i64 ti, .int .i64 be, .int .i64 el] w fun e w' => e = .returned (.tuple #[.int .i64 (towM s g xs ys az ti be el).1, .int .i64 (towM s g xs ys az ti be el).2]) ∧ Below w.heap.size w w' := by
  have IS := Lib.hid is
  have HA := Lib.hid ha
  have HB := Lib.hid hb
  clear is ha hb ixs iys ig
  obtain ⟨laz, uaz⟩ := iaz
  obtain ⟨lti, uti⟩ := iti
  obtain ⟨lbe, ube⟩ := ibe
  obtain ⟨lel, uel⟩ := iel
  rcases bool_two (antB s g xs ys) with e | e
  rotate_left
  · rw [towM_bad e]
    have HE := Lib.hid e
    clear e
    go_enter Try.func23, Try.ntmps23
    go_wp2_with fail
    refine (l06Ok_any _ _ s IS.out g a xs p (HA.out.alloc_ _) b ys q (HB.out.alloc_ _) (by simp [go_sem]) (by simp [go_sem]) (by simp [go_sem]) (by simp [go_sem])).mono ?_
    rintro e w1 ⟨he, k, rfl⟩
    rw [HE.out] at he
    subst he
    go_wp2_with fail
    all_goals go_ret2
    all_goals exact ⟨rfl, by repeat (first | (with_reducible exact Below.refl _ _) | (with_reducible assumption) | ((with_reducible refine bl_alloc ?_ _ ?_); (focus ((first | omega | (simp <;> omega)); done))) | ((with_reducible refine bl_set ?_ _ ?_); (focus ((first | omega | (simp <;> omega)); done))) | (with_reducible refine below_drewN ?_ _) | (with_reducible refine Below.drew ?_))⟩
  rcases in_cases az (0) 359 with ⟨t0, u0⟩ | t0 | ⟨t0, u0⟩
  · rcases in_cases be (0) 359 with ⟨t1, u1⟩ | t1 | ⟨t1, u1⟩
    · rcases in_cases ti (-90) 90 with ⟨t2, u2⟩ | t2 | ⟨t2, u2⟩
      · rcases in_cases el (-90) 90 with ⟨t3, u3⟩ | t3 | ⟨t3, u3⟩
        · rw [towM_yes e ⟨t0, u0, t1, u1, t2, u2, t3, u3⟩]
          obtain ⟨ga, ca, gb, cb, rfl, rfl, n1, n2, r1, r2, l1, l2, k1, k2⟩ := ant_open e HA.out HB.out
          obtain ⟨_, g0, g1, _, _⟩ := ant_parts e
          obtain ⟨K, hK⟩ : ∃ K, K = towV g xs ys az ti be el := ⟨_, rfl⟩
          rw [← hK]
          have HK := Lib.hid hK
          have HE := Lib.hid e
          have HK1 := Lib.hid k1
          have HK2 := Lib.hid k2
          have HN := Lib.hid n1
          have HN2 := Lib.hid n2
          have HR := Lib.hid r1
          have HR2 := Lib.hid r2
          clear e n1 n2 r1 r2 k1 k2 hK
          go_enter Try.func23, Try.ntmps23
          go_wp2_with fail
          refine (l06Ok_any _ _ s IS.out g _ xs p (HA.out.alloc_ _) _ ys q (HB.out.alloc_ _) (by simp [go_sem]) (by simp [go_sem]) (by simp [go_sem]) (by simp [go_sem])).mono ?_
          rintro e w1 ⟨he, k, rfl⟩
          rw [HE.out] at he
          subst he
          go_wp2_with (go_at_call 71; go_in)
          refine (l06Toward_any ((w.alloc (.cells #[.string s, .int .i64 g, .slice (some ⟨ga, 0, none⟩) 36 ca, .slice (some ⟨gb, 0, none⟩) 19 cb] 47)).drewN k) w.heap.size g ga ca gb cb xs ys HN.out HN2.out HR.out HR2.out (fun k hk => cell_alloc (HK1.out k hk) _) (fun k hk => cell_alloc (HK2.out k hk) _) g0 g1 (by simp [go_sem]) (by simp [go_sem]) (by simp [go_sem]) az ti be el t0 u0 t1 u1 t2 u2 t3 u3).mono ?_
          rintro e w2 ⟨he, k', rfl⟩
          rw [← HK.out] at he
          subst he
          go_wp2_with fail
          all_goals go_ret2
          all_goals exact ⟨rfl, by repeat (first | (with_reducible exact Below.refl _ _) | (with_reducible assumption) | ((with_reducible refine bl_alloc ?_ _ ?_); (focus ((first | omega | (simp <;> omega)); done))) | ((with_reducible refine bl_set ?_ _ ?_); (focus ((first | omega | (simp <;> omega)); done))) | (with_reducible refine below_drewN ?_ _) | (with_reducible refine Below.drew ?_))⟩
        · rw [towM_out e (fun h => dec_no t3 h.2.2.2.2.2.2.1)]
          have HE := Lib.hid e
          clear e
          go_enter Try.func23, Try.ntmps23
          go_wp2_with fail
          refine (l06Ok_any _ _ s IS.out g a xs p (HA.out.alloc_ _) b ys q (HB.out.alloc_ _) (by simp [go_sem]) (by simp [go_sem]) (by simp [go_sem]) (by simp [go_sem])).mono ?_
          rintro e w1 ⟨he, k, rfl⟩
          rw [HE.out] at he
          subst he
          go_wp2_with (go_at_call 71; go_in)
          all_goals go_ret2
          all_goals exact ⟨rfl, by repeat (first | (with_reducible exact Below.refl _ _) | (with_reducible assumption) | ((with_reducible refine bl_alloc ?_ _ ?_); (focus ((first | omega | (simp <;> omega)); done))) | ((with_reducible refine bl_set ?_ _ ?_); (focus ((first | omega | (simp <;> omega)); done))) | (with_reducible refine below_drewN ?_ _) | (with_reducible refine Below.drew ?_))⟩
        · rw [towM_out e (fun h => dec_no u3 h.2.2.2.2.2.2.2)]
          have HE := Lib.hid e
          clear e
          go_enter Try.func23, Try.ntmps23
          go_wp2_with fail
          refine (l06Ok_any _ _ s IS.out g a xs p (HA.out.alloc_ _) b ys q (HB.out.alloc_ _) (by simp [go_sem]) (by simp [go_sem]) (by simp [go_sem]) (by simp [go_sem])).mono ?_
          rintro e w1 ⟨he, k, rfl⟩
          rw [HE.out] at he
          subst he
          go_wp2_with (go_at_call 71; go_in)
          all_goals go_ret2
          all_goals exact ⟨rfl, by repeat (first | (with_reducible exact Below.refl _ _) | (with_reducible assumption) | ((with_reducible refine bl_alloc ?_ _ ?_); (focus ((first | omega | (simp <;> omega)); done))) | ((with_reducible refine bl_set ?_ _ ?_); (focus ((first | omega | (simp <;> omega)); done))) | (with_reducible refine below_drewN ?_ _) | (with_reducible refine Below.drew ?_))⟩
      · rw [towM_out e (fun h => dec_no t2 h.2.2.2.2.1)]
        have HE := Lib.hid e
        clear e
        go_enter Try.func23, Try.ntmps23
        go_wp2_with fail
        refine (l06Ok_any _ _ s IS.out g a xs p (HA.out.alloc_ _) b ys q (HB.out.alloc_ _) (by simp [go_sem]) (by simp [go_sem]) (by simp [go_sem]) (by simp [go_sem])).mono ?_
        rintro e w1 ⟨he, k, rfl⟩
        rw [HE.out] at he
        subst he
        go_wp2_with (go_at_call 71; go_in)
        all_goals go_ret2
        all_goals exact ⟨rfl, by repeat (first | (with_reducible exact Below.refl _ _) | (with_reducible assumption) | ((with_reducible refine bl_alloc ?_ _ ?_); (focus ((first | omega | (simp <;> omega)); done))) | ((with_reducible refine bl_set ?_ _ ?_); (focus ((first | omega | (simp <;> omega)); done))) | (with_reducible refine below_drewN ?_ _) | (with_reducible refine Below.drew ?_))⟩
      · rw [towM_out e (fun h => dec_no u2 h.2.2.2.2.2.1)]
        have HE := Lib.hid e
        clear e
        go_enter Try.func23, Try.ntmps23
        go_wp2_with fail
        refine (l06Ok_any _ _ s IS.out g a xs p (HA.out.alloc_ _) b ys q (HB.out.alloc_ _) (by simp [go_sem]) (by simp [go_sem]) (by simp [go_sem]) (by simp [go_sem])).mono ?_
        rintro e w1 ⟨he, k, rfl⟩
        rw [HE.out] at he
        subst he
        go_wp2_with (go_at_call 71; go_in)
        all_goals go_ret2
        all_goals exact ⟨rfl, by repeat (first | (with_reducible exact Below.refl _ _) | (with_reducible assumption) | ((with_reducible refine bl_alloc ?_ _ ?_); (focus ((first | omega | (simp <;> omega)); done))) | ((with_reducible refine bl_set ?_ _ ?_); (focus ((first | omega | (simp <;> omega)); done))) | (with_reducible refine below_drewN ?_ _) | (with_reducible refine Below.drew ?_))⟩
    · rw [towM_out e (fun h => dec_no t1 h.2.2.1)]
      have HE := Lib.hid e
      clear e
      go_enter Try.func23, Try.ntmps23
      go_wp2_with fail
      refine (l06Ok_any _ _ s IS.out g a xs p (HA.out.alloc_ _) b ys q (HB.out.alloc_ _) (by simp [go_sem]) (by simp [go_sem]) (by simp [go_sem]) (by simp [go_sem])).mono ?_
      rintro e w1 ⟨he, k, rfl⟩
      rw [HE.out] at he
      subst he
      go_wp2_with (go_at_call 71; go_in)
      all_goals go_ret2
      all_goals exact ⟨rfl, by repeat (first | (with_reducible exact Below.refl _ _) | (with_reducible assumption) | ((with_reducible refine bl_alloc ?_ _ ?_); (focus ((first | omega | (simp <;> omega)); done))) | ((with_reducible refine bl_set ?_ _ ?_); (focus ((first | omega | (simp <;> omega)); done))) | (with_reducible refine below_drewN ?_ _) | (with_reducible refine Below.drew ?_))⟩
    · rw [towM_out e (fun h => dec_no u1 h.2.2.2.1)]
      have HE := Lib.hid e
      clear e
      go_enter Try.func23, Try.ntmps23
      go_wp2_with fail
      refine (l06Ok_any _ _ s IS.out g a xs p (HA.out.alloc_ _) b ys q (HB.out.alloc_ _) (by simp [go_sem]) (by simp [go_sem]) (by simp [go_sem]) (by simp [go_sem])).mono ?_
      rintro e w1 ⟨he, k, rfl⟩
      rw [HE.out] at he
      subst he
      go_wp2_with (go_at_call 71; go_in)
      all_goals go_ret2
      all_goals exact ⟨rfl, by repeat (first | (with_reducible exact Below.refl _ _) | (with_reducible assumption) | ((with_reducible refine bl_alloc ?_ _ ?_); (focus ((first | omega | (simp <;> omega)); done))) | ((with_reducible refine bl_set ?_ _ ?_); (focus ((first | omega | (simp <;> omega)); done))) | (with_reducible refine below_drewN ?_ _) | (with_reducible refine Below.drew ?_))⟩
  · rw [towM_out e (fun h => dec_no t0 h.1)]
    have HE := Lib.hid e
    clear e
    go_enter Try.func23, Try.ntmps23
    go_wp2_with fail
    refine (l06Ok_any _ _ s IS.out g a xs p (HA.out.alloc_ _) b ys q (HB.out.alloc_ _) (by simp [go_sem]) (by simp [go_sem]) (by simp [go_sem]) (by simp [go_sem])).mono ?_
    rintro e w1 ⟨he, k, rfl⟩
    rw [HE.out] at he
    subst he
    go_wp2_with (go_at_call 71; go_in)
    all_goals go_ret2
    all_goals exact ⟨rfl, by repeat (first | (with_reducible exact Below.refl _ _) | (with_reducible assumption) | ((with_reducible refine bl_alloc ?_ _ ?_); (focus ((first | omega | (simp <;> omega)); done))) | ((with_reducible refine bl_set ?_ _ ?_); (focus ((first | omega | (simp <;> omega)); done))) | (with_reducible refine below_drewN ?_ _) | (with_reducible refine Below.drew ?_))⟩
  · rw [towM_out e (fun h => dec_no u0 h.2.1)]
    have HE := Lib.hid e
    clear e
    go_enter Try.func23, Try.ntmps23
    go_wp2_with fail
    refine (l06Ok_any _ _ s IS.out g a xs p (HA.out.alloc_ _) b ys q (HB.out.alloc_ _) (by simp [go_sem]) (by simp [go_sem]) (by simp [go_sem]) (by simp [go_sem])).mono ?_
    rintro e w1 ⟨he, k, rfl⟩
    rw [HE.out] at he
    subst he
    go_wp2_with (go_at_call 71; go_in)
    all_goals go_ret2
    all_goals exact ⟨rfl, by repeat (first | (with_reducible exact Below.refl _ _) | (with_reducible assumption) | ((with_reducible refine bl_alloc ?_ _ ?_); (focus ((first | omega | (simp <;> omega)); done))) | ((with_reducible refine bl_set ?_ _ ?_); (focus ((first | omega | (simp <;> omega)); done))) | (with_reducible refine below_drewN ?_ _) | (with_reducible refine Below.drew ?_))⟩
set_option maxRecDepth 20000 in
set_option maxHeartbeats 4000000 in
theorem impl_any (w : World) (s : ByteArray) (is : s.size ≤ maxLen) (g : Int) (ig : In64 g) (a : Value) (xs : List Int) (p : Nat) (ha : Row 2 w p a xs) (ixs : ∀ n ∈ xs, In64 n) (b : Value) (ys : List Int) (q : Nat) (hb : Row 2 w q b ys) (iys : ∀ n ∈ ys, In64 n) (az : Int) (iaz : In64 az) (ti : Int) (iti : In64 ti) (be : Int) (ibe : In64 be) (el : Int) (iel : In64 el) :
    Calls Try.prog 25 #[.agg #[.string s, .int .i64 g, a, b], .int .i64 az, .int .i64 ti, .int .i64 be, .int .i64 el] w fun e w' => e = .returned (.tuple #[.int .i64 (towM s g xs ys az ti be el).1, .int .i64 (towM s g xs ys az ti be el).2]) ∧ Below w.heap.size w w' := by
  have IS := Lib.hid is
  have HA := Lib.hid ha
  have HB := Lib.hid hb
  clear is ha hb ixs iys ig
  obtain ⟨laz, uaz⟩ := iaz
  obtain ⟨lti, uti⟩ := iti
  obtain ⟨lbe, ube⟩ := ibe
  obtain ⟨lel, uel⟩ := iel
  rcases bool_two (antB s g xs ys) with e | e
  rotate_left
  · rw [towM_bad e]
    have HE := Lib.hid e
    clear e
    go_enter Try.func25, Try.ntmps25
    go_wp2_with fail
    refine (ValidAntenna_any _ s IS.out g a xs p (HA.out.alloc_ _) b ys q (HB.out.alloc_ _)).mono ?_
    rintro e w1 ⟨he, hb⟩
    rw [HE.out] at he
    subst he
    have H1 := Lib.hid (show Below w.heap.size w w1 by repeat (first | (with_reducible exact Below.refl _ _) | (with_reducible assumption) | ((with_reducible refine bl_alloc ?_ _ ?_); (focus ((first | omega | (simp <;> omega)); done))) | ((with_reducible refine bl_set ?_ _ ?_); (focus ((first | omega | (simp <;> omega)); done))) | (with_reducible refine below_drewN ?_ _) | (with_reducible refine Below.drew ?_) | ((with_reducible refine bl_trans ?_ hb ?_); (focus ((first | omega | (simp <;> omega)); done)))))
    have zz : w.heap.size < w1.heap.size := by have := hb.size; (try simp at this); omega
    obtain ⟨hc, hf⟩ := bcell hb
    clear hb
    go_wp2_with fail
    all_goals go_ret2
    all_goals exact ⟨rfl, by repeat (first | (with_reducible exact Below.refl _ _) | (with_reducible assumption) | ((with_reducible refine bl_alloc ?_ _ ?_); (focus ((first | omega | (simp <;> omega)); done))) | ((with_reducible refine bl_set ?_ _ ?_); (focus ((first | omega | (simp <;> omega)); done))) | (with_reducible refine below_drewN ?_ _) | (with_reducible refine Below.drew ?_) | ((with_reducible refine bl_trans ?_ H1.out ?_); (focus ((first | omega | (simp <;> omega)); done))))⟩
  rcases in_cases az (0) 359 with ⟨t0, u0⟩ | t0 | ⟨t0, u0⟩
  · rcases in_cases be (0) 359 with ⟨t1, u1⟩ | t1 | ⟨t1, u1⟩
    · rcases in_cases ti (-90) 90 with ⟨t2, u2⟩ | t2 | ⟨t2, u2⟩
      · rcases in_cases el (-90) 90 with ⟨t3, u3⟩ | t3 | ⟨t3, u3⟩
        · rw [towM_yes e ⟨t0, u0, t1, u1, t2, u2, t3, u3⟩]
          obtain ⟨ga, ca, gb, cb, rfl, rfl, n1, n2, r1, r2, l1, l2, k1, k2⟩ := ant_open e HA.out HB.out
          obtain ⟨_, g0, g1, _, _⟩ := ant_parts e
          obtain ⟨K, hK⟩ : ∃ K, K = towV g xs ys az ti be el := ⟨_, rfl⟩
          rw [← hK]
          have HK := Lib.hid hK
          have HE := Lib.hid e
          have HK1 := Lib.hid k1
          have HK2 := Lib.hid k2
          have HN := Lib.hid n1
          have HN2 := Lib.hid n2
          have HR := Lib.hid r1
          have HR2 := Lib.hid r2
          clear e n1 n2 r1 r2 k1 k2 hK
          go_enter Try.func25, Try.ntmps25
          go_wp2_with fail
          refine (ValidAntenna_any _ s IS.out g _ xs p (HA.out.alloc_ _) _ ys q (HB.out.alloc_ _)).mono ?_
          rintro e w1 ⟨he, hb⟩
          rw [HE.out] at he
          subst he
          have H1 := Lib.hid (show Below w.heap.size w w1 by repeat (first | (with_reducible exact Below.refl _ _) | (with_reducible assumption) | ((with_reducible refine bl_alloc ?_ _ ?_); (focus ((first | omega | (simp <;> omega)); done))) | ((with_reducible refine bl_set ?_ _ ?_); (focus ((first | omega | (simp <;> omega)); done))) | (with_reducible refine below_drewN ?_ _) | (with_reducible refine Below.drew ?_) | ((with_reducible refine bl_trans ?_ hb ?_); (focus ((first | omega | (simp <;> omega)); done)))))
          have zz : w.heap.size < w1.heap.size := by have := hb.size; (try simp at this); omega
          obtain ⟨hc, hf⟩ := bcell hb
          clear hb
          go_wp2_with (go_at_call 74; go_in)
          refine (toward_any _ s g ga ca gb cb xs ys HN.out HN2.out HR.out HR2.out (by omega) (by omega) (fun k hk => (H1.out.cell (p := ⟨ga, k, none⟩) l1).trans (HK1.out k hk)) (fun k hk => (H1.out.cell (p := ⟨gb, k, none⟩) l2).trans (HK2.out k hk)) g0 g1 az ti be el t0 u0 t1 u1 t2 u2 t3 u3).mono ?_
          rintro e w2 ⟨he, hb⟩
          rw [← HK.out] at he
          subst he
          have H2 := Lib.hid (show Below w.heap.size w w2 by repeat (first | (with_reducible exact Below.refl _ _) | (with_reducible assumption) | ((with_reducible refine bl_alloc ?_ _ ?_); (focus ((first | omega | (simp <;> omega)); done))) | ((with_reducible refine bl_set ?_ _ ?_); (focus ((first | omega | (simp <;> omega)); done))) | (with_reducible refine below_drewN ?_ _) | (with_reducible refine Below.drew ?_) | ((with_reducible refine bl_trans ?_ hb ?_); (focus ((first | omega | (simp <;> omega)); done))) | ((with_reducible refine bl_trans ?_ H1.out ?_); (focus ((first | omega | (simp <;> omega)); done)))))
          clear hb
          go_wp2_with fail
          all_goals go_ret2
          all_goals exact ⟨rfl, by repeat (first | (with_reducible exact Below.refl _ _) | (with_reducible assumption) | ((with_reducible refine bl_alloc ?_ _ ?_); (focus ((first | omega | (simp <;> omega)); done))) | ((with_reducible refine bl_set ?_ _ ?_); (focus ((first | omega | (simp <;> omega)); done))) | (with_reducible refine below_drewN ?_ _) | (with_reducible refine Below.drew ?_) | ((with_reducible refine bl_trans ?_ H2.out ?_); (focus ((first | omega | (simp <;> omega)); done))))⟩
        · rw [towM_out e (fun h => dec_no t3 h.2.2.2.2.2.2.1)]
          have HE := Lib.hid e
          clear e
          go_enter Try.func25, Try.ntmps25
          go_wp2_with fail
          refine (ValidAntenna_any _ s IS.out g a xs p (HA.out.alloc_ _) b ys q (HB.out.alloc_ _)).mono ?_
          rintro e w1 ⟨he, hb⟩
          rw [HE.out] at he
          subst he
          have H1 := Lib.hid (show Below w.heap.size w w1 by repeat (first | (with_reducible exact Below.refl _ _) | (with_reducible assumption) | ((with_reducible refine bl_alloc ?_ _ ?_); (focus ((first | omega | (simp <;> omega)); done))) | ((with_reducible refine bl_set ?_ _ ?_); (focus ((first | omega | (simp <;> omega)); done))) | (with_reducible refine below_drewN ?_ _) | (with_reducible refine Below.drew ?_) | ((with_reducible refine bl_trans ?_ hb ?_); (focus ((first | omega | (simp <;> omega)); done)))))
          have zz : w.heap.size < w1.heap.size := by have := hb.size; (try simp at this); omega
          obtain ⟨hc, hf⟩ := bcell hb
          clear hb
          go_wp2_with (go_at_call 74; go_in)
          all_goals go_ret2
          all_goals exact ⟨rfl, by repeat (first | (with_reducible exact Below.refl _ _) | (with_reducible assumption) | ((with_reducible refine bl_alloc ?_ _ ?_); (focus ((first | omega | (simp <;> omega)); done))) | ((with_reducible refine bl_set ?_ _ ?_); (focus ((first | omega | (simp <;> omega)); done))) | (with_reducible refine below_drewN ?_ _) | (with_reducible refine Below.drew ?_) | ((with_reducible refine bl_trans ?_ H1.out ?_); (focus ((first | omega | (simp <;> omega)); done))))⟩
        · rw [towM_out e (fun h => dec_no u3 h.2.2.2.2.2.2.2)]
          have HE := Lib.hid e
          clear e
          go_enter Try.func25, Try.ntmps25
          go_wp2_with fail
          refine (ValidAntenna_any _ s IS.out g a xs p (HA.out.alloc_ _) b ys q (HB.out.alloc_ _)).mono ?_
          rintro e w1 ⟨he, hb⟩
          rw [HE.out] at he
          subst he
          have H1 := Lib.hid (show Below w.heap.size w w1 by repeat (first | (with_reducible exact Below.refl _ _) | (with_reducible assumption) | ((with_reducible refine bl_alloc ?_ _ ?_); (focus ((first | omega | (simp <;> omega)); done))) | ((with_reducible refine bl_set ?_ _ ?_); (focus ((first | omega | (simp <;> omega)); done))) | (with_reducible refine below_drewN ?_ _) | (with_reducible refine Below.drew ?_) | ((with_reducible refine bl_trans ?_ hb ?_); (focus ((first | omega | (simp <;> omega)); done)))))
          have zz : w.heap.size < w1.heap.size := by have := hb.size; (try simp at this); omega
          obtain ⟨hc, hf⟩ := bcell hb
          clear hb
          go_wp2_with (go_at_call 74; go_in)
          all_goals go_ret2
          all_goals exact ⟨rfl, by repeat (first | (with_reducible exact Below.refl _ _) | (with_reducible assumption) | ((with_reducible refine bl_alloc ?_ _ ?_); (focus ((first | omega | (simp <;> omega)); done))) | ((with_reducible refine bl_set ?_ _ ?_); (focus ((first | omega | (simp <;> omega)); done))) | (with_reducible refine below_drewN ?_ _) | (with_reducible refine Below.drew ?_) | ((with_reducible refine bl_trans ?_ H1.out ?_); (focus ((first | omega | (simp <;> omega)); done))))⟩
      · rw [towM_out e (fun h => dec_no t2 h.2.2.2.2.1)]
        have HE := Lib.hid e
        clear e
        go_enter Try.func25, Try.ntmps25
        go_wp2_with fail
        refine (ValidAntenna_any _ s IS.out g a xs p (HA.out.alloc_ _) b ys q (HB.out.alloc_ _)).mono ?_
        rintro e w1 ⟨he, hb⟩
        rw [HE.out] at he
        subst he
        have H1 := Lib.hid (show Below w.heap.size w w1 by repeat (first | (with_reducible exact Below.refl _ _) | (with_reducible assumption) | ((with_reducible refine bl_alloc ?_ _ ?_); (focus ((first | omega | (simp <;> omega)); done))) | ((with_reducible refine bl_set ?_ _ ?_); (focus ((first | omega | (simp <;> omega)); done))) | (with_reducible refine below_drewN ?_ _) | (with_reducible refine Below.drew ?_) | ((with_reducible refine bl_trans ?_ hb ?_); (focus ((first | omega | (simp <;> omega)); done)))))
        have zz : w.heap.size < w1.heap.size := by have := hb.size; (try simp at this); omega
        obtain ⟨hc, hf⟩ := bcell hb
        clear hb
        go_wp2_with (go_at_call 74; go_in)
        all_goals go_ret2
        all_goals exact ⟨rfl, by repeat (first | (with_reducible exact Below.refl _ _) | (with_reducible assumption) | ((with_reducible refine bl_alloc ?_ _ ?_); (focus ((first | omega | (simp <;> omega)); done))) | ((with_reducible refine bl_set ?_ _ ?_); (focus ((first | omega | (simp <;> omega)); done))) | (with_reducible refine below_drewN ?_ _) | (with_reducible refine Below.drew ?_) | ((with_reducible refine bl_trans ?_ H1.out ?_); (focus ((first | omega | (simp <;> omega)); done))))⟩
      · rw [towM_out e (fun h => dec_no u2 h.2.2.2.2.2.1)]
        have HE := Lib.hid e
        clear e
        go_enter Try.func25, Try.ntmps25
        go_wp2_with fail
        refine (ValidAntenna_any _ s IS.out g a xs p (HA.out.alloc_ _) b ys q (HB.out.alloc_ _)).mono ?_
        rintro e w1 ⟨he, hb⟩
        rw [HE.out] at he
        subst he
        have H1 := Lib.hid (show Below w.heap.size w w1 by repeat (first | (with_reducible exact Below.refl _ _) | (with_reducible assumption) | ((with_reducible refine bl_alloc ?_ _ ?_); (focus ((first | omega | (simp <;> omega)); done))) | ((with_reducible refine bl_set ?_ _ ?_); (focus ((first | omega | (simp <;> omega)); done))) | (with_reducible refine below_drewN ?_ _) | (with_reducible refine Below.drew ?_) | ((with_reducible refine bl_trans ?_ hb ?_); (focus ((first | omega | (simp <;> omega)); done)))))
        have zz : w.heap.size < w1.heap.size := by have := hb.size; (try simp at this); omega
        obtain ⟨hc, hf⟩ := bcell hb
        clear hb
        go_wp2_with (go_at_call 74; go_in)
        all_goals go_ret2
        all_goals exact ⟨rfl, by repeat (first | (with_reducible exact Below.refl _ _) | (with_reducible assumption) | ((with_reducible refine bl_alloc ?_ _ ?_); (focus ((first | omega | (simp <;> omega)); done))) | ((with_reducible refine bl_set ?_ _ ?_); (focus ((first | omega | (simp <;> omega)); done))) | (with_reducible refine below_drewN ?_ _) | (with_reducible refine Below.drew ?_) | ((with_reducible refine bl_trans ?_ H1.out ?_); (focus ((first | omega | (simp <;> omega)); done))))⟩
    · rw [towM_out e (fun h => dec_no t1 h.2.2.1)]
      have HE := Lib.hid e
      clear e
      go_enter Try.func25, Try.ntmps25
      go_wp2_with fail
      refine (ValidAntenna_any _ s IS.out g a xs p (HA.out.alloc_ _) b ys q (HB.out.alloc_ _)).mono ?_
      rintro e w1 ⟨he, hb⟩
      rw [HE.out] at he
      subst he
      have H1 := Lib.hid (show Below w.heap.size w w1 by repeat (first | (with_reducible exact Below.refl _ _) | (with_reducible assumption) | ((with_reducible refine bl_alloc ?_ _ ?_); (focus ((first | omega | (simp <;> omega)); done))) | ((with_reducible refine bl_set ?_ _ ?_); (focus ((first | omega | (simp <;> omega)); done))) | (with_reducible refine below_drewN ?_ _) | (with_reducible refine Below.drew ?_) | ((with_reducible refine bl_trans ?_ hb ?_); (focus ((first | omega | (simp <;> omega)); done)))))
      have zz : w.heap.size < w1.heap.size := by have := hb.size; (try simp at this); omega
      obtain ⟨hc, hf⟩ := bcell hb
      clear hb
      go_wp2_with (go_at_call 74; go_in)
      all_goals go_ret2
      all_goals exact ⟨rfl, by repeat (first | (with_reducible exact Below.refl _ _) | (with_reducible assumption) | ((with_reducible refine bl_alloc ?_ _ ?_); (focus ((first | omega | (simp <;> omega)); done))) | ((with_reducible refine bl_set ?_ _ ?_); (focus ((first | omega | (simp <;> omega)); done))) | (with_reducible refine below_drewN ?_ _) | (with_reducible refine Below.drew ?_) | ((with_reducible refine bl_trans ?_ H1.out ?_); (focus ((first | omega | (simp <;> omega)); done))))⟩
    · rw [towM_out e (fun h => dec_no u1 h.2.2.2.1)]
      have HE := Lib.hid e
      clear e
      go_enter Try.func25, Try.ntmps25
      go_wp2_with fail
      refine (ValidAntenna_any _ s IS.out g a xs p (HA.out.alloc_ _) b ys q (HB.out.alloc_ _)).mono ?_
      rintro e w1 ⟨he, hb⟩
      rw [HE.out] at he
      subst he
      have H1 := Lib.hid (show Below w.heap.size w w1 by repeat (first | (with_reducible exact Below.refl _ _) | (with_reducible assumption) | ((with_reducible refine bl_alloc ?_ _ ?_); (focus ((first | omega | (simp <;> omega)); done))) | ((with_reducible refine bl_set ?_ _ ?_); (focus ((first | omega | (simp <;> omega)); done))) | (with_reducible refine below_drewN ?_ _) | (with_reducible refine Below.drew ?_) | ((with_reducible refine bl_trans ?_ hb ?_); (focus ((first | omega | (simp <;> omega)); done)))))
      have zz : w.heap.size < w1.heap.size := by have := hb.size; (try simp at this); omega
      obtain ⟨hc, hf⟩ := bcell hb
      clear hb
      go_wp2_with (go_at_call 74; go_in)
      all_goals go_ret2
      all_goals exact ⟨rfl, by repeat (first | (with_reducible exact Below.refl _ _) | (with_reducible assumption) | ((with_reducible refine bl_alloc ?_ _ ?_); (focus ((first | omega | (simp <;> omega)); done))) | ((with_reducible refine bl_set ?_ _ ?_); (focus ((first | omega | (simp <;> omega)); done))) | (with_reducible refine below_drewN ?_ _) | (with_reducible refine Below.drew ?_) | ((with_reducible refine bl_trans ?_ H1.out ?_); (focus ((first | omega | (simp <;> omega)); done))))⟩
  · rw [towM_out e (fun h => dec_no t0 h.1)]
    have HE := Lib.hid e
    clear e
    go_enter Try.func25, Try.ntmps25
    go_wp2_with fail
    refine (ValidAntenna_any _ s IS.out g a xs p (HA.out.alloc_ _) b ys q (HB.out.alloc_ _)).mono ?_
    rintro e w1 ⟨he, hb⟩
    rw [HE.out] at he
    subst he
    have H1 := Lib.hid (show Below w.heap.size w w1 by repeat (first | (with_reducible exact Below.refl _ _) | (with_reducible assumption) | ((with_reducible refine bl_alloc ?_ _ ?_); (focus ((first | omega | (simp <;> omega)); done))) | ((with_reducible refine bl_set ?_ _ ?_); (focus ((first | omega | (simp <;> omega)); done))) | (with_reducible refine below_drewN ?_ _) | (with_reducible refine Below.drew ?_) | ((with_reducible refine bl_trans ?_ hb ?_); (focus ((first | omega | (simp <;> omega)); done)))))
    have zz : w.heap.size < w1.heap.size := by have := hb.size; (try simp at this); omega
    obtain ⟨hc, hf⟩ := bcell hb
    clear hb
    go_wp2_with (go_at_call 74; go_in)
    all_goals go_ret2
    all_goals exact ⟨rfl, by repeat (first | (with_reducible exact Below.refl _ _) | (with_reducible assumption) | ((with_reducible refine bl_alloc ?_ _ ?_); (focus ((first | omega | (simp <;> omega)); done))) | ((with_reducible refine bl_set ?_ _ ?_); (focus ((first | omega | (simp <;> omega)); done))) | (with_reducible refine below_drewN ?_ _) | (with_reducible refine Below.drew ?_) | ((with_reducible refine bl_trans ?_ H1.out ?_); (focus ((first | omega | (simp <;> omega)); done))))⟩
  · rw [towM_out e (fun h => dec_no u0 h.2.1)]
    have HE := Lib.hid e
    clear e
    go_enter Try.func25, Try.ntmps25
    go_wp2_with fail
    refine (ValidAntenna_any _ s IS.out g a xs p (HA.out.alloc_ _) b ys q (HB.out.alloc_ _)).mono ?_
    rintro e w1 ⟨he, hb⟩
    rw [HE.out] at he
    subst he
    have H1 := Lib.hid (show Below w.heap.size w w1 by repeat (first | (with_reducible exact Below.refl _ _) | (with_reducible assumption) | ((with_reducible refine bl_alloc ?_ _ ?_); (focus ((first | omega | (simp <;> omega)); done))) | ((with_reducible refine bl_set ?_ _ ?_); (focus ((first | omega | (simp <;> omega)); done))) | (with_reducible refine below_drewN ?_ _) | (with_reducible refine Below.drew ?_) | ((with_reducible refine bl_trans ?_ hb ?_); (focus ((first | omega | (simp <;> omega)); done)))))
    have zz : w.heap.size < w1.heap.size := by have := hb.size; (try simp at this); omega
    obtain ⟨hc, hf⟩ := bcell hb
    clear hb
    go_wp2_with (go_at_call 74; go_in)
    all_goals go_ret2
    all_goals exact ⟨rfl, by repeat (first | (with_reducible exact Below.refl _ _) | (with_reducible assumption) | ((with_reducible refine bl_alloc ?_ _ ?_); (focus ((first | omega | (simp <;> omega)); done))) | ((with_reducible refine bl_set ?_ _ ?_); (focus ((first | omega | (simp <;> omega)); done))) | (with_reducible refine below_drewN ?_ _) | (with_reducible refine Below.drew ?_) | ((with_reducible refine bl_trans ?_ H1.out ?_); (focus ((first | omega | (simp <;> omega)); done))))⟩
set_option maxRecDepth 20000 in
set_option maxHeartbeats 4000000 in
theorem walk (w : World) (s0_0 : ByteArray) (is0_0 : s0_0.size ≤ maxLen) (a0_1 : Int) (ia0_1 : In64 a0_1) (v0_2 : Value) (x0_2 : List Int) (r0_2 : Rd w w.heap.size v0_2 x0_2) (ix0_2 : ∀ n ∈ x0_2, In64 n) (v0_3 : Value) (x0_3 : List Int) (r0_3 : Rd w w.heap.size v0_3 x0_3) (ix0_3 : ∀ n ∈ x0_3, In64 n) (a1 : Int) (ia1 : In64 a1) (a2 : Int) (ia2 : In64 a2) (a3 : Int) (ia3 : In64 a3) (a4 : Int) (ia4 : In64 a4) :
    Calls Try.prog 5 #[.agg #[.string s0_0, .int .i64 a0_1, v0_2, v0_3], .int .i64 a1, .int .i64 a2, .int .i64 a3, .int .i64 a4] w fun e w' => e = .returned (.bool true) ∧ Below w.heap.size w w' := by
  by_cases hs0 : ¬ (s0_0.size : Int) + (x0_2.length : Int) + (x0_3.length : Int) ≤ 1048576
  · go_enter Try.func5, Try.ntmps5
    go_wp2_with fail
    refine (szAntenna_not s0_0 a0_1 _ x0_2 _ x0_3 _ w.heap.size (by first | omega | (simp <;> omega)) (Rd.below r0_2 (by repeat (first | (with_reducible exact Below.refl _ _) | (with_reducible assumption) | ((with_reducible refine bl_alloc ?_ _ ?_); (focus ((first | omega | (simp <;> omega)); done))) | ((with_reducible refine bl_set ?_ _ ?_); (focus ((first | omega | (simp <;> omega)); done))) | (with_reducible refine below_drewN ?_ _) | (with_reducible refine Below.drew ?_)))) (Rd.below r0_3 (by repeat (first | (with_reducible exact Below.refl _ _) | (with_reducible assumption) | ((with_reducible refine bl_alloc ?_ _ ?_); (focus ((first | omega | (simp <;> omega)); done))) | ((with_reducible refine bl_set ?_ _ ?_); (focus ((first | omega | (simp <;> omega)); done))) | (with_reducible refine below_drewN ?_ _) | (with_reducible refine Below.drew ?_)))) is0_0 _ (by omega) (by omega) (by omega)).mono ?_
    rintro e w1 ⟨rfl, hb⟩
    have zz1 : w.heap.size + 1 ≤ w1.heap.size := (by have := hb.size; ((try simp at this) <;> omega))
    have H1 := Lib.hid (show Below w.heap.size w w1 by repeat (first | (with_reducible exact Below.refl _ _) | (with_reducible assumption) | ((with_reducible refine bl_alloc ?_ _ ?_); (focus ((first | omega | (simp <;> omega)); done))) | ((with_reducible refine bl_set ?_ _ ?_); (focus ((first | omega | (simp <;> omega)); done))) | (with_reducible refine below_drewN ?_ _) | (with_reducible refine Below.drew ?_) | ((with_reducible refine bl_trans ?_ hb ?_); (focus ((first | omega | (simp <;> omega)); done)))))
    have f0_0_1 := keeps hb (p := ⟨w.heap.size, 0, none⟩) (v := .string s0_0) (by simp [go_sem])
    have f0_1_1 := keeps hb (p := ⟨w.heap.size, 1, none⟩) (v := .int .i64 a0_1) (by simp [go_sem])
    have f0_2_1 := keeps hb (p := ⟨w.heap.size, 2, none⟩) (v := v0_2) (by simp [go_sem])
    have f0_3_1 := keeps hb (p := ⟨w.heap.size, 3, none⟩) (v := v0_3) (by simp [go_sem])
    have g0_1 : w.heap.size < w1.heap.size := block_of_cell f0_0_1
    clear hb
    go_wp2_with fail
    go_ret
    exact ⟨rfl, (by repeat (first | (with_reducible exact Below.refl _ _) | (with_reducible assumption) | ((with_reducible refine bl_alloc ?_ _ ?_); (focus ((first | omega | (simp <;> omega)); done))) | ((with_reducible refine bl_set ?_ _ ?_); (focus ((first | omega | (simp <;> omega)); done))) | (with_reducible refine below_drewN ?_ _) | (with_reducible refine Below.drew ?_) | ((with_reducible refine bl_trans ?_ H1.out ?_); (focus ((first | omega | (simp <;> omega)); done)))))⟩
  have hs0' : (s0_0.size : Int) + (x0_2.length : Int) + (x0_3.length : Int) ≤ 1048576 := by omega
  clear hs0
  go_enter Try.func5, Try.ntmps5
  go_wp2_with fail
  refine (szAntenna_fits s0_0 a0_1 _ x0_2 _ x0_3 _ w.heap.size (by first | omega | (simp <;> omega)) (Rd.below r0_2 (by repeat (first | (with_reducible exact Below.refl _ _) | (with_reducible assumption) | ((with_reducible refine bl_alloc ?_ _ ?_); (focus ((first | omega | (simp <;> omega)); done))) | ((with_reducible refine bl_set ?_ _ ?_); (focus ((first | omega | (simp <;> omega)); done))) | (with_reducible refine below_drewN ?_ _) | (with_reducible refine Below.drew ?_)))) (Rd.below r0_3 (by repeat (first | (with_reducible exact Below.refl _ _) | (with_reducible assumption) | ((with_reducible refine bl_alloc ?_ _ ?_); (focus ((first | omega | (simp <;> omega)); done))) | ((with_reducible refine bl_set ?_ _ ?_); (focus ((first | omega | (simp <;> omega)); done))) | (with_reducible refine below_drewN ?_ _) | (with_reducible refine Below.drew ?_)))) is0_0 _ (by omega) (by omega)).mono ?_
  rintro e w1 ⟨rfl, hb⟩
  have zz1 : w.heap.size + 1 ≤ w1.heap.size := (by have := hb.size; ((try simp at this) <;> omega))
  have H1 := Lib.hid (show Below w.heap.size w w1 by repeat (first | (with_reducible exact Below.refl _ _) | (with_reducible assumption) | ((with_reducible refine bl_alloc ?_ _ ?_); (focus ((first | omega | (simp <;> omega)); done))) | ((with_reducible refine bl_set ?_ _ ?_); (focus ((first | omega | (simp <;> omega)); done))) | (with_reducible refine below_drewN ?_ _) | (with_reducible refine Below.drew ?_) | ((with_reducible refine bl_trans ?_ hb ?_); (focus ((first | omega | (simp <;> omega)); done)))))
  have f0_0_1 := keeps hb (p := ⟨w.heap.size, 0, none⟩) (v := .string s0_0) (by simp [go_sem])
  have f0_1_1 := keeps hb (p := ⟨w.heap.size, 1, none⟩) (v := .int .i64 a0_1) (by simp [go_sem])
  have f0_2_1 := keeps hb (p := ⟨w.heap.size, 2, none⟩) (v := v0_2) (by simp [go_sem])
  have f0_3_1 := keeps hb (p := ⟨w.heap.size, 3, none⟩) (v := v0_3) (by simp [go_sem])
  have g0_1 : w.heap.size < w1.heap.size := block_of_cell f0_0_1
  clear hb
  go_wp2_with fail
  refine (toAntenna_any s0_0 a0_1 v0_2 x0_2 v0_3 x0_3 _ w.heap.size (by first | omega | (simp <;> omega)) (Rd.below r0_2 (by repeat (first | (with_reducible exact Below.refl _ _) | (with_reducible assumption) | ((with_reducible refine bl_alloc ?_ _ ?_); (focus ((first | omega | (simp <;> omega)); done))) | ((with_reducible refine bl_set ?_ _ ?_); (focus ((first | omega | (simp <;> omega)); done))) | (with_reducible refine below_drewN ?_ _) | (with_reducible refine Below.drew ?_) | ((with_reducible refine bl_trans ?_ H1.out ?_); (focus ((first | omega | (simp <;> omega)); done)))))) (by omega) (Rd.below r0_3 (by repeat (first | (with_reducible exact Below.refl _ _) | (with_reducible assumption) | ((with_reducible refine bl_alloc ?_ _ ?_); (focus ((first | omega | (simp <;> omega)); done))) | ((with_reducible refine bl_set ?_ _ ?_); (focus ((first | omega | (simp <;> omega)); done))) | (with_reducible refine below_drewN ?_ _) | (with_reducible refine Below.drew ?_) | ((with_reducible refine bl_trans ?_ H1.out ?_); (focus ((first | omega | (simp <;> omega)); done)))))) (by omega)).mono ?_
  rintro e w2 ⟨A0, n0, c0, A1, n1, c1, rfl, hr0, hr1, ha0_1, hb⟩
  have zz2 : w1.heap.size ≤ w2.heap.size := (by have := hb.size; ((try simp at this) <;> omega))
  have H2 := Lib.hid (show Below w.heap.size w w2 by repeat (first | (with_reducible exact Below.refl _ _) | (with_reducible assumption) | ((with_reducible refine bl_alloc ?_ _ ?_); (focus ((first | omega | (simp <;> omega)); done))) | ((with_reducible refine bl_set ?_ _ ?_); (focus ((first | omega | (simp <;> omega)); done))) | (with_reducible refine below_drewN ?_ _) | (with_reducible refine Below.drew ?_) | ((with_reducible refine bl_trans ?_ hb ?_); (focus ((first | omega | (simp <;> omega)); done))) | ((with_reducible refine bl_trans ?_ H1.out ?_); (focus ((first | omega | (simp <;> omega)); done)))))
  have f0_0_2 := keeps hb f0_0_1
  have f0_1_2 := keeps hb f0_1_1
  have f0_2_2 := keeps hb f0_2_1
  have f0_3_2 := keeps hb f0_3_1
  have g0_2 : w.heap.size < w2.heap.size := block_of_cell f0_0_2
  have R0_2 := Lib.hid hr0
  have RL0 := Lib.hid (show ∀ g, Value.ownBlock (.slice A0 n0 c0) = some g → w1.heap.size ≤ g ∧ g < w2.heap.size from fun g h => by have l1 := hr0.lt g h; ((try simp at l1) <;> omega))
  have RA0_1 := Lib.hid ha0_1
  have R1_2 := Lib.hid hr1
  have RL1 := Lib.hid (show ∀ g, Value.ownBlock (.slice A1 n1 c1) = some g → w1.heap.size ≤ g ∧ g < w2.heap.size from fun g h => by have l1 := hr1.lt g h; ((try simp at l1) <;> omega))
  clear hb f0_0_1 f0_1_1 f0_2_1 f0_3_1 g0_1 hr0 ha0_1 hr1 H1
  go_wp2_with fail
  refine (spec_any _ s0_0 is0_0 a0_1 ia0_1 _ x0_2 _ R0_2.out ix0_2 _ x0_3 _ R1_2.out ix0_3 a1 ia1 a2 ia2 a3 ia3 a4 ia4).mono ?_
  rintro e w3 ⟨rfl, hb⟩
  have zz3 : w2.heap.size ≤ w3.heap.size := (by have := hb.size; ((try simp at this) <;> omega))
  have H3 := Lib.hid (show Below w.heap.size w w3 by repeat (first | (with_reducible exact Below.refl _ _) | (with_reducible assumption) | ((with_reducible refine bl_alloc ?_ _ ?_); (focus ((first | omega | (simp <;> omega)); done))) | ((with_reducible refine bl_set ?_ _ ?_); (focus ((first | omega | (simp <;> omega)); done))) | (with_reducible refine below_drewN ?_ _) | (with_reducible refine Below.drew ?_) | ((with_reducible refine bl_trans ?_ hb ?_); (focus ((first | omega | (simp <;> omega)); done))) | ((with_reducible refine bl_trans ?_ H2.out ?_); (focus ((first | omega | (simp <;> omega)); done)))))
  have f0_0_3 := keeps hb f0_0_2
  have f0_1_3 := keeps hb f0_1_2
  have f0_2_3 := keeps hb f0_2_2
  have f0_3_3 := keeps hb f0_3_2
  have g0_3 : w.heap.size < w3.heap.size := block_of_cell f0_0_3
  clear hb f0_0_2 f0_1_2 f0_2_2 f0_3_2 g0_2 R0_2 R1_2 H2
  go_wp2_with fail
  refine (toAntenna_any s0_0 a0_1 v0_2 x0_2 v0_3 x0_3 _ w.heap.size (by first | omega | (simp <;> omega)) (Rd.below r0_2 (by repeat (first | (with_reducible exact Below.refl _ _) | (with_reducible assumption) | ((with_reducible refine bl_alloc ?_ _ ?_); (focus ((first | omega | (simp <;> omega)); done))) | ((with_reducible refine bl_set ?_ _ ?_); (focus ((first | omega | (simp <;> omega)); done))) | (with_reducible refine below_drewN ?_ _) | (with_reducible refine Below.drew ?_) | ((with_reducible refine bl_trans ?_ H3.out ?_); (focus ((first | omega | (simp <;> omega)); done)))))) (by omega) (Rd.below r0_3 (by repeat (first | (with_reducible exact Below.refl _ _) | (with_reducible assumption) | ((with_reducible refine bl_alloc ?_ _ ?_); (focus ((first | omega | (simp <;> omega)); done))) | ((with_reducible refine bl_set ?_ _ ?_); (focus ((first | omega | (simp <;> omega)); done))) | (with_reducible refine below_drewN ?_ _) | (with_reducible refine Below.drew ?_) | ((with_reducible refine bl_trans ?_ H3.out ?_); (focus ((first | omega | (simp <;> omega)); done)))))) (by omega)).mono ?_
  rintro e w4 ⟨A2, n2, c2, A3, n3, c3, rfl, hr2, hr3, ha2_3, hb⟩
  have zz4 : w3.heap.size ≤ w4.heap.size := (by have := hb.size; ((try simp at this) <;> omega))
  have H4 := Lib.hid (show Below w.heap.size w w4 by repeat (first | (with_reducible exact Below.refl _ _) | (with_reducible assumption) | ((with_reducible refine bl_alloc ?_ _ ?_); (focus ((first | omega | (simp <;> omega)); done))) | ((with_reducible refine bl_set ?_ _ ?_); (focus ((first | omega | (simp <;> omega)); done))) | (with_reducible refine below_drewN ?_ _) | (with_reducible refine Below.drew ?_) | ((with_reducible refine bl_trans ?_ hb ?_); (focus ((first | omega | (simp <;> omega)); done))) | ((with_reducible refine bl_trans ?_ H3.out ?_); (focus ((first | omega | (simp <;> omega)); done)))))
  have f0_0_4 := keeps hb f0_0_3
  have f0_1_4 := keeps hb f0_1_3
  have f0_2_4 := keeps hb f0_2_3
  have f0_3_4 := keeps hb f0_3_3
  have g0_4 : w.heap.size < w4.heap.size := block_of_cell f0_0_4
  have R2_4 := Lib.hid hr2
  have RL2 := Lib.hid (show ∀ g, Value.ownBlock (.slice A2 n2 c2) = some g → w3.heap.size ≤ g ∧ g < w4.heap.size from fun g h => by have l1 := hr2.lt g h; ((try simp at l1) <;> omega))
  have RA2_3 := Lib.hid ha2_3
  have R3_4 := Lib.hid hr3
  have RL3 := Lib.hid (show ∀ g, Value.ownBlock (.slice A3 n3 c3) = some g → w3.heap.size ≤ g ∧ g < w4.heap.size from fun g h => by have l1 := hr3.lt g h; ((try simp at l1) <;> omega))
  clear hb f0_0_3 f0_1_3 f0_2_3 f0_3_3 g0_3 hr2 ha2_3 hr3 H3
  go_wp2_with fail
  refine (impl_any _ s0_0 is0_0 a0_1 ia0_1 _ x0_2 _ (R2_4.out.alloc_ _) ix0_2 _ x0_3 _ (R3_4.out.alloc_ _) ix0_3 a1 ia1 a2 ia2 a3 ia3 a4 ia4).mono ?_
  rintro e w5 ⟨rfl, hb⟩
  have zz5 : w4.heap.size + 1 ≤ w5.heap.size := (by have := hb.size; ((try simp at this) <;> omega))
  have H5 := Lib.hid (show Below w.heap.size w w5 by repeat (first | (with_reducible exact Below.refl _ _) | (with_reducible assumption) | ((with_reducible refine bl_alloc ?_ _ ?_); (focus ((first | omega | (simp <;> omega)); done))) | ((with_reducible refine bl_set ?_ _ ?_); (focus ((first | omega | (simp <;> omega)); done))) | (with_reducible refine below_drewN ?_ _) | (with_reducible refine Below.drew ?_) | ((with_reducible refine bl_trans ?_ hb ?_); (focus ((first | omega | (simp <;> omega)); done))) | ((with_reducible refine bl_trans ?_ H4.out ?_); (focus ((first | omega | (simp <;> omega)); done)))))
  have f0_0_5 := keeps hb (cell_alloc f0_0_4 _)
  have f0_1_5 := keeps hb (cell_alloc f0_1_4 _)
  have f0_2_5 := keeps hb (cell_alloc f0_2_4 _)
  have f0_3_5 := keeps hb (cell_alloc f0_3_4 _)
  have g0_5 : w.heap.size < w5.heap.size := block_of_cell f0_0_5
  have f1_0_5 := keeps hb (p := ⟨w4.heap.size, 0, none⟩) (v := .string s0_0) (by simp [go_sem])
  have f1_1_5 := keeps hb (p := ⟨w4.heap.size, 1, none⟩) (v := .int .i64 a0_1) (by simp [go_sem])
  have f1_2_5 := keeps hb (p := ⟨w4.heap.size, 2, none⟩) (v := (.slice A2 n2 c2)) (by simp [go_sem])
  have f1_3_5 := keeps hb (p := ⟨w4.heap.size, 3, none⟩) (v := (.slice A3 n3 c3)) (by simp [go_sem])
  have g1_5 : w4.heap.size < w5.heap.size := block_of_cell f1_0_5
  have R2_5 := Lib.hid (Row.later (R2_4.out.alloc_ _) hb)
  have R3_5 := Lib.hid (Row.later (R3_4.out.alloc_ _) hb)
  clear hb f0_0_4 f0_1_4 f0_2_4 f0_3_4 g0_4 R2_4 R3_4 H4
  go_wp2_with fail
  go_region_held3 (fun w' => w'.cell? ⟨w4.heap.size, 0, none⟩ = some (.string s0_0) ∧ w'.cell? ⟨w4.heap.size, 1, none⟩ = some (.int .i64 a0_1) ∧ w'.cell? ⟨w4.heap.size, 2, none⟩ = some ((.slice A2 n2 c2)) ∧ w'.cell? ⟨w4.heap.size, 3, none⟩ = some ((.slice A3 n3 c3)) ∧ w'.cell? ⟨w.heap.size, 0, none⟩ = some (.string s0_0) ∧ w'.cell? ⟨w.heap.size, 1, none⟩ = some (.int .i64 a0_1) ∧ w'.cell? ⟨w.heap.size, 2, none⟩ = some (v0_2) ∧ w'.cell? ⟨w.heap.size, 3, none⟩ = some (v0_3))
    (first | (refine ⟨?_, ?_, ?_, ?_, ?_, ?_, ?_, ?_⟩ <;> assumption) | (go_split_ands; (refine ⟨?_, ?_, ?_, ?_, ?_, ?_, ?_, ?_⟩ <;> first | assumption | (refine keeps hb ?_; assumption))))
    (first
      | (go_at_call 24; ((with_reducible refine (toAntenna_any s0_0 a0_1 v0_2 x0_2 v0_3 x0_3 _ w.heap.size (by first | omega | (simp <;> omega)) (Rd.below r0_2 (by repeat (first | (with_reducible exact Below.refl _ _) | (with_reducible assumption) | ((with_reducible refine bl_alloc ?_ _ ?_); (focus ((first | omega | (simp <;> omega)); done))) | ((with_reducible refine bl_set ?_ _ ?_); (focus ((first | omega | (simp <;> omega)); done))) | (with_reducible refine below_drewN ?_ _) | (with_reducible refine Below.drew ?_) | ((with_reducible refine bl_trans ?_ H5.out ?_); (focus ((first | omega | (simp <;> omega)); done)))))) (by omega) (Rd.below r0_3 (by repeat (first | (with_reducible exact Below.refl _ _) | (with_reducible assumption) | ((with_reducible refine bl_alloc ?_ _ ?_); (focus ((first | omega | (simp <;> omega)); done))) | ((with_reducible refine bl_set ?_ _ ?_); (focus ((first | omega | (simp <;> omega)); done))) | (with_reducible refine below_drewN ?_ _) | (with_reducible refine Below.drew ?_) | ((with_reducible refine bl_trans ?_ H5.out ?_); (focus ((first | omega | (simp <;> omega)); done)))))) (by omega)).mono ?_); rintro e w6 ⟨A4, n4, c4, A5, n5, c5, rfl, hr4, hr5, ha4_5, hb⟩; have zz6 : w5.heap.size ≤ w6.heap.size := (by have := hb.size; ((try simp at this) <;> omega)); have H6 := Lib.hid (show Below w.heap.size w w6 by repeat (first | (with_reducible exact Below.refl _ _) | (with_reducible assumption) | ((with_reducible refine bl_alloc ?_ _ ?_); (focus ((first | omega | (simp <;> omega)); done))) | ((with_reducible refine bl_set ?_ _ ?_); (focus ((first | omega | (simp <;> omega)); done))) | (with_reducible refine below_drewN ?_ _) | (with_reducible refine Below.drew ?_) | ((with_reducible refine bl_trans ?_ hb ?_); (focus ((first | omega | (simp <;> omega)); done))) | ((with_reducible refine bl_trans ?_ H5.out ?_); (focus ((first | omega | (simp <;> omega)); done))))); have R2_6 := Lib.hid (Row.later1 R2_5.out hb); have R3_6 := Lib.hid (Row.later1 R3_5.out hb); have R4_6 := Lib.hid hr4; have RL4 := Lib.hid (show ∀ g, Value.ownBlock (.slice A4 n4 c4) = some g → w5.heap.size ≤ g ∧ g < w6.heap.size from fun g h => by have l1 := hr4.lt g h; ((try simp at l1) <;> omega)); have RA4_5 := Lib.hid ha4_5; have R5_6 := Lib.hid hr5; have RL5 := Lib.hid (show ∀ g, Value.ownBlock (.slice A5 n5 c5) = some g → w5.heap.size ≤ g ∧ g < w6.heap.size from fun g h => by have l1 := hr5.lt g h; ((try simp at l1) <;> omega)); clear f0_0_5 f0_1_5 f0_2_5 f0_3_5 g0_5 f1_0_5 f1_1_5 f1_2_5 f1_3_5 g1_5 R2_5 R3_5 hr4 ha4_5 hr5 H5))
      | (go_at_call 26; ((with_reducible refine (eqAntenna_any s0_0 a0_1 _ _ _ (x0_2) _ _ R2_6.out R4_6.out _ _ (x0_3) _ _ R3_6.out R5_6.out).mono ?_); rintro e w7 ⟨rfl, hb⟩; have zz7 : w6.heap.size ≤ w7.heap.size := (by have := hb.size; ((try simp at this) <;> omega)); have H7 := Lib.hid (show Below w.heap.size w w7 by repeat (first | (with_reducible exact Below.refl _ _) | (with_reducible assumption) | ((with_reducible refine bl_alloc ?_ _ ?_); (focus ((first | omega | (simp <;> omega)); done))) | ((with_reducible refine bl_set ?_ _ ?_); (focus ((first | omega | (simp <;> omega)); done))) | (with_reducible refine below_drewN ?_ _) | (with_reducible refine Below.drew ?_) | ((with_reducible refine bl_trans ?_ hb ?_); (focus ((first | omega | (simp <;> omega)); done))) | ((with_reducible refine bl_trans ?_ H6.out ?_); (focus ((first | omega | (simp <;> omega)); done))))); clear R2_6 R3_6 R4_6 R5_6 H6)))
  go_wp2_with fail
  go_ret
  exact ⟨rfl, (by repeat (first | (with_reducible exact Below.refl _ _) | (with_reducible assumption) | ((with_reducible refine bl_alloc ?_ _ ?_); (focus ((first | omega | (simp <;> omega)); done))) | ((with_reducible refine bl_set ?_ _ ?_); (focus ((first | omega | (simp <;> omega)); done))) | (with_reducible refine below_drewN ?_ _) | (with_reducible refine Below.drew ?_) | ((with_reducible refine bl_trans ?_ H7.out ?_); (focus ((first | omega | (simp <;> omega)); done)))))⟩
end Go.Proofs.Ytdafkebnmmkeeaa.fnExactGainToward
