/-
  The walk of FnExactBeamAntenna: it returns true, and of what was there nothing has turned. The conditions are what its arguments' readings give.
-/
import Derived.Test.YtphoamgeipoejaaRows
import Derived.Test.YtphoamgeipoejaaLib
import Derived.Test.YtphoamgeipoejaaInt
import Derived.Test.YtphoamgeipoejaaInts
import Derived.Test.YtphoamgeipoejaaIntsB
import Derived.Test.YtphoamgeipoejaaWithin
import Derived.Test.YtphoamgeipoejaaNames
import Derived.Test.YtphoamgeipoejaaAntenna
import Derived.Test.YtphoamgeipoejaaOwn
import Derived.Test.YtphoamgeipoejaaField
import Derived.Test.YtphoamgeipoejaaMinMax
import Derived.Test.YtphoamgeipoejaaBeamB
import Derived.Test.YtphoamgeipoejaaBeamS
import Derived.Test.YtphoamgeipoejaaBeamI
import Derived.Outline
import Derived.Deep.RegionHeld3
import Derived.Deep.DrawnRows
import Derived.OwnWalk
import Derived.Deep.AppendLies
import Derived.Deep.RegionLaw
namespace Go.Proofs.Ytphoamgeipoejaa.fnExactBeamAntenna
open Go.RowKit Go.ChangeShapes Go.WideShapes Go.ChangeAt
set_option linter.unusedVariables false
set_option linter.unusedSimpArgs false

open Go.Proofs.Ytphoamgeipoejaa.ofBeamAntenna
set_option maxRecDepth 20000 in
set_option maxHeartbeats 4000000 in
theorem spec_any (w : World) (s : ByteArray) (is : s.size ≤ maxLen) (g : Int) (ig : In64 g) (a : Int) (ia : In64 a) (b : Int) (ib : In64 b) :
    Calls Try.prog 4 #[.string s, .int .i64 g, .int .i64 a, .int .i64 b] w fun e w' => ∃ A0 n0 c0 A1 n1 c1, e = .returned (.tuple #[.agg #[.string (bmN s g a b), .int .i64 (bmG s g a b), .slice A0 n0 c0, .slice A1 n1 c1], .int .i64 (bmC s g a b)]) ∧ Row 2 w' w.heap.size (.slice A0 n0 c0) (bmH s g a b) ∧ Row 2 w' w.heap.size (.slice A1 n1 c1) (bmV s g a b) ∧ Apart (.slice A0 n0 c0) (.slice A1 n1 c1) ∧ Below w.heap.size w w' := by
  rcases bool_tf (nameB s) with hn | hn
  rotate_left
  · obtain ⟨hx, e5⟩ := bm_c1 (g := g) (a := a) (b := b) hn
    obtain ⟨e1, e2, e3, e4⟩ := bm_no hx
    rw [e1, e2, e3, e4, e5]
    clear e1 e2 e3 e4 e5
    have HE := Lib.hid hn
    have IS := Lib.hid is
    clear hn is hx
    go_enter Try.func4, Try.ntmps4
    go_wp2_with fail
    refine (l01Name_any _ s IS.out).mono ?_
    rintro e w1 ⟨he, hw⟩
    obtain rfl := hw.symm
    clear hw
    rw [HE.out] at he
    subst he
    go_wp2_with (first | (go_at_call 11; go_in) | (go_at_call 10; go_in))
    exact bodyPost_ret (v := .tuple #[.agg #[.string ⟨#[]⟩, .int .i64 0, .slice none 0 0, .slice none 0 0], .int .i64 1]) (by simp [results, Try.results4, go_sem]) rfl ⟨_, _, _, _, _, _, rfl, Row.nil_, Row.nil_, apart_nil, by repeat (first | (with_reducible exact Below.refl _ _) | (with_reducible assumption) | ((with_reducible refine bl_alloc ?_ _ ?_); (focus ((first | omega | (simp <;> omega)); done))) | ((with_reducible refine bl_set ?_ _ ?_); (focus ((first | omega | (simp <;> omega)); done))) | (with_reducible refine below_drewN ?_ _) | (with_reducible refine Below.drew ?_))⟩
  rcases in_cases g (-60000) 60000 with ⟨g0, g1⟩ | t | ⟨g0, t⟩
  rotate_left
  · have hx : ¬ bmOk s g a b := fun h => dec_no t h.2.1.1
    have e5 := bm_c2 hn hx
    obtain ⟨e1, e2, e3, e4⟩ := bm_no hx
    rw [e1, e2, e3, e4, e5]
    clear e1 e2 e3 e4 e5
    have HE := Lib.hid hn
    have IS := Lib.hid is
    clear hn is hx
    go_enter Try.func4, Try.ntmps4
    go_wp2_with fail
    refine (l01Name_any _ s IS.out).mono ?_
    rintro e w1 ⟨he, hw⟩
    obtain rfl := hw.symm
    clear hw
    rw [HE.out] at he
    subst he
    go_wp2_with (first | (go_at_call 11; go_in) | (go_at_call 10; go_in))
    exact bodyPost_ret (v := .tuple #[.agg #[.string ⟨#[]⟩, .int .i64 0, .slice none 0 0, .slice none 0 0], .int .i64 2]) (by simp [results, Try.results4, go_sem]) rfl ⟨_, _, _, _, _, _, rfl, Row.nil_, Row.nil_, apart_nil, by repeat (first | (with_reducible exact Below.refl _ _) | (with_reducible assumption) | ((with_reducible refine bl_alloc ?_ _ ?_); (focus ((first | omega | (simp <;> omega)); done))) | ((with_reducible refine bl_set ?_ _ ?_); (focus ((first | omega | (simp <;> omega)); done))) | (with_reducible refine below_drewN ?_ _) | (with_reducible refine Below.drew ?_))⟩
  · have hx : ¬ bmOk s g a b := fun h => dec_no t h.2.1.2
    have e5 := bm_c2 hn hx
    obtain ⟨e1, e2, e3, e4⟩ := bm_no hx
    rw [e1, e2, e3, e4, e5]
    clear e1 e2 e3 e4 e5
    have HE := Lib.hid hn
    have IS := Lib.hid is
    clear hn is hx
    go_enter Try.func4, Try.ntmps4
    go_wp2_with fail
    refine (l01Name_any _ s IS.out).mono ?_
    rintro e w1 ⟨he, hw⟩
    obtain rfl := hw.symm
    clear hw
    rw [HE.out] at he
    subst he
    go_wp2_with (first | (go_at_call 11; go_in) | (go_at_call 10; go_in))
    exact bodyPost_ret (v := .tuple #[.agg #[.string ⟨#[]⟩, .int .i64 0, .slice none 0 0, .slice none 0 0], .int .i64 2]) (by simp [results, Try.results4, go_sem]) rfl ⟨_, _, _, _, _, _, rfl, Row.nil_, Row.nil_, apart_nil, by repeat (first | (with_reducible exact Below.refl _ _) | (with_reducible assumption) | ((with_reducible refine bl_alloc ?_ _ ?_); (focus ((first | omega | (simp <;> omega)); done))) | ((with_reducible refine bl_set ?_ _ ?_); (focus ((first | omega | (simp <;> omega)); done))) | (with_reducible refine below_drewN ?_ _) | (with_reducible refine Below.drew ?_))⟩
  rcases in_cases a 1 360 with ⟨a0, a1⟩ | t | ⟨a0, t⟩
  rotate_left
  · have hx : ¬ bmOk s g a b := fun h => dec_no t h.2.2.1.1
    have e5 := bm_c2 hn hx
    obtain ⟨e1, e2, e3, e4⟩ := bm_no hx
    rw [e1, e2, e3, e4, e5]
    clear e1 e2 e3 e4 e5
    have HE := Lib.hid hn
    have IS := Lib.hid is
    clear hn is hx
    go_enter Try.func4, Try.ntmps4
    go_wp2_with fail
    refine (l01Name_any _ s IS.out).mono ?_
    rintro e w1 ⟨he, hw⟩
    obtain rfl := hw.symm
    clear hw
    rw [HE.out] at he
    subst he
    go_wp2_with (first | (go_at_call 11; go_in) | (go_at_call 10; go_in))
    exact bodyPost_ret (v := .tuple #[.agg #[.string ⟨#[]⟩, .int .i64 0, .slice none 0 0, .slice none 0 0], .int .i64 2]) (by simp [results, Try.results4, go_sem]) rfl ⟨_, _, _, _, _, _, rfl, Row.nil_, Row.nil_, apart_nil, by repeat (first | (with_reducible exact Below.refl _ _) | (with_reducible assumption) | ((with_reducible refine bl_alloc ?_ _ ?_); (focus ((first | omega | (simp <;> omega)); done))) | ((with_reducible refine bl_set ?_ _ ?_); (focus ((first | omega | (simp <;> omega)); done))) | (with_reducible refine below_drewN ?_ _) | (with_reducible refine Below.drew ?_))⟩
  · have hx : ¬ bmOk s g a b := fun h => dec_no t h.2.2.1.2
    have e5 := bm_c2 hn hx
    obtain ⟨e1, e2, e3, e4⟩ := bm_no hx
    rw [e1, e2, e3, e4, e5]
    clear e1 e2 e3 e4 e5
    have HE := Lib.hid hn
    have IS := Lib.hid is
    clear hn is hx
    go_enter Try.func4, Try.ntmps4
    go_wp2_with fail
    refine (l01Name_any _ s IS.out).mono ?_
    rintro e w1 ⟨he, hw⟩
    obtain rfl := hw.symm
    clear hw
    rw [HE.out] at he
    subst he
    go_wp2_with (first | (go_at_call 11; go_in) | (go_at_call 10; go_in))
    exact bodyPost_ret (v := .tuple #[.agg #[.string ⟨#[]⟩, .int .i64 0, .slice none 0 0, .slice none 0 0], .int .i64 2]) (by simp [results, Try.results4, go_sem]) rfl ⟨_, _, _, _, _, _, rfl, Row.nil_, Row.nil_, apart_nil, by repeat (first | (with_reducible exact Below.refl _ _) | (with_reducible assumption) | ((with_reducible refine bl_alloc ?_ _ ?_); (focus ((first | omega | (simp <;> omega)); done))) | ((with_reducible refine bl_set ?_ _ ?_); (focus ((first | omega | (simp <;> omega)); done))) | (with_reducible refine below_drewN ?_ _) | (with_reducible refine Below.drew ?_))⟩
  rcases in_cases b 1 360 with ⟨b0, b1⟩ | t | ⟨b0, t⟩
  rotate_left
  · have hx : ¬ bmOk s g a b := fun h => dec_no t h.2.2.2.1
    have e5 := bm_c2 hn hx
    obtain ⟨e1, e2, e3, e4⟩ := bm_no hx
    rw [e1, e2, e3, e4, e5]
    clear e1 e2 e3 e4 e5
    have HE := Lib.hid hn
    have IS := Lib.hid is
    clear hn is hx
    go_enter Try.func4, Try.ntmps4
    go_wp2_with fail
    refine (l01Name_any _ s IS.out).mono ?_
    rintro e w1 ⟨he, hw⟩
    obtain rfl := hw.symm
    clear hw
    rw [HE.out] at he
    subst he
    go_wp2_with (first | (go_at_call 11; go_in) | (go_at_call 10; go_in))
    exact bodyPost_ret (v := .tuple #[.agg #[.string ⟨#[]⟩, .int .i64 0, .slice none 0 0, .slice none 0 0], .int .i64 2]) (by simp [results, Try.results4, go_sem]) rfl ⟨_, _, _, _, _, _, rfl, Row.nil_, Row.nil_, apart_nil, by repeat (first | (with_reducible exact Below.refl _ _) | (with_reducible assumption) | ((with_reducible refine bl_alloc ?_ _ ?_); (focus ((first | omega | (simp <;> omega)); done))) | ((with_reducible refine bl_set ?_ _ ?_); (focus ((first | omega | (simp <;> omega)); done))) | (with_reducible refine below_drewN ?_ _) | (with_reducible refine Below.drew ?_))⟩
  · have hx : ¬ bmOk s g a b := fun h => dec_no t h.2.2.2.2
    have e5 := bm_c2 hn hx
    obtain ⟨e1, e2, e3, e4⟩ := bm_no hx
    rw [e1, e2, e3, e4, e5]
    clear e1 e2 e3 e4 e5
    have HE := Lib.hid hn
    have IS := Lib.hid is
    clear hn is hx
    go_enter Try.func4, Try.ntmps4
    go_wp2_with fail
    refine (l01Name_any _ s IS.out).mono ?_
    rintro e w1 ⟨he, hw⟩
    obtain rfl := hw.symm
    clear hw
    rw [HE.out] at he
    subst he
    go_wp2_with (first | (go_at_call 11; go_in) | (go_at_call 10; go_in))
    exact bodyPost_ret (v := .tuple #[.agg #[.string ⟨#[]⟩, .int .i64 0, .slice none 0 0, .slice none 0 0], .int .i64 2]) (by simp [results, Try.results4, go_sem]) rfl ⟨_, _, _, _, _, _, rfl, Row.nil_, Row.nil_, apart_nil, by repeat (first | (with_reducible exact Below.refl _ _) | (with_reducible assumption) | ((with_reducible refine bl_alloc ?_ _ ?_); (focus ((first | omega | (simp <;> omega)); done))) | ((with_reducible refine bl_set ?_ _ ?_); (focus ((first | omega | (simp <;> omega)); done))) | (with_reducible refine below_drewN ?_ _) | (with_reducible refine Below.drew ?_))⟩
  obtain ⟨e1, e2, e3, e4, e5⟩ := bm_yes (s := s) (g := g) (a := a) (b := b) ⟨hn, ⟨g0, g1⟩, ⟨a0, a1⟩, b0, b1⟩
  rw [e1, e2, e3, e4, e5]
  clear e1 e2 e3 e4 e5
  have HE := Lib.hid hn
  have IS := Lib.hid is
  clear hn is ig ia ib
  go_enter Try.func4, Try.ntmps4
  go_wp2_with fail
  refine (l01Name_any _ s IS.out).mono ?_
  rintro e w1 ⟨he, hw⟩
  obtain rfl := hw.symm
  clear hw
  rw [HE.out] at he
  subst he
  go_wp2_with (first | (go_at_call 11; go_in) | (go_at_call 10; go_in))
  refine (l06Beam_any _ s g a b g0 g1 a0 a1 b0 b1).mono ?_
  rintro e w1 ⟨A0, n0, c0, A1, n1, c1, rfl, hr0, hr1, ha, hb⟩
  have R0 := Lib.hid hr0
  have R1 := Lib.hid hr1
  have HB := Lib.hid (show Below w.heap.size w w1 by repeat (first | (with_reducible exact Below.refl _ _) | (with_reducible assumption) | ((with_reducible refine bl_alloc ?_ _ ?_); (focus ((first | omega | (simp <;> omega)); done))) | ((with_reducible refine bl_set ?_ _ ?_); (focus ((first | omega | (simp <;> omega)); done))) | (with_reducible refine below_drewN ?_ _) | (with_reducible refine Below.drew ?_) | ((with_reducible refine bl_trans ?_ hb ?_); (focus ((first | omega | (simp <;> omega)); done)))))
  have SZ := Lib.hid ((SInv.fresh w #[.string ⟨#[]⟩, .int .i64 0, .slice none 0 0, .slice none 0 0] 24).later hb)
  have z0 := SZ.out.cell 0 _ rfl
  have z1 := SZ.out.cell 1 _ rfl
  have z2 := SZ.out.cell 2 _ rfl
  have z3 := SZ.out.cell 3 _ rfl
  have zf := SZ.out.free
  have zz : w.heap.size < w1.heap.size := SZ.out.lt
  clear hr0 hr1 hb
  go_wp2_with fail
  refine bodyPost_ret (v := .tuple #[.agg #[.string s, .int .i64 g, .slice A0 n0 c0, .slice A1 n1 c1], .int .i64 0]) (by simp [results, Try.results4, go_sem, *]) rfl ?_
  refine ⟨_, _, _, _, _, _, rfl, ?_, ?_, ha, by repeat (first | (with_reducible exact Below.refl _ _) | (with_reducible assumption) | ((with_reducible refine bl_alloc ?_ _ ?_); (focus ((first | omega | (simp <;> omega)); done))) | ((with_reducible refine bl_set ?_ _ ?_); (focus ((first | omega | (simp <;> omega)); done))) | (with_reducible refine below_drewN ?_ _) | (with_reducible refine Below.drew ?_) | ((with_reducible refine bl_trans ?_ HB.out ?_); (focus ((first | omega | (simp <;> omega)); done))))⟩
  · refine Row.base_le (base := w.heap.size + 1) ?_ (by omega)
    have h := R0.out
    have h := Row.base_le (b' := w.heap.size + 1) R0.out (by simp)
    repeat (first | (with_reducible exact h) | ((with_reducible refine Row.low ?_ _ ?_); (focus ((first | omega | (simp <;> omega)); done))))
  · refine Row.base_le (base := w.heap.size + 1) ?_ (by omega)
    have h := R1.out
    have h := Row.base_le (b' := w.heap.size + 1) R1.out (by simp)
    repeat (first | (with_reducible exact h) | ((with_reducible refine Row.low ?_ _ ?_); (focus ((first | omega | (simp <;> omega)); done))))
set_option maxRecDepth 20000 in
set_option maxHeartbeats 4000000 in
theorem impl_any (w : World) (s : ByteArray) (is : s.size ≤ maxLen) (g : Int) (ig : In64 g) (a : Int) (ia : In64 a) (b : Int) (ib : In64 b) :
    Calls Try.prog 5 #[.string s, .int .i64 g, .int .i64 a, .int .i64 b] w fun e w' => ∃ A0 n0 c0 A1 n1 c1, e = .returned (.tuple #[.agg #[.string (bmN s g a b), .int .i64 (bmG s g a b), .slice A0 n0 c0, .slice A1 n1 c1], .int .i64 (bmC s g a b)]) ∧ Row 2 w' w.heap.size (.slice A0 n0 c0) (bmH s g a b) ∧ Row 2 w' w.heap.size (.slice A1 n1 c1) (bmV s g a b) ∧ Apart (.slice A0 n0 c0) (.slice A1 n1 c1) ∧ Below w.heap.size w w' := by
  rcases bool_tf (nameB s) with hn | hn
  rotate_left
  · obtain ⟨hx, e5⟩ := bm_c1 (g := g) (a := a) (b := b) hn
    obtain ⟨e1, e2, e3, e4⟩ := bm_no hx
    rw [e1, e2, e3, e4, e5]
    clear e1 e2 e3 e4 e5
    have HE := Lib.hid hn
    have IS := Lib.hid is
    clear hn is hx
    go_enter Try.func5, Try.ntmps5
    go_wp2_with fail
    refine (IsName_any _ s IS.out).mono ?_
    rintro e w1 ⟨he, hw⟩
    obtain rfl := hw.symm
    clear hw
    rw [HE.out] at he
    subst he
    go_wp2_with (first | (go_at_call 15; go_in) | (go_at_call 14; go_in))
    exact bodyPost_ret (v := .tuple #[.agg #[.string ⟨#[]⟩, .int .i64 0, .slice none 0 0, .slice none 0 0], .int .i64 1]) (by simp [results, Try.results5, go_sem]) rfl ⟨_, _, _, _, _, _, rfl, Row.nil_, Row.nil_, apart_nil, by repeat (first | (with_reducible exact Below.refl _ _) | (with_reducible assumption) | ((with_reducible refine bl_alloc ?_ _ ?_); (focus ((first | omega | (simp <;> omega)); done))) | ((with_reducible refine bl_set ?_ _ ?_); (focus ((first | omega | (simp <;> omega)); done))) | (with_reducible refine below_drewN ?_ _) | (with_reducible refine Below.drew ?_))⟩
  rcases in_cases g (-60000) 60000 with ⟨g0, g1⟩ | t | ⟨g0, t⟩
  rotate_left
  · have hx : ¬ bmOk s g a b := fun h => dec_no t h.2.1.1
    have e5 := bm_c2 hn hx
    obtain ⟨e1, e2, e3, e4⟩ := bm_no hx
    rw [e1, e2, e3, e4, e5]
    clear e1 e2 e3 e4 e5
    have HE := Lib.hid hn
    have IS := Lib.hid is
    clear hn is hx
    go_enter Try.func5, Try.ntmps5
    go_wp2_with fail
    refine (IsName_any _ s IS.out).mono ?_
    rintro e w1 ⟨he, hw⟩
    obtain rfl := hw.symm
    clear hw
    rw [HE.out] at he
    subst he
    go_wp2_with (first | (go_at_call 15; go_in) | (go_at_call 14; go_in))
    exact bodyPost_ret (v := .tuple #[.agg #[.string ⟨#[]⟩, .int .i64 0, .slice none 0 0, .slice none 0 0], .int .i64 2]) (by simp [results, Try.results5, go_sem]) rfl ⟨_, _, _, _, _, _, rfl, Row.nil_, Row.nil_, apart_nil, by repeat (first | (with_reducible exact Below.refl _ _) | (with_reducible assumption) | ((with_reducible refine bl_alloc ?_ _ ?_); (focus ((first | omega | (simp <;> omega)); done))) | ((with_reducible refine bl_set ?_ _ ?_); (focus ((first | omega | (simp <;> omega)); done))) | (with_reducible refine below_drewN ?_ _) | (with_reducible refine Below.drew ?_))⟩
  · have hx : ¬ bmOk s g a b := fun h => dec_no t h.2.1.2
    have e5 := bm_c2 hn hx
    obtain ⟨e1, e2, e3, e4⟩ := bm_no hx
    rw [e1, e2, e3, e4, e5]
    clear e1 e2 e3 e4 e5
    have HE := Lib.hid hn
    have IS := Lib.hid is
    clear hn is hx
    go_enter Try.func5, Try.ntmps5
    go_wp2_with fail
    refine (IsName_any _ s IS.out).mono ?_
    rintro e w1 ⟨he, hw⟩
    obtain rfl := hw.symm
    clear hw
    rw [HE.out] at he
    subst he
    go_wp2_with (first | (go_at_call 15; go_in) | (go_at_call 14; go_in))
    exact bodyPost_ret (v := .tuple #[.agg #[.string ⟨#[]⟩, .int .i64 0, .slice none 0 0, .slice none 0 0], .int .i64 2]) (by simp [results, Try.results5, go_sem]) rfl ⟨_, _, _, _, _, _, rfl, Row.nil_, Row.nil_, apart_nil, by repeat (first | (with_reducible exact Below.refl _ _) | (with_reducible assumption) | ((with_reducible refine bl_alloc ?_ _ ?_); (focus ((first | omega | (simp <;> omega)); done))) | ((with_reducible refine bl_set ?_ _ ?_); (focus ((first | omega | (simp <;> omega)); done))) | (with_reducible refine below_drewN ?_ _) | (with_reducible refine Below.drew ?_))⟩
  rcases in_cases a 1 360 with ⟨a0, a1⟩ | t | ⟨a0, t⟩
  rotate_left
  · have hx : ¬ bmOk s g a b := fun h => dec_no t h.2.2.1.1
    have e5 := bm_c2 hn hx
    obtain ⟨e1, e2, e3, e4⟩ := bm_no hx
    rw [e1, e2, e3, e4, e5]
    clear e1 e2 e3 e4 e5
    have HE := Lib.hid hn
    have IS := Lib.hid is
    clear hn is hx
    go_enter Try.func5, Try.ntmps5
    go_wp2_with fail
    refine (IsName_any _ s IS.out).mono ?_
    rintro e w1 ⟨he, hw⟩
    obtain rfl := hw.symm
    clear hw
    rw [HE.out] at he
    subst he
    go_wp2_with (first | (go_at_call 15; go_in) | (go_at_call 14; go_in))
    exact bodyPost_ret (v := .tuple #[.agg #[.string ⟨#[]⟩, .int .i64 0, .slice none 0 0, .slice none 0 0], .int .i64 2]) (by simp [results, Try.results5, go_sem]) rfl ⟨_, _, _, _, _, _, rfl, Row.nil_, Row.nil_, apart_nil, by repeat (first | (with_reducible exact Below.refl _ _) | (with_reducible assumption) | ((with_reducible refine bl_alloc ?_ _ ?_); (focus ((first | omega | (simp <;> omega)); done))) | ((with_reducible refine bl_set ?_ _ ?_); (focus ((first | omega | (simp <;> omega)); done))) | (with_reducible refine below_drewN ?_ _) | (with_reducible refine Below.drew ?_))⟩
  · have hx : ¬ bmOk s g a b := fun h => dec_no t h.2.2.1.2
    have e5 := bm_c2 hn hx
    obtain ⟨e1, e2, e3, e4⟩ := bm_no hx
    rw [e1, e2, e3, e4, e5]
    clear e1 e2 e3 e4 e5
    have HE := Lib.hid hn
    have IS := Lib.hid is
    clear hn is hx
    go_enter Try.func5, Try.ntmps5
    go_wp2_with fail
    refine (IsName_any _ s IS.out).mono ?_
    rintro e w1 ⟨he, hw⟩
    obtain rfl := hw.symm
    clear hw
    rw [HE.out] at he
    subst he
    go_wp2_with (first | (go_at_call 15; go_in) | (go_at_call 14; go_in))
    exact bodyPost_ret (v := .tuple #[.agg #[.string ⟨#[]⟩, .int .i64 0, .slice none 0 0, .slice none 0 0], .int .i64 2]) (by simp [results, Try.results5, go_sem]) rfl ⟨_, _, _, _, _, _, rfl, Row.nil_, Row.nil_, apart_nil, by repeat (first | (with_reducible exact Below.refl _ _) | (with_reducible assumption) | ((with_reducible refine bl_alloc ?_ _ ?_); (focus ((first | omega | (simp <;> omega)); done))) | ((with_reducible refine bl_set ?_ _ ?_); (focus ((first | omega | (simp <;> omega)); done))) | (with_reducible refine below_drewN ?_ _) | (with_reducible refine Below.drew ?_))⟩
  rcases in_cases b 1 360 with ⟨b0, b1⟩ | t | ⟨b0, t⟩
  rotate_left
  · have hx : ¬ bmOk s g a b := fun h => dec_no t h.2.2.2.1
    have e5 := bm_c2 hn hx
    obtain ⟨e1, e2, e3, e4⟩ := bm_no hx
    rw [e1, e2, e3, e4, e5]
    clear e1 e2 e3 e4 e5
    have HE := Lib.hid hn
    have IS := Lib.hid is
    clear hn is hx
    go_enter Try.func5, Try.ntmps5
    go_wp2_with fail
    refine (IsName_any _ s IS.out).mono ?_
    rintro e w1 ⟨he, hw⟩
    obtain rfl := hw.symm
    clear hw
    rw [HE.out] at he
    subst he
    go_wp2_with (first | (go_at_call 15; go_in) | (go_at_call 14; go_in))
    exact bodyPost_ret (v := .tuple #[.agg #[.string ⟨#[]⟩, .int .i64 0, .slice none 0 0, .slice none 0 0], .int .i64 2]) (by simp [results, Try.results5, go_sem]) rfl ⟨_, _, _, _, _, _, rfl, Row.nil_, Row.nil_, apart_nil, by repeat (first | (with_reducible exact Below.refl _ _) | (with_reducible assumption) | ((with_reducible refine bl_alloc ?_ _ ?_); (focus ((first | omega | (simp <;> omega)); done))) | ((with_reducible refine bl_set ?_ _ ?_); (focus ((first | omega | (simp <;> omega)); done))) | (with_reducible refine below_drewN ?_ _) | (with_reducible refine Below.drew ?_))⟩
  · have hx : ¬ bmOk s g a b := fun h => dec_no t h.2.2.2.2
    have e5 := bm_c2 hn hx
    obtain ⟨e1, e2, e3, e4⟩ := bm_no hx
    rw [e1, e2, e3, e4, e5]
    clear e1 e2 e3 e4 e5
    have HE := Lib.hid hn
    have IS := Lib.hid is
    clear hn is hx
    go_enter Try.func5, Try.ntmps5
    go_wp2_with fail
    refine (IsName_any _ s IS.out).mono ?_
    rintro e w1 ⟨he, hw⟩
    obtain rfl := hw.symm
    clear hw
    rw [HE.out] at he
    subst he
    go_wp2_with (first | (go_at_call 15; go_in) | (go_at_call 14; go_in))
    exact bodyPost_ret (v := .tuple #[.agg #[.string ⟨#[]⟩, .int .i64 0, .slice none 0 0, .slice none 0 0], .int .i64 2]) (by simp [results, Try.results5, go_sem]) rfl ⟨_, _, _, _, _, _, rfl, Row.nil_, Row.nil_, apart_nil, by repeat (first | (with_reducible exact Below.refl _ _) | (with_reducible assumption) | ((with_reducible refine bl_alloc ?_ _ ?_); (focus ((first | omega | (simp <;> omega)); done))) | ((with_reducible refine bl_set ?_ _ ?_); (focus ((first | omega | (simp <;> omega)); done))) | (with_reducible refine below_drewN ?_ _) | (with_reducible refine Below.drew ?_))⟩
  exact beam_ok w s is g ig a ia b ib hn g0 g1 a0 a1 b0 b1
set_option maxRecDepth 20000 in
set_option maxHeartbeats 4000000 in
theorem walk (w : World) (s0 : ByteArray) (is0 : s0.size ≤ maxLen) (a1 : Int) (ia1 : In64 a1) (a2 : Int) (ia2 : In64 a2) (a3 : Int) (ia3 : In64 a3) :
    Calls Try.prog 3 #[.string s0, .int .i64 a1, .int .i64 a2, .int .i64 a3] w fun e w' => e = .returned (.bool true) ∧ Below w.heap.size w w' := by
  have hml := bm_len s0 a1 a2 a3
  by_cases ht0 : ¬ (s0.size : Int) ≤ 1048576
  · go_enter Try.func3, Try.ntmps3
    go_wp2_with fail
    go_ret
    exact ⟨rfl, by repeat (first | (with_reducible exact Below.refl _ _) | (with_reducible assumption) | ((with_reducible refine bl_alloc ?_ _ ?_); (focus ((first | omega | (simp <;> omega)); done))) | ((with_reducible refine bl_set ?_ _ ?_); (focus ((first | omega | (simp <;> omega)); done))) | (with_reducible refine below_drewN ?_ _) | (with_reducible refine Below.drew ?_))⟩
  have ht0' : (s0.size : Int) ≤ 1048576 := by omega
  clear ht0
  go_enter Try.func3, Try.ntmps3
  go_wp2_with fail
  refine (spec_any _ s0 is0 a1 ia1 a2 ia2 a3 ia3).mono ?_
  rintro e w1 ⟨A0, n0, c0, A1, n1, c1, rfl, hr0, hr1, ha0_1, hb⟩
  have zz1 : w.heap.size ≤ w1.heap.size := (by have := hb.size; ((try simp at this) <;> omega))
  have H1 := Lib.hid (show Below w.heap.size w w1 by repeat (first | (with_reducible exact Below.refl _ _) | (with_reducible assumption) | ((with_reducible refine bl_alloc ?_ _ ?_); (focus ((first | omega | (simp <;> omega)); done))) | ((with_reducible refine bl_set ?_ _ ?_); (focus ((first | omega | (simp <;> omega)); done))) | (with_reducible refine below_drewN ?_ _) | (with_reducible refine Below.drew ?_) | ((with_reducible refine bl_trans ?_ hb ?_); (focus ((first | omega | (simp <;> omega)); done)))))
  have R0_1 := Lib.hid hr0
  have RL0 := Lib.hid (show ∀ g, Value.ownBlock (.slice A0 n0 c0) = some g → w.heap.size ≤ g ∧ g < w1.heap.size from fun g h => by have l1 := hr0.lt g h; ((try simp at l1) <;> omega))
  have RA0_1 := Lib.hid ha0_1
  have R1_1 := Lib.hid hr1
  have RL1 := Lib.hid (show ∀ g, Value.ownBlock (.slice A1 n1 c1) = some g → w.heap.size ≤ g ∧ g < w1.heap.size from fun g h => by have l1 := hr1.lt g h; ((try simp at l1) <;> omega))
  clear hb hr0 ha0_1 hr1
  go_wp2_with fail
  refine (impl_any _ s0 is0 a1 ia1 a2 ia2 a3 ia3).mono ?_
  rintro e w2 ⟨A2, n2, c2, A3, n3, c3, rfl, hr2, hr3, ha2_3, hb⟩
  have zz2 : w1.heap.size + 1 ≤ w2.heap.size := (by have := hb.size; ((try simp at this) <;> omega))
  have H2 := Lib.hid (show Below w.heap.size w w2 by repeat (first | (with_reducible exact Below.refl _ _) | (with_reducible assumption) | ((with_reducible refine bl_alloc ?_ _ ?_); (focus ((first | omega | (simp <;> omega)); done))) | ((with_reducible refine bl_set ?_ _ ?_); (focus ((first | omega | (simp <;> omega)); done))) | (with_reducible refine below_drewN ?_ _) | (with_reducible refine Below.drew ?_) | ((with_reducible refine bl_trans ?_ hb ?_); (focus ((first | omega | (simp <;> omega)); done))) | ((with_reducible refine bl_trans ?_ H1.out ?_); (focus ((first | omega | (simp <;> omega)); done)))))
  have f0_0_2 := keeps hb (p := ⟨w1.heap.size, 0, none⟩) (v := .string (bmN s0 a1 a2 a3)) (by simp [go_sem])
  have f0_1_2 := keeps hb (p := ⟨w1.heap.size, 1, none⟩) (v := .int .i64 ((bmG s0 a1 a2 a3))) (by simp [go_sem])
  have f0_2_2 := keeps hb (p := ⟨w1.heap.size, 2, none⟩) (v := (.slice A0 n0 c0)) (by simp [go_sem])
  have f0_3_2 := keeps hb (p := ⟨w1.heap.size, 3, none⟩) (v := (.slice A1 n1 c1)) (by simp [go_sem])
  have g0_2 : w1.heap.size < w2.heap.size := block_of_cell f0_0_2
  have R0_2 := Lib.hid (Row.later (R0_1.out.alloc_ _) hb)
  have R1_2 := Lib.hid (Row.later (R1_1.out.alloc_ _) hb)
  have R2_2 := Lib.hid hr2
  have RL2 := Lib.hid (show ∀ g, Value.ownBlock (.slice A2 n2 c2) = some g → w1.heap.size + 1 ≤ g ∧ g < w2.heap.size from fun g h => by have l1 := hr2.lt g h; ((try simp at l1) <;> omega))
  have RA2_3 := Lib.hid ha2_3
  have R3_2 := Lib.hid hr3
  have RL3 := Lib.hid (show ∀ g, Value.ownBlock (.slice A3 n3 c3) = some g → w1.heap.size + 1 ≤ g ∧ g < w2.heap.size from fun g h => by have l1 := hr3.lt g h; ((try simp at l1) <;> omega))
  clear hb R0_1 R1_1 hr2 ha2_3 hr3 H1
  go_wp2_with fail
  refine (eqAntenna_any ((bmN s0 a1 a2 a3)) ((bmG s0 a1 a2 a3)) _ _ _ ((bmH s0 a1 a2 a3)) _ _ (R2_2.out.alloc_ _) (R0_2.out.alloc_ _) _ _ ((bmV s0 a1 a2 a3)) _ _ (R3_2.out.alloc_ _) (R1_2.out.alloc_ _)).mono ?_
  rintro e w3 ⟨rfl, hb⟩
  have zz3 : w2.heap.size + 1 ≤ w3.heap.size := (by have := hb.size; ((try simp at this) <;> omega))
  have H3 := Lib.hid (show Below w.heap.size w w3 by repeat (first | (with_reducible exact Below.refl _ _) | (with_reducible assumption) | ((with_reducible refine bl_alloc ?_ _ ?_); (focus ((first | omega | (simp <;> omega)); done))) | ((with_reducible refine bl_set ?_ _ ?_); (focus ((first | omega | (simp <;> omega)); done))) | (with_reducible refine below_drewN ?_ _) | (with_reducible refine Below.drew ?_) | ((with_reducible refine bl_trans ?_ hb ?_); (focus ((first | omega | (simp <;> omega)); done))) | ((with_reducible refine bl_trans ?_ H2.out ?_); (focus ((first | omega | (simp <;> omega)); done)))))
  have f0_0_3 := keeps hb (cell_alloc f0_0_2 _)
  have f0_1_3 := keeps hb (cell_alloc f0_1_2 _)
  have f0_2_3 := keeps hb (cell_alloc f0_2_2 _)
  have f0_3_3 := keeps hb (cell_alloc f0_3_2 _)
  have g0_3 : w1.heap.size < w3.heap.size := block_of_cell f0_0_3
  have f1_0_3 := keeps hb (p := ⟨w2.heap.size, 0, none⟩) (v := .string (bmN s0 a1 a2 a3)) (by simp [go_sem])
  have f1_1_3 := keeps hb (p := ⟨w2.heap.size, 1, none⟩) (v := .int .i64 ((bmG s0 a1 a2 a3))) (by simp [go_sem])
  have f1_2_3 := keeps hb (p := ⟨w2.heap.size, 2, none⟩) (v := (.slice A2 n2 c2)) (by simp [go_sem])
  have f1_3_3 := keeps hb (p := ⟨w2.heap.size, 3, none⟩) (v := (.slice A3 n3 c3)) (by simp [go_sem])
  have g1_3 : w2.heap.size < w3.heap.size := block_of_cell f1_0_3
  have R0_3 := Lib.hid (Row.later (R0_2.out.alloc_ _) hb)
  have R1_3 := Lib.hid (Row.later (R1_2.out.alloc_ _) hb)
  have R2_3 := Lib.hid (Row.later (R2_2.out.alloc_ _) hb)
  have R3_3 := Lib.hid (Row.later (R3_2.out.alloc_ _) hb)
  clear hb f0_0_2 f0_1_2 f0_2_2 f0_3_2 g0_2 R0_2 R1_2 R2_2 R3_2 H2
  go_wp2_with fail
  refine (markAntenna_any ((bmN s0 a1 a2 a3)) ((bmG s0 a1 a2 a3)) _ _ _ ((bmH s0 a1 a2 a3)) _ R2_3.out _ ((bmV s0 a1 a2 a3)) _ R3_3.out RA2_3.out (by omega) (by omega)).mono ?_
  rintro e w4 ⟨rfl, hr2, hr3, hb⟩
  have zz4 : w3.heap.size ≤ w4.heap.size := (by have := hb.size; ((try simp at this) <;> omega))
  have H4 := Lib.hid (show Below w.heap.size w w4 from Below.trans (by repeat (first | (with_reducible exact Below.refl _ _) | (with_reducible assumption) | ((with_reducible refine bl_alloc ?_ _ ?_); (focus ((first | omega | (simp <;> omega)); done))) | ((with_reducible refine bl_set ?_ _ ?_); (focus ((first | omega | (simp <;> omega)); done))) | (with_reducible refine below_drewN ?_ _) | (with_reducible refine Below.drew ?_) | ((with_reducible refine bl_trans ?_ H3.out ?_); (focus ((first | omega | (simp <;> omega)); done))))) (hb.below (by first | omega | (simp <;> omega)) (fun g hs => by rcases hs with hs | hs <;> first | (have := (RL2.out g hs).1; omega) | (have := (RL3.out g hs).1; omega))))
  have f0_0_4 := keepsW hb f0_0_3 (fun hs => by rcases hs with hs | hs <;> first | (have := RL2.out _ hs; ((try simp at this) <;> omega)) | (have := RL3.out _ hs; ((try simp at this) <;> omega)))
  have f0_1_4 := keepsW hb f0_1_3 (fun hs => by rcases hs with hs | hs <;> first | (have := RL2.out _ hs; ((try simp at this) <;> omega)) | (have := RL3.out _ hs; ((try simp at this) <;> omega)))
  have f0_2_4 := keepsW hb f0_2_3 (fun hs => by rcases hs with hs | hs <;> first | (have := RL2.out _ hs; ((try simp at this) <;> omega)) | (have := RL3.out _ hs; ((try simp at this) <;> omega)))
  have f0_3_4 := keepsW hb f0_3_3 (fun hs => by rcases hs with hs | hs <;> first | (have := RL2.out _ hs; ((try simp at this) <;> omega)) | (have := RL3.out _ hs; ((try simp at this) <;> omega)))
  have g0_4 : w1.heap.size < w4.heap.size := block_of_cell f0_0_4
  have f1_0_4 := keepsW hb f1_0_3 (fun hs => by rcases hs with hs | hs <;> first | (have := RL2.out _ hs; ((try simp at this) <;> omega)) | (have := RL3.out _ hs; ((try simp at this) <;> omega)))
  have f1_1_4 := keepsW hb f1_1_3 (fun hs => by rcases hs with hs | hs <;> first | (have := RL2.out _ hs; ((try simp at this) <;> omega)) | (have := RL3.out _ hs; ((try simp at this) <;> omega)))
  have f1_2_4 := keepsW hb f1_2_3 (fun hs => by rcases hs with hs | hs <;> first | (have := RL2.out _ hs; ((try simp at this) <;> omega)) | (have := RL3.out _ hs; ((try simp at this) <;> omega)))
  have f1_3_4 := keepsW hb f1_3_3 (fun hs => by rcases hs with hs | hs <;> first | (have := RL2.out _ hs; ((try simp at this) <;> omega)) | (have := RL3.out _ hs; ((try simp at this) <;> omega)))
  have g1_4 : w2.heap.size < w4.heap.size := block_of_cell f1_0_4
  have R0_4 := Lib.hid (Row.writes R0_3.out hb (fun g h hs => by have h1 := RL0.out g h; rcases hs with hs | hs <;> first | (have h2 := RL2.out g hs; omega) | (have h2 := RL3.out g hs; omega)))
  have R1_4 := Lib.hid (Row.writes R1_3.out hb (fun g h hs => by have h1 := RL1.out g h; rcases hs with hs | hs <;> first | (have h2 := RL2.out g hs; omega) | (have h2 := RL3.out g hs; omega)))
  have R2_4 := Lib.hid hr2
  have R3_4 := Lib.hid hr3
  clear hb f0_0_3 f0_1_3 f0_2_3 f0_3_3 g0_3 f1_0_3 f1_1_3 f1_2_3 f1_3_3 g1_3 R0_3 R1_3 R2_3 hr2 R3_3 hr3 H3
  go_wp2_with fail
  refine (heldAntenna_any ((bmN s0 a1 a2 a3)) ((bmG s0 a1 a2 a3)) _ _ _ _ _ R2_4.out _ _ _ R3_4.out (by omega) (by omega)).mono ?_
  rintro e w5 ⟨rfl, hb⟩
  have zz5 : w4.heap.size ≤ w5.heap.size := (by have := hb.size; ((try simp at this) <;> omega))
  have H5 := Lib.hid (show Below w.heap.size w w5 by repeat (first | (with_reducible exact Below.refl _ _) | (with_reducible assumption) | ((with_reducible refine bl_alloc ?_ _ ?_); (focus ((first | omega | (simp <;> omega)); done))) | ((with_reducible refine bl_set ?_ _ ?_); (focus ((first | omega | (simp <;> omega)); done))) | (with_reducible refine below_drewN ?_ _) | (with_reducible refine Below.drew ?_) | ((with_reducible refine bl_trans ?_ hb ?_); (focus ((first | omega | (simp <;> omega)); done))) | ((with_reducible refine bl_trans ?_ H4.out ?_); (focus ((first | omega | (simp <;> omega)); done)))))
  have f0_0_5 := keeps hb f0_0_4
  have f0_1_5 := keeps hb f0_1_4
  have f0_2_5 := keeps hb f0_2_4
  have f0_3_5 := keeps hb f0_3_4
  have g0_5 : w1.heap.size < w5.heap.size := block_of_cell f0_0_5
  have f1_0_5 := keeps hb f1_0_4
  have f1_1_5 := keeps hb f1_1_4
  have f1_2_5 := keeps hb f1_2_4
  have f1_3_5 := keeps hb f1_3_4
  have g1_5 : w2.heap.size < w5.heap.size := block_of_cell f1_0_5
  have R0_5 := Lib.hid (Row.later R0_4.out hb)
  have R1_5 := Lib.hid (Row.later R1_4.out hb)
  have R2_5 := Lib.hid (Row.later R2_4.out hb)
  have R3_5 := Lib.hid (Row.later R3_4.out hb)
  clear hb f0_0_4 f0_1_4 f0_2_4 f0_3_4 g0_4 f1_0_4 f1_1_4 f1_2_4 f1_3_4 g1_4 R0_4 R1_4 R2_4 R3_4 H4
  go_wp2_with fail
  refine (impl_any _ s0 is0 a1 ia1 a2 ia2 a3 ia3).mono ?_
  rintro e w6 ⟨A4, n4, c4, A5, n5, c5, rfl, hr4, hr5, ha4_5, hb⟩
  have zz6 : w5.heap.size ≤ w6.heap.size := (by have := hb.size; ((try simp at this) <;> omega))
  have H6 := Lib.hid (show Below w.heap.size w w6 by repeat (first | (with_reducible exact Below.refl _ _) | (with_reducible assumption) | ((with_reducible refine bl_alloc ?_ _ ?_); (focus ((first | omega | (simp <;> omega)); done))) | ((with_reducible refine bl_set ?_ _ ?_); (focus ((first | omega | (simp <;> omega)); done))) | (with_reducible refine below_drewN ?_ _) | (with_reducible refine Below.drew ?_) | ((with_reducible refine bl_trans ?_ hb ?_); (focus ((first | omega | (simp <;> omega)); done))) | ((with_reducible refine bl_trans ?_ H5.out ?_); (focus ((first | omega | (simp <;> omega)); done)))))
  have f0_0_6 := keeps hb f0_0_5
  have f0_1_6 := keeps hb f0_1_5
  have f0_2_6 := keeps hb f0_2_5
  have f0_3_6 := keeps hb f0_3_5
  have g0_6 : w1.heap.size < w6.heap.size := block_of_cell f0_0_6
  have f1_0_6 := keeps hb f1_0_5
  have f1_1_6 := keeps hb f1_1_5
  have f1_2_6 := keeps hb f1_2_5
  have f1_3_6 := keeps hb f1_3_5
  have g1_6 : w2.heap.size < w6.heap.size := block_of_cell f1_0_6
  have R0_6 := Lib.hid (Row.later R0_5.out hb)
  have R1_6 := Lib.hid (Row.later R1_5.out hb)
  have R2_6 := Lib.hid (Row.later R2_5.out hb)
  have R3_6 := Lib.hid (Row.later R3_5.out hb)
  have R4_6 := Lib.hid hr4
  have RL4 := Lib.hid (show ∀ g, Value.ownBlock (.slice A4 n4 c4) = some g → w5.heap.size ≤ g ∧ g < w6.heap.size from fun g h => by have l1 := hr4.lt g h; ((try simp at l1) <;> omega))
  have RA4_5 := Lib.hid ha4_5
  have R5_6 := Lib.hid hr5
  have RL5 := Lib.hid (show ∀ g, Value.ownBlock (.slice A5 n5 c5) = some g → w5.heap.size ≤ g ∧ g < w6.heap.size from fun g h => by have l1 := hr5.lt g h; ((try simp at l1) <;> omega))
  clear hb f0_0_5 f0_1_5 f0_2_5 f0_3_5 g0_5 f1_0_5 f1_1_5 f1_2_5 f1_3_5 g1_5 R0_5 R1_5 R2_5 R3_5 hr4 ha4_5 hr5 H5
  go_wp2_with fail
  refine (eqAntenna_any ((bmN s0 a1 a2 a3)) ((bmG s0 a1 a2 a3)) _ _ _ ((bmH s0 a1 a2 a3)) _ _ (R4_6.out.alloc_ _) (R0_6.out.alloc_ _) _ _ ((bmV s0 a1 a2 a3)) _ _ (R5_6.out.alloc_ _) (R1_6.out.alloc_ _)).mono ?_
  rintro e w7 ⟨rfl, hb⟩
  have zz7 : w6.heap.size + 1 ≤ w7.heap.size := (by have := hb.size; ((try simp at this) <;> omega))
  have H7 := Lib.hid (show Below w.heap.size w w7 by repeat (first | (with_reducible exact Below.refl _ _) | (with_reducible assumption) | ((with_reducible refine bl_alloc ?_ _ ?_); (focus ((first | omega | (simp <;> omega)); done))) | ((with_reducible refine bl_set ?_ _ ?_); (focus ((first | omega | (simp <;> omega)); done))) | (with_reducible refine below_drewN ?_ _) | (with_reducible refine Below.drew ?_) | ((with_reducible refine bl_trans ?_ hb ?_); (focus ((first | omega | (simp <;> omega)); done))) | ((with_reducible refine bl_trans ?_ H6.out ?_); (focus ((first | omega | (simp <;> omega)); done)))))
  have f1_0_7 := keeps hb (cell_alloc f1_0_6 _)
  have f1_1_7 := keeps hb (cell_alloc f1_1_6 _)
  have f1_2_7 := keeps hb (cell_alloc f1_2_6 _)
  have f1_3_7 := keeps hb (cell_alloc f1_3_6 _)
  have g1_7 : w2.heap.size < w7.heap.size := block_of_cell f1_0_7
  have R2_7 := Lib.hid (Row.later (R2_6.out.alloc_ _) hb)
  have R3_7 := Lib.hid (Row.later (R3_6.out.alloc_ _) hb)
  clear hb f0_0_6 f0_1_6 f0_2_6 f0_3_6 g0_6 f1_0_6 f1_1_6 f1_2_6 f1_3_6 g1_6 R0_6 R1_6 R2_6 R3_6 R4_6 R5_6 H6
  go_wp2_with fail
  refine (heldAntenna_any ((bmN s0 a1 a2 a3)) ((bmG s0 a1 a2 a3)) _ _ _ _ _ R2_7.out _ _ _ R3_7.out (by omega) (by omega)).mono ?_
  rintro e w8 ⟨rfl, hb⟩
  have zz8 : w7.heap.size ≤ w8.heap.size := (by have := hb.size; ((try simp at this) <;> omega))
  have H8 := Lib.hid (show Below w.heap.size w w8 by repeat (first | (with_reducible exact Below.refl _ _) | (with_reducible assumption) | ((with_reducible refine bl_alloc ?_ _ ?_); (focus ((first | omega | (simp <;> omega)); done))) | ((with_reducible refine bl_set ?_ _ ?_); (focus ((first | omega | (simp <;> omega)); done))) | (with_reducible refine below_drewN ?_ _) | (with_reducible refine Below.drew ?_) | ((with_reducible refine bl_trans ?_ hb ?_); (focus ((first | omega | (simp <;> omega)); done))) | ((with_reducible refine bl_trans ?_ H7.out ?_); (focus ((first | omega | (simp <;> omega)); done)))))
  clear hb f1_0_7 f1_1_7 f1_2_7 f1_3_7 g1_7 R2_7 R3_7 H7
  go_wp2_with fail
  go_ret
  exact ⟨rfl, (by repeat (first | (with_reducible exact Below.refl _ _) | (with_reducible assumption) | ((with_reducible refine bl_alloc ?_ _ ?_); (focus ((first | omega | (simp <;> omega)); done))) | ((with_reducible refine bl_set ?_ _ ?_); (focus ((first | omega | (simp <;> omega)); done))) | (with_reducible refine below_drewN ?_ _) | (with_reducible refine Below.drew ?_) | ((with_reducible refine bl_trans ?_ H8.out ?_); (focus ((first | omega | (simp <;> omega)); done)))))⟩
end Go.Proofs.Ytphoamgeipoejaa.fnExactBeamAntenna
