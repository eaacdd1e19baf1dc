/-
  The walk of FnExactRateAt: it returns true, and of what was there nothing has turned. The conditions are what its arguments' readings give.
-/
import Derived.Test.YtlpjcebpfmhpnaaDoorRows
import Derived.Test.YtlpjcebpfmhpnaaDoorLib
import Derived.Test.YtlpjcebpfmhpnaaDoorShelf
import Derived.Test.YtlpjcebpfmhpnaaDoorDec
import Derived.Test.YtlpjcebpfmhpnaaDoorPow
import Derived.Test.YtlpjcebpfmhpnaaDoorInt
import Derived.Test.YtlpjcebpfmhpnaaDoorWithin
import Derived.Test.YtlpjcebpfmhpnaaDoorNames
import Derived.Test.YtlpjcebpfmhpnaaDoorRadioB
import Derived.Test.YtlpjcebpfmhpnaaDoorModes
import Derived.Test.YtlpjcebpfmhpnaaDoorRadios
import Derived.Test.YtlpjcebpfmhpnaaDoorRadioS
import Derived.Test.YtlpjcebpfmhpnaaDoorRadio
import Derived.Test.YtlpjcebpfmhpnaaDoorLogS
import Derived.Test.YtlpjcebpfmhpnaaDoorLogI
import Derived.Test.YtlpjcebpfmhpnaaDoorFloor
import Derived.Test.YtlpjcebpfmhpnaaDoorBest
import Derived.Test.YtlpjcebpfmhpnaaDoorSnr
import Derived.Outline
import Derived.Deep.RegionHeld3
import Derived.Deep.DrawnRows
namespace Go.Proofs.YtlpjcebpfmhpnaaDoor.fnExactRateAt
open Go.RowKit Go.ChangeShapes Go.WideShapes Go.ChangeAt
set_option linter.unusedVariables false
set_option linter.unusedSimpArgs false

attribute [local go_sem ↓] Go.wp_at_zero Go.wp_at_succ
def rateV (ms : List (Int × Int)) (t : Int) : Int := if bestV ms t < 0 then 0 else (ms.getD (bestV ms t).toNat (0, 0)).2
theorem rateV_no {ms : List (Int × Int)} {t : Int} (h : bestV ms t < 0) : rateV ms t = 0 := if_pos h
theorem rateV_yes {ms : List (Int × Int)} {t : Int} {j : Nat} (h : bestV ms t = j) : rateV ms t = (ms.getD j (0, 0)).2 := by
  unfold rateV
  rw [h, if_neg (by omega), Int.toNat_natCast]
def rateM (s : ByteArray) (p f n wd : Int) (ms : List (Int × Int)) (l : Int) : Int := if radB s p f n wd ms = true then (if -300000 ≤ l ∧ l ≤ 300000 then rateV ms (l - f - flV wd n) else 0) else 0
theorem rateM_bad {s : ByteArray} {p f n wd : Int} {ms : List (Int × Int)} {l : Int} (h : radB s p f n wd ms = false) : rateM s p f n wd ms l = 0 := if_neg (by rw [h]; decide)
theorem rateM_out {s : ByteArray} {p f n wd : Int} {ms : List (Int × Int)} {l : Int} (h1 : ¬ (-300000 ≤ l ∧ l ≤ 300000)) : rateM s p f n wd ms l = 0 := by
  unfold rateM
  rw [if_neg h1]
  split <;> rfl
theorem rateM_yes {s : ByteArray} {p f n wd : Int} {ms : List (Int × Int)} {l : Int} (h : radB s p f n wd ms = true) (h1 : -300000 ≤ l ∧ l ≤ 300000) : rateM s p f n wd ms l = rateV ms (l - f - flV wd n) := by
  unfold rateM
  rw [if_pos h, if_pos h1]
set_option maxRecDepth 20000 in
theorem l07Rate_any (w : World) (o : Nat) (v : Value) (ms : List (Int × Int)) (q : Nat) (hr : RowM 57 w q v ms) (x5 : w.cell? ⟨o, 5, none⟩ = some v) (snr : Int) :
    Calls Tryd.prog 37 #[.pointer (some ⟨o, 0, none⟩), .int .i64 snr] w fun e w' => e = .returned (.int .i64 (rateV ms snr)) ∧ w = w' := by
  have hform := hr.forms
  have HR := Lib.hid hr
  clear hr
  by_cases hz : bestV ms snr < 0
  · rw [rateV_no hz]
    obtain ⟨B, hB⟩ : ∃ B, B = bestV ms snr := ⟨_, rfl⟩
    rw [← hB] at hz
    have HB := Lib.hid hB
    have hd := decide_eq_true hz
    clear hB hform
    go_enter Tryd.func37, Tryd.ntmps37
    go_wp2_with fail
    refine (l07Best_any _ o v ms q HR.out x5 snr).mono ?_
    rintro e w1 ⟨he, rfl⟩
    rw [← HB.out] at he
    subst he
    go_wp2_with fail
    go_ret
    exact ⟨rfl, rfl⟩
  · obtain ⟨b0, b1⟩ := bestV_bd ms snr
    obtain ⟨j, hj⟩ : ∃ j : Nat, bestV ms snr = j := ⟨(bestV ms snr).toNat, by omega⟩
    rw [rateV_yes hj]
    have hjm : j < ms.length := by omega
    rcases hform with ⟨_, h0⟩ | ⟨g, cap, rfl, _, la, hc, _⟩
    · rw [h0] at hjm; simp at hjm
    have c2 := (hc j hjm).2
    have HJ := Lib.hid hj
    clear hz b0 b1 hj hc
    obtain ⟨m, hmm⟩ : ∃ m, m = ms.length := ⟨_, rfl⟩
    rw [← hmm] at x5 HR hjm
    clear hmm
    generalize (ms.getD j (0, 0)).2 = y at c2 ⊢
    have i0 : (0 : Int) ≤ (j : Int) := Int.natCast_nonneg _
    have i1 : (j : Int) < (m : Int) := by omega
    go_enter Tryd.func37, Tryd.ntmps37
    go_wp2_with fail
    refine (l07Best_any _ o _ ms q HR.out x5 snr).mono ?_
    rintro e w1 ⟨he, rfl⟩
    rw [HJ.out] at he
    subst he
    go_wp2_with fail
    go_ret
    exact ⟨rfl, rfl⟩
set_option maxRecDepth 20000 in
set_option maxHeartbeats 4000000 in
theorem spec_any (w : World) (s : ByteArray) (is : s.size ≤ maxLen) (p : Int) (ip : In64 p) (f : Int) (jf : In64 f) (n : Int) (jn : In64 n) (wd : Int) (iw : In64 wd) (v : Value) (ms : List (Int × Int)) (q : Nat) (hr : RowM 57 w q v ms) (ims : ∀ m ∈ ms, In64 m.1 ∧ In64 m.2) (l : Int) (il : In64 l) :
    Calls Tryd.prog 15 #[.agg #[.string s, .int .i64 p, .int .i64 f, .int .i64 n, .int .i64 wd, v], .int .i64 l] w fun e w' => e = .returned (.int .i64 (rateM s p f n wd ms l)) ∧ Below w.heap.size w w' := by
  have IS := Lib.hid is
  have HR := Lib.hid hr
  have hform := hr.forms
  clear ims
  clear is hr
  rcases bool_tf (radB s p f n wd ms) with hv | hv
  rotate_left
  · rw [rateM_bad hv]
    have HE := Lib.hid hv
    clear hv hform
    go_enter Tryd.func15, Tryd.ntmps15
    go_wp2_with fail
    refine (l07Ok_any _ w.heap.size s IS.out p f n wd v ms q (HR.out.alloc_ _) (by simp [go_sem]) (by simp [go_sem]) (by simp [go_sem]) (by simp [go_sem]) (by simp [go_sem]) (by simp [go_sem])).mono ?_
    rintro e w1 ⟨he, hb⟩
    rw [HE.out] at he
    subst he
    have H1 := Lib.hid (show Below w.heap.size w w1 by repeat (first | (with_reducible exact Below.refl _ _) | (with_reducible assumption) | ((with_reducible refine bl_alloc ?_ _ ?_); (focus ((first | omega | (simp <;> omega)); done))) | ((with_reducible refine bl_set ?_ _ ?_); (focus ((first | omega | (simp <;> omega)); done))) | (with_reducible refine below_drewN ?_ _) | (with_reducible refine Below.drew ?_) | ((with_reducible refine bl_trans ?_ hb ?_); (focus ((first | omega | (simp <;> omega)); done)))))
    have x0 := keeps hb (p := ⟨w.heap.size, 0, none⟩) (v := .string s) (by simp [go_sem])
    have x1 := keeps hb (p := ⟨w.heap.size, 1, none⟩) (v := .int .i64 p) (by simp [go_sem])
    have x2 := keeps hb (p := ⟨w.heap.size, 2, none⟩) (v := .int .i64 f) (by simp [go_sem])
    have x3 := keeps hb (p := ⟨w.heap.size, 3, none⟩) (v := .int .i64 n) (by simp [go_sem])
    have x4 := keeps hb (p := ⟨w.heap.size, 4, none⟩) (v := .int .i64 wd) (by simp [go_sem])
    have x5 := keeps hb (p := ⟨w.heap.size, 5, none⟩) (v := v) (by simp [go_sem])
    have lW : w.heap.size < w1.heap.size := block_of_cell x5
    have zz : w.heap.size ≤ w1.heap.size := by omega
    have HRR := Lib.hid ((HR.out.alloc_ (.cells #[.string s, .int .i64 p, .int .i64 f, .int .i64 n, .int .i64 wd, v] 30)).later hb)
    clear hb
    go_wp2_with (first | (go_at_call 49; go_in) | (go_at_call 36; go_in))
    all_goals go_ret
    all_goals exact ⟨rfl, by repeat (first | (with_reducible exact Below.refl _ _) | (with_reducible assumption) | ((with_reducible refine bl_alloc ?_ _ ?_); (focus ((first | omega | (simp <;> omega)); done))) | ((with_reducible refine bl_set ?_ _ ?_); (focus ((first | omega | (simp <;> omega)); done))) | (with_reducible refine below_drewN ?_ _) | (with_reducible refine Below.drew ?_) | ((with_reducible refine bl_trans ?_ H1.out ?_); (focus ((first | omega | (simp <;> omega)); done))))⟩
  rcases in_cases l (-300000) 300000 with ⟨t0, u0⟩ | t0 | ⟨t0, u0⟩
  rotate_left
  · rw [rateM_out (fun h => dec_no t0 h.1)]
    have HE := Lib.hid hv
    clear hv hform
    go_enter Tryd.func15, Tryd.ntmps15
    go_wp2_with fail
    refine (l07Ok_any _ w.heap.size s IS.out p f n wd v ms q (HR.out.alloc_ _) (by simp [go_sem]) (by simp [go_sem]) (by simp [go_sem]) (by simp [go_sem]) (by simp [go_sem]) (by simp [go_sem])).mono ?_
    rintro e w1 ⟨he, hb⟩
    rw [HE.out] at he
    subst he
    have H1 := Lib.hid (show Below w.heap.size w w1 by repeat (first | (with_reducible exact Below.refl _ _) | (with_reducible assumption) | ((with_reducible refine bl_alloc ?_ _ ?_); (focus ((first | omega | (simp <;> omega)); done))) | ((with_reducible refine bl_set ?_ _ ?_); (focus ((first | omega | (simp <;> omega)); done))) | (with_reducible refine below_drewN ?_ _) | (with_reducible refine Below.drew ?_) | ((with_reducible refine bl_trans ?_ hb ?_); (focus ((first | omega | (simp <;> omega)); done)))))
    have x0 := keeps hb (p := ⟨w.heap.size, 0, none⟩) (v := .string s) (by simp [go_sem])
    have x1 := keeps hb (p := ⟨w.heap.size, 1, none⟩) (v := .int .i64 p) (by simp [go_sem])
    have x2 := keeps hb (p := ⟨w.heap.size, 2, none⟩) (v := .int .i64 f) (by simp [go_sem])
    have x3 := keeps hb (p := ⟨w.heap.size, 3, none⟩) (v := .int .i64 n) (by simp [go_sem])
    have x4 := keeps hb (p := ⟨w.heap.size, 4, none⟩) (v := .int .i64 wd) (by simp [go_sem])
    have x5 := keeps hb (p := ⟨w.heap.size, 5, none⟩) (v := v) (by simp [go_sem])
    have lW : w.heap.size < w1.heap.size := block_of_cell x5
    have zz : w.heap.size ≤ w1.heap.size := by omega
    have HRR := Lib.hid ((HR.out.alloc_ (.cells #[.string s, .int .i64 p, .int .i64 f, .int .i64 n, .int .i64 wd, v] 30)).later hb)
    clear hb
    go_wp2_with (first | (go_at_call 49; go_in) | (go_at_call 36; go_in))
    all_goals go_ret
    all_goals exact ⟨rfl, by repeat (first | (with_reducible exact Below.refl _ _) | (with_reducible assumption) | ((with_reducible refine bl_alloc ?_ _ ?_); (focus ((first | omega | (simp <;> omega)); done))) | ((with_reducible refine bl_set ?_ _ ?_); (focus ((first | omega | (simp <;> omega)); done))) | (with_reducible refine below_drewN ?_ _) | (with_reducible refine Below.drew ?_) | ((with_reducible refine bl_trans ?_ H1.out ?_); (focus ((first | omega | (simp <;> omega)); done))))⟩
  · rw [rateM_out (fun h => dec_no u0 h.2)]
    have HE := Lib.hid hv
    clear hv hform
    go_enter Tryd.func15, Tryd.ntmps15
    go_wp2_with fail
    refine (l07Ok_any _ w.heap.size s IS.out p f n wd v ms q (HR.out.alloc_ _) (by simp [go_sem]) (by simp [go_sem]) (by simp [go_sem]) (by simp [go_sem]) (by simp [go_sem]) (by simp [go_sem])).mono ?_
    rintro e w1 ⟨he, hb⟩
    rw [HE.out] at he
    subst he
    have H1 := Lib.hid (show Below w.heap.size w w1 by repeat (first | (with_reducible exact Below.refl _ _) | (with_reducible assumption) | ((with_reducible refine bl_alloc ?_ _ ?_); (focus ((first | omega | (simp <;> omega)); done))) | ((with_reducible refine bl_set ?_ _ ?_); (focus ((first | omega | (simp <;> omega)); done))) | (with_reducible refine below_drewN ?_ _) | (with_reducible refine Below.drew ?_) | ((with_reducible refine bl_trans ?_ hb ?_); (focus ((first | omega | (simp <;> omega)); done)))))
    have x0 := keeps hb (p := ⟨w.heap.size, 0, none⟩) (v := .string s) (by simp [go_sem])
    have x1 := keeps hb (p := ⟨w.heap.size, 1, none⟩) (v := .int .i64 p) (by simp [go_sem])
    have x2 := keeps hb (p := ⟨w.heap.size, 2, none⟩) (v := .int .i64 f) (by simp [go_sem])
    have x3 := keeps hb (p := ⟨w.heap.size, 3, none⟩) (v := .int .i64 n) (by simp [go_sem])
    have x4 := keeps hb (p := ⟨w.heap.size, 4, none⟩) (v := .int .i64 wd) (by simp [go_sem])
    have x5 := keeps hb (p := ⟨w.heap.size, 5, none⟩) (v := v) (by simp [go_sem])
    have lW : w.heap.size < w1.heap.size := block_of_cell x5
    have zz : w.heap.size ≤ w1.heap.size := by omega
    have HRR := Lib.hid ((HR.out.alloc_ (.cells #[.string s, .int .i64 p, .int .i64 f, .int .i64 n, .int .i64 wd, v] 30)).later hb)
    clear hb
    go_wp2_with (first | (go_at_call 49; go_in) | (go_at_call 36; go_in))
    all_goals go_ret
    all_goals exact ⟨rfl, by repeat (first | (with_reducible exact Below.refl _ _) | (with_reducible assumption) | ((with_reducible refine bl_alloc ?_ _ ?_); (focus ((first | omega | (simp <;> omega)); done))) | ((with_reducible refine bl_set ?_ _ ?_); (focus ((first | omega | (simp <;> omega)); done))) | (with_reducible refine below_drewN ?_ _) | (with_reducible refine Below.drew ?_) | ((with_reducible refine bl_trans ?_ H1.out ?_); (focus ((first | omega | (simp <;> omega)); done))))⟩
  rw [rateM_yes hv ⟨t0, u0⟩]
  obtain ⟨_, ⟨⟨p1, p2⟩, ⟨f1, f2⟩, ⟨n1, n2⟩, ⟨d1, d2⟩, m1, m8⟩, hm⟩ := rad_parts hv
  rcases hform with ⟨_, h0⟩ | ⟨g, cap, rfl, _, la, hc, _⟩
  · rw [h0] at m1; simp at m1
  clear hm
  have HE := Lib.hid hv
  clear hv hc
  obtain ⟨m, hmm⟩ : ∃ m, m = ms.length := ⟨_, rfl⟩
  rw [← hmm] at HR m1 m8 ⊢
  clear hmm
  obtain ⟨k0, k1⟩ := flV_bd (wd := wd) d2 n1 n2
  obtain ⟨K, hK⟩ : ∃ K, K = flV wd n := ⟨_, rfl⟩
  rw [← hK] at k0 k1 ⊢
  have HK := Lib.hid hK
  clear hK
  obtain ⟨V, hV⟩ : ∃ V, V = rateV ms (l - f - K) := ⟨_, rfl⟩
  rw [← hV]
  have HV := Lib.hid hV
  clear hV
  have i1 : IntKind.i64.wrap (l - f) = l - f := by rw [IntKind.wrap_i64]; omega
  have i2 : IntKind.i64.wrap (l - f - K) = l - f - K := by rw [IntKind.wrap_i64]; omega
  go_enter Tryd.func15, Tryd.ntmps15
  go_wp2_with fail
  refine (l07Ok_any _ w.heap.size s IS.out p f n wd _ ms q (HR.out.alloc_ _) (by simp [go_sem]) (by simp [go_sem]) (by simp [go_sem]) (by simp [go_sem]) (by simp [go_sem]) (by simp [go_sem])).mono ?_
  rintro e w1 ⟨he, hb⟩
  rw [HE.out] at he
  subst he
  have H1 := Lib.hid (show Below w.heap.size w w1 by repeat (first | (with_reducible exact Below.refl _ _) | (with_reducible assumption) | ((with_reducible refine bl_alloc ?_ _ ?_); (focus ((first | omega | (simp <;> omega)); done))) | ((with_reducible refine bl_set ?_ _ ?_); (focus ((first | omega | (simp <;> omega)); done))) | (with_reducible refine below_drewN ?_ _) | (with_reducible refine Below.drew ?_) | ((with_reducible refine bl_trans ?_ hb ?_); (focus ((first | omega | (simp <;> omega)); done)))))
  have x0 := keeps hb (p := ⟨w.heap.size, 0, none⟩) (v := .string s) (by simp [go_sem])
  have x1 := keeps hb (p := ⟨w.heap.size, 1, none⟩) (v := .int .i64 p) (by simp [go_sem])
  have x2 := keeps hb (p := ⟨w.heap.size, 2, none⟩) (v := .int .i64 f) (by simp [go_sem])
  have x3 := keeps hb (p := ⟨w.heap.size, 3, none⟩) (v := .int .i64 n) (by simp [go_sem])
  have x4 := keeps hb (p := ⟨w.heap.size, 4, none⟩) (v := .int .i64 wd) (by simp [go_sem])
  have x5 := keeps hb (p := ⟨w.heap.size, 5, none⟩) (v := .slice (some ⟨g, 0, none⟩) m cap) (by simp [go_sem])
  have lW : w.heap.size < w1.heap.size := block_of_cell x5
  have zz : w.heap.size ≤ w1.heap.size := by omega
  have HRR := Lib.hid ((HR.out.alloc_ (.cells #[.string s, .int .i64 p, .int .i64 f, .int .i64 n, .int .i64 wd, .slice (some ⟨g, 0, none⟩) m cap] 30)).later hb)
  clear hb
  go_wp2_with (first | (go_at_call 49; go_in) | (go_at_call 36; go_in))
  have HC : Hid (∀ W : World, W.cell? ⟨w.heap.size, 3, none⟩ = some (.int .i64 n) → W.cell? ⟨w.heap.size, 4, none⟩ = some (.int .i64 wd) → Calls Tryd.prog 38 #[.pointer (some ⟨w.heap.size, 0, none⟩)] W fun e w' => e = .returned (.int .i64 K) ∧ ∃ m, w' = W.drewN m) := fun W y3 y4 => by
    rw [HK.out]
    exact l07Floor_any W w.heap.size n wd y3 y4 d1 d2 n1 n2
  have HC2 : Hid (∀ q' : Nat, Calls Tryd.prog 37 #[.pointer (some ⟨w.heap.size, 0, none⟩), .int .i64 (l - f - K)] (w1.drewN q') fun e w' => e = .returned (.int .i64 V) ∧ w1.drewN q' = w') := fun q' => by
    rw [HV.out]
    exact l07Rate_any _ _ _ ms q (HRR.out.drewN q') x5 _
  go_quiet (first | (go_at_call 38; exact quiet_draws (HC.out _ x3 x4)) | (go_at_call 37; exact quiet_left (HC2.out _)))
  go_wp2_with fail
  go_ret
  exact ⟨rfl, by repeat (first | (with_reducible exact Below.refl _ _) | (with_reducible assumption) | ((with_reducible refine bl_alloc ?_ _ ?_); (focus ((first | omega | (simp <;> omega)); done))) | ((with_reducible refine bl_set ?_ _ ?_); (focus ((first | omega | (simp <;> omega)); done))) | (with_reducible refine below_drewN ?_ _) | (with_reducible refine Below.drew ?_) | ((with_reducible refine bl_trans ?_ H1.out ?_); (focus ((first | omega | (simp <;> omega)); done))))⟩
set_option maxRecDepth 20000 in
set_option maxHeartbeats 4000000 in
theorem impl_any (w : World) (hT : PowTab w) (s : ByteArray) (is : s.size ≤ maxLen) (p : Int) (ip : In64 p) (f : Int) (jf : In64 f) (n : Int) (jn : In64 n) (wd : Int) (iw : In64 wd) (v : Value) (ms : List (Int × Int)) (q : Nat) (hr : RowM 57 w q v ms) (ims : ∀ m ∈ ms, In64 m.1 ∧ In64 m.2) (l : Int) (il : In64 l) :
    Calls Tryd.prog 16 #[.agg #[.string s, .int .i64 p, .int .i64 f, .int .i64 n, .int .i64 wd, v], .int .i64 l] w fun e w' => e = .returned (.int .i64 (rateM s p f n wd ms l)) ∧ Below w.heap.size w w' := by
  have IS := Lib.hid is
  have HR := Lib.hid hr
  have hform := hr.forms
  have HT := Lib.hid hT
  have IP := Lib.hid ip
  have JF := Lib.hid jf
  have JN := Lib.hid jn
  have IW := Lib.hid iw
  have IMS := Lib.hid ims
  have IL := Lib.hid il
  clear hT ip jf jn iw ims il
  clear is hr
  rcases bool_tf (radB s p f n wd ms) with hv | hv
  rotate_left
  · rw [rateM_bad hv]
    have HE := Lib.hid (ofSnrOf.snrOfM_bad (l := l) hv)
    clear hv hform
    go_enter Tryd.func16, Tryd.ntmps16
    go_wp2_with fail
    refine (ofSnrOf.impl_any _ (PowTab.alloc HT.out _) s IS.out p IP.out f JF.out n JN.out wd IW.out v ms q (HR.out.alloc_ _) IMS.out l IL.out).mono ?_
    rintro e w1 ⟨he, hb⟩
    rw [HE.out] at he
    subst he
    have H1 := Lib.hid (show Below w.heap.size w w1 by repeat (first | (with_reducible exact Below.refl _ _) | (with_reducible assumption) | ((with_reducible refine bl_alloc ?_ _ ?_); (focus ((first | omega | (simp <;> omega)); done))) | ((with_reducible refine bl_set ?_ _ ?_); (focus ((first | omega | (simp <;> omega)); done))) | (with_reducible refine below_drewN ?_ _) | (with_reducible refine Below.drew ?_) | ((with_reducible refine bl_trans ?_ hb ?_); (focus ((first | omega | (simp <;> omega)); done)))))
    have x0 := keeps hb (p := ⟨w.heap.size, 0, none⟩) (v := .string s) (by simp [go_sem])
    have x1 := keeps hb (p := ⟨w.heap.size, 1, none⟩) (v := .int .i64 p) (by simp [go_sem])
    have x2 := keeps hb (p := ⟨w.heap.size, 2, none⟩) (v := .int .i64 f) (by simp [go_sem])
    have x3 := keeps hb (p := ⟨w.heap.size, 3, none⟩) (v := .int .i64 n) (by simp [go_sem])
    have x4 := keeps hb (p := ⟨w.heap.size, 4, none⟩) (v := .int .i64 wd) (by simp [go_sem])
    have x5 := keeps hb (p := ⟨w.heap.size, 5, none⟩) (v := v) (by simp [go_sem])
    have lW : w.heap.size < w1.heap.size := block_of_cell x5
    have zz : w.heap.size ≤ w1.heap.size := by omega
    have HRR := Lib.hid ((HR.out.alloc_ (.cells #[.string s, .int .i64 p, .int .i64 f, .int .i64 n, .int .i64 wd, v] 30)).later hb)
    clear hb
    go_wp2_with fail
    all_goals go_ret
    all_goals exact ⟨rfl, by repeat (first | (with_reducible exact Below.refl _ _) | (with_reducible assumption) | ((with_reducible refine bl_alloc ?_ _ ?_); (focus ((first | omega | (simp <;> omega)); done))) | ((with_reducible refine bl_set ?_ _ ?_); (focus ((first | omega | (simp <;> omega)); done))) | (with_reducible refine below_drewN ?_ _) | (with_reducible refine Below.drew ?_) | ((with_reducible refine bl_trans ?_ H1.out ?_); (focus ((first | omega | (simp <;> omega)); done))))⟩
  rcases in_cases l (-300000) 300000 with ⟨t0, u0⟩ | t0 | ⟨t0, u0⟩
  rotate_left
  · rw [rateM_out (fun h => dec_no t0 h.1)]
    have HE := Lib.hid (ofSnrOf.snrOfM_out (l := l) hv (fun h => dec_no t0 h.1))
    clear hv hform
    go_enter Tryd.func16, Tryd.ntmps16
    go_wp2_with fail
    refine (ofSnrOf.impl_any _ (PowTab.alloc HT.out _) s IS.out p IP.out f JF.out n JN.out wd IW.out v ms q (HR.out.alloc_ _) IMS.out l IL.out).mono ?_
    rintro e w1 ⟨he, hb⟩
    rw [HE.out] at he
    subst he
    have H1 := Lib.hid (show Below w.heap.size w w1 by repeat (first | (with_reducible exact Below.refl _ _) | (with_reducible assumption) | ((with_reducible refine bl_alloc ?_ _ ?_); (focus ((first | omega | (simp <;> omega)); done))) | ((with_reducible refine bl_set ?_ _ ?_); (focus ((first | omega | (simp <;> omega)); done))) | (with_reducible refine below_drewN ?_ _) | (with_reducible refine Below.drew ?_) | ((with_reducible refine bl_trans ?_ hb ?_); (focus ((first | omega | (simp <;> omega)); done)))))
    have x0 := keeps hb (p := ⟨w.heap.size, 0, none⟩) (v := .string s) (by simp [go_sem])
    have x1 := keeps hb (p := ⟨w.heap.size, 1, none⟩) (v := .int .i64 p) (by simp [go_sem])
    have x2 := keeps hb (p := ⟨w.heap.size, 2, none⟩) (v := .int .i64 f) (by simp [go_sem])
    have x3 := keeps hb (p := ⟨w.heap.size, 3, none⟩) (v := .int .i64 n) (by simp [go_sem])
    have x4 := keeps hb (p := ⟨w.heap.size, 4, none⟩) (v := .int .i64 wd) (by simp [go_sem])
    have x5 := keeps hb (p := ⟨w.heap.size, 5, none⟩) (v := v) (by simp [go_sem])
    have lW : w.heap.size < w1.heap.size := block_of_cell x5
    have zz : w.heap.size ≤ w1.heap.size := by omega
    have HRR := Lib.hid ((HR.out.alloc_ (.cells #[.string s, .int .i64 p, .int .i64 f, .int .i64 n, .int .i64 wd, v] 30)).later hb)
    clear hb
    go_wp2_with fail
    all_goals go_ret
    all_goals exact ⟨rfl, by repeat (first | (with_reducible exact Below.refl _ _) | (with_reducible assumption) | ((with_reducible refine bl_alloc ?_ _ ?_); (focus ((first | omega | (simp <;> omega)); done))) | ((with_reducible refine bl_set ?_ _ ?_); (focus ((first | omega | (simp <;> omega)); done))) | (with_reducible refine below_drewN ?_ _) | (with_reducible refine Below.drew ?_) | ((with_reducible refine bl_trans ?_ H1.out ?_); (focus ((first | omega | (simp <;> omega)); done))))⟩
  · rw [rateM_out (fun h => dec_no u0 h.2)]
    have HE := Lib.hid (ofSnrOf.snrOfM_out (l := l) hv (fun h => dec_no u0 h.2))
    clear hv hform
    go_enter Tryd.func16, Tryd.ntmps16
    go_wp2_with fail
    refine (ofSnrOf.impl_any _ (PowTab.alloc HT.out _) s IS.out p IP.out f JF.out n JN.out wd IW.out v ms q (HR.out.alloc_ _) IMS.out l IL.out).mono ?_
    rintro e w1 ⟨he, hb⟩
    rw [HE.out] at he
    subst he
    have H1 := Lib.hid (show Below w.heap.size w w1 by repeat (first | (with_reducible exact Below.refl _ _) | (with_reducible assumption) | ((with_reducible refine bl_alloc ?_ _ ?_); (focus ((first | omega | (simp <;> omega)); done))) | ((with_reducible refine bl_set ?_ _ ?_); (focus ((first | omega | (simp <;> omega)); done))) | (with_reducible refine below_drewN ?_ _) | (with_reducible refine Below.drew ?_) | ((with_reducible refine bl_trans ?_ hb ?_); (focus ((first | omega | (simp <;> omega)); done)))))
    have x0 := keeps hb (p := ⟨w.heap.size, 0, none⟩) (v := .string s) (by simp [go_sem])
    have x1 := keeps hb (p := ⟨w.heap.size, 1, none⟩) (v := .int .i64 p) (by simp [go_sem])
    have x2 := keeps hb (p := ⟨w.heap.size, 2, none⟩) (v := .int .i64 f) (by simp [go_sem])
    have x3 := keeps hb (p := ⟨w.heap.size, 3, none⟩) (v := .int .i64 n) (by simp [go_sem])
    have x4 := keeps hb (p := ⟨w.heap.size, 4, none⟩) (v := .int .i64 wd) (by simp [go_sem])
    have x5 := keeps hb (p := ⟨w.heap.size, 5, none⟩) (v := v) (by simp [go_sem])
    have lW : w.heap.size < w1.heap.size := block_of_cell x5
    have zz : w.heap.size ≤ w1.heap.size := by omega
    have HRR := Lib.hid ((HR.out.alloc_ (.cells #[.string s, .int .i64 p, .int .i64 f, .int .i64 n, .int .i64 wd, v] 30)).later hb)
    clear hb
    go_wp2_with fail
    all_goals go_ret
    all_goals exact ⟨rfl, by repeat (first | (with_reducible exact Below.refl _ _) | (with_reducible assumption) | ((with_reducible refine bl_alloc ?_ _ ?_); (focus ((first | omega | (simp <;> omega)); done))) | ((with_reducible refine bl_set ?_ _ ?_); (focus ((first | omega | (simp <;> omega)); done))) | (with_reducible refine below_drewN ?_ _) | (with_reducible refine Below.drew ?_) | ((with_reducible refine bl_trans ?_ H1.out ?_); (focus ((first | omega | (simp <;> omega)); done))))⟩
  rw [rateM_yes hv ⟨t0, u0⟩]
  obtain ⟨_, ⟨⟨p1, p2⟩, ⟨f1, f2⟩, ⟨n1, n2⟩, ⟨d1, d2⟩, m1, m8⟩, hm⟩ := rad_parts hv
  rcases hform with ⟨_, h0⟩ | ⟨g, cap, rfl, _, la, hc, _⟩
  · rw [h0] at m1; simp at m1
  clear hm
  obtain ⟨T, hT2⟩ : ∃ T, T = l - f - flV wd n := ⟨_, rfl⟩
  have HE : Hid (ofSnrOf.snrOfM s p f n wd ms l = (T, 0)) := by
    rw [hT2]
    exact ofSnrOf.snrOfM_yes hv ⟨t0, u0⟩
  rw [← hT2]
  clear hT2 hv
  obtain ⟨b0, b1⟩ := bestV_bd ms T
  by_cases hz : bestV ms T < 0
  · rw [rateV_no hz]
    obtain ⟨B, hB⟩ : ∃ B, B = bestV ms T := ⟨_, rfl⟩
    rw [← hB] at hz
    have HB := Lib.hid hB
    have hd := decide_eq_true hz
    clear hB b0 b1 hc
    obtain ⟨m, hmm⟩ : ∃ m, m = ms.length := ⟨_, rfl⟩
    rw [← hmm] at HR m1 m8 ⊢
    clear hmm
    go_enter Tryd.func16, Tryd.ntmps16
    go_wp2_with fail
    refine (ofSnrOf.impl_any _ (PowTab.alloc HT.out _) s IS.out p IP.out f JF.out n JN.out wd IW.out _ ms q (HR.out.alloc_ _) IMS.out l IL.out).mono ?_
    rintro e w1 ⟨he, hb⟩
    rw [HE.out] at he
    subst he
    have H1 := Lib.hid (show Below w.heap.size w w1 by repeat (first | (with_reducible exact Below.refl _ _) | (with_reducible assumption) | ((with_reducible refine bl_alloc ?_ _ ?_); (focus ((first | omega | (simp <;> omega)); done))) | ((with_reducible refine bl_set ?_ _ ?_); (focus ((first | omega | (simp <;> omega)); done))) | (with_reducible refine below_drewN ?_ _) | (with_reducible refine Below.drew ?_) | ((with_reducible refine bl_trans ?_ hb ?_); (focus ((first | omega | (simp <;> omega)); done)))))
    have x0 := keeps hb (p := ⟨w.heap.size, 0, none⟩) (v := .string s) (by simp [go_sem])
    have x1 := keeps hb (p := ⟨w.heap.size, 1, none⟩) (v := .int .i64 p) (by simp [go_sem])
    have x2 := keeps hb (p := ⟨w.heap.size, 2, none⟩) (v := .int .i64 f) (by simp [go_sem])
    have x3 := keeps hb (p := ⟨w.heap.size, 3, none⟩) (v := .int .i64 n) (by simp [go_sem])
    have x4 := keeps hb (p := ⟨w.heap.size, 4, none⟩) (v := .int .i64 wd) (by simp [go_sem])
    have x5 := keeps hb (p := ⟨w.heap.size, 5, none⟩) (v := .slice (some ⟨g, 0, none⟩) m cap) (by simp [go_sem])
    have lW : w.heap.size < w1.heap.size := block_of_cell x5
    have zz : w.heap.size ≤ w1.heap.size := by omega
    have HRR := Lib.hid ((HR.out.alloc_ (.cells #[.string s, .int .i64 p, .int .i64 f, .int .i64 n, .int .i64 wd, .slice (some ⟨g, 0, none⟩) m cap] 30)).later hb)
    clear hb
    go_wp2_with fail
    refine (bestMode_any _ s p f n wd _ ms q HRR.out T).mono ?_
    rintro e w2 ⟨he, hb⟩
    rw [← HB.out] at he
    subst he
    have H2 := Lib.hid (show Below w.heap.size w w2 by repeat (first | (with_reducible exact Below.refl _ _) | (with_reducible assumption) | ((with_reducible refine bl_alloc ?_ _ ?_); (focus ((first | omega | (simp <;> omega)); done))) | ((with_reducible refine bl_set ?_ _ ?_); (focus ((first | omega | (simp <;> omega)); done))) | (with_reducible refine below_drewN ?_ _) | (with_reducible refine Below.drew ?_) | ((with_reducible refine bl_trans ?_ hb ?_); (focus ((first | omega | (simp <;> omega)); done))) | ((with_reducible refine bl_trans ?_ H1.out ?_); (focus ((first | omega | (simp <;> omega)); done)))))
    clear hb
    go_wp2_with fail
    go_ret
    exact ⟨rfl, H2.out⟩
  · obtain ⟨j, hj⟩ : ∃ j : Nat, bestV ms T = j := ⟨(bestV ms T).toNat, by omega⟩
    rw [rateV_yes hj]
    have hjm : j < ms.length := by omega
    have c2 := (hc j hjm).2
    have HJ := Lib.hid hj
    clear hz b0 b1 hj hc
    obtain ⟨m, hmm⟩ : ∃ m, m = ms.length := ⟨_, rfl⟩
    rw [← hmm] at HR m1 m8 hjm ⊢
    clear hmm
    generalize (ms.getD j (0, 0)).2 = y at c2 ⊢
    have i0 : (0 : Int) ≤ (j : Int) := Int.natCast_nonneg _
    have i1 : (j : Int) < (m : Int) := by omega
    go_enter Tryd.func16, Tryd.ntmps16
    go_wp2_with fail
    refine (ofSnrOf.impl_any _ (PowTab.alloc HT.out _) s IS.out p IP.out f JF.out n JN.out wd IW.out _ ms q (HR.out.alloc_ _) IMS.out l IL.out).mono ?_
    rintro e w1 ⟨he, hb⟩
    rw [HE.out] at he
    subst he
    have H1 := Lib.hid (show Below w.heap.size w w1 by repeat (first | (with_reducible exact Below.refl _ _) | (with_reducible assumption) | ((with_reducible refine bl_alloc ?_ _ ?_); (focus ((first | omega | (simp <;> omega)); done))) | ((with_reducible refine bl_set ?_ _ ?_); (focus ((first | omega | (simp <;> omega)); done))) | (with_reducible refine below_drewN ?_ _) | (with_reducible refine Below.drew ?_) | ((with_reducible refine bl_trans ?_ hb ?_); (focus ((first | omega | (simp <;> omega)); done)))))
    have x0 := keeps hb (p := ⟨w.heap.size, 0, none⟩) (v := .string s) (by simp [go_sem])
    have x1 := keeps hb (p := ⟨w.heap.size, 1, none⟩) (v := .int .i64 p) (by simp [go_sem])
    have x2 := keeps hb (p := ⟨w.heap.size, 2, none⟩) (v := .int .i64 f) (by simp [go_sem])
    have x3 := keeps hb (p := ⟨w.heap.size, 3, none⟩) (v := .int .i64 n) (by simp [go_sem])
    have x4 := keeps hb (p := ⟨w.heap.size, 4, none⟩) (v := .int .i64 wd) (by simp [go_sem])
    have x5 := keeps hb (p := ⟨w.heap.size, 5, none⟩) (v := .slice (some ⟨g, 0, none⟩) m cap) (by simp [go_sem])
    have lW : w.heap.size < w1.heap.size := block_of_cell x5
    have zz : w.heap.size ≤ w1.heap.size := by omega
    have HRR := Lib.hid ((HR.out.alloc_ (.cells #[.string s, .int .i64 p, .int .i64 f, .int .i64 n, .int .i64 wd, .slice (some ⟨g, 0, none⟩) m cap] 30)).later hb)
    clear hb
    have c3 := (H1.out.cell (p := ⟨g, j * 2 + 1, none⟩) la).trans c2
    go_wp2_with fail
    refine (bestMode_any _ s p f n wd _ ms q HRR.out T).mono ?_
    rintro e w2 ⟨he, hb⟩
    rw [HJ.out] at he
    subst he
    have H2 := Lib.hid (show Below w.heap.size w w2 by repeat (first | (with_reducible exact Below.refl _ _) | (with_reducible assumption) | ((with_reducible refine bl_alloc ?_ _ ?_); (focus ((first | omega | (simp <;> omega)); done))) | ((with_reducible refine bl_set ?_ _ ?_); (focus ((first | omega | (simp <;> omega)); done))) | (with_reducible refine below_drewN ?_ _) | (with_reducible refine Below.drew ?_) | ((with_reducible refine bl_trans ?_ hb ?_); (focus ((first | omega | (simp <;> omega)); done))) | ((with_reducible refine bl_trans ?_ H1.out ?_); (focus ((first | omega | (simp <;> omega)); done)))))
    have y0 := keeps hb x0
    have y1 := keeps hb x1
    have y2 := keeps hb x2
    have y3 := keeps hb x3
    have y4 := keeps hb x4
    have y5 := keeps hb x5
    have c4 := keeps hb c3
    have HR2 := Lib.hid (HRR.out.later hb)
    have lW2 : w.heap.size < w2.heap.size := block_of_cell y5
    clear hb x0 x1 x2 x3 x4 x5 c3 c2
    have HC : Hid (∀ W : World, Below w2.heap.size w2 W → Calls Tryd.prog 40 #[.agg #[.string s, .int .i64 p, .int .i64 f, .int .i64 n, .int .i64 wd, .slice (some ⟨g, 0, none⟩) m cap], .int .i64 T] W fun e w' => e = .returned (.int .i64 j) ∧ Below W.heap.size W w') := fun W hW => by
      rw [← HJ.out]
      exact bestMode_any W s p f n wd _ ms q (HR2.out.later hW) T
    go_wp2_with fail
    go_region_held3 (fun w' => w'.cell? ⟨w.heap.size, 0, none⟩ = some (.string s) ∧ w'.cell? ⟨w.heap.size, 1, none⟩ = some (.int .i64 p) ∧ w'.cell? ⟨w.heap.size, 2, none⟩ = some (.int .i64 f) ∧ w'.cell? ⟨w.heap.size, 3, none⟩ = some (.int .i64 n) ∧ w'.cell? ⟨w.heap.size, 4, none⟩ = some (.int .i64 wd) ∧ w'.cell? ⟨w.heap.size, 5, none⟩ = some (.slice (some ⟨g, 0, none⟩) m cap) ∧ w'.cell? ⟨g, j * 2 + 1, none⟩ = some (.int .i64 y))
      (first | (refine ⟨?_, ?_, ?_, ?_, ?_, ?_, ?_⟩ <;> assumption) | (go_split_ands; (refine ⟨?_, ?_, ?_, ?_, ?_, ?_, ?_⟩ <;> first | assumption | (refine keeps hb ?_; assumption))))
      (first | (go_at_call 40; ((with_reducible refine (HC.out _ (by repeat (first | (with_reducible exact Below.refl _ _) | (with_reducible assumption) | ((with_reducible refine bl_alloc ?_ _ ?_); (focus ((first | omega | (simp <;> omega)); done))) | ((with_reducible refine bl_set ?_ _ ?_); (focus ((first | omega | (simp <;> omega)); done))) | (with_reducible refine below_drewN ?_ _) | (with_reducible refine Below.drew ?_)))).mono ?_); rintro e w3 ⟨rfl, hb⟩)))
    have H3 := Lib.hid (show Below w.heap.size w w3 by repeat (first | (with_reducible exact Below.refl _ _) | (with_reducible assumption) | ((with_reducible refine bl_alloc ?_ _ ?_); (focus ((first | omega | (simp <;> omega)); done))) | ((with_reducible refine bl_set ?_ _ ?_); (focus ((first | omega | (simp <;> omega)); done))) | (with_reducible refine below_drewN ?_ _) | (with_reducible refine Below.drew ?_) | ((with_reducible refine bl_trans ?_ hb ?_); (focus ((first | omega | (simp <;> omega)); done))) | ((with_reducible refine bl_trans ?_ H2.out ?_); (focus ((first | omega | (simp <;> omega)); done)))))
    clear hb
    go_wp2_with fail
    go_ret
    exact ⟨rfl, H3.out⟩
set_option maxRecDepth 20000 in
set_option maxHeartbeats 4000000 in
theorem walk (w : World) (hT : PowTab w) (s0_0 : ByteArray) (is0_0 : s0_0.size ≤ maxLen) (a0_1 : Int) (ia0_1 : In64 a0_1) (a0_2 : Int) (ia0_2 : In64 a0_2) (a0_3 : Int) (ia0_3 : In64 a0_3) (a0_4 : Int) (ia0_4 : In64 a0_4) (v0_5 : Value) (x0_5 : List (Int × Int)) (r0_5 : RdM w w.heap.size v0_5 x0_5) (ix0_5 : ∀ n ∈ x0_5, In64 n.1 ∧ In64 n.2) (a1 : Int) (ia1 : In64 a1) :
    Calls Tryd.prog 5 #[.agg #[.string s0_0, .int .i64 a0_1, .int .i64 a0_2, .int .i64 a0_3, .int .i64 a0_4, v0_5], .int .i64 a1] w fun e w' => e = .returned (.bool true) ∧ Below w.heap.size w w' := by
  have HTab := Lib.hid hT
  clear hT
  by_cases hs0 : ¬ (s0_0.size : Int) + (x0_5.length : Int) ≤ 1048576
  · go_enter Tryd.func5, Tryd.ntmps5
    go_wp2_with fail
    refine (szRadio_not s0_0 a0_1 a0_2 a0_3 a0_4 _ x0_5 _ w.heap.size (by first | omega | (simp <;> omega)) (RdM.below r0_5 (by repeat (first | (with_reducible exact Below.refl _ _) | (with_reducible assumption) | ((with_reducible refine bl_alloc ?_ _ ?_); (focus ((first | omega | (simp <;> omega)); done))) | ((with_reducible refine bl_set ?_ _ ?_); (focus ((first | omega | (simp <;> omega)); done))) | (with_reducible refine below_drewN ?_ _) | (with_reducible refine Below.drew ?_)))) is0_0 _ (by omega) (by omega) (by omega)).mono ?_
    rintro e w1 ⟨rfl, hb⟩
    have zz1 : w.heap.size + 1 ≤ w1.heap.size := (by have := hb.size; ((try simp at this) <;> omega))
    have H1 := Lib.hid (show Below w.heap.size w w1 by repeat (first | (with_reducible exact Below.refl _ _) | (with_reducible assumption) | ((with_reducible refine bl_alloc ?_ _ ?_); (focus ((first | omega | (simp <;> omega)); done))) | ((with_reducible refine bl_set ?_ _ ?_); (focus ((first | omega | (simp <;> omega)); done))) | (with_reducible refine below_drewN ?_ _) | (with_reducible refine Below.drew ?_) | ((with_reducible refine bl_trans ?_ hb ?_); (focus ((first | omega | (simp <;> omega)); done)))))
    have f0_0_1 := keeps hb (p := ⟨w.heap.size, 0, none⟩) (v := .string s0_0) (by simp [go_sem])
    have f0_1_1 := keeps hb (p := ⟨w.heap.size, 1, none⟩) (v := .int .i64 a0_1) (by simp [go_sem])
    have f0_2_1 := keeps hb (p := ⟨w.heap.size, 2, none⟩) (v := .int .i64 a0_2) (by simp [go_sem])
    have f0_3_1 := keeps hb (p := ⟨w.heap.size, 3, none⟩) (v := .int .i64 a0_3) (by simp [go_sem])
    have f0_4_1 := keeps hb (p := ⟨w.heap.size, 4, none⟩) (v := .int .i64 a0_4) (by simp [go_sem])
    have f0_5_1 := keeps hb (p := ⟨w.heap.size, 5, none⟩) (v := v0_5) (by simp [go_sem])
    have g0_1 : w.heap.size < w1.heap.size := block_of_cell f0_0_1
    clear hb
    go_wp2_with fail
    go_ret
    exact ⟨rfl, (by repeat (first | (with_reducible exact Below.refl _ _) | (with_reducible assumption) | ((with_reducible refine bl_alloc ?_ _ ?_); (focus ((first | omega | (simp <;> omega)); done))) | ((with_reducible refine bl_set ?_ _ ?_); (focus ((first | omega | (simp <;> omega)); done))) | (with_reducible refine below_drewN ?_ _) | (with_reducible refine Below.drew ?_) | ((with_reducible refine bl_trans ?_ H1.out ?_); (focus ((first | omega | (simp <;> omega)); done)))))⟩
  have hs0' : (s0_0.size : Int) + (x0_5.length : Int) ≤ 1048576 := by omega
  clear hs0
  go_enter Tryd.func5, Tryd.ntmps5
  go_wp2_with fail
  refine (szRadio_fits s0_0 a0_1 a0_2 a0_3 a0_4 _ x0_5 _ w.heap.size (by first | omega | (simp <;> omega)) (RdM.below r0_5 (by repeat (first | (with_reducible exact Below.refl _ _) | (with_reducible assumption) | ((with_reducible refine bl_alloc ?_ _ ?_); (focus ((first | omega | (simp <;> omega)); done))) | ((with_reducible refine bl_set ?_ _ ?_); (focus ((first | omega | (simp <;> omega)); done))) | (with_reducible refine below_drewN ?_ _) | (with_reducible refine Below.drew ?_)))) is0_0 _ (by omega) (by omega)).mono ?_
  rintro e w1 ⟨rfl, hb⟩
  have zz1 : w.heap.size + 1 ≤ w1.heap.size := (by have := hb.size; ((try simp at this) <;> omega))
  have H1 := Lib.hid (show Below w.heap.size w w1 by repeat (first | (with_reducible exact Below.refl _ _) | (with_reducible assumption) | ((with_reducible refine bl_alloc ?_ _ ?_); (focus ((first | omega | (simp <;> omega)); done))) | ((with_reducible refine bl_set ?_ _ ?_); (focus ((first | omega | (simp <;> omega)); done))) | (with_reducible refine below_drewN ?_ _) | (with_reducible refine Below.drew ?_) | ((with_reducible refine bl_trans ?_ hb ?_); (focus ((first | omega | (simp <;> omega)); done)))))
  have f0_0_1 := keeps hb (p := ⟨w.heap.size, 0, none⟩) (v := .string s0_0) (by simp [go_sem])
  have f0_1_1 := keeps hb (p := ⟨w.heap.size, 1, none⟩) (v := .int .i64 a0_1) (by simp [go_sem])
  have f0_2_1 := keeps hb (p := ⟨w.heap.size, 2, none⟩) (v := .int .i64 a0_2) (by simp [go_sem])
  have f0_3_1 := keeps hb (p := ⟨w.heap.size, 3, none⟩) (v := .int .i64 a0_3) (by simp [go_sem])
  have f0_4_1 := keeps hb (p := ⟨w.heap.size, 4, none⟩) (v := .int .i64 a0_4) (by simp [go_sem])
  have f0_5_1 := keeps hb (p := ⟨w.heap.size, 5, none⟩) (v := v0_5) (by simp [go_sem])
  have g0_1 : w.heap.size < w1.heap.size := block_of_cell f0_0_1
  clear hb
  go_wp2_with fail
  refine (toRadio_any s0_0 a0_1 a0_2 a0_3 a0_4 v0_5 x0_5 _ w.heap.size (by first | omega | (simp <;> omega)) (RdM.below r0_5 (by repeat (first | (with_reducible exact Below.refl _ _) | (with_reducible assumption) | ((with_reducible refine bl_alloc ?_ _ ?_); (focus ((first | omega | (simp <;> omega)); done))) | ((with_reducible refine bl_set ?_ _ ?_); (focus ((first | omega | (simp <;> omega)); done))) | (with_reducible refine below_drewN ?_ _) | (with_reducible refine Below.drew ?_) | ((with_reducible refine bl_trans ?_ H1.out ?_); (focus ((first | omega | (simp <;> omega)); done)))))) (by omega)).mono ?_
  rintro e w2 ⟨A0, n0, c0, rfl, hr0, hb⟩
  have zz2 : w1.heap.size ≤ w2.heap.size := (by have := hb.size; ((try simp at this) <;> omega))
  have H2 := Lib.hid (show Below w.heap.size w w2 by repeat (first | (with_reducible exact Below.refl _ _) | (with_reducible assumption) | ((with_reducible refine bl_alloc ?_ _ ?_); (focus ((first | omega | (simp <;> omega)); done))) | ((with_reducible refine bl_set ?_ _ ?_); (focus ((first | omega | (simp <;> omega)); done))) | (with_reducible refine below_drewN ?_ _) | (with_reducible refine Below.drew ?_) | ((with_reducible refine bl_trans ?_ hb ?_); (focus ((first | omega | (simp <;> omega)); done))) | ((with_reducible refine bl_trans ?_ H1.out ?_); (focus ((first | omega | (simp <;> omega)); done)))))
  have f0_0_2 := keeps hb f0_0_1
  have f0_1_2 := keeps hb f0_1_1
  have f0_2_2 := keeps hb f0_2_1
  have f0_3_2 := keeps hb f0_3_1
  have f0_4_2 := keeps hb f0_4_1
  have f0_5_2 := keeps hb f0_5_1
  have g0_2 : w.heap.size < w2.heap.size := block_of_cell f0_0_2
  have R0_2 := Lib.hid hr0
  have RL0 := Lib.hid (show ∀ g, Value.ownBlock (.slice A0 n0 c0) = some g → w1.heap.size ≤ g ∧ g < w2.heap.size from fun g h => by have l1 := hr0.lt g h; ((try simp at l1) <;> omega))
  clear hb f0_0_1 f0_1_1 f0_2_1 f0_3_1 f0_4_1 f0_5_1 g0_1 hr0 H1
  go_wp2_with fail
  refine (spec_any _ s0_0 is0_0 a0_1 ia0_1 a0_2 ia0_2 a0_3 ia0_3 a0_4 ia0_4 _ x0_5 _ R0_2.out ix0_5 a1 ia1).mono ?_
  rintro e w3 ⟨rfl, hb⟩
  have zz3 : w2.heap.size ≤ w3.heap.size := (by have := hb.size; ((try simp at this) <;> omega))
  have H3 := Lib.hid (show Below w.heap.size w w3 by repeat (first | (with_reducible exact Below.refl _ _) | (with_reducible assumption) | ((with_reducible refine bl_alloc ?_ _ ?_); (focus ((first | omega | (simp <;> omega)); done))) | ((with_reducible refine bl_set ?_ _ ?_); (focus ((first | omega | (simp <;> omega)); done))) | (with_reducible refine below_drewN ?_ _) | (with_reducible refine Below.drew ?_) | ((with_reducible refine bl_trans ?_ hb ?_); (focus ((first | omega | (simp <;> omega)); done))) | ((with_reducible refine bl_trans ?_ H2.out ?_); (focus ((first | omega | (simp <;> omega)); done)))))
  have f0_0_3 := keeps hb f0_0_2
  have f0_1_3 := keeps hb f0_1_2
  have f0_2_3 := keeps hb f0_2_2
  have f0_3_3 := keeps hb f0_3_2
  have f0_4_3 := keeps hb f0_4_2
  have f0_5_3 := keeps hb f0_5_2
  have g0_3 : w.heap.size < w3.heap.size := block_of_cell f0_0_3
  clear hb f0_0_2 f0_1_2 f0_2_2 f0_3_2 f0_4_2 f0_5_2 g0_2 R0_2 H2
  go_wp2_with fail
  refine (toRadio_any s0_0 a0_1 a0_2 a0_3 a0_4 v0_5 x0_5 _ w.heap.size (by first | omega | (simp <;> omega)) (RdM.below r0_5 (by repeat (first | (with_reducible exact Below.refl _ _) | (with_reducible assumption) | ((with_reducible refine bl_alloc ?_ _ ?_); (focus ((first | omega | (simp <;> omega)); done))) | ((with_reducible refine bl_set ?_ _ ?_); (focus ((first | omega | (simp <;> omega)); done))) | (with_reducible refine below_drewN ?_ _) | (with_reducible refine Below.drew ?_) | ((with_reducible refine bl_trans ?_ H3.out ?_); (focus ((first | omega | (simp <;> omega)); done)))))) (by omega)).mono ?_
  rintro e w4 ⟨A1, n1, c1, rfl, hr1, hb⟩
  have zz4 : w3.heap.size ≤ w4.heap.size := (by have := hb.size; ((try simp at this) <;> omega))
  have H4 := Lib.hid (show Below w.heap.size w w4 by repeat (first | (with_reducible exact Below.refl _ _) | (with_reducible assumption) | ((with_reducible refine bl_alloc ?_ _ ?_); (focus ((first | omega | (simp <;> omega)); done))) | ((with_reducible refine bl_set ?_ _ ?_); (focus ((first | omega | (simp <;> omega)); done))) | (with_reducible refine below_drewN ?_ _) | (with_reducible refine Below.drew ?_) | ((with_reducible refine bl_trans ?_ hb ?_); (focus ((first | omega | (simp <;> omega)); done))) | ((with_reducible refine bl_trans ?_ H3.out ?_); (focus ((first | omega | (simp <;> omega)); done)))))
  have f0_0_4 := keeps hb f0_0_3
  have f0_1_4 := keeps hb f0_1_3
  have f0_2_4 := keeps hb f0_2_3
  have f0_3_4 := keeps hb f0_3_3
  have f0_4_4 := keeps hb f0_4_3
  have f0_5_4 := keeps hb f0_5_3
  have g0_4 : w.heap.size < w4.heap.size := block_of_cell f0_0_4
  have R1_4 := Lib.hid hr1
  have RL1 := Lib.hid (show ∀ g, Value.ownBlock (.slice A1 n1 c1) = some g → w3.heap.size ≤ g ∧ g < w4.heap.size from fun g h => by have l1 := hr1.lt g h; ((try simp at l1) <;> omega))
  clear hb f0_0_3 f0_1_3 f0_2_3 f0_3_3 f0_4_3 f0_5_3 g0_3 hr1 H3
  go_wp2_with fail
  refine (impl_any _ (PowTab.below HTab.out (by repeat (first | (with_reducible exact Below.refl _ _) | (with_reducible assumption) | ((with_reducible refine bl_alloc ?_ _ ?_); (focus ((first | omega | (simp <;> omega)); done))) | ((with_reducible refine bl_set ?_ _ ?_); (focus ((first | omega | (simp <;> omega)); done))) | (with_reducible refine below_drewN ?_ _) | (with_reducible refine Below.drew ?_) | ((with_reducible refine bl_trans ?_ H4.out ?_); (focus ((first | omega | (simp <;> omega)); done)))))) s0_0 is0_0 a0_1 ia0_1 a0_2 ia0_2 a0_3 ia0_3 a0_4 ia0_4 _ x0_5 _ (R1_4.out.alloc_ _) ix0_5 a1 ia1).mono ?_
  rintro e w5 ⟨rfl, hb⟩
  have zz5 : w4.heap.size + 1 ≤ w5.heap.size := (by have := hb.size; ((try simp at this) <;> omega))
  have H5 := Lib.hid (show Below w.heap.size w w5 by repeat (first | (with_reducible exact Below.refl _ _) | (with_reducible assumption) | ((with_reducible refine bl_alloc ?_ _ ?_); (focus ((first | omega | (simp <;> omega)); done))) | ((with_reducible refine bl_set ?_ _ ?_); (focus ((first | omega | (simp <;> omega)); done))) | (with_reducible refine below_drewN ?_ _) | (with_reducible refine Below.drew ?_) | ((with_reducible refine bl_trans ?_ hb ?_); (focus ((first | omega | (simp <;> omega)); done))) | ((with_reducible refine bl_trans ?_ H4.out ?_); (focus ((first | omega | (simp <;> omega)); done)))))
  have f0_0_5 := keeps hb (cell_alloc f0_0_4 _)
  have f0_1_5 := keeps hb (cell_alloc f0_1_4 _)
  have f0_2_5 := keeps hb (cell_alloc f0_2_4 _)
  have f0_3_5 := keeps hb (cell_alloc f0_3_4 _)
  have f0_4_5 := keeps hb (cell_alloc f0_4_4 _)
  have f0_5_5 := keeps hb (cell_alloc f0_5_4 _)
  have g0_5 : w.heap.size < w5.heap.size := block_of_cell f0_0_5
  have f1_0_5 := keeps hb (p := ⟨w4.heap.size, 0, none⟩) (v := .string s0_0) (by simp [go_sem])
  have f1_1_5 := keeps hb (p := ⟨w4.heap.size, 1, none⟩) (v := .int .i64 a0_1) (by simp [go_sem])
  have f1_2_5 := keeps hb (p := ⟨w4.heap.size, 2, none⟩) (v := .int .i64 a0_2) (by simp [go_sem])
  have f1_3_5 := keeps hb (p := ⟨w4.heap.size, 3, none⟩) (v := .int .i64 a0_3) (by simp [go_sem])
  have f1_4_5 := keeps hb (p := ⟨w4.heap.size, 4, none⟩) (v := .int .i64 a0_4) (by simp [go_sem])
  have f1_5_5 := keeps hb (p := ⟨w4.heap.size, 5, none⟩) (v := (.slice A1 n1 c1)) (by simp [go_sem])
  have g1_5 : w4.heap.size < w5.heap.size := block_of_cell f1_0_5
  have R1_5 := Lib.hid (RowM.later (R1_4.out.alloc_ _) hb)
  clear hb f0_0_4 f0_1_4 f0_2_4 f0_3_4 f0_4_4 f0_5_4 g0_4 R1_4 H4
  go_wp2_with fail
  go_region_held3 (fun w' => w'.cell? ⟨w4.heap.size, 0, none⟩ = some (.string s0_0) ∧ w'.cell? ⟨w4.heap.size, 1, none⟩ = some (.int .i64 a0_1) ∧ w'.cell? ⟨w4.heap.size, 2, none⟩ = some (.int .i64 a0_2) ∧ w'.cell? ⟨w4.heap.size, 3, none⟩ = some (.int .i64 a0_3) ∧ w'.cell? ⟨w4.heap.size, 4, none⟩ = some (.int .i64 a0_4) ∧ w'.cell? ⟨w4.heap.size, 5, none⟩ = some ((.slice A1 n1 c1)) ∧ w'.cell? ⟨w.heap.size, 0, none⟩ = some (.string s0_0) ∧ w'.cell? ⟨w.heap.size, 1, none⟩ = some (.int .i64 a0_1) ∧ w'.cell? ⟨w.heap.size, 2, none⟩ = some (.int .i64 a0_2) ∧ w'.cell? ⟨w.heap.size, 3, none⟩ = some (.int .i64 a0_3) ∧ w'.cell? ⟨w.heap.size, 4, none⟩ = some (.int .i64 a0_4) ∧ w'.cell? ⟨w.heap.size, 5, none⟩ = some (v0_5))
    (first | (refine ⟨?_, ?_, ?_, ?_, ?_, ?_, ?_, ?_, ?_, ?_, ?_, ?_⟩ <;> assumption) | (go_split_ands; (refine ⟨?_, ?_, ?_, ?_, ?_, ?_, ?_, ?_, ?_, ?_, ?_, ?_⟩ <;> first | assumption | (refine keeps hb ?_; assumption))))
    (first
      | (go_at_call 10; ((with_reducible refine (toRadio_any s0_0 a0_1 a0_2 a0_3 a0_4 v0_5 x0_5 _ w.heap.size (by first | omega | (simp <;> omega)) (RdM.below r0_5 (by repeat (first | (with_reducible exact Below.refl _ _) | (with_reducible assumption) | ((with_reducible refine bl_alloc ?_ _ ?_); (focus ((first | omega | (simp <;> omega)); done))) | ((with_reducible refine bl_set ?_ _ ?_); (focus ((first | omega | (simp <;> omega)); done))) | (with_reducible refine below_drewN ?_ _) | (with_reducible refine Below.drew ?_) | ((with_reducible refine bl_trans ?_ H5.out ?_); (focus ((first | omega | (simp <;> omega)); done)))))) (by omega)).mono ?_); rintro e w6 ⟨A2, n2, c2, rfl, hr2, hb⟩; have zz6 : w5.heap.size ≤ w6.heap.size := (by have := hb.size; ((try simp at this) <;> omega)); have H6 := Lib.hid (show Below w.heap.size w w6 by repeat (first | (with_reducible exact Below.refl _ _) | (with_reducible assumption) | ((with_reducible refine bl_alloc ?_ _ ?_); (focus ((first | omega | (simp <;> omega)); done))) | ((with_reducible refine bl_set ?_ _ ?_); (focus ((first | omega | (simp <;> omega)); done))) | (with_reducible refine below_drewN ?_ _) | (with_reducible refine Below.drew ?_) | ((with_reducible refine bl_trans ?_ hb ?_); (focus ((first | omega | (simp <;> omega)); done))) | ((with_reducible refine bl_trans ?_ H5.out ?_); (focus ((first | omega | (simp <;> omega)); done))))); have R1_6 := Lib.hid (RowM.later1 R1_5.out hb); have R2_6 := Lib.hid hr2; have RL2 := Lib.hid (show ∀ g, Value.ownBlock (.slice A2 n2 c2) = some g → w5.heap.size ≤ g ∧ g < w6.heap.size from fun g h => by have l1 := hr2.lt g h; ((try simp at l1) <;> omega)); clear f0_0_5 f0_1_5 f0_2_5 f0_3_5 f0_4_5 f0_5_5 g0_5 f1_0_5 f1_1_5 f1_2_5 f1_3_5 f1_4_5 f1_5_5 g1_5 R1_5 hr2 H5))
      | (go_at_call 12; ((with_reducible refine (eqRadio_any s0_0 a0_1 a0_2 a0_3 a0_4 _ _ _ (x0_5) _ _ R1_6.out R2_6.out).mono ?_); rintro e w7 ⟨rfl, hb⟩; have zz7 : w6.heap.size ≤ w7.heap.size := (by have := hb.size; ((try simp at this) <;> omega)); have H7 := Lib.hid (show Below w.heap.size w w7 by repeat (first | (with_reducible exact Below.refl _ _) | (with_reducible assumption) | ((with_reducible refine bl_alloc ?_ _ ?_); (focus ((first | omega | (simp <;> omega)); done))) | ((with_reducible refine bl_set ?_ _ ?_); (focus ((first | omega | (simp <;> omega)); done))) | (with_reducible refine below_drewN ?_ _) | (with_reducible refine Below.drew ?_) | ((with_reducible refine bl_trans ?_ hb ?_); (focus ((first | omega | (simp <;> omega)); done))) | ((with_reducible refine bl_trans ?_ H6.out ?_); (focus ((first | omega | (simp <;> omega)); done))))); clear R1_6 R2_6 H6)))
  go_wp2_with fail
  go_ret
  exact ⟨rfl, (by repeat (first | (with_reducible exact Below.refl _ _) | (with_reducible assumption) | ((with_reducible refine bl_alloc ?_ _ ?_); (focus ((first | omega | (simp <;> omega)); done))) | ((with_reducible refine bl_set ?_ _ ?_); (focus ((first | omega | (simp <;> omega)); done))) | (with_reducible refine below_drewN ?_ _) | (with_reducible refine Below.drew ?_) | ((with_reducible refine bl_trans ?_ H7.out ?_); (focus ((first | omega | (simp <;> omega)); done)))))⟩
end Go.Proofs.YtlpjcebpfmhpnaaDoor.fnExactRateAt
