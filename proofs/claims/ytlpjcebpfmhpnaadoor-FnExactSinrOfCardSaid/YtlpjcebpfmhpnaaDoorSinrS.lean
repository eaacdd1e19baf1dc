/-
  Contracts of SinrOf: the reference's. The conditions are the hypotheses.
-/
import Derived.Test.YtlpjcebpfmhpnaaDoorRows
import Derived.Test.YtlpjcebpfmhpnaaDoorLib
import Derived.Test.YtlpjcebpfmhpnaaDoorInt
import Derived.Test.YtlpjcebpfmhpnaaDoorWithin
import Derived.Test.YtlpjcebpfmhpnaaDoorNames
import Derived.Test.YtlpjcebpfmhpnaaDoorRadioB
import Derived.Test.YtlpjcebpfmhpnaaDoorModes
import Derived.Test.YtlpjcebpfmhpnaaDoorRadios
import Derived.Test.YtlpjcebpfmhpnaaDoorRadioS
import Derived.Test.YtlpjcebpfmhpnaaDoorRadio
import Derived.Test.YtlpjcebpfmhpnaaDoorLogS
import Derived.Test.YtlpjcebpfmhpnaaDoorLogI
import Derived.Test.YtlpjcebpfmhpnaaDoorFloor
import Derived.Test.YtlpjcebpfmhpnaaDoorDec
import Derived.Test.YtlpjcebpfmhpnaaDoorSum
import Derived.Test.YtlpjcebpfmhpnaaDoorOwn
import Derived.Test.YtlpjcebpfmhpnaaDoorSinrB
import Derived.Outline
import Derived.Deep.RegionHeld3
import Derived.Deep.DrawnRows
import Derived.Deep.AppendLies
import Derived.OwnWalk
import Derived.Laws.AppendOwnNone
namespace Go.Proofs.YtlpjcebpfmhpnaaDoor.ofSinrOf
open Go.RowKit
set_option linter.unusedSimpArgs false
set_option linter.unusedVariables false
attribute [local go_sem ↓] Go.wp_at_zero Go.wp_at_succ
theorem l02Level_any (w : World) (z : Int) : Calls Tryd.prog 36 #[.int .i64 z] w fun e w' => e = .returned (.bool (inB z (-300000) 300000)) ∧ w = w' := by
  go_enter Tryd.func36, Tryd.ntmps36
  go_wp2_with fail
  refine (l00In_any _ _ _ _).mono ?_
  rintro e w1 ⟨rfl, rfl⟩
  go_wp2_with fail
  go_ret
  exact ⟨rfl, rfl⟩
set_option maxRecDepth 20000 in
set_option maxHeartbeats 8000000 in
theorem spec_bad (w : World) (s : ByteArray) (is : s.size ≤ maxLen) (p : Int) (ip : In64 p) (f : Int) (jf : In64 f) (n : Int) (jn : In64 n) (wd : Int) (iw : In64 wd) (v : Value) (ms : List (Int × Int)) (q : Nat) (hr : RowM 57 w q v ms) (ims : ∀ m ∈ ms, In64 m.1 ∧ In64 m.2) (l : Int) (il : In64 l) (v2 : Value) (xs : List Int) (p2 : Nat) (hx : Row 2 w p2 v2 xs) (ixs : ∀ n ∈ xs, In64 n) (hxl : xs.length ≤ 1048576) (hv : radB s p f n wd ms = false) :
    Calls Tryd.prog 22 #[.agg #[.string s, .int .i64 p, .int .i64 f, .int .i64 n, .int .i64 wd, v], .int .i64 l, v2] w fun e w' => e = .returned (.tuple #[.int .i64 (sinM s p f n wd ms l xs).1, .int .i64 (sinM s p f n wd ms l xs).2]) ∧ Below w.heap.size w w' := by
  rw [sin_bad hv]
  have IS := Lib.hid is
  have HR := Lib.hid hr
  have HX := Lib.hid hx
  clear is ims ixs
  have hform : ∃ A c, v2 = .slice A xs.length c := by
    rcases hx.forms with ⟨rfl, rfl⟩ | ⟨g, c, rfl, _⟩ <;> exact ⟨_, _, rfl⟩
  obtain ⟨A, c, rfl⟩ := hform
  generalize xs.length = m at *
  have HE := Lib.hid hv
  clear hv hr hx
  go_enter Tryd.func22, Tryd.ntmps22
  go_wp2_with fail
  refine (l07Ok_any _ w.heap.size s IS.out p f n wd v ms q (HR.out.alloc_ _) (by simp [go_sem]) (by simp [go_sem]) (by simp [go_sem]) (by simp [go_sem]) (by simp [go_sem]) (by simp [go_sem])).mono ?_
  rintro e w1 ⟨he, hb⟩
  rw [HE.out] at he
  subst he
  have H1 := Lib.hid (show Below w.heap.size w w1 by repeat (first | (with_reducible exact Below.refl _ _) | (with_reducible assumption) | ((with_reducible refine bl_alloc ?_ _ ?_); (focus ((first | omega | (simp <;> omega)); done))) | ((with_reducible refine bl_set ?_ _ ?_); (focus ((first | omega | (simp <;> omega)); done))) | (with_reducible refine below_drewN ?_ _) | (with_reducible refine Below.drew ?_) | ((with_reducible refine bl_trans ?_ hb ?_); (focus ((first | omega | (simp <;> omega)); done)))))
  have x0 := keeps hb (p := ⟨w.heap.size, 0, none⟩) (v := .string s) (by simp [go_sem])
  have x1 := keeps hb (p := ⟨w.heap.size, 1, none⟩) (v := .int .i64 p) (by simp [go_sem])
  have x2 := keeps hb (p := ⟨w.heap.size, 2, none⟩) (v := .int .i64 f) (by simp [go_sem])
  have x3 := keeps hb (p := ⟨w.heap.size, 3, none⟩) (v := .int .i64 n) (by simp [go_sem])
  have x4 := keeps hb (p := ⟨w.heap.size, 4, none⟩) (v := .int .i64 wd) (by simp [go_sem])
  have x5 := keeps hb (p := ⟨w.heap.size, 5, none⟩) (v := v) (by simp [go_sem])
  have lW : w.heap.size < w1.heap.size := block_of_cell x5
  have zz : w.heap.size ≤ w1.heap.size := by omega
  have HRR := Lib.hid ((HR.out.alloc_ (.cells #[.string s, .int .i64 p, .int .i64 f, .int .i64 n, .int .i64 wd, v] 30)).later hb)
  clear hb
  go_wp2_with fail
  all_goals go_ret2
  all_goals exact ⟨rfl, by repeat (first | (with_reducible exact Below.refl _ _) | (with_reducible assumption) | ((with_reducible refine bl_alloc ?_ _ ?_); (focus ((first | omega | (simp <;> omega)); done))) | ((with_reducible refine bl_set ?_ _ ?_); (focus ((first | omega | (simp <;> omega)); done))) | (with_reducible refine below_drewN ?_ _) | (with_reducible refine Below.drew ?_) | ((with_reducible refine bl_trans ?_ H1.out ?_); (focus ((first | omega | (simp <;> omega)); done))))⟩
set_option maxRecDepth 20000 in
set_option maxHeartbeats 8000000 in
theorem spec_lev (w : World) (s : ByteArray) (is : s.size ≤ maxLen) (p : Int) (ip : In64 p) (f : Int) (jf : In64 f) (n : Int) (jn : In64 n) (wd : Int) (iw : In64 wd) (v : Value) (ms : List (Int × Int)) (q : Nat) (hr : RowM 57 w q v ms) (ims : ∀ m ∈ ms, In64 m.1 ∧ In64 m.2) (l : Int) (il : In64 l) (v2 : Value) (xs : List Int) (p2 : Nat) (hx : Row 2 w p2 v2 xs) (ixs : ∀ n ∈ xs, In64 n) (hxl : xs.length ≤ 1048576) (hv : radB s p f n wd ms = true) (hl : ¬ levP f l) :
    Calls Tryd.prog 22 #[.agg #[.string s, .int .i64 p, .int .i64 f, .int .i64 n, .int .i64 wd, v], .int .i64 l, v2] w fun e w' => e = .returned (.tuple #[.int .i64 (sinM s p f n wd ms l xs).1, .int .i64 (sinM s p f n wd ms l xs).2]) ∧ Below w.heap.size w w' := by
  rw [sin_lev hv hl]
  have IS := Lib.hid is
  have HR := Lib.hid hr
  have HX := Lib.hid hx
  clear is ims ixs
  have hform : ∃ A c, v2 = .slice A xs.length c := by
    rcases hx.forms with ⟨rfl, rfl⟩ | ⟨g, c, rfl, _⟩ <;> exact ⟨_, _, rfl⟩
  obtain ⟨A, c, rfl⟩ := hform
  generalize xs.length = m at *
  obtain ⟨_, ⟨⟨_, _⟩, ⟨f1, f2⟩, _, _, _, _⟩, _⟩ := rad_parts hv
  have HE := Lib.hid hv
  clear hv hr hx
  rcases lev_cases f1 l with ⟨h, _⟩ | ⟨_, h1, _⟩ | ⟨_, h1, h2, _⟩ | ⟨_, h1, h2, h3, _, _⟩
  · exact absurd h hl
  all_goals
    clear hl
    go_enter Tryd.func22, Tryd.ntmps22
    go_wp2_with fail
    refine (l07Ok_any _ w.heap.size s IS.out p f n wd v ms q (HR.out.alloc_ _) (by simp [go_sem]) (by simp [go_sem]) (by simp [go_sem]) (by simp [go_sem]) (by simp [go_sem]) (by simp [go_sem])).mono ?_
    rintro e w1 ⟨he, hb⟩
    rw [HE.out] at he
    subst he
    have H1 := Lib.hid (show Below w.heap.size w w1 by repeat (first | (with_reducible exact Below.refl _ _) | (with_reducible assumption) | ((with_reducible refine bl_alloc ?_ _ ?_); (focus ((first | omega | (simp <;> omega)); done))) | ((with_reducible refine bl_set ?_ _ ?_); (focus ((first | omega | (simp <;> omega)); done))) | (with_reducible refine below_drewN ?_ _) | (with_reducible refine Below.drew ?_) | ((with_reducible refine bl_trans ?_ hb ?_); (focus ((first | omega | (simp <;> omega)); done)))))
    have x0 := keeps hb (p := ⟨w.heap.size, 0, none⟩) (v := .string s) (by simp [go_sem])
    have x1 := keeps hb (p := ⟨w.heap.size, 1, none⟩) (v := .int .i64 p) (by simp [go_sem])
    have x2 := keeps hb (p := ⟨w.heap.size, 2, none⟩) (v := .int .i64 f) (by simp [go_sem])
    have x3 := keeps hb (p := ⟨w.heap.size, 3, none⟩) (v := .int .i64 n) (by simp [go_sem])
    have x4 := keeps hb (p := ⟨w.heap.size, 4, none⟩) (v := .int .i64 wd) (by simp [go_sem])
    have x5 := keeps hb (p := ⟨w.heap.size, 5, none⟩) (v := v) (by simp [go_sem])
    have lW : w.heap.size < w1.heap.size := block_of_cell x5
    have zz : w.heap.size ≤ w1.heap.size := by omega
    have HRR := Lib.hid ((HR.out.alloc_ (.cells #[.string s, .int .i64 p, .int .i64 f, .int .i64 n, .int .i64 wd, v] 30)).later hb)
    clear hb
    go_wp2_with (first | (go_at_call 49; go_in) | (go_at_call 36; go_in))
    all_goals go_ret2
    all_goals exact ⟨rfl, by repeat (first | (with_reducible exact Below.refl _ _) | (with_reducible assumption) | ((with_reducible refine bl_alloc ?_ _ ?_); (focus ((first | omega | (simp <;> omega)); done))) | ((with_reducible refine bl_set ?_ _ ?_); (focus ((first | omega | (simp <;> omega)); done))) | (with_reducible refine below_drewN ?_ _) | (with_reducible refine Below.drew ?_) | ((with_reducible refine bl_trans ?_ H1.out ?_); (focus ((first | omega | (simp <;> omega)); done))))⟩
set_option maxRecDepth 20000 in
set_option maxHeartbeats 8000000 in
theorem spec_main (w : World) (s : ByteArray) (is : s.size ≤ maxLen) (p : Int) (ip : In64 p) (f : Int) (jf : In64 f) (n : Int) (jn : In64 n) (wd : Int) (iw : In64 wd) (v : Value) (ms : List (Int × Int)) (q : Nat) (hr : RowM 57 w q v ms) (ims : ∀ m ∈ ms, In64 m.1 ∧ In64 m.2) (l : Int) (il : In64 l) (v2 : Value) (xs : List Int) (p2 : Nat) (hx : Row 2 w p2 v2 xs) (ixs : ∀ n ∈ xs, In64 n) (hxl : xs.length ≤ 1048576) (hv : radB s p f n wd ms = true) (hl : levP f l) :
    Calls Tryd.prog 22 #[.agg #[.string s, .int .i64 p, .int .i64 f, .int .i64 n, .int .i64 wd, v], .int .i64 l, v2] w fun e w' => e = .returned (.tuple #[.int .i64 (sinM s p f n wd ms l xs).1, .int .i64 (sinM s p f n wd ms l xs).2]) ∧ Below w.heap.size w w' := by
  have IS := Lib.hid is
  have HR := Lib.hid hr
  have HX := Lib.hid hx
  clear is ims ixs
  obtain ⟨m, hm⟩ : ∃ m, m = xs.length := ⟨_, rfl⟩
  have hform : ∃ A c, v2 = .slice A xs.length c := by
    rcases hx.forms with ⟨rfl, rfl⟩ | ⟨g, c, rfl, _⟩ <;> exact ⟨_, _, rfl⟩
  obtain ⟨A, c, rfl⟩ := hform
  obtain ⟨l0, l1⟩ := hl.1
  obtain ⟨l2, l3⟩ := hl.2
  obtain ⟨_, ⟨⟨p1, p2⟩, ⟨f1, f2⟩, ⟨n1, n2⟩, ⟨d1, d2⟩, m1, m8⟩, hmm⟩ := rad_parts hv
  clear hmm
  obtain ⟨M, hM⟩ : ∃ M, M = sinM s p f n wd ms l xs := ⟨_, rfl⟩
  rw [← hM]
  obtain ⟨k0, k1⟩ := flV_bd (wd := wd) d2 n1 n2
  have HNO := Lib.hid (fun k (hk : k < m) (q : ¬ levP f (xs.getD k 0)) => hM.trans (sin_all hv (by rw [← hm]; exact hk) q))
  have HFU := Lib.hid (fun (q : ∀ k, k < m → levP f (xs.getD k 0)) (h : ¬ m ≤ 63) => hM.trans (sin_full hv hl (fun k hk => q k (by rw [hm]; exact hk)) (by rw [← hm]; exact h)))
  have HYE := Lib.hid (fun (q : ∀ k, k < m → levP f (xs.getD k 0)) (h : m ≤ 63) => hM.trans (sin_yes hv hl (fun k hk => q k (by rw [hm]; exact hk)) (by rw [← hm]; exact h)))
  obtain ⟨K, hK⟩ : ∃ K, K = flV wd n := ⟨_, rfl⟩
  rw [← hK] at k0 k1 HYE
  have HK := Lib.hid hK
  have HE := Lib.hid hv
  have HM := Lib.hid hm
  have hcell : ∀ k, k < m → ∃ g, A = some ⟨g, 0, none⟩ ∧ g < w.heap.size ∧ w.cell? ⟨g, k, none⟩ = some (.int .i64 (xs.getD k 0)) := by
    intro k hk
    rcases hx.forms with ⟨hv, rfl⟩ | ⟨g, c', hv, _, hlt, hc, _⟩
    · simp at hm; omega
    · simp only [Value.slice.injEq] at hv
      exact ⟨g, hv.1, hlt, hc k (by omega)⟩
  have HC := Lib.hid hcell
  rw [← hm] at hxl HX ⊢
  clear hcell hM hK hv hm hr hx
  obtain ⟨i0, hi, hz0, hz1, hz2⟩ := info_parts Tryd.info_i64
  have HI := Lib.hid hi
  have HZ0 := Lib.hid hz0
  have HZ1 := Lib.hid hz1
  have HZ2 := Lib.hid hz2
  clear hi hz0 hz1 hz2
  go_enter Tryd.func22, Tryd.ntmps22
  go_wp2_with fail
  refine (l07Ok_any _ w.heap.size s IS.out p f n wd v ms q (HR.out.alloc_ _) (by simp [go_sem]) (by simp [go_sem]) (by simp [go_sem]) (by simp [go_sem]) (by simp [go_sem]) (by simp [go_sem])).mono ?_
  rintro e w1 ⟨he, hb⟩
  rw [HE.out] at he
  subst he
  have H1 := Lib.hid (show Below w.heap.size w w1 by repeat (first | (with_reducible exact Below.refl _ _) | (with_reducible assumption) | ((with_reducible refine bl_alloc ?_ _ ?_); (focus ((first | omega | (simp <;> omega)); done))) | ((with_reducible refine bl_set ?_ _ ?_); (focus ((first | omega | (simp <;> omega)); done))) | (with_reducible refine below_drewN ?_ _) | (with_reducible refine Below.drew ?_) | ((with_reducible refine bl_trans ?_ hb ?_); (focus ((first | omega | (simp <;> omega)); done)))))
  have x0 := keeps hb (p := ⟨w.heap.size, 0, none⟩) (v := .string s) (by simp [go_sem])
  have x1 := keeps hb (p := ⟨w.heap.size, 1, none⟩) (v := .int .i64 p) (by simp [go_sem])
  have x2 := keeps hb (p := ⟨w.heap.size, 2, none⟩) (v := .int .i64 f) (by simp [go_sem])
  have x3 := keeps hb (p := ⟨w.heap.size, 3, none⟩) (v := .int .i64 n) (by simp [go_sem])
  have x4 := keeps hb (p := ⟨w.heap.size, 4, none⟩) (v := .int .i64 wd) (by simp [go_sem])
  have x5 := keeps hb (p := ⟨w.heap.size, 5, none⟩) (v := v) (by simp [go_sem])
  have lW : w.heap.size < w1.heap.size := block_of_cell x5
  have zz : w.heap.size ≤ w1.heap.size := by omega
  have HRR := Lib.hid ((HR.out.alloc_ (.cells #[.string s, .int .i64 p, .int .i64 f, .int .i64 n, .int .i64 wd, v] 30)).later hb)
  clear hb
  go_wp2_with (first | (go_at_call 49; go_in) | (go_at_call 36; go_in))
  refine (l07Floor_any _ w.heap.size n wd x3 x4 d1 d2 n1 n2).mono ?_
  rintro e w2 ⟨he, hw⟩
  rw [← HK.out] at he
  subst he
  have hb2 : Below w1.heap.size w1 w2 := by obtain ⟨q', rfl⟩ := hw; exact below_drewN (Below.refl _ _) _
  clear hw
  have y2 := keeps hb2 x2
  have lW2 : w.heap.size < w2.heap.size := block_of_cell y2
  have H2 := Lib.hid (show Below w.heap.size w w2 by repeat (first | (with_reducible exact Below.refl _ _) | (with_reducible assumption) | ((with_reducible refine bl_alloc ?_ _ ?_); (focus ((first | omega | (simp <;> omega)); done))) | ((with_reducible refine bl_set ?_ _ ?_); (focus ((first | omega | (simp <;> omega)); done))) | (with_reducible refine below_drewN ?_ _) | (with_reducible refine Below.drew ?_) | ((with_reducible refine bl_trans ?_ hb2 ?_); (focus ((first | omega | (simp <;> omega)); done))) | ((with_reducible refine bl_trans ?_ H1.out ?_); (focus ((first | omega | (simp <;> omega)); done)))))
  clear x0 x1 x2 x3 x4 x5 hb2 zz lW
  go_wp2_with fail
  go_loopw [8, 9] (fun t i wr => ∃ k : Nat, k ≤ m ∧ i = .int .i64 (k : Int) ∧ Hid (∀ j, j < k → levP f (xs.getD j 0)) ∧ Hid (Row 2 wr w2.heap.size t ((noiseL K f xs).take (k + 1))) ∧ Hid (Below w2.heap.size w2 wr)) (fun _ i _ => m + 1 - (intOf i).toNat)
  case atStart => exact ⟨0, Nat.zero_le _, rfl, fun j h => by omega, (show Row _ _ _ _ _ from Row.lit w2 2 [K] w2.heap.size 1 w2.heap.size rfl rfl (by unfold maxLen; omega) (Nat.le_refl _)), (show Below _ _ _ by repeat (first | (with_reducible exact Below.refl _ _) | (with_reducible assumption) | ((with_reducible refine bl_alloc ?_ _ ?_); (focus ((first | omega | (simp <;> omega)); done))) | ((with_reducible refine bl_set ?_ _ ?_); (focus ((first | omega | (simp <;> omega)); done))) | (with_reducible refine below_drewN ?_ _) | (with_reducible refine Below.drew ?_)))⟩
  case round =>
    obtain ⟨k, hk, rfl, hle, hrw, hbw⟩ := hrel
    have kk0 : (0 : Int) ≤ (k : Int) := Int.natCast_nonneg _
    have zr : w2.heap.size ≤ wr.heap.size := hbw.out.size
    have yf := (hbw.out.cell (p := ⟨w.heap.size, 2, none⟩) lW2).trans y2
    have HBW := Lib.hid (H2.out.trans (hbw.out.mono H2.out.size))
    by_cases hlt : k < m
    · have hlt' : (k : Int) < (m : Int) := by omega
      obtain ⟨g, rfl, gl, gc⟩ := HC.out k hlt
      have gc' := (HBW.out.cell (p := ⟨g, k, none⟩) gl).trans gc
      have hno := Lib.hid (HNO.out k hlt)
      have hst := Lib.hid (noise_step K f xs (k := k) (by have := HM.out; omega))
      have hup := Lib.hid (fun (q : levP f (xs.getD k 0)) => (show ∀ j, j < k + 1 → levP f (xs.getD j 0) from fun j hj => by
        by_cases e : j = k
        · subst e; exact q
        · exact hle.out j (by omega)))
      have hlen : ((noiseL K f xs).take (k + 1)).length = k + 1 := by rw [List.length_take, noise_len]; have := HM.out; omega
      obtain ⟨ys, hy⟩ : ∃ ys, ys = (noiseL K f xs).take (k + 1) := ⟨_, rfl⟩
      rw [← hy] at hrw hlen hst
      clear hy gc
      rcases lev_cases f1 (xs.getD k 0) with ⟨hq, e1, e2, e3, e4⟩ | ⟨hq, e1, e2⟩ | ⟨hq, e1, e2, e3⟩ | ⟨hq, e1, e2, e3, e4, e5⟩
      · have hup' := Lib.hid (hup.out hq)
        clear hup hno hle hq
        generalize xs.getD k 0 = x at *
        have b1 : inB x (-300000) 300000 = true := inB_yes e1 e2
        have b2 : inB (x - f) (-300000) 300000 = true := inB_yes e3 e4
        have i1 : IntKind.i64.wrap (x - f) = x - f := by rw [IntKind.wrap_i64]; omega
        obtain ⟨z, hz⟩ : ∃ z, z = x - f := ⟨_, rfl⟩
        rw [← hz] at hst
        have HZ := Lib.hid hz
        clear hz
        go_wp2_with fail
        go_quiet ((go_at_call 36; exact quiet_left (l02Level_any _ _)))
        go_wp2_with fail
        go_region_held3 (fun w' => w'.cell? ⟨g, k, none⟩ = some (.int .i64 x) ∧ w'.cell? ⟨w.heap.size, 2, none⟩ = some (.int .i64 f))
          (first | (refine ⟨?_, ?_⟩ <;> assumption) | (go_split_ands; (refine ⟨?_, ?_⟩ <;> first | assumption | (exact cell_alloc (by assumption) _))) | go_keep)
          ((refine step_append_lies _ (by rfl) _ _ _ (by rfl) w2.heap.size 2 i0 (.int .i64 0) 1 8 Tryd.underlying37 HI.out HZ0.out HZ1.out HZ2.out rfl (by omega) u8 (k + 1) (ys.map (Value.int .i64)) (by rfl) (Row.owns hlen (hrw.out.alloc_ (.cells #[.int .i64 (x - f)] 2))) ⟨wr.heap.size, 0, none⟩ 1 1 [.int .i64 (x - f)] (by rfl) (by rfl) (World.news_of_block (cs := #[.int .i64 (x - f)]) (t := 2) (fr := (0, 0)) (heap_alloc_new wr _)) (by simp [Value.oneCell']) (by omega) (by unfold maxLen; omega) (by omega) (by simp <;> omega) (wr.heap.size + 1) (by simp) ?_; intro g3 cap3 w3 hown hgrow hat hlt3; have q1 := (hgrow.cell_far ⟨g, k, none⟩ (by simp <;> omega) (fun q => by have := (hrw.out.lt _ q.symm).1; simp at this; omega)).trans (cell_alloc gc' (.cells #[.int .i64 (x - f)] 2)); have q2 := (hgrow.cell_far ⟨w.heap.size, 2, none⟩ (by simp <;> omega) (fun q => by have := (hrw.out.lt _ q.symm).1; simp at this; omega)).trans (cell_alloc yf (.cells #[.int .i64 (x - f)] 2))))
        have hb3 := app_below (hrw.out.alloc_ (.cells #[.int .i64 (x - f)] 2)) (show (wr.alloc (.cells #[.int .i64 (x - f)] 2)).grownBy w3 _ from ⟨hgrow.os, hgrow.tape, hgrow.output, hgrow.size, hgrow.block⟩) (by simp; omega)
        have hr3 : Hid (Row 2 w3 w2.heap.size (.slice (some ⟨g3, 0, none⟩) (k + 1 + 1) cap3) ((noiseL K f xs).take (k + 1 + 1))) := by
          show Row _ _ _ _ _
          rw [hst.out, HZ.out]
          exact app_row hlen hown
        have H3 := Lib.hid (show Below w2.heap.size w2 w3 from (bl_alloc hbw.out.size _ hbw.out).trans hb3)
        clear hown hgrow hb3 hrw hat q1 q2
        go_wp2
        go_roundw
        case rel => exact ⟨k + 1, by omega, by go_num, hup', hr3, H3⟩
        case measure => simp [intOf]; omega
      · have he := Lib.hid (hno.out hq)
        clear hup hno hle hq hst
        generalize xs.getD k 0 = x at *
        go_wp2_with fail
        go_quiet ((go_at_call 36; exact quiet_left (l02Level_any _ _)))
        go_wp2_with fail
        go_ret2
        exact ⟨(by rw [he.out] <;> rfl), by repeat (first | (with_reducible exact Below.refl _ _) | (with_reducible assumption) | ((with_reducible refine bl_alloc ?_ _ ?_); (focus ((first | omega | (simp <;> omega)); done))) | ((with_reducible refine bl_set ?_ _ ?_); (focus ((first | omega | (simp <;> omega)); done))) | (with_reducible refine below_drewN ?_ _) | (with_reducible refine Below.drew ?_) | ((with_reducible refine bl_trans ?_ HBW.out ?_); (focus ((first | omega | (simp <;> omega)); done))))⟩
      · have he := Lib.hid (hno.out hq)
        clear hup hno hle hq hst
        generalize xs.getD k 0 = x at *
        go_wp2_with fail
        go_quiet ((go_at_call 36; exact quiet_left (l02Level_any _ _)))
        go_wp2_with fail
        go_ret2
        exact ⟨(by rw [he.out] <;> rfl), by repeat (first | (with_reducible exact Below.refl _ _) | (with_reducible assumption) | ((with_reducible refine bl_alloc ?_ _ ?_); (focus ((first | omega | (simp <;> omega)); done))) | ((with_reducible refine bl_set ?_ _ ?_); (focus ((first | omega | (simp <;> omega)); done))) | (with_reducible refine below_drewN ?_ _) | (with_reducible refine Below.drew ?_) | ((with_reducible refine bl_trans ?_ HBW.out ?_); (focus ((first | omega | (simp <;> omega)); done))))⟩
      · have he := Lib.hid (hno.out hq)
        clear hup hno hle hq hst
        generalize xs.getD k 0 = x at *
        have i1 : IntKind.i64.wrap (x - f) = x - f := by rw [IntKind.wrap_i64]; omega
        go_wp2_with fail
        go_quiet ((go_at_call 36; exact quiet_left (l02Level_any _ _)))
        go_wp2_with fail
        go_ret2
        exact ⟨(by rw [he.out] <;> rfl), by repeat (first | (with_reducible exact Below.refl _ _) | (with_reducible assumption) | ((with_reducible refine bl_alloc ?_ _ ?_); (focus ((first | omega | (simp <;> omega)); done))) | ((with_reducible refine bl_set ?_ _ ?_); (focus ((first | omega | (simp <;> omega)); done))) | (with_reducible refine below_drewN ?_ _) | (with_reducible refine Below.drew ?_) | ((with_reducible refine bl_trans ?_ HBW.out ?_); (focus ((first | omega | (simp <;> omega)); done))))⟩
    · obtain rfl : k = m := by omega
      have hd : decide ((k : Int) < (k : Int)) = false := decide_eq_false (by omega)
      have hrr : Hid (Row 2 wr w2.heap.size u8 (noiseL K f xs)) := by
        have h := hrw.out
        rw [List.take_of_length_le (by rw [noise_len]; have := HM.out; omega)] at h
        exact h
      clear hrw
      rcases hrr.out.forms with ⟨_, hz⟩ | ⟨h3, cap3, hu, _, hl3, hc3, _⟩
      · simp [noiseL] at hz
      rw [noise_len, ← HM.out] at hu
      subst hu
      by_cases h63 : k ≤ 63
      · have he := Lib.hid (HYE.out hle.out h63)
        have hbd := noise_bd (K := K) (f := f) (xs := xs) (by omega) (by omega) (fun j hj => hle.out j (by have := HM.out; omega))
        obtain ⟨v0, v1⟩ := sumV_bd (xs := noiseL K f xs) (by rw [noise_len]; omega) (by rw [noise_len]; have := HM.out; omega) hbd
        have HS : Hid (∀ q' : Nat, Calls Tryd.prog 59 #[.slice (some ⟨h3, 0, none⟩) (k + 1) cap3] (wr.drewN q') fun e w' => e = .returned (.int .i64 (sumV (noiseL K f xs))) ∧ wr.drewN q' = w') := fun q' => l02Sum_any (wr.drewN q') h3 cap3 (k + 1) (noiseL K f xs) (by rw [noise_len]; have := HM.out; omega) (by omega) (by omega) (fun j hj => hbd j (by rw [noise_len]; have := HM.out; omega)) (fun j hj => hc3 j (by rw [noise_len]; have := HM.out; omega))
        obtain ⟨V, hV⟩ : ∃ V, V = sumV (noiseL K f xs) := ⟨_, rfl⟩
        rw [← hV] at HS v0 v1 he
        have i1 : IntKind.i64.wrap (l - f) = l - f := by rw [IntKind.wrap_i64]; omega
        have i2 : IntKind.i64.wrap (l - f - V) = l - f - V := by rw [IntKind.wrap_i64]; omega
        clear hV hbd hc3 hle HNO HFU HYE
        have hq : ¬ (64 : Int) < (k : Int) + 1 := by omega
        go_wp2_with fail
        go_quiet ((go_at_call 59; exact quiet_left (HS.out _)))
        go_wp2_with fail
        go_ret2
        exact ⟨(by rw [he.out] <;> rfl), by repeat (first | (with_reducible exact Below.refl _ _) | (with_reducible assumption) | ((with_reducible refine bl_alloc ?_ _ ?_); (focus ((first | omega | (simp <;> omega)); done))) | ((with_reducible refine bl_set ?_ _ ?_); (focus ((first | omega | (simp <;> omega)); done))) | (with_reducible refine below_drewN ?_ _) | (with_reducible refine Below.drew ?_) | ((with_reducible refine bl_trans ?_ HBW.out ?_); (focus ((first | omega | (simp <;> omega)); done))))⟩
      · have he := Lib.hid (HFU.out hle.out h63)
        clear hc3 hle HNO HFU HYE
        have hq : (64 : Int) < (k : Int) + 1 := by omega
        go_wp2_with fail
        all_goals go_ret2
        all_goals exact ⟨(by rw [he.out] <;> rfl), by repeat (first | (with_reducible exact Below.refl _ _) | (with_reducible assumption) | ((with_reducible refine bl_alloc ?_ _ ?_); (focus ((first | omega | (simp <;> omega)); done))) | ((with_reducible refine bl_set ?_ _ ?_); (focus ((first | omega | (simp <;> omega)); done))) | (with_reducible refine below_drewN ?_ _) | (with_reducible refine Below.drew ?_) | ((with_reducible refine bl_trans ?_ HBW.out ?_); (focus ((first | omega | (simp <;> omega)); done))))⟩
theorem spec_any (w : World) (s : ByteArray) (is : s.size ≤ maxLen) (p : Int) (ip : In64 p) (f : Int) (jf : In64 f) (n : Int) (jn : In64 n) (wd : Int) (iw : In64 wd) (v : Value) (ms : List (Int × Int)) (q : Nat) (hr : RowM 57 w q v ms) (ims : ∀ m ∈ ms, In64 m.1 ∧ In64 m.2) (l : Int) (il : In64 l) (v2 : Value) (xs : List Int) (p2 : Nat) (hx : Row 2 w p2 v2 xs) (ixs : ∀ n ∈ xs, In64 n) (hxl : xs.length ≤ 1048576) :
    Calls Tryd.prog 22 #[.agg #[.string s, .int .i64 p, .int .i64 f, .int .i64 n, .int .i64 wd, v], .int .i64 l, v2] w fun e w' => e = .returned (.tuple #[.int .i64 (sinM s p f n wd ms l xs).1, .int .i64 (sinM s p f n wd ms l xs).2]) ∧ Below w.heap.size w w' := by
  rcases bool_tf (radB s p f n wd ms) with h | h
  · by_cases hl : levP f l
    · exact spec_main w s is p ip f jf n jn wd iw v ms q hr ims l il v2 xs p2 hx ixs hxl h hl
    · exact spec_lev w s is p ip f jf n jn wd iw v ms q hr ims l il v2 xs p2 hx ixs hxl h hl
  · exact spec_bad w s is p ip f jf n jn wd iw v ms q hr ims l il v2 xs p2 hx ixs hxl h
end Go.Proofs.YtlpjcebpfmhpnaaDoor.ofSinrOf
