/-
  Ends of a path in a terrain: their validity, the program's test of some ends. The conditions are the hypotheses.
-/
import Derived.Test.YtedpdcdmemenhaaRows
import Derived.Test.YtedpdcdmemenhaaLib
import Derived.Test.YtedpdcdmemenhaaInt
import Derived.Test.YtedpdcdmemenhaaWithin
import Derived.Test.YtedpdcdmemenhaaAll
import Derived.Test.YtedpdcdmemenhaaOwn
import Derived.Test.YtedpdcdmemenhaaField
import Derived.Test.YtedpdcdmemenhaaTer
import Derived.Test.YtedpdcdmemenhaaTerV
import Derived.Test.YtedpdcdmemenhaaIn
import Derived.Shelf.Abstract
import Derived.Outline
import Derived.Deep.DeepCutAuto
import Derived.Deep.QuietTactic
import Derived.BigQuiet
import Derived.Deep.RegionHeld3
import Derived.Deep.DrawnRows
namespace Go.Proofs.Ytedpdcdmemenhaa
open Go.RowKit
set_option linter.unusedSimpArgs false
set_option linter.unusedVariables false
attribute [local go_sem ↓] Go.wp_at_zero Go.wp_at_succ
def endB (x y a : Int) : Bool := decide (0 ≤ x ∧ x ≤ 200000 ∧ 0 ≤ y ∧ y ≤ 200000 ∧ 1 ≤ a ∧ a ≤ 3000)
theorem end_parts {x y a : Int} (h : endB x y a = true) : (0 ≤ x ∧ x ≤ 200000) ∧ (0 ≤ y ∧ y ≤ 200000) ∧ (1 ≤ a ∧ a ≤ 3000) := by
  have := of_decide_eq_true h
  omega
structure En where
  x : Int
  y : Int
  a : Int
def En.v (e : En) : Value := .agg #[.int .i64 e.x, .int .i64 e.y, .int .i64 e.a]
def e0 : En := ⟨0, 0, 0⟩
theorem l12End_any (w : World) (x y a : Int) :
    Calls Try.prog 67 #[.agg #[.int .i64 x, .int .i64 y, .int .i64 a]] w fun e w' => e = .returned (.bool (endB x y a)) ∧ Below w.heap.size w w' := by
  go_enter Try.func67, Try.ntmps67
  go_wp2
  all_goals
    go_ret
    exact ⟨(ret_bool (by unfold endB; first | exact (decide_eq_true (by omega)).symm | exact (decide_eq_false (by omega)).symm | (rw [Bool.eq_iff_iff]; simp only [decide_eq_true_eq, Bool.and_eq_true, Bool.or_eq_true, Bool.not_eq_true', decide_eq_false_iff_not]; omega))), by repeat (first | (with_reducible exact Below.refl _ _) | (with_reducible assumption) | ((with_reducible refine bl_alloc ?_ _ ?_); (focus ((first | omega | (simp <;> omega)); done))) | ((with_reducible refine bl_set ?_ _ ?_); (focus ((first | omega | (simp <;> omega)); done))) | (with_reducible refine below_drewN ?_ _) | (with_reducible refine Below.drew ?_))⟩
theorem vEnd_any (w : World) (x y a : Int) :
    Calls Try.prog 102 #[.agg #[.int .i64 x, .int .i64 y, .int .i64 a]] w fun e w' => e = .returned (.bool (endB x y a)) ∧ Below w.heap.size w w' := by
  go_enter Try.func102, Try.ntmps102
  go_wp2
  all_goals
    go_ret
    exact ⟨(ret_bool (by unfold endB; first | exact (decide_eq_true (by omega)).symm | exact (decide_eq_false (by omega)).symm | (rw [Bool.eq_iff_iff]; simp only [decide_eq_true_eq, Bool.and_eq_true, Bool.or_eq_true, Bool.not_eq_true', decide_eq_false_iff_not]; omega))), by repeat (first | (with_reducible exact Below.refl _ _) | (with_reducible assumption) | ((with_reducible refine bl_alloc ?_ _ ?_); (focus ((first | omega | (simp <;> omega)); done))) | ((with_reducible refine bl_set ?_ _ ?_); (focus ((first | omega | (simp <;> omega)); done))) | (with_reducible refine below_drewN ?_ _) | (with_reducible refine Below.drew ?_))⟩
set_option maxRecDepth 20000 in
theorem ends1_any (w : World) (x y a : Int) (lb : Array Value) (hl : lb = #[]) :
    Calls Try.prog 101 (#[.agg #[.int .i64 x, .int .i64 y, .int .i64 a]] ++ lb) w fun e w' => e = .returned (.bool (!endB x y a)) ∧ Below w.heap.size w w' := by
  subst hl
  have HV : Hid (∀ W : World, Calls Try.prog 102 #[.agg #[.int .i64 x, .int .i64 y, .int .i64 a]] W fun e w' => e = .returned (.bool (endB x y a)) ∧ Below W.heap.size W w') := fun W => vEnd_any W x y a
  obtain ⟨R, hR⟩ : ∃ R, R = endB x y a := ⟨_, rfl⟩
  rw [← hR] at HV ⊢
  clear hR
  go_enter Try.func101, Try.ntmps101
  go_wp2_with fail
  refine (HV.out _).mono ?_
  rintro e w1 ⟨rfl, hb⟩
  have H1 := Lib.hid (show Below w.heap.size w w1 by repeat (first | (with_reducible exact Below.refl _ _) | (with_reducible assumption) | ((with_reducible refine bl_alloc ?_ _ ?_); (focus ((first | omega | (simp <;> omega)); done))) | ((with_reducible refine bl_set ?_ _ ?_); (focus ((first | omega | (simp <;> omega)); done))) | (with_reducible refine below_drewN ?_ _) | (with_reducible refine Below.drew ?_) | ((with_reducible refine bl_trans ?_ hb ?_); (focus ((first | omega | (simp <;> omega)); done)))))
  clear hb
  go_wp2_with fail
  go_ret
  exact ⟨rfl, H1.out⟩
set_option maxRecDepth 20000 in
theorem ends2_any (w : World) (x y a st wd ht : Int) (v u : Value) (b : Nat) (hz : sizeB st wd ht = true) (c0 : w.cell? ⟨b, 0, none⟩ = some (.int .i64 st)) (c1 : w.cell? ⟨b, 1, none⟩ = some (.int .i64 wd)) (c2 : w.cell? ⟨b, 2, none⟩ = some (.int .i64 ht)) (c3 : w.cell? ⟨b, 3, none⟩ = some (v)) (c4 : w.cell? ⟨b, 4, none⟩ = some (u)) :
    Calls Try.prog 104 (#[.agg #[.int .i64 x, .int .i64 y, .int .i64 a]] ++ #[.pointer (some ⟨b, 0, none⟩)]) w fun e w' => e = .returned (.bool (!hasB st wd ht x y)) ∧ Below w.heap.size w w' := by
  have HV : Hid (∀ W : World, Calls Try.prog 105 #[.agg #[.int .i64 st, .int .i64 wd, .int .i64 ht, v, u], .agg #[.int .i64 x, .int .i64 y]] W fun e w' => e = .returned (.bool (hasB st wd ht x y)) ∧ Below W.heap.size W w') := fun W => has_any W st wd ht x y v u hz
  obtain ⟨R, hR⟩ : ∃ R, R = hasB st wd ht x y := ⟨_, rfl⟩
  rw [← hR] at HV ⊢
  have l0 := block_of_cell c0
  clear hR hz
  go_enter Try.func104, Try.ntmps104
  go_wp2_with fail
  refine (HV.out _).mono ?_
  rintro e w1 ⟨rfl, hb⟩
  have H1 := Lib.hid (show Below w.heap.size w w1 by repeat (first | (with_reducible exact Below.refl _ _) | (with_reducible assumption) | ((with_reducible refine bl_alloc ?_ _ ?_); (focus ((first | omega | (simp <;> omega)); done))) | ((with_reducible refine bl_set ?_ _ ?_); (focus ((first | omega | (simp <;> omega)); done))) | (with_reducible refine below_drewN ?_ _) | (with_reducible refine Below.drew ?_) | ((with_reducible refine bl_trans ?_ hb ?_); (focus ((first | omega | (simp <;> omega)); done)))))
  clear hb
  go_wp2_with fail
  go_ret
  exact ⟨rfl, H1.out⟩
/-- The cells of a row of ends. -/
def EnRow (w : World) (b : Nat) (es : List En) : Prop := ∀ k, k < es.length → w.cell? ⟨b, k * 3, none⟩ = some (.int .i64 (es.getD k e0).x) ∧ w.cell? ⟨b, k * 3 + 1, none⟩ = some (.int .i64 (es.getD k e0).y) ∧ w.cell? ⟨b, k * 3 + 2, none⟩ = some (.int .i64 (es.getD k e0).a)
theorem EnRow.later {w w' : World} {b : Nat} {es : List En} (h : EnRow w b es) (hb : Below w.heap.size w w') : EnRow w' b es := fun k hk => ⟨keeps hb (h k hk).1, keeps hb (h k hk).2.1, keeps hb (h k hk).2.2⟩
/-- What a test of ends answers, in whatever world has come of w. -/
def Tests (w : World) (g : Nat) (lb : Array Value) (pr : En → Bool) : Prop := ∀ (W : World) (e : En), Below w.heap.size w W → Calls Try.prog g (#[.agg #[.int .i64 e.x, .int .i64 e.y, .int .i64 e.a]] ++ lb) W fun r w' => r = .returned (.bool (pr e)) ∧ Below W.heap.size W w'
theorem any_hit {es : List En} {pr : En → Bool} {k : Nat} (hk : k < es.length) (h : pr (es.getD k e0) = true) : es.any pr = true := by
  rw [List.any_eq_true]
  exact ⟨es[k], List.getElem_mem hk, by simpa [List.getD, hk] using h⟩
theorem any_miss {es : List En} {pr : En → Bool} (h : ∀ k, k < es.length → pr (es.getD k e0) = false) : es.any pr = false := by
  rw [List.any_eq_false]
  intro e he
  obtain ⟨k, hk, rfl⟩ := List.getElem_of_mem he
  have := h k hk
  simpa [List.getD, hk] using this
set_option maxRecDepth 20000 in
set_option maxHeartbeats 4000000 in
theorem idxEnd_any (w : World) (b c g : Nat) (lb : Array Value) (es : List En) (pr : En → Bool) (eg : ∀ args w, (callFunc g args).run Try.prog w = .ok (.enter g args) w) (hc : EnRow w b es) (hl : es.length ≤ 1000) (ht : Tests w g lb pr) :
    Calls Try.prog 127 #[.slice (some ⟨b, 0, none⟩) es.length c, .func (.func g) #[] lb] w fun e w' => ∃ r : Int, e = .returned (.int .i64 r) ∧ decide (0 ≤ r) = es.any pr ∧ Below w.heap.size w w' := by
  have HC := Lib.hid hc
  have HT := Lib.hid ht
  have HY := Lib.hid (fun k (hk : k < es.length) => any_hit (pr := pr) hk)
  have HN := Lib.hid (any_miss (es := es) (pr := pr))
  obtain ⟨R, hR⟩ : ∃ R, R = es.any pr := ⟨_, rfl⟩
  rw [← hR] at HY HN ⊢
  clear hR hc ht
  obtain ⟨n, hn⟩ : ∃ n, n = es.length := ⟨_, rfl⟩
  have HL := Lib.hid hn
  rw [← hn] at HY HN hl ⊢
  clear hn
  go_enter Try.func127, Try.ntmps127
  go_wp2_with fail
  go_loopw [8] (fun i wr => ∃ k : Nat, k ≤ n ∧ i = .int .i64 (k : Int) ∧ Hid (∀ m, m < k → pr (es.getD m e0) = false) ∧ Hid (Below w.heap.size w wr)) (fun i _ => n + 1 - (intOf i).toNat)
  case atStart => exact ⟨0, Nat.zero_le _, rfl, (fun m h => by omega), Below.refl _ _⟩
  case round =>
    obtain ⟨k, hk, rfl, hr, hbw⟩ := hrel
    have i0 : (0 : Int) ≤ (k : Int) := Int.natCast_nonneg _
    have zw := hbw.out.size
    by_cases hlt : k < n
    · have i1 : (k : Int) < (n : Int) := by omega
      obtain ⟨x1, x2, x3⟩ := (HC.out.later hbw.out) k (by have := HL.out; omega)
      have HQ : Hid (∀ W : World, Below w.heap.size w W → Calls Try.prog g (#[.agg #[.int .i64 (es.getD k e0).x, .int .i64 (es.getD k e0).y, .int .i64 (es.getD k e0).a]] ++ lb) W fun r w' => r = .returned (.bool (pr (es.getD k e0))) ∧ Below W.heap.size W w') := fun W hW => HT.out W (es.getD k e0) hW
      have HYk := Lib.hid (HY.out k hlt)
      have hr' : Hid (pr (es.getD k e0) = false → ∀ m, m < k + 1 → pr (es.getD m e0) = false) := fun h m hm => by
        by_cases e : m = k
        · subst e; exact h
        · exact hr.out m (by omega)
      obtain ⟨e1, he1⟩ : ∃ e, e = es.getD k e0 := ⟨_, rfl⟩
      rw [← he1] at x1 x2 x3 HQ HYk hr'
      clear he1 hr
      obtain ⟨ex, ey, ea⟩ := e1
      obtain ⟨B, hB⟩ : ∃ B, B = pr ⟨ex, ey, ea⟩ := ⟨_, rfl⟩
      rw [← hB] at HQ HYk hr'
      clear hB
      simp only at x1 x2 x3
      cases B with
      | true =>
        have HE := Lib.hid (HYk.out rfl)
        clear HYk hr' HY HN
        go_wp2_with (go_at_fn g; refine (HQ.out _ hbw.out).mono ?_; rintro e w' ⟨rfl, hb2⟩; have H1 := Lib.hid (show Below w.heap.size w w' by repeat (first | (with_reducible exact Below.refl _ _) | (with_reducible assumption) | ((with_reducible refine bl_alloc ?_ _ ?_); (focus ((first | omega | (simp <;> omega)); done))) | ((with_reducible refine bl_set ?_ _ ?_); (focus ((first | omega | (simp <;> omega)); done))) | (with_reducible refine below_drewN ?_ _) | (with_reducible refine Below.drew ?_) | ((with_reducible refine bl_trans ?_ hb2 ?_); (focus ((first | omega | (simp <;> omega)); done))) | ((with_reducible refine bl_trans ?_ hbw.out ?_); (focus ((first | omega | (simp <;> omega)); done))))); clear hb2)
        go_ret
        exact ⟨_, rfl, by rw [HE.out]; exact decide_eq_true i0, H1.out⟩
      | false =>
        have hr2 := Lib.hid (hr'.out rfl)
        clear HYk hr'
        go_wp2_with (go_at_fn g; refine (HQ.out _ hbw.out).mono ?_; rintro e w' ⟨rfl, hb2⟩; have H1 := Lib.hid (show Below w.heap.size w w' by repeat (first | (with_reducible exact Below.refl _ _) | (with_reducible assumption) | ((with_reducible refine bl_alloc ?_ _ ?_); (focus ((first | omega | (simp <;> omega)); done))) | ((with_reducible refine bl_set ?_ _ ?_); (focus ((first | omega | (simp <;> omega)); done))) | (with_reducible refine below_drewN ?_ _) | (with_reducible refine Below.drew ?_) | ((with_reducible refine bl_trans ?_ hb2 ?_); (focus ((first | omega | (simp <;> omega)); done))) | ((with_reducible refine bl_trans ?_ hbw.out ?_); (focus ((first | omega | (simp <;> omega)); done))))); clear hb2)
        refine ⟨?_, ?_⟩
        · first
            | ((repeat apply Exists.intro); (refine ⟨?_, rfl⟩); exact ⟨(k + 1 : Nat), by omega, by go_num, hr2, H1⟩)
            | exact ⟨(k + 1 : Nat), by omega, by go_num, hr2, H1⟩
        · simp [intOf]; omega
    · obtain rfl : k = n := by omega
      have HE := Lib.hid (HN.out hr.out)
      have H1 := hbw
      clear HY HN hr
      go_wp2_with fail
      go_ret
      exact ⟨_, rfl, by rw [HE.out]; decide, H1.out⟩
set_option maxRecDepth 20000 in
theorem anyEnd_any (w : World) (b c g : Nat) (lb : Array Value) (es : List En) (pr : En → Bool) (eg : ∀ args w, (callFunc g args).run Try.prog w = .ok (.enter g args) w) (hc : EnRow w b es) (hl : es.length ≤ 1000) (ht : Tests w g lb pr) :
    Calls Try.prog 100 #[.slice (some ⟨b, 0, none⟩) es.length c, .func (.func g) #[] lb] w fun e w' => e = .returned (.bool (es.any pr)) ∧ Below w.heap.size w w' := by
  have HQ := Lib.hid (idxEnd_any w b c g lb es pr eg hc hl ht)
  obtain ⟨R, hR⟩ : ∃ R, R = es.any pr := ⟨_, rfl⟩
  obtain ⟨n, hn⟩ : ∃ n, n = es.length := ⟨_, rfl⟩
  rw [← hR, ← hn] at HQ
  rw [← hR, ← hn]
  clear hR hn hc ht hl
  go_enter Try.func100, Try.ntmps100
  go_wp2_with fail
  refine HQ.out.mono ?_
  rintro e w1 ⟨r, rfl, hr, hb⟩
  have H1 := Lib.hid hb
  clear hb
  go_wp2_with fail
  go_ret
  exact ⟨rfl, H1.out⟩
def endsV (st wd ht : Int) (hs cs : List Int) (es : List En) : Int := if terB st wd ht hs cs = false ∨ es.any (fun e => !endB e.x e.y e.a) = true then 1 else if es.any (fun e => !hasB st wd ht e.x e.y) = true then 2 else 0
theorem ends_1 {st wd ht : Int} {hs cs : List Int} {es : List En} (h : terB st wd ht hs cs = false) : endsV st wd ht hs cs es = 1 := if_pos (.inl h)
theorem ends_2 {st wd ht : Int} {hs cs : List Int} {es : List En} (h : es.any (fun e => !endB e.x e.y e.a) = true) : endsV st wd ht hs cs es = 1 := if_pos (.inr h)
theorem ends_3 {st wd ht : Int} {hs cs : List Int} {es : List En} (h : terB st wd ht hs cs = true) (h2 : es.any (fun e => !endB e.x e.y e.a) = false) (h3 : es.any (fun e => !hasB st wd ht e.x e.y) = true) : endsV st wd ht hs cs es = 2 := by
  unfold endsV
  rw [if_neg (by rw [h, h2]; simp), if_pos h3]
theorem ends_4 {st wd ht : Int} {hs cs : List Int} {es : List En} (h : terB st wd ht hs cs = true) (h2 : es.any (fun e => !endB e.x e.y e.a) = false) (h3 : es.any (fun e => !hasB st wd ht e.x e.y) = false) : endsV st wd ht hs cs es = 0 := by
  unfold endsV
  rw [if_neg (by rw [h, h2]; simp), if_neg (by rw [h3]; simp)]
set_option maxRecDepth 20000 in
theorem freq_one (w : World) : Calls Try.prog 103 #[.int .i64 1] w fun e w' => e = .returned (.bool true) ∧ w = w' := by
  have HI : Hid (∀ W : World, Calls Try.prog 63 #[.int .i64 1, .int .i64 1, .int .i64 100000000] W fun e w' => e = .returned (.bool true) ∧ W = w') := fun W => by have h := within_any W 1 1 100000000; rw [inB_yes (by omega) (by omega)] at h; exact h
  go_enter Try.func103, Try.ntmps103
  go_wp2_with ((go_at_call 63; ((with_reducible refine (HI.out _).mono ?_); rintro e w1 ⟨rfl, rfl⟩)))
  go_ret
  exact ⟨rfl, rfl⟩
set_option maxRecDepth 20000 in
set_option maxHeartbeats 4000000 in
theorem endsCode_any (w : World) (st wd ht : Int) (v : Value) (hs : List Int) (p : Nat) (hr : Row 2 w p v hs) (u : Value) (cs : List Int) (q : Nat) (hc : Row 2 w q u cs) (b c : Nat) (es : List En) (he : EnRow w b es) (hl : es.length ≤ 1000) (lb : b < w.heap.size) :
    Calls Try.prog 71 #[.agg #[.int .i64 st, .int .i64 wd, .int .i64 ht, v, u], .int .i64 1, .slice (some ⟨b, 0, none⟩) es.length c] w fun e w' => e = .returned (.int .i64 (endsV st wd ht hs cs es)) ∧ Below w.heap.size w w' := by
  have HV : Hid (∀ W : World, Below w.heap.size w W → Calls Try.prog 99 #[.agg #[.int .i64 st, .int .i64 wd, .int .i64 ht, v, u]] W fun e w' => e = .returned (.bool (terB st wd ht hs cs)) ∧ Below W.heap.size W w') := fun W hW => ValidTerrain_any W st wd ht v hs p (hr.later hW) u cs q (hc.later hW)
  have HF1 : Hid (∀ W : World, Below w.heap.size w W → Calls Try.prog 100 #[.slice (some ⟨b, 0, none⟩) es.length c, .func (.func 101) #[] #[]] W fun e w' => e = .returned (.bool (es.any (fun e => !endB e.x e.y e.a))) ∧ Below W.heap.size W w') :=
    fun W hW => anyEnd_any W b c _ _ es _ (enters_of Try.func101 (by kernel_rfl) rfl) (he.later hW) hl (fun W' e _ => ends1_any W' e.x e.y e.a #[] rfl)
  have HF2 : Hid (∀ (W : World) (o : Nat), Below w.heap.size w W → sizeB st wd ht = true → W.cell? ⟨o, 0, none⟩ = some (.int .i64 st) → W.cell? ⟨o, 1, none⟩ = some (.int .i64 wd) → W.cell? ⟨o, 2, none⟩ = some (.int .i64 ht) → W.cell? ⟨o, 3, none⟩ = some (v) → W.cell? ⟨o, 4, none⟩ = some (u) → Calls Try.prog 100 #[.slice (some ⟨b, 0, none⟩) es.length c, .func (.func 104) #[] #[.pointer (some ⟨o, 0, none⟩)]] W fun e w' => e = .returned (.bool (es.any (fun e => !hasB st wd ht e.x e.y))) ∧ Below W.heap.size W w') :=
    fun W o hW hz k0 k1 k2 k3 k4 => anyEnd_any W b c _ _ es _ (enters_of Try.func104 (by kernel_rfl) rfl) (he.later hW) hl (fun W' e hW' => ends2_any W' e.x e.y e.a st wd ht v u o hz (keeps hW' k0) (keeps hW' k1) (keeps hW' k2) (keeps hW' k3) (keeps hW' k4))
  have HE1 := Lib.hid (ends_1 (st := st) (wd := wd) (ht := ht) (hs := hs) (cs := cs) (es := es))
  have HE2 := Lib.hid (ends_2 (st := st) (wd := wd) (ht := ht) (hs := hs) (cs := cs) (es := es))
  have HE3 := Lib.hid (ends_3 (st := st) (wd := wd) (ht := ht) (hs := hs) (cs := cs) (es := es))
  have HE4 := Lib.hid (ends_4 (st := st) (wd := wd) (ht := ht) (hs := hs) (cs := cs) (es := es))
  have HS : Hid (terB st wd ht hs cs = true → sizeB st wd ht = true) := fun h => (ter_parts h).1
  obtain ⟨R, hR⟩ : ∃ R, R = endsV st wd ht hs cs es := ⟨_, rfl⟩
  rw [← hR] at HE1 HE2 HE3 HE4 ⊢
  obtain ⟨T, hT⟩ : ∃ T, T = terB st wd ht hs cs := ⟨_, rfl⟩
  rw [← hT] at HE1 HE3 HE4 HV HS
  obtain ⟨B1, hB1⟩ : ∃ T, T = es.any (fun e => !endB e.x e.y e.a) := ⟨_, rfl⟩
  rw [← hB1] at HE2 HE3 HE4 HF1
  obtain ⟨B2, hB2⟩ : ∃ T, T = es.any (fun e => !hasB st wd ht e.x e.y) := ⟨_, rfl⟩
  rw [← hB2] at HE3 HE4 HF2
  obtain ⟨n, hn⟩ : ∃ n, n = es.length := ⟨_, rfl⟩
  rw [← hn] at HF1 HF2 ⊢
  clear hR hT hB1 hB2 hn hr hc he hl
  cases T with
  | false =>
    have HE := Lib.hid (HE1.out rfl)
    clear HE1 HE2 HE3 HE4 HF1 HF2 HS
    go_enter Try.func71, Try.ntmps71
    go_wp2_with fail
    refine (HV.out _ (by repeat (first | (with_reducible exact Below.refl _ _) | (with_reducible assumption) | ((with_reducible refine bl_alloc ?_ _ ?_); (focus ((first | omega | (simp <;> omega)); done))) | ((with_reducible refine bl_set ?_ _ ?_); (focus ((first | omega | (simp <;> omega)); done))) | (with_reducible refine below_drewN ?_ _) | (with_reducible refine Below.drew ?_)))).mono ?_
    rintro e w1 ⟨rfl, hb⟩
    have H1 := Lib.hid (show Below w.heap.size w w1 by repeat (first | (with_reducible exact Below.refl _ _) | (with_reducible assumption) | ((with_reducible refine bl_alloc ?_ _ ?_); (focus ((first | omega | (simp <;> omega)); done))) | ((with_reducible refine bl_set ?_ _ ?_); (focus ((first | omega | (simp <;> omega)); done))) | (with_reducible refine below_drewN ?_ _) | (with_reducible refine Below.drew ?_) | ((with_reducible refine bl_trans ?_ hb ?_); (focus ((first | omega | (simp <;> omega)); done)))))
    clear hb
    go_wp2_with fail
    go_ret
    exact ⟨ret_int HE.out.symm, H1.out⟩
  | true =>
    have hsz := Lib.hid (HS.out rfl)
    cases B1 with
    | true =>
      have HE := Lib.hid (HE2.out rfl)
      clear HE1 HE2 HE3 HE4 HF2 HS
      go_enter Try.func71, Try.ntmps71
      go_wp2_with fail
      refine (HV.out _ (by repeat (first | (with_reducible exact Below.refl _ _) | (with_reducible assumption) | ((with_reducible refine bl_alloc ?_ _ ?_); (focus ((first | omega | (simp <;> omega)); done))) | ((with_reducible refine bl_set ?_ _ ?_); (focus ((first | omega | (simp <;> omega)); done))) | (with_reducible refine below_drewN ?_ _) | (with_reducible refine Below.drew ?_)))).mono ?_
      rintro e w1 ⟨rfl, hb⟩
      have H1 := Lib.hid (show Below w.heap.size w w1 by repeat (first | (with_reducible exact Below.refl _ _) | (with_reducible assumption) | ((with_reducible refine bl_alloc ?_ _ ?_); (focus ((first | omega | (simp <;> omega)); done))) | ((with_reducible refine bl_set ?_ _ ?_); (focus ((first | omega | (simp <;> omega)); done))) | (with_reducible refine below_drewN ?_ _) | (with_reducible refine Below.drew ?_) | ((with_reducible refine bl_trans ?_ hb ?_); (focus ((first | omega | (simp <;> omega)); done)))))
      clear hb
      go_wp2_with fail
      have zz1 := H1.out.size
      refine (HF1.out _ H1.out).mono ?_
      rintro e w2 ⟨rfl, hb⟩
      have H2 := Lib.hid (show Below w.heap.size w w2 by repeat (first | (with_reducible exact Below.refl _ _) | (with_reducible assumption) | ((with_reducible refine bl_alloc ?_ _ ?_); (focus ((first | omega | (simp <;> omega)); done))) | ((with_reducible refine bl_set ?_ _ ?_); (focus ((first | omega | (simp <;> omega)); done))) | (with_reducible refine below_drewN ?_ _) | (with_reducible refine Below.drew ?_) | ((with_reducible refine bl_trans ?_ hb ?_); (focus ((first | omega | (simp <;> omega)); done))) | ((with_reducible refine bl_trans ?_ H1.out ?_); (focus ((first | omega | (simp <;> omega)); done)))))
      clear hb
      go_wp2_with fail
      go_ret
      exact ⟨ret_int HE.out.symm, H2.out⟩
    | false =>
      have HE3' := Lib.hid (HE3.out rfl rfl)
      have HE4' := Lib.hid (HE4.out rfl rfl)
      clear HE1 HE2 HE3 HE4 HS
      obtain ⟨W0, hW0⟩ : ∃ W, W = w.alloc (.cells #[.int .i64 st, .int .i64 wd, .int .i64 ht, v, u] 62) := ⟨_, rfl⟩
      have HW0 := Lib.hid (show Below w.heap.size w W0 by rw [hW0]; repeat (first | (with_reducible exact Below.refl _ _) | (with_reducible assumption) | ((with_reducible refine bl_alloc ?_ _ ?_); (focus ((first | omega | (simp <;> omega)); done))) | ((with_reducible refine bl_set ?_ _ ?_); (focus ((first | omega | (simp <;> omega)); done))) | (with_reducible refine below_drewN ?_ _) | (with_reducible refine Below.drew ?_)))
      have x0 : W0.cell? ⟨w.heap.size, 0, none⟩ = some (.int .i64 st) := by rw [hW0]; simp [go_sem]
      have x1 : W0.cell? ⟨w.heap.size, 1, none⟩ = some (.int .i64 wd) := by rw [hW0]; simp [go_sem]
      have x2 : W0.cell? ⟨w.heap.size, 2, none⟩ = some (.int .i64 ht) := by rw [hW0]; simp [go_sem]
      have x3 : W0.cell? ⟨w.heap.size, 3, none⟩ = some (v) := by rw [hW0]; simp [go_sem]
      have x4 : W0.cell? ⟨w.heap.size, 4, none⟩ = some (u) := by rw [hW0]; simp [go_sem]
      have hl0 : w.heap.size < W0.heap.size := by rw [hW0]; simp
      go_enter Try.func71, Try.ntmps71
      (go_upto_region 1 with fail; rw [← hW0]; clear hW0)
      go_wp2_with fail
      refine (HV.out _ (by repeat (first | (with_reducible exact Below.refl _ _) | (with_reducible assumption) | ((with_reducible refine bl_alloc ?_ _ ?_); (focus ((first | omega | (simp <;> omega)); done))) | ((with_reducible refine bl_set ?_ _ ?_); (focus ((first | omega | (simp <;> omega)); done))) | (with_reducible refine below_drewN ?_ _) | (with_reducible refine Below.drew ?_) | ((with_reducible refine bl_trans ?_ HW0.out ?_); (focus ((first | omega | (simp <;> omega)); done)))))).mono ?_
      rintro e w1 ⟨rfl, hb⟩
      have H1 := Lib.hid (show Below W0.heap.size W0 w1 by repeat (first | (with_reducible exact Below.refl _ _) | (with_reducible assumption) | ((with_reducible refine bl_alloc ?_ _ ?_); (focus ((first | omega | (simp <;> omega)); done))) | ((with_reducible refine bl_set ?_ _ ?_); (focus ((first | omega | (simp <;> omega)); done))) | (with_reducible refine below_drewN ?_ _) | (with_reducible refine Below.drew ?_) | ((with_reducible refine bl_trans ?_ hb ?_); (focus ((first | omega | (simp <;> omega)); done)))))
      clear hb
      go_wp2_with fail
      have z1 := H1.out.size
      have z0 := HW0.out.size
      refine (HF1.out _ (by repeat (first | (with_reducible exact Below.refl _ _) | (with_reducible assumption) | ((with_reducible refine bl_alloc ?_ _ ?_); (focus ((first | omega | (simp <;> omega)); done))) | ((with_reducible refine bl_set ?_ _ ?_); (focus ((first | omega | (simp <;> omega)); done))) | (with_reducible refine below_drewN ?_ _) | (with_reducible refine Below.drew ?_) | ((with_reducible refine bl_trans ?_ H1.out ?_); (focus ((first | omega | (simp <;> omega)); done))) | ((with_reducible refine bl_trans ?_ HW0.out ?_); (focus ((first | omega | (simp <;> omega)); done)))))).mono ?_
      rintro e w2 ⟨rfl, hb⟩
      have H2 := Lib.hid (show Below W0.heap.size W0 w2 by repeat (first | (with_reducible exact Below.refl _ _) | (with_reducible assumption) | ((with_reducible refine bl_alloc ?_ _ ?_); (focus ((first | omega | (simp <;> omega)); done))) | ((with_reducible refine bl_set ?_ _ ?_); (focus ((first | omega | (simp <;> omega)); done))) | (with_reducible refine below_drewN ?_ _) | (with_reducible refine Below.drew ?_) | ((with_reducible refine bl_trans ?_ hb ?_); (focus ((first | omega | (simp <;> omega)); done))) | ((with_reducible refine bl_trans ?_ H1.out ?_); (focus ((first | omega | (simp <;> omega)); done)))))
      clear hb
      have z2 := H2.out.size
      have H2w := Lib.hid (show Below w.heap.size w w2 by repeat (first | (with_reducible exact Below.refl _ _) | (with_reducible assumption) | ((with_reducible refine bl_alloc ?_ _ ?_); (focus ((first | omega | (simp <;> omega)); done))) | ((with_reducible refine bl_set ?_ _ ?_); (focus ((first | omega | (simp <;> omega)); done))) | (with_reducible refine below_drewN ?_ _) | (with_reducible refine Below.drew ?_) | ((with_reducible refine bl_trans ?_ H2.out ?_); (focus ((first | omega | (simp <;> omega)); done))) | ((with_reducible refine bl_trans ?_ HW0.out ?_); (focus ((first | omega | (simp <;> omega)); done)))))
      have z2w := H2w.out.size
      have y0 := keeps H2.out x0
      have y1 := keeps H2.out x1
      have y2 := keeps H2.out x2
      have y3 := keeps H2.out x3
      have y4 := keeps H2.out x4
      go_wp2_with ((go_at_call 103; ((with_reducible refine (freq_one _).mono ?_); rintro e w3 ⟨rfl, rfl⟩)))
      refine (HF2.out _ _ H2w.out hsz.out y0 y1 y2 y3 y4).mono ?_
      rintro e w3 ⟨rfl, hb⟩
      have H3 := Lib.hid (show Below w.heap.size w w3 by repeat (first | (with_reducible exact Below.refl _ _) | (with_reducible assumption) | ((with_reducible refine bl_alloc ?_ _ ?_); (focus ((first | omega | (simp <;> omega)); done))) | ((with_reducible refine bl_set ?_ _ ?_); (focus ((first | omega | (simp <;> omega)); done))) | (with_reducible refine below_drewN ?_ _) | (with_reducible refine Below.drew ?_) | ((with_reducible refine bl_trans ?_ hb ?_); (focus ((first | omega | (simp <;> omega)); done))) | ((with_reducible refine bl_trans ?_ H2w.out ?_); (focus ((first | omega | (simp <;> omega)); done)))))
      clear hb
      cases B2 with
      | true =>
        have HE := Lib.hid (HE3'.out rfl)
        clear HE3' HE4'
        go_wp2_with fail
        go_ret
        exact ⟨ret_int HE.out.symm, H3.out⟩
      | false =>
        have HE := Lib.hid (HE4'.out rfl)
        clear HE3' HE4'
        go_wp2_with fail
        go_ret
        exact ⟨ret_int HE.out.symm, H3.out⟩
end Go.Proofs.Ytedpdcdmemenhaa
