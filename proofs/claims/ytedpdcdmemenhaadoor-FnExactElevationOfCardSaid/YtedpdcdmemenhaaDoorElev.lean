/-
  The elevation of an end seen from another one: the reference's, and the program's closure: one model. The conditions are the hypotheses.
-/
import Derived.Test.YtedpdcdmemenhaaDoorRows
import Derived.Test.YtedpdcdmemenhaaDoorLib
import Derived.Test.YtedpdcdmemenhaaDoorMath
import Derived.Test.YtedpdcdmemenhaaDoorField
import Derived.Test.YtedpdcdmemenhaaDoorSine
import Derived.Shelf.Abstract
import Derived.Outline
import Derived.Deep.DeepCutAuto
import Derived.Deep.QuietTactic
import Derived.BigQuiet
import Derived.Deep.RegionHeld3
import Derived.Deep.DrawnRows
namespace Go.Proofs.YtedpdcdmemenhaaDoor
open Go.RowKit
set_option linter.unusedSimpArgs false
set_option linter.unusedVariables false
attribute [local go_sem ↓] Go.wp_at_zero Go.wp_at_succ
def dotE (d h e : Int) : Int := 10 * d * cosE e + h * sinE e
def bestE (d h : Int) : Nat → Int
  | 0 => -90
  | k + 1 => if dotE d h (bestE d h k) < dotE d h (-89 + (k : Int)) then -89 + (k : Int) else bestE d h k
def elevV (d h : Int) : Int := bestE d h 180
theorem best_up {d h : Int} {k : Nat} (hl : dotE d h (bestE d h k) < dotE d h (-89 + (k : Int))) : bestE d h (k + 1) = -89 + (k : Int) := if_pos hl
theorem best_no {d h : Int} {k : Nat} (hl : ¬ dotE d h (bestE d h k) < dotE d h (-89 + (k : Int))) : bestE d h (k + 1) = bestE d h k := if_neg hl
theorem best_bd {d h : Int} : ∀ (k : Nat), -90 ≤ bestE d h k ∧ bestE d h k ≤ -90 + (k : Int)
  | 0 => by simp [bestE]
  | k + 1 => by
    have := best_bd (d := d) (h := h) k
    unfold bestE
    split <;> omega
theorem dot_parts {d h : Int} (d0 : 0 ≤ d) (d1 : d ≤ 282843) (h0 : -100000 ≤ h) (h1 : h ≤ 100000) (e : Int) : (-2828430000000 ≤ 10 * d * cosE e ∧ 10 * d * cosE e ≤ 2828430000000) ∧ (-100000000000 ≤ h * sinE e ∧ h * sinE e ≤ 100000000000) := by
  obtain ⟨c0, c1⟩ := cosE_bd e
  obtain ⟨s0, s1⟩ := sinE_bd e
  have m1 := mul_bd (a := 10 * d) (b := cosE e) (A := 2828430) (B := 1000000) (by omega) (by omega) c0 c1
  have m2 := mul_bd (a := h) (b := sinE e) (A := 100000) (B := 1000000) (by omega) (by omega) s0 s1
  omega
/-- What the reference holds behind k rounds: the best so far, its value. -/
def stB (d h : Int) : Nat → Int × Int
  | 0 => (-90, -4611686018427387904)
  | k + 1 => if (stB d h k).2 < dotE d h (-90 + (k : Int)) then (-90 + (k : Int), dotE d h (-90 + (k : Int))) else stB d h k
theorem stB_up {d h : Int} {k : Nat} (hl : (stB d h k).2 < dotE d h (-90 + (k : Int))) : stB d h (k + 1) = (-90 + (k : Int), dotE d h (-90 + (k : Int))) := if_pos hl
theorem stB_no {d h : Int} {k : Nat} (hl : ¬ (stB d h k).2 < dotE d h (-90 + (k : Int))) : stB d h (k + 1) = stB d h k := if_neg hl
theorem stB_is {d h : Int} (d0 : 0 ≤ d) (d1 : d ≤ 282843) (h0 : -100000 ≤ h) (h1 : h ≤ 100000) : ∀ (k : Nat), stB d h (k + 1) = (bestE d h k, dotE d h (bestE d h k))
  | 0 => by
    have := dot_parts d0 d1 h0 h1 (-90)
    have e : (stB d h 0).2 < dotE d h (-90 + ((0 : Nat) : Int)) := by
      show (-4611686018427387904 : Int) < 10 * d * cosE (-90 + 0) + h * sinE (-90 + 0)
      rw [show (-90 : Int) + 0 = -90 by omega]
      omega
    rw [stB_up e]
    show (_, _) = ((-90 : Int), _)
    rw [show (-90 : Int) + ((0 : Nat) : Int) = -90 by simp]
    rfl
  | k + 1 => by
    have ih := stB_is d0 d1 h0 h1 k
    have e : (-90 : Int) + ((k + 1 : Nat) : Int) = -89 + (k : Int) := by omega
    by_cases hl : dotE d h (bestE d h k) < dotE d h (-89 + (k : Int))
    · rw [stB_up (by rw [ih, e]; exact hl), best_up hl, e]
    · rw [stB_no (by rw [ih, e]; exact hl), best_no hl, ih]
theorem stB_end {d h : Int} (d0 : 0 ≤ d) (d1 : d ≤ 282843) (h0 : -100000 ≤ h) (h1 : h ≤ 100000) : (stB d h 181).1 = elevV d h := by rw [stB_is d0 d1 h0 h1 180]; rfl
set_option maxRecDepth 20000 in
set_option maxHeartbeats 4000000 in
theorem l12Elevation_any (w : World) (d h : Int) (d0 : 0 ≤ d) (d1 : d ≤ 282843) (h0 : -100000 ≤ h) (h1 : h ≤ 100000) :
    Calls Tryd.prog 12 #[.int .i64 d, .int .i64 h] w fun e w' => e = .returned (.int .i64 (elevV d h)) ∧ Below w.heap.size w w' := by
  have HEND := Lib.hid (stB_end d0 d1 h0 h1)
  have HDP := Lib.hid (dot_parts d0 d1 h0 h1)
  obtain ⟨R, hR⟩ : ∃ R, R = elevV d h := ⟨_, rfl⟩
  rw [← hR] at HEND ⊢
  clear hR
  go_enter Tryd.func12, Tryd.ntmps12
  go_wp2_with fail
  go_loopw [5, 6, 7] (fun a b c wr => ∃ k : Nat, k ≤ 181 ∧ a = .int .i64 (stB d h k).1 ∧ b = .int .i64 (stB d h k).2 ∧ c = .int .i64 (-90 + (k : Int)) ∧ Hid (Below w.heap.size w wr)) (fun _ _ c _ => (91 - intOf c).toNat)
  case atStart => exact ⟨0, Nat.zero_le _, rfl, rfl, rfl, (show Below _ _ _ by repeat (first | (with_reducible exact Below.refl _ _) | (with_reducible assumption) | ((with_reducible refine bl_alloc ?_ _ ?_); (focus ((first | omega | (simp <;> omega)); done))) | ((with_reducible refine bl_set ?_ _ ?_); (focus ((first | omega | (simp <;> omega)); done))) | (with_reducible refine below_drewN ?_ _) | (with_reducible refine Below.drew ?_)))⟩
  case round =>
    obtain ⟨k, hk, rfl, rfl, rfl, hb⟩ := hrel
    have zw := hb.out.size
    by_cases hlt : k < 181
    · have UP := Lib.hid (stB_up (d := d) (h := h) (k := k))
      have NO := Lib.hid (stB_no (d := d) (h := h) (k := k))
      obtain ⟨E, hE⟩ : ∃ E : Int, E = -90 + (k : Int) := ⟨_, rfl⟩
      rw [← hE] at UP NO ⊢
      have e0 : -90 ≤ E := by omega
      have e1 : E ≤ 90 := by omega
      have NXT := Lib.hid (show E + 1 = -90 + ((k + 1 : Nat) : Int) by omega)
      have HLE := Lib.hid (show k + 1 ≤ 181 by omega)
      have HC : Hid (∀ W : World, Calls Tryd.prog 23 #[.int .i64 E] W fun r w' => r = .returned (.int .i64 (cosE E)) ∧ Below W.heap.size W w') := fun W => sCosine_any W E e0 e1
      have HS : Hid (∀ W : World, Calls Tryd.prog 24 #[.int .i64 E] W fun r w' => r = .returned (.int .i64 (sinE E)) ∧ Below W.heap.size W w') := fun W => sSine_any W E e0 e1
      have hp := HDP.out E
      have HDV : Hid (dotE d h E = 10 * d * cosE E + h * sinE E) := rfl
      obtain ⟨C, hC⟩ : ∃ C, C = cosE E := ⟨_, rfl⟩
      obtain ⟨S, hS⟩ : ∃ S, S = sinE E := ⟨_, rfl⟩
      rw [← hC, ← hS] at hp HDV
      rw [← hC] at HC
      rw [← hS] at HS
      obtain ⟨PA, hPA⟩ : ∃ P, P = 10 * d * C := ⟨_, rfl⟩
      obtain ⟨PB, hPB⟩ : ∃ P, P = h * S := ⟨_, rfl⟩
      rw [← hPA, ← hPB] at hp HDV
      obtain ⟨⟨p0, p1⟩, p2, p3⟩ := hp
      have w1 : IntKind.i64.wrap (10 * d * C) = PA := by rw [← hPA, IntKind.wrap_i64]; omega
      have w2 : IntKind.i64.wrap (h * S) = PB := by rw [← hPB, IntKind.wrap_i64]; omega
      have f1 : 10 * d * C = PA := hPA.symm
      have f2 : h * S = PB := hPB.symm
      obtain ⟨X, hX⟩ : ∃ X, X = (stB d h k).1 := ⟨_, rfl⟩
      obtain ⟨M, hM⟩ : ∃ M, M = (stB d h k).2 := ⟨_, rfl⟩
      rw [← hM] at UP NO
      rw [HDV.out] at UP NO
      rw [← hX, ← hM]
      have HX := Lib.hid hX
      have HM := Lib.hid hM
      clear hX hM hE hC hS hPA hPB HDV hlt hk
      by_cases hgt : M < PA + PB
      · have HU := Lib.hid (UP.out hgt)
        clear UP NO
        go_wp2_with fail
        refine (HC.out _).mono ?_
        rintro r w1 ⟨rfl, hb1⟩
        have H1 := Lib.hid (show Below w.heap.size w w1 by repeat (first | (with_reducible exact Below.refl _ _) | (with_reducible assumption) | ((with_reducible refine bl_alloc ?_ _ ?_); (focus ((first | omega | (simp <;> omega)); done))) | ((with_reducible refine bl_set ?_ _ ?_); (focus ((first | omega | (simp <;> omega)); done))) | (with_reducible refine below_drewN ?_ _) | (with_reducible refine Below.drew ?_) | ((with_reducible refine bl_trans ?_ hb1 ?_); (focus ((first | omega | (simp <;> omega)); done))) | ((with_reducible refine bl_trans ?_ hb.out ?_); (focus ((first | omega | (simp <;> omega)); done)))))
        have zz1 := H1.out.size
        clear hb1
        go_wp2_with fail
        refine (HS.out _).mono ?_
        rintro r w2 ⟨rfl, hb1⟩
        have H2 := Lib.hid (show Below w.heap.size w w2 by repeat (first | (with_reducible exact Below.refl _ _) | (with_reducible assumption) | ((with_reducible refine bl_alloc ?_ _ ?_); (focus ((first | omega | (simp <;> omega)); done))) | ((with_reducible refine bl_set ?_ _ ?_); (focus ((first | omega | (simp <;> omega)); done))) | (with_reducible refine below_drewN ?_ _) | (with_reducible refine Below.drew ?_) | ((with_reducible refine bl_trans ?_ hb1 ?_); (focus ((first | omega | (simp <;> omega)); done))) | ((with_reducible refine bl_trans ?_ H1.out ?_); (focus ((first | omega | (simp <;> omega)); done)))))
        clear hb1
        go_wp2_with fail
        refine ⟨?_, ?_⟩
        · first
            | ((repeat apply Exists.intro); (refine ⟨?_, rfl⟩); exact ⟨(k + 1 : Nat), HLE.out, by rw [HU.out], by rw [HU.out], by rw [NXT.out], H2⟩)
            | exact ⟨(k + 1 : Nat), HLE.out, by rw [HU.out], by rw [HU.out], by rw [NXT.out], H2⟩
        · simp [intOf]; omega
      · have HU := Lib.hid (NO.out hgt)
        clear UP NO
        go_wp2_with fail
        refine (HC.out _).mono ?_
        rintro r w1 ⟨rfl, hb1⟩
        have H1 := Lib.hid (show Below w.heap.size w w1 by repeat (first | (with_reducible exact Below.refl _ _) | (with_reducible assumption) | ((with_reducible refine bl_alloc ?_ _ ?_); (focus ((first | omega | (simp <;> omega)); done))) | ((with_reducible refine bl_set ?_ _ ?_); (focus ((first | omega | (simp <;> omega)); done))) | (with_reducible refine below_drewN ?_ _) | (with_reducible refine Below.drew ?_) | ((with_reducible refine bl_trans ?_ hb1 ?_); (focus ((first | omega | (simp <;> omega)); done))) | ((with_reducible refine bl_trans ?_ hb.out ?_); (focus ((first | omega | (simp <;> omega)); done)))))
        have zz1 := H1.out.size
        clear hb1
        go_wp2_with fail
        refine (HS.out _).mono ?_
        rintro r w2 ⟨rfl, hb1⟩
        have H2 := Lib.hid (show Below w.heap.size w w2 by repeat (first | (with_reducible exact Below.refl _ _) | (with_reducible assumption) | ((with_reducible refine bl_alloc ?_ _ ?_); (focus ((first | omega | (simp <;> omega)); done))) | ((with_reducible refine bl_set ?_ _ ?_); (focus ((first | omega | (simp <;> omega)); done))) | (with_reducible refine below_drewN ?_ _) | (with_reducible refine Below.drew ?_) | ((with_reducible refine bl_trans ?_ hb1 ?_); (focus ((first | omega | (simp <;> omega)); done))) | ((with_reducible refine bl_trans ?_ H1.out ?_); (focus ((first | omega | (simp <;> omega)); done)))))
        clear hb1
        go_wp2_with fail
        refine ⟨?_, ?_⟩
        · first
            | ((repeat apply Exists.intro); (refine ⟨?_, rfl⟩); exact ⟨(k + 1 : Nat), HLE.out, by rw [HU.out, HX.out], by rw [HU.out, HM.out], by rw [NXT.out], H2⟩)
            | exact ⟨(k + 1 : Nat), HLE.out, by rw [HU.out, HX.out], by rw [HU.out, HM.out], by rw [NXT.out], H2⟩
        · simp [intOf]; omega
    · have hk' : k = 181 := by omega
      have HX : Hid ((stB d h k).1 = R) := by rw [hk']; exact HEND.out
      obtain ⟨X, hX⟩ : ∃ X, X = (stB d h k).1 := ⟨_, rfl⟩
      obtain ⟨M, hM⟩ : ∃ M, M = (stB d h k).2 := ⟨_, rfl⟩
      rw [← hX] at HX
      rw [← hX, ← hM]
      have hg : (90 : Int) < -90 + (k : Int) := by omega
      clear hX hM
      go_wp2_with fail
      go_ret
      exact ⟨ret_int HX.out, hb.out⟩
set_option maxRecDepth 20000 in
set_option maxHeartbeats 4000000 in
theorem toward1_any (w : World) (hT : SineAt w) (d h e : Int) (d0 : 0 ≤ d) (d1 : d ≤ 282843) (h0 : -100000 ≤ h) (h1 : h ≤ 100000) (e0 : -90 ≤ e) (e1 : e ≤ 90) (O1 O2 : Nat) (c1 : w.cell? ⟨O1, 0, none⟩ = some (.int .i64 d)) (c2 : w.cell? ⟨O2, 0, none⟩ = some (.int .i64 h)) :
    Calls Tryd.prog 36 #[.int .i64 e, .pointer (some ⟨O1, 0, none⟩), .pointer (some ⟨O2, 0, none⟩)] w fun r w' => r = .returned (.int .i64 (dotE d h e)) ∧ Below w.heap.size w w' := by
  have HT := Lib.hid hT
  have HC : Hid (∀ W : World, Below w.heap.size w W → Calls Tryd.prog 37 #[.int .i64 e] W fun r w' => r = .returned (.int .i64 (cosE e)) ∧ Below W.heap.size W w') := fun W hW => iCosine_any W (HT.out.later hW) e e0 e1
  have HS : Hid (∀ W : World, Below w.heap.size w W → Calls Tryd.prog 38 #[.int .i64 e] W fun r w' => r = .returned (.int .i64 (sinE e)) ∧ Below W.heap.size W w') := fun W hW => iSine_any W (HT.out.later hW) e e0 (by omega)
  have hp := dot_parts d0 d1 h0 h1 e
  have HDV : Hid (dotE d h e = 10 * d * cosE e + h * sinE e) := rfl
  obtain ⟨C, hC⟩ : ∃ C, C = cosE e := ⟨_, rfl⟩
  obtain ⟨S, hS⟩ : ∃ S, S = sinE e := ⟨_, rfl⟩
  rw [← hC, ← hS] at hp HDV
  rw [← hC] at HC
  rw [← hS] at HS
  obtain ⟨PA, hPA⟩ : ∃ P, P = 10 * d * C := ⟨_, rfl⟩
  obtain ⟨PB, hPB⟩ : ∃ P, P = h * S := ⟨_, rfl⟩
  rw [← hPA, ← hPB] at hp HDV
  obtain ⟨⟨p0, p1⟩, p2, p3⟩ := hp
  have w1 : IntKind.i64.wrap (10 * d * C) = PA := by rw [← hPA, IntKind.wrap_i64]; omega
  have w2 : IntKind.i64.wrap (h * S) = PB := by rw [← hPB, IntKind.wrap_i64]; omega
  have f1 : 10 * d * C = PA := hPA.symm
  have f2 : h * S = PB := hPB.symm
  rw [HDV.out]
  have w0 : IntKind.i64.wrap (10 * d) = 10 * d := by rw [IntKind.wrap_i64]; omega
  have w3 : IntKind.i64.wrap PB = PB := by rw [IntKind.wrap_i64]; omega
  have w4 : IntKind.i64.wrap (PA + PB) = PA + PB := by rw [IntKind.wrap_i64]; omega
  clear hC hS hPA hPB HDV hT HT
  go_enter Tryd.func36, Tryd.ntmps36
  go_wp2_with fail
  go_region_held3 (fun w' => w'.cell? ⟨O1, 0, none⟩ = some (.int .i64 d) ∧ w'.cell? ⟨O2, 0, none⟩ = some (.int .i64 h))
    (((try go_split_ands); (refine ⟨?_, ?_⟩ <;> (repeat (first | (with_reducible assumption) | (with_reducible refine cell_drew ?_) | (with_reducible refine cell_drewN ?_) | (with_reducible refine keeps hb ?_) | (with_reducible refine keeps hb3 ?_) | fail)))))
    (first
      | (go_at_call 37; ((with_reducible refine (HC.out _ (by repeat (first | (with_reducible exact Below.refl _ _) | (with_reducible assumption) | ((with_reducible refine bl_alloc ?_ _ ?_); (focus ((first | omega | (simp <;> omega)); done))) | ((with_reducible refine bl_set ?_ _ ?_); (focus ((first | omega | (simp <;> omega)); done))) | (with_reducible refine below_drewN ?_ _) | (with_reducible refine Below.drew ?_)))).mono ?_); rintro r w3 ⟨rfl, hb⟩; have hb3 := hb; have H3 := Lib.hid (show Below w.heap.size w w3 by repeat (first | (with_reducible exact Below.refl _ _) | (with_reducible assumption) | ((with_reducible refine bl_alloc ?_ _ ?_); (focus ((first | omega | (simp <;> omega)); done))) | ((with_reducible refine bl_set ?_ _ ?_); (focus ((first | omega | (simp <;> omega)); done))) | (with_reducible refine below_drewN ?_ _) | (with_reducible refine Below.drew ?_) | ((with_reducible refine bl_trans ?_ hb ?_); (focus ((first | omega | (simp <;> omega)); done))))); have z3 := H3.out.size))
      | (go_at_call 38; ((with_reducible refine (HS.out w3 H3.out).mono ?_); rintro r w4 ⟨rfl, hb⟩; have H4 := Lib.hid (show Below w.heap.size w w4 by repeat (first | (with_reducible exact Below.refl _ _) | (with_reducible assumption) | ((with_reducible refine bl_alloc ?_ _ ?_); (focus ((first | omega | (simp <;> omega)); done))) | ((with_reducible refine bl_set ?_ _ ?_); (focus ((first | omega | (simp <;> omega)); done))) | (with_reducible refine below_drewN ?_ _) | (with_reducible refine Below.drew ?_) | ((with_reducible refine bl_trans ?_ hb ?_); (focus ((first | omega | (simp <;> omega)); done))) | ((with_reducible refine bl_trans ?_ H3.out ?_); (focus ((first | omega | (simp <;> omega)); done))))))))
  go_wp2_with fail
  go_ret
  refine ⟨ret_int ?_, H4.out⟩
  first
    | rfl
    | (simp only [IntKind.wrap_i64]; omega)
end Go.Proofs.YtedpdcdmemenhaaDoor
