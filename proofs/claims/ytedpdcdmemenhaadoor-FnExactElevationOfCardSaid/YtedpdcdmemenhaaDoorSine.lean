/-
  Sines of whole degrees: the reference's and the program's, one model. The condition on the program's side is the row's own: the table reads as listed.
-/
import Derived.Test.YtedpdcdmemenhaaDoorRows
import Derived.Test.YtedpdcdmemenhaaDoorLib
import Derived.Lib.LaidTab
import Derived.Outline
namespace Go.Proofs.YtedpdcdmemenhaaDoor
open Go.RowKit
set_option linter.unusedSimpArgs false
set_option linter.unusedVariables false
def sinT : List Int := [0, 17452, 34899, 52336, 69756, 87156, 104528, 121869, 139173, 156434, 173648, 190809, 207912, 224951, 241922, 258819, 275637, 292372, 309017, 325568, 342020, 358368, 374607, 390731, 406737, 422618, 438371, 453990, 469472, 484810, 500000, 515038, 529919, 544639, 559193, 573576, 587785, 601815, 615661, 629320, 642788, 656059, 669131, 681998, 694658, 707107, 719340, 731354, 743145, 754710, 766044, 777146, 788011, 798636, 809017, 819152, 829038, 838671, 848048, 857167, 866025, 874620, 882948, 891007, 898794, 906308, 913545, 920505, 927184, 933580, 939693, 945519, 951057, 956305, 961262, 965926, 970296, 974370, 978148, 981627, 984808, 987688, 990268, 992546, 994522, 996195, 997564, 998630, 999391, 999848, 1000000]
theorem sinT_len : sinT.length = 91 := rfl
theorem sinT_all : ∀ x ∈ sinT, 0 ≤ x ∧ x ≤ 1000000 := by decide
theorem sinT_bd {k : Nat} (h : k < 91) : 0 ≤ sinT.getD k 0 ∧ sinT.getD k 0 ≤ 1000000 := by
  have hk : k < sinT.length := h
  have e : sinT.getD k 0 = sinT[k] := by simp [List.getD, hk]
  rw [e]
  exact sinT_all _ (List.getElem_mem hk)
def sine2V (d : Int) : Int := sinT.getD (if 90 < d then 180 - d else d).toNat 0
theorem sine2_bd {d : Int} (h0 : 0 ≤ d) (h1 : d ≤ 180) : 0 ≤ sine2V d ∧ sine2V d ≤ 1000000 := by
  unfold sine2V
  split
  · exact sinT_bd (by omega)
  · exact sinT_bd (by omega)
def sineV (d : Int) : Int := if 180 ≤ d then -sine2V (d - 180) else sine2V d
theorem sine_bd {d : Int} (h0 : 0 ≤ d) (h1 : d ≤ 359) : -1000000 ≤ sineV d ∧ sineV d ≤ 1000000 := by
  unfold sineV
  split
  · have := sine2_bd (d := d - 180) (by omega) (by omega)
    omega
  · have := sine2_bd (d := d) (by omega) (by omega)
    omega
def sinE (e : Int) : Int := sineV ((e + 360) % 360)
def cosE (e : Int) : Int := sinE (e + 90)
theorem sinE_bd (e : Int) : -1000000 ≤ sinE e ∧ sinE e ≤ 1000000 := sine_bd (by omega) (by omega)
theorem cosE_bd (e : Int) : -1000000 ≤ cosE e ∧ cosE e ≤ 1000000 := sinE_bd _
theorem tmod_small {e : Int} (h0 : -359 ≤ e) (h1 : e ≤ 359) : e.tmod 360 = e := by
  by_cases h : 0 ≤ e
  · rw [Int.tmod_eq_emod_of_nonneg h]; omega
  · have : e = -(-e) := by omega
    rw [this, Int.neg_tmod, Int.tmod_eq_emod_of_nonneg (by omega)]
    omega
theorem tmod_up {e : Int} (h0 : 0 ≤ e) : e.tmod 360 = e % 360 := Int.tmod_eq_emod_of_nonneg h0
theorem sin_cells (w : World) (k : Nat) (h : k < 91) : (w.alloc (.cells #[.int .i64 0, .int .i64 17452, .int .i64 34899, .int .i64 52336, .int .i64 69756, .int .i64 87156, .int .i64 104528, .int .i64 121869, .int .i64 139173, .int .i64 156434, .int .i64 173648, .int .i64 190809, .int .i64 207912, .int .i64 224951, .int .i64 241922, .int .i64 258819, .int .i64 275637, .int .i64 292372, .int .i64 309017, .int .i64 325568, .int .i64 342020, .int .i64 358368, .int .i64 374607, .int .i64 390731, .int .i64 406737, .int .i64 422618, .int .i64 438371, .int .i64 453990, .int .i64 469472, .int .i64 484810, .int .i64 500000, .int .i64 515038, .int .i64 529919, .int .i64 544639, .int .i64 559193, .int .i64 573576, .int .i64 587785, .int .i64 601815, .int .i64 615661, .int .i64 629320, .int .i64 642788, .int .i64 656059, .int .i64 669131, .int .i64 681998, .int .i64 694658, .int .i64 707107, .int .i64 719340, .int .i64 731354, .int .i64 743145, .int .i64 754710, .int .i64 766044, .int .i64 777146, .int .i64 788011, .int .i64 798636, .int .i64 809017, .int .i64 819152, .int .i64 829038, .int .i64 838671, .int .i64 848048, .int .i64 857167, .int .i64 866025, .int .i64 874620, .int .i64 882948, .int .i64 891007, .int .i64 898794, .int .i64 906308, .int .i64 913545, .int .i64 920505, .int .i64 927184, .int .i64 933580, .int .i64 939693, .int .i64 945519, .int .i64 951057, .int .i64 956305, .int .i64 961262, .int .i64 965926, .int .i64 970296, .int .i64 974370, .int .i64 978148, .int .i64 981627, .int .i64 984808, .int .i64 987688, .int .i64 990268, .int .i64 992546, .int .i64 994522, .int .i64 996195, .int .i64 997564, .int .i64 998630, .int .i64 999391, .int .i64 999848, .int .i64 1000000] 2)).cell? ⟨w.heap.size, k, none⟩ = some (.int .i64 (sinT.getD k 0)) := by
  have hr := Row.lit w 2 sinT w.heap.size 91 0 rfl rfl (by unfold maxLen; omega) (Nat.zero_le _)
  exact hr.at_.1 k h
set_option maxRecDepth 20000 in
set_option maxHeartbeats 4000000 in
theorem l03Table_any (w : World) :
    Calls Tryd.prog 59 #[] w fun e w' => ∃ g, e = .returned (.slice (some ⟨g, 0, none⟩) 91 91) ∧ (∀ k, k < 91 → w'.cell? ⟨g, k, none⟩ = some (.int .i64 (sinT.getD k 0))) ∧ Below w.heap.size w w' := by
  have hc := Lib.hid (sin_cells w)
  go_enter Tryd.func59, Tryd.ntmps59
  go_wp2_with fail
  go_ret
  exact ⟨_, rfl, hc.out, by repeat (first | (with_reducible exact Below.refl _ _) | (with_reducible assumption) | ((with_reducible refine bl_alloc ?_ _ ?_); (focus ((first | omega | (simp <;> omega)); done))) | ((with_reducible refine bl_set ?_ _ ?_); (focus ((first | omega | (simp <;> omega)); done))) | (with_reducible refine below_drewN ?_ _) | (with_reducible refine Below.drew ?_))⟩
set_option maxRecDepth 20000 in
theorem l03Sine2_any (w : World) (d : Int) (h0 : 0 ≤ d) (h1 : d ≤ 180) :
    Calls Tryd.prog 52 #[.int .i64 d] w fun e w' => e = .returned (.int .i64 (sine2V d)) ∧ Below w.heap.size w w' := by
  by_cases h : 90 < d
  · obtain ⟨k, hk⟩ : ∃ k : Nat, (k : Int) = 180 - d := ⟨(180 - d).toNat, by omega⟩
    have hv : Hid (sine2V d = sinT.getD k 0) := by
      show _ = _
      unfold sine2V
      rw [if_pos h, ← hk]
      rfl
    have w1 : IntKind.i64.wrap (180 - d) = (k : Int) := by rw [IntKind.wrap_i64]; omega
    have k0 : (0 : Int) ≤ (k : Int) := Int.natCast_nonneg _
    have k1 : k < 91 := by omega
    have k2 : (k : Int) < 91 := by omega
    rw [hv.out]
    obtain ⟨x, hx⟩ : ∃ x, x = sinT.getD k 0 := ⟨_, rfl⟩
    rw [← hx]
    have HX := Lib.hid hx
    clear hx hv
    have hd : 180 - d = (k : Int) := hk.symm
    clear hk
    go_enter Tryd.func52, Tryd.ntmps52
    go_wp2_with fail
    refine (l03Table_any _).mono ?_
    rintro e w1 ⟨g, rfl, hc, hb⟩
    have H1 := Lib.hid (show Below w.heap.size w w1 by repeat (first | (with_reducible exact Below.refl _ _) | (with_reducible assumption) | ((with_reducible refine bl_alloc ?_ _ ?_); (focus ((first | omega | (simp <;> omega)); done))) | ((with_reducible refine bl_set ?_ _ ?_); (focus ((first | omega | (simp <;> omega)); done))) | (with_reducible refine below_drewN ?_ _) | (with_reducible refine Below.drew ?_) | ((with_reducible refine bl_trans ?_ hb ?_); (focus ((first | omega | (simp <;> omega)); done)))))
    have c1 := hc k k1
    clear hb hc
    rw [← HX.out] at c1
    go_wp2_with fail
    go_ret
    exact ⟨rfl, H1.out⟩
  · obtain ⟨k, hk⟩ : ∃ k : Nat, (k : Int) = d := ⟨d.toNat, by omega⟩
    have hv : Hid (sine2V d = sinT.getD k 0) := by
      show _ = _
      unfold sine2V
      rw [if_neg h, ← hk]
      rfl
    have k1 : k < 91 := by omega
    rw [hv.out]
    obtain ⟨x, hx⟩ : ∃ x, x = sinT.getD k 0 := ⟨_, rfl⟩
    rw [← hx]
    have HX := Lib.hid hx
    clear hx hv
    subst hk
    have k0 : (0 : Int) ≤ (k : Int) := Int.natCast_nonneg _
    have k2 : (k : Int) < 91 := by omega
    go_enter Tryd.func52, Tryd.ntmps52
    go_wp2_with fail
    refine (l03Table_any _).mono ?_
    rintro e w1 ⟨g, rfl, hc, hb⟩
    have H1 := Lib.hid (show Below w.heap.size w w1 by repeat (first | (with_reducible exact Below.refl _ _) | (with_reducible assumption) | ((with_reducible refine bl_alloc ?_ _ ?_); (focus ((first | omega | (simp <;> omega)); done))) | ((with_reducible refine bl_set ?_ _ ?_); (focus ((first | omega | (simp <;> omega)); done))) | (with_reducible refine below_drewN ?_ _) | (with_reducible refine Below.drew ?_) | ((with_reducible refine bl_trans ?_ hb ?_); (focus ((first | omega | (simp <;> omega)); done)))))
    have c1 := hc k k1
    clear hb hc
    rw [← HX.out] at c1
    go_wp2_with fail
    go_ret
    exact ⟨rfl, H1.out⟩
set_option maxRecDepth 20000 in
theorem l03Sine_any (w : World) (d : Int) (h0 : 0 ≤ d) (h1 : d ≤ 359) :
    Calls Tryd.prog 42 #[.int .i64 d] w fun e w' => e = .returned (.int .i64 (sineV d)) ∧ Below w.heap.size w w' := by
  by_cases h : 180 ≤ d
  · have hv : sineV d = -sine2V (d - 180) := if_pos h
    have hq : Hid (∀ W : World, Calls Tryd.prog 52 #[.int .i64 (d - 180)] W fun e w' => e = .returned (.int .i64 (sine2V (d - 180))) ∧ Below W.heap.size W w') := fun W => l03Sine2_any W (d - 180) (by omega) (by omega)
    have hb := sine2_bd (d := d - 180) (by omega) (by omega)
    rw [hv]
    obtain ⟨x, hx⟩ : ∃ x, x = sine2V (d - 180) := ⟨_, rfl⟩
    rw [← hx] at hq hb ⊢
    clear hx hv
    go_enter Tryd.func42, Tryd.ntmps42
    go_wp2_with fail
    refine (hq.out _).mono ?_
    rintro e w1 ⟨rfl, hb1⟩
    have H1 := Lib.hid (show Below w.heap.size w w1 by repeat (first | (with_reducible exact Below.refl _ _) | (with_reducible assumption) | ((with_reducible refine bl_alloc ?_ _ ?_); (focus ((first | omega | (simp <;> omega)); done))) | ((with_reducible refine bl_set ?_ _ ?_); (focus ((first | omega | (simp <;> omega)); done))) | (with_reducible refine below_drewN ?_ _) | (with_reducible refine Below.drew ?_) | ((with_reducible refine bl_trans ?_ hb1 ?_); (focus ((first | omega | (simp <;> omega)); done)))))
    clear hb1
    go_wp2_with fail
    go_ret
    exact ⟨rfl, H1.out⟩
  · have hv : sineV d = sine2V d := if_neg h
    have hq : Hid (∀ W : World, Calls Tryd.prog 52 #[.int .i64 d] W fun e w' => e = .returned (.int .i64 (sine2V d)) ∧ Below W.heap.size W w') := fun W => l03Sine2_any W d (by omega) (by omega)
    rw [hv]
    obtain ⟨x, hx⟩ : ∃ x, x = sine2V d := ⟨_, rfl⟩
    rw [← hx] at hq ⊢
    clear hx hv
    go_enter Tryd.func42, Tryd.ntmps42
    go_wp2_with fail
    refine (hq.out _).mono ?_
    rintro e w1 ⟨rfl, hb1⟩
    have H1 := Lib.hid (show Below w.heap.size w w1 by repeat (first | (with_reducible exact Below.refl _ _) | (with_reducible assumption) | ((with_reducible refine bl_alloc ?_ _ ?_); (focus ((first | omega | (simp <;> omega)); done))) | ((with_reducible refine bl_set ?_ _ ?_); (focus ((first | omega | (simp <;> omega)); done))) | (with_reducible refine below_drewN ?_ _) | (with_reducible refine Below.drew ?_) | ((with_reducible refine bl_trans ?_ hb1 ?_); (focus ((first | omega | (simp <;> omega)); done)))))
    clear hb1
    go_wp2_with fail
    go_ret
    exact ⟨rfl, H1.out⟩
theorem degrees_any (w : World) (e M : Int) (h0 : -359 ≤ e) (h1 : e ≤ 359) (hM : M = (e + 360) % 360) :
    Calls Tryd.prog 43 #[.int .i64 e] w fun r w' => r = .returned (.int .i64 M) ∧ w = w' := by
  have a1 := tmod_small h0 h1
  have a2 : (e + 360).tmod 360 = M := by rw [tmod_up (by omega)]; exact hM.symm
  have a3 : (e + 360) % 360 = M := hM.symm
  have m0 : 0 ≤ M := by omega
  have m1 : M ≤ 359 := by omega
  clear hM
  go_enter Tryd.func43, Tryd.ntmps43
  go_wp2_with fail
  go_ret
  exact ⟨rfl, rfl⟩
set_option maxRecDepth 20000 in
theorem sSine_any (w : World) (e : Int) (h0 : -90 ≤ e) (h1 : e ≤ 90) :
    Calls Tryd.prog 24 #[.int .i64 e] w fun r w' => r = .returned (.int .i64 (sinE e)) ∧ Below w.heap.size w w' := by
  obtain ⟨M, hM⟩ : ∃ M, M = (e + 360) % 360 := ⟨_, rfl⟩
  have hD : Hid (∀ W : World, Calls Tryd.prog 43 #[.int .i64 e] W fun r w' => r = .returned (.int .i64 M) ∧ W = w') := fun W => degrees_any W e M (by omega) (by omega) hM
  have hS : Hid (∀ W : World, Calls Tryd.prog 42 #[.int .i64 M] W fun r w' => r = .returned (.int .i64 (sinE e)) ∧ Below W.heap.size W w') := fun W => by
    unfold sinE
    rw [← hM]
    exact l03Sine_any W M (by omega) (by omega)
  obtain ⟨x, hx⟩ : ∃ x, x = sinE e := ⟨_, rfl⟩
  rw [← hx] at hS ⊢
  clear hx hM
  go_enter Tryd.func24, Tryd.ntmps24
  go_wp2_with ((go_at_call 43; ((with_reducible refine (hD.out _).mono ?_); rintro e w1 ⟨rfl, rfl⟩)))
  refine (hS.out _).mono ?_
  rintro e w1 ⟨rfl, hb1⟩
  have H1 := Lib.hid (show Below w.heap.size w w1 by repeat (first | (with_reducible exact Below.refl _ _) | (with_reducible assumption) | ((with_reducible refine bl_alloc ?_ _ ?_); (focus ((first | omega | (simp <;> omega)); done))) | ((with_reducible refine bl_set ?_ _ ?_); (focus ((first | omega | (simp <;> omega)); done))) | (with_reducible refine below_drewN ?_ _) | (with_reducible refine Below.drew ?_) | ((with_reducible refine bl_trans ?_ hb1 ?_); (focus ((first | omega | (simp <;> omega)); done)))))
  clear hb1
  go_wp2_with fail
  go_ret
  exact ⟨rfl, H1.out⟩
set_option maxRecDepth 20000 in
theorem sCosine_any (w : World) (e : Int) (h0 : -90 ≤ e) (h1 : e ≤ 90) :
    Calls Tryd.prog 23 #[.int .i64 e] w fun r w' => r = .returned (.int .i64 (cosE e)) ∧ Below w.heap.size w w' := by
  obtain ⟨M, hM⟩ : ∃ M, M = (e + 360) % 360 := ⟨_, rfl⟩
  obtain ⟨N, hN⟩ : ∃ N, N = (M + 90) % 360 := ⟨_, rfl⟩
  have hD : Hid (∀ W : World, Calls Tryd.prog 43 #[.int .i64 e] W fun r w' => r = .returned (.int .i64 M) ∧ W = w') := fun W => degrees_any W e M (by omega) (by omega) hM
  have hS : Hid (∀ W : World, Calls Tryd.prog 42 #[.int .i64 N] W fun r w' => r = .returned (.int .i64 (cosE e)) ∧ Below W.heap.size W w') := fun W => by
    unfold cosE sinE
    rw [show (e + 90 + 360) % 360 = N by omega]
    exact l03Sine_any W N (by omega) (by omega)
  obtain ⟨x, hx⟩ : ∃ x, x = cosE e := ⟨_, rfl⟩
  rw [← hx] at hS ⊢
  have m0 : 0 ≤ M := by omega
  have m1 : M ≤ 359 := by omega
  have a2 : (M + 90).tmod 360 = N := by rw [tmod_up (by omega)]; exact hN.symm
  have a3 : (M + 90) % 360 = N := hN.symm
  have n0 : 0 ≤ N := by omega
  have n1 : N ≤ 359 := by omega
  clear hx hM hN
  go_enter Tryd.func23, Tryd.ntmps23
  go_wp2_with ((go_at_call 43; ((with_reducible refine (hD.out _).mono ?_); rintro e w1 ⟨rfl, rfl⟩)))
  refine (hS.out _).mono ?_
  rintro e w1 ⟨rfl, hb1⟩
  have H1 := Lib.hid (show Below w.heap.size w w1 by repeat (first | (with_reducible exact Below.refl _ _) | (with_reducible assumption) | ((with_reducible refine bl_alloc ?_ _ ?_); (focus ((first | omega | (simp <;> omega)); done))) | ((with_reducible refine bl_set ?_ _ ?_); (focus ((first | omega | (simp <;> omega)); done))) | (with_reducible refine below_drewN ?_ _) | (with_reducible refine Below.drew ?_) | ((with_reducible refine bl_trans ?_ hb1 ?_); (focus ((first | omega | (simp <;> omega)); done)))))
  clear hb1
  go_wp2_with fail
  go_ret
  exact ⟨rfl, H1.out⟩
/-- The program's table reads as listed. -/
def SineAt (w : World) : Prop := ∀ k, k < 91 → w.cell? ⟨0, k, none⟩ = some (.int .i64 (sinT.getD k 0))
theorem SineAt.later {w w' : World} (h : SineAt w) (hb : Below w.heap.size w w') : SineAt w' := fun k hk => keeps hb (h k hk)
theorem SineAt.below {w w' : World} (h : SineAt w) (hb : Below w.heap.size w w') : SineAt w' := h.later hb
theorem Tryd.gSin : Tryd.prog.globalNamed "loop.example/g00925/impl.sineTable" = some 0 := by kernel_rfl
theorem Tryd.gSinType : (Tryd.prog.globals[0]?).map (·.type) = some 66 := by kernel_rfl
theorem sin_cells_of : Tryd.prog.cellsOf 66 = 91 := by kernel_rfl
theorem sin_cell_of : Tryd.prog.cellsOf 2 = 1 := by kernel_rfl
theorem sin_data : (Rows.laid_loop_example_g00925_impl_sineTable : DataW Unit) = Lib.tabData .i64 sinT := by kernel_rfl
theorem sine_laid {W : World} (h : laidMet Tryd.prog [("loop.example/g00925/impl.sineTable", Rows.laid_loop_example_g00925_impl_sineTable)] W) : SineAt W := by
  obtain ⟨ps, ⟨g', t', cs, fuel, p, q, hg', ht', hvar, hd, _, _⟩, _⟩ := h
  obtain rfl := Option.some.inj (Tryd.gSin.symm.trans hg')
  obtain rfl := Option.some.inj (Tryd.gSinType.symm.trans ht')
  rw [sin_data] at hd
  have hc := Lib.cells_of_tab Tryd.underlying66 Tryd.underlying2 sin_cell_of sin_cells_of hd
  intro k hk
  have hv := World.var?_cell Tryd.gSin hvar
  rw [hv]
  have hk' : k < sinT.length := hk
  have e : cs[k]? = cs.toList[k]? := by simp
  rw [e, hc, List.getElem?_map, List.getElem?_eq_getElem hk']
  simp [List.getD, hk']
set_option maxRecDepth 20000 in
theorem sine_low (w : World) (hT : SineAt w) (d : Int) (h0 : 0 ≤ d) (h1 : d ≤ 179) :
    Calls Tryd.prog 38 #[.int .i64 d] w fun e w' => e = .returned (.int .i64 (sine2V d)) ∧ Below w.heap.size w w' := by
  have a1 := tmod_small (e := d) (by omega) (by omega)
  have a2 : (d + 360).tmod 360 = d := by rw [tmod_up (by omega)]; omega
  have a3 : (d + 360) % 360 = d := by omega
  have a4 : d % 360 = d := by omega
  by_cases h : 90 < d
  · obtain ⟨k, hk⟩ : ∃ k : Nat, (k : Int) = 180 - d := ⟨(180 - d).toNat, by omega⟩
    have hv : Hid (sine2V d = sinT.getD k 0) := by
      show _ = _
      unfold sine2V
      rw [if_pos h, ← hk]
      rfl
    have w1 : IntKind.i64.wrap (180 - d) = (k : Int) := by rw [IntKind.wrap_i64]; omega
    have k0 : (0 : Int) ≤ (k : Int) := Int.natCast_nonneg _
    have k1 : k < 91 := by omega
    have k2 : (k : Int) < 91 := by omega
    rw [hv.out]
    have hd : 180 - d = (k : Int) := hk.symm
    have c1 := hT k k1
    obtain ⟨x, hx⟩ : ∃ x, x = sinT.getD k 0 := ⟨_, rfl⟩
    rw [← hx] at c1 ⊢
    clear hk hT hv hx
    go_enter Tryd.func38, Tryd.ntmps38
    go_wp2_with fail
    go_ret
    exact ⟨rfl, by repeat (first | (with_reducible exact Below.refl _ _) | (with_reducible assumption) | ((with_reducible refine bl_alloc ?_ _ ?_); (focus ((first | omega | (simp <;> omega)); done))) | ((with_reducible refine bl_set ?_ _ ?_); (focus ((first | omega | (simp <;> omega)); done))) | (with_reducible refine below_drewN ?_ _) | (with_reducible refine Below.drew ?_))⟩
  · obtain ⟨k, hk⟩ : ∃ k : Nat, (k : Int) = d := ⟨d.toNat, by omega⟩
    have hv : Hid (sine2V d = sinT.getD k 0) := by
      show _ = _
      unfold sine2V
      rw [if_neg h, ← hk]
      rfl
    have k1 : k < 91 := by omega
    rw [hv.out]
    clear hv
    subst hk
    have k0 : (0 : Int) ≤ (k : Int) := Int.natCast_nonneg _
    have k2 : (k : Int) < 91 := by omega
    have c1 := hT k k1
    obtain ⟨x, hx⟩ : ∃ x, x = sinT.getD k 0 := ⟨_, rfl⟩
    rw [← hx] at c1 ⊢
    clear hT hx
    go_enter Tryd.func38, Tryd.ntmps38
    go_wp2_with fail
    go_ret
    exact ⟨rfl, by repeat (first | (with_reducible exact Below.refl _ _) | (with_reducible assumption) | ((with_reducible refine bl_alloc ?_ _ ?_); (focus ((first | omega | (simp <;> omega)); done))) | ((with_reducible refine bl_set ?_ _ ?_); (focus ((first | omega | (simp <;> omega)); done))) | (with_reducible refine below_drewN ?_ _) | (with_reducible refine Below.drew ?_))⟩
set_option maxRecDepth 20000 in
theorem iSine_any (w : World) (hT : SineAt w) (e : Int) (h0 : -90 ≤ e) (h1 : e ≤ 180) :
    Calls Tryd.prog 38 #[.int .i64 e] w fun r w' => r = .returned (.int .i64 (sinE e)) ∧ Below w.heap.size w w' := by
  by_cases hl : 0 ≤ e ∧ e ≤ 179
  · have := sine_low w hT e hl.1 hl.2
    have hv : sinE e = sine2V e := by
      unfold sinE sineV
      rw [show (e + 360) % 360 = e by omega, if_neg (by omega)]
    rw [hv]
    exact this
  · obtain ⟨M, hM⟩ : ∃ M, M = (e + 360) % 360 := ⟨_, rfl⟩
    have hm : 180 ≤ M ∧ M ≤ 359 := by omega
    obtain ⟨m0, m1⟩ := hm
    have a1 := tmod_small (e := e) (by omega) (by omega)
    have a2 : (e + 360).tmod 360 = M := by rw [tmod_up (by omega)]; exact hM.symm
    have a3 : (e + 360) % 360 = M := hM.symm
    have HT := Lib.hid hT
    have hS : Hid (∀ W : World, Below w.heap.size w W → Calls Tryd.prog 38 #[.int .i64 (M - 180)] W fun r w' => r = .returned (.int .i64 (sine2V (M - 180))) ∧ Below W.heap.size W w') := fun W hW => sine_low W (HT.out.later hW) (M - 180) (by omega) (by omega)
    have hb := sine2_bd (d := M - 180) (by omega) (by omega)
    have hv : sinE e = -sine2V (M - 180) := by
      unfold sinE sineV
      rw [← hM, if_pos m0]
    rw [hv]
    obtain ⟨x, hx⟩ : ∃ x, x = sine2V (M - 180) := ⟨_, rfl⟩
    rw [← hx] at hS hb ⊢
    clear hx hM hv hT hl
    go_enter Tryd.func38, Tryd.ntmps38
    go_wp2_with fail
    refine (hS.out _ (by repeat (first | (with_reducible exact Below.refl _ _) | (with_reducible assumption) | ((with_reducible refine bl_alloc ?_ _ ?_); (focus ((first | omega | (simp <;> omega)); done))) | ((with_reducible refine bl_set ?_ _ ?_); (focus ((first | omega | (simp <;> omega)); done))) | (with_reducible refine below_drewN ?_ _) | (with_reducible refine Below.drew ?_)))).mono ?_
    rintro e w1 ⟨rfl, hb1⟩
    have H1 := Lib.hid (show Below w.heap.size w w1 by repeat (first | (with_reducible exact Below.refl _ _) | (with_reducible assumption) | ((with_reducible refine bl_alloc ?_ _ ?_); (focus ((first | omega | (simp <;> omega)); done))) | ((with_reducible refine bl_set ?_ _ ?_); (focus ((first | omega | (simp <;> omega)); done))) | (with_reducible refine below_drewN ?_ _) | (with_reducible refine Below.drew ?_) | ((with_reducible refine bl_trans ?_ hb1 ?_); (focus ((first | omega | (simp <;> omega)); done)))))
    clear hb1
    go_wp2_with fail
    go_ret
    exact ⟨rfl, H1.out⟩
set_option maxRecDepth 20000 in
theorem iCosine_any (w : World) (hT : SineAt w) (e : Int) (h0 : -90 ≤ e) (h1 : e ≤ 90) :
    Calls Tryd.prog 37 #[.int .i64 e] w fun r w' => r = .returned (.int .i64 (cosE e)) ∧ Below w.heap.size w w' := by
  have a1 := tmod_small (e := e) (by omega) (by omega)
  have HT := Lib.hid hT
  have hS : Hid (∀ W : World, Below w.heap.size w W → Calls Tryd.prog 38 #[.int .i64 (e + 90)] W fun r w' => r = .returned (.int .i64 (cosE e)) ∧ Below W.heap.size W w') := fun W hW => iSine_any W (HT.out.later hW) (e + 90) (by omega) (by omega)
  obtain ⟨x, hx⟩ : ∃ x, x = cosE e := ⟨_, rfl⟩
  rw [← hx] at hS ⊢
  clear hx hT
  go_enter Tryd.func37, Tryd.ntmps37
  go_wp2_with fail
  refine (hS.out _ (by repeat (first | (with_reducible exact Below.refl _ _) | (with_reducible assumption) | ((with_reducible refine bl_alloc ?_ _ ?_); (focus ((first | omega | (simp <;> omega)); done))) | ((with_reducible refine bl_set ?_ _ ?_); (focus ((first | omega | (simp <;> omega)); done))) | (with_reducible refine below_drewN ?_ _) | (with_reducible refine Below.drew ?_)))).mono ?_
  rintro e w1 ⟨rfl, hb1⟩
  have H1 := Lib.hid (show Below w.heap.size w w1 by repeat (first | (with_reducible exact Below.refl _ _) | (with_reducible assumption) | ((with_reducible refine bl_alloc ?_ _ ?_); (focus ((first | omega | (simp <;> omega)); done))) | ((with_reducible refine bl_set ?_ _ ?_); (focus ((first | omega | (simp <;> omega)); done))) | (with_reducible refine below_drewN ?_ _) | (with_reducible refine Below.drew ?_) | ((with_reducible refine bl_trans ?_ hb1 ?_); (focus ((first | omega | (simp <;> omega)); done)))))
  clear hb1
  go_wp2_with fail
  go_ret
  exact ⟨rfl, H1.out⟩
end Go.Proofs.YtedpdcdmemenhaaDoor
