/-
  Contracts of RadioText: the program's and the reference's, as in the law's own text. The conditions are the hypotheses.
-/
import Derived.Test.YtampjgfddakdoaaDoorRows
import Derived.Test.YtampjgfddakdoaaDoorLib
import Derived.Test.YtampjgfddakdoaaDoorInt
import Derived.Test.YtampjgfddakdoaaDoorWithin
import Derived.Test.YtampjgfddakdoaaDoorNames
import Derived.Test.YtampjgfddakdoaaDoorRadioB
import Derived.Test.YtampjgfddakdoaaDoorModes
import Derived.Test.YtampjgfddakdoaaDoorRadios
import Derived.Test.YtampjgfddakdoaaDoorRadioS
import Derived.Test.YtampjgfddakdoaaDoorRadio
import Derived.Test.YtampjgfddakdoaaDoorOwn
import Derived.Test.YtampjgfddakdoaaDoorField
import Derived.Test.YtampjgfddakdoaaDoorGRow
import Derived.Test.YtampjgfddakdoaaDoorDecS
import Derived.Test.YtampjgfddakdoaaDoorListT
import Derived.Test.YtampjgfddakdoaaDoorDec
import Derived.Outline
import Derived.Deep.RegionHeld3
import Derived.Deep.DrawnRows
import Derived.Laws.Concat
import Derived.Deep.AppendLies
import Derived.Deep.RegionLaw
namespace Go.Proofs.YtampjgfddakdoaaDoor.ofRadioText
open Go.RowKit
set_option linter.unusedSimpArgs false
set_option linter.unusedVariables false
attribute [local go_sem ↓] Go.wp_at_zero Go.wp_at_succ
def modeT (m : Int × Int) : List UInt8 := Lib.itoa m.1 ++ [47] ++ Lib.itoa m.2
def modesK (ms : List (Int × Int)) (k : Nat) : List UInt8 := Lib.join ((ms.take k).map modeT) [44]
theorem modesK_zero (ms : List (Int × Int)) : modesK ms 0 = [] := by unfold modesK; rw [List.take_zero]; rfl
theorem modesK_one {ms : List (Int × Int)} (h : 0 < ms.length) : modesK ms 1 = modeT (ms.getD 0 (0, 0)) := by
  cases ms with
  | nil => simp at h
  | cons x r => unfold modesK; simp only [List.take_succ_cons, List.take_zero, List.map_cons, List.map_nil]; exact Lib.join_one _ _
theorem modesK_next {ms : List (Int × Int)} {k : Nat} (h0 : 0 < k) (h : k < ms.length) : modesK ms (k + 1) = modesK ms k ++ [44] ++ modeT (ms.getD k (0, 0)) := by
  cases ms with
  | nil => simp at h
  | cons x r =>
    cases k with
    | zero => omega
    | succ j =>
      have hj : j < r.length := by simpa using h
      unfold modesK
      rw [List.take_succ_cons, List.take_succ_cons, List.map_cons, List.map_cons, Lib.join_cons, Lib.join_cons, List.map_take, List.map_take, Lib.joinTail_take_succ [44] (r.map modeT) j (modeT (r.getD j (0, 0))) (by rw [List.getElem?_map, List.getElem?_eq_getElem hj]; simp [hj])]
      simp [List.append_assoc]
theorem mode_21 {ms : List (Int × Int)} {k : Nat} (h : modeP ms k) : (Lib.itoa (ms.getD k (0, 0)).1).length ≤ 21 ∧ (Lib.itoa (ms.getD k (0, 0)).2).length ≤ 21 := by
  obtain ⟨⟨a, b⟩, ⟨c, d⟩, _⟩ := h
  exact ⟨itoa_21 (by omega) (by omega), itoa_21 (by omega) (by omega)⟩
theorem modesK_len {ms : List (Int × Int)} (hb : ∀ k, k < ms.length → modeP ms k) : ∀ k, k ≤ ms.length → (modesK ms k).length ≤ 44 * k
  | 0, _ => by rw [modesK_zero]; exact Nat.le_refl _
  | k + 1, h => by
    obtain ⟨h1, h2⟩ := mode_21 (hb k (by omega))
    by_cases h0 : k = 0
    · subst h0
      rw [modesK_one (by omega)]
      unfold modeT
      simp only [List.length_append, List.length_cons, List.length_nil]
      omega
    · have := modesK_len hb k (by omega)
      rw [modesK_next (by omega) (by omega)]
      unfold modeT
      simp only [List.length_append, List.length_cons, List.length_nil]
      omega
def headT (s : ByteArray) (p f n wd : Int) : List UInt8 := s.data.toList ++ [32] ++ Lib.itoa p ++ [32] ++ Lib.itoa f ++ [32] ++ Lib.itoa n ++ [32] ++ Lib.itoa wd ++ [32]
def radT (s : ByteArray) (p f n wd : Int) (ms : List (Int × Int)) : List UInt8 := if radB s p f n wd ms = true then headT s p f n wd ++ modesK ms ms.length else []
theorem radT_no {s : ByteArray} {p f n wd : Int} {ms : List (Int × Int)} (h : radB s p f n wd ms = false) : radT s p f n wd ms = [] := if_neg (by rw [h]; simp)
theorem radT_yes {s : ByteArray} {p f n wd : Int} {ms : List (Int × Int)} (h : radB s p f n wd ms = true) : radT s p f n wd ms = headT s p f n wd ++ modesK ms ms.length := if_pos h
theorem join_six (a b c d e m : List UInt8) : Lib.join [a, b, c, d, e, m] [32] = a ++ [32] ++ b ++ [32] ++ c ++ [32] ++ d ++ [32] ++ e ++ [32] ++ m := by
  rw [Lib.join_cons]
  simp [Lib.joinTail, List.append_assoc]
theorem name_len {s : ByteArray} (h : nameB s = true) : s.size ≤ 10 := by
  rcases Nat.lt_or_ge 10 s.size with h1 | h1
  · rw [name_long h1] at h
    cases h
  · exact h1
theorem str_add1 (s : ByteArray) (b : List UInt8) (h : s.size + b.length ≤ 100000) (W : World) : (Op.stringOp .add s ⟨b.toArray⟩).run Tryd.prog W = .ok (.string ⟨(s.data.toList ++ b).toArray⟩) W := by
  have e : s = ⟨s.data.toList.toArray⟩ := by
    apply ByteArray.ext
    simp
  have h' : s.data.toList.length + b.length ≤ 100000 := by simpa using h
  have := str_add s.data.toList b h' W
  rw [← e] at this
  exact this
theorem gowns {e : TypeId} {w : World} {base n : Nat} {t : Value} {us : List Value} (hn : us.length = n) (h : GRow e w base t us) : w.ownsRow base e 1 t n us := by
  subst hn
  exact h
def encM (m : Int × Int) : Value := .string ⟨(modeT m).toArray⟩
theorem Tryd.info_strs : (Tryd.prog.info? 9).map (fun i => (i.zero, i.size, i.bytes)) = some (some (.string ⟨#[]⟩), 1, 16) := by kernel_rfl
set_option maxRecDepth 20000 in
set_option maxHeartbeats 8000000 in
theorem impl_any (w : World) (hT : PowTab w) (s : ByteArray) (is : s.size ≤ maxLen) (p : Int) (ip : In64 p) (f : Int) (jf : In64 f) (n : Int) (jn : In64 n) (wd : Int) (iw : In64 wd) (v : Value) (ms : List (Int × Int)) (q : Nat) (hr : RowM 57 w q v ms) (ims : ∀ m ∈ ms, In64 m.1 ∧ In64 m.2) :
    Calls Tryd.prog 36 #[.agg #[.string s, .int .i64 p, .int .i64 f, .int .i64 n, .int .i64 wd, v]] w fun e w' => e = .returned (.string ⟨(radT s p f n wd ms).toArray⟩) ∧ Below w.heap.size w w' := by
  have HR := Lib.hid hr
  have IS := Lib.hid is
  have HT := Lib.hid hT
  clear hr is ims ip jf jn iw hT
  rcases bool_tf (radB s p f n wd ms) with hm | hm
  rotate_left
  · rw [radT_no hm]
    have HE := Lib.hid hm
    clear hm
    go_enter Tryd.func36, Tryd.ntmps36
    go_wp2_with fail
    refine (ValidRadio_any _ s IS.out p f n wd _ ms q (HR.out.alloc_ _)).mono ?_
    rintro e w1 ⟨he, hb⟩
    rw [HE.out] at he
    subst he
    have H1 := Lib.hid (show Below w.heap.size w w1 by repeat (first | (with_reducible exact Below.refl _ _) | (with_reducible assumption) | ((with_reducible refine bl_alloc ?_ _ ?_); (focus ((first | omega | (simp <;> omega)); done))) | ((with_reducible refine bl_set ?_ _ ?_); (focus ((first | omega | (simp <;> omega)); done))) | (with_reducible refine below_drewN ?_ _) | (with_reducible refine Below.drew ?_) | ((with_reducible refine bl_trans ?_ hb ?_); (focus ((first | omega | (simp <;> omega)); done)))))
    clear hb
    go_wp2_with fail
    go_ret
    exact ⟨rfl, H1.out⟩
  rw [radT_yes hm]
  obtain ⟨hnm, ⟨⟨p0, p1⟩, ⟨f0, f1⟩, ⟨n0, n1⟩, ⟨w0, w1_⟩, m0, m1⟩, hmo⟩ := rad_parts hm
  have hs10 := name_len hnm
  have up := itoa_21 (show -1000000000000 ≤ p by omega) (show p ≤ 1000000000000 by omega)
  have HCp : Hid (∀ W : World, Below w.heap.size w W → Calls Tryd.prog 52 #[.int .i64 p] W fun e w' => e = .returned (.string ⟨(Lib.itoa p).toArray⟩) ∧ Below W.heap.size W w') := fun W hW => Decimal_any W (HT.out.below hW) p (by omega)
  have uf := itoa_21 (show -1000000000000 ≤ f by omega) (show f ≤ 1000000000000 by omega)
  have HCf : Hid (∀ W : World, Below w.heap.size w W → Calls Tryd.prog 52 #[.int .i64 f] W fun e w' => e = .returned (.string ⟨(Lib.itoa f).toArray⟩) ∧ Below W.heap.size W w') := fun W hW => Decimal_any W (HT.out.below hW) f (by omega)
  have un := itoa_21 (show -1000000000000 ≤ n by omega) (show n ≤ 1000000000000 by omega)
  have HCn : Hid (∀ W : World, Below w.heap.size w W → Calls Tryd.prog 52 #[.int .i64 n] W fun e w' => e = .returned (.string ⟨(Lib.itoa n).toArray⟩) ∧ Below W.heap.size W w') := fun W hW => Decimal_any W (HT.out.below hW) n (by omega)
  have uwd := itoa_21 (show -1000000000000 ≤ wd by omega) (show wd ≤ 1000000000000 by omega)
  have HCwd : Hid (∀ W : World, Below w.heap.size w W → Calls Tryd.prog 52 #[.int .i64 wd] W fun e w' => e = .returned (.string ⟨(Lib.itoa wd).toArray⟩) ∧ Below W.heap.size W w') := fun W hW => Decimal_any W (HT.out.below hW) wd (by omega)
  have HMO := Lib.hid hmo
  have HML := Lib.hid (modesK_len hmo)
  rcases HR.out.forms with ⟨_, hz⟩ | ⟨g, cap, rfl, _, gl, hc, _⟩
  · rw [hz] at m0; simp at m0
  have HC := Lib.hid hc
  have HE := Lib.hid hm
  clear hc hm hnm hmo
  have HH : Hid (headT s p f n wd ++ modesK ms ms.length = Lib.join [s.data.toList, Lib.itoa p, Lib.itoa f, Lib.itoa n, Lib.itoa wd, modesK ms ms.length] [32]) := by show _ = _; rw [join_six]; rfl
  rw [HH.out]
  clear HH
  obtain ⟨Dp, hDp⟩ : ∃ D, D = Lib.itoa p := ⟨_, rfl⟩
  rw [← hDp] at up HCp ⊢
  obtain ⟨Df, hDf⟩ : ∃ D, D = Lib.itoa f := ⟨_, rfl⟩
  rw [← hDf] at uf HCf ⊢
  obtain ⟨Dn, hDn⟩ : ∃ D, D = Lib.itoa n := ⟨_, rfl⟩
  rw [← hDn] at un HCn ⊢
  obtain ⟨Dwd, hDwd⟩ : ∃ D, D = Lib.itoa wd := ⟨_, rfl⟩
  rw [← hDwd] at uwd HCwd ⊢
  clear hDp hDf hDn hDwd
  obtain ⟨N, hN⟩ : ∃ N, N = ms.length := ⟨_, rfl⟩
  have HN := Lib.hid hN
  rw [← hN] at m0 m1 HC HML HMO ⊢
  clear hN
  have b2 : ((N : Int) == 0) = false := by rw [beq_eq_false_iff_ne]; omega
  obtain ⟨i0, hi, hz0, hz1, hz2⟩ := info_parts Tryd.info_strs
  have HI := Lib.hid hi
  have HZ0 := Lib.hid hz0
  have HZ1 := Lib.hid hz1
  have HZ2 := Lib.hid hz2
  clear hi hz0 hz1 hz2
  obtain ⟨MM, hMM⟩ : ∃ MM, MM = modesK ms N := ⟨_, rfl⟩
  rw [← hMM]
  have HMM := Lib.hid hMM
  clear hMM
  obtain ⟨RR, hRR⟩ : ∃ RR, RR = Lib.join [s.data.toList, Dp, Df, Dn, Dwd, MM] [32] := ⟨_, rfl⟩
  rw [← hRR]
  have HRR := Lib.hid hRR
  clear hRR
  go_enter Tryd.func36, Tryd.ntmps36
  go_wp2_with fail
  refine (ValidRadio_any _ s IS.out p f n wd _ ms q (by have h := HR.out; rw [← HN.out] at h; exact h.alloc_ _)).mono ?_
  rintro e w1 ⟨he, hb⟩
  rw [HE.out] at he
  subst he
  have H1 := Lib.hid (show Below w.heap.size w w1 by repeat (first | (with_reducible exact Below.refl _ _) | (with_reducible assumption) | ((with_reducible refine bl_alloc ?_ _ ?_); (focus ((first | omega | (simp <;> omega)); done))) | ((with_reducible refine bl_set ?_ _ ?_); (focus ((first | omega | (simp <;> omega)); done))) | (with_reducible refine below_drewN ?_ _) | (with_reducible refine Below.drew ?_) | ((with_reducible refine bl_trans ?_ hb ?_); (focus ((first | omega | (simp <;> omega)); done)))))
  have x0 := keeps hb (p := ⟨w.heap.size, 0, none⟩) (v := .string s) (by simp [go_sem])
  have x1 := keeps hb (p := ⟨w.heap.size, 1, none⟩) (v := .int .i64 p) (by simp [go_sem])
  have x2 := keeps hb (p := ⟨w.heap.size, 2, none⟩) (v := .int .i64 f) (by simp [go_sem])
  have x3 := keeps hb (p := ⟨w.heap.size, 3, none⟩) (v := .int .i64 n) (by simp [go_sem])
  have x4 := keeps hb (p := ⟨w.heap.size, 4, none⟩) (v := .int .i64 wd) (by simp [go_sem])
  have x5 := keeps hb (p := ⟨w.heap.size, 5, none⟩) (v := .slice (some ⟨g, 0, none⟩) N cap) (by simp [go_sem])
  have z1 : w.heap.size < w1.heap.size := by have := hb.size; simp at this; omega
  clear hb
  go_wp2_with fail
  have X0 := Lib.hid x0
  have X1 := Lib.hid x1
  have X2 := Lib.hid x2
  have X3 := Lib.hid x3
  have X4 := Lib.hid x4
  clear x0 x1 x2 x3 x4 x5
  go_loopw [3, 12] (fun t i wr => ∃ k : Nat, k ≤ N ∧ i = .int .i64 (k : Int) ∧ Hid (GRow 9 wr w1.heap.size t ((ms.take k).map encM)) ∧ Hid (Below w1.heap.size w1 wr)) (fun _ i _ => N + 1 - (intOf i).toNat)
  case atStart => exact ⟨0, Nat.zero_le _, rfl, GRow.nil_, (show Below _ _ _ by repeat (first | (with_reducible exact Below.refl _ _) | (with_reducible assumption) | ((with_reducible refine bl_alloc ?_ _ ?_); (focus ((first | omega | (simp <;> omega)); done))) | ((with_reducible refine bl_set ?_ _ ?_); (focus ((first | omega | (simp <;> omega)); done))) | (with_reducible refine below_drewN ?_ _) | (with_reducible refine Below.drew ?_)))⟩
  case round =>
    obtain ⟨k, hk, rfl, hr, hbw⟩ := hrel
    have k0 : (0 : Int) ≤ (k : Int) := Int.natCast_nonneg _
    have zw : w1.heap.size ≤ wr.heap.size := hbw.out.size
    have HBW := Lib.hid (show Below w.heap.size w wr from H1.out.trans (hbw.out.mono H1.out.size))
    have zW := HBW.out.size
    by_cases hlt : k < N
    · have hlt' : (k : Int) < (N : Int) := by omega
      obtain ⟨cx_, cy_⟩ := HC.out k hlt
      have cx := (HBW.out.cell (p := ⟨g, k * 2, none⟩) gl).trans cx_
      have cy := (HBW.out.cell (p := ⟨g, k * 2 + 1, none⟩) gl).trans cy_
      clear cx_ cy_
      have hmp := HMO.out k hlt
      obtain ⟨ux, uy⟩ := mode_21 hmp
      obtain ⟨⟨x0, x1⟩, ⟨y0, y1⟩, _⟩ := hmp
      have hst : Hid ((ms.take (k + 1)).map encM = (ms.take k).map encM ++ [.string ⟨(Lib.itoa (ms.getD k (0, 0)).1 ++ [47] ++ Lib.itoa (ms.getD k (0, 0)).2).toArray⟩]) := by
        show _ = _
        rw [List.take_succ_eq_append_getElem (by have := HN.out; omega), List.map_append]
        simp [encM, modeT, show k < ms.length by have := HN.out; omega]
      have hlk : ((ms.take k).map encM).length = k := by rw [List.length_map, List.length_take, ← HN.out]; omega
      obtain ⟨x, hx⟩ : ∃ x, x = (ms.getD k (0, 0)).1 := ⟨_, rfl⟩
      obtain ⟨y, hy⟩ : ∃ y, y = (ms.getD k (0, 0)).2 := ⟨_, rfl⟩
      rw [← hx] at cx ux x0 x1 hst
      rw [← hy] at cy uy y0 y1 hst
      clear hx hy
      have HX : Hid (∀ W : World, Below w.heap.size w W → Calls Tryd.prog 52 #[.int .i64 x] W fun e w' => e = .returned (.string ⟨(Lib.itoa x).toArray⟩) ∧ Below W.heap.size W w') := fun W hW => Decimal_any W (HT.out.below hW) x (by omega)
      have HY : Hid (∀ W : World, Below w.heap.size w W → Calls Tryd.prog 52 #[.int .i64 y] W fun e w' => e = .returned (.string ⟨(Lib.itoa y).toArray⟩) ∧ Below W.heap.size W w') := fun W hW => Decimal_any W (HT.out.below hW) y (by omega)
      obtain ⟨A, hA⟩ : ∃ A, A = Lib.itoa x := ⟨_, rfl⟩
      obtain ⟨B, hB⟩ : ∃ B, B = Lib.itoa y := ⟨_, rfl⟩
      rw [← hA] at ux hst HX
      rw [← hB] at uy hst HY
      clear hA hB
      have ha1 : ∀ W : World, (Op.stringOp .add ⟨A.toArray⟩ ⟨#[47]⟩).run Tryd.prog W = .ok (.string ⟨(A ++ [47]).toArray⟩) W := fun W => str_add A [47] (by simp; omega) W
      have ha2 : ∀ W : World, (Op.stringOp .add ⟨(A ++ [47]).toArray⟩ ⟨B.toArray⟩).run Tryd.prog W = .ok (.string ⟨(A ++ [47] ++ B).toArray⟩) W := fun W => str_add (A ++ [47]) B (by simp; omega) W
      obtain ⟨A1, hA1⟩ : ∃ A1, A1 = A ++ [47] := ⟨_, rfl⟩
      rw [← hA1] at ha1 ha2 hst
      obtain ⟨M, hM⟩ : ∃ M, M = A1 ++ B := ⟨_, rfl⟩
      rw [← hM] at ha2 hst
      clear hA1 hM ux uy
      obtain ⟨us, hus⟩ : ∃ us, us = (ms.take k).map encM := ⟨_, rfl⟩
      rw [← hus] at hr hst hlk
      clear hus
      obtain ⟨WB, hWB⟩ : ∃ WB, WB = wr.alloc (.cells #[.int .i64 x, .int .i64 y] 57) := ⟨_, rfl⟩
      have HB0 := Lib.hid (show Below w.heap.size w WB by rw [hWB]; repeat (first | (with_reducible exact Below.refl _ _) | (with_reducible assumption) | ((with_reducible refine bl_alloc ?_ _ ?_); (focus ((first | omega | (simp <;> omega)); done))) | ((with_reducible refine bl_set ?_ _ ?_); (focus ((first | omega | (simp <;> omega)); done))) | (with_reducible refine below_drewN ?_ _) | (with_reducible refine Below.drew ?_) | ((with_reducible refine bl_trans ?_ HBW.out ?_); (focus ((first | omega | (simp <;> omega)); done)))))
      have HB1 := Lib.hid (show Below w1.heap.size w1 WB by rw [hWB]; repeat (first | (with_reducible exact Below.refl _ _) | (with_reducible assumption) | ((with_reducible refine bl_alloc ?_ _ ?_); (focus ((first | omega | (simp <;> omega)); done))) | ((with_reducible refine bl_set ?_ _ ?_); (focus ((first | omega | (simp <;> omega)); done))) | (with_reducible refine below_drewN ?_ _) | (with_reducible refine Below.drew ?_) | ((with_reducible refine bl_trans ?_ hbw.out ?_); (focus ((first | omega | (simp <;> omega)); done)))))
      have hrB := Lib.hid (show GRow 9 WB w1.heap.size u3 us by rw [hWB]; exact hr.out.alloc_ _)
      have d0 : WB.cell? ⟨wr.heap.size, 0, none⟩ = some (.int .i64 x) := by rw [hWB]; simp [go_sem]
      have d1 : WB.cell? ⟨wr.heap.size, 1, none⟩ = some (.int .i64 y) := by rw [hWB]; simp [go_sem]
      have zB : WB.heap.size = wr.heap.size + 1 := by rw [hWB]; simp
      go_wp2_with fail
      rw [← hWB]
      have ZB := Lib.hid zB
      clear hWB zB cx cy
      have zb0 := HB0.out.size
      have zb1 := HB1.out.size
      go_region_law (first
        | (refine step_append_lies _ (by rfl) _ _ _ (by rfl) w1.heap.size 9 i0 (.string ⟨#[]⟩) 1 16 Tryd.underlying43 HI.out HZ0.out HZ1.out HZ2.out rfl (by omega) u3 k us (by rfl) (gowns hlk (hr4.out.alloc_ (.cells #[.string ⟨M.toArray⟩] 9))) ⟨w4.heap.size, 0, none⟩ 1 1 [.string ⟨M.toArray⟩] (by rfl) (by rfl) (World.news_of_block (cs := #[.string ⟨M.toArray⟩]) (t := 9) (fr := (0, 0)) (heap_alloc_new w4 _)) (by simp [Value.oneCell']) (by omega) (by unfold maxLen; omega) (by omega) (by simp <;> omega) (w4.heap.size + 1) (by simp) ?_; intro g3 cap3 w5 hown hgrow hat hlt3)
        | (go_simp; go_at_call 52; ((with_reducible refine (HX.out _ (by repeat (first | (with_reducible exact Below.refl _ _) | (with_reducible assumption) | ((with_reducible refine bl_alloc ?_ _ ?_); (focus ((first | omega | (simp <;> omega)); done))) | ((with_reducible refine bl_set ?_ _ ?_); (focus ((first | omega | (simp <;> omega)); done))) | (with_reducible refine below_drewN ?_ _) | (with_reducible refine Below.drew ?_) | ((with_reducible refine bl_trans ?_ HB0.out ?_); (focus ((first | omega | (simp <;> omega)); done)))))).mono ?_); rintro e w3 ⟨rfl, hb⟩; have H3 := Lib.hid (show Below w.heap.size w w3 by repeat (first | (with_reducible exact Below.refl _ _) | (with_reducible assumption) | ((with_reducible refine bl_alloc ?_ _ ?_); (focus ((first | omega | (simp <;> omega)); done))) | ((with_reducible refine bl_set ?_ _ ?_); (focus ((first | omega | (simp <;> omega)); done))) | (with_reducible refine below_drewN ?_ _) | (with_reducible refine Below.drew ?_) | ((with_reducible refine bl_trans ?_ hb ?_); (focus ((first | omega | (simp <;> omega)); done))) | ((with_reducible refine bl_trans ?_ HB0.out ?_); (focus ((first | omega | (simp <;> omega)); done))))); have H31 := Lib.hid (show Below w1.heap.size w1 w3 by repeat (first | (with_reducible exact Below.refl _ _) | (with_reducible assumption) | ((with_reducible refine bl_alloc ?_ _ ?_); (focus ((first | omega | (simp <;> omega)); done))) | ((with_reducible refine bl_set ?_ _ ?_); (focus ((first | omega | (simp <;> omega)); done))) | (with_reducible refine below_drewN ?_ _) | (with_reducible refine Below.drew ?_) | ((with_reducible refine bl_trans ?_ hb ?_); (focus ((first | omega | (simp <;> omega)); done))) | ((with_reducible refine bl_trans ?_ HB1.out ?_); (focus ((first | omega | (simp <;> omega)); done))))); have z31 := H3.out.size; have z32 := H31.out.size; have hr3 : Hid (GRow 9 w3 w1.heap.size u3 us) := (by first | exact hrB.out.later hb | exact GRow.later (w := WB.drew) hrB.out hb); have e1 : w3.cell? ⟨wr.heap.size, 1, none⟩ = some (.int .i64 y) := (by first | exact keeps hb d1 | exact keeps1 hb d1); have z3 : WB.heap.size ≤ w3.heap.size := hb.size))
        | (go_simp; go_at_call 52; ((with_reducible refine (HY.out _ (by repeat (first | (with_reducible exact Below.refl _ _) | (with_reducible assumption) | ((with_reducible refine bl_alloc ?_ _ ?_); (focus ((first | omega | (simp <;> omega)); done))) | ((with_reducible refine bl_set ?_ _ ?_); (focus ((first | omega | (simp <;> omega)); done))) | (with_reducible refine below_drewN ?_ _) | (with_reducible refine Below.drew ?_) | ((with_reducible refine bl_trans ?_ H3.out ?_); (focus ((first | omega | (simp <;> omega)); done)))))).mono ?_); rintro e w4 ⟨rfl, hb⟩; have H4 := Lib.hid (show Below w.heap.size w w4 by repeat (first | (with_reducible exact Below.refl _ _) | (with_reducible assumption) | ((with_reducible refine bl_alloc ?_ _ ?_); (focus ((first | omega | (simp <;> omega)); done))) | ((with_reducible refine bl_set ?_ _ ?_); (focus ((first | omega | (simp <;> omega)); done))) | (with_reducible refine below_drewN ?_ _) | (with_reducible refine Below.drew ?_) | ((with_reducible refine bl_trans ?_ hb ?_); (focus ((first | omega | (simp <;> omega)); done))) | ((with_reducible refine bl_trans ?_ H3.out ?_); (focus ((first | omega | (simp <;> omega)); done))))); have H41 := Lib.hid (show Below w1.heap.size w1 w4 by repeat (first | (with_reducible exact Below.refl _ _) | (with_reducible assumption) | ((with_reducible refine bl_alloc ?_ _ ?_); (focus ((first | omega | (simp <;> omega)); done))) | ((with_reducible refine bl_set ?_ _ ?_); (focus ((first | omega | (simp <;> omega)); done))) | (with_reducible refine below_drewN ?_ _) | (with_reducible refine Below.drew ?_) | ((with_reducible refine bl_trans ?_ hb ?_); (focus ((first | omega | (simp <;> omega)); done))) | ((with_reducible refine bl_trans ?_ H31.out ?_); (focus ((first | omega | (simp <;> omega)); done))))); have hr4 : Hid (GRow 9 w4 w1.heap.size u3 us) := (by first | exact hr3.out.later hb | exact GRow.later (w := w3.drew) hr3.out hb); have z4 : w3.heap.size ≤ w4.heap.size := hb.size; have z5 : w1.heap.size ≤ w4.heap.size := H41.out.size)))
      all_goals
        have hr5 : Hid (GRow 9 w5 w1.heap.size (.slice (some ⟨g3, 0, none⟩) (k + 1) cap3) ((ms.take (k + 1)).map encM)) := by
          show GRow _ _ _ _ _
          rw [hst.out]
          exact gapp_row hlk hown
        have hb5 := gapp_below (by exact hr4.out.alloc_ (.cells #[.string ⟨M.toArray⟩] 9)) hgrow (by simp; omega)
        have H5 := Lib.hid (show Below w1.heap.size w1 w5 from Below.trans (by repeat (first | (with_reducible exact Below.refl _ _) | (with_reducible assumption) | ((with_reducible refine bl_alloc ?_ _ ?_); (focus ((first | omega | (simp <;> omega)); done))) | ((with_reducible refine bl_set ?_ _ ?_); (focus ((first | omega | (simp <;> omega)); done))) | (with_reducible refine below_drewN ?_ _) | (with_reducible refine Below.drew ?_) | ((with_reducible refine bl_trans ?_ H41.out ?_); (focus ((first | omega | (simp <;> omega)); done))))) hb5)
        clear hown hgrow hb5 hat hlt3 hr4 hr3 hr hrB H3 H31 H4 H41 e1 d0 d1
        go_wp2
        refine ⟨?_, ?_⟩
        · first
            | ((repeat apply Exists.intro); (refine ⟨?_, rfl⟩); exact ⟨k + 1, hlt, rfl, hr5, H5⟩)
            | exact ⟨k + 1, hlt, rfl, hr5, H5⟩
            | exact ⟨(k + 1 : Nat), hlt, rfl, hr5, H5⟩
        · first | (simp [intOf]; done) | (simp [intOf]; omega)
    · have hge : N ≤ k := by omega
      have hgI : (N : Int) ≤ (k : Int) := by omega
      have hr' : Hid (GRow 9 wr w1.heap.size u3 (ms.map encM)) := by
        have h := hr.out
        rw [List.take_of_length_le (by have := HN.out; omega)] at h
        exact h
      rcases hr'.out.forms with ⟨_, hz⟩ | ⟨g2, cap2, rfl, _, gl2, hcp, hc2, _⟩
      · exfalso
        have h := congrArg List.length hz
        rw [List.length_map, ← HN.out] at h
        simp at h
        omega
      have hL : (ms.map (fun m => (⟨(modeT m).toArray⟩ : ByteArray))).length = N := by rw [List.length_map]; exact HN.out.symm
      have hLe : (ms.map encM).length = N := by rw [List.length_map]; exact HN.out.symm
      have hJe : Lib.join ((ms.map (fun m => (⟨(modeT m).toArray⟩ : ByteArray))).map (·.data.toList)) (⟨#[44]⟩ : ByteArray).data.toList = modesK ms N := by
        have e1 : (ms.map (fun m => (⟨(modeT m).toArray⟩ : ByteArray))).map (·.data.toList) = ms.map modeT := by
          rw [List.map_map]
          apply List.map_congr_left
          intro m _
          simp
        rw [e1]
        unfold modesK
        rw [List.take_of_length_le (Nat.le_of_eq HN.out.symm)]
      have HJ : Hid (∀ W : World, Below wr.heap.size wr W → Calls Tryd.prog 55 #[.slice (some ⟨g2, 0, none⟩) N cap2, .string ⟨#[44]⟩] W fun e w' => e = .returned (.string ⟨(modesK ms N).toArray⟩) ∧ Below W.heap.size W w') := fun W hW => by
        have hJ := Tryd.strings_Join g2 0 cap2 (ms.map (fun m => (⟨(modeT m).toArray⟩ : ByteArray))) ⟨#[44]⟩ W (fun j x hj => by
          rw [List.getElem?_map, Option.map_eq_some_iff] at hj
          obtain ⟨y, hy, rfl⟩ := hj
          rw [Nat.zero_add]
          exact (hW.cell (p := ⟨g2, j, none⟩) gl2).trans (hc2 j _ (by rw [List.getElem?_map, hy]; rfl))) (Nat.lt_of_lt_of_le gl2 hW.size) (by rw [hL]; omega) (by rw [hL]; rw [hLe] at hcp; exact hcp) (by rw [hJe]; have := HML.out N (Nat.le_refl _); omega)
        rw [hL, hJe] at hJ
        exact hJ
      have hML := HML.out N (Nat.le_refl _)
      rw [← HMM.out] at HJ hML
      clear hJe hL
      have HJ2 : Hid (∀ V : World, Calls Tryd.prog 55 #[.slice (some ⟨V.heap.size, 0, none⟩) 6 6, .string ⟨#[32]⟩] (V.alloc (.cells #[.string s, .string ⟨Dp.toArray⟩, .string ⟨Df.toArray⟩, .string ⟨Dn.toArray⟩, .string ⟨Dwd.toArray⟩, .string ⟨MM.toArray⟩] 9)) fun e w' => e = .returned (.string ⟨(Lib.join [s.data.toList, Dp, Df, Dn, Dwd, MM] [32]).toArray⟩) ∧ Below (V.alloc (.cells #[.string s, .string ⟨Dp.toArray⟩, .string ⟨Df.toArray⟩, .string ⟨Dn.toArray⟩, .string ⟨Dwd.toArray⟩, .string ⟨MM.toArray⟩] 9)).heap.size (V.alloc (.cells #[.string s, .string ⟨Dp.toArray⟩, .string ⟨Df.toArray⟩, .string ⟨Dn.toArray⟩, .string ⟨Dwd.toArray⟩, .string ⟨MM.toArray⟩] 9)) w') := fun V => by
        have hJ := Tryd.strings_Join V.heap.size 0 6 [s, ⟨Dp.toArray⟩, ⟨Df.toArray⟩, ⟨Dn.toArray⟩, ⟨Dwd.toArray⟩, ⟨MM.toArray⟩] ⟨#[32]⟩ (V.alloc (.cells #[.string s, .string ⟨Dp.toArray⟩, .string ⟨Df.toArray⟩, .string ⟨Dn.toArray⟩, .string ⟨Dwd.toArray⟩, .string ⟨MM.toArray⟩] 9)) (fun j x hj => by
          rw [Nat.zero_add]
          rw [cell_of_row _ V.heap.size j _ 9 (0, 0) (heap_alloc_new V _)]
          match j, hj with
          | 0, hj => simp at hj; subst hj; rfl
          | 1, hj => simp at hj; subst hj; rfl
          | 2, hj => simp at hj; subst hj; rfl
          | 3, hj => simp at hj; subst hj; rfl
          | 4, hj => simp at hj; subst hj; rfl
          | 5, hj => simp at hj; subst hj; rfl
          | n + 6, hj => simp at hj) (by simp) (by simp) (by simp) (by rw [show (List.map (fun x => x.data.toList) [s, ⟨Dp.toArray⟩, ⟨Df.toArray⟩, ⟨Dn.toArray⟩, ⟨Dwd.toArray⟩, ⟨MM.toArray⟩] : List (List UInt8)) = [s.data.toList, Dp, Df, Dn, Dwd, MM] from by simp]; rw [show (⟨#[32]⟩ : ByteArray).data.toList = [32] from rfl, join_six]; (try simp); omega)
        rw [show (List.map (fun x => x.data.toList) [s, ⟨Dp.toArray⟩, ⟨Df.toArray⟩, ⟨Dn.toArray⟩, ⟨Dwd.toArray⟩, ⟨MM.toArray⟩] : List (List UInt8)) = [s.data.toList, Dp, Df, Dn, Dwd, MM] from by simp, show (⟨#[32]⟩ : ByteArray).data.toList = [32] from rfl] at hJ
        exact hJ
      rw [← HRR.out] at HJ2
      rw [hLe]
      clear hLe hc2 hcp hr hr' hk hs10 up uf un uwd hML
      have x0 := (hbw.out.cell (p := ⟨w.heap.size, 0, none⟩) z1).trans X0.out
      have x1 := (hbw.out.cell (p := ⟨w.heap.size, 1, none⟩) z1).trans X1.out
      have x2 := (hbw.out.cell (p := ⟨w.heap.size, 2, none⟩) z1).trans X2.out
      have x3 := (hbw.out.cell (p := ⟨w.heap.size, 3, none⟩) z1).trans X3.out
      have x4 := (hbw.out.cell (p := ⟨w.heap.size, 4, none⟩) z1).trans X4.out
      go_wp2_with fail
      go_region_held3 (fun w' => w'.cell? ⟨w.heap.size, 0, none⟩ = some (.string s) ∧ w'.cell? ⟨w.heap.size, 1, none⟩ = some (.int .i64 p) ∧ w'.cell? ⟨w.heap.size, 2, none⟩ = some (.int .i64 f) ∧ w'.cell? ⟨w.heap.size, 3, none⟩ = some (.int .i64 n) ∧ w'.cell? ⟨w.heap.size, 4, none⟩ = some (.int .i64 wd))
        (((try go_split_ands); (refine ⟨?_, ?_, ?_, ?_, ?_⟩ <;> (repeat (first | (with_reducible assumption) | (with_reducible refine cell_drew ?_) | (with_reducible refine cell_drewN ?_) | (with_reducible refine cell_alloc ?_ _) | (with_reducible refine keeps hb3 ?_) | (with_reducible refine keeps hb4 ?_) | (with_reducible refine keeps hb5 ?_) | (with_reducible refine keeps hb6 ?_) | (with_reducible refine keeps hb7 ?_) | (with_reducible refine keeps hb8 ?_) | fail)))))
        (first
          | (go_at_call 52; ((with_reducible refine (HCp.out _ (by repeat (first | (with_reducible exact Below.refl _ _) | (with_reducible assumption) | ((with_reducible refine bl_alloc ?_ _ ?_); (focus ((first | omega | (simp <;> omega)); done))) | ((with_reducible refine bl_set ?_ _ ?_); (focus ((first | omega | (simp <;> omega)); done))) | (with_reducible refine below_drewN ?_ _) | (with_reducible refine Below.drew ?_) | ((with_reducible refine bl_trans ?_ HBW.out ?_); (focus ((first | omega | (simp <;> omega)); done)))))).mono ?_); rintro e w3 ⟨rfl, hb3⟩; have H3 := Lib.hid (show Below w.heap.size w w3 by repeat (first | (with_reducible exact Below.refl _ _) | (with_reducible assumption) | ((with_reducible refine bl_alloc ?_ _ ?_); (focus ((first | omega | (simp <;> omega)); done))) | ((with_reducible refine bl_set ?_ _ ?_); (focus ((first | omega | (simp <;> omega)); done))) | (with_reducible refine below_drewN ?_ _) | (with_reducible refine Below.drew ?_) | ((with_reducible refine bl_trans ?_ hb3 ?_); (focus ((first | omega | (simp <;> omega)); done))) | ((with_reducible refine bl_trans ?_ HBW.out ?_); (focus ((first | omega | (simp <;> omega)); done))))); have HR3 := Lib.hid (show Below wr.heap.size wr w3 by repeat (first | (with_reducible exact Below.refl _ _) | (with_reducible assumption) | ((with_reducible refine bl_alloc ?_ _ ?_); (focus ((first | omega | (simp <;> omega)); done))) | ((with_reducible refine bl_set ?_ _ ?_); (focus ((first | omega | (simp <;> omega)); done))) | (with_reducible refine below_drewN ?_ _) | (with_reducible refine Below.drew ?_) | ((with_reducible refine bl_trans ?_ hb3 ?_); (focus ((first | omega | (simp <;> omega)); done))))); have zq3 := H3.out.size; have zr3 := HR3.out.size))
          | (go_at_call 52; ((with_reducible refine (HCf.out _ (by repeat (first | (with_reducible exact Below.refl _ _) | (with_reducible assumption) | ((with_reducible refine bl_alloc ?_ _ ?_); (focus ((first | omega | (simp <;> omega)); done))) | ((with_reducible refine bl_set ?_ _ ?_); (focus ((first | omega | (simp <;> omega)); done))) | (with_reducible refine below_drewN ?_ _) | (with_reducible refine Below.drew ?_) | ((with_reducible refine bl_trans ?_ H3.out ?_); (focus ((first | omega | (simp <;> omega)); done)))))).mono ?_); rintro e w4 ⟨rfl, hb4⟩; have H4 := Lib.hid (show Below w.heap.size w w4 by repeat (first | (with_reducible exact Below.refl _ _) | (with_reducible assumption) | ((with_reducible refine bl_alloc ?_ _ ?_); (focus ((first | omega | (simp <;> omega)); done))) | ((with_reducible refine bl_set ?_ _ ?_); (focus ((first | omega | (simp <;> omega)); done))) | (with_reducible refine below_drewN ?_ _) | (with_reducible refine Below.drew ?_) | ((with_reducible refine bl_trans ?_ hb4 ?_); (focus ((first | omega | (simp <;> omega)); done))) | ((with_reducible refine bl_trans ?_ H3.out ?_); (focus ((first | omega | (simp <;> omega)); done))))); have HR4 := Lib.hid (show Below wr.heap.size wr w4 by repeat (first | (with_reducible exact Below.refl _ _) | (with_reducible assumption) | ((with_reducible refine bl_alloc ?_ _ ?_); (focus ((first | omega | (simp <;> omega)); done))) | ((with_reducible refine bl_set ?_ _ ?_); (focus ((first | omega | (simp <;> omega)); done))) | (with_reducible refine below_drewN ?_ _) | (with_reducible refine Below.drew ?_) | ((with_reducible refine bl_trans ?_ hb4 ?_); (focus ((first | omega | (simp <;> omega)); done))) | ((with_reducible refine bl_trans ?_ HR3.out ?_); (focus ((first | omega | (simp <;> omega)); done))))); have zq4 := H4.out.size; have zr4 := HR4.out.size))
          | (go_at_call 52; ((with_reducible refine (HCn.out _ (by repeat (first | (with_reducible exact Below.refl _ _) | (with_reducible assumption) | ((with_reducible refine bl_alloc ?_ _ ?_); (focus ((first | omega | (simp <;> omega)); done))) | ((with_reducible refine bl_set ?_ _ ?_); (focus ((first | omega | (simp <;> omega)); done))) | (with_reducible refine below_drewN ?_ _) | (with_reducible refine Below.drew ?_) | ((with_reducible refine bl_trans ?_ H4.out ?_); (focus ((first | omega | (simp <;> omega)); done)))))).mono ?_); rintro e w5 ⟨rfl, hb5⟩; have H5 := Lib.hid (show Below w.heap.size w w5 by repeat (first | (with_reducible exact Below.refl _ _) | (with_reducible assumption) | ((with_reducible refine bl_alloc ?_ _ ?_); (focus ((first | omega | (simp <;> omega)); done))) | ((with_reducible refine bl_set ?_ _ ?_); (focus ((first | omega | (simp <;> omega)); done))) | (with_reducible refine below_drewN ?_ _) | (with_reducible refine Below.drew ?_) | ((with_reducible refine bl_trans ?_ hb5 ?_); (focus ((first | omega | (simp <;> omega)); done))) | ((with_reducible refine bl_trans ?_ H4.out ?_); (focus ((first | omega | (simp <;> omega)); done))))); have HR5 := Lib.hid (show Below wr.heap.size wr w5 by repeat (first | (with_reducible exact Below.refl _ _) | (with_reducible assumption) | ((with_reducible refine bl_alloc ?_ _ ?_); (focus ((first | omega | (simp <;> omega)); done))) | ((with_reducible refine bl_set ?_ _ ?_); (focus ((first | omega | (simp <;> omega)); done))) | (with_reducible refine below_drewN ?_ _) | (with_reducible refine Below.drew ?_) | ((with_reducible refine bl_trans ?_ hb5 ?_); (focus ((first | omega | (simp <;> omega)); done))) | ((with_reducible refine bl_trans ?_ HR4.out ?_); (focus ((first | omega | (simp <;> omega)); done))))); have zq5 := H5.out.size; have zr5 := HR5.out.size))
          | (go_at_call 52; ((with_reducible refine (HCwd.out _ (by repeat (first | (with_reducible exact Below.refl _ _) | (with_reducible assumption) | ((with_reducible refine bl_alloc ?_ _ ?_); (focus ((first | omega | (simp <;> omega)); done))) | ((with_reducible refine bl_set ?_ _ ?_); (focus ((first | omega | (simp <;> omega)); done))) | (with_reducible refine below_drewN ?_ _) | (with_reducible refine Below.drew ?_) | ((with_reducible refine bl_trans ?_ H5.out ?_); (focus ((first | omega | (simp <;> omega)); done)))))).mono ?_); rintro e w6 ⟨rfl, hb6⟩; have H6 := Lib.hid (show Below w.heap.size w w6 by repeat (first | (with_reducible exact Below.refl _ _) | (with_reducible assumption) | ((with_reducible refine bl_alloc ?_ _ ?_); (focus ((first | omega | (simp <;> omega)); done))) | ((with_reducible refine bl_set ?_ _ ?_); (focus ((first | omega | (simp <;> omega)); done))) | (with_reducible refine below_drewN ?_ _) | (with_reducible refine Below.drew ?_) | ((with_reducible refine bl_trans ?_ hb6 ?_); (focus ((first | omega | (simp <;> omega)); done))) | ((with_reducible refine bl_trans ?_ H5.out ?_); (focus ((first | omega | (simp <;> omega)); done))))); have HR6 := Lib.hid (show Below wr.heap.size wr w6 by repeat (first | (with_reducible exact Below.refl _ _) | (with_reducible assumption) | ((with_reducible refine bl_alloc ?_ _ ?_); (focus ((first | omega | (simp <;> omega)); done))) | ((with_reducible refine bl_set ?_ _ ?_); (focus ((first | omega | (simp <;> omega)); done))) | (with_reducible refine below_drewN ?_ _) | (with_reducible refine Below.drew ?_) | ((with_reducible refine bl_trans ?_ hb6 ?_); (focus ((first | omega | (simp <;> omega)); done))) | ((with_reducible refine bl_trans ?_ HR5.out ?_); (focus ((first | omega | (simp <;> omega)); done))))); have zq6 := H6.out.size; have zr6 := HR6.out.size))
          | (go_at_call 55; ((with_reducible refine (HJ.out _ (by repeat (first | (with_reducible exact Below.refl _ _) | (with_reducible assumption) | ((with_reducible refine bl_alloc ?_ _ ?_); (focus ((first | omega | (simp <;> omega)); done))) | ((with_reducible refine bl_set ?_ _ ?_); (focus ((first | omega | (simp <;> omega)); done))) | (with_reducible refine below_drewN ?_ _) | (with_reducible refine Below.drew ?_) | ((with_reducible refine bl_trans ?_ HR6.out ?_); (focus ((first | omega | (simp <;> omega)); done)))))).mono ?_); rintro e w7 ⟨rfl, hb7⟩; have H7 := Lib.hid (show Below w.heap.size w w7 by repeat (first | (with_reducible exact Below.refl _ _) | (with_reducible assumption) | ((with_reducible refine bl_alloc ?_ _ ?_); (focus ((first | omega | (simp <;> omega)); done))) | ((with_reducible refine bl_set ?_ _ ?_); (focus ((first | omega | (simp <;> omega)); done))) | (with_reducible refine below_drewN ?_ _) | (with_reducible refine Below.drew ?_) | ((with_reducible refine bl_trans ?_ hb7 ?_); (focus ((first | omega | (simp <;> omega)); done))) | ((with_reducible refine bl_trans ?_ H6.out ?_); (focus ((first | omega | (simp <;> omega)); done))))); have z7 := H7.out.size))
          | (go_at_call 55; ((with_reducible refine (HJ2.out w7).mono ?_); rintro e w8 ⟨rfl, hb8⟩; have H8 := Lib.hid (show Below w.heap.size w w8 from (bl_alloc z7 _ H7.out).trans (hb8.mono (by simp; omega))))))
      go_wp2_with fail
      go_ret
      exact ⟨rfl, H8.out⟩
end Go.Proofs.YtampjgfddakdoaaDoor.ofRadioText
