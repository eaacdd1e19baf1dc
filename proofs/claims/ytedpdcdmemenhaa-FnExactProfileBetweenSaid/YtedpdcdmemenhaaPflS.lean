/-
  The heights of a profile: the reference's. The conditions are the hypotheses.
-/
import Derived.Test.YtedpdcdmemenhaaRows
import Derived.Test.YtedpdcdmemenhaaLib
import Derived.Test.YtedpdcdmemenhaaInt
import Derived.Test.YtedpdcdmemenhaaWithin
import Derived.Test.YtedpdcdmemenhaaAll
import Derived.Test.YtedpdcdmemenhaaArgs
import Derived.Test.YtedpdcdmemenhaaOwn
import Derived.Test.YtedpdcdmemenhaaField
import Derived.Test.YtedpdcdmemenhaaModes
import Derived.Test.YtedpdcdmemenhaaTer
import Derived.Test.YtedpdcdmemenhaaHgtP
import Derived.Test.YtedpdcdmemenhaaHgtS
import Derived.Test.YtedpdcdmemenhaaPlaP
import Derived.Test.YtedpdcdmemenhaaPlaS
import Derived.Shelf.Abstract
import Derived.OwnWalk
import Derived.Deep.AppendLies
import Derived.Deep.RegionLaw
import Derived.Outline
import Derived.Deep.DeepCutAuto
import Derived.Deep.QuietTactic
import Derived.BigQuiet
import Derived.Deep.RegionHeld3
import Derived.Deep.DrawnRows
namespace Go.Proofs.Ytedpdcdmemenhaa
open Go.RowKit
set_option linter.unusedSimpArgs false
set_option linter.unusedVariables false
attribute [local go_sem ↓] Go.wp_at_zero Go.wp_at_succ
def profH (st wd ht : Int) (hs : List Int) (x y s t : Int) : List Int := (List.range 17).map fun k => heightB st wd ht hs (plK x y s t k).1 (plK x y s t k).2
theorem profH_len (st wd ht : Int) (hs : List Int) (x y s t : Int) : (profH st wd ht hs x y s t).length = 17 := by simp [profH]
theorem profH_take {st wd ht : Int} {hs : List Int} {x y s t : Int} {k : Nat} (h : k < 17) : (profH st wd ht hs x y s t).take (k + 1) = (profH st wd ht hs x y s t).take k ++ [heightB st wd ht hs (plK x y s t k).1 (plK x y s t k).2] := by
  rw [List.take_add_one]
  congr 1
  simp [profH, h]
theorem in_grid {st wd ht x y : Int} (hz : sizeB st wd ht = true) (x0 : 0 ≤ x) (x1 : x ≤ (wd - 1) * st) (y0 : 0 ≤ y) (y1 : y ≤ (ht - 1) * st) : x ≤ 200000 ∧ y ≤ 200000 := by
  obtain ⟨_, _, _, q1, q2⟩ := size_parts hz
  omega
set_option maxRecDepth 20000 in
set_option maxHeartbeats 8000000 in
theorem l04Profile_any (w : World) (o : Nat) (st wd ht x y s t : Int) (v : Value) (hs : List Int) (p : Nat) (hr : Row 2 w p v hs) (hz : sizeB st wd ht = true) (hl : (hs.length : Int) = wd * ht) (hb : ∀ k, k < hs.length → 0 ≤ hs.getD k 0 ∧ hs.getD k 0 ≤ 90000) (x0 : 0 ≤ x) (x1 : x ≤ (wd - 1) * st) (y0 : 0 ≤ y) (y1 : y ≤ (ht - 1) * st) (s0 : 0 ≤ s) (s1 : s ≤ (wd - 1) * st) (t0 : 0 ≤ t) (t1 : t ≤ (ht - 1) * st) (c0 : w.cell? ⟨o, 0, none⟩ = some (.int .i64 st)) (c1 : w.cell? ⟨o, 1, none⟩ = some (.int .i64 wd)) (c2 : w.cell? ⟨o, 2, none⟩ = some (.int .i64 ht)) (c3 : w.cell? ⟨o, 3, none⟩ = some (v)) :
    Calls Try.prog 108 #[.pointer (some ⟨o, 0, none⟩), .agg #[.int .i64 x, .int .i64 y], .agg #[.int .i64 s, .int .i64 t], .int .i64 17] w fun e w' => ∃ g c, e = .returned (.slice (some ⟨g, 0, none⟩) 17 c) ∧ Row 2 w' w.heap.size (.slice (some ⟨g, 0, none⟩) 17 c) (profH st wd ht hs x y s t) ∧ Below w.heap.size w w' := by
  obtain ⟨gx, gy⟩ := in_grid hz x0 x1 y0 y1
  obtain ⟨gs, gt⟩ := in_grid hz s0 s1 t0 t1
  have HPL : Hid (∀ W : World, Calls Try.prog 131 #[.agg #[.int .i64 x, .int .i64 y], .agg #[.int .i64 s, .int .i64 t], .int .i64 17] W fun e w' => ∃ g c, e = .returned (.slice (some ⟨g, 0, none⟩) 17 c) ∧ RowM 64 w' W.heap.size (.slice (some ⟨g, 0, none⟩) 17 c) (placesL x y s t) ∧ Below W.heap.size W w') := fun W => l04Places_any W x y s t x0 gx y0 gy s0 gs t0 gt
  have HC : Hid (∀ (W : World) (k : Nat), Below w.heap.size w W → k < 17 → Calls Try.prog 98 #[.pointer (some ⟨o, 0, none⟩), .agg #[.int .i64 (plK x y s t k).1, .int .i64 (plK x y s t k).2]] W fun e w' => e = .returned (.int .i64 (heightB st wd ht hs (plK x y s t k).1 (plK x y s t k).2)) ∧ Below W.heap.size W w') := fun W k hW hk => by
    obtain ⟨⟨a0, a1⟩, b0, b1⟩ := plK_bd (k := k) x0 x1 y0 y1 s0 s1 t0 t1 hk
    exact l04HeightAt_any W o st wd ht _ _ v hs p (hr.later hW) hz hl hb a0 a1 b0 b1 (keeps hW c0) (keeps hW c1) (keeps hW c2) (keeps hW c3)
  have HTK := Lib.hid (fun k (h : k < 17) => profH_take (st := st) (wd := wd) (ht := ht) (hs := hs) (x := x) (y := y) (s := s) (t := t) h)
  have HLEN := Lib.hid (profH_len st wd ht hs x y s t)
  have HPA := Lib.hid (fun k (h : k < 17) => places_at (x := x) (y := y) (s := s) (t := t) h)
  have HPN := Lib.hid (places_len x y s t)
  clear hr hz hl hb x0 x1 y0 y1 s0 s1 t0 t1 c0 c1 c2 c3 gx gy gs gt
  obtain ⟨PH, hPH⟩ : ∃ P, P = profH st wd ht hs x y s t := ⟨_, rfl⟩
  rw [← hPH] at HTK HLEN ⊢
  clear hPH
  obtain ⟨i0, hi, hz0, hz1, hz2⟩ := info_parts Try.info_i64
  have HI := Lib.hid hi
  have HZ0 := Lib.hid hz0
  have HZ1 := Lib.hid hz1
  have HZ2 := Lib.hid hz2
  clear hi hz0 hz1 hz2
  go_enter Try.func108, Try.ntmps108
  go_wp2_with fail
  refine (HPL.out _).mono ?_
  rintro e w1 ⟨g, c, rfl, hrow, hb1⟩
  have H1 := Lib.hid (show Below w.heap.size w w1 by repeat (first | (with_reducible exact Below.refl _ _) | (with_reducible assumption) | ((with_reducible refine bl_alloc ?_ _ ?_); (focus ((first | omega | (simp <;> omega)); done))) | ((with_reducible refine bl_set ?_ _ ?_); (focus ((first | omega | (simp <;> omega)); done))) | (with_reducible refine below_drewN ?_ _) | (with_reducible refine Below.drew ?_) | ((with_reducible refine bl_trans ?_ hb1 ?_); (focus ((first | omega | (simp <;> omega)); done)))))
  have gl := (hrow.lt g rfl).2
  have HCELL := Lib.hid hrow.at_.1
  have z1 := H1.out.size
  clear hrow hb1 HPL
  go_wp2_with fail
  go_loopw [10, 11] (fun a i wr => ∃ k : Nat, k ≤ 17 ∧ i = .int .i64 (k : Int) ∧ Hid (Row 2 wr w1.heap.size a (PH.take k)) ∧ Hid (Below w1.heap.size w1 wr)) (fun _ i _ => 17 + 1 - (intOf i).toNat)
  case atStart => exact ⟨0, Nat.zero_le _, rfl, (show Row _ _ _ _ _ from app_row0 w1 (Nat.le_refl _)), (show Below _ _ _ by repeat (first | (with_reducible exact Below.refl _ _) | (with_reducible assumption) | ((with_reducible refine bl_alloc ?_ _ ?_); (focus ((first | omega | (simp <;> omega)); done))) | ((with_reducible refine bl_set ?_ _ ?_); (focus ((first | omega | (simp <;> omega)); done))) | (with_reducible refine below_drewN ?_ _) | (with_reducible refine Below.drew ?_)))⟩
  case round =>
    obtain ⟨k, hk, rfl, hr, hb⟩ := hrel
    have k0 : (0 : Int) ≤ (k : Int) := Int.natCast_nonneg _
    have zw := hb.out.size
    by_cases hlt : k < 17
    · have hlt' : (k : Int) < 17 := by omega
      obtain ⟨q1, q2⟩ := HCELL.out k (by rw [HPN.out]; exact hlt)
      rw [HPA.out k hlt] at q1 q2
      have q1 := (hb.out.cell (p := ⟨g, k * 2, none⟩) gl).trans q1
      have q2 := (hb.out.cell (p := ⟨g, k * 2 + 1, none⟩) gl).trans q2
      have HCk : Hid (∀ W : World, Below w.heap.size w W → Calls Try.prog 98 #[.pointer (some ⟨o, 0, none⟩), .agg #[.int .i64 (plK x y s t k).1, .int .i64 (plK x y s t k).2]] W fun e w' => e = .returned (.int .i64 (heightB st wd ht hs (plK x y s t k).1 (plK x y s t k).2)) ∧ Below W.heap.size W w') := fun W hW => HC.out W k hW hlt
      have hst := Lib.hid (HTK.out k hlt)
      obtain ⟨K, hK⟩ : ∃ K, K = heightB st wd ht hs (plK x y s t k).1 (plK x y s t k).2 := ⟨_, rfl⟩
      rw [← hK] at HCk hst
      clear hK
      obtain ⟨PX, hPX⟩ : ∃ K, K = (plK x y s t k).1 := ⟨_, rfl⟩
      obtain ⟨PY, hPY⟩ : ∃ K, K = (plK x y s t k).2 := ⟨_, rfl⟩
      rw [← hPX] at HCk q1
      rw [← hPY] at HCk q2
      clear hPX hPY
      have hlen : (PH.take k).length = k := by rw [List.length_take, HLEN.out]; omega
      obtain ⟨ys, hy⟩ : ∃ ys, ys = PH.take k := ⟨_, rfl⟩
      rw [← hy] at hr hlen hst
      clear hy
      have HLE := Lib.hid (show k + 1 ≤ 17 by omega)
      go_wp2_with fail
      refine (HCk.out _ (by repeat (first | (with_reducible exact Below.refl _ _) | (with_reducible assumption) | ((with_reducible refine bl_alloc ?_ _ ?_); (focus ((first | omega | (simp <;> omega)); done))) | ((with_reducible refine bl_set ?_ _ ?_); (focus ((first | omega | (simp <;> omega)); done))) | (with_reducible refine below_drewN ?_ _) | (with_reducible refine Below.drew ?_) | ((with_reducible refine bl_trans ?_ hb.out ?_); (focus ((first | omega | (simp <;> omega)); done))) | ((with_reducible refine bl_trans ?_ H1.out ?_); (focus ((first | omega | (simp <;> omega)); done)))))).mono ?_
      rintro e w2 ⟨rfl, hb2⟩
      have hr2 := Lib.hid (hr.out.later hb2)
      have H2 := Lib.hid (hb.out.trans (hb2.mono hb.out.size))
      have z2 := H2.out.size
      clear hb2 hr q1 q2
      go_wp2_with (first | (at_builtin; refine wpList_append_own _ rfl _ _ 22 rfl w1.heap.size 2 i0 (.int .i64 0) 1 8 Try.underlying22 HI.out HZ0.out HZ1.out HZ2.out rfl (by decide) _ _ _ rfl (hr2.out.alloc_ _) ⟨w2.heap.size, 0, none⟩ 1 1 [.int .i64 K] rfl rfl ?c1 ?c2 ?c3 ?c4 ?c5 ?_))
      case c1 =>
        intro j u hj
        match j, hj with
        | 0, hj => simp at hj; subst hj; simp [Addr.add]
      case c2 => intro u hu; simp at hu; subst hu; rfl
      case c3 => unfold maxLen; omega
      case c4 => omega
      case c5 => simp; omega
      · intro v' w3 hown hgrow _
        have hr3 : Hid (Row 2 w3 w1.heap.size v' (PH.take (k + 1))) := by
          show Row _ _ _ _ _
          rw [hst.out]
          exact app_row (by first | exact hlen | rfl) hown
        have hb3 := app_below (hr2.out.alloc_ _) hgrow (by simp; omega)
        have H3 := Lib.hid (show Below w1.heap.size w1 w3 from (bl_alloc z2 _ H2.out).trans hb3)
        clear hown hgrow hb3 hr2
        go_wp2_with fail
        refine ⟨?_, ?_⟩
        · first
            | ((repeat apply Exists.intro); (refine ⟨?_, rfl⟩); exact ⟨(k + 1 : Nat), HLE.out, by go_num, hr3, H3⟩)
            | exact ⟨(k + 1 : Nat), HLE.out, by go_num, hr3, H3⟩
        · simp [intOf]; omega
    · have hk' : k = 17 := by omega
      subst hk'
      have hfull : Hid (Row 2 wr w1.heap.size u10 PH) := by
        have h := hr.out
        rw [List.take_of_length_le (by rw [HLEN.out]; exact Nat.le_refl _)] at h
        exact h
      clear hr HTK
      rcases hfull.out.forms with ⟨_, hz⟩ | ⟨g2, cap, rfl, gB, gl2, gc, gf⟩
      · exfalso; have h := HLEN.out; rw [hz] at h; simp at h
      clear gc gf
      rw [HLEN.out] at hfull ⊢
      go_wp2_with fail
      go_ret
      exact ⟨_, _, rfl, Row.base_le hfull.out z1, by repeat (first | (with_reducible exact Below.refl _ _) | (with_reducible assumption) | ((with_reducible refine bl_alloc ?_ _ ?_); (focus ((first | omega | (simp <;> omega)); done))) | ((with_reducible refine bl_set ?_ _ ?_); (focus ((first | omega | (simp <;> omega)); done))) | (with_reducible refine below_drewN ?_ _) | (with_reducible refine Below.drew ?_) | ((with_reducible refine bl_trans ?_ hb.out ?_); (focus ((first | omega | (simp <;> omega)); done))) | ((with_reducible refine bl_trans ?_ H1.out ?_); (focus ((first | omega | (simp <;> omega)); done))))⟩
end Go.Proofs.Ytedpdcdmemenhaa
