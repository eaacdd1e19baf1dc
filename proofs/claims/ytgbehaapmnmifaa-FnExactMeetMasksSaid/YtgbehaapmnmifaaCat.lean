/-
  Two rows in one: the library's Grow and Concat. The conditions are the hypotheses.
-/
import Derived.Test.YtgbehaapmnmifaaRows
import Derived.Test.YtgbehaapmnmifaaLib
import Derived.Test.YtgbehaapmnmifaaInts
import Derived.Test.YtgbehaapmnmifaaOwn
import Derived.Shelf.Abstract
import Derived.OwnWalk
import Derived.Lib.AppendZeros
import Derived.Outline
import Derived.Deep.DeepCutAuto
import Derived.Deep.QuietTactic
import Derived.BigQuiet
import Derived.Deep.RegionHeld3
import Derived.Deep.DrawnRows
namespace Go.Proofs.Ytgbehaapmnmifaa
open Go.RowKit
set_option linter.unusedSimpArgs false
set_option linter.unusedVariables false
attribute [local go_sem ↓] Go.wp_at_zero Go.wp_at_succ
theorem Try.under_int : Try.prog.underlying 3 = some (.int .i64) := by kernel_rfl
set_option maxRecDepth 20000 in
set_option maxHeartbeats 4000000 in
theorem grow_any (w : World) (n : Nat) (h0 : 0 < n) (h1 : n ≤ 1000) :
    Calls Try.prog 31 #[.slice none 0 0, .int .i64 n] w fun e w' => ∃ A c, e = .returned (.slice A 0 c) ∧ Row 2 w' w.heap.size (.slice A 0 c) [] ∧ Below w.heap.size w w' := by
  obtain ⟨i0, hi, hz0, hz1, hz2⟩ := info_parts Try.info_i64
  have g1 : ¬ ((n : Int) < 0) := by omega
  have g4 : (n : Int) > 0 := by omega
  have hrz := fun ty => Lib.run_append_nil_zeros w 22 3 ty 2 i0 (.int .i64 0) .i64 .i64 Try.underlying22 Try.under_int hi hz0 n h0 (by rw [hz1]; decide) (by omega) (by rw [hz2]; omega)
  obtain ⟨G, hG⟩ : ∃ G, G = grownCap w n 0 2 := ⟨_, rfl⟩
  have HM : G ≤ maxLen := by rw [hG]; exact grownCap_le_maxLen w _ _ _ (by unfold maxLen; omega)
  have HN : n ≤ G := by rw [hG]; exact grownCap_ge w _ _ _
  rw [← hG] at hrz
  clear hi hz0 hz1 hz2 hG
  go_enter Try.func31, Try.ntmps31
  go_wp2_with (at_builtin; refine Lib.wpList_append_run _ rfl _ _ _ _ rfl _ _ rfl rfl _ _ (hrz _) ?_)
  go_ret
  refine ⟨_, _, rfl, ?_, ?_⟩
  · exact World.ownsRow_made w _ G (Nat.le_refl _) HM (by rw [Array.size_append, size_zeroCells, size_zeroCells, Nat.mul_one]; simp; omega)
  · exact below_drewN1 (bl_alloc (Nat.le_refl _) _ (Below.refl _ _))
theorem row_at {e : TypeId} {w : World} {p g N ca : Nat} {xs : List Int} (h : Row e w p (.slice (some ⟨g, 0, none⟩) N ca) xs) : xs.length = N ∧ g < w.heap.size ∧ ∀ k, k < N → w.cell? ⟨g, k, none⟩ = some (.int .i64 (xs.getD k 0)) := by
  rcases h.forms with ⟨hv, _⟩ | ⟨g', cap', hv, _, gl, hc, _⟩
  · simp at hv
  · simp at hv
    obtain ⟨rfl, rfl, rfl⟩ := hv
    exact ⟨rfl, gl, hc⟩
set_option maxRecDepth 20000 in
set_option maxHeartbeats 8000000 in
theorem concat_any (w : World) (g h p q ca cb cc N M T : Nat) (xs ys : List Int) (hx : Row 2 w p (.slice (some ⟨g, 0, none⟩) N ca) xs) (hy : Row 2 w q (.slice (some ⟨h, 0, none⟩) M cb) ys)
    (c0 : w.cell? ⟨T, 0, none⟩ = some (.slice (some ⟨g, 0, none⟩) N ca)) (c1 : w.cell? ⟨T, 1, none⟩ = some (.slice (some ⟨h, 0, none⟩) M cb)) (hT : T < w.heap.size) (h0 : 0 < N) (h1 : N ≤ 100) (k0 : 0 < M) (k1 : M ≤ 100) :
    Calls Try.prog 19 #[.slice (some ⟨T, 0, none⟩) 2 cc] w fun e w' => ∃ A c, e = .returned (.slice A (N + M) c) ∧ Row 2 w' w.heap.size (.slice A (N + M) c) (xs ++ ys) ∧ Below w.heap.size w w' := by
  have HX := Lib.hid (row_at hx)
  have HY := Lib.hid (row_at hy)
  have lx : Hid (xs.length = N) := HX.out.1
  have ly : Hid (ys.length = M) := HY.out.1
  clear hx hy
  obtain ⟨i0, hi, hz0, hz1, hz2⟩ := info_parts Try.info_i64
  have HI := Lib.hid hi
  have HZ0 := Lib.hid hz0
  have HZ1 := Lib.hid hz1
  have HZ2 := Lib.hid hz2
  clear hi hz0 hz1 hz2
  go_enter Try.func19, Try.ntmps19
  go_wp2_with fail
  go_loopw [3, 5, 11] (fun s _ i wr => wr = w ∧ ((i = .int .i64 0 ∧ s = .int .i64 0) ∨ (i = .int .i64 1 ∧ s = .int .i64 (N : Int)) ∨ (i = .int .i64 2 ∧ s = .int .i64 ((N : Int) + M)))) (fun _ _ i _ => 3 - (intOf i).toNat)
  case atStart => exact ⟨rfl, .inl ⟨rfl, rfl⟩⟩
  case round =>
    obtain ⟨hwr, hrel⟩ := hrel
    obtain rfl := hwr.symm
    rcases hrel with ⟨rfl, rfl⟩ | ⟨rfl, rfl⟩ | ⟨rfl, rfl⟩
    · go_wp2_with fail
      exact ⟨⟨trivial, .inr (.inl ⟨rfl, rfl⟩)⟩, by simp [intOf]⟩
    · go_wp2_with fail
      exact ⟨⟨trivial, .inr (.inr ⟨rfl, rfl⟩)⟩, by simp [intOf]⟩
    · have HG := grow_any w (N + M) (by omega) (by omega)
      rw [Int.natCast_add] at HG
      go_wp2_with (first | (go_at_call 31; (with_reducible refine HG.mono ?_); rintro e w1 ⟨A, c, rfl, hr0, hb⟩; have R0 := Lib.hid hr0; have HB := Lib.hid hb; clear hr0 hb HG))
      go_loopw [6, 8, 27] (fun s _ i wr => Hid (Below w.heap.size w wr) ∧ ((i = .int .i64 0 ∧ Hid (Row 2 wr w.heap.size s [])) ∨ (i = .int .i64 1 ∧ Hid (Row 2 wr w.heap.size s xs)) ∨ (i = .int .i64 2 ∧ Hid (Row 2 wr w.heap.size s (xs ++ ys))))) (fun _ _ i _ => 3 - (intOf i).toNat)
      case atStart => exact ⟨HB, .inl ⟨rfl, R0⟩⟩
      case round =>
        obtain ⟨HB2, hrel⟩ := hrel
        clear R0 HB
        rcases hrel with ⟨rfl, R0⟩ | ⟨rfl, R0⟩ | ⟨rfl, R0⟩
        · have d0 := (HB2.out.cell (p := ⟨T, 0, none⟩) hT).trans c0
          have NW := Lib.hid (news_row lx.out.symm (fun k hk => (HB2.out.cell (p := ⟨g, k, none⟩) HX.out.2.1).trans (HX.out.2.2 k hk)))
          have zw := HB2.out.size
          go_wp2_with (first | (at_builtin; refine wpList_append_own _ rfl _ _ 22 rfl w.heap.size 2 i0 (.int .i64 0) 1 8 Try.underlying22 HI.out HZ0.out HZ1.out HZ2.out rfl (by decide) _ 0 (([] : List Int).map (Value.int .i64)) rfl R0.out ⟨g, 0, none⟩ N ca (xs.map (Value.int .i64)) rfl (by rw [List.length_map, lx.out, Nat.mul_one]) NW.out (news_one xs) ?c30 ?c40 ?c50 ?_))
          try case c30 => unfold maxLen; (try simp); omega
          try case c40 => (try simp); omega
          try case c50 => first | omega | (simp; omega)
          intro v' w3 hown hgrow _
          have hr3 : Hid (Row 2 w3 w.heap.size v' xs) := app_all (n := N) lx.out.symm (by simpa using hown)
          have hb3 := app_below R0.out hgrow zw
          have H3 := Lib.hid (show Below w.heap.size w w3 from HB2.out.trans hb3)
          clear hown hgrow hb3
          go_wp2_with fail
          exact ⟨⟨H3, .inr (.inl ⟨rfl, hr3⟩)⟩, by simp [intOf]⟩
        · have R1 : Hid ((wr.ownsRow w.heap.size 2 1 u6 N (xs.map (Value.int .i64)))) := by have := R0.out; unfold Row at this; rw [lx.out] at this; exact this
          have d1 := (HB2.out.cell (p := ⟨T, 1, none⟩) hT).trans c1
          have NW := Lib.hid (news_row ly.out.symm (fun k hk => (HB2.out.cell (p := ⟨h, k, none⟩) HY.out.2.1).trans (HY.out.2.2 k hk)))
          have zw := HB2.out.size
          go_wp2_with (first | (at_builtin; refine wpList_append_own _ rfl _ _ 22 rfl w.heap.size 2 i0 (.int .i64 0) 1 8 Try.underlying22 HI.out HZ0.out HZ1.out HZ2.out rfl (by decide) _ N (xs.map (Value.int .i64)) rfl R1.out ⟨h, 0, none⟩ M cb (ys.map (Value.int .i64)) rfl (by rw [List.length_map, ly.out, Nat.mul_one]) NW.out (news_one ys) ?c31 ?c41 ?c51 ?_))
          try case c31 => unfold maxLen; (try simp); omega
          try case c41 => (try simp); omega
          try case c51 => first | omega | (simp; omega)
          intro v' w3 hown hgrow _
          have hr3 : Hid (Row 2 w3 w.heap.size v' (xs ++ ys)) := app_rows lx.out ly.out.symm hown
          have hb3 := app_below R0.out hgrow zw
          have H3 := Lib.hid (show Below w.heap.size w w3 from HB2.out.trans hb3)
          clear hown hgrow hb3
          go_wp2_with fail
          exact ⟨⟨H3, .inr (.inr ⟨rfl, hr3⟩)⟩, by simp [intOf]⟩
        · go_wp2_with fail
          have hl := R0.out.1
          obtain ⟨A, c, rfl⟩ : ∃ A c, u6 = .slice A (N + M) c := by
            have hN := lx.out; have hM := ly.out
            rcases R0.out.forms with ⟨_, hz⟩ | ⟨g2, cap2, hv, _⟩
            · have h9 := congrArg List.length hz; rw [List.length_append] at h9; simp only [List.length_nil] at h9; omega
            · rw [List.length_append, hN, hM] at hv; exact ⟨_, _, hv⟩
          go_ret
          exact ⟨_, _, rfl, R0.out, HB2.out⟩
end Go.Proofs.Ytgbehaapmnmifaa
