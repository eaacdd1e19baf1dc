/-
  Contract of the reference's copy of an antenna. The conditions are the hypotheses.
-/
import Derived.Test.YtdafkebnmmkeeaaRows
import Derived.Test.YtdafkebnmmkeeaaLib
import Derived.Test.YtdafkebnmmkeeaaInts
import Derived.Test.YtdafkebnmmkeeaaOwn
import Derived.Test.YtdafkebnmmkeeaaField
import Derived.Outline
import Derived.Deep.RegionHeld3
import Derived.Deep.DrawnRows
namespace Go.Proofs.Ytdafkebnmmkeeaa
open Go.RowKit
set_option linter.unusedSimpArgs false
set_option linter.unusedVariables false
attribute [local go_sem ↓] Go.wp_at_zero Go.wp_at_succ
set_option maxRecDepth 20000 in
set_option maxHeartbeats 2000000 in
theorem l06Own_any (w : World) (o : Nat) (s : ByteArray) (g : Int) (ga ca gb cb n m : Nat) (xs ys : List Int) (p q : Nat) (ha : Row 2 w p (.slice (some ⟨ga, 0, none⟩) n ca) xs) (hb : Row 2 w q (.slice (some ⟨gb, 0, none⟩) m cb) ys)
    (x0 : w.cell? ⟨o, 0, none⟩ = some (.string s)) (x1 : w.cell? ⟨o, 1, none⟩ = some (.int .i64 g)) (x2 : w.cell? ⟨o, 2, none⟩ = some (.slice (some ⟨ga, 0, none⟩) n ca)) (x3 : w.cell? ⟨o, 3, none⟩ = some (.slice (some ⟨gb, 0, none⟩) m cb))
    (n0 : 0 < xs.length) (n1 : xs.length ≤ 1000000) (m0 : 0 < ys.length) (m1 : ys.length ≤ 1000000) :
    Calls Try.prog 76 #[.pointer (some ⟨o, 0, none⟩)] w fun e w' => ∃ A0 n0 c0 A1 n1 c1, e = .returned (.agg #[.string s, .int .i64 g, .slice A0 n0 c0, .slice A1 n1 c1]) ∧ Row 2 w' (w.heap.size + 1) (.slice A0 n0 c0) xs ∧ Row 2 w' (w.heap.size + 1) (.slice A1 n1 c1) ys ∧ Apart (.slice A0 n0 c0) (.slice A1 n1 c1) ∧ Below w.heap.size w w' := by
  have HA := Lib.hid ha
  have HB := Lib.hid hb
  have lo : o < w.heap.size := block_of_cell x0
  clear ha hb
  go_enter Try.func76, Try.ntmps76
  go_wp2_with fail
  have HW0 := Lib.hid (show Below w.heap.size w (w.alloc (.cells #[.string ⟨#[]⟩, .int .i64 0, .slice none 0 0, .slice none 0 0] 47)) by repeat (first | (with_reducible exact Below.refl _ _) | (with_reducible assumption) | ((with_reducible refine bl_alloc ?_ _ ?_); (focus ((first | omega | (simp <;> omega)); done))) | ((with_reducible refine bl_set ?_ _ ?_); (focus ((first | omega | (simp <;> omega)); done))) | (with_reducible refine below_drewN ?_ _) | (with_reducible refine Below.drew ?_)))
  have SZ := Lib.hid (SInv.fresh w #[.string ⟨#[]⟩, .int .i64 0, .slice none 0 0, .slice none 0 0] 47)
  have HA1 := Lib.hid (HA.out.alloc_ (.cells #[.string ⟨#[]⟩, .int .i64 0, .slice none 0 0, .slice none 0 0] 47))
  have HB1 := Lib.hid (HB.out.alloc_ (.cells #[.string ⟨#[]⟩, .int .i64 0, .slice none 0 0, .slice none 0 0] 47))
  have y0 := cell_alloc x0 (.cells #[.string ⟨#[]⟩, .int .i64 0, .slice none 0 0, .slice none 0 0] 47)
  have y1 := cell_alloc x1 (.cells #[.string ⟨#[]⟩, .int .i64 0, .slice none 0 0, .slice none 0 0] 47)
  have y2 := cell_alloc x2 (.cells #[.string ⟨#[]⟩, .int .i64 0, .slice none 0 0, .slice none 0 0] 47)
  have y3 := cell_alloc x3 (.cells #[.string ⟨#[]⟩, .int .i64 0, .slice none 0 0, .slice none 0 0] 47)
  have zW : (w.alloc (.cells #[.string ⟨#[]⟩, .int .i64 0, .slice none 0 0, .slice none 0 0] 47)).heap.size = w.heap.size + 1 := by simp
  obtain ⟨W, hW⟩ : ∃ W, W = w.alloc (.cells #[.string ⟨#[]⟩, .int .i64 0, .slice none 0 0, .slice none 0 0] 47) := ⟨_, rfl⟩
  rw [← hW] at HW0 SZ HA1 HB1 y0 y1 y2 y3 zW ⊢
  have ZW := Lib.hid zW
  clear hW x0 x1 x2 x3 zW
  have HC1 : Hid (∀ V : World, Below W.heap.size W V → Calls Try.prog 100 #[.slice (some ⟨ga, 0, none⟩) n ca] V fun e w' => ∃ A n c, e = .returned (.slice A n c) ∧ Row 2 w' V.heap.size (.slice A n c) xs ∧ Below V.heap.size V w') := fun V hV => l00Own_any V _ xs p (HA1.out.later hV) n0 n1
  have HC2 : Hid (∀ V : World, Below W.heap.size W V → Calls Try.prog 100 #[.slice (some ⟨gb, 0, none⟩) m cb] V fun e w' => ∃ A n c, e = .returned (.slice A n c) ∧ Row 2 w' V.heap.size (.slice A n c) ys ∧ Below V.heap.size V w') := fun V hV => l00Own_any V _ ys q (HB1.out.later hV) m0 m1
  go_region_held3 (fun w' => w'.cell? ⟨o, 0, none⟩ = some (.string s) ∧ w'.cell? ⟨o, 1, none⟩ = some (.int .i64 g) ∧ w'.cell? ⟨o, 2, none⟩ = some (.slice (some ⟨ga, 0, none⟩) n ca) ∧ w'.cell? ⟨o, 3, none⟩ = some (.slice (some ⟨gb, 0, none⟩) m cb))
    (((try go_split_ands); (refine ⟨?_, ?_, ?_, ?_⟩ <;> (repeat (first | (with_reducible assumption) | (with_reducible refine cell_drew ?_) | (with_reducible refine cell_drewN ?_) | (with_reducible refine keeps hb ?_) | ((with_reducible refine cell_alloc ?_ _)) | ((with_reducible refine cell_set1 ?_ ?_); (focus (omega; done))))))))
    (first
      | (go_at_call 100; ((with_reducible refine (HC1.out _ (by repeat (first | (with_reducible exact Below.refl _ _) | (with_reducible assumption) | ((with_reducible refine bl_alloc ?_ _ ?_); (focus ((first | omega | (simp <;> omega)); done))) | ((with_reducible refine bl_set ?_ _ ?_); (focus ((first | omega | (simp <;> omega)); done))) | (with_reducible refine below_drewN ?_ _) | (with_reducible refine Below.drew ?_)))).mono ?_); rintro e w1 ⟨A0, k0, c0, rfl, hr0, hb⟩; have H1 := Lib.hid (show Below W.heap.size W w1 from ⟨hb.os, hb.tape, hb.output, hb.size, hb.block⟩); have R0 := Lib.hid hr0))
      | (go_at_call 100; ((with_reducible refine (HC2.out w1 H1.out).mono ?_); rintro e w2 ⟨A1, k1, c1, rfl, hr1, hb⟩; have H2 := Lib.hid (show Below W.heap.size W w2 from H1.out.trans (hb.mono H1.out.size)); have R1 := Lib.hid hr1; have R02 := Lib.hid (R0.out.later hb); have SZ2 := Lib.hid (SZ.out.later H2.out); have z0 := SZ2.out.cell 0 _ rfl; have z1 := SZ2.out.cell 1 _ rfl; have z2 := SZ2.out.cell 2 _ rfl; have z3 := SZ2.out.cell 3 _ rfl; have zf := SZ2.out.free)))
  have HB2 := Lib.hid (show Below w.heap.size w w2 from HW0.out.trans (H2.out.mono HW0.out.size))
  have z1W : W.heap.size ≤ w1.heap.size := H1.out.size
  have hZ := ZW.out
  have r0 := Row.base_le (b' := w.heap.size + 1) R02.out (by show w.heap.size + 1 ≤ W.heap.size; omega)
  have r1 := Row.base_le (b' := w.heap.size + 1) R1.out (by omega)
  have HAp : Hid (Apart (.slice A0 k0 c0) (.slice A1 k1 c1)) := fun b h q => by have := (R0.out.lt b h).2; have := (R1.out.lt b q).1; omega
  have RR0 := Lib.hid r0
  have RR1 := Lib.hid r1
  clear r0 r1 hZ
  go_wp2_with fail
  refine bodyPost_ret (v := .agg #[.string s, .int .i64 g, .slice A0 k0 c0, .slice A1 k1 c1]) (by simp [results, Try.results76, go_sem, *]) rfl ?_
  refine ⟨_, _, _, _, _, _, rfl, ?_, ?_, HAp.out, by repeat (first | (with_reducible exact Below.refl _ _) | (with_reducible assumption) | ((with_reducible refine bl_alloc ?_ _ ?_); (focus ((first | omega | (simp <;> omega)); done))) | ((with_reducible refine bl_set ?_ _ ?_); (focus ((first | omega | (simp <;> omega)); done))) | (with_reducible refine below_drewN ?_ _) | (with_reducible refine Below.drew ?_) | ((with_reducible refine bl_trans ?_ HB2.out ?_); (focus ((first | omega | (simp <;> omega)); done))))⟩
  · repeat (first | (with_reducible exact RR0.out) | ((with_reducible refine Row.low ?_ _ ?_); (focus ((first | omega | (simp <;> omega)); done))))
  · repeat (first | (with_reducible exact RR1.out) | ((with_reducible refine Row.low ?_ _ ?_); (focus ((first | omega | (simp <;> omega)); done))))
end Go.Proofs.Ytdafkebnmmkeeaa
