/-
  Contracts of the fastest mode for a ratio: the program's and the reference's: one model. The conditions are the hypotheses.
-/
import Derived.Test.YtlpjcebpfmhpnaaDoorRows
import Derived.Test.YtlpjcebpfmhpnaaDoorLib
import Derived.Test.YtlpjcebpfmhpnaaDoorModes
import Derived.Outline
namespace Go.Proofs.YtlpjcebpfmhpnaaDoor
open Go.RowKit
set_option linter.unusedSimpArgs false
set_option linter.unusedVariables false
/-- Of the first modes the last one whose need is met, or -1. -/
def bestIt (ms : List (Int × Int)) (snr : Int) : Nat → Int
  | 0 => -1
  | k + 1 => if (ms.getD k (0, 0)).1 ≤ snr then (k : Int) else bestIt ms snr k
def bestV (ms : List (Int × Int)) (snr : Int) : Int := bestIt ms snr ms.length
theorem bestIt_yes {ms : List (Int × Int)} {snr : Int} {k : Nat} (h : (ms.getD k (0, 0)).1 ≤ snr) : bestIt ms snr (k + 1) = k := if_pos h
theorem bestIt_no {ms : List (Int × Int)} {snr : Int} {k : Nat} (h : ¬ (ms.getD k (0, 0)).1 ≤ snr) : bestIt ms snr (k + 1) = bestIt ms snr k := if_neg h
theorem bestIt_bd (ms : List (Int × Int)) (snr : Int) : ∀ k : Nat, -1 ≤ bestIt ms snr k ∧ bestIt ms snr k < k
  | 0 => ⟨Int.le_refl _, by show (-1 : Int) < 0; omega⟩
  | k + 1 => by
    unfold bestIt
    have := bestIt_bd ms snr k
    split <;> omega
theorem bestV_bd (ms : List (Int × Int)) (snr : Int) : -1 ≤ bestV ms snr ∧ bestV ms snr < ms.length := bestIt_bd ms snr _
set_option maxRecDepth 20000 in
theorem bestMode_any (w : World) (s : ByteArray) (p f n wd : Int) (v : Value) (ms : List (Int × Int)) (q : Nat) (hr : RowM 57 w q v ms) (snr : Int) :
    Calls Tryd.prog 40 #[.agg #[.string s, .int .i64 p, .int .i64 f, .int .i64 n, .int .i64 wd, v], .int .i64 snr] w fun e w' => e = .returned (.int .i64 (bestV ms snr)) ∧ Below w.heap.size w w' := by
  have hl := hr.len
  unfold maxLen at hl
  rcases hr.forms with ⟨rfl, rfl⟩ | ⟨g, cap, rfl, _, la, hc, _⟩
  · clear hr
    go_enter Tryd.func40, Tryd.ntmps40
    go_wp2_with (first | ((with_reducible refine wp_loop_rounds 1 ?_); rw [rounds_succ]))
    go_ret
    exact ⟨rfl, by repeat (first | (with_reducible exact Below.refl _ _) | (with_reducible assumption) | ((with_reducible refine bl_alloc ?_ _ ?_); (focus ((first | omega | (simp <;> omega)); done))) | ((with_reducible refine bl_set ?_ _ ?_); (focus ((first | omega | (simp <;> omega)); done))) | (with_reducible refine below_drewN ?_ _) | (with_reducible refine Below.drew ?_))⟩
  have HC := Lib.hid hc
  clear hr hc
  have HV : Hid (bestV ms snr = bestIt ms snr ms.length) := rfl
  obtain ⟨V, hV⟩ : ∃ V, V = bestV ms snr := ⟨_, rfl⟩
  rw [← hV] at HV ⊢
  clear hV
  obtain ⟨m, hm⟩ : ∃ m, m = ms.length := ⟨_, rfl⟩
  rw [← hm] at HV HC hl ⊢
  clear hm
  have n1 : (m : Int) ≤ 9223372036854775807 := by omega
  go_enter Tryd.func40, Tryd.ntmps40
  go_wp2_with fail
  have HB0 := Lib.hid (show Below w.heap.size w (w.alloc (.cells #[.string s, .int .i64 p, .int .i64 f, .int .i64 n, .int .i64 wd, .slice (some ⟨g, 0, none⟩) m cap] 30)) by repeat (first | (with_reducible exact Below.refl _ _) | (with_reducible assumption) | ((with_reducible refine bl_alloc ?_ _ ?_); (focus ((first | omega | (simp <;> omega)); done))) | ((with_reducible refine bl_set ?_ _ ?_); (focus ((first | omega | (simp <;> omega)); done))) | (with_reducible refine below_drewN ?_ _) | (with_reducible refine Below.drew ?_)))
  have HC' := Lib.hid (fun k hk => cell_alloc (HC.out k hk).1 (.cells #[.string s, .int .i64 p, .int .i64 f, .int .i64 n, .int .i64 wd, .slice (some ⟨g, 0, none⟩) m cap] 30))
  have HC2 := Lib.hid (fun k hk => cell_alloc (HC.out k hk).2 (.cells #[.string s, .int .i64 p, .int .i64 f, .int .i64 n, .int .i64 wd, .slice (some ⟨g, 0, none⟩) m cap] 30))
  have lW : (w.alloc (.cells #[.string s, .int .i64 p, .int .i64 f, .int .i64 n, .int .i64 wd, .slice (some ⟨g, 0, none⟩) m cap] 30)).heap.size = w.heap.size + 1 := by simp
  generalize w.alloc (.cells #[.string s, .int .i64 p, .int .i64 f, .int .i64 n, .int .i64 wd, .slice (some ⟨g, 0, none⟩) m cap] 30) = W at *
  have lg : g < W.heap.size := by omega
  clear HC
  go_loopw [5, 11] (fun b i wr => ∃ k : Nat, k ≤ m ∧ i = .int .i64 (k : Int) ∧ b = .int .i64 (bestIt ms snr k) ∧ Below W.heap.size W wr) (fun _ i _ => m + 1 - (intOf i).toNat)
  case atStart => exact ⟨0, Nat.zero_le _, rfl, rfl, Below.refl _ _⟩
  case round =>
    obtain ⟨k, hk, rfl, rfl, hb⟩ := hrel
    have i0 : (0 : Int) ≤ (k : Int) := Int.natCast_nonneg _
    have zr : W.heap.size ≤ wr.heap.size := hb.size
    have HB := Lib.hid hb
    clear hb
    by_cases hlt : k < m
    · have i1 : (k : Int) < (m : Int) := by omega
      have c1 := (HB.out.cell (p := ⟨g, k * 2, none⟩) lg).trans (HC'.out k hlt)
      have c2 := (HB.out.cell (p := ⟨g, k * 2 + 1, none⟩) lg).trans (HC2.out k hlt)
      by_cases hx : (ms.getD k (0, 0)).1 ≤ snr
      · have he := Lib.hid (bestIt_yes hx)
        have hx' := decide_eq_true hx
        generalize (ms.getD k (0, 0)).1 = x at *
        generalize (ms.getD k (0, 0)).2 = y at *
        go_wp2_with fail
        go_roundw
        case rel => exact ⟨k + 1, by omega, by go_num, by rw [he.out], by repeat (first | (with_reducible exact Below.refl _ _) | (with_reducible assumption) | ((with_reducible refine bl_alloc ?_ _ ?_); (focus ((first | omega | (simp <;> omega)); done))) | ((with_reducible refine bl_set ?_ _ ?_); (focus ((first | omega | (simp <;> omega)); done))) | (with_reducible refine below_drewN ?_ _) | (with_reducible refine Below.drew ?_) | ((with_reducible refine bl_trans ?_ HB.out ?_); (focus ((first | omega | (simp <;> omega)); done))))⟩
        case measure => (simp [intOf] <;> omega)
      · have he := Lib.hid (bestIt_no hx)
        have hx' := decide_eq_false hx
        generalize (ms.getD k (0, 0)).1 = x at *
        generalize (ms.getD k (0, 0)).2 = y at *
        go_wp2_with fail
        go_roundw
        case rel => exact ⟨k + 1, by omega, by go_num, by rw [he.out], by repeat (first | (with_reducible exact Below.refl _ _) | (with_reducible assumption) | ((with_reducible refine bl_alloc ?_ _ ?_); (focus ((first | omega | (simp <;> omega)); done))) | ((with_reducible refine bl_set ?_ _ ?_); (focus ((first | omega | (simp <;> omega)); done))) | (with_reducible refine below_drewN ?_ _) | (with_reducible refine Below.drew ?_) | ((with_reducible refine bl_trans ?_ HB.out ?_); (focus ((first | omega | (simp <;> omega)); done))))⟩
        case measure => (simp [intOf] <;> omega)
    · obtain rfl : k = m := by omega
      have hd : decide ((k : Int) < (k : Int)) = false := decide_eq_false (by omega)
      have HBW := Lib.hid (HB0.out.trans (HB.out.mono HB0.out.size))
      go_wp2_with fail
      go_ret
      exact ⟨ret_int HV.out.symm, HBW.out⟩
set_option maxRecDepth 20000 in
theorem l07Best_any (w : World) (o : Nat) (v : Value) (ms : List (Int × Int)) (q : Nat) (hr : RowM 57 w q v ms) (x5 : w.cell? ⟨o, 5, none⟩ = some v) (snr : Int) :
    Calls Tryd.prog 67 #[.pointer (some ⟨o, 0, none⟩), .int .i64 snr] w fun e w' => e = .returned (.int .i64 (bestV ms snr)) ∧ w = w' := by
  have hl := hr.len
  unfold maxLen at hl
  rcases hr.forms with ⟨rfl, rfl⟩ | ⟨g, cap, rfl, _, la, hc, _⟩
  · clear hr
    go_enter Tryd.func67, Tryd.ntmps67
    go_wp2_with (first | ((with_reducible refine wp_loop_rounds 1 ?_); rw [rounds_succ]))
    go_ret
    exact ⟨rfl, rfl⟩
  have HC := Lib.hid hc
  clear hr hc
  have HV : Hid (bestV ms snr = bestIt ms snr ms.length) := rfl
  obtain ⟨V, hV⟩ : ∃ V, V = bestV ms snr := ⟨_, rfl⟩
  rw [← hV] at HV ⊢
  clear hV
  obtain ⟨m, hm⟩ : ∃ m, m = ms.length := ⟨_, rfl⟩
  rw [← hm] at HV HC hl x5
  clear hm
  have n1 : (m : Int) ≤ 9223372036854775807 := by omega
  go_enter Tryd.func67, Tryd.ntmps67
  go_wp2_with fail
  go_loop [5, 6] (fun b i => ∃ k : Nat, k ≤ m ∧ i = .int .i64 (k : Int) ∧ b = .int .i64 (bestIt ms snr k)) (fun _ i => m + 1 - (intOf i).toNat)
  case atStart => exact ⟨0, Nat.zero_le _, rfl, rfl⟩
  case round =>
    obtain ⟨k, hk, rfl, rfl⟩ := hrel
    have i0 : (0 : Int) ≤ (k : Int) := Int.natCast_nonneg _
    by_cases hlt : k < m
    · have i1 : (k : Int) < (m : Int) := by omega
      obtain ⟨c1, c2⟩ := HC.out k hlt
      by_cases hx : (ms.getD k (0, 0)).1 ≤ snr
      · have he := Lib.hid (bestIt_yes hx)
        have hx' := decide_eq_true hx
        generalize (ms.getD k (0, 0)).1 = x at *
        generalize (ms.getD k (0, 0)).2 = y at *
        go_wp2_with fail
        go_round
        case rel => exact ⟨k + 1, by omega, by go_num, by rw [he.out]⟩
        case measure => (simp [intOf] <;> omega)
      · have he := Lib.hid (bestIt_no hx)
        have hx' := decide_eq_false hx
        generalize (ms.getD k (0, 0)).1 = x at *
        generalize (ms.getD k (0, 0)).2 = y at *
        go_wp2_with fail
        go_round
        case rel => exact ⟨k + 1, by omega, by go_num, by rw [he.out]⟩
        case measure => (simp [intOf] <;> omega)
    · obtain rfl : k = m := by omega
      have hd : decide ((k : Int) < (k : Int)) = false := decide_eq_false (by omega)
      go_wp2_with fail
      go_ret
      exact ⟨ret_int HV.out.symm, rfl⟩
end Go.Proofs.YtlpjcebpfmhpnaaDoor
