/-
  The losses that are nowhere greater than two antennas' own: the model, the program's closure and the reference's row. The conditions are the hypotheses.
-/
import Derived.Test.YtedpdcdmemenhaaRows
import Derived.Test.YtedpdcdmemenhaaLib
import Derived.Test.YtedpdcdmemenhaaInt
import Derived.Test.YtedpdcdmemenhaaInts
import Derived.Test.YtedpdcdmemenhaaIntsB
import Derived.Test.YtedpdcdmemenhaaAll
import Derived.Test.YtedpdcdmemenhaaNames
import Derived.Test.YtedpdcdmemenhaaPattern
import Derived.Test.YtedpdcdmemenhaaAntenna
import Derived.Test.YtedpdcdmemenhaaOwn
import Derived.Test.YtedpdcdmemenhaaField
import Derived.Test.YtedpdcdmemenhaaMinMax
import Derived.Outline
import Derived.Deep.RegionHeld3
import Derived.Deep.DrawnRows
import Derived.OwnWalk
import Derived.Deep.AppendLies
import Derived.Deep.RegionLaw
import Derived.Laws.Cover1
namespace Go.Proofs.Ytedpdcdmemenhaa
open Go.RowKit
set_option linter.unusedSimpArgs false
set_option linter.unusedVariables false
attribute [local go_sem ↓] Go.wp_at_zero Go.wp_at_succ
def envL (xs ys : List Int) (u d : Int) : List Int := (List.range xs.length).map fun i => min 60000 (min (xs.getD i 0 + u) (ys.getD i 0 + d))
theorem envL_len (xs ys : List Int) (u d : Int) : (envL xs ys u d).length = xs.length := by simp [envL]
theorem env_next {ys : List Int} {k : Nat} (hk : k < ys.length) : ys.take (k + 1) = ys.take k ++ [ys.getD k 0] := by
  rw [List.take_add_one]
  simp [List.getD, hk]
theorem envL_step {xs ys : List Int} {u d : Int} {k : Nat} (hk : k < xs.length) : (envL xs ys u d).take (k + 1) = (envL xs ys u d).take k ++ [min 60000 (min (xs.getD k 0 + u) (ys.getD k 0 + d))] := by
  rw [env_next (by rw [envL_len]; exact hk)]
  simp [envL, hk]
theorem env_owns {e : TypeId} {w : World} {base n : Nat} {t : Value} {ys : List Int} (hn : ys.length = n) (h : Row e w base t ys) : w.ownsRow base e 1 t n (ys.map (Value.int .i64)) := by
  subst hn
  exact h
theorem least_any (w : World) (x y G ga gb : Int) (O A C : Nat) (x0 : 0 ≤ x) (x1 : x ≤ 60000) (y0 : 0 ≤ y) (y1 : y ≤ 60000) (G0 : -60000 ≤ G) (G1 : G ≤ 60000) (a0 : -60000 ≤ ga) (a1 : ga ≤ 60000) (b0 : -60000 ≤ gb) (b1 : gb ≤ 60000)
    (c8 : w.cell? ⟨O, 1, none⟩ = some (.int .i64 G)) (c3 : w.cell? ⟨A, 1, none⟩ = some (.int .i64 ga)) (c4 : w.cell? ⟨C, 1, none⟩ = some (.int .i64 gb)) :
    Calls Try.prog 46 #[.int .i64 x, .int .i64 y, .pointer (some ⟨O, 0, none⟩), .pointer (some ⟨A, 0, none⟩), .pointer (some ⟨C, 0, none⟩)] w fun e w' => e = .returned (.int .i64 (min 60000 (min (x + (G - ga)) (y + (G - gb))))) ∧ w = w' := by
  have i1 : IntKind.i64.wrap (G - ga) = G - ga := by rw [IntKind.wrap_i64]; omega
  have i2 : IntKind.i64.wrap (G - gb) = G - gb := by rw [IntKind.wrap_i64]; omega
  have i3 : IntKind.i64.wrap (G - ga + x) = G - ga + x := by rw [IntKind.wrap_i64]; omega
  have i4 : IntKind.i64.wrap (G - gb + y) = G - gb + y := by rw [IntKind.wrap_i64]; omega
  have hmin : ∀ (ts : Array TypeId) (t : TypeId) (W : World), (Builtin.min_ ts t #[.int .i64 (G - ga + x), .int .i64 (G - gb + y), .int .i64 60000]).run Try.prog W = .ok (.int .i64 (min 60000 (min (x + (G - ga)) (y + (G - gb))))) W := fun ts t W => by
    rw [run_min_int3]
    congr 2
    split <;> split <;> omega
  obtain ⟨K, hK⟩ : ∃ K, K = min 60000 (min (x + (G - ga)) (y + (G - gb))) := ⟨_, rfl⟩
  rw [← hK] at hmin ⊢
  clear hK
  go_enter Try.func46, Try.ntmps46
  go_wp2_with fail
  go_ret
  exact ⟨rfl, rfl⟩
set_option maxRecDepth 20000 in
set_option maxHeartbeats 4000000 in
theorem l06Lesser_any (w : World) (a : Value) (xs : List Int) (p : Nat) (ha : Row 2 w p a xs) (b : Value) (ys : List Int) (q : Nat) (hb : Row 2 w q b ys) (u d : Int) (hl : ys.length = xs.length) (h0 : 0 < xs.length) (h1 : xs.length ≤ 36)
    (bx : ∀ k, k < xs.length → 0 ≤ xs.getD k 0 ∧ xs.getD k 0 ≤ 60000) (by_ : ∀ k, k < xs.length → 0 ≤ ys.getD k 0 ∧ ys.getD k 0 ≤ 60000) (u0 : 0 ≤ u) (u1 : u ≤ 120000) (d0 : 0 ≤ d) (d1 : d ≤ 120000) :
    Calls Try.prog 42 #[a, b, .int .i64 u, .int .i64 d] w fun e w' => ∃ A n c, e = .returned (.slice A n c) ∧ Row 2 w' w.heap.size (.slice A n c) (envL xs ys u d) ∧ Below w.heap.size w w' := by
  rcases ha.forms with ⟨_, hz⟩ | ⟨ga, ca, rfl, _, la, kx, _⟩
  · rw [hz] at h0; simp at h0
  rcases hb.forms with ⟨_, hz⟩ | ⟨gb, cb, rfl, _, lb, ky, _⟩
  · rw [hz] at hl; simp at hl; omega
  have HX := Lib.hid kx
  have HY := Lib.hid ky
  have HBX := Lib.hid bx
  have HBY := Lib.hid by_
  have HL := Lib.hid (envL_len xs ys u d)
  have HST := Lib.hid (fun k => envL_step (xs := xs) (ys := ys) (u := u) (d := d) (k := k))
  clear ha hb kx ky bx by_
  obtain ⟨E, hE⟩ : ∃ E, E = envL xs ys u d := ⟨_, rfl⟩
  rw [← hE] at HL HST ⊢
  clear hE
  rw [hl] at HY ⊢
  obtain ⟨n, hn⟩ : ∃ n, n = xs.length := ⟨_, rfl⟩
  rw [← hn] at h0 h1 HX HY HBX HBY HL HST hl ⊢
  clear hn hl
  obtain ⟨i0, hi, hz0, hz1, hz2⟩ := info_parts Try.info_i64
  have HI := Lib.hid hi
  have HZ0 := Lib.hid hz0
  have HZ1 := Lib.hid hz1
  have HZ2 := Lib.hid hz2
  clear hi hz0 hz1 hz2
  go_enter Try.func42, Try.ntmps42
  go_wp2_with fail
  go_loopw [9, 10] (fun t i wr => ∃ k : Nat, k ≤ n ∧ i = .int .i64 (k : Int) ∧ Hid (Row 2 wr w.heap.size t (E.take k)) ∧ Hid (Below w.heap.size w wr)) (fun _ i _ => n + 1 - (intOf i).toNat)
  case atStart => exact ⟨0, Nat.zero_le _, rfl, app_row0 w (Nat.le_refl _), (show Below _ _ _ by repeat (first | (with_reducible exact Below.refl _ _) | (with_reducible assumption) | ((with_reducible refine bl_alloc ?_ _ ?_); (focus ((first | omega | (simp <;> omega)); done))) | ((with_reducible refine bl_set ?_ _ ?_); (focus ((first | omega | (simp <;> omega)); done))) | (with_reducible refine below_drewN ?_ _) | (with_reducible refine Below.drew ?_)))⟩
  case round =>
    obtain ⟨k, hk, rfl, hr, hbw⟩ := hrel
    have k0 : (0 : Int) ≤ (k : Int) := Int.natCast_nonneg _
    have zw : w.heap.size ≤ wr.heap.size := hbw.out.size
    by_cases hlt : k < n
    · have hlt' : (k : Int) < (n : Int) := by omega
      have cx := (hbw.out.cell (p := ⟨ga, k, none⟩) la).trans (HX.out k hlt)
      have cy := (hbw.out.cell (p := ⟨gb, k, none⟩) lb).trans (HY.out k hlt)
      obtain ⟨x0, x1⟩ := HBX.out k hlt
      obtain ⟨y0, y1⟩ := HBY.out k hlt
      have hst := Lib.hid (HST.out k hlt)
      have hlen : (E.take k).length = k := by rw [List.length_take, HL.out]; omega
      obtain ⟨x, hx⟩ : ∃ x, x = xs.getD k 0 := ⟨_, rfl⟩
      obtain ⟨y, hy⟩ : ∃ y, y = ys.getD k 0 := ⟨_, rfl⟩
      rw [← hx] at cx x0 x1 hst
      rw [← hy] at cy y0 y1 hst
      clear hx hy
      obtain ⟨zs, hzs⟩ : ∃ zs, zs = E.take k := ⟨_, rfl⟩
      rw [← hzs] at hr hlen hst
      clear hzs
      have i1 : IntKind.i64.wrap (x + u) = x + u := by rw [IntKind.wrap_i64]; omega
      have i2 : IntKind.i64.wrap (y + d) = y + d := by rw [IntKind.wrap_i64]; omega
      have HM : Hid (∀ (W : World) (p q : Int), p = x + u → q = y + d → Calls Try.prog 80 #[.int .i64 p, .int .i64 q] W fun e w' => e = .returned (.int .i64 (min (x + u) (y + d))) ∧ W = w') := fun W p q hp hq => by rw [hp, hq]; exact cMin_any W _ _
      have HK : Hid (∀ W : World, Calls Try.prog 80 #[.int .i64 60000, .int .i64 (min (x + u) (y + d))] W fun e w' => e = .returned (.int .i64 (min 60000 (min (x + u) (y + d)))) ∧ W = w') := fun W => cMin_any W _ _
      obtain ⟨M, hM⟩ : ∃ M, M = min (x + u) (y + d) := ⟨_, rfl⟩
      rw [← hM] at HM HK hst
      obtain ⟨K, hK⟩ : ∃ K, K = min 60000 M := ⟨_, rfl⟩
      rw [← hK] at HK hst
      clear hM hK
      go_wp2_with fail
      go_region_law (first | (refine step_append_lies _ (by rfl) _ _ _ (by rfl) w.heap.size 2 i0 (.int .i64 0) 1 8 Try.underlying22 HI.out HZ0.out HZ1.out HZ2.out rfl (by omega) u9 k (zs.map (Value.int .i64)) (by rfl) (env_owns hlen (hr.out.alloc_ (.cells #[.int .i64 K] 2))) ⟨wr.heap.size, 0, none⟩ 1 1 [.int .i64 K] (by rfl) (by rfl) (World.news_of_block (cs := #[.int .i64 K]) (t := 2) (fr := (0, 0)) (heap_alloc_new wr _)) (by simp [Value.oneCell']) (by omega) (by unfold maxLen; omega) (by omega) (by simp <;> omega) (wr.heap.size + 1) (by simp) ?_; intro g3 cap3 w3 hown hgrow hat hlt3) | (go_simp; go_at_call 80; ((with_reducible refine (HK.out _).mono ?_); rintro e w2 ⟨rfl, rfl⟩)) | (go_simp; go_at_call 80; ((with_reducible refine (HM.out _ _ _ (by first | rfl | omega) (by first | rfl | omega)).mono ?_); rintro e w2 ⟨rfl, rfl⟩)))
      all_goals
        have hr3 : Hid (Row 2 w3 w.heap.size (.slice (some ⟨g3, 0, none⟩) (k + 1) cap3) (E.take (k + 1))) := by
          show Row _ _ _ _ _
          rw [hst.out]
          exact app_row hlen hown
        have hb3 := app_below (by exact hr.out.alloc_ (.cells #[.int .i64 K] 2)) hgrow (by simp; omega)
        have H3 := Lib.hid (show Below w.heap.size w w3 from Below.trans (by repeat (first | (with_reducible exact Below.refl _ _) | (with_reducible assumption) | ((with_reducible refine bl_alloc ?_ _ ?_); (focus ((first | omega | (simp <;> omega)); done))) | ((with_reducible refine bl_set ?_ _ ?_); (focus ((first | omega | (simp <;> omega)); done))) | (with_reducible refine below_drewN ?_ _) | (with_reducible refine Below.drew ?_) | ((with_reducible refine bl_trans ?_ hbw.out ?_); (focus ((first | omega | (simp <;> omega)); done))))) hb3)
        clear hown hgrow hat hlt3 hb3 hr hbw cx cy
        go_wp2
        refine ⟨?_, ?_⟩
        · first
            | ((repeat apply Exists.intro); (refine ⟨?_, rfl⟩); exact ⟨k + 1, hlt, rfl, hr3, H3⟩)
            | exact ⟨k + 1, hlt, rfl, hr3, H3⟩
            | exact ⟨(k + 1 : Nat), hlt, rfl, hr3, H3⟩
        · first | (simp [intOf]; done) | (simp [intOf]; omega)
    · have hge : n ≤ k := by omega
      have hgI : (n : Int) ≤ (k : Int) := by omega
      have hrE : Hid (Row 2 wr w.heap.size u9 E) := by
        have h := hr.out
        rw [List.take_of_length_le (by rw [HL.out]; omega)] at h
        exact h
      clear hr
      have fT : ∃ A m c, u9 = .slice A m c := by rcases hrE.out.forms with ⟨h, _⟩ | ⟨_, _, h, _⟩ <;> exact ⟨_, _, _, h⟩
      obtain ⟨A, m, c, rfl⟩ := fT
      go_wp2_with fail
      go_ret
      exact ⟨_, _, _, rfl, hrE.out, hbw.out⟩
end Go.Proofs.Ytedpdcdmemenhaa
