/-
  The walk of FnExactFreeTable: it returns true, and of what was there nothing has turned. The conditions are what its arguments' readings give.
-/
import Derived.Test.YtbmmgkicgcdpmaaDoorRows
import Derived.Test.YtbmmgkicgcdpmaaDoorLib
import Derived.Test.YtbmmgkicgcdpmaaDoorShelf
import Derived.Test.YtbmmgkicgcdpmaaDoorDec
import Derived.Test.YtbmmgkicgcdpmaaDoorPow
import Derived.Test.YtbmmgkicgcdpmaaDoorInt
import Derived.Test.YtbmmgkicgcdpmaaDoorInts
import Derived.Test.YtbmmgkicgcdpmaaDoorIntsB
import Derived.Test.YtbmmgkicgcdpmaaDoorWithin
import Derived.Test.YtbmmgkicgcdpmaaDoorAll
import Derived.Test.YtbmmgkicgcdpmaaDoorLogMath
import Derived.Test.YtbmmgkicgcdpmaaDoorLogS
import Derived.Test.YtbmmgkicgcdpmaaDoorLogI
import Derived.Test.YtbmmgkicgcdpmaaDoorFree
import Derived.Outline
import Derived.Deep.RegionHeld3
import Derived.Deep.DrawnRows
import Derived.OwnWalk
namespace Go.Proofs.YtbmmgkicgcdpmaaDoor.fnExactFreeTable
open Go.RowKit Go.ChangeShapes Go.WideShapes Go.ChangeAt
set_option linter.unusedVariables false
set_option linter.unusedSimpArgs false

def freeTableM (f : Int) (xs : List Int) : List Int × Int := if 64 < xs.length then ([], 5) else if (1 ≤ f ∧ f ≤ 100000000) ∧ allIn xs 1 283000 = true then (xs.map (freeV f), 0) else ([], 2)
theorem tab_long {f : Int} {xs : List Int} (h : 64 < xs.length) : freeTableM f xs = ([], 5) := if_pos h
theorem tab_freq {f : Int} {xs : List Int} (h : ¬ 64 < xs.length) (h1 : ¬ (1 ≤ f ∧ f ≤ 100000000)) : freeTableM f xs = ([], 2) := by
  unfold freeTableM
  rw [if_neg h, if_neg (fun q => h1 q.1)]
theorem tab_all {f : Int} {xs : List Int} (h : ¬ 64 < xs.length) (h1 : allIn xs 1 283000 = false) : freeTableM f xs = ([], 2) := by
  unfold freeTableM
  rw [if_neg h, if_neg (fun q => by rw [h1] at q; cases q.2)]
theorem tab_yes {f : Int} {xs : List Int} (h : ¬ 64 < xs.length) (h1 : 1 ≤ f ∧ f ≤ 100000000) (h2 : allIn xs 1 283000 = true) : freeTableM f xs = (xs.map (freeV f), 0) := by
  unfold freeTableM
  rw [if_neg h, if_pos ⟨h1, h2⟩]
theorem tab_len (f : Int) (xs : List Int) : (freeTableM f xs).1.length ≤ 64 := by
  unfold freeTableM
  by_cases h : 64 < xs.length
  · rw [if_pos h]
    exact Nat.zero_le _
  · rw [if_neg h]
    split
    · show (xs.map (freeV f)).length ≤ 64
      rw [List.length_map]
      omega
    · exact Nat.zero_le _
theorem all_at {xs : List Int} (h : allIn xs 1 283000 = true) {k : Nat} (hk : k < xs.length) : 1 ≤ xs.getD k 0 ∧ xs.getD k 0 ≤ 283000 := of_decide_eq_true h k hk
theorem take_step (f : Int) (xs : List Int) {k : Nat} (hk : k < xs.length) : (xs.take (k + 1)).map (freeV f) = (xs.take k).map (freeV f) ++ [freeV f (xs.getD k 0)] := by
  rw [List.take_add_one, List.map_append]
  simp [List.getD, hk]
theorem app_row {B m : Nat} {v' : Value} {ys : List Int} {x : Int} {w1 : World} (hm : ys.length = m) (ho : w1.ownsRow B 2 1 v' (m + 1) (ys.map (Value.int .i64) ++ [.int .i64 x])) : Row 2 w1 B v' (ys ++ [x]) := by
  subst hm
  unfold Row
  simpa using ho
theorem app_below {B : Nat} {W w1 : World} {v : Value} {ys : List Int} (h : Row 2 W B v ys) (hg : W.grownBy w1 v.ownBlock) (hB : B ≤ W.heap.size) : Below B W w1 :=
  ⟨hg.os, hg.tape, hg.output, hg.size, fun k hk => hg.block k (by omega) (fun he => by have := (h.lt k he.symm).1; omega)⟩
theorem app_row0 (w : World) {B : Nat} (hB : B ≤ w.heap.size) : Row 2 (w.alloc (.cells #[] 2)) B (.slice (some ⟨w.heap.size, 0, none⟩) 0 0) [] := World.ownsRow_made w #[] 0 hB (by unfold maxLen; omega) rfl
set_option maxRecDepth 20000 in
set_option maxHeartbeats 4000000 in
theorem impl_any (w : World) (hT : PowTab w) (f : Int) (jf : In64 f) (v : Value) (xs : List Int) (p : Nat) (h : Row 2 w p v xs) (ixs : ∀ n ∈ xs, In64 n) :
    Calls Tryd.prog 31 #[.int .i64 f, v] w fun e w' => ∃ A0 n0 c0, e = .returned (.tuple #[.slice A0 n0 c0, .int .i64 (freeTableM f xs).2]) ∧ Row 2 w' w.heap.size (.slice A0 n0 c0) (freeTableM f xs).1 ∧ Below w.heap.size w w' := by
  have HT := Lib.hid hT
  have HR := Lib.hid h
  have hl := h.len
  unfold maxLen at hl
  obtain ⟨j0, j1⟩ := jf
  clear hT ixs
  obtain ⟨M, hM⟩ : ∃ M, M = freeTableM f xs := ⟨_, rfl⟩
  rw [← hM]
  have HM := Lib.hid hM
  clear hM
  have hform : ∃ A c, v = .slice A xs.length c := by
    rcases h.forms with ⟨rfl, rfl⟩ | ⟨g, c, rfl, _⟩
    · exact ⟨_, _, rfl⟩
    · exact ⟨_, _, rfl⟩
  obtain ⟨A, c, rfl⟩ := hform
  obtain ⟨n, hn⟩ : ∃ n, n = xs.length := ⟨_, rfl⟩
  have HN := Lib.hid hn
  by_cases h64 : 64 < xs.length
  · have he := Lib.hid (HM.out.trans (tab_long h64))
    rw [← hn] at h64 ⊢
    clear h hn
    have hq : (64 : Int) < (n : Int) := by omega
    go_enter Tryd.func31, Tryd.ntmps31
    go_wp2_with fail
    go_ret2
    exact ⟨none, 0, 0, by rw [he.out]; rfl, by rw [he.out]; exact Row.nil_, by repeat (first | (with_reducible exact Below.refl _ _) | (with_reducible assumption) | ((with_reducible refine bl_alloc ?_ _ ?_); (focus ((first | omega | (simp <;> omega)); done))) | ((with_reducible refine bl_set ?_ _ ?_); (focus ((first | omega | (simp <;> omega)); done))) | (with_reducible refine below_drewN ?_ _) | (with_reducible refine Below.drew ?_))⟩
  have hq : ¬ (64 : Int) < (n : Int) := by omega
  rcases in_cases f 1 100000000 with ⟨h1, h2⟩ | h1 | ⟨h1, h2⟩
  rotate_left
  · have he := Lib.hid (HM.out.trans (tab_freq h64 (fun q => dec_no h1 q.1)))
    rw [← hn]
    clear h hn
    go_enter Tryd.func31, Tryd.ntmps31
    go_wp2_with (first | (go_at_call 61; go_in) | (go_at_call 50; go_in))
    go_ret2
    exact ⟨none, 0, 0, by rw [he.out]; rfl, by rw [he.out]; exact Row.nil_, by repeat (first | (with_reducible exact Below.refl _ _) | (with_reducible assumption) | ((with_reducible refine bl_alloc ?_ _ ?_); (focus ((first | omega | (simp <;> omega)); done))) | ((with_reducible refine bl_set ?_ _ ?_); (focus ((first | omega | (simp <;> omega)); done))) | (with_reducible refine below_drewN ?_ _) | (with_reducible refine Below.drew ?_))⟩
  · have he := Lib.hid (HM.out.trans (tab_freq h64 (fun q => dec_no h2 q.2)))
    rw [← hn]
    clear h hn
    go_enter Tryd.func31, Tryd.ntmps31
    go_wp2_with (first | (go_at_call 61; go_in) | (go_at_call 50; go_in))
    go_ret2
    exact ⟨none, 0, 0, by rw [he.out]; rfl, by rw [he.out]; exact Row.nil_, by repeat (first | (with_reducible exact Below.refl _ _) | (with_reducible assumption) | ((with_reducible refine bl_alloc ?_ _ ?_); (focus ((first | omega | (simp <;> omega)); done))) | ((with_reducible refine bl_set ?_ _ ?_); (focus ((first | omega | (simp <;> omega)); done))) | (with_reducible refine below_drewN ?_ _) | (with_reducible refine Below.drew ?_))⟩
  rcases bool_tf (allIn xs 1 283000) with ha | ha
  rotate_left
  · have he := Lib.hid (HM.out.trans (tab_all h64 ha))
    have HA := Lib.hid ha
    rw [← hn] at HR ⊢
    clear h ha hn
    go_enter Tryd.func31, Tryd.ntmps31
    go_wp2_with (first | (go_at_call 61; go_in) | (go_at_call 50; go_in))
    refine (allWithin_any _ _ xs p HR.out 1 283000).mono ?_
    rintro e w1 ⟨hq, hb⟩
    rw [HA.out] at hq
    subst hq
    have H1 := Lib.hid (show Below w.heap.size w w1 by repeat (first | (with_reducible exact Below.refl _ _) | (with_reducible assumption) | ((with_reducible refine bl_alloc ?_ _ ?_); (focus ((first | omega | (simp <;> omega)); done))) | ((with_reducible refine bl_set ?_ _ ?_); (focus ((first | omega | (simp <;> omega)); done))) | (with_reducible refine below_drewN ?_ _) | (with_reducible refine Below.drew ?_) | ((with_reducible refine bl_trans ?_ hb ?_); (focus ((first | omega | (simp <;> omega)); done)))))
    clear hb
    go_wp2_with fail
    go_ret2
    exact ⟨none, 0, 0, by rw [he.out]; rfl, by rw [he.out]; exact Row.nil_, by repeat (first | (with_reducible exact Below.refl _ _) | (with_reducible assumption) | ((with_reducible refine bl_alloc ?_ _ ?_); (focus ((first | omega | (simp <;> omega)); done))) | ((with_reducible refine bl_set ?_ _ ?_); (focus ((first | omega | (simp <;> omega)); done))) | (with_reducible refine below_drewN ?_ _) | (with_reducible refine Below.drew ?_) | ((with_reducible refine bl_trans ?_ H1.out ?_); (focus ((first | omega | (simp <;> omega)); done))))⟩
  have he := Lib.hid (HM.out.trans (tab_yes h64 ⟨h1, h2⟩ ha))
  have HX := Lib.hid (fun k (hk : k < n) => all_at ha (by rw [← hn]; exact hk))
  have HA := Lib.hid ha
  have n64 : n ≤ 64 := by omega
  have hcell : ∀ k, k < n → ∃ g, A = some ⟨g, 0, none⟩ ∧ g < w.heap.size ∧ w.cell? ⟨g, k, none⟩ = some (.int .i64 (xs.getD k 0)) := by
    intro k hk
    rcases h.forms with ⟨hv, rfl⟩ | ⟨g, c', hv, _, hlt, hc, _⟩
    · simp at hn; omega
    · simp only [Value.slice.injEq] at hv
      exact ⟨g, hv.1, hlt, hc k (by omega)⟩
  have HC := Lib.hid hcell
  rw [← hn] at HR ⊢
  clear h ha hcell hn
  obtain ⟨i0, hi, hz0, hz1, hz2⟩ := info_parts Tryd.info_int64
  have HI := Lib.hid hi
  have HZ0 := Lib.hid hz0
  have HZ1 := Lib.hid hz1
  have HZ2 := Lib.hid hz2
  clear hi hz0 hz1 hz2
  go_enter Tryd.func31, Tryd.ntmps31
  go_wp2_with (first | (go_at_call 61; go_in) | (go_at_call 50; go_in))
  refine (allWithin_any _ _ xs p HR.out 1 283000).mono ?_
  rintro e w1 ⟨hq, hb⟩
  rw [HA.out] at hq
  subst hq
  have H1 := Lib.hid (show Below w.heap.size w w1 by repeat (first | (with_reducible exact Below.refl _ _) | (with_reducible assumption) | ((with_reducible refine bl_alloc ?_ _ ?_); (focus ((first | omega | (simp <;> omega)); done))) | ((with_reducible refine bl_set ?_ _ ?_); (focus ((first | omega | (simp <;> omega)); done))) | (with_reducible refine below_drewN ?_ _) | (with_reducible refine Below.drew ?_) | ((with_reducible refine bl_trans ?_ hb ?_); (focus ((first | omega | (simp <;> omega)); done)))))
  clear hb
  go_wp2_with fail
  go_loopw [6, 24] (fun t i wr => ∃ k : Nat, k ≤ n ∧ i = .int .i64 (k : Int) ∧ Hid (Row 2 wr w.heap.size t ((xs.take k).map (freeV f))) ∧ Hid (Below w.heap.size w wr)) (fun _ i _ => n + 1 - (intOf i).toNat)
  case atStart => exact ⟨0, Nat.zero_le _, rfl, Row.nil_, H1.out⟩
  case round =>
    obtain ⟨k, hk, rfl, hr, hb⟩ := hrel
    have k0 : (0 : Int) ≤ (k : Int) := Int.natCast_nonneg _
    by_cases hlt : k < n
    · have hlt' : (k : Int) < (n : Int) := by omega
      obtain ⟨g, rfl, gl, gc⟩ := HC.out k hlt
      have gc' := (hb.out.cell (p := ⟨g, k, none⟩) gl).trans gc
      obtain ⟨x0, x1⟩ := HX.out k hlt
      have hs := Lib.hid (take_step f xs (k := k) (by have := HN.out; omega))
      obtain ⟨x, hx⟩ : ∃ x, x = xs.getD k 0 := ⟨_, rfl⟩
      rw [← hx] at x0 x1 gc' hs
      have HT1 := Lib.hid (HT.out.below hb.out)
      have hlen : ((xs.take k).map (freeV f)).length = k := by simp; have := HN.out; omega
      obtain ⟨ys, hy⟩ : ∃ ys, ys = (xs.take k).map (freeV f) := ⟨_, rfl⟩
      rw [← hy] at hr hs hlen
      clear hx hy gc
      obtain ⟨K, hK⟩ : ∃ K, K = freeV f x := ⟨_, rfl⟩
      rw [← hK] at hs
      have HK := Lib.hid hK
      clear hK
      go_wp2_with fail
      refine (freeLoss_any _ HT1.out f x h1 h2 x0 (by omega)).mono ?_
      rintro e w2 ⟨hq, hb2⟩
      rw [← HK.out] at hq
      subst hq
      have hr2 := Lib.hid (hr.out.later hb2)
      have H2 := Lib.hid (hb.out.trans (hb2.mono hb.out.size))
      clear hb2 hr
      go_wp2_with (first | (at_builtin; refine wpList_append_own _ rfl _ _ 27 rfl w.heap.size 2 i0 (.int .i64 0) 1 8 Tryd.underlying27 HI.out HZ0.out HZ1.out HZ2.out rfl (by decide) _ _ _ rfl (hr2.out.alloc_ _) ⟨w2.heap.size, 0, none⟩ 1 1 [.int .i64 K] rfl rfl ?c1 ?c2 ?c3 ?c4 ?c5 ?_))
      case c1 =>
        intro j u hj
        match j, hj with
        | 0, hj => simp at hj; subst hj; simp [Addr.add]
      case c2 => intro u hu; simp at hu; subst hu; rfl
      case c3 => unfold maxLen; omega
      case c4 => omega
      case c5 => have := H2.out.size; simp; omega
      · intro v' w3 hown hgrow _
        have hr3 : Hid (Row 2 w3 w.heap.size v' ((xs.take (k + 1)).map (freeV f))) := by
          show Row _ _ _ _ _
          rw [hs.out]
          exact app_row (by first | exact hlen | rfl) hown
        have hb3 := app_below (hr2.out.alloc_ _) hgrow (by have := H2.out.size; simp; omega)
        have H3 := Lib.hid (show Below w.heap.size w w3 from (bl_alloc H2.out.size _ H2.out).trans hb3)
        clear hown hgrow hb3 hr2
        go_wp2
        go_roundw
        case rel => exact ⟨k + 1, by omega, by go_num, hr3, H3⟩
        case measure => simp [intOf]; omega
    · obtain rfl : k = n := by omega
      have hx : decide ((k : Int) < (k : Int)) = false := decide_eq_false (by omega)
      have hr' : Hid (Row 2 wr w.heap.size u6 (xs.map (freeV f))) := by
        have h := hr.out
        rw [HN.out, List.take_length] at h
        exact h
      clear hr
      have hform : ∃ A c, u6 = .slice A (xs.map (freeV f)).length c := by
        rcases hr'.out.forms with ⟨rfl, hz⟩ | ⟨g, c, rfl, _⟩
        · exact ⟨none, 0, by rw [hz]; rfl⟩
        · exact ⟨_, _, rfl⟩
      obtain ⟨A1, c1, rfl⟩ := hform
      go_wp2_with fail
      go_ret2
      exact ⟨A1, (xs.map (freeV f)).length, c1, by rw [he.out]; rfl, by rw [he.out]; exact hr'.out, hb.out⟩
set_option maxRecDepth 20000 in
set_option maxHeartbeats 4000000 in
theorem spec_any (w : World) (f : Int) (jf : In64 f) (v : Value) (xs : List Int) (p : Nat) (h : Row 2 w p v xs) (ixs : ∀ n ∈ xs, In64 n) :
    Calls Tryd.prog 29 #[.int .i64 f, v] w fun e w' => ∃ A0 n0 c0, e = .returned (.tuple #[.slice A0 n0 c0, .int .i64 (freeTableM f xs).2]) ∧ Row 2 w' w.heap.size (.slice A0 n0 c0) (freeTableM f xs).1 ∧ Below w.heap.size w w' := by
  have HR := Lib.hid h
  have hl := h.len
  unfold maxLen at hl
  obtain ⟨j0, j1⟩ := jf
  clear ixs
  obtain ⟨M, hM⟩ : ∃ M, M = freeTableM f xs := ⟨_, rfl⟩
  rw [← hM]
  have HM := Lib.hid hM
  clear hM
  have hform : ∃ A c, v = .slice A xs.length c := by
    rcases h.forms with ⟨rfl, rfl⟩ | ⟨g, c, rfl, _⟩
    · exact ⟨_, _, rfl⟩
    · exact ⟨_, _, rfl⟩
  obtain ⟨A, c, rfl⟩ := hform
  obtain ⟨n, hn⟩ : ∃ n, n = xs.length := ⟨_, rfl⟩
  have HN := Lib.hid hn
  by_cases h64 : 64 < xs.length
  · have he := Lib.hid (HM.out.trans (tab_long h64))
    rw [← hn] at h64 ⊢
    clear h hn
    have hq : (64 : Int) < (n : Int) := by omega
    go_enter Tryd.func29, Tryd.ntmps29
    go_wp2_with fail
    go_ret2
    exact ⟨none, 0, 0, by rw [he.out]; rfl, by rw [he.out]; exact Row.nil_, by repeat (first | (with_reducible exact Below.refl _ _) | (with_reducible assumption) | ((with_reducible refine bl_alloc ?_ _ ?_); (focus ((first | omega | (simp <;> omega)); done))) | ((with_reducible refine bl_set ?_ _ ?_); (focus ((first | omega | (simp <;> omega)); done))) | (with_reducible refine below_drewN ?_ _) | (with_reducible refine Below.drew ?_))⟩
  have hq : ¬ (64 : Int) < (n : Int) := by omega
  have n64 : n ≤ 64 := by omega
  have hcell : ∀ k, k < n → ∃ g, A = some ⟨g, 0, none⟩ ∧ g < w.heap.size ∧ w.cell? ⟨g, k, none⟩ = some (.int .i64 (xs.getD k 0)) := by
    intro k hk
    rcases h.forms with ⟨hv, rfl⟩ | ⟨g, c', hv, _, hlt, hc, _⟩
    · simp at hn; omega
    · simp only [Value.slice.injEq] at hv
      exact ⟨g, hv.1, hlt, hc k (by omega)⟩
  have HC := Lib.hid hcell
  have HNO := Lib.hid (fun k (hk : k < n) (q : ¬ (1 ≤ xs.getD k 0 ∧ xs.getD k 0 ≤ 283000)) => HM.out.trans (tab_all h64 (allIn_no (lo := 1) (hi := 283000) (by rw [← hn]; exact hk) q)))
  have HFR := Lib.hid (fun q => HM.out.trans (tab_freq h64 q))
  have HYES := Lib.hid (fun q (a : ∀ k, k < n → 1 ≤ xs.getD k 0 ∧ xs.getD k 0 ≤ 283000) => HM.out.trans (tab_yes h64 q (allIn_yes (fun k hk => a k (by rw [hn]; exact hk)))))
  rw [← hn] at HR ⊢
  clear h hcell h64 HM hn
  obtain ⟨i0, hi, hz0, hz1, hz2⟩ := info_parts Tryd.info_int64
  have HI := Lib.hid hi
  have HZ0 := Lib.hid hz0
  have HZ1 := Lib.hid hz1
  have HZ2 := Lib.hid hz2
  clear hi hz0 hz1 hz2
  go_enter Tryd.func29, Tryd.ntmps29
  go_wp2_with (first | (go_at_call 59; go_in) | (go_at_call 47; go_in) | (go_at_call 52; go_in))
  go_loop [7] (fun i => ∃ k : Nat, k ≤ n ∧ i = .int .i64 (k : Int) ∧ Hid (∀ m, m < k → 1 ≤ xs.getD m 0 ∧ xs.getD m 0 ≤ 283000)) (fun i => n + 1 - (intOf i).toNat)
  case atStart => exact ⟨0, Nat.zero_le _, rfl, fun m h => by omega⟩
  case round =>
    obtain ⟨k, hk, rfl, hr⟩ := hrel
    have k0 : (0 : Int) ≤ (k : Int) := Int.natCast_nonneg _
    by_cases hlt : k < n
    · have hlt' : (k : Int) < (n : Int) := by omega
      obtain ⟨g, rfl, gl, gc⟩ := HC.out k hlt
      have gc' := cell_alloc gc (.cells #[] 2)
      have HK := Lib.hid (HNO.out k hlt)
      have hr' := Lib.hid (fun (q : 1 ≤ xs.getD k 0 ∧ xs.getD k 0 ≤ 283000) => (show ∀ m, m < k + 1 → 1 ≤ xs.getD m 0 ∧ xs.getD m 0 ≤ 283000 from fun m hm => by
        by_cases e : m = k
        · subst e; exact q
        · exact hr.out m (by omega)))
      clear hr
      rcases in_cases (xs.getD k 0) 1 283000 with ⟨h1, h2⟩ | h1 | ⟨h1, h2⟩
      · have hr2 := Lib.hid (hr'.out ⟨h1, h2⟩)
        clear hr' HK
        generalize xs.getD k 0 = x at gc gc' h1 h2
        go_wp2_with (first | (go_at_call 59; go_in) | (go_at_call 47; go_in) | (go_at_call 52; go_in))
        go_round
        case rel => exact ⟨k + 1, by omega, by go_num, hr2⟩
        case measure => simp [intOf]; omega
      · have he := Lib.hid (HK.out (fun q => dec_no h1 q.1))
        clear hr' HK
        generalize xs.getD k 0 = x at gc gc' h1
        go_wp2_with (first | (go_at_call 59; go_in) | (go_at_call 47; go_in) | (go_at_call 52; go_in))
        go_ret2
        exact ⟨none, 0, 0, by rw [he.out]; rfl, by rw [he.out]; exact Row.nil_, by repeat (first | (with_reducible exact Below.refl _ _) | (with_reducible assumption) | ((with_reducible refine bl_alloc ?_ _ ?_); (focus ((first | omega | (simp <;> omega)); done))) | ((with_reducible refine bl_set ?_ _ ?_); (focus ((first | omega | (simp <;> omega)); done))) | (with_reducible refine below_drewN ?_ _) | (with_reducible refine Below.drew ?_))⟩
      · have he := Lib.hid (HK.out (fun q => dec_no h2 q.2))
        clear hr' HK
        generalize xs.getD k 0 = x at gc gc' h1 h2
        go_wp2_with (first | (go_at_call 59; go_in) | (go_at_call 47; go_in) | (go_at_call 52; go_in))
        go_ret2
        exact ⟨none, 0, 0, by rw [he.out]; rfl, by rw [he.out]; exact Row.nil_, by repeat (first | (with_reducible exact Below.refl _ _) | (with_reducible assumption) | ((with_reducible refine bl_alloc ?_ _ ?_); (focus ((first | omega | (simp <;> omega)); done))) | ((with_reducible refine bl_set ?_ _ ?_); (focus ((first | omega | (simp <;> omega)); done))) | (with_reducible refine below_drewN ?_ _) | (with_reducible refine Below.drew ?_))⟩
    · obtain rfl : k = n := by omega
      have hd : decide ((k : Int) < (k : Int)) = false := decide_eq_false (by omega)
      rcases in_cases f 1 100000000 with ⟨h1, h2⟩ | h1 | ⟨h1, h2⟩
      rotate_left
      · have he := Lib.hid (HFR.out (fun q => dec_no h1 q.1))
        go_wp2_with (first | (go_at_call 59; go_in) | (go_at_call 47; go_in) | (go_at_call 52; go_in))
        go_ret2
        exact ⟨none, 0, 0, by rw [he.out]; rfl, by rw [he.out]; exact Row.nil_, by repeat (first | (with_reducible exact Below.refl _ _) | (with_reducible assumption) | ((with_reducible refine bl_alloc ?_ _ ?_); (focus ((first | omega | (simp <;> omega)); done))) | ((with_reducible refine bl_set ?_ _ ?_); (focus ((first | omega | (simp <;> omega)); done))) | (with_reducible refine below_drewN ?_ _) | (with_reducible refine Below.drew ?_))⟩
      · have he := Lib.hid (HFR.out (fun q => dec_no h2 q.2))
        go_wp2_with (first | (go_at_call 59; go_in) | (go_at_call 47; go_in) | (go_at_call 52; go_in))
        go_ret2
        exact ⟨none, 0, 0, by rw [he.out]; rfl, by rw [he.out]; exact Row.nil_, by repeat (first | (with_reducible exact Below.refl _ _) | (with_reducible assumption) | ((with_reducible refine bl_alloc ?_ _ ?_); (focus ((first | omega | (simp <;> omega)); done))) | ((with_reducible refine bl_set ?_ _ ?_); (focus ((first | omega | (simp <;> omega)); done))) | (with_reducible refine below_drewN ?_ _) | (with_reducible refine Below.drew ?_))⟩
      have he := Lib.hid (HYES.out ⟨h1, h2⟩ hr.out)
      have HX := Lib.hid hr.out
      clear hr HYES HFR HNO hd
      go_wp2_with (first | (go_at_call 59; go_in) | (go_at_call 47; go_in) | (go_at_call 52; go_in))
      go_loopw [6, 8] (fun t i wr => ∃ k2 : Nat, k2 ≤ k ∧ i = .int .i64 (k2 : Int) ∧ Hid (Row 2 wr w.heap.size t ((xs.take k2).map (freeV f))) ∧ Hid (Below w.heap.size w wr)) (fun _ i _ => k + 1 - (intOf i).toNat)
      case atStart => exact ⟨0, Nat.zero_le _, rfl, app_row0 w (Nat.le_refl _), (by repeat (first | (with_reducible exact Below.refl _ _) | (with_reducible assumption) | ((with_reducible refine bl_alloc ?_ _ ?_); (focus ((first | omega | (simp <;> omega)); done))) | ((with_reducible refine bl_set ?_ _ ?_); (focus ((first | omega | (simp <;> omega)); done))) | (with_reducible refine below_drewN ?_ _) | (with_reducible refine Below.drew ?_)) : Below _ _ _)⟩
      case round =>
        obtain ⟨k2, hk2, rfl, hr, hb⟩ := hrel
        have k20 : (0 : Int) ≤ (k2 : Int) := Int.natCast_nonneg _
        by_cases hlt : k2 < k
        · have hlt' : (k2 : Int) < (k : Int) := by omega
          obtain ⟨g, rfl, gl, gc⟩ := HC.out k2 hlt
          have gc' := (hb.out.cell (p := ⟨g, k2, none⟩) gl).trans gc
          obtain ⟨x0, x1⟩ := HX.out k2 hlt
          have hs := Lib.hid (take_step f xs (k := k2) (by have := HN.out; omega))
          obtain ⟨x, hx⟩ : ∃ x, x = xs.getD k2 0 := ⟨_, rfl⟩
          rw [← hx] at x0 x1 gc' hs
          have hlen : ((xs.take k2).map (freeV f)).length = k2 := by simp; have := HN.out; omega
          obtain ⟨ys, hy⟩ : ∃ ys, ys = (xs.take k2).map (freeV f) := ⟨_, rfl⟩
          rw [← hy] at hr hs hlen
          clear hx hy gc
          obtain ⟨K, hK⟩ : ∃ K, K = freeV f x := ⟨_, rfl⟩
          rw [← hK] at hs
          have HK := Lib.hid hK
          clear hK
          go_wp2_with fail
          refine (l09Loss_any _ f x h1 h2 x0 (by omega)).mono ?_
          rintro e w2 ⟨hq, hw⟩
          rw [← HK.out] at hq
          subst hq
          have hr2 := Lib.hid (show Row 2 w2 w.heap.size _ _ by rw [← hw]; exact hr.out)
          have H2 := Lib.hid (show Below w.heap.size w w2 by rw [← hw]; exact hb.out)
          clear hw hr gc'
          go_wp2_with (first | (at_builtin; refine wpList_append_own _ rfl _ _ 27 rfl w.heap.size 2 i0 (.int .i64 0) 1 8 Tryd.underlying27 HI.out HZ0.out HZ1.out HZ2.out rfl (by decide) _ _ _ rfl (hr2.out.alloc_ _) ⟨w2.heap.size, 0, none⟩ 1 1 [.int .i64 K] rfl rfl ?c1 ?c2 ?c3 ?c4 ?c5 ?_))
          case c1 =>
            intro j u hj
            match j, hj with
            | 0, hj => simp at hj; subst hj; simp [Addr.add]
          case c2 => intro u hu; simp at hu; subst hu; rfl
          case c3 => unfold maxLen; omega
          case c4 => omega
          case c5 => have := H2.out.size; simp; omega
          · intro v' w3 hown hgrow _
            have hr3 : Hid (Row 2 w3 w.heap.size v' ((xs.take (k2 + 1)).map (freeV f))) := by
              show Row _ _ _ _ _
              rw [hs.out]
              exact app_row (by first | exact hlen | rfl) hown
            have hb3 := app_below (hr2.out.alloc_ _) hgrow (by have := H2.out.size; simp; omega)
            have H3 := Lib.hid (show Below w.heap.size w w3 from (bl_alloc H2.out.size _ H2.out).trans hb3)
            clear hown hgrow hb3 hr2
            go_wp2
            go_roundw
            case rel => exact ⟨k2 + 1, by omega, by go_num, hr3, H3⟩
            case measure => simp [intOf]; omega
        · obtain rfl : k2 = k := by omega
          have hx : decide ((k2 : Int) < (k2 : Int)) = false := decide_eq_false (by omega)
          have hr' : Hid (Row 2 wr w.heap.size u6 (xs.map (freeV f))) := by
            have h := hr.out
            rw [HN.out, List.take_length] at h
            exact h
          clear hr
          have hform : ∃ A c, u6 = .slice A (xs.map (freeV f)).length c := by
            rcases hr'.out.forms with ⟨rfl, hz⟩ | ⟨g, c, rfl, _⟩
            · exact ⟨none, 0, by rw [hz]; rfl⟩
            · exact ⟨_, _, rfl⟩
          obtain ⟨A1, c1, rfl⟩ := hform
          go_wp2_with fail
          go_ret2
          exact ⟨A1, (xs.map (freeV f)).length, c1, by rw [he.out]; rfl, by rw [he.out]; exact hr'.out, hb.out⟩
set_option maxRecDepth 20000 in
set_option maxHeartbeats 4000000 in
theorem walk (w : World) (hT : PowTab w) (a0 : Int) (ia0 : In64 a0) (v1 : Value) (x1 : List Int) (r1 : Rd w w.heap.size v1 x1) (ix1 : ∀ n ∈ x1, In64 n) :
    Calls Tryd.prog 10 #[.int .i64 a0, v1] w fun e w' => e = .returned (.bool true) ∧ Below w.heap.size w w' := by
  have hTL := tab_len a0 x1
  have HTab := Lib.hid hT
  clear hT
  by_cases ht1 : ¬ (x1.length : Int) ≤ 1048576
  · obtain ⟨A1, c1, rfl⟩ := r1.form
    go_enter Tryd.func10, Tryd.ntmps10
    go_wp2_with fail
    go_ret
    exact ⟨rfl, Below.refl _ _⟩
  have ht1' : (x1.length : Int) ≤ 1048576 := by omega
  clear ht1
  obtain ⟨A1, c1, rfl⟩ := r1.form
  go_enter Tryd.func10, Tryd.ntmps10
  go_wp2_with fail
  refine (to_row _ x1 _ w.heap.size (by first | omega | (simp <;> omega)) (Rd.below r1 (by repeat (first | (with_reducible exact Below.refl _ _) | (with_reducible assumption) | ((with_reducible refine bl_alloc ?_ _ ?_); (focus ((first | omega | (simp <;> omega)); done))) | ((with_reducible refine bl_set ?_ _ ?_); (focus ((first | omega | (simp <;> omega)); done))) | (with_reducible refine below_drewN ?_ _) | (with_reducible refine Below.drew ?_)))) (by omega)).mono ?_
  rintro e w1 ⟨A0, n0, c0, rfl, hr0, hb⟩
  have zz1 : w.heap.size ≤ w1.heap.size := (by have := hb.size; ((try simp at this) <;> omega))
  have H1 := Lib.hid (show Below w.heap.size w w1 by repeat (first | (with_reducible exact Below.refl _ _) | (with_reducible assumption) | ((with_reducible refine bl_alloc ?_ _ ?_); (focus ((first | omega | (simp <;> omega)); done))) | ((with_reducible refine bl_set ?_ _ ?_); (focus ((first | omega | (simp <;> omega)); done))) | (with_reducible refine below_drewN ?_ _) | (with_reducible refine Below.drew ?_) | ((with_reducible refine bl_trans ?_ hb ?_); (focus ((first | omega | (simp <;> omega)); done)))))
  have R0_1 := Lib.hid hr0
  have RL0 := Lib.hid (show ∀ g, Value.ownBlock (.slice A0 n0 c0) = some g → w.heap.size ≤ g ∧ g < w1.heap.size from fun g h => by have l1 := hr0.lt g h; ((try simp at l1) <;> omega))
  clear hb hr0
  go_wp2_with fail
  refine (spec_any _ a0 ia0 _ x1 _ R0_1.out ix1).mono ?_
  rintro e w2 ⟨A1, n1, c1, rfl, hr1, hb⟩
  have zz2 : w1.heap.size ≤ w2.heap.size := (by have := hb.size; ((try simp at this) <;> omega))
  have H2 := Lib.hid (show Below w.heap.size w w2 by repeat (first | (with_reducible exact Below.refl _ _) | (with_reducible assumption) | ((with_reducible refine bl_alloc ?_ _ ?_); (focus ((first | omega | (simp <;> omega)); done))) | ((with_reducible refine bl_set ?_ _ ?_); (focus ((first | omega | (simp <;> omega)); done))) | (with_reducible refine below_drewN ?_ _) | (with_reducible refine Below.drew ?_) | ((with_reducible refine bl_trans ?_ hb ?_); (focus ((first | omega | (simp <;> omega)); done))) | ((with_reducible refine bl_trans ?_ H1.out ?_); (focus ((first | omega | (simp <;> omega)); done)))))
  have R1_2 := Lib.hid hr1
  have RL1 := Lib.hid (show ∀ g, Value.ownBlock (.slice A1 n1 c1) = some g → w1.heap.size ≤ g ∧ g < w2.heap.size from fun g h => by have l1 := hr1.lt g h; ((try simp at l1) <;> omega))
  clear hb R0_1 hr1 H1
  go_wp2_with fail
  refine (to_row _ x1 _ w.heap.size (by first | omega | (simp <;> omega)) (Rd.below r1 (by repeat (first | (with_reducible exact Below.refl _ _) | (with_reducible assumption) | ((with_reducible refine bl_alloc ?_ _ ?_); (focus ((first | omega | (simp <;> omega)); done))) | ((with_reducible refine bl_set ?_ _ ?_); (focus ((first | omega | (simp <;> omega)); done))) | (with_reducible refine below_drewN ?_ _) | (with_reducible refine Below.drew ?_) | ((with_reducible refine bl_trans ?_ H2.out ?_); (focus ((first | omega | (simp <;> omega)); done)))))) (by omega)).mono ?_
  rintro e w3 ⟨A2, n2, c2, rfl, hr2, hb⟩
  have zz3 : w2.heap.size ≤ w3.heap.size := (by have := hb.size; ((try simp at this) <;> omega))
  have H3 := Lib.hid (show Below w.heap.size w w3 by repeat (first | (with_reducible exact Below.refl _ _) | (with_reducible assumption) | ((with_reducible refine bl_alloc ?_ _ ?_); (focus ((first | omega | (simp <;> omega)); done))) | ((with_reducible refine bl_set ?_ _ ?_); (focus ((first | omega | (simp <;> omega)); done))) | (with_reducible refine below_drewN ?_ _) | (with_reducible refine Below.drew ?_) | ((with_reducible refine bl_trans ?_ hb ?_); (focus ((first | omega | (simp <;> omega)); done))) | ((with_reducible refine bl_trans ?_ H2.out ?_); (focus ((first | omega | (simp <;> omega)); done)))))
  have R1_3 := Lib.hid (Row.later R1_2.out hb)
  have R2_3 := Lib.hid hr2
  have RL2 := Lib.hid (show ∀ g, Value.ownBlock (.slice A2 n2 c2) = some g → w2.heap.size ≤ g ∧ g < w3.heap.size from fun g h => by have l1 := hr2.lt g h; ((try simp at l1) <;> omega))
  clear hb R1_2 hr2 H2
  go_wp2_with fail
  refine (impl_any _ (PowTab.below HTab.out (by repeat (first | (with_reducible exact Below.refl _ _) | (with_reducible assumption) | ((with_reducible refine bl_alloc ?_ _ ?_); (focus ((first | omega | (simp <;> omega)); done))) | ((with_reducible refine bl_set ?_ _ ?_); (focus ((first | omega | (simp <;> omega)); done))) | (with_reducible refine below_drewN ?_ _) | (with_reducible refine Below.drew ?_) | ((with_reducible refine bl_trans ?_ H3.out ?_); (focus ((first | omega | (simp <;> omega)); done)))))) a0 ia0 _ x1 _ R2_3.out ix1).mono ?_
  rintro e w4 ⟨A3, n3, c3, rfl, hr3, hb⟩
  have zz4 : w3.heap.size ≤ w4.heap.size := (by have := hb.size; ((try simp at this) <;> omega))
  have H4 := Lib.hid (show Below w.heap.size w w4 by repeat (first | (with_reducible exact Below.refl _ _) | (with_reducible assumption) | ((with_reducible refine bl_alloc ?_ _ ?_); (focus ((first | omega | (simp <;> omega)); done))) | ((with_reducible refine bl_set ?_ _ ?_); (focus ((first | omega | (simp <;> omega)); done))) | (with_reducible refine below_drewN ?_ _) | (with_reducible refine Below.drew ?_) | ((with_reducible refine bl_trans ?_ hb ?_); (focus ((first | omega | (simp <;> omega)); done))) | ((with_reducible refine bl_trans ?_ H3.out ?_); (focus ((first | omega | (simp <;> omega)); done)))))
  have R1_4 := Lib.hid (Row.later R1_3.out hb)
  have R2_4 := Lib.hid (Row.later R2_3.out hb)
  have R3_4 := Lib.hid hr3
  have RL3 := Lib.hid (show ∀ g, Value.ownBlock (.slice A3 n3 c3) = some g → w3.heap.size ≤ g ∧ g < w4.heap.size from fun g h => by have l1 := hr3.lt g h; ((try simp at l1) <;> omega))
  clear hb R1_3 R2_3 hr3 H3
  go_wp2_with fail
  refine (eq_rowsB _ _ ((freeTableM a0 x1).1) _ _ _ R3_4.out R1_4.out).mono ?_
  rintro e w5 ⟨rfl, hb⟩
  have zz5 : w4.heap.size ≤ w5.heap.size := (by have := hb.size; ((try simp at this) <;> omega))
  have H5 := Lib.hid (show Below w.heap.size w w5 by repeat (first | (with_reducible exact Below.refl _ _) | (with_reducible assumption) | ((with_reducible refine bl_alloc ?_ _ ?_); (focus ((first | omega | (simp <;> omega)); done))) | ((with_reducible refine bl_set ?_ _ ?_); (focus ((first | omega | (simp <;> omega)); done))) | (with_reducible refine below_drewN ?_ _) | (with_reducible refine Below.drew ?_) | ((with_reducible refine bl_trans ?_ hb ?_); (focus ((first | omega | (simp <;> omega)); done))) | ((with_reducible refine bl_trans ?_ H4.out ?_); (focus ((first | omega | (simp <;> omega)); done)))))
  have R1_5 := Lib.hid (Row.later R1_4.out hb)
  have R2_5 := Lib.hid (Row.later R2_4.out hb)
  have R3_5 := Lib.hid (Row.later R3_4.out hb)
  clear hb R1_4 R2_4 R3_4 H4
  go_wp2_with fail
  refine (to_row _ x1 _ w.heap.size (by first | omega | (simp <;> omega)) (Rd.below r1 (by repeat (first | (with_reducible exact Below.refl _ _) | (with_reducible assumption) | ((with_reducible refine bl_alloc ?_ _ ?_); (focus ((first | omega | (simp <;> omega)); done))) | ((with_reducible refine bl_set ?_ _ ?_); (focus ((first | omega | (simp <;> omega)); done))) | (with_reducible refine below_drewN ?_ _) | (with_reducible refine Below.drew ?_) | ((with_reducible refine bl_trans ?_ H5.out ?_); (focus ((first | omega | (simp <;> omega)); done)))))) (by omega)).mono ?_
  rintro e w6 ⟨A4, n4, c4, rfl, hr4, hb⟩
  have zz6 : w5.heap.size ≤ w6.heap.size := (by have := hb.size; ((try simp at this) <;> omega))
  have H6 := Lib.hid (show Below w.heap.size w w6 by repeat (first | (with_reducible exact Below.refl _ _) | (with_reducible assumption) | ((with_reducible refine bl_alloc ?_ _ ?_); (focus ((first | omega | (simp <;> omega)); done))) | ((with_reducible refine bl_set ?_ _ ?_); (focus ((first | omega | (simp <;> omega)); done))) | (with_reducible refine below_drewN ?_ _) | (with_reducible refine Below.drew ?_) | ((with_reducible refine bl_trans ?_ hb ?_); (focus ((first | omega | (simp <;> omega)); done))) | ((with_reducible refine bl_trans ?_ H5.out ?_); (focus ((first | omega | (simp <;> omega)); done)))))
  have R1_6 := Lib.hid (Row.later R1_5.out hb)
  have R2_6 := Lib.hid (Row.later R2_5.out hb)
  have R3_6 := Lib.hid (Row.later R3_5.out hb)
  have R4_6 := Lib.hid hr4
  have RL4 := Lib.hid (show ∀ g, Value.ownBlock (.slice A4 n4 c4) = some g → w5.heap.size ≤ g ∧ g < w6.heap.size from fun g h => by have l1 := hr4.lt g h; ((try simp at l1) <;> omega))
  clear hb R1_5 R2_5 R3_5 hr4 H5
  go_wp2_with fail
  refine (eq_rowsB _ _ x1 _ _ _ R2_6.out R4_6.out).mono ?_
  rintro e w7 ⟨rfl, hb⟩
  have zz7 : w6.heap.size ≤ w7.heap.size := (by have := hb.size; ((try simp at this) <;> omega))
  have H7 := Lib.hid (show Below w.heap.size w w7 by repeat (first | (with_reducible exact Below.refl _ _) | (with_reducible assumption) | ((with_reducible refine bl_alloc ?_ _ ?_); (focus ((first | omega | (simp <;> omega)); done))) | ((with_reducible refine bl_set ?_ _ ?_); (focus ((first | omega | (simp <;> omega)); done))) | (with_reducible refine below_drewN ?_ _) | (with_reducible refine Below.drew ?_) | ((with_reducible refine bl_trans ?_ hb ?_); (focus ((first | omega | (simp <;> omega)); done))) | ((with_reducible refine bl_trans ?_ H6.out ?_); (focus ((first | omega | (simp <;> omega)); done)))))
  have R1_7 := Lib.hid (Row.later R1_6.out hb)
  have R2_7 := Lib.hid (Row.later R2_6.out hb)
  have R3_7 := Lib.hid (Row.later R3_6.out hb)
  clear hb R1_6 R2_6 R3_6 R4_6 H6
  go_wp2_with fail
  refine (mark_rowW _ x1 _ _ _ R2_7.out (by omega) (by omega)).mono ?_
  rintro e w8 ⟨rfl, hr2, hb⟩
  have zz8 : w7.heap.size ≤ w8.heap.size := (by have := hb.size; ((try simp at this) <;> omega))
  have H8 := Lib.hid (show Below w.heap.size w w8 from Below.trans (by repeat (first | (with_reducible exact Below.refl _ _) | (with_reducible assumption) | ((with_reducible refine bl_alloc ?_ _ ?_); (focus ((first | omega | (simp <;> omega)); done))) | ((with_reducible refine bl_set ?_ _ ?_); (focus ((first | omega | (simp <;> omega)); done))) | (with_reducible refine below_drewN ?_ _) | (with_reducible refine Below.drew ?_) | ((with_reducible refine bl_trans ?_ H7.out ?_); (focus ((first | omega | (simp <;> omega)); done))))) (hb.below (by first | omega | (simp <;> omega)) (fun g hs => by have := (RL2.out g hs).1; omega)))
  have R1_8 := Lib.hid (Row.writes R1_7.out hb (fun g h hs => by have h1 := RL1.out g h; have h2 := RL2.out g hs; omega))
  have R3_8 := Lib.hid (Row.writes R3_7.out hb (fun g h hs => by have h1 := RL3.out g h; have h2 := RL2.out g hs; omega))
  have R2_8 := Lib.hid hr2
  clear hb R1_7 R3_7 R2_7 hr2 H7
  go_wp2_with fail
  refine (eq_rowsB _ _ ((freeTableM a0 x1).1) _ _ _ R3_8.out R1_8.out).mono ?_
  rintro e w9 ⟨rfl, hb⟩
  have zz9 : w8.heap.size ≤ w9.heap.size := (by have := hb.size; ((try simp at this) <;> omega))
  have H9 := Lib.hid (show Below w.heap.size w w9 by repeat (first | (with_reducible exact Below.refl _ _) | (with_reducible assumption) | ((with_reducible refine bl_alloc ?_ _ ?_); (focus ((first | omega | (simp <;> omega)); done))) | ((with_reducible refine bl_set ?_ _ ?_); (focus ((first | omega | (simp <;> omega)); done))) | (with_reducible refine below_drewN ?_ _) | (with_reducible refine Below.drew ?_) | ((with_reducible refine bl_trans ?_ hb ?_); (focus ((first | omega | (simp <;> omega)); done))) | ((with_reducible refine bl_trans ?_ H8.out ?_); (focus ((first | omega | (simp <;> omega)); done)))))
  have R1_9 := Lib.hid (Row.later R1_8.out hb)
  have R3_9 := Lib.hid (Row.later R3_8.out hb)
  clear hb R1_8 R2_8 R3_8 H8
  go_wp2_with fail
  refine (mark_rowW _ ((freeTableM a0 x1).1) _ _ _ R3_9.out (by omega) (by omega)).mono ?_
  rintro e w10 ⟨rfl, hr3, hb⟩
  have zz10 : w9.heap.size ≤ w10.heap.size := (by have := hb.size; ((try simp at this) <;> omega))
  have H10 := Lib.hid (show Below w.heap.size w w10 from Below.trans (by repeat (first | (with_reducible exact Below.refl _ _) | (with_reducible assumption) | ((with_reducible refine bl_alloc ?_ _ ?_); (focus ((first | omega | (simp <;> omega)); done))) | ((with_reducible refine bl_set ?_ _ ?_); (focus ((first | omega | (simp <;> omega)); done))) | (with_reducible refine below_drewN ?_ _) | (with_reducible refine Below.drew ?_) | ((with_reducible refine bl_trans ?_ H9.out ?_); (focus ((first | omega | (simp <;> omega)); done))))) (hb.below (by first | omega | (simp <;> omega)) (fun g hs => by have := (RL3.out g hs).1; omega)))
  have R1_10 := Lib.hid (Row.writes R1_9.out hb (fun g h hs => by have h1 := RL1.out g h; have h2 := RL3.out g hs; omega))
  have R3_10 := Lib.hid hr3
  clear hb R1_9 R3_9 hr3 H9
  go_wp2_with fail
  refine (held_rowB _ _ _ _ _ R3_10.out (by omega) (by omega)).mono ?_
  rintro e w11 ⟨rfl, hb⟩
  have zz11 : w10.heap.size ≤ w11.heap.size := (by have := hb.size; ((try simp at this) <;> omega))
  have H11 := Lib.hid (show Below w.heap.size w w11 by repeat (first | (with_reducible exact Below.refl _ _) | (with_reducible assumption) | ((with_reducible refine bl_alloc ?_ _ ?_); (focus ((first | omega | (simp <;> omega)); done))) | ((with_reducible refine bl_set ?_ _ ?_); (focus ((first | omega | (simp <;> omega)); done))) | (with_reducible refine below_drewN ?_ _) | (with_reducible refine Below.drew ?_) | ((with_reducible refine bl_trans ?_ hb ?_); (focus ((first | omega | (simp <;> omega)); done))) | ((with_reducible refine bl_trans ?_ H10.out ?_); (focus ((first | omega | (simp <;> omega)); done)))))
  have R1_11 := Lib.hid (Row.later R1_10.out hb)
  have R3_11 := Lib.hid (Row.later R3_10.out hb)
  clear hb R1_10 R3_10 H10
  go_wp2_with fail
  refine (to_row _ x1 _ w.heap.size (by first | omega | (simp <;> omega)) (Rd.below r1 (by repeat (first | (with_reducible exact Below.refl _ _) | (with_reducible assumption) | ((with_reducible refine bl_alloc ?_ _ ?_); (focus ((first | omega | (simp <;> omega)); done))) | ((with_reducible refine bl_set ?_ _ ?_); (focus ((first | omega | (simp <;> omega)); done))) | (with_reducible refine below_drewN ?_ _) | (with_reducible refine Below.drew ?_) | ((with_reducible refine bl_trans ?_ H11.out ?_); (focus ((first | omega | (simp <;> omega)); done)))))) (by omega)).mono ?_
  rintro e w12 ⟨A5, n5, c5, rfl, hr5, hb⟩
  have zz12 : w11.heap.size ≤ w12.heap.size := (by have := hb.size; ((try simp at this) <;> omega))
  have H12 := Lib.hid (show Below w.heap.size w w12 by repeat (first | (with_reducible exact Below.refl _ _) | (with_reducible assumption) | ((with_reducible refine bl_alloc ?_ _ ?_); (focus ((first | omega | (simp <;> omega)); done))) | ((with_reducible refine bl_set ?_ _ ?_); (focus ((first | omega | (simp <;> omega)); done))) | (with_reducible refine below_drewN ?_ _) | (with_reducible refine Below.drew ?_) | ((with_reducible refine bl_trans ?_ hb ?_); (focus ((first | omega | (simp <;> omega)); done))) | ((with_reducible refine bl_trans ?_ H11.out ?_); (focus ((first | omega | (simp <;> omega)); done)))))
  have R1_12 := Lib.hid (Row.later R1_11.out hb)
  have R3_12 := Lib.hid (Row.later R3_11.out hb)
  have R5_12 := Lib.hid hr5
  have RL5 := Lib.hid (show ∀ g, Value.ownBlock (.slice A5 n5 c5) = some g → w11.heap.size ≤ g ∧ g < w12.heap.size from fun g h => by have l1 := hr5.lt g h; ((try simp at l1) <;> omega))
  clear hb R1_11 R3_11 hr5 H11
  go_wp2_with fail
  refine (impl_any _ (PowTab.below HTab.out (by repeat (first | (with_reducible exact Below.refl _ _) | (with_reducible assumption) | ((with_reducible refine bl_alloc ?_ _ ?_); (focus ((first | omega | (simp <;> omega)); done))) | ((with_reducible refine bl_set ?_ _ ?_); (focus ((first | omega | (simp <;> omega)); done))) | (with_reducible refine below_drewN ?_ _) | (with_reducible refine Below.drew ?_) | ((with_reducible refine bl_trans ?_ H12.out ?_); (focus ((first | omega | (simp <;> omega)); done)))))) a0 ia0 _ x1 _ R5_12.out ix1).mono ?_
  rintro e w13 ⟨A6, n6, c6, rfl, hr6, hb⟩
  have zz13 : w12.heap.size ≤ w13.heap.size := (by have := hb.size; ((try simp at this) <;> omega))
  have H13 := Lib.hid (show Below w.heap.size w w13 by repeat (first | (with_reducible exact Below.refl _ _) | (with_reducible assumption) | ((with_reducible refine bl_alloc ?_ _ ?_); (focus ((first | omega | (simp <;> omega)); done))) | ((with_reducible refine bl_set ?_ _ ?_); (focus ((first | omega | (simp <;> omega)); done))) | (with_reducible refine below_drewN ?_ _) | (with_reducible refine Below.drew ?_) | ((with_reducible refine bl_trans ?_ hb ?_); (focus ((first | omega | (simp <;> omega)); done))) | ((with_reducible refine bl_trans ?_ H12.out ?_); (focus ((first | omega | (simp <;> omega)); done)))))
  have R1_13 := Lib.hid (Row.later R1_12.out hb)
  have R3_13 := Lib.hid (Row.later R3_12.out hb)
  have R6_13 := Lib.hid hr6
  have RL6 := Lib.hid (show ∀ g, Value.ownBlock (.slice A6 n6 c6) = some g → w12.heap.size ≤ g ∧ g < w13.heap.size from fun g h => by have l1 := hr6.lt g h; ((try simp at l1) <;> omega))
  clear hb R1_12 R3_12 R5_12 hr6 H12
  go_wp2_with fail
  refine (eq_rowsB _ _ ((freeTableM a0 x1).1) _ _ _ R6_13.out R1_13.out).mono ?_
  rintro e w14 ⟨rfl, hb⟩
  have zz14 : w13.heap.size ≤ w14.heap.size := (by have := hb.size; ((try simp at this) <;> omega))
  have H14 := Lib.hid (show Below w.heap.size w w14 by repeat (first | (with_reducible exact Below.refl _ _) | (with_reducible assumption) | ((with_reducible refine bl_alloc ?_ _ ?_); (focus ((first | omega | (simp <;> omega)); done))) | ((with_reducible refine bl_set ?_ _ ?_); (focus ((first | omega | (simp <;> omega)); done))) | (with_reducible refine below_drewN ?_ _) | (with_reducible refine Below.drew ?_) | ((with_reducible refine bl_trans ?_ hb ?_); (focus ((first | omega | (simp <;> omega)); done))) | ((with_reducible refine bl_trans ?_ H13.out ?_); (focus ((first | omega | (simp <;> omega)); done)))))
  have R3_14 := Lib.hid (Row.later R3_13.out hb)
  clear hb R1_13 R3_13 R6_13 H13
  go_wp2_with fail
  refine (held_rowB _ _ _ _ _ R3_14.out (by omega) (by omega)).mono ?_
  rintro e w15 ⟨rfl, hb⟩
  have zz15 : w14.heap.size ≤ w15.heap.size := (by have := hb.size; ((try simp at this) <;> omega))
  have H15 := Lib.hid (show Below w.heap.size w w15 by repeat (first | (with_reducible exact Below.refl _ _) | (with_reducible assumption) | ((with_reducible refine bl_alloc ?_ _ ?_); (focus ((first | omega | (simp <;> omega)); done))) | ((with_reducible refine bl_set ?_ _ ?_); (focus ((first | omega | (simp <;> omega)); done))) | (with_reducible refine below_drewN ?_ _) | (with_reducible refine Below.drew ?_) | ((with_reducible refine bl_trans ?_ hb ?_); (focus ((first | omega | (simp <;> omega)); done))) | ((with_reducible refine bl_trans ?_ H14.out ?_); (focus ((first | omega | (simp <;> omega)); done)))))
  clear hb R3_14 H14
  go_wp2_with fail
  go_ret
  exact ⟨rfl, (by repeat (first | (with_reducible exact Below.refl _ _) | (with_reducible assumption) | ((with_reducible refine bl_alloc ?_ _ ?_); (focus ((first | omega | (simp <;> omega)); done))) | ((with_reducible refine bl_set ?_ _ ?_); (focus ((first | omega | (simp <;> omega)); done))) | (with_reducible refine below_drewN ?_ _) | (with_reducible refine Below.drew ?_) | ((with_reducible refine bl_trans ?_ H15.out ?_); (focus ((first | omega | (simp <;> omega)); done)))))⟩
end Go.Proofs.YtbmmgkicgcdpmaaDoor.fnExactFreeTable
