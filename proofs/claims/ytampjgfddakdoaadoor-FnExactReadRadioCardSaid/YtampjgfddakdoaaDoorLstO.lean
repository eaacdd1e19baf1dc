/-
  The text of a list out of range: empty. The conditions are the hypotheses.
-/
import Derived.Test.YtampjgfddakdoaaDoorRows
import Derived.Test.YtampjgfddakdoaaDoorLib
import Derived.Test.YtampjgfddakdoaaDoorShelf
import Derived.Test.YtampjgfddakdoaaDoorWithin
import Derived.Test.YtampjgfddakdoaaDoorDec
import Derived.Test.YtampjgfddakdoaaDoorGRow
import Derived.Test.YtampjgfddakdoaaDoorDecS
import Derived.Test.YtampjgfddakdoaaDoorListT
import Derived.Lib.ItoaLen
import Derived.Laws.Concat
import Derived.Laws.MakeOwn
import Derived.Outline
namespace Go.Proofs.YtampjgfddakdoaaDoor
open Go.RowKit
set_option linter.unusedSimpArgs false
set_option linter.unusedVariables false
set_option maxRecDepth 20000 in
set_option maxHeartbeats 4000000 in
theorem ListText_out (w : World) (hT : PowTab w) (v : Value) (xs : List Int) (p : Nat) (h : Row 2 w p v xs) (hx : 64 < xs.length ∨ (0 < xs.length ∧ ¬ lst12 xs)) (hl : xs.length ≤ 1000) :
    Calls Tryd.prog 45 #[v] w fun e w' => e = .returned (.string ⟨#[]⟩) ∧ Below w.heap.size w w' := by
  have h0 : 0 < xs.length := by omega
  rcases h.forms with ⟨_, hz⟩ | ⟨g, cap, rfl, _, gl, hc, _⟩
  · rw [hz] at h0; simp at h0
  by_cases h64 : 64 < xs.length
  · have h64' : (64 : Int) < (xs.length : Int) := by omega
    clear h hc hx hT
    go_enter Tryd.func45, Tryd.ntmps45
    go_wp2_with fail
    go_ret
    exact ⟨rfl, by repeat (first | (with_reducible exact Below.refl _ _) | (with_reducible assumption) | ((with_reducible refine bl_alloc ?_ _ ?_); (focus ((first | omega | (simp <;> omega)); done))) | ((with_reducible refine bl_set ?_ _ ?_); (focus ((first | omega | (simp <;> omega)); done))) | (with_reducible refine below_drewN ?_ _) | (with_reducible refine Below.drew ?_))⟩
  have HPT := Lib.hid hT
  have HNB := Lib.hid (show ¬ lst12 xs by rcases hx with q | q; omega; exact q.2)
  have HC := Lib.hid hc
  clear h hc hx hT
  obtain ⟨n, hn⟩ : ∃ n, n = xs.length := ⟨_, rfl⟩
  have HN := Lib.hid hn
  rw [← hn] at h0 hl HC h64 ⊢
  clear hn
  have n0 : 0 < n := by omega
  have h0' : ¬ n = 0 := by omega
  have b0 : ((n : Int) == 0) = false := by rw [beq_eq_false_iff_ne]; omega
  have b1 : (n == 0) = false := by simpa using h0'
  have b2 : ¬ ((64 : Int) < (n : Int)) := by omega
  obtain ⟨i0, hi, hz0, hz1, hz2⟩ := info_parts Tryd.info_str
  obtain ⟨WM, hmk, hown, hgrow⟩ := run_make_own (P := Tryd.prog) w w.heap.size 43 9 i0 (.string ⟨#[]⟩) 1 Tryd.underlying43 hi hz0 hz1 .i64 .i64 n (by rw [hz2]; omega) (by unfold maxLen; omega) (Nat.le_refl _)
  have HR0 : Hid (GRow 9 WM w.heap.size (.slice (some ⟨w.heap.size, 0, none⟩) 0 n) []) := hown
  have H0 : Hid (Below w.heap.size w WM) := ⟨hgrow.os, hgrow.tape, hgrow.output, hgrow.size, fun k hk => hgrow.block k hk (fun q => by cases q)⟩
  have HI := Lib.hid hi
  have HZ0 := Lib.hid hz0
  have HZ1 := Lib.hid hz1
  have HZ2 := Lib.hid hz2
  clear hi hz0 hz1 hz2 hown hgrow
  go_enter Tryd.func45, Tryd.ntmps45
  go_wp2_with fail
  clear hmk
  go_loopw [3, 17] (fun t i wr => ∃ k : Nat, k ≤ n ∧ i = .int .i64 (k : Int) ∧ Hid (∀ j, j < k → -1000000000000 ≤ xs.getD j 0 ∧ xs.getD j 0 ≤ 1000000000000) ∧ Hid (GRow 9 wr w.heap.size t ((xs.take k).map encS)) ∧ Hid (Below w.heap.size w wr)) (fun _ i _ => n + 1 - (intOf i).toNat)
  case atStart => exact ⟨0, Nat.zero_le _, rfl, (fun j hj => absurd hj (by omega)), HR0, H0⟩
  case round =>
    obtain ⟨k, hk, rfl, hin0, hr, hbw⟩ := hrel
    have k0 : (0 : Int) ≤ (k : Int) := Int.natCast_nonneg _
    have zw : w.heap.size ≤ wr.heap.size := hbw.out.size
    by_cases hlt : k < n
    · have hlt' : (k : Int) < (n : Int) := by omega
      have ck := (hbw.out.cell (p := ⟨g, k, none⟩) gl).trans (HC.out k hlt)
      have hst : Hid ((xs.take (k + 1)).map encS = (xs.take k).map encS ++ [encS (xs.getD k 0)]) := by
        show _ = _
        rw [List.take_succ_eq_append_getElem (by have := HN.out; omega), List.map_append]
        simp [show k < xs.length by have := HN.out; omega]
      have hlk : ((xs.take k).map encS).length = k := by rw [List.length_map, List.length_take, ← HN.out]; omega
      obtain ⟨x, hxx⟩ : ∃ x, x = xs.getD k 0 := ⟨_, rfl⟩
      rw [← hxx] at ck hst
      by_cases hx : -1000000000000 ≤ x ∧ x ≤ 1000000000000
      rotate_left
      · have hin : inB x (-1000000000000) 1000000000000 = false := inB_no hx
        clear hst hr hx hxx
        go_wp2_with fail
        refine (within_any _ x (-1000000000000) 1000000000000).mono ?_
        rintro e w1 ⟨he, rfl⟩
        rw [hin] at he
        subst he
        go_wp2_with fail
        go_ret
        exact ⟨rfl, hbw.out⟩
      obtain ⟨hx0, hx1⟩ := hx
      have HIN : Hid (∀ j, j < k + 1 → -1000000000000 ≤ xs.getD j 0 ∧ xs.getD j 0 ≤ 1000000000000) := fun j hj => by
        by_cases q : j = k
        · subst q; rw [← hxx]; exact ⟨hx0, hx1⟩
        · exact hin0.out j (by omega)
      clear hin0
      have hin : inB x (-1000000000000) 1000000000000 = true := inB_yes hx0 hx1
      have HD : Hid (∀ W : World, Below w.heap.size w W → Calls Tryd.prog 52 #[.int .i64 x] W fun e w' => e = .returned (encS x) ∧ Below W.heap.size W w') := fun W hW => Decimal_any W (HPT.out.below hW) x (by omega)
      obtain ⟨us, hus⟩ : ∃ us, us = (xs.take k).map encS := ⟨_, rfl⟩
      rw [← hus] at hr hst hlk
      obtain ⟨I, hI⟩ : ∃ I : ByteArray, I = ⟨(Lib.itoa x).toArray⟩ := ⟨_, rfl⟩
      have hxI : encS x = .string I := by rw [hI]; rfl
      rw [hxI] at hst HD
      clear hxI
      clear hI hus hxx
      go_wp2_with fail
      refine (within_any _ x (-1000000000000) 1000000000000).mono ?_
      rintro e w1 ⟨he, rfl⟩
      rw [hin] at he
      subst he
      go_wp2_with fail
      refine (HD.out _ (by repeat (first | (with_reducible exact Below.refl _ _) | (with_reducible assumption) | ((with_reducible refine bl_alloc ?_ _ ?_); (focus ((first | omega | (simp <;> omega)); done))) | ((with_reducible refine bl_set ?_ _ ?_); (focus ((first | omega | (simp <;> omega)); done))) | (with_reducible refine below_drewN ?_ _) | (with_reducible refine Below.drew ?_) | ((with_reducible refine bl_trans ?_ hbw.out ?_); (focus ((first | omega | (simp <;> omega)); done)))))).mono ?_
      rintro e w2 ⟨rfl, hb2⟩
      have zw2 : wr.heap.size ≤ w2.heap.size := hb2.size
      have H2 := Lib.hid (show Below w.heap.size w w2 from hbw.out.trans (hb2.mono zw))
      have hr2 := Lib.hid (hr.out.later hb2)
      have zw3 : w.heap.size ≤ w2.heap.size := by omega
      clear hb2 hr hbw ck hin
      go_wp2_with (first | (at_builtin; refine wpList_append_own _ rfl _ _ 43 rfl w.heap.size 9 i0 (.string ⟨#[]⟩) 1 16 Tryd.underlying43 HI.out HZ0.out HZ1.out HZ2.out rfl (by decide) _ _ _ rfl (hr2.out.alloc_ _) ⟨w2.heap.size, 0, none⟩ 1 1 [.string I] rfl rfl ?c1 ?c2 ?c3 ?c4 ?c5 ?_))
      case c1 =>
        intro j u hu
        match j, hu with
        | 0, hu => simp at hu; subst hu; simp [Addr.add]
      case c2 => intro u hu; simp at hu; subst hu; rfl
      case c3 => (try simp); unfold maxLen; omega
      case c4 => (try simp); omega
      case c5 => simp; omega
      · intro v' w3 hown hgrow _
        have hr3 : Hid (GRow 9 w3 w.heap.size v' ((xs.take (k + 1)).map encS)) := by
          show GRow _ _ _ _ _
          rw [hst.out]
          exact gapp_row hlk hown
        have hb3 := gapp_below (hr2.out.alloc_ _) hgrow (by simp; omega)
        have H3 := Lib.hid (show Below w.heap.size w w3 from (bl_alloc zw3 _ H2.out).trans hb3)
        clear hown hgrow hb3 hr2 H2
        go_wp2
        refine ⟨?_, ?_⟩
        · first
            | ((repeat apply Exists.intro); (refine ⟨?_, rfl⟩); exact ⟨k + 1, hlt, by simp, HIN, hr3, H3⟩)
            | exact ⟨k + 1, hlt, by simp, HIN, hr3, H3⟩
        · first | (simp [intOf]; done) | (simp [intOf]; omega)
    · exfalso
      exact HNB.out (fun j hj => hin0.out j (by have := HN.out; omega))
end Go.Proofs.YtampjgfddakdoaaDoor
