/-
  Contracts of the text of a list of numbers: the program's and the reference's: one model. The conditions are the hypotheses.
-/
import Derived.Test.YtampjgfddakdoaaDoorRows
import Derived.Test.YtampjgfddakdoaaDoorLib
import Derived.Test.YtampjgfddakdoaaDoorShelf
import Derived.Test.YtampjgfddakdoaaDoorWithin
import Derived.Test.YtampjgfddakdoaaDoorDec
import Derived.Test.YtampjgfddakdoaaDoorGRow
import Derived.Test.YtampjgfddakdoaaDoorDecS
import Derived.Lib.ItoaLen
import Derived.Laws.Concat
import Derived.Laws.MakeOwn
import Derived.Outline
namespace Go.Proofs.YtampjgfddakdoaaDoor
open Go.RowKit
set_option linter.unusedSimpArgs false
set_option linter.unusedVariables false
/-- The text of the first numbers. -/
def txtK (xs : List Int) (k : Nat) : List UInt8 := Lib.join ((xs.take k).map Lib.itoa) [44]
def listT (xs : List Int) : List UInt8 := if xs.length = 0 then [45] else txtK xs xs.length
def lst12 (xs : List Int) : Prop := ∀ k, k < xs.length → -1000000000000 ≤ xs.getD k 0 ∧ xs.getD k 0 ≤ 1000000000000
theorem txtK_zero (xs : List Int) : txtK xs 0 = [] := by unfold txtK; rw [List.take_zero]; rfl
theorem txtK_one {xs : List Int} (h : 0 < xs.length) : txtK xs 1 = Lib.itoa (xs.getD 0 0) := by
  cases xs with
  | nil => simp at h
  | cons x r => unfold txtK; simp only [List.take_succ_cons, List.take_zero, List.map_cons, List.map_nil]; exact Lib.join_one _ _
theorem txtK_next {xs : List Int} {k : Nat} (h0 : 0 < k) (h : k < xs.length) : txtK xs (k + 1) = txtK xs k ++ [44] ++ Lib.itoa (xs.getD k 0) := by
  cases xs with
  | nil => simp at h
  | cons x r =>
    cases k with
    | zero => omega
    | succ j =>
      have hj : j < r.length := by simpa using h
      unfold txtK
      rw [List.take_succ_cons, List.take_succ_cons, List.map_cons, List.map_cons, Lib.join_cons, Lib.join_cons, List.map_take, List.map_take, Lib.joinTail_take_succ [44] (r.map Lib.itoa) j (Lib.itoa (r.getD j 0)) (by rw [List.getElem?_map, List.getElem?_eq_getElem hj]; simp [hj])]
      simp [List.append_assoc]
theorem itoa_21 {n : Int} (h0 : -1000000000000 ≤ n) (h1 : n ≤ 1000000000000) : (Lib.itoa n).length ≤ 21 := Lib.itoa_length_le n (by omega) (by omega)
theorem txtK_len {xs : List Int} (hb : lst12 xs) : ∀ k, k ≤ xs.length → (txtK xs k).length ≤ 22 * k
  | 0, _ => by rw [txtK_zero]; exact Nat.le_refl _
  | k + 1, h => by
    have hi := itoa_21 (hb k (by omega)).1 (hb k (by omega)).2
    by_cases h0 : k = 0
    · subst h0
      rw [txtK_one (by omega)]
      omega
    · have := txtK_len hb k (by omega)
      rw [txtK_next (by omega) (by omega)]
      simp only [List.length_append, List.length_cons, List.length_nil]
      omega
theorem str_add (a b : List UInt8) (h : a.length + b.length ≤ 100000) (W : World) : (Op.stringOp .add ⟨a.toArray⟩ ⟨b.toArray⟩).run Tryd.prog W = .ok (.string ⟨(a ++ b).toArray⟩) W := by
  refine (run_string_add_sum (P := Tryd.prog) (w := W) ⟨a.toArray⟩ ⟨b.toArray⟩ (by show a.toArray.size + b.toArray.size ≤ _; simp; omega)).trans ?_
  have e : (⟨a.toArray⟩ ++ ⟨b.toArray⟩ : ByteArray) = ⟨(a ++ b).toArray⟩ := by
    apply ByteArray.ext
    simp
  rw [e]
theorem Tryd.info_str : (Tryd.prog.info? 9).map (fun i => (i.zero, i.size, i.bytes)) = some (some (.string ⟨#[]⟩), 1, 16) := by kernel_rfl
def encS (n : Int) : Value := .string ⟨(Lib.itoa n).toArray⟩
theorem bytes_back (xs : List Int) : (xs.map (fun n => (⟨(Lib.itoa n).toArray⟩ : ByteArray))).map (·.data.toList) = xs.map Lib.itoa := by
  rw [List.map_map]
  apply List.map_congr_left
  intro n _
  simp
set_option maxRecDepth 20000 in
set_option maxHeartbeats 4000000 in
theorem ListText_any (w : World) (hT : PowTab w) (v : Value) (xs : List Int) (p : Nat) (h : Row 2 w p v xs) (hb : lst12 xs) (hl : xs.length ≤ 64) :
    Calls Tryd.prog 45 #[v] w fun e w' => e = .returned (.string ⟨(listT xs).toArray⟩) ∧ Below w.heap.size w w' := by
  by_cases h0 : xs.length = 0
  · have ht : listT xs = [45] := if_pos h0
    rw [ht]
    have fc : ∃ A c, v = .slice A 0 c := by rcases h.forms with ⟨rfl, rfl⟩ | ⟨g, c, rfl, _⟩ <;> first | exact ⟨_, _, rfl⟩ | (rw [h0]; exact ⟨_, _, rfl⟩)
    obtain ⟨A, c, rfl⟩ := fc
    clear h hb hT
    go_enter Tryd.func45, Tryd.ntmps45
    go_wp2_with fail
    go_ret
    exact ⟨rfl, by repeat (first | (with_reducible exact Below.refl _ _) | (with_reducible assumption) | ((with_reducible refine bl_alloc ?_ _ ?_); (focus ((first | omega | (simp <;> omega)); done))) | ((with_reducible refine bl_set ?_ _ ?_); (focus ((first | omega | (simp <;> omega)); done))) | (with_reducible refine below_drewN ?_ _) | (with_reducible refine Below.drew ?_))⟩
  have HTX : Hid (listT xs = txtK xs xs.length) := if_neg h0
  rw [HTX.out]
  rcases h.forms with ⟨_, hz⟩ | ⟨g, cap, rfl, _, gl, hc, _⟩
  · rw [hz] at h0; simp at h0
  have HPT := Lib.hid hT
  have HB := Lib.hid hb
  have HC := Lib.hid hc
  have HLN := Lib.hid (txtK_len hb)
  clear h hc hb hT
  obtain ⟨n, hn⟩ : ∃ n, n = xs.length := ⟨_, rfl⟩
  have HN := Lib.hid hn
  rw [← hn] at h0 hl HC HLN ⊢
  clear hn HTX
  have n0 : 0 < n := by omega
  have b0 : ((n : Int) == 0) = false := by rw [beq_eq_false_iff_ne]; omega
  have b1 : (n == 0) = false := by simpa using h0
  have b2 : ¬ ((64 : Int) < (n : Int)) := by omega
  obtain ⟨i0, hi, hz0, hz1, hz2⟩ := info_parts Tryd.info_str
  obtain ⟨WM, hmk, hown, hgrow⟩ := run_make_own (P := Tryd.prog) w w.heap.size 43 9 i0 (.string ⟨#[]⟩) 1 Tryd.underlying43 hi hz0 hz1 .i64 .i64 n (by rw [hz2]; omega) (by unfold maxLen; omega) (Nat.le_refl _)
  have HR0 : Hid (GRow 9 WM w.heap.size (.slice (some ⟨w.heap.size, 0, none⟩) 0 n) []) := hown
  have H0 : Hid (Below w.heap.size w WM) := ⟨hgrow.os, hgrow.tape, hgrow.output, hgrow.size, fun k hk => hgrow.block k hk (fun q => by cases q)⟩
  have HI := Lib.hid hi
  have HZ0 := Lib.hid hz0
  have HZ1 := Lib.hid hz1
  have HZ2 := Lib.hid hz2
  clear hi hz0 hz1 hz2 hown hgrow
  go_enter Tryd.func45, Tryd.ntmps45
  go_wp2_with fail
  clear hmk
  go_loopw [3, 17] (fun t i wr => ∃ k : Nat, k ≤ n ∧ i = .int .i64 (k : Int) ∧ Hid (GRow 9 wr w.heap.size t ((xs.take k).map encS)) ∧ Hid (Below w.heap.size w wr)) (fun _ i _ => n + 1 - (intOf i).toNat)
  case atStart => exact ⟨0, Nat.zero_le _, rfl, HR0, H0⟩
  case round =>
    obtain ⟨k, hk, rfl, hr, hbw⟩ := hrel
    have k0 : (0 : Int) ≤ (k : Int) := Int.natCast_nonneg _
    have zw : w.heap.size ≤ wr.heap.size := hbw.out.size
    by_cases hlt : k < n
    · have hlt' : (k : Int) < (n : Int) := by omega
      have ck := (hbw.out.cell (p := ⟨g, k, none⟩) gl).trans (HC.out k hlt)
      have hx := HB.out k (by have := HN.out; omega)
      have hst : Hid ((xs.take (k + 1)).map encS = (xs.take k).map encS ++ [encS (xs.getD k 0)]) := by
        show _ = _
        rw [List.take_succ_eq_append_getElem (by have := HN.out; omega), List.map_append]
        simp [show k < xs.length by have := HN.out; omega]
      have hlk : ((xs.take k).map encS).length = k := by rw [List.length_map, List.length_take, ← HN.out]; omega
      obtain ⟨x, hxx⟩ : ∃ x, x = xs.getD k 0 := ⟨_, rfl⟩
      rw [← hxx] at ck hx hst
      obtain ⟨hx0, hx1⟩ := hx
      have hin : inB x (-1000000000000) 1000000000000 = true := inB_yes hx0 hx1
      have HD : Hid (∀ W : World, Below w.heap.size w W → Calls Tryd.prog 52 #[.int .i64 x] W fun e w' => e = .returned (encS x) ∧ Below W.heap.size W w') := fun W hW => Decimal_any W (HPT.out.below hW) x (by omega)
      obtain ⟨us, hus⟩ : ∃ us, us = (xs.take k).map encS := ⟨_, rfl⟩
      rw [← hus] at hr hst hlk
      obtain ⟨I, hI⟩ : ∃ I : ByteArray, I = ⟨(Lib.itoa x).toArray⟩ := ⟨_, rfl⟩
      have hxI : encS x = .string I := by rw [hI]; rfl
      rw [hxI] at hst HD
      clear hxI
      clear hI hus hxx
      go_wp2_with fail
      refine (within_any _ x (-1000000000000) 1000000000000).mono ?_
      rintro e w1 ⟨he, rfl⟩
      rw [hin] at he
      subst he
      go_wp2_with fail
      refine (HD.out _ (by repeat (first | (with_reducible exact Below.refl _ _) | (with_reducible assumption) | ((with_reducible refine bl_alloc ?_ _ ?_); (focus ((first | omega | (simp <;> omega)); done))) | ((with_reducible refine bl_set ?_ _ ?_); (focus ((first | omega | (simp <;> omega)); done))) | (with_reducible refine below_drewN ?_ _) | (with_reducible refine Below.drew ?_) | ((with_reducible refine bl_trans ?_ hbw.out ?_); (focus ((first | omega | (simp <;> omega)); done)))))).mono ?_
      rintro e w2 ⟨rfl, hb2⟩
      have zw2 : wr.heap.size ≤ w2.heap.size := hb2.size
      have H2 := Lib.hid (show Below w.heap.size w w2 from hbw.out.trans (hb2.mono zw))
      have hr2 := Lib.hid (hr.out.later hb2)
      have zw3 : w.heap.size ≤ w2.heap.size := by omega
      clear hb2 hr hbw ck hin
      go_wp2_with (first | (at_builtin; refine wpList_append_own _ rfl _ _ 43 rfl w.heap.size 9 i0 (.string ⟨#[]⟩) 1 16 Tryd.underlying43 HI.out HZ0.out HZ1.out HZ2.out rfl (by decide) _ _ _ rfl (hr2.out.alloc_ _) ⟨w2.heap.size, 0, none⟩ 1 1 [.string I] rfl rfl ?c1 ?c2 ?c3 ?c4 ?c5 ?_))
      case c1 =>
        intro j u hu
        match j, hu with
        | 0, hu => simp at hu; subst hu; simp [Addr.add]
      case c2 => intro u hu; simp at hu; subst hu; rfl
      case c3 => (try simp); unfold maxLen; omega
      case c4 => (try simp); omega
      case c5 => simp; omega
      · intro v' w3 hown hgrow _
        have hr3 : Hid (GRow 9 w3 w.heap.size v' ((xs.take (k + 1)).map encS)) := by
          show GRow _ _ _ _ _
          rw [hst.out]
          exact gapp_row hlk hown
        have hb3 := gapp_below (hr2.out.alloc_ _) hgrow (by simp; omega)
        have H3 := Lib.hid (show Below w.heap.size w w3 from (bl_alloc zw3 _ H2.out).trans hb3)
        clear hown hgrow hb3 hr2 H2
        go_wp2
        refine ⟨?_, ?_⟩
        · first
            | ((repeat apply Exists.intro); (refine ⟨?_, rfl⟩); exact ⟨k + 1, hlt, by simp, hr3, H3⟩)
            | exact ⟨k + 1, hlt, by simp, hr3, H3⟩
        · first | (simp [intOf]; done) | (simp [intOf]; omega)
    · have hge : n ≤ k := by omega
      have hgI : (n : Int) ≤ (k : Int) := by omega
      have hr' : Hid (GRow 9 wr w.heap.size u3 (xs.map encS)) := by
        have h := hr.out
        rw [List.take_of_length_le (by have := HN.out; omega)] at h
        exact h
      rcases hr'.out.forms with ⟨_, hz⟩ | ⟨g2, cap2, rfl, _, gl2, hcp, hc2, _⟩
      · exfalso
        have h := congrArg List.length hz
        rw [List.length_map, ← HN.out] at h
        simp at h
        omega
      have hL : (xs.map (fun n => (⟨(Lib.itoa n).toArray⟩ : ByteArray))).length = n := by rw [List.length_map]; exact HN.out.symm
      have hLe : (xs.map encS).length = n := by rw [List.length_map]; exact HN.out.symm
      have hJe : Lib.join ((xs.map (fun n => (⟨(Lib.itoa n).toArray⟩ : ByteArray))).map (·.data.toList)) (⟨#[44]⟩ : ByteArray).data.toList = txtK xs n := by
        rw [bytes_back]
        unfold txtK
        rw [List.take_of_length_le (Nat.le_of_eq HN.out.symm)]
      have hJ := Tryd.strings_Join g2 0 cap2 (xs.map (fun n => (⟨(Lib.itoa n).toArray⟩ : ByteArray))) ⟨#[44]⟩ wr (fun j x hj => by
        rw [List.getElem?_map, Option.map_eq_some_iff] at hj
        obtain ⟨y, hy, rfl⟩ := hj
        rw [Nat.zero_add]
        exact hc2 j _ (by rw [List.getElem?_map, hy]; rfl)) gl2 (by rw [hL]; omega) (by rw [hL]; rw [hLe] at hcp; exact hcp) (by rw [hJe]; have := HLN.out n (Nat.le_refl _); omega)
      rw [hL, hJe] at hJ
      rw [hLe]
      have HJ := Lib.hid hJ
      obtain ⟨T, hTT⟩ : ∃ T, T = txtK xs n := ⟨_, rfl⟩
      rw [← hTT] at HJ
      have HTN := Lib.hid hTT
      clear hTT hJ hJe hL hLe hc2 hcp hr hr' hk
      go_wp2_with fail
      refine HJ.out.mono ?_
      rintro e w2 ⟨rfl, hb2⟩
      have H2 := Lib.hid (show Below w.heap.size w w2 from hbw.out.trans (hb2.mono zw))
      clear hb2
      go_wp2_with fail
      go_ret
      exact ⟨by rw [HTN.out] <;> rfl, H2.out⟩
end Go.Proofs.YtampjgfddakdoaaDoor
