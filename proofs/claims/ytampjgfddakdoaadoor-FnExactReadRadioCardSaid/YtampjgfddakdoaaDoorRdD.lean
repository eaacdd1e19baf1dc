/-
  A number read off a text: the program's. The conditions are the hypotheses.
-/
import Derived.Test.YtampjgfddakdoaaDoorRows
import Derived.Test.YtampjgfddakdoaaDoorLib
import Derived.Test.YtampjgfddakdoaaDoorShelf
import Derived.Test.YtampjgfddakdoaaDoorDec
import Derived.Test.YtampjgfddakdoaaDoorNumP
import Derived.Test.YtampjgfddakdoaaDoorNumS
import Derived.Test.YtampjgfddakdoaaDoorSplS
import Derived.Test.YtampjgfddakdoaaDoorRdS
import Derived.Test.YtampjgfddakdoaaDoorRdW
import Derived.Lib.SmallJoins
import Derived.Lib.ParseIntBTie
namespace Go.Proofs.YtampjgfddakdoaaDoor
open Go.RowKit
set_option linter.unusedSimpArgs false
set_option linter.unusedVariables false
theorem trim_tail (l : List UInt8) : Lib.trimPrefix l [45] = tailN l := by
  unfold Lib.trimPrefix tailN
  cases l with
  | nil => rfl
  | cons b r =>
    by_cases h : b = 45
    · subst h
      simp [Lib.hasPrefix]
    · have h0 : ((45 : UInt8) == b) = false := by rw [beq_eq_false_iff_ne]; exact fun e => h e.symm
      have h1 : Lib.hasPrefix (b :: r) [45] = false := by simp [Lib.hasPrefix, List.isPrefixOf, h0]
      rw [h1]
      simp [h]
theorem str_off {a b : ByteArray} (h : ¬ a = b) : (a.toList == b.toList) = false ∧ (a.toList != b.toList) = true := by
  have h3 := (str_no h).1
  exact ⟨h3, by simp [bne, h3]⟩
theorem arr_eta {l : List UInt8} {s : ByteArray} (h : (⟨l.toArray⟩ : ByteArray) = s) : l = s.data.toList := by
  subst h
  simp
set_option maxRecDepth 20000 in
set_option maxHeartbeats 8000000 in
theorem ReadDecimal_any (w : World) (hT : RdTab w) (s : ByteArray) (hs : s.size ≤ 1048576) :
    Calls Tryd.prog 33 #[.string s] w fun e w' => e = .returned (.tuple #[.int .i64 (numV s.data.toList), .bool (numB s.data.toList)]) ∧ Below w.heap.size w w' := by
  have HT := Lib.hid hT
  clear hT
  cases hp : Lib.parseIntB 64 s.data.toList
  · rename_i v
    have hbd := Lib.parseIntB_bounds hp
    have hv : -9223372036854775808 ≤ v ∧ v ≤ 9223372036854775807 := by simp at hbd; omega
    have HPI := Lib.hid (Tryd.strconv_ParseInt_10_at64_ok s (by omega) v hp w)
    obtain ⟨T, hTT⟩ : ∃ T : ByteArray, T = ⟨(Lib.trimPrefix s.data.toList [45]).toArray⟩ := ⟨_, rfl⟩
    have hTS : T.size = (tailN s.data.toList).length := by rw [hTT, psize, trim_tail]
    have HTP : Hid (∀ W : World, Calls Tryd.prog 51 #[.string s, .string ⟨#[45]⟩] W fun e w' => e = .returned (.string T) ∧ W = w') := fun W => by rw [hTT]; exact (Tryd.strings_TrimPrefix s ⟨#[45]⟩ W).mono fun e w' q => ⟨q.1, q.2.symm⟩
    obtain ⟨DD, hDD⟩ : ∃ D : ByteArray, D = ⟨(Lib.itoa v).toArray⟩ := ⟨_, rfl⟩
    have HD : Hid (∀ W : World, Below w.heap.size w W → Calls Tryd.prog 52 #[.int .i64 v] W fun e w' => e = .returned (.string DD) ∧ Below W.heap.size W w') := fun W hW => by rw [hDD]; exact Decimal_any W (HT.out.pow.below hW) v hv
    have HBAD : Hid ((18 < T.size ∨ ¬ DD = s) → numV s.data.toList = 0 ∧ numB s.data.toList = false) := fun h => numV_none (num_none_parse fun v2 h2 => by
      rw [hp] at h2
      injection h2 with h2
      subst h2
      rcases h with h | h
      · exact .inl (by omega)
      · refine .inr fun q => h ?_
        rw [hDD, q, bytes_eta])
    have HOK : Hid (T.size ≤ 18 → DD = s → numV s.data.toList = v ∧ numB s.data.toList = true) := fun h1 h2 => numV_some (num_of_parse (by omega) (arr_eta (by rw [← hDD]; exact h2)))
    clear hp hTT hDD hTS hbd
    have HST : Hid (∀ (e : Ending) (w' : World), (e = .returned (.tuple #[.int .i64 v, .nilIface]) ∧ (w' = w ∨ ∃ t, w' = Lib.bytesWorld w 5 t)) → e = .returned (.tuple #[.int .i64 v, .nilIface]) ∧ Below w.heap.size w w') := fun e w' q => ⟨q.1, by
      rcases q.2 with h | ⟨t, h⟩
      · rw [h]; exact Below.refl _ _
      · rw [h]; exact Joins.below_bytesWorld _ _ _ _ (Nat.le_refl _)⟩
    by_cases h18 : 18 < T.size
    · have HN := Lib.hid (HBAD.out (.inl h18))
      have h18' : (18 : Int) < (T.size : Int) := by omega
      clear HBAD HOK
      go_enter Tryd.func33, Tryd.ntmps33
      go_wp2_with fail
      refine HPI.out.mono ?_
      intro e w1 hq
      obtain ⟨rfl, hb⟩ := HST.out e w1 hq
      have H1 := Lib.hid hb
      have z1 := hb.size
      clear hb hq HPI HST
      go_wp2_with fail
      refine (HTP.out _).mono ?_
      rintro e w2 ⟨rfl, rfl⟩
      go_wp2_with fail
      refine bodyPost_ret (v := .tuple #[.int .i64 0, .bool false]) (by simp [results, Tryd.results33, go_sem, *]) rfl ?_
      rw [HN.out.1, HN.out.2]
      exact ⟨rfl, H1.out⟩
    have h18' : (T.size : Int) ≤ 18 := by omega
    by_cases hDs : DD = s
    · have HN := Lib.hid (HOK.out (by omega) hDs)
      clear HBAD HOK
      subst hDs
      go_enter Tryd.func33, Tryd.ntmps33
      go_wp2_with fail
      refine HPI.out.mono ?_
      intro e w1 hq
      obtain ⟨rfl, hb⟩ := HST.out e w1 hq
      have H1 := Lib.hid hb
      have z1 := hb.size
      clear hb hq HPI HST
      go_wp2_with fail
      refine (HTP.out _).mono ?_
      rintro e w2 ⟨rfl, rfl⟩
      go_wp2_with fail
      refine (HD.out _ H1.out).mono ?_
      rintro e w3 ⟨rfl, hb⟩
      have H3 := Lib.hid (show Below w.heap.size w w3 by repeat (first | (with_reducible exact Below.refl _ _) | (with_reducible assumption) | ((with_reducible refine bl_alloc ?_ _ ?_); (focus ((first | omega | (simp <;> omega)); done))) | ((with_reducible refine bl_set ?_ _ ?_); (focus ((first | omega | (simp <;> omega)); done))) | (with_reducible refine below_drewN ?_ _) | (with_reducible refine Below.drew ?_) | ((with_reducible refine bl_trans ?_ hb ?_); (focus ((first | omega | (simp <;> omega)); done))) | ((with_reducible refine bl_trans ?_ H1.out ?_); (focus ((first | omega | (simp <;> omega)); done)))))
      clear hb
      go_wp2_with fail
      refine bodyPost_ret (v := .tuple #[.int .i64 v, .bool true]) (by simp [results, Tryd.results33, go_sem, *]) rfl ?_
      rw [HN.out.1, HN.out.2]
      exact ⟨rfl, H3.out⟩
    · have HN := Lib.hid (HBAD.out (.inr hDs))
      obtain ⟨q1, q2⟩ := str_off hDs
      clear HBAD HOK
      go_enter Tryd.func33, Tryd.ntmps33
      go_wp2_with fail
      refine HPI.out.mono ?_
      intro e w1 hq
      obtain ⟨rfl, hb⟩ := HST.out e w1 hq
      have H1 := Lib.hid hb
      have z1 := hb.size
      clear hb hq HPI HST
      go_wp2_with fail
      refine (HTP.out _).mono ?_
      rintro e w2 ⟨rfl, rfl⟩
      go_wp2_with fail
      refine (HD.out _ H1.out).mono ?_
      rintro e w3 ⟨rfl, hb⟩
      have H3 := Lib.hid (show Below w.heap.size w w3 by repeat (first | (with_reducible exact Below.refl _ _) | (with_reducible assumption) | ((with_reducible refine bl_alloc ?_ _ ?_); (focus ((first | omega | (simp <;> omega)); done))) | ((with_reducible refine bl_set ?_ _ ?_); (focus ((first | omega | (simp <;> omega)); done))) | (with_reducible refine below_drewN ?_ _) | (with_reducible refine Below.drew ?_) | ((with_reducible refine bl_trans ?_ hb ?_); (focus ((first | omega | (simp <;> omega)); done))) | ((with_reducible refine bl_trans ?_ H1.out ?_); (focus ((first | omega | (simp <;> omega)); done)))))
      clear hb
      go_wp2_with fail
      refine bodyPost_ret (v := .tuple #[.int .i64 0, .bool false]) (by simp [results, Tryd.results33, go_sem, *]) rfl ?_
      rw [HN.out.1, HN.out.2]
      exact ⟨rfl, H3.out⟩
  · have HN := Lib.hid (numV_none (num_none_parse (s := s.data.toList) (fun v h => by rw [hp] at h; cases h)))
    obtain ⟨tp, p, hv⟩ := HT.out.es
    have HPI : Hid (Calls Tryd.prog 50 #[.string s, .int .i64 10, .int .i64 64] w fun e w' => ∃ N sv, e = .returned (.tuple #[.int .i64 sv, .iface 111 (.pointer (some ⟨N, 0, none⟩))]) ∧ Below w.heap.size w w') := (Any.strconv_ParseInt_10_at64_syntax_var Tryd.laysC174 s (by omega) hp tp p w hv).mono fun e w' q => by
      obtain ⟨N, he, _, _, hb⟩ := q
      exact ⟨N, _, he, hb⟩
    clear hp hv
    go_enter Tryd.func33, Tryd.ntmps33
    go_wp2_with fail
    refine HPI.out.mono ?_
    rintro e w1 ⟨N, sv, rfl, hb⟩
    have H1 := Lib.hid hb
    clear hb HPI
    go_wp2_with fail
    refine bodyPost_ret (v := .tuple #[.int .i64 0, .bool false]) (by simp [results, Tryd.results33, go_sem, *]) rfl ?_
    rw [HN.out.1, HN.out.2]
    exact ⟨rfl, H1.out⟩
  · have HN := Lib.hid (numV_none (num_none_parse (s := s.data.toList) (fun v h => by rw [hp] at h; cases h)))
    obtain ⟨tp, p, hv⟩ := HT.out.er
    have HPI : Hid (Calls Tryd.prog 50 #[.string s, .int .i64 10, .int .i64 64] w fun e w' => ∃ N sv, e = .returned (.tuple #[.int .i64 sv, .iface 111 (.pointer (some ⟨N, 0, none⟩))]) ∧ Below w.heap.size w w') := (Any.strconv_ParseInt_10_at64_range_var Tryd.laysC174 s (by omega) hp tp p w hv).mono fun e w' q => by
      obtain ⟨N, he, _, _, hb⟩ := q
      exact ⟨N, _, he, hb⟩
    clear hp hv
    go_enter Tryd.func33, Tryd.ntmps33
    go_wp2_with fail
    refine HPI.out.mono ?_
    rintro e w1 ⟨N, sv, rfl, hb⟩
    have H1 := Lib.hid hb
    clear hb HPI
    go_wp2_with fail
    refine bodyPost_ret (v := .tuple #[.int .i64 0, .bool false]) (by simp [results, Tryd.results33, go_sem, *]) rfl ?_
    rw [HN.out.1, HN.out.2]
    exact ⟨rfl, H1.out⟩
end Go.Proofs.YtampjgfddakdoaaDoor
