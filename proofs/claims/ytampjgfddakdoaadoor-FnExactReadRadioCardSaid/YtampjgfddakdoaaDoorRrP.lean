/-
  A radio read off a text and written again (plain). No condition beyond the hypotheses.
-/
import Derived.Test.YtampjgfddakdoaaDoorRows
import Derived.Test.YtampjgfddakdoaaDoorLib
import Derived.Test.YtampjgfddakdoaaDoorNumP
import Derived.Test.YtampjgfddakdoaaDoorNumS
import Derived.Test.YtampjgfddakdoaaDoorSplP
import Derived.Test.YtampjgfddakdoaaDoorSplS
import Derived.Test.YtampjgfddakdoaaDoorRdP
import Derived.Test.YtampjgfddakdoaaDoorRdS
import Derived.Test.YtampjgfddakdoaaDoorRdI
import Derived.Test.YtampjgfddakdoaaDoorRdC
import Derived.Test.YtampjgfddakdoaaDoorRadioB
import Derived.Test.YtampjgfddakdoaaDoorRadT
namespace Go.Proofs.YtampjgfddakdoaaDoor
open Go ofRadioText
set_option linter.unusedVariables false
def rrW (k : Nat) (L : List UInt8) : List UInt8 := (splitL 32 L).getD k []
def cutM (t : List UInt8) : Int × Int := (numV (Lib.cut t [47]).1, numV (Lib.cut t [47]).2.1)
def rrM (L : List UInt8) : List (Int × Int) := (Lib.splitN (rrW 5 L) [44] 9).map cutM
def rrS (L : List UInt8) : ByteArray := ⟨(rrW 0 L).toArray⟩
def rrB (L : List UInt8) : Bool := radB (rrS L) (numV (rrW 1 L)) (numV (rrW 2 L)) (numV (rrW 3 L)) (numV (rrW 4 L)) (rrM L)
def rrT (L : List UInt8) : List UInt8 := radT (rrS L) (numV (rrW 1 L)) (numV (rrW 2 L)) (numV (rrW 3 L)) (numV (rrW 4 L)) (rrM L)
def rrOk (L : List UInt8) : Bool := decide ((splitL 32 L).length = 6) && rrB L && decide (rrT L = L)
theorem rr_parts {L : List UInt8} (h : rrOk L = true) : (splitL 32 L).length = 6 ∧ rrB L = true ∧ rrT L = L := by
  unfold rrOk at h
  simp only [Bool.and_eq_true, decide_eq_true_eq] at h
  exact ⟨h.1.1, h.1.2, h.2⟩
theorem rr_is {L : List UInt8} (h6 : (splitL 32 L).length = 6) (hb : rrB L = true) (ht : rrT L = L) : rrOk L = true := by simp [rrOk, h6, hb, ht]
theorem rr_no6 {L : List UInt8} (h : ¬ (splitL 32 L).length = 6) : rrOk L = false := by simp [rrOk, h]
theorem rr_nob {L : List UInt8} (h : rrB L = false) : rrOk L = false := by simp [rrOk, h]
theorem rr_not {L : List UInt8} (h : ¬ rrT L = L) : rrOk L = false := by simp [rrOk, h]
/-- A name's bytes. -/
theorem name_byte {s : ByteArray} (h : nameB s = true) : ∀ b ∈ s.data.toList, 48 ≤ b.toNat ∧ b.toNat ≤ 122 := by
  intro b hb
  unfold nameB at h
  split at h
  · rename_i h0
    simp only [Bool.and_eq_true] at h
    obtain ⟨k, hk, rfl⟩ := List.getElem_of_mem hb
    have hk' : k < s.size := by simpa using hk
    have hw := (of_decide_eq_true h.2) k hk'
    have := wordB_yes hw
    have e : s.data.toList[k] = s[k]'hk' := rfl
    rw [e]
    omega
  · cases h
theorem modeT_byte {c : UInt8} (h0 : c ≠ 45) (h1 : ¬ (48 ≤ c.toNat ∧ c.toNat ≤ 57)) (h2 : c ≠ 47) (m : Int × Int) : c ∉ modeT m := by
  unfold modeT
  simp only [List.mem_append, List.mem_singleton, not_or]
  exact ⟨⟨not_in_itoa h0 h1 _, h2⟩, not_in_itoa h0 h1 _⟩
theorem modesK_byte {ms : List (Int × Int)} : (32 : UInt8) ∉ modesK ms ms.length := by
  unfold modesK
  intro h
  rcases mem_join h with h | ⟨p, hp, h⟩
  · revert h; decide
  · obtain ⟨m, _, rfl⟩ := List.mem_map.1 hp
    exact modeT_byte (by decide) (by decide) (by decide) m h
theorem rad_split {s : ByteArray} {p f n wd : Int} {ms : List (Int × Int)} (h : radB s p f n wd ms = true) : splitL 32 (radT s p f n wd ms) = [s.data.toList, Lib.itoa p, Lib.itoa f, Lib.itoa n, Lib.itoa wd, modesK ms ms.length] := by
  rw [radT_yes h]
  have e : headT s p f n wd ++ modesK ms ms.length = Lib.join [s.data.toList, Lib.itoa p, Lib.itoa f, Lib.itoa n, Lib.itoa wd, modesK ms ms.length] [32] := by
    rw [join_six]
    simp [headT]
  rw [e]
  have hi : ∀ n : Int, (32 : UInt8) ∉ Lib.itoa n := not_in_itoa (by decide) (by decide)
  refine splitL_join (by simp) fun q hq => ?_
  simp only [List.mem_cons, List.not_mem_nil, or_false] at hq
  rcases hq with rfl | rfl | rfl | rfl | rfl | rfl
  · intro hm
    have := name_byte (rad_parts h).1 _ hm
    revert this
    decide
  · exact hi _
  · exact hi _
  · exact hi _
  · exact hi _
  · exact modesK_byte
/-- What a text that is read and written again holds, word by word. -/
theorem rr_words {L : List UInt8} (h : rrOk L = true) : rrW 1 L = Lib.itoa (numV (rrW 1 L)) ∧ rrW 2 L = Lib.itoa (numV (rrW 2 L)) ∧ rrW 3 L = Lib.itoa (numV (rrW 3 L)) ∧ rrW 4 L = Lib.itoa (numV (rrW 4 L)) ∧ rrW 5 L = modesK (rrM L) (rrM L).length := by
  obtain ⟨_, hb, ht⟩ := rr_parts h
  have hs := rad_split hb
  change splitL 32 (rrT L) = _ at hs
  rw [ht] at hs
  have g : ∀ k, rrW k L = [(rrS L).data.toList, Lib.itoa (numV (rrW 1 L)), Lib.itoa (numV (rrW 2 L)), Lib.itoa (numV (rrW 3 L)), Lib.itoa (numV (rrW 4 L)), modesK (rrM L) (rrM L).length].getD k [] := fun k => by
    rw [← hs]
    rfl
  exact ⟨g 1, g 2, g 3, g 4, g 5⟩
theorem numB_itoa {l : List UInt8} {n : Int} (h : l = Lib.itoa n) (h0 : -1000000000 ≤ n) (h1 : n ≤ 1000000000) : numB l = true := by
  unfold numB
  rw [h, numL_itoa (by omega) (by omega)]
  rfl
theorem rr_nums {L : List UInt8} (h : rrOk L = true) : numB (rrW 1 L) = true ∧ numB (rrW 2 L) = true ∧ numB (rrW 3 L) = true ∧ numB (rrW 4 L) = true := by
  obtain ⟨_, hb, _⟩ := rr_parts h
  obtain ⟨_, ⟨h1, h2, h3, h4, _⟩, _⟩ := rad_parts hb
  obtain ⟨e1, e2, e3, e4, _⟩ := rr_words h
  exact ⟨numB_itoa e1 (by omega) (by omega), numB_itoa e2 (by omega) (by omega), numB_itoa e3 (by omega) (by omega), numB_itoa e4 (by omega) (by omega)⟩
/-- A part of the modes as the reference takes it: two numbers, parted once. -/
def partOk (t : List UInt8) : Prop := (splitL 47 t).length = 2 ∧ numB ((splitL 47 t).getD 0 []) = true ∧ numB ((splitL 47 t).getD 1 []) = true
theorem part_two {t : List UInt8} (h : (splitL 47 t).length = 2) : t = (splitL 47 t).getD 0 [] ++ [47] ++ (splitL 47 t).getD 1 [] ∧ cutM t = (numV ((splitL 47 t).getD 0 []), numV ((splitL 47 t).getD 1 [])) := by
  have hj := join_split 47 t
  have hm := splitL_mem (c := 47) (s := t)
  unfold cutM
  generalize splitL 47 t = ps at h hj hm
  match ps, h with
  | [a, b], _ =>
    have e : t = a ++ 47 :: b := by rw [← hj]; simp [Lib.join_cons, Lib.joinTail]
    have hc : Lib.cut t [47] = (a, b, true) := by rw [e]; exact cut_app (hm a (by simp))
    refine ⟨by rw [e]; simp, ?_⟩
    rw [hc]
    rfl
theorem part_text {t : List UInt8} (h : partOk t) : modeT (cutM t) = t := by
  obtain ⟨h1, h2, h3⟩ := h
  obtain ⟨e1, e2⟩ := part_two h1
  unfold modeT
  rw [e2]
  simp only
  rw [numB_form h2, numB_form h3]
  exact e1.symm
theorem mode_split (m : Int × Int) : splitL 47 (modeT m) = [Lib.itoa m.1, Lib.itoa m.2] := by
  have hi : ∀ n : Int, (47 : UInt8) ∉ Lib.itoa n := not_in_itoa (by decide) (by decide)
  have e : modeT m = Lib.itoa m.1 ++ 47 :: Lib.itoa m.2 := by simp [modeT]
  rw [e, splitL_app (hi _), splitL_none (hi _)]
/-- The modes' text, of a text that is read and written again. -/
theorem rr_modes {L : List UInt8} (h : rrOk L = true) : (splitL 44 (rrW 5 L)).length ≤ 8 ∧ ∀ t ∈ splitL 44 (rrW 5 L), partOk t := by
  obtain ⟨_, hb, _⟩ := rr_parts h
  obtain ⟨_, ⟨_, _, _, _, n1, n8⟩, hm⟩ := rad_parts hb
  obtain ⟨_, _, _, _, e5⟩ := rr_words h
  have hs : splitL 44 (rrW 5 L) = (rrM L).map modeT := by
    rw [e5]
    unfold modesK
    rw [List.take_of_length_le (Nat.le_refl _)]
    refine splitL_join (fun q => ?_) fun q hq => ?_
    · have := congrArg List.length q
      rw [List.length_map, List.length_nil] at this
      omega
    · obtain ⟨m, _, rfl⟩ := List.mem_map.1 hq
      exact modeT_byte (by decide) (by decide) (by decide) m
  rw [hs]
  refine ⟨by rw [List.length_map]; exact n8, fun t ht => ?_⟩
  obtain ⟨m, hm', rfl⟩ := List.mem_map.1 ht
  obtain ⟨k, hk, rfl⟩ := List.getElem_of_mem hm'
  obtain ⟨b1, b2, _⟩ := hm k hk
  have e : (rrM L).getD k (0, 0) = (rrM L)[k] := by simp [List.getD, hk]
  rw [e] at b1 b2
  unfold partOk
  rw [mode_split]
  exact ⟨rfl, numB_itoa (l := Lib.itoa (rrM L)[k].1) rfl (by omega) (by omega), numB_itoa (l := Lib.itoa (rrM L)[k].2) rfl (by omega) (by omega)⟩
theorem rr_join {L : List UInt8} (h : (splitL 32 L).length = 6) : L = rrW 0 L ++ [32] ++ rrW 1 L ++ [32] ++ rrW 2 L ++ [32] ++ rrW 3 L ++ [32] ++ rrW 4 L ++ [32] ++ rrW 5 L := by
  have hj := join_split 32 L
  unfold rrW
  generalize splitL 32 L = ps at h hj
  match ps, h with
  | [a, b, c, d, e, f], _ =>
    rw [← hj]
    simp [Lib.join_cons, Lib.joinTail]
/-- The reference's reading ends well: the text is written again as it was. -/
theorem rr_good {L : List UInt8} (h6 : (splitL 32 L).length = 6) (h1 : numB (rrW 1 L) = true) (h2 : numB (rrW 2 L) = true) (h3 : numB (rrW 3 L) = true) (h4 : numB (rrW 4 L) = true) (h8 : (splitL 44 (rrW 5 L)).length ≤ 8) (hp : ∀ t ∈ splitL 44 (rrW 5 L), partOk t) : rrM L = (splitL 44 (rrW 5 L)).map cutM ∧ (rrB L = true → rrT L = L) := by
  have hM : rrM L = (splitL 44 (rrW 5 L)).map cutM := by
    unfold rrM
    rw [splitN_few (by omega)]
  refine ⟨hM, fun hb => ?_⟩
  unfold rrT
  rw [radT_yes hb]
  unfold headT modesK
  rw [List.take_of_length_le (Nat.le_refl _), numB_form h1, numB_form h2, numB_form h3, numB_form h4]
  have e0 : (rrS L).data.toList = rrW 0 L := by simp [rrS]
  have e5 : (rrM L).map modeT = splitL 44 (rrW 5 L) := by
    rw [hM, List.map_map]
    conv => rhs; rw [← List.map_id (splitL 44 (rrW 5 L))]
    exact List.map_congr_left fun t ht => part_text (hp t ht)
  rw [e0, e5, join_split 44]
  exact (rr_join h6).symm
theorem rrM_len (L : List UInt8) : (rrM L).length ≤ 9 := by
  unfold rrM
  rw [List.length_map]
  by_cases h9 : (splitL 44 (rrW 5 L)).length ≤ 9
  · rw [splitN_few h9]; exact h9
  · have := (splitN_many (c := 44) (s := rrW 5 L) (n := 9) (by omega) (by omega)).1
    omega
theorem cutM_in (t : List UInt8) : In64 (cutM t).1 ∧ In64 (cutM t).2 := ⟨numV_in _, numV_in _⟩
theorem rrM_in (L : List UInt8) : ∀ m ∈ rrM L, In64 m.1 ∧ In64 m.2 := by
  intro m hm
  unfold rrM at hm
  obtain ⟨t, _, rfl⟩ := List.mem_map.1 hm
  exact cutM_in t
theorem rr_ne {L : List UInt8} (h : (splitL 32 L).length = 6) : L ≠ [] := by
  intro q
  rw [q] at h
  revert h
  decide
end Go.Proofs.YtampjgfddakdoaaDoor
