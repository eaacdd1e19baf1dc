/-
  What the readers of texts share: the numbers and lists that are read, their forms, the library's pieces. The conditions are the hypotheses.
-/
import Derived.Test.YtampjgfddakdoaaDoorRows
import Derived.Test.YtampjgfddakdoaaDoorLib
import Derived.Test.YtampjgfddakdoaaDoorShelf
import Derived.Test.YtampjgfddakdoaaDoorNumP
import Derived.Test.YtampjgfddakdoaaDoorNumS
import Derived.Test.YtampjgfddakdoaaDoorSplP
import Derived.Test.YtampjgfddakdoaaDoorSplS
import Derived.Test.YtampjgfddakdoaaDoorRdP
import Derived.Test.YtampjgfddakdoaaDoorRdS
import Derived.Test.YtampjgfddakdoaaDoorRdW
import Derived.Test.YtampjgfddakdoaaDoorRdI
namespace Go.Proofs.YtampjgfddakdoaaDoor
open Go.RowKit
set_option linter.unusedSimpArgs false
set_option linter.unusedVariables false
theorem lstV_len (l : List UInt8) : (lstV l).length ≤ 64 := by
  unfold lstV
  cases h : lstM l with
  | none => simp
  | some xs => exact (lstM_form h).2.2
theorem lstV_in (l : List UInt8) : ∀ n ∈ lstV l, In64 n := by
  unfold lstV
  cases h : lstM l with
  | none => intro n hn; cases hn
  | some xs =>
    intro n hn
    obtain ⟨k, hk, rfl⟩ := List.getElem_of_mem (show n ∈ xs from hn)
    have := (lstM_form h).2.1 k hk
    rw [getD_get0 hk] at this
    exact ⟨by omega, by omega⟩
theorem lstB_form {l : List UInt8} (h : lstB l = true) : listT (lstV l) = l := by
  unfold lstB at h
  cases hm : lstM l with
  | none => rw [hm] at h; cases h
  | some xs =>
    rw [(lst_some hm).1]
    exact (lstM_form hm).1
theorem numV_in (l : List UInt8) : In64 (numV l) := by
  unfold numV
  cases h : numL l with
  | none => exact ⟨by decide, by decide⟩
  | some n =>
    have := (numL_form h).2
    exact ⟨show -9223372036854775808 ≤ n by omega, show n ≤ 9223372036854775807 by omega⟩
theorem numB_form {l : List UInt8} (h : numB l = true) : Lib.itoa (numV l) = l := by
  unfold numB at h
  cases hm : numL l with
  | none => rw [hm] at h; cases h
  | some n =>
    rw [(numV_some hm).1]
    exact (numL_form hm).1
/-- The library's pieces. -/
theorem split_any (w : World) (hT : RdTab w) (s : ByteArray) (hs : s.size ≤ 1048576) (c : UInt8) :
    Calls Tryd.prog 32 #[.string s, .string ⟨#[c]⟩] w fun e w' => ∃ g cap, e = .returned (.slice (some ⟨g, 0, none⟩) (splitL c s.data.toList).length cap) ∧ w.heap.size ≤ g ∧ g < w'.heap.size ∧ (∀ k p, (splitL c s.data.toList)[k]? = some p → w'.cell? ⟨g, k, none⟩ = some (encL p)) ∧ Below w.heap.size w w' := by
  obtain ⟨m, hm⟩ := hT.mx
  have hc := count_split c s.data.toList
  have hd : (Lib.splitB ⟨#[c]⟩ 0 (Lib.countB s ⟨#[c]⟩) s).map (·.data.toList) = splitL c s.data.toList := by
    rw [Lib.splitB_data]
    exact splitK_few _ _ (by show _ ≤ Lib.count s.data.toList [c] + 1; omega)
  have hl : Lib.countB s ⟨#[c]⟩ + 1 = (splitL c s.data.toList).length := hc
  refine (Tryd.strings_Split s ⟨#[c]⟩ m w (by omega) hm (Nat.le_refl 1)).mono ?_
  rintro e w' ⟨rfl, rfl⟩
  refine ⟨w.heap.size, _, by rw [hl], Nat.le_refl _, by simp, fun k p hp => ?_, bl_alloc (Nat.le_refl _) _ (Below.refl _ _)⟩
  rw [← hd] at hp
  exact cells_of_split hp
end Go.Proofs.YtampjgfddakdoaaDoor
