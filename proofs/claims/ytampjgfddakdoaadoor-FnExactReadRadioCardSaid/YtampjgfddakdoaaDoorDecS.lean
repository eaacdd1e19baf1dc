/-
  Contract of the reference's decimal form of a number: the library's own. The conditions are the hypotheses.
-/
import Derived.Test.YtampjgfddakdoaaDoorRows
import Derived.Test.YtampjgfddakdoaaDoorLib
import Derived.Test.YtampjgfddakdoaaDoorGRow
import Derived.Lib.ItoaMem
import Derived.Laws.IdiomStrings
import Derived.Outline
namespace Go.Proofs.YtampjgfddakdoaaDoor
open Go.RowKit
set_option linter.unusedSimpArgs false
set_option linter.unusedVariables false
/-- The digits of a number, none for 0. -/
def digP (m : Nat) : List UInt8 := if m = 0 then [] else Lib.decDigits m
theorem digP_zero : digP 0 = [] := if_pos rfl
theorem digP_pos {m : Nat} (h : 0 < m) : digP m = Lib.decDigits m := if_neg (by omega)
theorem digP_step {m : Nat} (h : 0 < m) : digP m = digP (m / 10) ++ [UInt8.ofNat (48 + m % 10)] := by
  rw [digP_pos h]
  by_cases h10 : m < 10
  · have h0 : m / 10 = 0 := by omega
    rw [h0, digP_zero, Lib.decDigits, dif_pos h10, Nat.mod_eq_of_lt h10]
    rfl
  · rw [digP_pos (by omega)]
    conv => lhs; rw [Lib.decDigits, dif_neg h10]
theorem digP_len : ∀ (k m : Nat), m < 10 ^ k → (digP m).length ≤ k
  | 0, m, h => by
    have : m = 0 := by simpa using h
    rw [this, digP_zero]
    exact Nat.le_refl _
  | k + 1, m, h => by
    by_cases h0 : m = 0
    · rw [h0, digP_zero]; exact Nat.zero_le _
    · rw [digP_step (by omega), List.length_append]
      have := digP_len k (m / 10) (by rw [Nat.pow_succ] at h; omega)
      simp
      omega
theorem take_next (bs : List UInt8) {k : Nat} (h : k < bs.length) : bs.reverse.take (k + 1) = bs.reverse.take k ++ [bs.getD (bs.length - 1 - k) 0] := by
  rw [List.take_add_one]
  congr 1
  rw [List.getElem?_reverse h]
  simp [List.getElem?_eq_getElem (show bs.length - 1 - k < bs.length by omega)]
theorem Tryd.info_u8 : (Tryd.prog.info? 5).map (fun i => (i.zero, i.size, i.bytes)) = some (some (.int .u8 0), 1, 1) := by kernel_rfl
end Go.Proofs.YtampjgfddakdoaaDoor
