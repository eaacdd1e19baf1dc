/-
  slices.Reverse over seventeen places. The conditions are the hypotheses.
-/
import Derived.Test.YtedpdcdmemenhaaRows
import Derived.Test.YtedpdcdmemenhaaLib
import Derived.Test.YtedpdcdmemenhaaInt
import Derived.Test.YtedpdcdmemenhaaArgs
import Derived.Test.YtedpdcdmemenhaaModes
import Derived.Shelf.Abstract
import Derived.OwnWalk
import Derived.Deep.AppendLies
import Derived.Deep.RegionLaw
import Derived.Outline
import Derived.Deep.DeepCutAuto
import Derived.Deep.QuietTactic
import Derived.BigQuiet
import Derived.Deep.RegionHeld3
import Derived.Deep.DrawnRows
namespace Go.Proofs.Ytedpdcdmemenhaa
open Go.RowKit
set_option linter.unusedSimpArgs false
set_option linter.unusedVariables false
attribute [local go_sem ↓] Go.wp_at_zero Go.wp_at_succ
def revS (ms : List (Int × Int)) : Nat → List (Int × Int)
  | 0 => ms
  | k + 1 => ((revS ms k).set k ((revS ms k).getD (16 - k) (0, 0))).set (16 - k) ((revS ms k).getD k (0, 0))
theorem revS_len (ms : List (Int × Int)) : ∀ k, (revS ms k).length = ms.length
  | 0 => rfl
  | k + 1 => by rw [revS, List.length_set, List.length_set]; exact revS_len ms k
theorem mset2 (L : List (Int × Int)) (k : Nat) (x o y : Int) (h : k < L.length) : (L.set k (x, o)).set k (((L.set k (x, o)).getD k (0, 0)).1, y) = L.set k (x, y) := by
  simp [h]
theorem set2_at {R : List (Int × Int)} {a b i : Nat} {u v : Int × Int} (ha : a < R.length) (hb : b < R.length) (hne : a ≠ b) :
    ((R.set a u).set b v).getD i (0, 0) = if b = i then v else if a = i then u else R.getD i (0, 0) := by
  simp only [List.getD_eq_getElem?_getD, List.getElem?_set, List.length_set]
  by_cases h1 : b = i
  · subst h1; simp [hb]
  · by_cases h2 : a = i
    · subst h2; simp [h1, ha]
    · simp [h1, h2]
theorem revS_at {ms : List (Int × Int)} (h : ms.length = 17) : ∀ (k : Nat), k ≤ 8 → ∀ i, i < 17 → (revS ms k).getD i (0, 0) = if i < k ∨ 16 < i + k then ms.getD (16 - i) (0, 0) else ms.getD i (0, 0)
  | 0, _, i, hi => by rw [if_neg (by omega)]; rfl
  | k + 1, hk, i, hi => by
    have hl := revS_len ms k
    rw [revS, set2_at (by omega) (by omega) (by omega)]
    by_cases h1 : 16 - k = i
    · rw [if_pos h1, revS_at h k (by omega) k (by omega), if_neg (by omega), if_pos (by omega), show 16 - i = k by omega]
    · rw [if_neg h1]
      by_cases h2 : k = i
      · rw [if_pos h2, revS_at h k (by omega) (16 - k) (by omega), if_neg (by omega), if_pos (by omega), h2]
      · rw [if_neg h2, revS_at h k (by omega) i hi]
        by_cases h3 : i < k ∨ 16 < i + k
        · rw [if_pos h3, if_pos (by omega)]
        · rw [if_neg h3, if_neg (by omega)]
theorem rev_of {ms R : List (Int × Int)} (h : ms.length = 17) (hl : R.length = 17) (hR : ∀ i, i < 17 → R.getD i (0, 0) = ms.getD (16 - i) (0, 0)) : R = ms.reverse := by
  apply List.ext_getElem (by rw [hl, List.length_reverse, h])
  intro i h1 h2
  have hi : i < 17 := by omega
  have e := hR i hi
  have e1 : R.getD i (0, 0) = R[i] := by simp [List.getD, h1]
  have e2 : ms.getD (16 - i) (0, 0) = ms[16 - i]'(by omega) := by simp [List.getD, show 16 - i < ms.length by omega]
  rw [← e1, e, e2, List.getElem_reverse]
  congr 1
  omega
theorem revS_end {ms : List (Int × Int)} (h : ms.length = 17) {n : Nat} (hn : n = 8) : revS ms n = ms.reverse := by
  refine rev_of h ((revS_len ms n).trans h) fun i hi => ?_
  rw [revS_at h n (by omega) i hi]
  by_cases h3 : i < n ∨ 16 < i + n
  · rw [if_pos h3]
  · rw [if_neg h3, show 16 - i = i by omega]
set_option maxRecDepth 20000 in
set_option maxHeartbeats 8000000 in
theorem reverse_any (w : World) (base g c : Nat) (ms : List (Int × Int)) (h : RowM 64 w base (.slice (some ⟨g, 0, none⟩) 17 c) ms) (hn : ms.length = 17) :
    Calls Try.prog 133 #[.slice (some ⟨g, 0, none⟩) 17 c] w fun e w' => e = .returned (.tuple #[]) ∧ RowM 64 w' base (.slice (some ⟨g, 0, none⟩) 17 c) ms.reverse ∧ w.grownBy w' (some g) := by
  have HR := Lib.hid h
  have HE := Lib.hid (fun n (h8 : n = 8) => revS_end hn h8)
  have HLN := Lib.hid (revS_len ms)
  clear h
  go_enter Try.func133, Try.ntmps133
  go_wp2_with fail
  go_loopw [2, 3] (fun a b wr => ∃ k m : Nat, k ≤ 8 ∧ k + m = 16 ∧ a = .int .i64 (k : Int) ∧ b = .int .i64 (m : Int) ∧ Hid (RowM 64 wr base (.slice (some ⟨g, 0, none⟩) 17 c) (revS ms k)) ∧ Hid (w.grownBy wr (some g))) (fun a _ _ => 9 - (intOf a).toNat)
  case atStart => exact ⟨0, 16, by omega, rfl, rfl, rfl, HR.out, World.grownBy.refl w _⟩
  case round =>
    obtain ⟨k, m, hk, hm, rfl, rfl, hr, hg⟩ := hrel
    have k0 : (0 : Int) ≤ (k : Int) := Int.natCast_nonneg _
    have m0 : (0 : Int) ≤ (m : Int) := Int.natCast_nonneg _
    by_cases hlt : k < 8
    · have hl := HLN.out k
      rw [hn] at hl
      obtain ⟨ca, cb⟩ := hr.out.at_.1 k (by omega)
      obtain ⟨da, db⟩ := hr.out.at_.1 m (by omega)
      have hf := hr.out.at_.2
      have hst : Hid (revS ms (k + 1) = ((revS ms k).set k ((revS ms k).getD m (0, 0))).set m ((revS ms k).getD k (0, 0))) := by show _ = _; rw [revS, show 16 - k = m by omega]
      obtain ⟨R, hR⟩ : ∃ R, R = revS ms k := ⟨_, rfl⟩
      rw [← hR] at hr hl ca cb da db hst
      clear hR
      obtain ⟨⟨a1, a2⟩, hA⟩ : ∃ A, A = R.getD k (0, 0) := ⟨_, rfl⟩
      obtain ⟨⟨b1, b2⟩, hB⟩ : ∃ A, A = R.getD m (0, 0) := ⟨_, rfl⟩
      rw [← hA] at ca cb hst
      rw [← hB] at da db hst
      simp only at ca cb da db
      clear hA hB
      have hk17 : (k : Int) < 17 := by omega
      have hm17 : (m : Int) < 17 := by omega
      have hkm : (k : Int) < (m : Int) := by omega
      have hne : ¬ k = m := by omega
      have hne2 : ¬ m = k := by omega
      have hme : (m : Int) - 1 = ((m - 1 : Nat) : Int) := by omega
      have f1 := hf (k * 2)
      have f2 := hf (k * 2 + 1)
      have f3 := hf (m * 2)
      have f4 := hf (m * 2 + 1)
      have HME := Lib.hid hme
      clear hf hme
      have t1 := RowM.set1 hr.out hl k (by omega) b1
      have t2 := RowM.set2 t1.1 (by rw [List.length_set]; exact hl) k (by omega) b2
      rw [mset2 _ k _ _ _ (by rw [hl]; omega)] at t2
      have t3 := RowM.set1 t2.1 (by rw [List.length_set]; exact hl) m (by omega) a1
      have t4 := RowM.set2 t3.1 (by rw [List.length_set, List.length_set]; exact hl) m (by omega) a2
      rw [mset2 _ m _ _ _ (by rw [List.length_set, hl]; omega), ← hst.out] at t4
      have HROW := Lib.hid t4.1
      have HG := Lib.hid (hg.out.trans (t1.2.trans (t2.2.trans (t3.2.trans t4.2))))
      have HLE := Lib.hid (show k + 1 ≤ 8 by omega)
      have HKM := Lib.hid (show k + 1 + (m - 1) = 16 by omega)
      clear t1 t2 t3 t4 hst hr hg hl
      go_wp2_with fail
      go_region
      go_wp2_with fail
      refine ⟨?_, ?_⟩
      · first
          | ((repeat apply Exists.intro); (refine ⟨?_, rfl⟩); exact ⟨(k + 1 : Nat), (m - 1 : Nat), HLE.out, HKM.out, by go_num, by rw [HME.out], HROW.out, ⟨HG.out.os, HG.out.tape, HG.out.output, HG.out.size, HG.out.block⟩⟩)
          | exact ⟨(k + 1 : Nat), (m - 1 : Nat), HLE.out, HKM.out, by go_num, by rw [HME.out], HROW.out, ⟨HG.out.os, HG.out.tape, HG.out.output, HG.out.size, HG.out.block⟩⟩
      · simp [intOf]; omega
    · have hk' : k = 8 := by omega
      subst hk'
      have hge : ¬ ((8 : Int) < (m : Int)) := by omega
      have hmm : m = 8 := by omega
      subst hmm
      have hr' : Hid (RowM 64 wr base (.slice (some ⟨g, 0, none⟩) 17 c) ms.reverse) := by show RowM _ _ _ _ _; rw [← HE.out 8 rfl]; exact hr.out
      clear hr
      go_wp2_with fail
      exact bodyPost_end (v := .tuple #[]) (by simp [results, Try.results133, go_sem]) rfl ⟨rfl, hr'.out, hg.out⟩
end Go.Proofs.Ytedpdcdmemenhaa
