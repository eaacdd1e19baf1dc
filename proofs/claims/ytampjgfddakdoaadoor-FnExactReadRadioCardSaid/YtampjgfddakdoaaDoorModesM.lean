/-
  Contracts of the marks that the laws lay into a row of modes, and of the look whether they hold. The conditions are the hypotheses.
-/
import Derived.Test.YtampjgfddakdoaaDoorRows
import Derived.Test.YtampjgfddakdoaaDoorLib
import Derived.Test.YtampjgfddakdoaaDoorModes
namespace Go.Proofs.YtampjgfddakdoaaDoor
open Go.RowKit
set_option linter.unusedVariables false
set_option linter.unusedSimpArgs false
def seqFromM (K : Int) (n : Nat) : List (Int × Int) := (List.range n).map fun (i : Nat) => (K + 2 * (i : Int), K + 2 * (i : Int) + 1)
theorem seqFromM_length (K : Int) (n : Nat) : (seqFromM K n).length = n := by simp [seqFromM]
theorem seqFromM_getD {K : Int} {n i : Nat} (h : i < n) : (seqFromM K n).getD i (0, 0) = (K + 2 * (i : Int), K + 2 * (i : Int) + 1) := by simp [seqFromM, h]
theorem mheld_row (v : Value) (K : Int) (n : Nat) (b : Nat) (w : World) (h : RowM 57 w b v (seqFromM K n)) (h0 : 0 ≤ K) (h1 : K + 2 * n ≤ 1000000000) :
    Calls Tryd.prog 39 #[v, .int .i64 K] w fun e w' => e = .returned (.int .i64 (K + 2 * n)) ∧ Below w.heap.size w w' := by
  rcases h.forms with ⟨rfl, h2⟩ | ⟨g, c, rfl, _, l, hc, _⟩
  · have hn : n = 0 := by rw [← seqFromM_length K n, h2]; rfl
    subst hn
    go_enter Tryd.func39, Tryd.ntmps39
    go_wp2_with (first | ((with_reducible refine wp_loop_rounds 1 ?_); rw [rounds_succ]) | go_in)
    go_ret
    exact ⟨ret_int (by simp), Below.refl _ _⟩
  · rw [seqFromM_length] at hc ⊢
    clear h
    go_enter Tryd.func39, Tryd.ntmps39
    go_wp2
    go_loop [1, 5] (fun q i => ∃ k : Nat, k ≤ n ∧ i = .int .i64 k ∧ q = .int .i64 (K + 2 * (k : Int))) (fun _ i => n - (intOf i).toNat)
    case atStart => exact ⟨0, Nat.zero_le _, rfl, by simp⟩
    case round =>
      obtain ⟨k, hk, rfl, rfl⟩ := hrel
      by_cases hlt : k < n
      · obtain ⟨c1, c2⟩ := hc k hlt
        rw [seqFromM_getD hlt] at c1 c2
        have i0 : (0 : Int) ≤ (k : Int) := Int.natCast_nonneg _
        have i1 : (k : Int) < (n : Int) := by omega
        have HM := Lib.hid (show K + 2 * (k : Int) + 1 + 1 = K + 2 * ((k + 1 : Nat) : Int) by omega)
        clear hc
        obtain ⟨q, hq⟩ : ∃ q, q = K + 2 * (k : Int) := ⟨_, rfl⟩
        rw [← hq] at c1 c2 HM ⊢
        have q0 : 0 ≤ q := by omega
        have q1 : q ≤ 1000000000 := by omega
        clear hq
        go_wp2
        go_round
        case rel => exact ⟨k + 1, by omega, by go_num, by rw [HM.out]⟩
        case measure => simp [intOf]; omega
      · clear hc
        have hkn : k = n := by omega
        go_wp2
        go_ret
        exact ⟨ret_int (by first | rfl | (rw [hkn]) | omega), Below.refl _ _⟩
theorem mmark_step (K : Int) (k : Nat) (ms : List (Int × Int)) (h : k < ms.length) : (seqFromM K k ++ ms.drop k).set k (K + 2 * (k : Int), K + 2 * (k : Int) + 1) = seqFromM K (k + 1) ++ ms.drop (k + 1) := by
  rw [List.set_append_right _ _ (by rw [seqFromM_length]; exact Nat.le_refl _), seqFromM_length, Nat.sub_self, List.drop_eq_getElem_cons h, List.set_cons_zero]
  simp [seqFromM, List.range_succ]
set_option maxHeartbeats 1000000 in
theorem mmark_row (v : Value) (ms : List (Int × Int)) (K : Int) (b : Nat) (w : World) (h : RowM 57 w b v ms) (h0 : 0 ≤ K) (h1 : K + 2 * ms.length ≤ 1000000000) :
    Calls Tryd.prog 38 #[v, .int .i64 K] w fun e w' => e = .returned (.int .i64 (K + 2 * ms.length)) ∧ RowM 57 w' b v (seqFromM K ms.length) ∧ w.grownBy w' v.ownBlock := by
  have h9 := h
  rcases h.forms with ⟨rfl, rfl⟩ | ⟨g, c, rfl, _⟩
  · go_enter Tryd.func38, Tryd.ntmps38
    go_wp2_with (first | ((with_reducible refine wp_loop_rounds 1 ?_); rw [rounds_succ]) | go_in)
    go_ret
    exact ⟨ret_int (by simp), h9, World.grownBy.refl w _⟩
  · clear h9
    obtain ⟨n, hn⟩ : ∃ n, n = ms.length := ⟨_, rfl⟩
    have HN := Lib.hid hn
    rw [← hn] at h1 h ⊢
    clear hn
    go_enter Tryd.func38, Tryd.ntmps38
    go_wp2
    go_loopw [1, 5] (fun q i wr => ∃ k : Nat, k ≤ n ∧ i = .int .i64 k ∧ q = .int .i64 (K + 2 * (k : Int)) ∧ Hid (RowM 57 wr b (.slice (some ⟨g, 0, none⟩) n c) (seqFromM K k ++ ms.drop k)) ∧ Hid (w.grownBy wr (some g))) (fun _ i _ => n - (intOf i).toNat)
    case atStart => exact ⟨0, Nat.zero_le _, rfl, by simp, h, World.grownBy.refl w _⟩
    case round =>
      obtain ⟨k, hk, rfl, rfl, hr, hg⟩ := hrel
      have hL : (seqFromM K k ++ ms.drop k).length = n := by rw [List.length_append, seqFromM_length, List.length_drop, ← HN.out]; omega
      by_cases hlt : k < n
      · have s1 := RowM.set1 hr.out hL k hlt (K + 2 * (k : Int))
        have s2 := RowM.set2 s1.1 (by rw [List.length_set]; exact hL) k hlt (K + 2 * (k : Int) + 1)
        rw [mset_two _ k _ _ _ (by rw [hL]; exact hlt), mmark_step K k ms (by have := HN.out; omega)] at s2
        obtain ⟨⟨c2, c3⟩, hf⟩ := (⟨hr.out.at_.1 k (by rw [hL]; exact hlt), hr.out.at_.2⟩ : _ ∧ _)
        obtain ⟨u, c2⟩ : ∃ u, wr.cell? ⟨g, k * 2, none⟩ = some (.int .i64 u) := ⟨_, c2⟩
        obtain ⟨u', c3⟩ : ∃ u, wr.cell? ⟨g, k * 2 + 1, none⟩ = some (.int .i64 u) := ⟨_, c3⟩
        have hf1 := hf (k * 2)
        have hf2 := hf (k * 2 + 1)
        have HG := Lib.hid (hg.out.trans (s1.2.trans s2.2))
        have HS := Lib.hid s2.1
        have i0 : (0 : Int) ≤ (k : Int) := Int.natCast_nonneg _
        have i1 : (k : Int) < (n : Int) := by omega
        have HM := Lib.hid (show K + 2 * (k : Int) + 1 + 1 = K + 2 * ((k + 1 : Nat) : Int) by omega)
        clear s1 s2 hf hr hg hL h
        obtain ⟨q, hq⟩ : ∃ q, q = K + 2 * (k : Int) := ⟨_, rfl⟩
        rw [← hq] at HG HS HM ⊢
        have q0 : 0 ≤ q := by omega
        have q1 : q ≤ 1000000000 := by omega
        clear hq
        go_wp2
        go_roundw
        case rel => exact ⟨k + 1, by omega, by go_num, by rw [HM.out], HS, HG⟩
        case measure => simp [intOf]; omega
      · obtain rfl : k = n := by omega
        have HR := Lib.hid hr.out
        have HG := Lib.hid hg.out
        clear hr hg hL h
        go_wp2
        go_ret
        exact ⟨rfl, by have h := HR.out; rwa [HN.out, List.drop_length, List.append_nil, ← HN.out] at h, HG.out⟩
end Go.Proofs.YtampjgfddakdoaaDoor
