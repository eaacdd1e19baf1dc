/-
  Contracts of the sum of levels: the program's and the reference's: one model. The conditions are the hypotheses.
-/
import Derived.Test.YtlpjcebpfmhpnaaDoorRows
import Derived.Test.YtlpjcebpfmhpnaaDoorLib
import Derived.Test.YtlpjcebpfmhpnaaDoorRootMath
import Derived.Test.YtlpjcebpfmhpnaaDoorLogS
import Derived.Test.YtlpjcebpfmhpnaaDoorLogI
import Derived.Test.YtlpjcebpfmhpnaaDoorPowDb
import Derived.Test.YtlpjcebpfmhpnaaDoorFree
import Derived.Outline
namespace Go.Proofs.YtlpjcebpfmhpnaaDoor
open Go.RowKit
set_option linter.unusedSimpArgs false
set_option linter.unusedVariables false
theorem digR_e9 : digR 1000000000 = 9 := by rw [digR_step (by decide), digR_step (by decide), digR_step (by decide), digR_step (by decide), digR_step (by decide), digR_step (by decide), digR_step (by decide), digR_step (by decide), digR_step (by decide), digR_small (by decide)]
/-- A level of at most 0 as a part. -/
def partV (v : Int) : Int := if v < -90000 then 0 else powV (90000 + v)
theorem partV_no {v : Int} (h : v < -90000) : partV v = 0 := if_pos h
theorem partV_yes {v : Int} (h : ¬ v < -90000) : partV v = powV (90000 + v) := if_neg h
theorem partV_0 : 1 ≤ partV 0 := by
  rw [partV_yes (by omega)]
  exact powV_ge _
/-- The greatest of the first numbers (of none: the first one). -/
def gr (xs : List Int) : Nat → Int
  | 0 => xs.getD 0 0
  | k + 1 => max (gr xs k) (xs.getD k 0)
theorem gr_one (xs : List Int) : gr xs 1 = xs.getD 0 0 := by
  show max (xs.getD 0 0) (xs.getD 0 0) = _
  omega
theorem gr_up {xs : List Int} {k : Nat} (h : gr xs k ≤ xs.getD k 0) : gr xs (k + 1) = xs.getD k 0 := by
  show max _ _ = _
  omega
theorem gr_dn {xs : List Int} {k : Nat} (h : ¬ gr xs k ≤ xs.getD k 0) : gr xs (k + 1) = gr xs k := by
  show max _ _ = _
  omega
theorem gr_ge (xs : List Int) : ∀ n k : Nat, k < n → xs.getD k 0 ≤ gr xs n
  | 0, k, h => by omega
  | n + 1, k, h => by
    show _ ≤ max (gr xs n) (xs.getD n 0)
    by_cases e : k = n
    · subst e; omega
    · have := gr_ge xs n k (by omega); omega
theorem gr_at (xs : List Int) : ∀ n : Nat, 1 ≤ n → ∃ k, k < n ∧ gr xs n = xs.getD k 0
  | 0, h => by omega
  | 1, _ => ⟨0, by omega, gr_one xs⟩
  | n + 2, _ => by
    obtain ⟨k, hk, he⟩ := gr_at xs (n + 1) (by omega)
    by_cases h : gr xs (n + 1) ≤ xs.getD (n + 1) 0
    · exact ⟨n + 1, by omega, gr_up h⟩
    · exact ⟨k, by omega, (gr_dn h).trans he⟩
/-- The sum of the first parts. -/
def sumIt (xs : List Int) (m : Int) : Nat → Int
  | 0 => 0
  | k + 1 => sumIt xs m k + partV (xs.getD k 0 - m)
theorem sumIt_succ (xs : List Int) (m : Int) (k : Nat) : sumIt xs m (k + 1) = sumIt xs m k + partV (xs.getD k 0 - m) := rfl
theorem loge9 : logV 1000000000 = 90000 := by
  have h : logV 1000000000 = logN 1000000000 := if_neg (by decide)
  rw [h, logN, startX_down (by rw [digR_e9]; decide), digR_e9]
  decide
theorem partV_bd {v : Int} (h : v ≤ 0) : 0 ≤ partV v ∧ partV v ≤ 1000000000 := by
  unfold partV
  split
  · omega
  · have := powV_ge (90000 + v)
    have := powV_le (v := 90000 + v) (N := 1000000000) (by rw [loge9]; omega) (by omega)
    omega
theorem sumIt_bd {xs : List Int} {m : Int} {n : Nat} (h : ∀ k, k < n → xs.getD k 0 ≤ m) : ∀ k : Nat, k ≤ n → 0 ≤ sumIt xs m k ∧ sumIt xs m k ≤ 1000000000 * (k : Int)
  | 0, _ => by show 0 ≤ (0 : Int) ∧ (0 : Int) ≤ _; omega
  | k + 1, hk => by
    obtain ⟨a, b⟩ := sumIt_bd h k (by omega)
    obtain ⟨c, d⟩ := partV_bd (v := xs.getD k 0 - m) (by have := h k (by omega); omega)
    rw [sumIt_succ]
    omega
theorem sumIt_pos {xs : List Int} {m : Int} {n k : Nat} (h : ∀ k, k < n → xs.getD k 0 ≤ m) (hk : k < n) (he : xs.getD k 0 = m) : ∀ j : Nat, j ≤ n → k < j → 1 ≤ sumIt xs m j
  | 0, _, h0 => by omega
  | j + 1, hj, hkj => by
    rw [sumIt_succ]
    obtain ⟨a, b⟩ := sumIt_bd h j (by omega)
    obtain ⟨c, d⟩ := partV_bd (v := xs.getD j 0 - m) (by have := h j (by omega); omega)
    by_cases e : k = j
    · subst e
      rw [he, Int.sub_self]
      have := partV_0
      omega
    · have := sumIt_pos h hk he j (by omega) (by omega)
      omega
def sumV (xs : List Int) : Int := gr xs xs.length - 90000 + logV (sumIt xs (gr xs xs.length) xs.length)
theorem l02Part_any (w : World) (v : Int) (h0 : -4000000 ≤ v) (h : v ≤ 0) :
    Calls Tryd.prog 79 #[.int .i64 v] w fun e w' => e = .returned (.int .i64 (partV v)) ∧ w = w' := by
  by_cases hv : v < -90000
  · rw [partV_no hv]
    go_enter Tryd.func79, Tryd.ntmps79
    go_wp2_with fail
    go_ret
    exact ⟨rfl, rfl⟩
  · rw [partV_yes hv]
    obtain ⟨P, hP⟩ : ∃ P, P = powV (90000 + v) := ⟨_, rfl⟩
    rw [← hP]
    have HP := Lib.hid hP
    clear hP
    go_enter Tryd.func79, Tryd.ntmps79
    go_wp2_with fail
    refine (l02Pow_any _ (90000 + v) (by omega) (by omega)).mono ?_
    rintro e w1 ⟨he, rfl⟩
    rw [← HP.out] at he
    subst he
    go_wp2_with fail
    go_ret
    exact ⟨rfl, rfl⟩
theorem partOf_any (w : World) (hT : PowTab w) (v : Int) (h0 : -4000000 ≤ v) (h : v ≤ 0) :
    Calls Tryd.prog 81 #[.int .i64 v] w fun e w' => e = .returned (.int .i64 (partV v)) ∧ Below w.heap.size w w' := by
  have HT := Lib.hid hT
  clear hT
  by_cases hv : v < -90000
  · rw [partV_no hv]
    go_enter Tryd.func81, Tryd.ntmps81
    go_wp2_with fail
    go_ret
    exact ⟨rfl, Below.refl _ _⟩
  · rw [partV_yes hv]
    obtain ⟨P, hP⟩ : ∃ P, P = powV (90000 + v) := ⟨_, rfl⟩
    rw [← hP]
    have HP := Lib.hid hP
    clear hP
    go_enter Tryd.func81, Tryd.ntmps81
    go_wp2_with fail
    refine (PowDb_any _ HT.out (90000 + v) (by omega) (by omega)).mono ?_
    rintro e w1 ⟨he, hb⟩
    rw [← HP.out] at he
    subst he
    have HB := Lib.hid hb
    clear hb
    go_wp2_with fail
    go_ret
    exact ⟨rfl, HB.out⟩
theorem slicesMax_any (w : World) (g c n : Nat) (xs : List Int) (hl : 1 ≤ n) (hm : n ≤ 1000000) (hc : ∀ k, k < n → w.cell? ⟨g, k, none⟩ = some (.int .i64 (xs.getD k 0))) :
    Calls Tryd.prog 80 #[.slice (some ⟨g, 0, none⟩) n c] w fun e w' => e = .returned (.int .i64 (gr xs n)) ∧ w = w' := by
  have HC := Lib.hid hc
  have c0 := hc 0 (by omega)
  have H1 := Lib.hid (gr_one xs)
  clear hc
  generalize xs.getD 0 0 = x0 at c0 H1
  have n1 : (1 : Int) ≤ (n : Int) := by omega
  have n2 : (0 : Int) < (n : Int) := by omega
  go_enter Tryd.func80, Tryd.ntmps80
  go_wp2_with fail
  go_loop [3, 4] (fun b i => ∃ k : Nat, 1 ≤ k ∧ k ≤ n ∧ i = .int .i64 (k : Int) ∧ b = .int .i64 (gr xs k)) (fun _ i => n + 1 - (intOf i).toNat)
  case atStart => exact ⟨1, Nat.le_refl _, hl, rfl, by rw [H1.out]⟩
  case round =>
    obtain ⟨k, hk1, hk, rfl, rfl⟩ := hrel
    have i0 : (0 : Int) ≤ (k : Int) := Int.natCast_nonneg _
    by_cases hlt : k < n
    · have i1 : (k : Int) < (n : Int) := by omega
      have c1 := HC.out k hlt
      by_cases hx : gr xs k ≤ xs.getD k 0
      · have he := Lib.hid (gr_up hx)
        clear H1
        generalize gr xs k = m at *
        generalize xs.getD k 0 = x at *
        go_wp2_with fail
        go_round
        case rel => exact ⟨k + 1, by omega, by omega, by go_num, by rw [he.out]; first | rfl | go_num | (congr 1; omega)⟩
        case measure => (simp [intOf] <;> omega)
      · have he := Lib.hid (gr_dn hx)
        clear H1
        generalize gr xs k = m at *
        generalize xs.getD k 0 = x at *
        have hx2 : x < m := by omega
        go_wp2_with fail
        go_round
        case rel => exact ⟨k + 1, by omega, by omega, by go_num, by rw [he.out]; first | rfl | go_num | (congr 1; omega)⟩
        case measure => (simp [intOf] <;> omega)
    · obtain rfl : k = n := by omega
      have hd : decide ((k : Int) < (k : Int)) = false := decide_eq_false (by omega)
      go_wp2_with fail
      go_ret
      exact ⟨rfl, rfl⟩
set_option maxRecDepth 20000 in
set_option maxHeartbeats 1000000 in
theorem l02Sum_any (w : World) (g c n : Nat) (xs : List Int) (hn : xs.length = n) (hl : 1 ≤ n) (hm : n ≤ 1000) (hb : ∀ k, k < n → -1000000 ≤ xs.getD k 0 ∧ xs.getD k 0 ≤ 1000000) (hc : ∀ k, k < n → w.cell? ⟨g, k, none⟩ = some (.int .i64 (xs.getD k 0))) :
    Calls Tryd.prog 59 #[.slice (some ⟨g, 0, none⟩) n c] w fun e w' => e = .returned (.int .i64 (sumV xs)) ∧ w = w' := by
  have HV : Hid (sumV xs = gr xs n - 90000 + logV (sumIt xs (gr xs n) n)) := by rw [← hn]; exact rfl
  have HC := Lib.hid hc
  have HB := Lib.hid hb
  have c0 := hc 0 (by omega)
  have H1 := Lib.hid (gr_one xs)
  clear hc hn
  obtain ⟨V, hV⟩ : ∃ V, V = sumV xs := ⟨_, rfl⟩
  rw [← hV] at HV ⊢
  clear hV
  have gb : ∀ k, 1 ≤ k → k ≤ n → -1000000 ≤ gr xs k ∧ gr xs k ≤ 1000000 := fun k k1 k2 => by
    obtain ⟨j, hj, he⟩ := gr_at xs k k1
    rw [he]
    exact hb j (by omega)
  have HGB := Lib.hid gb
  obtain ⟨M, hM⟩ : ∃ M, M = gr xs n := ⟨_, rfl⟩
  have hge : ∀ k, k < n → xs.getD k 0 ≤ M := fun k hk => by rw [hM]; exact gr_ge xs n k hk
  have HGE := Lib.hid hge
  obtain ⟨M0, M1⟩ : -1000000 ≤ M ∧ M ≤ 1000000 := by rw [hM]; exact gb n hl (Nat.le_refl _)
  obtain ⟨j, hj, hje⟩ := gr_at xs n hl
  have hpos : 1 ≤ sumIt xs M n := sumIt_pos hge hj (by rw [hM]; exact hje.symm) n (Nat.le_refl _) hj
  have HSB := Lib.hid (fun k hk => sumIt_bd hge k hk)
  obtain ⟨s0, s1⟩ := sumIt_bd hge n (Nat.le_refl _)
  rw [← hM] at HV
  have HMM := Lib.hid hM
  obtain ⟨q0, q1⟩ := logV_bd (n := sumIt xs M n) (by omega)
  obtain ⟨Q, hQ⟩ : ∃ Q, Q = logV (sumIt xs M n) := ⟨_, rfl⟩
  rw [← hQ] at HV q0 q1
  have HQ := Lib.hid hQ
  obtain ⟨S, hS⟩ : ∃ S, S = sumIt xs M n := ⟨_, rfl⟩
  rw [← hS] at hpos s0 s1 HQ
  have HS := Lib.hid hS
  clear hb gb hge hM hj hje hQ hS
  generalize xs.getD 0 0 = x0 at c0 H1
  have n1 : (1 : Int) ≤ (n : Int) := by omega
  have n2 : (0 : Int) < (n : Int) := by omega
  go_enter Tryd.func59, Tryd.ntmps59
  go_wp2_with fail
  go_loop [3, 4] (fun b i => ∃ k : Nat, 1 ≤ k ∧ k ≤ n ∧ i = .int .i64 (k : Int) ∧ b = .int .i64 (gr xs k)) (fun _ i => n + 1 - (intOf i).toNat)
  case atStart => exact ⟨1, Nat.le_refl _, hl, rfl, by rw [H1.out]⟩
  case round =>
    obtain ⟨k, hk1, hk, rfl, rfl⟩ := hrel
    have i0 : (0 : Int) ≤ (k : Int) := Int.natCast_nonneg _
    by_cases hlt : k < n
    · have i1 : (k : Int) < (n : Int) := by omega
      have c1 := HC.out k hlt
      have he : Hid (gr xs (k + 1) = max (gr xs k) (xs.getD k 0)) := rfl
      clear H1
      generalize gr xs k = m at *
      generalize xs.getD k 0 = x at *
      go_wp2_with fail
      refine (l00Max_any _ m x).mono ?_
      rintro e w1 ⟨rfl, rfl⟩
      go_wp2_with fail
      go_round
      case rel => exact ⟨k + 1, by omega, by omega, by go_num, by rw [he.out]⟩
      case measure => (simp [intOf] <;> omega)
    · obtain rfl : k = n := by omega
      have hd : decide ((k : Int) < (k : Int)) = false := decide_eq_false (by omega)
      rw [← HMM.out]
      clear H1 hlt
      go_wp2_with fail
      go_loop [5, 6] (fun t i => ∃ j : Nat, j ≤ k ∧ i = .int .i64 (j : Int) ∧ t = .int .i64 (sumIt xs M j)) (fun _ i => k + 1 - (intOf i).toNat)
      case atStart => exact ⟨0, Nat.zero_le _, rfl, rfl⟩
      case round =>
        obtain ⟨j, hj, rfl, rfl⟩ := hrel
        have j0 : (0 : Int) ≤ (j : Int) := Int.natCast_nonneg _
        obtain ⟨t0, t1⟩ := HSB.out j hj
        by_cases hlt : j < k
        · have i1 : (j : Int) < (k : Int) := by omega
          have c1 := HC.out j hlt
          have e1 := HGE.out j hlt
          obtain ⟨b0, b1⟩ := HB.out j hlt
          have he : Hid (sumIt xs M (j + 1) = sumIt xs M j + partV (xs.getD j 0 - M)) := rfl
          generalize sumIt xs M j = t at *
          generalize xs.getD j 0 = x at *
          obtain ⟨p0, p1⟩ := partV_bd (v := x - M) (by omega)
          obtain ⟨P, hP⟩ : ∃ P, P = partV (x - M) := ⟨_, rfl⟩
          rw [← hP] at p0 p1 he
          have HP := Lib.hid hP
          clear hP
          go_wp2_with fail
          refine (l02Part_any _ (x - M) (by omega) (by omega)).mono ?_
          rintro e w1 ⟨hq, rfl⟩
          rw [← HP.out] at hq
          subst hq
          go_wp2_with fail
          go_round
          case rel => exact ⟨j + 1, by omega, by go_num, by rw [he.out]⟩
          case measure => (simp [intOf] <;> omega)
        · obtain rfl : j = k := by omega
          have hd2 : decide ((j : Int) < (j : Int)) = false := decide_eq_false (by omega)
          rw [← HS.out]
          clear t0 t1
          go_wp2_with fail
          refine (l02Log_any _ S hpos (by omega)).mono ?_
          rintro e w1 ⟨hq, rfl⟩
          rw [← HQ.out] at hq
          subst hq
          go_wp2_with fail
          go_ret
          exact ⟨ret_int HV.out.symm, rfl⟩
set_option maxRecDepth 20000 in
set_option maxHeartbeats 1000000 in
theorem sumDb_any (w : World) (hT : PowTab w) (g c n : Nat) (xs : List Int) (hg : g < w.heap.size) (hn : xs.length = n) (hl : 1 ≤ n) (hm : n ≤ 1000) (hb : ∀ k, k < n → -1000000 ≤ xs.getD k 0 ∧ xs.getD k 0 ≤ 1000000) (hc : ∀ k, k < n → w.cell? ⟨g, k, none⟩ = some (.int .i64 (xs.getD k 0))) :
    Calls Tryd.prog 62 #[.slice (some ⟨g, 0, none⟩) n c] w fun e w' => e = .returned (.int .i64 (sumV xs)) ∧ Below w.heap.size w w' := by
  have HT := Lib.hid hT
  have HV : Hid (sumV xs = gr xs n - 90000 + logV (sumIt xs (gr xs n) n)) := by rw [← hn]; exact rfl
  have HC := Lib.hid hc
  have HB := Lib.hid hb
  clear hc hn hT
  obtain ⟨V, hV⟩ : ∃ V, V = sumV xs := ⟨_, rfl⟩
  rw [← hV] at HV ⊢
  clear hV
  have gb : ∀ k, 1 ≤ k → k ≤ n → -1000000 ≤ gr xs k ∧ gr xs k ≤ 1000000 := fun k k1 k2 => by
    obtain ⟨j, hj, he⟩ := gr_at xs k k1
    rw [he]
    exact hb j (by omega)
  obtain ⟨M, hM⟩ : ∃ M, M = gr xs n := ⟨_, rfl⟩
  have hge : ∀ k, k < n → xs.getD k 0 ≤ M := fun k hk => by rw [hM]; exact gr_ge xs n k hk
  have HGE := Lib.hid hge
  obtain ⟨M0, M1⟩ : -1000000 ≤ M ∧ M ≤ 1000000 := by rw [hM]; exact gb n hl (Nat.le_refl _)
  obtain ⟨j, hj, hje⟩ := gr_at xs n hl
  have hpos : 1 ≤ sumIt xs M n := sumIt_pos hge hj (by rw [hM]; exact hje.symm) n (Nat.le_refl _) hj
  have HSB := Lib.hid (fun k hk => sumIt_bd hge k hk)
  obtain ⟨s0, s1⟩ := sumIt_bd hge n (Nat.le_refl _)
  rw [← hM] at HV
  have HMM := Lib.hid hM
  obtain ⟨q0, q1⟩ := logV_bd (n := sumIt xs M n) (by omega)
  obtain ⟨Q, hQ⟩ : ∃ Q, Q = logV (sumIt xs M n) := ⟨_, rfl⟩
  rw [← hQ] at HV q0 q1
  have HQ := Lib.hid hQ
  obtain ⟨S, hS⟩ : ∃ S, S = sumIt xs M n := ⟨_, rfl⟩
  rw [← hS] at hpos s0 s1 HQ
  have HS := Lib.hid hS
  clear hb gb hge hM hj hje hQ hS
  go_enter Tryd.func62, Tryd.ntmps62
  go_wp2_with fail
  refine (slicesMax_any _ g c n xs hl (by omega) HC.out).mono ?_
  rintro e w1 ⟨hq, rfl⟩
  rw [← HMM.out] at hq
  subst hq
  go_wp2_with fail
  go_loopw [4, 11] (fun t i wr => ∃ j : Nat, j ≤ n ∧ i = .int .i64 (j : Int) ∧ t = .int .i64 (sumIt xs M j) ∧ Hid (Below w.heap.size w wr)) (fun _ i _ => n + 1 - (intOf i).toNat)
  case atStart => exact ⟨0, Nat.zero_le _, rfl, rfl, Below.refl _ _⟩
  case round =>
    obtain ⟨j, hj, rfl, rfl, hbw⟩ := hrel
    have j0 : (0 : Int) ≤ (j : Int) := Int.natCast_nonneg _
    obtain ⟨t0, t1⟩ := HSB.out j hj
    by_cases hlt : j < n
    · have i1 : (j : Int) < (n : Int) := by omega
      have c1 := (hbw.out.cell (p := ⟨g, j, none⟩) hg).trans (HC.out j hlt)
      have e1 := HGE.out j hlt
      obtain ⟨b0, b1⟩ := HB.out j hlt
      have he : Hid (sumIt xs M (j + 1) = sumIt xs M j + partV (xs.getD j 0 - M)) := rfl
      have HT1 := Lib.hid (HT.out.below hbw.out)
      generalize sumIt xs M j = t at *
      generalize xs.getD j 0 = x at *
      obtain ⟨p0, p1⟩ := partV_bd (v := x - M) (by omega)
      obtain ⟨P, hP⟩ : ∃ P, P = partV (x - M) := ⟨_, rfl⟩
      rw [← hP] at p0 p1 he
      have HP := Lib.hid hP
      clear hP
      go_wp2_with fail
      refine (partOf_any _ HT1.out (x - M) (by omega) (by omega)).mono ?_
      rintro e w1 ⟨hq, hb2⟩
      rw [← HP.out] at hq
      subst hq
      have H2 := Lib.hid (hbw.out.trans (hb2.mono hbw.out.size))
      clear hb2
      go_wp2_with fail
      go_roundw
      case rel => exact ⟨j + 1, by omega, by go_num, by rw [he.out], H2⟩
      case measure => (simp [intOf] <;> omega)
    · obtain rfl : j = n := by omega
      have hd2 : decide ((j : Int) < (j : Int)) = false := decide_eq_false (by omega)
      have HT1 := Lib.hid (HT.out.below hbw.out)
      rw [← HS.out]
      clear t0 t1
      go_wp2_with fail
      refine (LogDb_any _ HT1.out S ⟨by omega, by omega⟩).mono ?_
      rintro e w1 ⟨hq, hb2⟩
      rw [← HQ.out] at hq
      subst hq
      have H2 := Lib.hid (hbw.out.trans (hb2.mono hbw.out.size))
      clear hb2
      go_wp2_with fail
      go_ret
      exact ⟨ret_int HV.out.symm, H2.out⟩
end Go.Proofs.YtlpjcebpfmhpnaaDoor
