/-
  Contracts of the loss by rain: the program's and the reference's: one model. The conditions are the hypotheses.
-/
import Derived.Test.YtlpjcebpfmhpnaaDoorTab
import Derived.Test.YtlpjcebpfmhpnaaDoorLib
import Derived.Test.YtlpjcebpfmhpnaaDoorPowDb
namespace Go.Proofs.YtlpjcebpfmhpnaaDoor
open Go.RowKit
set_option linter.unusedSimpArgs false
set_option linter.unusedVariables false
def rainK : List (Int × Int) := [(1000, -42000), (6000, -28000), (10000, -19500), (20000, -11200), (40000, -4000), (80000, 500), (100000, 900)]
def rainA : List (Int × Int) := [(1000, 950), (6000, 1300), (10000, 1250), (20000, 1070), (40000, 920), (80000, 740), (100000, 700)]
theorem rainK_all {p : Int × Int} (hp : p ∈ rainK) : (1000 ≤ p.1 ∧ p.1 ≤ 100000) ∧ (-42000 ≤ p.2 ∧ p.2 ≤ 900) := by
  simp only [rainK, List.mem_cons, List.not_mem_nil, or_false] at hp
  rcases hp with rfl | rfl | rfl | rfl | rfl | rfl | rfl <;> exact ⟨⟨by omega, by omega⟩, ⟨by omega, by omega⟩⟩
theorem rainA_all {p : Int × Int} (hp : p ∈ rainA) : (1000 ≤ p.1 ∧ p.1 ≤ 100000) ∧ (700 ≤ p.2 ∧ p.2 ≤ 1300) := by
  simp only [rainA, List.mem_cons, List.not_mem_nil, or_false] at hp
  rcases hp with rfl | rfl | rfl | rfl | rfl | rfl | rfl <;> exact ⟨⟨by omega, by omega⟩, ⟨by omega, by omega⟩⟩
theorem rainK_mid : ∀ p ∈ rainK, Mid p.1 ∧ Mid p.2 := fun p hp => by
  have h := rainK_all hp
  exact ⟨⟨by omega, by omega⟩, ⟨by omega, by omega⟩⟩
theorem rainA_mid : ∀ p ∈ rainA, Mid p.1 ∧ Mid p.2 := fun p hp => by
  have h := rainA_all hp
  exact ⟨⟨by omega, by omega⟩, ⟨by omega, by omega⟩⟩
theorem rainK_bd (x : Int) : -42000 ≤ tabAt x rainK ∧ tabAt x rainK ≤ 900 := tabAt_bd (by simp [rainK]) fun p hp => (rainK_all hp).2
theorem rainA_bd (x : Int) : 700 ≤ tabAt x rainA ∧ tabAt x rainA ≤ 1300 := tabAt_bd (by simp [rainA]) fun p hp => (rainA_all hp).2
theorem rain_seven {k : Nat} (h : k < 7) : k = 0 ∨ k = 1 ∨ k = 2 ∨ k = 3 ∨ k = 4 ∨ k = 5 ∨ k = 6 := by omega
theorem rainK_rise : ∀ k, k + 1 < 7 → (rainK.getD k (0, 0)).1 < (rainK.getD (k + 1) (0, 0)).1 := by
  intro k hk
  have h : k = 0 ∨ k = 1 ∨ k = 2 ∨ k = 3 ∨ k = 4 ∨ k = 5 := by omega
  rcases h with rfl | rfl | rfl | rfl | rfl | rfl <;> decide
theorem rainA_rise : ∀ k, k + 1 < 7 → (rainA.getD k (0, 0)).1 < (rainA.getD (k + 1) (0, 0)).1 := by
  intro k hk
  have h : k = 0 ∨ k = 1 ∨ k = 2 ∨ k = 3 ∨ k = 4 ∨ k = 5 := by omega
  rcases h with rfl | rfl | rfl | rfl | rfl | rfl <;> decide
theorem digR_200 : digR 200 = 2 := by rw [digR_step (by decide), digR_step (by decide), digR_small (by decide)]
theorem log200 : logV 200 = 23010 := by
  have h : logV 200 = logN 200 := if_neg (by decide)
  rw [h, logN, startX_up (by rw [digR_200]; decide), digR_200]
  decide
theorem digR_e7 : digR 10000000 = 7 := by rw [digR_step (by decide), digR_step (by decide), digR_step (by decide), digR_step (by decide), digR_step (by decide), digR_step (by decide), digR_step (by decide), digR_small (by decide)]
theorem loge7 : logV 10000000 = 70000 := by
  have h : logV 10000000 = logN 10000000 := if_neg (by decide)
  rw [h, logN, startX_up (by rw [digR_e7]; decide), digR_e7]
  decide
/-- The loss in thousandths as a logarithm. -/
def rainX (f rain : Int) : Int := tabAt (f / 1000) rainK + 30000 + rdiv (tabAt (f / 1000) rainA * logV rain) 1000
def rainV (f rain : Int) : Int := if rain = 0 then 0 else if rainX f rain < 0 then 0 else powV (rainX f rain)
theorem rainV_zero (f : Int) : rainV f 0 = 0 := if_pos rfl
theorem rainV_less {f rain : Int} (h : rainX f rain < 0) : rainV f rain = 0 := by
  unfold rainV
  by_cases hz : rain = 0
  · rw [if_pos hz]
  · rw [if_neg hz, if_pos h]
theorem rainV_more {f rain : Int} (h0 : ¬ rain = 0) (h : ¬ rainX f rain < 0) : rainV f rain = powV (rainX f rain) := by rw [rainV, if_neg h0, if_neg h]
theorem rain_log {rain : Int} (h : rain ≤ 200) : 0 ≤ logV rain ∧ logV rain ≤ 23010 := by
  refine ⟨(logV_bd (by omega)).1, ?_⟩
  rw [← log200]
  exact logV_mono h (by omega)
theorem rain_mul {a l : Int} (h1 : 700 ≤ a ∧ a ≤ 1300) (h2 : 0 ≤ l ∧ l ≤ 23010) : (0 ≤ a * l ∧ a * l ≤ 29913000) ∧ 0 ≤ rdiv (a * l) 1000 ∧ rdiv (a * l) 1000 ≤ 29913 := by
  have h := mul_nn (A := 1300) (B := 23010) (show 0 ≤ a by omega) h1.2 h2.1 h2.2
  exact ⟨⟨h.1, by omega⟩, rdiv_nonneg h.1 (by omega), rdiv_le h.1 (by omega) (by omega)⟩
theorem rainX_le {f rain : Int} (h : rain ≤ 200) : rainX f rain ≤ 60813 := by
  have := rainK_bd (f / 1000)
  have := (rain_mul (rainA_bd (f / 1000)) (rain_log h)).2
  unfold rainX
  omega
theorem rainV_bd {f rain : Int} (h : rain ≤ 200) : 0 ≤ rainV f rain ∧ rainV f rain ≤ 10000000 := by
  unfold rainV
  split
  · omega
  · split
    · omega
    · have := powV_ge (rainX f rain)
      have := powV_le (v := rainX f rain) (N := 10000000) (by rw [loge7]; have := rainX_le (f := f) h; omega) (by omega)
      omega
/-- The length in which the loss counts, and the loss along a path. -/
def rainE (rain : Int) : Int := rdiv 35000000 (1000 + 15 * rain)
theorem rainE_bd {rain : Int} (h0 : 0 ≤ rain) : 0 ≤ rainE rain ∧ rainE rain ≤ 35000 := by
  refine ⟨rdiv_nonneg (by omega) (by omega), rdiv_le (by omega) (by omega) (by omega)⟩
def wetV (f rain d : Int) : Int := rdiv (rainV f rain * d * rainE rain) (1000 * (d + rainE rain))
theorem wet_mul {v d e : Int} (hv : 0 ≤ v ∧ v ≤ 10000000) (hd : 1 ≤ d ∧ d ≤ 283000) (he : 0 ≤ e ∧ e ≤ 35000) : (0 ≤ v * d ∧ v * d ≤ 2830000000000) ∧ (0 ≤ v * d * e ∧ v * d * e ≤ 99050000000000000) := by
  have h := mul_nn (A := 10000000) (B := 283000) hv.1 hv.2 (show 0 ≤ d by omega) hd.2
  have k := mul_nn (A := 10000000 * 283000) (B := 35000) h.1 h.2 he.1 he.2
  omega
theorem wetV_bd {f rain d : Int} (h0 : 0 ≤ rain) (h : rain ≤ 200) (hd : 1 ≤ d ∧ d ≤ 283000) : 0 ≤ wetV f rain d ∧ wetV f rain d ≤ 100000000000000 := by
  have hv := rainV_bd (f := f) h
  have he := rainE_bd h0
  unfold wetV
  generalize rainV f rain = v at *
  generalize rainE rain = e at *
  have hm := wet_mul hv hd he
  generalize v * d * e = q at *
  refine ⟨rdiv_nonneg (by omega) (by omega), rdiv_le (by omega) (by omega) ?_⟩
  omega
set_option maxRecDepth 20000 in
set_option maxHeartbeats 2000000 in
theorem rainSpecific_any (w : World) (hT : PowTab w) (f rain : Int) (h1 : 1 ≤ f) (h2 : f ≤ 100000000) (h3 : 0 ≤ rain) (h4 : rain ≤ 200) :
    Calls Tryd.prog 78 #[.int .i64 f, .int .i64 rain] w fun e w' => e = .returned (.int .i64 (rainV f rain)) ∧ Below w.heap.size w w' := by
  obtain ⟨k0, k1⟩ := rainK_bd (f / 1000)
  have ka := rainA_bd (f / 1000)
  have kl := rain_log h4
  obtain ⟨⟨m0, m1⟩, r0, r1⟩ := rain_mul ka kl
  obtain ⟨a0, a1⟩ := ka
  obtain ⟨l0, l1⟩ := kl
  have HX : Hid (rainX f rain = tabAt (f / 1000) rainK + 30000 + rdiv (tabAt (f / 1000) rainA * logV rain) 1000) := rfl
  have HZ : Hid (rain = 0 → rainV f rain = 0) := fun h => by rw [h]; exact rainV_zero f
  have HL : Hid (rainX f rain < 0 → rainV f rain = 0) := fun h => rainV_less h
  have HM : Hid (¬ rain = 0 → ¬ rainX f rain < 0 → rainV f rain = powV (rainX f rain)) := fun h k => rainV_more h k
  have HT := Lib.hid hT
  clear hT
  obtain ⟨K, hK⟩ : ∃ K, K = tabAt (f / 1000) rainK := ⟨_, rfl⟩
  obtain ⟨A, hA⟩ : ∃ A, A = tabAt (f / 1000) rainA := ⟨_, rfl⟩
  obtain ⟨L, hL⟩ : ∃ L, L = logV rain := ⟨_, rfl⟩
  obtain ⟨R, hR⟩ : ∃ R, R = rdiv (A * L) 1000 := ⟨_, rfl⟩
  rw [← hK] at k0 k1 HX
  rw [← hA] at a0 a1 m0 m1 r0 r1 HX
  rw [← hL] at l0 l1 m0 m1 r0 r1 HX
  rw [← hR] at r0 r1 HX
  obtain ⟨X, hX⟩ : ∃ X, X = rainX f rain := ⟨_, rfl⟩
  obtain ⟨V, hV⟩ : ∃ V, V = rainV f rain := ⟨_, rfl⟩
  rw [← hX] at HX HL HM
  rw [← hV] at HZ HL HM ⊢
  have HK := Lib.hid hK
  have HA := Lib.hid hA
  have HLg := Lib.hid hL
  have HR := Lib.hid hR
  clear hK hA hL hR hX hV
  go_enter Tryd.func78, Tryd.ntmps78
  go_wp2_with fail
  refine (rowsAt_any rainK f (by omega) _ 7 _ rfl (by omega) (by omega) rainK_mid _ ?_).mono ?_
  · intro k hk
    rcases rain_seven hk with rfl | rfl | rfl | rfl | rfl | rfl | rfl <;> simp [go_sem, rainK]
  rintro e w1 ⟨he, n, rfl⟩
  rw [← HK.out] at he
  subst he
  go_wp2_with fail
  refine (rowsAt_any rainA f (by omega) _ 7 _ rfl (by omega) (by omega) rainA_mid _ ?_).mono ?_
  · intro k hk
    rcases rain_seven hk with rfl | rfl | rfl | rfl | rfl | rfl | rfl <;> simp [go_sem, rainA]
  rintro e w2 ⟨he, n2, rfl⟩
  rw [← HA.out] at he
  subst he
  go_wp2_with fail
  refine (LogDb_any _ (by repeat (first | exact HT.out | refine PowTab.alloc ?_ _ | refine PowTab.drewN ?_ _)) rain ⟨by omega, by omega⟩).mono ?_
  rintro e w3 ⟨he, hb⟩
  rw [← HLg.out] at he
  subst he
  have H1 := Lib.hid (show Below w.heap.size w w3 by repeat (first | (with_reducible exact Below.refl _ _) | (with_reducible assumption) | ((with_reducible refine bl_alloc ?_ _ ?_); (focus ((first | omega | (simp <;> omega)); done))) | ((with_reducible refine bl_set ?_ _ ?_); (focus ((first | omega | (simp <;> omega)); done))) | (with_reducible refine below_drewN ?_ _) | (with_reducible refine Below.drew ?_) | ((with_reducible refine bl_trans ?_ hb ?_); (focus ((first | omega | (simp <;> omega)); done)))))
  have HT1 := Lib.hid (HT.out.below H1.out)
  have zz : w.heap.size ≤ w3.heap.size := H1.out.size
  clear hb
  go_wp2_with fail
  refine (divRound_any _ _ (by omega) (by omega) _).mono ?_
  rintro e w4 ⟨he, n4, rfl⟩
  rw [← HR.out] at he
  subst he
  by_cases hz : rain = 0
  · subst hz
    have he := Lib.hid (HZ.out rfl)
    go_wp2_with fail
    go_ret
    exact ⟨ret_int he.out.symm, by repeat (first | (with_reducible exact Below.refl _ _) | (with_reducible assumption) | ((with_reducible refine bl_alloc ?_ _ ?_); (focus ((first | omega | (simp <;> omega)); done))) | ((with_reducible refine bl_set ?_ _ ?_); (focus ((first | omega | (simp <;> omega)); done))) | (with_reducible refine below_drewN ?_ _) | (with_reducible refine Below.drew ?_) | ((with_reducible refine bl_trans ?_ H1.out ?_); (focus ((first | omega | (simp <;> omega)); done))))⟩
  · have hd : decide (rain = 0) = false := decide_eq_false hz
    by_cases hx : K + 30000 + R < 0
    · have he := Lib.hid (HL.out (by rw [HX.out]; omega))
      go_wp2_with fail
      go_ret
      exact ⟨ret_int he.out.symm, by repeat (first | (with_reducible exact Below.refl _ _) | (with_reducible assumption) | ((with_reducible refine bl_alloc ?_ _ ?_); (focus ((first | omega | (simp <;> omega)); done))) | ((with_reducible refine bl_set ?_ _ ?_); (focus ((first | omega | (simp <;> omega)); done))) | (with_reducible refine below_drewN ?_ _) | (with_reducible refine Below.drew ?_) | ((with_reducible refine bl_trans ?_ H1.out ?_); (focus ((first | omega | (simp <;> omega)); done))))⟩
    · have he := Lib.hid (HM.out hz (by rw [HX.out]; omega))
      have hg : (rain == 0 || decide (K + 30000 + R < 0)) = false := by simp [hz]; omega
      go_wp2_with fail
      refine (PowDb_any _ (HT1.out.drewN _) (K + 30000 + R) (by omega) (by omega)).mono ?_
      rintro e w5 ⟨hq, hb⟩
      rw [← HX.out, ← he.out] at hq
      subst hq
      have H5 := Lib.hid (show Below w.heap.size w w5 by repeat (first | (with_reducible exact Below.refl _ _) | (with_reducible assumption) | ((with_reducible refine bl_alloc ?_ _ ?_); (focus ((first | omega | (simp <;> omega)); done))) | ((with_reducible refine bl_set ?_ _ ?_); (focus ((first | omega | (simp <;> omega)); done))) | (with_reducible refine below_drewN ?_ _) | (with_reducible refine Below.drew ?_) | ((with_reducible refine bl_trans ?_ hb ?_); (focus ((first | omega | (simp <;> omega)); done))) | ((with_reducible refine bl_trans ?_ H1.out ?_); (focus ((first | omega | (simp <;> omega)); done)))))
      clear hb
      go_wp2_with fail
      go_ret
      exact ⟨rfl, H5.out⟩
set_option maxRecDepth 20000 in
set_option maxHeartbeats 2000000 in
theorem l11Rain_any (w : World) (f rain : Int) (h1 : 1 ≤ f) (h2 : f ≤ 100000000) (h3 : 0 ≤ rain) (h4 : rain ≤ 200) :
    Calls Tryd.prog 71 #[.int .i64 f, .int .i64 rain] w fun e w' => e = .returned (.int .i64 (rainV f rain)) ∧ Below w.heap.size w w' := by
  obtain ⟨k0, k1⟩ := rainK_bd (f / 1000)
  have ka := rainA_bd (f / 1000)
  have kl := rain_log h4
  obtain ⟨⟨m0, m1⟩, r0, r1⟩ := rain_mul ka kl
  obtain ⟨a0, a1⟩ := ka
  obtain ⟨l0, l1⟩ := kl
  have HX : Hid (rainX f rain = tabAt (f / 1000) rainK + 30000 + rdiv (tabAt (f / 1000) rainA * logV rain) 1000) := rfl
  have HZ : Hid (rain = 0 → rainV f rain = 0) := fun h => by rw [h]; exact rainV_zero f
  have HL : Hid (rainX f rain < 0 → rainV f rain = 0) := fun h => rainV_less h
  have HM : Hid (¬ rain = 0 → ¬ rainX f rain < 0 → rainV f rain = powV (rainX f rain)) := fun h k => rainV_more h k
  obtain ⟨K, hK⟩ : ∃ K, K = tabAt (f / 1000) rainK := ⟨_, rfl⟩
  obtain ⟨A, hA⟩ : ∃ A, A = tabAt (f / 1000) rainA := ⟨_, rfl⟩
  obtain ⟨L, hL⟩ : ∃ L, L = logV rain := ⟨_, rfl⟩
  obtain ⟨R, hR⟩ : ∃ R, R = rdiv (A * L) 1000 := ⟨_, rfl⟩
  rw [← hK] at k0 k1 HX
  rw [← hA] at a0 a1 m0 m1 r0 r1 HX
  rw [← hL] at l0 l1 m0 m1 r0 r1 HX
  rw [← hR] at r0 r1 HX
  obtain ⟨X, hX⟩ : ∃ X, X = rainX f rain := ⟨_, rfl⟩
  obtain ⟨V, hV⟩ : ∃ V, V = rainV f rain := ⟨_, rfl⟩
  rw [← hX] at HX HL HM
  rw [← hV] at HZ HL HM ⊢
  have HK := Lib.hid hK
  have HA := Lib.hid hA
  have HLg := Lib.hid hL
  have HR := Lib.hid hR
  clear hK hA hL hR hX hV
  by_cases hz : rain = 0
  · subst hz
    have he := Lib.hid (HZ.out rfl)
    go_enter Tryd.func71, Tryd.ntmps71
    go_wp2_with fail
    go_ret
    exact ⟨ret_int he.out.symm, by repeat (first | (with_reducible exact Below.refl _ _) | (with_reducible assumption) | ((with_reducible refine bl_alloc ?_ _ ?_); (focus ((first | omega | (simp <;> omega)); done))) | ((with_reducible refine bl_set ?_ _ ?_); (focus ((first | omega | (simp <;> omega)); done))) | (with_reducible refine below_drewN ?_ _) | (with_reducible refine Below.drew ?_))⟩
  have hd : decide (rain = 0) = false := decide_eq_false hz
  go_enter Tryd.func71, Tryd.ntmps71
  go_wp2_with fail
  refine (l11Table_any rainK (f / 1000) ⟨by omega, by omega⟩ _ _ 7 _ _ rfl (by omega) (by omega) rainK_mid rainK_rise _ ?_).mono ?_
  · intro k hk
    rcases rain_seven hk with rfl | rfl | rfl | rfl | rfl | rfl | rfl <;> simp [go_sem, rainK]
  rintro e w1 ⟨he, n, rfl⟩
  rw [← HK.out] at he
  subst he
  go_wp2_with fail
  refine (l11Table_any rainA (f / 1000) ⟨by omega, by omega⟩ _ _ 7 _ _ rfl (by omega) (by omega) rainA_mid rainA_rise _ ?_).mono ?_
  · intro k hk
    rcases rain_seven hk with rfl | rfl | rfl | rfl | rfl | rfl | rfl <;> simp [go_sem, rainA]
  rintro e w2 ⟨he, n2, rfl⟩
  rw [← HA.out] at he
  subst he
  go_wp2_with fail
  refine (l02Log_any _ rain (by omega) (by omega)).mono ?_
  rintro e w3 ⟨he, rfl⟩
  rw [← HLg.out] at he
  subst he
  go_wp2_with fail
  refine (l01Div_any _ _ (by omega) (by omega) _).mono ?_
  rintro e w4 ⟨he, rfl⟩
  rw [← HR.out] at he
  subst he
  by_cases hx : K + 30000 + R < 0
  · have he := Lib.hid (HL.out (by rw [HX.out]; omega))
    go_wp2_with fail
    go_ret
    exact ⟨ret_int he.out.symm, by repeat (first | (with_reducible exact Below.refl _ _) | (with_reducible assumption) | ((with_reducible refine bl_alloc ?_ _ ?_); (focus ((first | omega | (simp <;> omega)); done))) | ((with_reducible refine bl_set ?_ _ ?_); (focus ((first | omega | (simp <;> omega)); done))) | (with_reducible refine below_drewN ?_ _) | (with_reducible refine Below.drew ?_))⟩
  · have he := Lib.hid (HM.out hz (by rw [HX.out]; omega))
    go_wp2_with fail
    refine (l02Pow_any _ (K + 30000 + R) (by omega) (by omega)).mono ?_
    rintro e w5 ⟨hq, rfl⟩
    rw [← HX.out, ← he.out] at hq
    subst hq
    go_wp2_with fail
    go_ret
    exact ⟨rfl, by repeat (first | (with_reducible exact Below.refl _ _) | (with_reducible assumption) | ((with_reducible refine bl_alloc ?_ _ ?_); (focus ((first | omega | (simp <;> omega)); done))) | ((with_reducible refine bl_set ?_ _ ?_); (focus ((first | omega | (simp <;> omega)); done))) | (with_reducible refine below_drewN ?_ _) | (with_reducible refine Below.drew ?_))⟩
set_option maxRecDepth 20000 in
set_option maxHeartbeats 2000000 in
theorem rainLoss_any (w : World) (hT : PowTab w) (f rain d : Int) (h1 : 1 ≤ f) (h2 : f ≤ 100000000) (h3 : 0 ≤ rain) (h4 : rain ≤ 200) (h5 : 1 ≤ d) (h6 : d ≤ 283000) :
    Calls Tryd.prog 57 #[.int .i64 f, .int .i64 rain, .int .i64 d] w fun e w' => e = .returned (.int .i64 (wetV f rain d)) ∧ Below w.heap.size w w' := by
  have bv := rainV_bd (f := f) h4
  have be := rainE_bd h3
  have HW : Hid (wetV f rain d = rdiv (rainV f rain * d * rainE rain) (1000 * (d + rainE rain))) := rfl
  have HE0 : Hid (rainE rain = rdiv 35000000 (1000 + 15 * rain)) := rfl
  have HT := Lib.hid hT
  clear hT
  obtain ⟨V, hV⟩ : ∃ V, V = rainV f rain := ⟨_, rfl⟩
  obtain ⟨E, hE⟩ : ∃ E, E = rainE rain := ⟨_, rfl⟩
  rw [← hV] at bv HW
  rw [← hE] at be HW HE0
  obtain ⟨⟨m0, m1⟩, m2, m3⟩ := wet_mul bv ⟨h5, h6⟩ be
  obtain ⟨v0, v1⟩ := bv
  obtain ⟨e0, e1⟩ := be
  have HV := Lib.hid hV
  clear hV hE
  go_enter Tryd.func57, Tryd.ntmps57
  go_wp2_with fail
  refine (divRound_any _ _ (by omega) (by omega) _).mono ?_
  rintro e w4 ⟨he, n4, rfl⟩
  rw [← HE0.out] at he
  subst he
  go_wp2_with fail
  refine (rainSpecific_any _ (by repeat (first | exact HT.out | refine PowTab.alloc ?_ _ | refine PowTab.drewN ?_ _)) f rain h1 h2 h3 h4).mono ?_
  rintro e w5 ⟨he, hb⟩
  rw [← HV.out] at he
  subst he
  have H5 := Lib.hid (show Below w.heap.size w w5 by repeat (first | (with_reducible exact Below.refl _ _) | (with_reducible assumption) | ((with_reducible refine bl_alloc ?_ _ ?_); (focus ((first | omega | (simp <;> omega)); done))) | ((with_reducible refine bl_set ?_ _ ?_); (focus ((first | omega | (simp <;> omega)); done))) | (with_reducible refine below_drewN ?_ _) | (with_reducible refine Below.drew ?_) | ((with_reducible refine bl_trans ?_ hb ?_); (focus ((first | omega | (simp <;> omega)); done)))))
  clear hb
  go_wp2_with fail
  refine (divRound_any _ _ (by omega) (by omega) _).mono ?_
  rintro e w6 ⟨he, n6, rfl⟩
  rw [← HW.out] at he
  subst he
  go_wp2_with fail
  go_ret
  exact ⟨rfl, by repeat (first | (with_reducible exact Below.refl _ _) | (with_reducible assumption) | ((with_reducible refine bl_alloc ?_ _ ?_); (focus ((first | omega | (simp <;> omega)); done))) | ((with_reducible refine bl_set ?_ _ ?_); (focus ((first | omega | (simp <;> omega)); done))) | (with_reducible refine below_drewN ?_ _) | (with_reducible refine Below.drew ?_) | ((with_reducible refine bl_trans ?_ H5.out ?_); (focus ((first | omega | (simp <;> omega)); done))))⟩
set_option maxRecDepth 20000 in
set_option maxHeartbeats 2000000 in
theorem l11Wet_any (w : World) (f rain d : Int) (h1 : 1 ≤ f) (h2 : f ≤ 100000000) (h3 : 0 ≤ rain) (h4 : rain ≤ 200) (h5 : 1 ≤ d) (h6 : d ≤ 283000) :
    Calls Tryd.prog 47 #[.int .i64 f, .int .i64 rain, .int .i64 d] w fun e w' => e = .returned (.int .i64 (wetV f rain d)) ∧ Below w.heap.size w w' := by
  have bv := rainV_bd (f := f) h4
  have be := rainE_bd h3
  have HW : Hid (wetV f rain d = rdiv (rainV f rain * d * rainE rain) (1000 * (d + rainE rain))) := rfl
  have HE0 : Hid (rainE rain = rdiv 35000000 (1000 + 15 * rain)) := rfl
  obtain ⟨V, hV⟩ : ∃ V, V = rainV f rain := ⟨_, rfl⟩
  obtain ⟨E, hE⟩ : ∃ E, E = rainE rain := ⟨_, rfl⟩
  rw [← hV] at bv HW
  rw [← hE] at be HW HE0
  obtain ⟨⟨m0, m1⟩, m2, m3⟩ := wet_mul bv ⟨h5, h6⟩ be
  obtain ⟨v0, v1⟩ := bv
  obtain ⟨e0, e1⟩ := be
  have HV := Lib.hid hV
  clear hV hE
  go_enter Tryd.func47, Tryd.ntmps47
  go_wp2_with fail
  refine (l01Div_any _ _ (by omega) (by omega) _).mono ?_
  rintro e w4 ⟨he, rfl⟩
  rw [← HE0.out] at he
  subst he
  go_wp2_with fail
  refine (l11Rain_any _ f rain h1 h2 h3 h4).mono ?_
  rintro e w5 ⟨he, hb⟩
  rw [← HV.out] at he
  subst he
  have H5 := Lib.hid (show Below w.heap.size w w5 by repeat (first | (with_reducible exact Below.refl _ _) | (with_reducible assumption) | ((with_reducible refine bl_alloc ?_ _ ?_); (focus ((first | omega | (simp <;> omega)); done))) | ((with_reducible refine bl_set ?_ _ ?_); (focus ((first | omega | (simp <;> omega)); done))) | (with_reducible refine below_drewN ?_ _) | (with_reducible refine Below.drew ?_) | ((with_reducible refine bl_trans ?_ hb ?_); (focus ((first | omega | (simp <;> omega)); done)))))
  clear hb
  go_wp2_with fail
  refine (l01Div_any _ _ (by omega) (by omega) _).mono ?_
  rintro e w6 ⟨he, rfl⟩
  rw [← HW.out] at he
  subst he
  go_wp2_with fail
  go_ret
  exact ⟨rfl, by repeat (first | (with_reducible exact Below.refl _ _) | (with_reducible assumption) | ((with_reducible refine bl_alloc ?_ _ ?_); (focus ((first | omega | (simp <;> omega)); done))) | ((with_reducible refine bl_set ?_ _ ?_); (focus ((first | omega | (simp <;> omega)); done))) | (with_reducible refine below_drewN ?_ _) | (with_reducible refine Below.drew ?_) | ((with_reducible refine bl_trans ?_ H5.out ?_); (focus ((first | omega | (simp <;> omega)); done))))⟩
end Go.Proofs.YtlpjcebpfmhpnaaDoor
