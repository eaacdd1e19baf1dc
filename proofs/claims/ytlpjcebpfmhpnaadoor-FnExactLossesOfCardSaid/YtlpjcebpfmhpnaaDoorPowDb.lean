/-
  Contracts of the least number with a logarithm: the program's and the reference's: one model. The conditions are the hypotheses.
-/
import Derived.Test.YtlpjcebpfmhpnaaDoorRows
import Derived.Test.YtlpjcebpfmhpnaaDoorLib
import Derived.Test.YtlpjcebpfmhpnaaDoorRootMath
import Derived.Test.YtlpjcebpfmhpnaaDoorLogS
import Derived.Test.YtlpjcebpfmhpnaaDoorLogI
import Derived.Test.YtlpjcebpfmhpnaaDoorWithin
import Derived.Outline
namespace Go.Proofs.YtlpjcebpfmhpnaaDoor
open Go.RowKit
set_option linter.unusedSimpArgs false
set_option linter.unusedVariables false
set_option maxRecDepth 20000 in
theorem l02Pow_any (w : World) (v : Int) (h0 : 0 ≤ v) (h1 : v ≤ 180000) :
    Calls Tryd.prog 87 #[.int .i64 v] w fun e w' => e = .returned (.int .i64 (powV v)) ∧ w = w' := by
  have HP : Hid (powV v = powIt v 60 1 1000000000000000000) := rfl
  generalize powV v = P at *
  go_enter Tryd.func87, Tryd.ntmps87
  go_wp2_with fail
  go_loop [3, 4] (fun a b => ∃ (low high : Int) (f : Nat), a = .int .i64 low ∧ b = .int .i64 high ∧ 1 ≤ low ∧ low ≤ high ∧ high ≤ 1000000000000000000 ∧ Hid (P = powIt v f low high) ∧ Hid (high - low < 2 ^ f)) (fun a b => (intOf b - intOf a).toNat)
  case atStart => exact ⟨1, 1000000000000000000, 60, rfl, rfl, by omega, by omega, by omega, HP, pow2_60⟩
  case round =>
    obtain ⟨low, high, f, rfl, rfl, l1, l2, l3, hp, hf⟩ := hrel
    by_cases hlt : low < high
    · obtain ⟨M, hM⟩ : ∃ M, M = (low + high) / 2 := ⟨_, rfl⟩
      obtain ⟨g, rfl, g1, g2⟩ := pow_step hlt hf.out
      have p1 := powIt_lo (v := v) (f := g) hlt
      have p2 := powIt_hi (v := v) (f := g) hlt
      rw [← hM] at p1 p2 g1 g2
      have G1 := Lib.hid g1
      have G2 := Lib.hid g2
      have P1 := Lib.hid (fun h => hp.out.trans (p1 h))
      have P2 := Lib.hid (fun h => hp.out.trans (p2 h))
      have m1 : low ≤ M := by omega
      have m2 : M < high := by omega
      have hM' : (low + high) / 2 = M := hM.symm
      have HM := Lib.hid hM
      clear hM p1 p2 g1 g2 hp hf
      by_cases hv : v ≤ logV M
      · have hp' := Lib.hid (P1.out hv)
        obtain ⟨K, hK⟩ : ∃ K, K = logV M := ⟨_, rfl⟩
        have HK := Lib.hid hK
        rw [← hK] at hv
        clear hK P1 P2
        go_wp2_with fail
        refine (l02Log_any _ M (by omega) (by omega)).mono ?_
        rintro e w1 ⟨he, rfl⟩
        rw [← HK.out] at he
        subst he
        go_wp2_with fail
        go_round
        case rel => exact ⟨low, M, g, rfl, rfl, l1, m1, by omega, hp', G1⟩
        case measure => simp [intOf]; omega
      · have hp' := Lib.hid (P2.out hv)
        obtain ⟨K, hK⟩ : ∃ K, K = logV M := ⟨_, rfl⟩
        have HK := Lib.hid hK
        rw [← hK] at hv
        clear hK P1 P2
        go_wp2_with fail
        refine (l02Log_any _ M (by omega) (by omega)).mono ?_
        rintro e w1 ⟨he, rfl⟩
        rw [← HK.out] at he
        subst he
        go_wp2_with fail
        go_round
        case rel => exact ⟨M + 1, high, g, rfl, rfl, by omega, by omega, l3, hp', G2⟩
        case measure => simp [intOf]; omega
    · have he := Lib.hid (hp.out.trans (powIt_end hlt f))
      clear hp hf
      go_wp2_with fail
      go_ret
      exact ⟨ret_int he.out.symm, rfl⟩
set_option maxRecDepth 20000 in
theorem PowDb_any (w : World) (hT : PowTab w) (v : Int) (h0 : 0 ≤ v) (h1 : v ≤ 180000) :
    Calls Tryd.prog 93 #[.int .i64 v] w fun e w' => e = .returned (.int .i64 (powV v)) ∧ Below w.heap.size w w' := by
  have HP : Hid (powV v = powIt v 60 1 1000000000000000000) := rfl
  generalize powV v = P at *
  have HT := Lib.hid hT
  clear hT
  go_enter Tryd.func93, Tryd.ntmps93
  have hv : inB v 0 180000 = true := inB_yes h0 h1
  go_wp2_with (go_at_call 53; refine (within_any _ _ _ _).mono ?_; rintro e w1 ⟨rfl, rfl⟩)
  go_loopw [3, 4] (fun a b wr => ∃ (low high : Int) (f : Nat), a = .int .i64 low ∧ b = .int .i64 high ∧ 1 ≤ low ∧ low ≤ high ∧ high ≤ 1000000000000000000 ∧ Hid (P = powIt v f low high) ∧ Hid (high - low < 2 ^ f) ∧ Hid (Below w.heap.size w wr)) (fun a b _ => (intOf b - intOf a).toNat)
  case atStart => exact ⟨1, 1000000000000000000, 60, rfl, rfl, by omega, by omega, by omega, HP, pow2_60, Below.refl _ _⟩
  case round =>
    obtain ⟨low, high, f, rfl, rfl, l1, l2, l3, hp, hf, hb⟩ := hrel
    by_cases hlt : low < high
    · obtain ⟨M, hM⟩ : ∃ M, M = (low + high) / 2 := ⟨_, rfl⟩
      obtain ⟨g, rfl, g1, g2⟩ := pow_step hlt hf.out
      have p1 := powIt_lo (v := v) (f := g) hlt
      have p2 := powIt_hi (v := v) (f := g) hlt
      rw [← hM] at p1 p2 g1 g2
      have G1 := Lib.hid g1
      have G2 := Lib.hid g2
      have P1 := Lib.hid (fun h => hp.out.trans (p1 h))
      have P2 := Lib.hid (fun h => hp.out.trans (p2 h))
      have m1 : low ≤ M := by omega
      have m2 : M < high := by omega
      have hM' : low + (high - low) / 2 = M := by omega
      have HM := Lib.hid hM
      have HT1 := Lib.hid (HT.out.below hb.out)
      clear hM p1 p2 g1 g2 hp hf
      by_cases hv : v ≤ logV M
      · have hp' := Lib.hid (P1.out hv)
        obtain ⟨K, hK⟩ : ∃ K, K = logV M := ⟨_, rfl⟩
        have HK := Lib.hid hK
        rw [← hK] at hv
        clear hK P1 P2
        go_wp2_with fail
        refine (LogDb_any _ HT1.out M ⟨by omega, by omega⟩).mono ?_
        rintro e w1 ⟨he, hb1⟩
        rw [← HK.out] at he
        subst he
        have hb' := Lib.hid (hb.out.trans (hb1.mono hb.out.size))
        clear hb1
        go_wp2_with fail
        go_roundw
        case rel => exact ⟨low, M, g, rfl, rfl, l1, m1, by omega, hp', G1, hb'⟩
        case measure => simp [intOf]; omega
      · have hp' := Lib.hid (P2.out hv)
        obtain ⟨K, hK⟩ : ∃ K, K = logV M := ⟨_, rfl⟩
        have HK := Lib.hid hK
        rw [← hK] at hv
        clear hK P1 P2
        go_wp2_with fail
        refine (LogDb_any _ HT1.out M ⟨by omega, by omega⟩).mono ?_
        rintro e w1 ⟨he, hb1⟩
        rw [← HK.out] at he
        subst he
        have hb' := Lib.hid (hb.out.trans (hb1.mono hb.out.size))
        clear hb1
        go_wp2_with fail
        go_roundw
        case rel => exact ⟨M + 1, high, g, rfl, rfl, by omega, by omega, l3, hp', G2, hb'⟩
        case measure => simp [intOf]; omega
    · have he := Lib.hid (hp.out.trans (powIt_end hlt f))
      clear hp hf
      go_wp2_with fail
      go_ret
      exact ⟨ret_int he.out.symm, hb.out⟩
end Go.Proofs.YtlpjcebpfmhpnaaDoor
