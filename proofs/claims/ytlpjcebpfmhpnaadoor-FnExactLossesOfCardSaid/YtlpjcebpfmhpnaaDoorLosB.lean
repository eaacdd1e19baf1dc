/-
  The model of LossesOf, with its bounds, and contracts of what its law calls. The conditions are the hypotheses.
-/
import Derived.Test.YtlpjcebpfmhpnaaDoorRows
import Derived.Test.YtlpjcebpfmhpnaaDoorLib
import Derived.Test.YtlpjcebpfmhpnaaDoorInt
import Derived.Test.YtlpjcebpfmhpnaaDoorWithin
import Derived.Test.YtlpjcebpfmhpnaaDoorAll
import Derived.Test.YtlpjcebpfmhpnaaDoorTab
import Derived.Test.YtlpjcebpfmhpnaaDoorGas
import Derived.Test.YtlpjcebpfmhpnaaDoorRain
import Derived.Test.YtlpjcebpfmhpnaaDoorFree
import Derived.Test.YtlpjcebpfmhpnaaDoorDec
import Derived.Test.YtlpjcebpfmhpnaaDoorClutter
import Derived.Test.YtlpjcebpfmhpnaaDoorClutL
import Derived.Test.YtlpjcebpfmhpnaaDoorOwn
import Derived.Test.YtlpjcebpfmhpnaaDoorField
import Derived.Outline
import Derived.Deep.RegionHeld3
import Derived.Deep.DrawnRows
import Derived.Deep.RegionLaw
namespace Go.Proofs.YtlpjcebpfmhpnaaDoor.ofLossesOf
open Go.RowKit Go.Proofs.YtlpjcebpfmhpnaaDoor.ofClutterLoss
set_option linter.unusedSimpArgs false
set_option linter.unusedVariables false
def losOk (f d r : Int) (cs bs : List Int) : Prop := cs.length = 2 ∧ bs.length = 2 ∧ (1 ≤ f ∧ f ≤ 100000000) ∧ (1 ≤ d ∧ d ≤ 283000) ∧ (0 ≤ r ∧ r ≤ 200) ∧ allIn cs 0 7 = true ∧ allIn bs 0 90000 = true
instance (f d r : Int) (cs bs : List Int) : Decidable (losOk f d r cs bs) := by unfold losOk; infer_instance
def gasV (f d : Int) : Int := rdiv (tabAt (f / 1000) gasTab * d) 1000
def cluV (f : Int) (cs bs : List Int) (k : Nat) : Int := lossOf (heights.getD (cs.getD k 0).toNat 0) (weights.getD (cs.getD k 0).toNat 0) (share f) (bs.getD k 0)
def losV (f d r : Int) (cs bs : List Int) : Int × Int × Int × Int × Int := (freeV f d, gasV f d, wetV f r d, cluV f cs bs 0 + cluV f cs bs 1, freeV f d + gasV f d + wetV f r d + (cluV f cs bs 0 + cluV f cs bs 1))
def losR (f d r : Int) (cs bs : List Int) : Int × Int × Int × Int × Int := if losOk f d r cs bs then losV f d r cs bs else (0, 0, 0, 0, 0)
def losC (f d r : Int) (cs bs : List Int) : Int := if losOk f d r cs bs then 0 else if cs.length = 2 ∧ bs.length = 2 then 2 else 6
theorem los_yes {f d r : Int} {cs bs : List Int} (h : losOk f d r cs bs) : losR f d r cs bs = losV f d r cs bs ∧ losC f d r cs bs = 0 := ⟨if_pos h, if_pos h⟩
theorem los_len {f d r : Int} {cs bs : List Int} (h : ¬ (cs.length = 2 ∧ bs.length = 2)) : losR f d r cs bs = (0, 0, 0, 0, 0) ∧ losC f d r cs bs = 6 := by
  have h' : ¬ losOk f d r cs bs := fun q => h ⟨q.1, q.2.1⟩
  exact ⟨if_neg h', by unfold losC; rw [if_neg h', if_neg h]⟩
theorem los_out {f d r : Int} {cs bs : List Int} (h1 : cs.length = 2) (h2 : bs.length = 2) (h : ¬ ((1 ≤ f ∧ f ≤ 100000000) ∧ (1 ≤ d ∧ d ≤ 283000) ∧ (0 ≤ r ∧ r ≤ 200) ∧ allIn cs 0 7 = true ∧ allIn bs 0 90000 = true)) : losR f d r cs bs = (0, 0, 0, 0, 0) ∧ losC f d r cs bs = 2 := by
  have h' : ¬ losOk f d r cs bs := fun q => h q.2.2
  exact ⟨if_neg h', by unfold losC; rw [if_neg h', if_pos ⟨h1, h2⟩]⟩
theorem gasV_bd {f d : Int} (h1 : 1 ≤ d) (h2 : d ≤ 283000) : 0 ≤ gasV f d ∧ gasV f d ≤ 4245000 := by
  obtain ⟨t1, t2⟩ := gas_bd (f / 1000)
  obtain ⟨m1, m2⟩ := mul_nn (A := 15000) (B := 283000) (show 0 ≤ tabAt (f / 1000) gasTab by omega) t2 (show 0 ≤ d by omega) h2
  exact ⟨rdiv_nonneg m1 (by omega), rdiv_le m1 (by omega) (by omega)⟩
theorem gasLoss_any (w : World) (f d : Int) (h1 : 1 ≤ f) (h2 : f ≤ 100000000) (h3 : 1 ≤ d) (h4 : d ≤ 283000) :
    Calls Tryd.prog 56 #[.int .i64 f, .int .i64 d] w fun e w' => e = .returned (.int .i64 (gasV f d)) ∧ Below w.heap.size w w' := by
  have HG : Hid (gasV f d = rdiv (tabAt (f / 1000) gasTab * d) 1000) := rfl
  obtain ⟨t1, t2⟩ := gas_bd (f / 1000)
  obtain ⟨t, ht⟩ : ∃ t, t = tabAt (f / 1000) gasTab := ⟨_, rfl⟩
  have HT := Lib.hid ht
  rw [← ht] at t1 t2 HG
  clear ht
  obtain ⟨V, hV⟩ : ∃ V, V = gasV f d := ⟨_, rfl⟩
  rw [← hV] at HG ⊢
  clear hV
  obtain ⟨m1, m2⟩ := mul_nn (A := 15000) (B := 283000) (show 0 ≤ t by omega) t2 (show 0 ≤ d by omega) h4
  go_enter Tryd.func56, Tryd.ntmps56
  go_wp2_with fail
  refine (gasSpecific_any _ f h1 h2).mono ?_
  rintro e w1 ⟨he, hb⟩
  rw [← HT.out] at he
  subst he
  have HB := Lib.hid hb
  clear hb
  go_wp2_with fail
  refine (divRound_any _ _ (by omega) (by omega) _).mono ?_
  rintro e w2 ⟨rfl, n', rfl⟩
  go_wp2_with fail
  go_ret
  exact ⟨ret_int HG.out.symm, by repeat (first | (with_reducible exact Below.refl _ _) | (with_reducible assumption) | ((with_reducible refine bl_alloc ?_ _ ?_); (focus ((first | omega | (simp <;> omega)); done))) | ((with_reducible refine bl_set ?_ _ ?_); (focus ((first | omega | (simp <;> omega)); done))) | (with_reducible refine below_drewN ?_ _) | (with_reducible refine Below.drew ?_) | ((with_reducible refine bl_trans ?_ HB.out ?_); (focus ((first | omega | (simp <;> omega)); done))))⟩
theorem eqLosses_any (a0 a1 a2 a3 a4 : Int) (w : World) :
    Calls Tryd.prog 20 #[.agg #[.int .i64 a0, .int .i64 a1, .int .i64 a2, .int .i64 a3, .int .i64 a4], .agg #[.int .i64 a0, .int .i64 a1, .int .i64 a2, .int .i64 a3, .int .i64 a4]] w fun e w' => e = .returned (.bool true) ∧ Below w.heap.size w w' := by
  go_enter Tryd.func20, Tryd.ntmps20
  go_wp2_with fail
  go_ret
  exact ⟨rfl, by repeat (first | (with_reducible exact Below.refl _ _) | (with_reducible assumption) | ((with_reducible refine bl_alloc ?_ _ ?_); (focus ((first | omega | (simp <;> omega)); done))) | ((with_reducible refine bl_set ?_ _ ?_); (focus ((first | omega | (simp <;> omega)); done))) | (with_reducible refine below_drewN ?_ _) | (with_reducible refine Below.drew ?_))⟩
theorem two_of {e : TypeId} {w : World} {p : Nat} {v : Value} {xs : List Int} (h : Row e w p v xs) (h2 : xs.length = 2) : ∃ g c, v = .slice (some ⟨g, 0, none⟩) 2 c ∧ g < w.heap.size ∧ w.cell? ⟨g, 0, none⟩ = some (.int .i64 (xs.getD 0 0)) ∧ w.cell? ⟨g, 1, none⟩ = some (.int .i64 (xs.getD 1 0)) := by
  rcases h.forms with ⟨_, hz⟩ | ⟨g, cap, rfl, _, hl, hc, _⟩
  · rw [hz] at h2; simp at h2
  · exact ⟨g, cap, by rw [h2], hl, hc 0 (by omega), hc 1 (by omega)⟩
theorem all_two {xs : List Int} {hi : Int} (h2 : xs.length = 2) (h : allIn xs 0 hi = true) : (0 ≤ xs.getD 0 0 ∧ xs.getD 0 0 ≤ hi) ∧ 0 ≤ xs.getD 1 0 ∧ xs.getD 1 0 ≤ hi := by
  have q := of_decide_eq_true h
  exact ⟨q 0 (by omega), q 1 (by omega)⟩
theorem clutter_bd {k : Nat} (hk : k < 8) {f a : Int} (a0 : 0 ≤ a) : 0 ≤ lossOf (heights.getD k 0) (weights.getD k 0) (share f) a ∧ lossOf (heights.getD k 0) (weights.getD k 0) (share f) a ≤ 10000000 := by
  have hs : 50 ≤ share f ∧ share f ≤ 150 := by
    rcases share_cases f with ⟨_, e⟩ | ⟨_, _, e⟩ | ⟨_, _, e⟩ | ⟨_, _, e⟩ | ⟨_, e⟩ <;> omega
  have hh : 0 ≤ heights.getD k 0 ∧ heights.getD k 0 ≤ 240 := by
    have h : k = 0 ∨ k = 1 ∨ k = 2 ∨ k = 3 ∨ k = 4 ∨ k = 5 ∨ k = 6 ∨ k = 7 := by omega
    rcases h with rfl | rfl | rfl | rfl | rfl | rfl | rfl | rfl <;> decide
  have hw : 0 ≤ weights.getD k 0 ∧ weights.getD k 0 ≤ 20000 := by
    have h : k = 0 ∨ k = 1 ∨ k = 2 ∨ k = 3 ∨ k = 4 ∨ k = 5 ∨ k = 6 ∨ k = 7 := by omega
    rcases h with rfl | rfl | rfl | rfl | rfl | rfl | rfl | rfl <;> decide
  generalize heights.getD k 0 = h at *
  generalize weights.getD k 0 = l at *
  generalize share f = p at *
  by_cases hc : h ≤ a
  · rw [loss_none hc]; omega
  · rw [loss_some hc]
    obtain ⟨m1, m2⟩ := mul_nn (a := p) (b := l) (A := 150) (B := 20000) (by omega) hs.2 hw.1 hw.2
    obtain ⟨m3, m4⟩ := mul_nn (a := p * l) (b := h - a) (A := 3000000) (B := 240) m1 (by omega) (by omega) (by omega)
    exact ⟨rdiv_nonneg m3 (by omega), rdiv_le m3 (by omega) (by omega)⟩
def cluS (f : Int) (cs bs : List Int) : Nat → Int
  | 0 => 0
  | k + 1 => cluS f cs bs k + cluV f cs bs k
def good2 (cs bs : List Int) (j : Nat) : Prop := (0 ≤ cs.getD j 0 ∧ cs.getD j 0 ≤ 7) ∧ 0 ≤ bs.getD j 0 ∧ bs.getD j 0 ≤ 90000
theorem cluV_bd {f : Int} {cs bs : List Int} {j : Nat} (h : good2 cs bs j) : 0 ≤ cluV f cs bs j ∧ cluV f cs bs j ≤ 10000000 := by
  obtain ⟨⟨a, b⟩, c, _⟩ := h
  obtain ⟨n, hn⟩ : ∃ n : Nat, cs.getD j 0 = n := ⟨(cs.getD j 0).toNat, by omega⟩
  unfold cluV
  rw [hn, Int.toNat_natCast]
  exact clutter_bd (by omega) c
theorem cluS_bd {f : Int} {cs bs : List Int} : ∀ {k : Nat}, (∀ j, j < k → good2 cs bs j) → 0 ≤ cluS f cs bs k ∧ cluS f cs bs k ≤ 10000000 * (k : Int)
  | 0, _ => by unfold cluS; omega
  | k + 1, h => by
    have a := cluS_bd (f := f) (k := k) fun j hj => h j (by omega)
    have b := cluV_bd (f := f) (h k (by omega))
    unfold cluS
    omega
theorem los_class {f d r : Int} {cs bs : List Int} {k : Nat} (h1 : cs.length = 2) (h2 : bs.length = 2) (hk : k < 2) (h : ¬ (0 ≤ cs.getD k 0 ∧ cs.getD k 0 ≤ 7)) : losR f d r cs bs = (0, 0, 0, 0, 0) ∧ losC f d r cs bs = 2 :=
  los_out h1 h2 fun q => h ((of_decide_eq_true q.2.2.2.1) k (by omega))
theorem los_above {f d r : Int} {cs bs : List Int} {k : Nat} (h1 : cs.length = 2) (h2 : bs.length = 2) (hk : k < 2) (h : ¬ (0 ≤ bs.getD k 0 ∧ bs.getD k 0 ≤ 90000)) : losR f d r cs bs = (0, 0, 0, 0, 0) ∧ losC f d r cs bs = 2 :=
  los_out h1 h2 fun q => h ((of_decide_eq_true q.2.2.2.2) k (by omega))
theorem los_done {f d r : Int} {cs bs : List Int} {k : Nat} (h1 : cs.length = 2) (h2 : bs.length = 2) (f0 : 1 ≤ f ∧ f ≤ 100000000) (d0 : 1 ≤ d ∧ d ≤ 283000) (r0 : 0 ≤ r ∧ r ≤ 200) (hk : k = 2) (h : ∀ j, j < k → good2 cs bs j) :
    losR f d r cs bs = (freeV f d, gasV f d, wetV f r d, cluS f cs bs k, freeV f d + gasV f d + wetV f r d + cluS f cs bs k) ∧ losC f d r cs bs = 0 := by
  obtain ⟨e1, e2⟩ := los_yes (f := f) (d := d) (r := r) (cs := cs) (bs := bs) ⟨h1, h2, f0, d0, r0, allIn_yes fun j hj => (h j (by omega)).1, allIn_yes fun j hj => (h j (by omega)).2⟩
  refine ⟨?_, e2⟩
  subst hk
  rw [e1]
  show (_, _, _, _, _) = (_, _, _, 0 + cluV f cs bs 0 + cluV f cs bs 1, _ + (0 + cluV f cs bs 0 + cluV f cs bs 1))
  rw [Int.zero_add]
theorem two_cells {w : World} {g : Nat} {xs : List Int} (h0 : w.cell? ⟨g, 0, none⟩ = some (.int .i64 (xs.getD 0 0))) (h1 : w.cell? ⟨g, 1, none⟩ = some (.int .i64 (xs.getD 1 0))) : ∀ k, k < 2 → w.cell? ⟨g, k, none⟩ = some (.int .i64 (xs.getD k 0)) := fun k hk => by
  have : k = 0 ∨ k = 1 := by omega
  rcases this with rfl | rfl
  · exact h0
  · exact h1
/-- Both tables that the program reads. -/
def LosTab (w : World) : Prop := PowTab w ∧ ClutterAt w
theorem LosTab.below {w w' : World} (h : LosTab w) (hb : Below w.heap.size w w') : LosTab w' := ⟨h.1.below hb, h.2.later hb⟩
end Go.Proofs.YtlpjcebpfmhpnaaDoor.ofLossesOf
