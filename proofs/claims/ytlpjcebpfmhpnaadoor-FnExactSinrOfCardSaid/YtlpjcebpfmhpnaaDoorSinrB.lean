/-
  The plain model of SinrOf, with its bounds. No statement of the seat is proved here.
-/
import Derived.Test.YtlpjcebpfmhpnaaDoorRadioB
import Derived.Test.YtlpjcebpfmhpnaaDoorWithin
import Derived.Test.YtlpjcebpfmhpnaaDoorSum
import Derived.Test.YtlpjcebpfmhpnaaDoorFloor
import Derived.Test.YtlpjcebpfmhpnaaDoorOwn
namespace Go.Proofs.YtlpjcebpfmhpnaaDoor
set_option linter.unusedSimpArgs false
set_option linter.unusedVariables false
def levP (f z : Int) : Prop := (-300000 ≤ z ∧ z ≤ 300000) ∧ -300000 ≤ z - f ∧ z - f ≤ 300000
instance (f z : Int) : Decidable (levP f z) := by unfold levP; infer_instance
def levB (f : Int) (xs : List Int) : Bool := decide (∀ k, k < xs.length → levP f (xs.getD k 0))
theorem levB_yes {f : Int} {xs : List Int} (h : ∀ k, k < xs.length → levP f (xs.getD k 0)) : levB f xs = true := decide_eq_true h
theorem levB_no {f : Int} {xs : List Int} {k : Nat} (hk : k < xs.length) (h : ¬ levP f (xs.getD k 0)) : levB f xs = false := decide_eq_false fun q => h (q k hk)
theorem lev_cases {f : Int} (f0 : 0 ≤ f) (z : Int) : (levP f z ∧ -300000 ≤ z ∧ z ≤ 300000 ∧ -300000 ≤ z - f ∧ z - f ≤ 300000) ∨ (¬ levP f z ∧ decide (-300000 ≤ z) = false ∧ inB z (-300000) 300000 = false) ∨ (¬ levP f z ∧ -300000 ≤ z ∧ decide (z ≤ 300000) = false ∧ inB z (-300000) 300000 = false) ∨
    (¬ levP f z ∧ -300000 ≤ z ∧ z ≤ 300000 ∧ decide (-300000 ≤ z - f) = false ∧ inB z (-300000) 300000 = true ∧ inB (z - f) (-300000) 300000 = false) := by
  by_cases h1 : -300000 ≤ z
  · by_cases h2 : z ≤ 300000
    · by_cases h3 : -300000 ≤ z - f
      · exact .inl ⟨⟨⟨h1, h2⟩, h3, by omega⟩, h1, h2, h3, by omega⟩
      · exact .inr (.inr (.inr ⟨fun q => h3 q.2.1, h1, h2, decide_eq_false h3, inB_yes h1 h2, inB_no (fun q => h3 q.1)⟩))
    · exact .inr (.inr (.inl ⟨fun q => h2 q.1.2, h1, decide_eq_false h2, inB_no (fun q => h2 q.2)⟩))
  · exact .inr (.inl ⟨fun q => h1 q.1.1, decide_eq_false h1, inB_no (fun q => h1 q.1)⟩)
def noiseL (K f : Int) (xs : List Int) : List Int := K :: xs.map (fun z => z - f)
theorem noise_len (K f : Int) (xs : List Int) : (noiseL K f xs).length = xs.length + 1 := by simp [noiseL]
theorem noise_step (K f : Int) (xs : List Int) {k : Nat} (hk : k < xs.length) : (noiseL K f xs).take (k + 1 + 1) = (noiseL K f xs).take (k + 1) ++ [xs.getD k 0 - f] := by
  unfold noiseL
  rw [List.take_succ_cons, List.take_succ_cons, List.take_add_one, List.cons_append]
  simp [List.getD, hk]
theorem noise_bd {K f : Int} {xs : List Int} (h0 : -1000000 ≤ K) (h1 : K ≤ 1000000) (h : ∀ k, k < xs.length → levP f (xs.getD k 0)) : ∀ k, k < (noiseL K f xs).length → -1000000 ≤ (noiseL K f xs).getD k 0 ∧ (noiseL K f xs).getD k 0 ≤ 1000000 := by
  intro k hk
  rw [noise_len] at hk
  cases k with
  | zero => exact ⟨h0, h1⟩
  | succ j =>
    have e : (noiseL K f xs).getD (j + 1) 0 = xs.getD j 0 - f := by
      have hj : j < xs.length := by omega
      simp [noiseL, List.getD, hj]
    rw [e]
    have := (h j (by omega)).2
    omega
theorem sumV_bd {xs : List Int} (h0 : 1 ≤ xs.length) (h2 : xs.length ≤ 1000) (h : ∀ k, k < xs.length → -1000000 ≤ xs.getD k 0 ∧ xs.getD k 0 ≤ 1000000) : -2000000 ≤ sumV xs ∧ sumV xs ≤ 2000000 := by
  obtain ⟨j, hj, he⟩ := gr_at xs xs.length h0
  have hb := h j hj
  obtain ⟨s0, s1⟩ := sumIt_bd (m := gr xs xs.length) (n := xs.length) (fun k hk => gr_ge xs _ k hk) xs.length (Nat.le_refl _)
  obtain ⟨q0, q1⟩ := logV_bd (n := sumIt xs (gr xs xs.length) xs.length) (by omega)
  unfold sumV
  rw [he] at *
  omega
def sinM (s : ByteArray) (p f n wd : Int) (ms : List (Int × Int)) (l : Int) (xs : List Int) : Int × Int := if radB s p f n wd ms = true then (if levP f l ∧ levB f xs = true then (if xs.length ≤ 63 then (l - f - sumV (noiseL (flV wd n) f xs), 0) else (0, 5)) else (0, 2)) else (0, 1)
theorem sin_bad {s : ByteArray} {p f n wd : Int} {ms : List (Int × Int)} {l : Int} {xs : List Int} (h : radB s p f n wd ms = false) : sinM s p f n wd ms l xs = (0, 1) := if_neg (by rw [h]; decide)
theorem sin_lev {s : ByteArray} {p f n wd : Int} {ms : List (Int × Int)} {l : Int} {xs : List Int} (h : radB s p f n wd ms = true) (h1 : ¬ levP f l) : sinM s p f n wd ms l xs = (0, 2) := by
  unfold sinM
  rw [if_pos h, if_neg (fun q => h1 q.1)]
theorem sin_all {s : ByteArray} {p f n wd : Int} {ms : List (Int × Int)} {l : Int} {xs : List Int} (h : radB s p f n wd ms = true) {k : Nat} (hk : k < xs.length) (h1 : ¬ levP f (xs.getD k 0)) : sinM s p f n wd ms l xs = (0, 2) := by
  unfold sinM
  rw [if_pos h, if_neg (fun q => by have := levB_no hk h1; rw [this] at q; cases q.2)]
theorem sin_full {s : ByteArray} {p f n wd : Int} {ms : List (Int × Int)} {l : Int} {xs : List Int} (h : radB s p f n wd ms = true) (h1 : levP f l) (h2 : ∀ k, k < xs.length → levP f (xs.getD k 0)) (h3 : ¬ xs.length ≤ 63) : sinM s p f n wd ms l xs = (0, 5) := by
  unfold sinM
  rw [if_pos h, if_pos ⟨h1, levB_yes h2⟩, if_neg h3]
theorem sin_yes {s : ByteArray} {p f n wd : Int} {ms : List (Int × Int)} {l : Int} {xs : List Int} (h : radB s p f n wd ms = true) (h1 : levP f l) (h2 : ∀ k, k < xs.length → levP f (xs.getD k 0)) (h3 : xs.length ≤ 63) : sinM s p f n wd ms l xs = (l - f - sumV (noiseL (flV wd n) f xs), 0) := by
  unfold sinM
  rw [if_pos h, if_pos ⟨h1, levB_yes h2⟩, if_pos h3]
theorem Row.owns {e : TypeId} {w : World} {base n : Nat} {t : Value} {ys : List Int} (hn : ys.length = n) (h : Row e w base t ys) : w.ownsRow base e 1 t n (ys.map (Value.int .i64)) := by
  subst hn
  exact h
end Go.Proofs.YtlpjcebpfmhpnaaDoor
