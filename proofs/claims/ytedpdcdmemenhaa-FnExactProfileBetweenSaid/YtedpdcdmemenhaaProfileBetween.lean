/-
  What is proved: the statement on FnExactProfileBetween: for every input the law returns true, and its arguments read afterwards as before. There is no condition beyond the statement's own.
-/
import Derived.Test.YtedpdcdmemenhaaRows
import Derived.Test.YtedpdcdmemenhaaLib
import Derived.Test.YtedpdcdmemenhaaArgs
import Derived.Test.YtedpdcdmemenhaaProfileBetweenW
namespace Go.Proofs.Ytedpdcdmemenhaa.fnExactProfileBetween
open Go.RowKit Go.ChangeShapes Go.WideShapes Go.ChangeAt
set_option linter.unusedVariables false
set_option linter.unusedSimpArgs false

theorem own : ownKnob Try.prog.godebug = none := by kernel_rfl
theorem laidOut : laidOutB Try.prog = true := by kernel_rfl
theorem Try.cells54 : Try.prog.cellsOf 54 = 5 := by kernel_rfl
theorem Try.cells2 : Try.prog.cellsOf 2 = 1 := by kernel_rfl
theorem Try.cells22 : Try.prog.cellsOf 22 = 1 := by kernel_rfl
theorem Try.cells58 : Try.prog.cellsOf 58 = 3 := by kernel_rfl
theorem Try.cells56 : Try.prog.cellsOf 56 = 2 := by kernel_rfl
theorem Try.cells_int64 : Try.prog.cellsOf 2 = 1 := by kernel_rfl
theorem params_ok : ∀ t ∈ [54, 58, 58], Try.prog.readableRec t = true ∧ t < Try.prog.types.size := by
  intro t ht
  simp only [List.mem_cons, List.not_mem_nil, or_false] at ht
  rcases ht with rfl | rfl | rfl
  · exact ⟨by kernel_rfl, of_decide_eq_true (by kernel_rfl)⟩
  · exact ⟨by kernel_rfl, of_decide_eq_true (by kernel_rfl)⟩
  · exact ⟨by kernel_rfl, of_decide_eq_true (by kernel_rfl)⟩

set_option maxRecDepth 20000 in
/-- What the walk gives, for every argument. -/
theorem contract (H : Type) (enc : TypeId × Value → H) (W : World) (base : Nat) (args : Array Value) (ds gs : List (DataW H)) (before : List MemPlace)
    (hval : ∀ (j : Nat) t v, Try.f7.params[j]? = some t → args[j]? = some v → Value.okWide Try.prog W .any base t v)
    (hW : DataW.Whole enc Try.prog Try.f7.params.toList Rows.fnExactProfileBetweenSpec.vars false W args.toList ds gs before) :
    Calls Try.prog 7 args W fun e W' => ∃ v, e = .returned v ∧ Rows.fnExactProfileBetweenSpec.post enc Try.prog Try.f7 false true false false W args v W' := by
  have hW0 := hW
  obtain ⟨p, q, hA, hV, _, _, _⟩ := hW0
  rw [Try.params7] at hA hval
  obtain ⟨v0, vs0, d0, ds0, p0, q0, hargs, rfl, rfl, h0, rr0⟩ := trodAll_cons hA
  obtain ⟨v1, vs1, d1, ds1, p1, q1, rfl, rfl, rfl, h1, rr1⟩ := trodAll_cons rr0
  obtain ⟨v2, vs2, d2, ds2, p2, q2, rfl, rfl, rfl, h2, rr2⟩ := trodAll_cons rr1
  obtain ⟨rfl, rfl, rfl⟩ := trodAll_nil rr2
  obtain rfl : args = #[v0, v1, v2] := by cases args; simp_all
  obtain ⟨rfl, rfl⟩ := trodVars_none hV
  obtain ⟨cs0, rfl, sz0⟩ := okWide_struct Try.underlying54 (hval 0 54 v0 rfl rfl)
  obtain ⟨c0_0, c0_1, c0_2, c0_3, c0_4, rfl⟩ := arr5 (sz0.trans Try.cells54)
  obtain ⟨n0, hf0⟩ := h0
  obtain ⟨n0_0, z0_0, h0_0⟩ := field_of_trod Try.underlying54 hf0 0 _ rfl 0 1 rfl Try.cells2
  obtain ⟨a0_0, rfl, ia0_0⟩ := int_of_trod Try.underlying2 h0_0
  obtain ⟨n0_1, z0_1, h0_1⟩ := field_of_trod Try.underlying54 hf0 1 _ rfl 1 1 rfl Try.cells2
  obtain ⟨a0_1, rfl, ia0_1⟩ := int_of_trod Try.underlying2 h0_1
  obtain ⟨n0_2, z0_2, h0_2⟩ := field_of_trod Try.underlying54 hf0 2 _ rfl 2 1 rfl Try.cells2
  obtain ⟨a0_2, rfl, ia0_2⟩ := int_of_trod Try.underlying2 h0_2
  obtain ⟨n0_3, z0_3, h0_3⟩ := field_of_trod Try.underlying54 hf0 3 _ rfl 3 1 rfl Try.cells22
  obtain ⟨x0_3, r0_3, ix0_3⟩ := ints_of_trod Try.underlying22 Try.underlying2 Try.cells_int64 h0_3
  obtain ⟨n0_4, z0_4, h0_4⟩ := field_of_trod Try.underlying54 hf0 4 _ rfl 4 1 rfl Try.cells22
  obtain ⟨x0_4, r0_4, ix0_4⟩ := ints_of_trod Try.underlying22 Try.underlying2 Try.cells_int64 h0_4
  obtain ⟨cs1, rfl, sz1⟩ := okWide_struct Try.underlying58 (hval 1 58 v1 rfl rfl)
  obtain ⟨c1_0, c1_1, c1_2, rfl⟩ := arr3 (sz1.trans Try.cells58)
  obtain ⟨n1, hf1⟩ := h1
  obtain ⟨n1_0, z1_0, h1_0⟩ := field_of_trod Try.underlying58 hf1 0 _ rfl 0 2 rfl Try.cells56
  obtain ⟨n1_0_0, z1_0_0, h1_0_0⟩ := field_of_trod Try.underlying56 h1_0 0 _ rfl 0 1 rfl Try.cells2
  obtain ⟨a1_0_0, rfl, ia1_0_0⟩ := int_of_trod Try.underlying2 h1_0_0
  obtain ⟨n1_0_1, z1_0_1, h1_0_1⟩ := field_of_trod Try.underlying56 h1_0 1 _ rfl 1 1 rfl Try.cells2
  obtain ⟨a1_0_1, rfl, ia1_0_1⟩ := int_of_trod Try.underlying2 h1_0_1
  obtain ⟨n1_1, z1_1, h1_1⟩ := field_of_trod Try.underlying58 hf1 1 _ rfl 2 1 rfl Try.cells2
  obtain ⟨a1_1, rfl, ia1_1⟩ := int_of_trod Try.underlying2 h1_1
  obtain ⟨cs2, rfl, sz2⟩ := okWide_struct Try.underlying58 (hval 2 58 v2 rfl rfl)
  obtain ⟨c2_0, c2_1, c2_2, rfl⟩ := arr3 (sz2.trans Try.cells58)
  obtain ⟨n2, hf2⟩ := h2
  obtain ⟨n2_0, z2_0, h2_0⟩ := field_of_trod Try.underlying58 hf2 0 _ rfl 0 2 rfl Try.cells56
  obtain ⟨n2_0_0, z2_0_0, h2_0_0⟩ := field_of_trod Try.underlying56 h2_0 0 _ rfl 0 1 rfl Try.cells2
  obtain ⟨a2_0_0, rfl, ia2_0_0⟩ := int_of_trod Try.underlying2 h2_0_0
  obtain ⟨n2_0_1, z2_0_1, h2_0_1⟩ := field_of_trod Try.underlying56 h2_0 1 _ rfl 1 1 rfl Try.cells2
  obtain ⟨a2_0_1, rfl, ia2_0_1⟩ := int_of_trod Try.underlying2 h2_0_1
  obtain ⟨n2_1, z2_1, h2_1⟩ := field_of_trod Try.underlying58 hf2 1 _ rfl 2 1 rfl Try.cells2
  obtain ⟨a2_1, rfl, ia2_1⟩ := int_of_trod Try.underlying2 h2_1
  refine (walk W a0_0 ia0_0 a0_1 ia0_1 a0_2 ia0_2 _ x0_3 r0_3 ix0_3 _ x0_4 r0_4 ix0_4 a1_0_0 ia1_0_0 a1_0_1 ia1_0_1 a1_1 ia1_1 a2_0_0 ia2_0_0 a2_0_1 ia2_0_1 a2_1 ia2_1).mono fun e W' ⟨he, hB⟩ => ?_
  subst he
  exact ⟨_, rfl, law_post hW rfl rfl laidOut (by rw [Try.params7]; exact params_ok) rfl Try.underlying4 hB⟩

set_option maxRecDepth 100000 in
theorem lifted (os : Os) (started : os.Started) (H : Type) (enc : TypeId × Value → H) :
    ReturnsInHanded {} Try.checked os 7 .any (Rows.fnExactProfileBetweenSpec.pre6 enc Try.prog Try.f7 Rows.fnExactProfileBetweenRow.domain false) (Rows.fnExactProfileBetweenSpec.post enc Try.prog Try.f7 false true false false) := by
  refine returnsInHanded_of_change (C := Try.checked) own started (by kernel_rfl) Try.func7
    (ChangeSpec.witness6 (enc := enc) (C := Try.checked) false ⟨#[], #[.agg #[.int .i64 0, .int .i64 0, .int .i64 0, .slice none 0 0, .slice none 0 0], .agg #[.int .i64 0, .int .i64 0, .int .i64 0], .agg #[.int .i64 0, .int .i64 0, .int .i64 0]], []⟩ 8 (by kernel_rfl) (by kernel_rfl) (by kernel_rfl) (by kernel_rfl)) ?_
  intro W base args ds gs before hval hW _ _
  exact contract H enc W base args ds gs before hval hW

theorem over : Rows.fnExactProfileBetweenRow.holds Try.pinned (OpenSpec.ofChange Rows.fnExactProfileBetweenSpec) :=
  OpenClaim.holds_of_wide 7 Try.f7 rfl rfl rfl rfl rfl rfl rfl ⟨rfl, rfl, rfl, rfl, rfl⟩ rfl rfl rfl rfl rfl (by kernel_rfl) Try.func7 (by kernel_rfl)
    (of_decide_eq_true (by kernel_rfl)) (by unfold Func.isWrapper; first | (rw [if_pos (by decide +kernel)]; kernel_rfl) | (rw [if_neg (by decide +kernel)]; exact ⟨rfl, rfl⟩))
    (fun os started H enc _ => lifted os started H enc)

theorem proved : Rows.FnExactProfileBetweenSaid := over
end Go.Proofs.Ytedpdcdmemenhaa.fnExactProfileBetween
