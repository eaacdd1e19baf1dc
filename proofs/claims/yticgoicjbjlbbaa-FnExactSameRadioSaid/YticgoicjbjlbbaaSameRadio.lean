/-
  What is proved: the statement on FnExactSameRadio: for every input the law returns true, and its arguments read afterwards as before. There is no condition beyond the statement's own.
-/
import Derived.Test.YticgoicjbjlbbaaRows
import Derived.Test.YticgoicjbjlbbaaLib
import Derived.Test.YticgoicjbjlbbaaArgs
import Derived.Test.YticgoicjbjlbbaaSameRadioW
namespace Go.Proofs.Yticgoicjbjlbbaa.fnExactSameRadio
open Go.RowKit Go.ChangeShapes Go.WideShapes Go.ChangeAt
set_option linter.unusedVariables false
set_option linter.unusedSimpArgs false

theorem own : ownKnob Try.prog.godebug = none := by kernel_rfl
theorem laidOut : laidOutB Try.prog = true := by kernel_rfl
theorem Try.cells42 : Try.prog.cellsOf 42 = 6 := by kernel_rfl
theorem Try.cells9 : Try.prog.cellsOf 9 = 1 := by kernel_rfl
theorem Try.cells2 : Try.prog.cellsOf 2 = 1 := by kernel_rfl
theorem Try.cells40 : Try.prog.cellsOf 40 = 1 := by kernel_rfl
theorem Try.cells_mode : Try.prog.cellsOf 99 = 2 := by kernel_rfl
theorem Try.cells_int64 : Try.prog.cellsOf 2 = 1 := by kernel_rfl
theorem params_ok : ∀ t ∈ [42, 42], Try.prog.readableRec t = true ∧ t < Try.prog.types.size := by
  intro t ht
  simp only [List.mem_cons, List.not_mem_nil, or_false] at ht
  rcases ht with rfl | rfl
  · exact ⟨by kernel_rfl, of_decide_eq_true (by kernel_rfl)⟩
  · exact ⟨by kernel_rfl, of_decide_eq_true (by kernel_rfl)⟩

set_option maxRecDepth 20000 in
/-- What the walk gives, for every argument. -/
theorem contract (H : Type) (enc : TypeId × Value → H) (W : World) (base : Nat) (args : Array Value) (ds gs : List (DataW H)) (before : List MemPlace)
    (hval : ∀ (j : Nat) t v, Try.f7.params[j]? = some t → args[j]? = some v → Value.okWide Try.prog W .any base t v)
    (hW : DataW.Whole enc Try.prog Try.f7.params.toList Rows.fnExactSameRadioSpec.vars false W args.toList ds gs before) :
    Calls Try.prog 7 args W fun e W' => ∃ v, e = .returned v ∧ Rows.fnExactSameRadioSpec.post enc Try.prog Try.f7 false true false false W args v W' := by
  have hW0 := hW
  obtain ⟨p, q, hA, hV, _, _, _⟩ := hW0
  rw [Try.params7] at hA hval
  obtain ⟨v0, vs0, d0, ds0, p0, q0, hargs, rfl, rfl, h0, rr0⟩ := trodAll_cons hA
  obtain ⟨v1, vs1, d1, ds1, p1, q1, rfl, rfl, rfl, h1, rr1⟩ := trodAll_cons rr0
  obtain ⟨rfl, rfl, rfl⟩ := trodAll_nil rr1
  obtain rfl : args = #[v0, v1] := by cases args; simp_all
  obtain ⟨rfl, rfl⟩ := trodVars_none hV
  obtain ⟨cs0, rfl, sz0⟩ := okWide_struct Try.underlying42 (hval 0 42 v0 rfl rfl)
  obtain ⟨c0_0, c0_1, c0_2, c0_3, c0_4, c0_5, rfl⟩ := arr6 (sz0.trans Try.cells42)
  obtain ⟨n0, hf0⟩ := h0
  obtain ⟨n0_0, z0_0, h0_0⟩ := field_of_trod Try.underlying42 hf0 0 _ rfl 0 1 rfl Try.cells9
  obtain ⟨s0_0, rfl, is0_0⟩ := string_of_trod Try.underlying9 h0_0
  obtain ⟨n0_1, z0_1, h0_1⟩ := field_of_trod Try.underlying42 hf0 1 _ rfl 1 1 rfl Try.cells2
  obtain ⟨a0_1, rfl, ia0_1⟩ := int_of_trod Try.underlying2 h0_1
  obtain ⟨n0_2, z0_2, h0_2⟩ := field_of_trod Try.underlying42 hf0 2 _ rfl 2 1 rfl Try.cells2
  obtain ⟨a0_2, rfl, ia0_2⟩ := int_of_trod Try.underlying2 h0_2
  obtain ⟨n0_3, z0_3, h0_3⟩ := field_of_trod Try.underlying42 hf0 3 _ rfl 3 1 rfl Try.cells2
  obtain ⟨a0_3, rfl, ia0_3⟩ := int_of_trod Try.underlying2 h0_3
  obtain ⟨n0_4, z0_4, h0_4⟩ := field_of_trod Try.underlying42 hf0 4 _ rfl 4 1 rfl Try.cells2
  obtain ⟨a0_4, rfl, ia0_4⟩ := int_of_trod Try.underlying2 h0_4
  obtain ⟨n0_5, z0_5, h0_5⟩ := field_of_trod Try.underlying42 hf0 5 _ rfl 5 1 rfl Try.cells40
  obtain ⟨x0_5, r0_5, ix0_5⟩ := modes_of_trod Try.underlying40 Try.underlying99 Try.cells_mode Try.underlying2 Try.underlying2 rfl rfl Try.cells_int64 Try.cells_int64 h0_5
  obtain ⟨cs1, rfl, sz1⟩ := okWide_struct Try.underlying42 (hval 1 42 v1 rfl rfl)
  obtain ⟨c1_0, c1_1, c1_2, c1_3, c1_4, c1_5, rfl⟩ := arr6 (sz1.trans Try.cells42)
  obtain ⟨n1, hf1⟩ := h1
  obtain ⟨n1_0, z1_0, h1_0⟩ := field_of_trod Try.underlying42 hf1 0 _ rfl 0 1 rfl Try.cells9
  obtain ⟨s1_0, rfl, is1_0⟩ := string_of_trod Try.underlying9 h1_0
  obtain ⟨n1_1, z1_1, h1_1⟩ := field_of_trod Try.underlying42 hf1 1 _ rfl 1 1 rfl Try.cells2
  obtain ⟨a1_1, rfl, ia1_1⟩ := int_of_trod Try.underlying2 h1_1
  obtain ⟨n1_2, z1_2, h1_2⟩ := field_of_trod Try.underlying42 hf1 2 _ rfl 2 1 rfl Try.cells2
  obtain ⟨a1_2, rfl, ia1_2⟩ := int_of_trod Try.underlying2 h1_2
  obtain ⟨n1_3, z1_3, h1_3⟩ := field_of_trod Try.underlying42 hf1 3 _ rfl 3 1 rfl Try.cells2
  obtain ⟨a1_3, rfl, ia1_3⟩ := int_of_trod Try.underlying2 h1_3
  obtain ⟨n1_4, z1_4, h1_4⟩ := field_of_trod Try.underlying42 hf1 4 _ rfl 4 1 rfl Try.cells2
  obtain ⟨a1_4, rfl, ia1_4⟩ := int_of_trod Try.underlying2 h1_4
  obtain ⟨n1_5, z1_5, h1_5⟩ := field_of_trod Try.underlying42 hf1 5 _ rfl 5 1 rfl Try.cells40
  obtain ⟨x1_5, r1_5, ix1_5⟩ := modes_of_trod Try.underlying40 Try.underlying99 Try.cells_mode Try.underlying2 Try.underlying2 rfl rfl Try.cells_int64 Try.cells_int64 h1_5
  refine (walk W s0_0 is0_0 a0_1 ia0_1 a0_2 ia0_2 a0_3 ia0_3 a0_4 ia0_4 _ x0_5 r0_5 ix0_5 s1_0 is1_0 a1_1 ia1_1 a1_2 ia1_2 a1_3 ia1_3 a1_4 ia1_4 _ x1_5 r1_5 ix1_5).mono fun e W' ⟨he, hB⟩ => ?_
  subst he
  exact ⟨_, rfl, law_post hW rfl rfl laidOut (by rw [Try.params7]; exact params_ok) rfl Try.underlying4 hB⟩

set_option maxRecDepth 100000 in
theorem lifted (os : Os) (started : os.Started) (H : Type) (enc : TypeId × Value → H) :
    ReturnsInHanded {} Try.checked os 7 .any (Rows.fnExactSameRadioSpec.pre6 enc Try.prog Try.f7 Rows.fnExactSameRadioRow.domain false) (Rows.fnExactSameRadioSpec.post enc Try.prog Try.f7 false true false false) := by
  refine returnsInHanded_of_change (C := Try.checked) own started (by kernel_rfl) Try.func7
    (ChangeSpec.witness6 (enc := enc) (C := Try.checked) false ⟨#[], #[.agg #[.string ByteArray.empty, .int .i64 0, .int .i64 0, .int .i64 0, .int .i64 0, .slice none 0 0], .agg #[.string ByteArray.empty, .int .i64 0, .int .i64 0, .int .i64 0, .int .i64 0, .slice none 0 0]], []⟩ 8 (by kernel_rfl) (by kernel_rfl) (by kernel_rfl) (by kernel_rfl)) ?_
  intro W base args ds gs before hval hW _ _
  exact contract H enc W base args ds gs before hval hW

theorem over : Rows.fnExactSameRadioRow.holds Try.pinned (OpenSpec.ofChange Rows.fnExactSameRadioSpec) :=
  OpenClaim.holds_of_wide 7 Try.f7 rfl rfl rfl rfl rfl rfl rfl ⟨rfl, rfl, rfl, rfl, rfl⟩ rfl rfl rfl rfl rfl (by kernel_rfl) Try.func7 (by kernel_rfl)
    (of_decide_eq_true (by kernel_rfl)) (by unfold Func.isWrapper; first | (rw [if_pos (by decide +kernel)]; kernel_rfl) | (rw [if_neg (by decide +kernel)]; exact ⟨rfl, rfl⟩))
    (fun os started H enc _ => lifted os started H enc)

theorem proved : Rows.FnExactSameRadioSaid := over
end Go.Proofs.Yticgoicjbjlbbaa.fnExactSameRadio
