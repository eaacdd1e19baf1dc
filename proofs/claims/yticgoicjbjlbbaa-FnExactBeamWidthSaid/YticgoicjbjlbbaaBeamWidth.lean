/-
  What is proved: the statement on FnExactBeamWidth: for every input the law returns true, and its arguments read afterwards as before. There is no condition beyond the statement's own.
-/
import Derived.Test.YticgoicjbjlbbaaRows
import Derived.Test.YticgoicjbjlbbaaLib
import Derived.Test.YticgoicjbjlbbaaArgs
import Derived.Test.YticgoicjbjlbbaaBeamWidthW
namespace Go.Proofs.Yticgoicjbjlbbaa.fnExactBeamWidth
open Go.RowKit Go.ChangeShapes Go.WideShapes Go.ChangeAt
set_option linter.unusedVariables false
set_option linter.unusedSimpArgs false

theorem own : ownKnob Try.prog.godebug = none := by kernel_rfl
theorem laidOut : laidOutB Try.prog = true := by kernel_rfl
theorem Try.cells53 : Try.prog.cellsOf 53 = 4 := by kernel_rfl
theorem Try.cells9 : Try.prog.cellsOf 9 = 1 := by kernel_rfl
theorem Try.cells2 : Try.prog.cellsOf 2 = 1 := by kernel_rfl
theorem Try.cells25 : Try.prog.cellsOf 25 = 1 := by kernel_rfl
theorem Try.cells_int64 : Try.prog.cellsOf 2 = 1 := by kernel_rfl
theorem params_ok : ∀ t ∈ [53], Try.prog.readableRec t = true ∧ t < Try.prog.types.size := by
  intro t ht
  simp only [List.mem_cons, List.not_mem_nil, or_false] at ht
  rcases ht with rfl
  · exact ⟨by kernel_rfl, of_decide_eq_true (by kernel_rfl)⟩

set_option maxRecDepth 20000 in
/-- What the walk gives, for every argument. -/
theorem contract (H : Type) (enc : TypeId × Value → H) (W : World) (base : Nat) (args : Array Value) (ds gs : List (DataW H)) (before : List MemPlace)
    (hval : ∀ (j : Nat) t v, Try.f14.params[j]? = some t → args[j]? = some v → Value.okWide Try.prog W .any base t v)
    (hW : DataW.Whole enc Try.prog Try.f14.params.toList Rows.fnExactBeamWidthSpec.vars false W args.toList ds gs before) :
    Calls Try.prog 14 args W fun e W' => ∃ v, e = .returned v ∧ Rows.fnExactBeamWidthSpec.post enc Try.prog Try.f14 false true false false W args v W' := by
  have hW0 := hW
  obtain ⟨p, q, hA, hV, _, _, _⟩ := hW0
  rw [Try.params14] at hA hval
  obtain ⟨v0, vs0, d0, ds0, p0, q0, hargs, rfl, rfl, h0, r0⟩ := trodAll_cons hA
  obtain ⟨rfl, rfl, rfl⟩ := trodAll_nil r0
  obtain rfl : args = #[v0] := by cases args; simp_all
  obtain ⟨rfl, rfl⟩ := trodVars_none hV
  obtain ⟨cs0, rfl, sz0⟩ := okWide_struct Try.underlying53 (hval 0 53 v0 rfl rfl)
  obtain ⟨c0_0, c0_1, c0_2, c0_3, rfl⟩ := arr4 (sz0.trans Try.cells53)
  obtain ⟨n0, hf0⟩ := h0
  obtain ⟨n0_0, z0_0, h0_0⟩ := field_of_trod Try.underlying53 hf0 0 _ rfl 0 1 rfl Try.cells9
  obtain ⟨s0_0, rfl, is0_0⟩ := string_of_trod Try.underlying9 h0_0
  obtain ⟨n0_1, z0_1, h0_1⟩ := field_of_trod Try.underlying53 hf0 1 _ rfl 1 1 rfl Try.cells2
  obtain ⟨a0_1, rfl, ia0_1⟩ := int_of_trod Try.underlying2 h0_1
  obtain ⟨n0_2, z0_2, h0_2⟩ := field_of_trod Try.underlying53 hf0 2 _ rfl 2 1 rfl Try.cells25
  obtain ⟨x0_2, r0_2, ix0_2⟩ := ints_of_trod Try.underlying25 Try.underlying2 Try.cells_int64 h0_2
  obtain ⟨n0_3, z0_3, h0_3⟩ := field_of_trod Try.underlying53 hf0 3 _ rfl 3 1 rfl Try.cells25
  obtain ⟨x0_3, r0_3, ix0_3⟩ := ints_of_trod Try.underlying25 Try.underlying2 Try.cells_int64 h0_3
  refine (walk W s0_0 is0_0 a0_1 ia0_1 _ x0_2 r0_2 ix0_2 _ x0_3 r0_3 ix0_3).mono fun e W' ⟨he, hB⟩ => ?_
  subst he
  exact ⟨_, rfl, law_post hW rfl rfl laidOut (by rw [Try.params14]; exact params_ok) rfl Try.underlying4 hB⟩

set_option maxRecDepth 100000 in
theorem lifted (os : Os) (started : os.Started) (H : Type) (enc : TypeId × Value → H) :
    ReturnsInHanded {} Try.checked os 14 .any (Rows.fnExactBeamWidthSpec.pre6 enc Try.prog Try.f14 Rows.fnExactBeamWidthRow.domain false) (Rows.fnExactBeamWidthSpec.post enc Try.prog Try.f14 false true false false) := by
  refine returnsInHanded_of_change (C := Try.checked) own started (by kernel_rfl) Try.func14
    (ChangeSpec.witness6 (enc := enc) (C := Try.checked) false ⟨#[], #[.agg #[.string ByteArray.empty, .int .i64 0, .slice none 0 0, .slice none 0 0]], []⟩ 8 (by kernel_rfl) (by kernel_rfl) (by kernel_rfl) (by kernel_rfl)) ?_
  intro W base args ds gs before hval hW _ _
  exact contract H enc W base args ds gs before hval hW

theorem over : Rows.fnExactBeamWidthRow.holds Try.pinned (OpenSpec.ofChange Rows.fnExactBeamWidthSpec) :=
  OpenClaim.holds_of_wide 14 Try.f14 rfl rfl rfl rfl rfl rfl rfl ⟨rfl, rfl, rfl, rfl, rfl⟩ rfl rfl rfl rfl rfl (by kernel_rfl) Try.func14 (by kernel_rfl)
    (of_decide_eq_true (by kernel_rfl)) (by unfold Func.isWrapper; first | (rw [if_pos (by decide +kernel)]; kernel_rfl) | (rw [if_neg (by decide +kernel)]; exact ⟨rfl, rfl⟩))
    (fun os started H enc _ => lifted os started H enc)

theorem proved : Rows.FnExactBeamWidthSaid := over
end Go.Proofs.Yticgoicjbjlbbaa.fnExactBeamWidth
