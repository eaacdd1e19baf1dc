/-
  What is proved: the statement on FnExactMeetMasks: for every input the law returns true, and its arguments read afterwards as before. There is no condition beyond the statement's own.
-/
import Derived.Test.YtgbehaapmnmifaaRows
import Derived.Test.YtgbehaapmnmifaaLib
import Derived.Test.YtgbehaapmnmifaaArgs
import Derived.Test.YtgbehaapmnmifaaMeetMasksW
namespace Go.Proofs.Ytgbehaapmnmifaa.fnExactMeetMasks
open Go.RowKit Go.ChangeShapes Go.WideShapes Go.ChangeAt
set_option linter.unusedVariables false
set_option linter.unusedSimpArgs false

theorem own : ownKnob Try.prog.godebug = none := by kernel_rfl
theorem laidOut : laidOutB Try.prog = true := by kernel_rfl
theorem Try.cells24 : Try.prog.cellsOf 24 = 2 := by kernel_rfl
theorem Try.cells22 : Try.prog.cellsOf 22 = 1 := by kernel_rfl
theorem Try.cells2 : Try.prog.cellsOf 2 = 1 := by kernel_rfl
theorem Try.cells_int64 : Try.prog.cellsOf 2 = 1 := by kernel_rfl
theorem params_ok : ∀ t ∈ [24, 24], Try.prog.readableRec t = true ∧ t < Try.prog.types.size := by
  intro t ht
  simp only [List.mem_cons, List.not_mem_nil, or_false] at ht
  rcases ht with rfl | rfl
  · exact ⟨by kernel_rfl, of_decide_eq_true (by kernel_rfl)⟩
  · exact ⟨by kernel_rfl, of_decide_eq_true (by kernel_rfl)⟩

set_option maxRecDepth 20000 in
/-- What the walk gives, for every argument. -/
theorem contract (H : Type) (enc : TypeId × Value → H) (W : World) (base : Nat) (args : Array Value) (ds gs : List (DataW H)) (before : List MemPlace)
    (hval : ∀ (j : Nat) t v, Try.f3.params[j]? = some t → args[j]? = some v → Value.okWide Try.prog W .any base t v)
    (hW : DataW.Whole enc Try.prog Try.f3.params.toList Rows.fnExactMeetMasksSpec.vars false W args.toList ds gs before) :
    Calls Try.prog 3 args W fun e W' => ∃ v, e = .returned v ∧ Rows.fnExactMeetMasksSpec.post enc Try.prog Try.f3 false true false false W args v W' := by
  have hW0 := hW
  obtain ⟨p, q, hA, hV, _, _, _⟩ := hW0
  rw [Try.params3] at hA hval
  obtain ⟨v0, vs0, d0, ds0, p0, q0, hargs, rfl, rfl, h0, rr0⟩ := trodAll_cons hA
  obtain ⟨v1, vs1, d1, ds1, p1, q1, rfl, rfl, rfl, h1, rr1⟩ := trodAll_cons rr0
  obtain ⟨rfl, rfl, rfl⟩ := trodAll_nil rr1
  obtain rfl : args = #[v0, v1] := by cases args; simp_all
  obtain ⟨rfl, rfl⟩ := trodVars_none hV
  obtain ⟨cs0, rfl, sz0⟩ := okWide_struct Try.underlying24 (hval 0 24 v0 rfl rfl)
  obtain ⟨c0_0, c0_1, rfl⟩ := arr2 (sz0.trans Try.cells24)
  obtain ⟨n0, hf0⟩ := h0
  obtain ⟨n0_0, z0_0, h0_0⟩ := field_of_trod Try.underlying24 hf0 0 _ rfl 0 1 rfl Try.cells22
  obtain ⟨x0_0, r0_0, ix0_0⟩ := ints_of_trod Try.underlying22 Try.underlying2 Try.cells_int64 h0_0
  obtain ⟨n0_1, z0_1, h0_1⟩ := field_of_trod Try.underlying24 hf0 1 _ rfl 1 1 rfl Try.cells22
  obtain ⟨x0_1, r0_1, ix0_1⟩ := ints_of_trod Try.underlying22 Try.underlying2 Try.cells_int64 h0_1
  obtain ⟨cs1, rfl, sz1⟩ := okWide_struct Try.underlying24 (hval 1 24 v1 rfl rfl)
  obtain ⟨c1_0, c1_1, rfl⟩ := arr2 (sz1.trans Try.cells24)
  obtain ⟨n1, hf1⟩ := h1
  obtain ⟨n1_0, z1_0, h1_0⟩ := field_of_trod Try.underlying24 hf1 0 _ rfl 0 1 rfl Try.cells22
  obtain ⟨x1_0, r1_0, ix1_0⟩ := ints_of_trod Try.underlying22 Try.underlying2 Try.cells_int64 h1_0
  obtain ⟨n1_1, z1_1, h1_1⟩ := field_of_trod Try.underlying24 hf1 1 _ rfl 1 1 rfl Try.cells22
  obtain ⟨x1_1, r1_1, ix1_1⟩ := ints_of_trod Try.underlying22 Try.underlying2 Try.cells_int64 h1_1
  refine (walk W _ x0_0 r0_0 ix0_0 _ x0_1 r0_1 ix0_1 _ x1_0 r1_0 ix1_0 _ x1_1 r1_1 ix1_1).mono fun e W' ⟨he, hB⟩ => ?_
  subst he
  exact ⟨_, rfl, law_post hW rfl rfl laidOut (by rw [Try.params3]; exact params_ok) rfl Try.underlying4 hB⟩

set_option maxRecDepth 100000 in
theorem lifted (os : Os) (started : os.Started) (H : Type) (enc : TypeId × Value → H) :
    ReturnsInHanded {} Try.checked os 3 .any (Rows.fnExactMeetMasksSpec.pre6 enc Try.prog Try.f3 Rows.fnExactMeetMasksRow.domain false) (Rows.fnExactMeetMasksSpec.post enc Try.prog Try.f3 false true false false) := by
  refine returnsInHanded_of_change (C := Try.checked) own started (by kernel_rfl) Try.func3
    (ChangeSpec.witness6 (enc := enc) (C := Try.checked) false ⟨#[], #[.agg #[.slice none 0 0, .slice none 0 0], .agg #[.slice none 0 0, .slice none 0 0]], []⟩ 8 (by kernel_rfl) (by kernel_rfl) (by kernel_rfl) (by kernel_rfl)) ?_
  intro W base args ds gs before hval hW _ _
  exact contract H enc W base args ds gs before hval hW

theorem over : Rows.fnExactMeetMasksRow.holds Try.pinned (OpenSpec.ofChange Rows.fnExactMeetMasksSpec) :=
  OpenClaim.holds_of_wide 3 Try.f3 rfl rfl rfl rfl rfl rfl rfl ⟨rfl, rfl, rfl, rfl, rfl⟩ rfl rfl rfl rfl rfl (by kernel_rfl) Try.func3 (by kernel_rfl)
    (of_decide_eq_true (by kernel_rfl)) (by unfold Func.isWrapper; first | (rw [if_pos (by decide +kernel)]; kernel_rfl) | (rw [if_neg (by decide +kernel)]; exact ⟨rfl, rfl⟩))
    (fun os started H enc _ => lifted os started H enc)

theorem proved : Rows.FnExactMeetMasksSaid := over
end Go.Proofs.Ytgbehaapmnmifaa.fnExactMeetMasks
