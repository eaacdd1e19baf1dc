/-
  What is proved: the statement on FnExactArrivingLevel: for every input the law returns true, and its arguments read afterwards as before. There is no condition beyond the statement's own.
-/
import Derived.Test.YticgoicjbjlbbaaRows
import Derived.Test.YticgoicjbjlbbaaLib
import Derived.Test.YticgoicjbjlbbaaArgs
import Derived.Test.YticgoicjbjlbbaaArrivingLevelW
namespace Go.Proofs.Yticgoicjbjlbbaa.fnExactArrivingLevel
open Go.RowKit Go.ChangeShapes Go.WideShapes Go.ChangeAt
set_option linter.unusedVariables false
set_option linter.unusedSimpArgs false

theorem own : ownKnob Try.prog.godebug = none := by kernel_rfl
theorem laidOut : laidOutB Try.prog = true := by kernel_rfl
theorem Try.cells42 : Try.prog.cellsOf 42 = 6 := by kernel_rfl
theorem Try.cells9 : Try.prog.cellsOf 9 = 1 := by kernel_rfl
theorem Try.cells2 : Try.prog.cellsOf 2 = 1 := by kernel_rfl
theorem Try.cells40 : Try.prog.cellsOf 40 = 1 := by kernel_rfl
theorem Try.cells_mode : Try.prog.cellsOf 99 = 2 := by kernel_rfl
theorem Try.cells_int64 : Try.prog.cellsOf 2 = 1 := by kernel_rfl
theorem params_ok : ∀ t ∈ [42, 2, 2, 2], Try.prog.readableRec t = true ∧ t < Try.prog.types.size := by
  intro t ht
  simp only [List.mem_cons, List.not_mem_nil, or_false] at ht
  rcases ht with rfl | rfl | rfl | rfl
  · exact ⟨by kernel_rfl, of_decide_eq_true (by kernel_rfl)⟩
  · exact ⟨by kernel_rfl, of_decide_eq_true (by kernel_rfl)⟩
  · exact ⟨by kernel_rfl, of_decide_eq_true (by kernel_rfl)⟩
  · exact ⟨by kernel_rfl, of_decide_eq_true (by kernel_rfl)⟩

set_option maxRecDepth 20000 in
/-- What the walk gives, for every argument. -/
theorem contract (H : Type) (enc : TypeId × Value → H) (W : World) (base : Nat) (args : Array Value) (ds gs : List (DataW H)) (before : List MemPlace)
    (hval : ∀ (j : Nat) t v, Try.f11.params[j]? = some t → args[j]? = some v → Value.okWide Try.prog W .any base t v)
    (hW : DataW.Whole enc Try.prog Try.f11.params.toList Rows.fnExactArrivingLevelSpec.vars false W args.toList ds gs before) :
    Calls Try.prog 11 args W fun e W' => ∃ v, e = .returned v ∧ Rows.fnExactArrivingLevelSpec.post enc Try.prog Try.f11 false true false false W args v W' := by
  have hW0 := hW
  obtain ⟨p, q, hA, hV, _, _, _⟩ := hW0
  rw [Try.params11] at hA hval
  obtain ⟨v0, vs0, d0, ds0, p0, q0, hargs, rfl, rfl, h0, r0⟩ := trodAll_cons hA
  obtain ⟨v1, vs1, d1, ds1, p1, q1, rfl, rfl, rfl, h1, r1⟩ := trodAll_cons r0
  obtain ⟨v2, vs2, d2, ds2, p2, q2, rfl, rfl, rfl, h2, r2⟩ := trodAll_cons r1
  obtain ⟨v3, vs3, d3, ds3, p3, q3, rfl, rfl, rfl, h3, r3⟩ := trodAll_cons r2
  obtain ⟨rfl, rfl, rfl⟩ := trodAll_nil r3
  obtain rfl : args = #[v0, v1, v2, v3] := by cases args; simp_all
  obtain ⟨rfl, rfl⟩ := trodVars_none hV
  obtain ⟨cs0, rfl, sz0⟩ := okWide_struct Try.underlying42 (hval 0 42 v0 rfl rfl)
  obtain ⟨c0_0, c0_1, c0_2, c0_3, c0_4, c0_5, rfl⟩ := arr6 (sz0.trans Try.cells42)
  obtain ⟨n0, hf0⟩ := h0
  obtain ⟨n0_0, z0_0, h0_0⟩ := field_of_trod Try.underlying42 hf0 0 _ rfl 0 1 rfl Try.cells9
  obtain ⟨s0_0, rfl, is0_0⟩ := string_of_trod Try.underlying9 h0_0
  obtain ⟨n0_1, z0_1, h0_1⟩ := field_of_trod Try.underlying42 hf0 1 _ rfl 1 1 rfl Try.cells2
  obtain ⟨a0_1, rfl, ia0_1⟩ := int_of_trod Try.underlying2 h0_1
  obtain ⟨n0_2, z0_2, h0_2⟩ := field_of_trod Try.underlying42 hf0 2 _ rfl 2 1 rfl Try.cells2
  obtain ⟨a0_2, rfl, ia0_2⟩ := int_of_trod Try.underlying2 h0_2
  obtain ⟨n0_3, z0_3, h0_3⟩ := field_of_trod Try.underlying42 hf0 3 _ rfl 3 1 rfl Try.cells2
  obtain ⟨a0_3, rfl, ia0_3⟩ := int_of_trod Try.underlying2 h0_3
  obtain ⟨n0_4, z0_4, h0_4⟩ := field_of_trod Try.underlying42 hf0 4 _ rfl 4 1 rfl Try.cells2
  obtain ⟨a0_4, rfl, ia0_4⟩ := int_of_trod Try.underlying2 h0_4
  obtain ⟨n0_5, z0_5, h0_5⟩ := field_of_trod Try.underlying42 hf0 5 _ rfl 5 1 rfl Try.cells40
  obtain ⟨x0_5, r0_5, ix0_5⟩ := modes_of_trod Try.underlying40 Try.underlying99 Try.cells_mode Try.underlying2 Try.underlying2 rfl rfl Try.cells_int64 Try.cells_int64 h0_5
  obtain ⟨a1, rfl, rfl, rfl, w1⟩ := open_int Try.underlying2 (hval 1 2 v1 (by kernel_rfl) rfl) h1
  have ia1 := in64_of_wf w1
  obtain ⟨a2, rfl, rfl, rfl, w2⟩ := open_int Try.underlying2 (hval 2 2 v2 (by kernel_rfl) rfl) h2
  have ia2 := in64_of_wf w2
  obtain ⟨a3, rfl, rfl, rfl, w3⟩ := open_int Try.underlying2 (hval 3 2 v3 (by kernel_rfl) rfl) h3
  have ia3 := in64_of_wf w3
  refine (walk W s0_0 is0_0 a0_1 ia0_1 a0_2 ia0_2 a0_3 ia0_3 a0_4 ia0_4 _ x0_5 r0_5 ix0_5 a1 ia1 a2 ia2 a3 ia3).mono fun e W' ⟨he, hB⟩ => ?_
  subst he
  exact ⟨_, rfl, law_post hW rfl rfl laidOut (by rw [Try.params11]; exact params_ok) rfl Try.underlying4 hB⟩

set_option maxRecDepth 100000 in
theorem lifted (os : Os) (started : os.Started) (H : Type) (enc : TypeId × Value → H) :
    ReturnsInHanded {} Try.checked os 11 .any (Rows.fnExactArrivingLevelSpec.pre6 enc Try.prog Try.f11 Rows.fnExactArrivingLevelRow.domain false) (Rows.fnExactArrivingLevelSpec.post enc Try.prog Try.f11 false true false false) := by
  refine returnsInHanded_of_change (C := Try.checked) own started (by kernel_rfl) Try.func11
    (ChangeSpec.witness6 (enc := enc) (C := Try.checked) false ⟨#[], #[.agg #[.string ByteArray.empty, .int .i64 0, .int .i64 0, .int .i64 0, .int .i64 0, .slice none 0 0], .int .i64 0, .int .i64 0, .int .i64 0], []⟩ 8 (by kernel_rfl) (by kernel_rfl) (by kernel_rfl) (by kernel_rfl)) ?_
  intro W base args ds gs before hval hW _ _
  exact contract H enc W base args ds gs before hval hW

theorem over : Rows.fnExactArrivingLevelRow.holds Try.pinned (OpenSpec.ofChange Rows.fnExactArrivingLevelSpec) :=
  OpenClaim.holds_of_wide 11 Try.f11 rfl rfl rfl rfl rfl rfl rfl ⟨rfl, rfl, rfl, rfl, rfl⟩ rfl rfl rfl rfl rfl (by kernel_rfl) Try.func11 (by kernel_rfl)
    (of_decide_eq_true (by kernel_rfl)) (by unfold Func.isWrapper; first | (rw [if_pos (by decide +kernel)]; kernel_rfl) | (rw [if_neg (by decide +kernel)]; exact ⟨rfl, rfl⟩))
    (fun os started H enc _ => lifted os started H enc)

theorem proved : Rows.FnExactArrivingLevelSaid := over
end Go.Proofs.Yticgoicjbjlbbaa.fnExactArrivingLevel
