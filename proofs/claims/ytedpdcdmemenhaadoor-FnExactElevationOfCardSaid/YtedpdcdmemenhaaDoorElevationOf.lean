/-
  What is proved: the statement on FnExactElevationOf: for every input the law returns true, and its arguments read afterwards as before. There is no condition beyond the statement's own.
-/
import Derived.Test.YtedpdcdmemenhaaDoorCards
import Derived.Test.YtedpdcdmemenhaaDoorTie
import Derived.Test.YtedpdcdmemenhaaDoorVars
import Derived.Test.YtedpdcdmemenhaaDoorRows
import Derived.Test.YtedpdcdmemenhaaDoorLib
import Derived.Test.YtedpdcdmemenhaaDoorArgs
import Derived.Test.YtedpdcdmemenhaaDoorElevationOfW
import Derived.ChangeVars
import Derived.SevenTiedAt
namespace Go.Proofs.YtedpdcdmemenhaaDoor.fnExactElevationOf
open Go.RowKit Go.ChangeShapes Go.WideShapes Go.ChangeAt
set_option linter.unusedVariables false
set_option linter.unusedSimpArgs false

theorem own : ownKnob Tryd.prog.godebug = none := by kernel_rfl
theorem laidOut : laidOutB Tryd.prog = true := by kernel_rfl
theorem Tryd.cells24 : Tryd.prog.cellsOf 24 = 5 := by kernel_rfl
theorem Tryd.cells2 : Tryd.prog.cellsOf 2 = 1 := by kernel_rfl
theorem Tryd.cells22 : Tryd.prog.cellsOf 22 = 1 := by kernel_rfl
theorem Tryd.cells28 : Tryd.prog.cellsOf 28 = 3 := by kernel_rfl
theorem Tryd.cells26 : Tryd.prog.cellsOf 26 = 2 := by kernel_rfl
theorem Tryd.cells_int64 : Tryd.prog.cellsOf 2 = 1 := by kernel_rfl
theorem params_ok : ∀ t ∈ [24, 28, 28], Tryd.prog.readableRec t = true ∧ t < Tryd.prog.types.size := by
  intro t ht
  simp only [List.mem_cons, List.not_mem_nil, or_false] at ht
  rcases ht with rfl | rfl | rfl
  · exact ⟨by kernel_rfl, of_decide_eq_true (by kernel_rfl)⟩
  · exact ⟨by kernel_rfl, of_decide_eq_true (by kernel_rfl)⟩
  · exact ⟨by kernel_rfl, of_decide_eq_true (by kernel_rfl)⟩

set_option maxRecDepth 20000 in
theorem vars_ok : ∀ n ∈ Rows.fnExactElevationOfSpec.vars, ∀ g t, Tryd.prog.globalNamed n = some g → (Tryd.prog.globals[g]?).map (·.type) = some t → Tryd.prog.readableRec t = true ∧ t < Tryd.prog.types.size := by
  intro n hn g t hg ht
  simp only [Rows.fnExactElevationOfSpec, List.mem_cons, List.not_mem_nil, or_false] at hn
  rcases hn with rfl
  · obtain rfl := Option.some.inj ((show Tryd.prog.globalNamed "loop.example/g00925/impl.sineTable" = some 0 by kernel_rfl).symm.trans hg)
    obtain rfl := Option.some.inj ((show (Tryd.prog.globals[0]?).map (·.type) = some 66 by kernel_rfl).symm.trans ht)
    exact ⟨by kernel_rfl, of_decide_eq_true (by kernel_rfl)⟩

set_option maxRecDepth 20000 in
/-- What the walk gives, for every argument. -/
theorem contract (H : Type) (enc : TypeId × Value → H) (W : World) (base : Nat) (args : Array Value) (ds gs : List (DataW H)) (before : List MemPlace)
    (hval : ∀ (j : Nat) t v, Tryd.f3.params[j]? = some t → args[j]? = some v → Value.okWide Tryd.prog W .any base t v)
    (hW : DataW.Whole enc Tryd.prog Tryd.f3.params.toList Rows.fnExactElevationOfSpec.vars false W args.toList ds gs before) (hL : laidMetH Tryd.prog Rows.fnExactElevationOfRow.laid W) :
    Calls Tryd.prog 3 args W fun e W' => ∃ v, e = .returned v ∧ Rows.fnExactElevationOfSpec.post enc Tryd.prog Tryd.f3 false true false false W args v W' := by
  have hW0 := hW
  obtain ⟨p, q, hA, hV, _, _, _⟩ := hW0
  rw [Tryd.params3] at hA hval
  obtain ⟨v0, vs0, d0, ds0, p0, q0, hargs, rfl, rfl, h0, rr0⟩ := trodAll_cons hA
  obtain ⟨v1, vs1, d1, ds1, p1, q1, rfl, rfl, rfl, h1, rr1⟩ := trodAll_cons rr0
  obtain ⟨v2, vs2, d2, ds2, p2, q2, rfl, rfl, rfl, h2, rr2⟩ := trodAll_cons rr1
  obtain ⟨rfl, rfl, rfl⟩ := trodAll_nil rr2
  obtain rfl : args = #[v0, v1, v2] := by cases args; simp_all
  obtain ⟨gv, tv, cv, fv, dv, pv, rfl, _, _, _, _, _⟩ := trodVars_one hV
  obtain ⟨cs0, rfl, sz0⟩ := okWide_struct Tryd.underlying24 (hval 0 24 v0 rfl rfl)
  obtain ⟨c0_0, c0_1, c0_2, c0_3, c0_4, rfl⟩ := arr5 (sz0.trans Tryd.cells24)
  obtain ⟨n0, hf0⟩ := h0
  obtain ⟨n0_0, z0_0, h0_0⟩ := field_of_trod Tryd.underlying24 hf0 0 _ rfl 0 1 rfl Tryd.cells2
  obtain ⟨a0_0, rfl, ia0_0⟩ := int_of_trod Tryd.underlying2 h0_0
  obtain ⟨n0_1, z0_1, h0_1⟩ := field_of_trod Tryd.underlying24 hf0 1 _ rfl 1 1 rfl Tryd.cells2
  obtain ⟨a0_1, rfl, ia0_1⟩ := int_of_trod Tryd.underlying2 h0_1
  obtain ⟨n0_2, z0_2, h0_2⟩ := field_of_trod Tryd.underlying24 hf0 2 _ rfl 2 1 rfl Tryd.cells2
  obtain ⟨a0_2, rfl, ia0_2⟩ := int_of_trod Tryd.underlying2 h0_2
  obtain ⟨n0_3, z0_3, h0_3⟩ := field_of_trod Tryd.underlying24 hf0 3 _ rfl 3 1 rfl Tryd.cells22
  obtain ⟨x0_3, r0_3, ix0_3⟩ := ints_of_trod Tryd.underlying22 Tryd.underlying2 Tryd.cells_int64 h0_3
  obtain ⟨n0_4, z0_4, h0_4⟩ := field_of_trod Tryd.underlying24 hf0 4 _ rfl 4 1 rfl Tryd.cells22
  obtain ⟨x0_4, r0_4, ix0_4⟩ := ints_of_trod Tryd.underlying22 Tryd.underlying2 Tryd.cells_int64 h0_4
  obtain ⟨cs1, rfl, sz1⟩ := okWide_struct Tryd.underlying28 (hval 1 28 v1 rfl rfl)
  obtain ⟨c1_0, c1_1, c1_2, rfl⟩ := arr3 (sz1.trans Tryd.cells28)
  obtain ⟨n1, hf1⟩ := h1
  obtain ⟨n1_0, z1_0, h1_0⟩ := field_of_trod Tryd.underlying28 hf1 0 _ rfl 0 2 rfl Tryd.cells26
  obtain ⟨n1_0_0, z1_0_0, h1_0_0⟩ := field_of_trod Tryd.underlying26 h1_0 0 _ rfl 0 1 rfl Tryd.cells2
  obtain ⟨a1_0_0, rfl, ia1_0_0⟩ := int_of_trod Tryd.underlying2 h1_0_0
  obtain ⟨n1_0_1, z1_0_1, h1_0_1⟩ := field_of_trod Tryd.underlying26 h1_0 1 _ rfl 1 1 rfl Tryd.cells2
  obtain ⟨a1_0_1, rfl, ia1_0_1⟩ := int_of_trod Tryd.underlying2 h1_0_1
  obtain ⟨n1_1, z1_1, h1_1⟩ := field_of_trod Tryd.underlying28 hf1 1 _ rfl 2 1 rfl Tryd.cells2
  obtain ⟨a1_1, rfl, ia1_1⟩ := int_of_trod Tryd.underlying2 h1_1
  obtain ⟨cs2, rfl, sz2⟩ := okWide_struct Tryd.underlying28 (hval 2 28 v2 rfl rfl)
  obtain ⟨c2_0, c2_1, c2_2, rfl⟩ := arr3 (sz2.trans Tryd.cells28)
  obtain ⟨n2, hf2⟩ := h2
  obtain ⟨n2_0, z2_0, h2_0⟩ := field_of_trod Tryd.underlying28 hf2 0 _ rfl 0 2 rfl Tryd.cells26
  obtain ⟨n2_0_0, z2_0_0, h2_0_0⟩ := field_of_trod Tryd.underlying26 h2_0 0 _ rfl 0 1 rfl Tryd.cells2
  obtain ⟨a2_0_0, rfl, ia2_0_0⟩ := int_of_trod Tryd.underlying2 h2_0_0
  obtain ⟨n2_0_1, z2_0_1, h2_0_1⟩ := field_of_trod Tryd.underlying26 h2_0 1 _ rfl 1 1 rfl Tryd.cells2
  obtain ⟨a2_0_1, rfl, ia2_0_1⟩ := int_of_trod Tryd.underlying2 h2_0_1
  obtain ⟨n2_1, z2_1, h2_1⟩ := field_of_trod Tryd.underlying28 hf2 1 _ rfl 2 1 rfl Tryd.cells2
  obtain ⟨a2_1, rfl, ia2_1⟩ := int_of_trod Tryd.underlying2 h2_1
  have hL' := hL
  rw [MakeChecks.laidMetH_plain _ _ _ (by kernel_rfl)] at hL'
  refine (walk W (sine_laid hL') a0_0 ia0_0 a0_1 ia0_1 a0_2 ia0_2 _ x0_3 r0_3 ix0_3 _ x0_4 r0_4 ix0_4 a1_0_0 ia1_0_0 a1_0_1 ia1_0_1 a1_1 ia1_1 a2_0_0 ia2_0_0 a2_0_1 ia2_0_1 a2_1 ia2_1).mono fun e W' ⟨he, hB⟩ => ?_
  subst he
  exact ⟨_, rfl, law_postV hW rfl laidOut (by rw [Tryd.params3]; exact params_ok) vars_ok rfl Tryd.underlying4 hB⟩

theorem door_met (os : Os) (args : Array Value) : laidMetH Tryd.prog Rows.fnExactElevationOfRow.laid ((World.doorLaid Tryd.prog 14 os).forCall (fun _ _ => 0) ⟨#[], args, []⟩).memory :=
  laidMetH_of_parts3 (fuel := 8) (laidMet_of_run' 8 (by kernel_rfl) (by kernel_rfl)) (by kernel_rfl) (by kernel_rfl)

set_option maxRecDepth 100000 in
theorem lifted (os : Os) (started : os.Started) (H : Type) (enc : TypeId × Value → H) :
    ReturnsInHanded {} Tryd.checked os 3 .any (fun w args => (Rows.fnExactElevationOfSpec.pre enc Tryd.prog Tryd.f3 Rows.fnExactElevationOfRow.domain false w args ∧ laidMetH Tryd.prog Rows.fnExactElevationOfRow.laid w) ∧ sizedMet enc Tryd.prog Tryd.f3 (OpenSpec.ofChange Rows.fnExactElevationOfSpec) false w args)
      (Rows.fnExactElevationOfSpec.post enc Tryd.prog Tryd.f3 false true false false) := by
  refine returnsInHanded_of_change_and (C := Tryd.checked) (X := fun w _ => laidMetH Tryd.prog Rows.fnExactElevationOfRow.laid w) (fun _ _ _ hh h => h.of_heap hh) own started (by kernel_rfl) Tryd.func3
    (ChangeSpec.witness_shaped (enc := enc) (C := Tryd.checked) (os := os) (X := fun w _ => laidMetH Tryd.prog Rows.fnExactElevationOfRow.laid w) false (World.doorLaid Tryd.prog 14 os) #[.agg #[.int .i64 0, .int .i64 0, .int .i64 0, .slice none 0 0, .slice none 0 0], .agg #[.int .i64 0, .int .i64 0, .int .i64 0], .agg #[.int .i64 0, .int .i64 0, .int .i64 0]] 8 rfl (World.shaped_of_RefB (by kernel_rfl) (by kernel_rfl)) (by kernel_rfl) (by kernel_rfl) (by kernel_rfl) (door_met os _)) ?_
  intro W base args ds gs before hval hW _ _ hL _
  exact contract H enc W base args ds gs before hval hW hL

theorem said : Rows.FnExactElevationOfSaid :=
  OpenClaim.holds_of_wide 3 Tryd.f3 rfl rfl rfl rfl rfl rfl rfl ⟨rfl, rfl, rfl, rfl, rfl⟩ rfl rfl rfl rfl rfl (by kernel_rfl) Tryd.func3 (by kernel_rfl)
    (of_decide_eq_true (by kernel_rfl)) (by unfold Func.isWrapper; first | (rw [if_pos (by decide +kernel)]; kernel_rfl) | (rw [if_neg (by decide +kernel)]; exact ⟨rfl, rfl⟩))
    (fun os started H enc _ => lifted os started H enc)

theorem plain (f : FuncId) (fn : Func) (hf : Tryd.pinned.checked.prog.funcNamed "loop.example/g00925/laws.FnExactElevationOf" = some f) (hfn : Tryd.pinned.checked.prog.funcs[f]? = some fn) :
    false = Tryd.pinned.checked.prog.looks [] ∧ ∀ (j : Nat) t, fn.params[j]? = some t → Tryd.pinned.checked.prog.wantsStandIn t = false := by
  obtain rfl : f = 3 := Option.some.inj ((show Tryd.prog.funcNamed "loop.example/g00925/laws.FnExactElevationOf" = some 3 by kernel_rfl).symm.trans hf) |>.symm
  obtain rfl : fn = Tryd.f3 := (Option.some.inj (Tryd.func3.symm.trans hfn)).symm
  refine ⟨by kernel_rfl, fun j t ht => ?_⟩
  rw [Tryd.params3] at ht
  have hm : t ∈ [24, 28, 28] := by simpa using Array.mem_of_getElem? ht
  have hall : ([24, 28, 28].all fun u => !Tryd.prog.wantsStandIn u) = true := by kernel_rfl
  exact (show Tryd.prog.wantsStandIn t = false by simpa using List.all_eq_true.1 hall t hm)

theorem proved : Rows.FnExactElevationOfCardSaid :=
  Claim7.holds_tied_plain_at .later [] _ _ _ _ said (fun _ h => by cases h) (by kernel_rfl) (fun _ h => by cases h) fnExactElevationOf_row_tie rfl ⟨rfl, rfl⟩ (by kernel_rfl) rfl plain (by kernel_rfl)
end Go.Proofs.YtedpdcdmemenhaaDoor.fnExactElevationOf
