/-
  What is proved: the statement on FnExactSinrOf: for every input the law returns true, and its arguments read afterwards as before. There is no condition beyond the statement's own.
-/
import Derived.Test.YtlpjcebpfmhpnaaDoorCards
import Derived.Test.YtlpjcebpfmhpnaaDoorTie
import Derived.Test.YtlpjcebpfmhpnaaDoorVars
import Derived.Test.YtlpjcebpfmhpnaaDoorRows
import Derived.Test.YtlpjcebpfmhpnaaDoorLib
import Derived.Test.YtlpjcebpfmhpnaaDoorArgs
import Derived.Test.YtlpjcebpfmhpnaaDoorSinrOfW
import Derived.ChangeVars
import Derived.SevenTiedAt
namespace Go.Proofs.YtlpjcebpfmhpnaaDoor.fnExactSinrOf
open Go.RowKit Go.ChangeShapes Go.WideShapes Go.ChangeAt
set_option linter.unusedVariables false
set_option linter.unusedSimpArgs false

theorem own : ownKnob Tryd.prog.godebug = none := by kernel_rfl
theorem laidOut : laidOutB Tryd.prog = true := by kernel_rfl
theorem Tryd.cells24 : Tryd.prog.cellsOf 24 = 6 := by kernel_rfl
theorem Tryd.cells9 : Tryd.prog.cellsOf 9 = 1 := by kernel_rfl
theorem Tryd.cells2 : Tryd.prog.cellsOf 2 = 1 := by kernel_rfl
theorem Tryd.cells22 : Tryd.prog.cellsOf 22 = 1 := by kernel_rfl
theorem Tryd.cells37 : Tryd.prog.cellsOf 37 = 1 := by kernel_rfl
theorem Tryd.cells_mode : Tryd.prog.cellsOf 71 = 2 := by kernel_rfl
theorem Tryd.cells_int64 : Tryd.prog.cellsOf 2 = 1 := by kernel_rfl
theorem params_ok : ∀ t ∈ [24, 2, 37], Tryd.prog.readableRec t = true ∧ t < Tryd.prog.types.size := by
  intro t ht
  simp only [List.mem_cons, List.not_mem_nil, or_false] at ht
  rcases ht with rfl | rfl | rfl
  · exact ⟨by kernel_rfl, of_decide_eq_true (by kernel_rfl)⟩
  · exact ⟨by kernel_rfl, of_decide_eq_true (by kernel_rfl)⟩
  · exact ⟨by kernel_rfl, of_decide_eq_true (by kernel_rfl)⟩

set_option maxRecDepth 20000 in
theorem vars_ok : ∀ n ∈ Rows.fnExactSinrOfSpec.vars, ∀ g t, Tryd.prog.globalNamed n = some g → (Tryd.prog.globals[g]?).map (·.type) = some t → Tryd.prog.readableRec t = true ∧ t < Tryd.prog.types.size := by
  intro n hn g t hg ht
  cases hn

set_option maxRecDepth 20000 in
/-- What the walk gives, for every argument. -/
theorem contract (H : Type) (enc : TypeId × Value → H) (W : World) (base : Nat) (args : Array Value) (ds gs : List (DataW H)) (before : List MemPlace)
    (hval : ∀ (j : Nat) t v, Tryd.f7.params[j]? = some t → args[j]? = some v → Value.okWide Tryd.prog W .any base t v)
    (hW : DataW.Whole enc Tryd.prog Tryd.f7.params.toList Rows.fnExactSinrOfSpec.vars false W args.toList ds gs before) (hL : laidMetH Tryd.prog Rows.fnExactSinrOfRow.laid W) :
    Calls Tryd.prog 7 args W fun e W' => ∃ v, e = .returned v ∧ Rows.fnExactSinrOfSpec.post enc Tryd.prog Tryd.f7 false true false false W args v W' := by
  have hW0 := hW
  obtain ⟨p, q, hA, hV, _, _, _⟩ := hW0
  rw [Tryd.params7] at hA hval
  obtain ⟨v0, vs0, d0, ds0, p0, q0, hargs, rfl, rfl, h0, rr0⟩ := trodAll_cons hA
  obtain ⟨v1, vs1, d1, ds1, p1, q1, rfl, rfl, rfl, h1, rr1⟩ := trodAll_cons rr0
  obtain ⟨v2, vs2, d2, ds2, p2, q2, rfl, rfl, rfl, h2, rr2⟩ := trodAll_cons rr1
  obtain ⟨rfl, rfl, rfl⟩ := trodAll_nil rr2
  obtain rfl : args = #[v0, v1, v2] := by cases args; simp_all
  obtain ⟨rfl, rfl⟩ := trodVars_none hV
  obtain ⟨cs0, rfl, sz0⟩ := okWide_struct Tryd.underlying24 (hval 0 24 v0 rfl rfl)
  obtain ⟨c0_0, c0_1, c0_2, c0_3, c0_4, c0_5, rfl⟩ := arr6 (sz0.trans Tryd.cells24)
  obtain ⟨n0, hf0⟩ := h0
  obtain ⟨n0_0, z0_0, h0_0⟩ := field_of_trod Tryd.underlying24 hf0 0 _ rfl 0 1 rfl Tryd.cells9
  obtain ⟨s0_0, rfl, is0_0⟩ := string_of_trod Tryd.underlying9 h0_0
  obtain ⟨n0_1, z0_1, h0_1⟩ := field_of_trod Tryd.underlying24 hf0 1 _ rfl 1 1 rfl Tryd.cells2
  obtain ⟨a0_1, rfl, ia0_1⟩ := int_of_trod Tryd.underlying2 h0_1
  obtain ⟨n0_2, z0_2, h0_2⟩ := field_of_trod Tryd.underlying24 hf0 2 _ rfl 2 1 rfl Tryd.cells2
  obtain ⟨a0_2, rfl, ia0_2⟩ := int_of_trod Tryd.underlying2 h0_2
  obtain ⟨n0_3, z0_3, h0_3⟩ := field_of_trod Tryd.underlying24 hf0 3 _ rfl 3 1 rfl Tryd.cells2
  obtain ⟨a0_3, rfl, ia0_3⟩ := int_of_trod Tryd.underlying2 h0_3
  obtain ⟨n0_4, z0_4, h0_4⟩ := field_of_trod Tryd.underlying24 hf0 4 _ rfl 4 1 rfl Tryd.cells2
  obtain ⟨a0_4, rfl, ia0_4⟩ := int_of_trod Tryd.underlying2 h0_4
  obtain ⟨n0_5, z0_5, h0_5⟩ := field_of_trod Tryd.underlying24 hf0 5 _ rfl 5 1 rfl Tryd.cells22
  obtain ⟨x0_5, r0_5, ix0_5⟩ := modes_of_trod Tryd.underlying22 Tryd.underlying71 Tryd.cells_mode Tryd.underlying2 Tryd.underlying2 rfl rfl Tryd.cells_int64 Tryd.cells_int64 h0_5
  obtain ⟨a1, rfl, rfl, rfl, w1⟩ := open_int Tryd.underlying2 (hval 1 2 v1 (by kernel_rfl) rfl) h1
  have ia1 := in64_of_wf w1
  obtain ⟨A2, l2, c2, rfl⟩ := okWide_slice Tryd.underlying37 (hval 2 37 v2 rfl rfl)
  obtain ⟨n2, hf2⟩ := h2
  obtain ⟨x2, r2, ix2⟩ := ints_of_trod Tryd.underlying37 Tryd.underlying2 Tryd.cells_int64 hf2
  have hL' := hL
  rw [MakeChecks.laidMetH_plain _ _ _ (by kernel_rfl)] at hL'
  refine (walk W (pow_laid hL' (by first | exact List.mem_cons_self .. | exact List.mem_cons_of_mem _ (List.mem_cons_self ..) | exact List.mem_cons_of_mem _ (List.mem_cons_of_mem _ (List.mem_cons_self ..)) | exact List.mem_cons_of_mem _ (List.mem_cons_of_mem _ (List.mem_cons_of_mem _ (List.mem_cons_self ..))))) s0_0 is0_0 a0_1 ia0_1 a0_2 ia0_2 a0_3 ia0_3 a0_4 ia0_4 _ x0_5 r0_5 ix0_5 a1 ia1 _ x2 r2 ix2).mono fun e W' ⟨he, hB⟩ => ?_
  subst he
  exact ⟨_, rfl, law_postV hW rfl laidOut (by rw [Tryd.params7]; exact params_ok) vars_ok rfl Tryd.underlying4 hB⟩

theorem door_met (os : Os) (args : Array Value) : laidMetH Tryd.prog Rows.fnExactSinrOfRow.laid ((World.doorLaid Tryd.prog 37 os).forCall (fun _ _ => 0) ⟨#[], args, []⟩).memory :=
  laidMetH_of_parts3 (fuel := 8) (laidMet_of_run' 8 (by kernel_rfl) (by kernel_rfl)) (by kernel_rfl) (by kernel_rfl)

set_option maxRecDepth 100000 in
theorem lifted (os : Os) (started : os.Started) (H : Type) (enc : TypeId × Value → H) :
    ReturnsInHanded {} Tryd.checked os 7 .any (fun w args => (Rows.fnExactSinrOfSpec.pre enc Tryd.prog Tryd.f7 Rows.fnExactSinrOfRow.domain false w args ∧ laidMetH Tryd.prog Rows.fnExactSinrOfRow.laid w) ∧ sizedMet enc Tryd.prog Tryd.f7 (OpenSpec.ofChange Rows.fnExactSinrOfSpec) false w args)
      (Rows.fnExactSinrOfSpec.post enc Tryd.prog Tryd.f7 false true false false) := by
  refine returnsInHanded_of_change_and (C := Tryd.checked) (X := fun w _ => laidMetH Tryd.prog Rows.fnExactSinrOfRow.laid w) (fun _ _ _ hh h => h.of_heap hh) own started (by kernel_rfl) Tryd.func7
    (ChangeSpec.witness_shaped (enc := enc) (C := Tryd.checked) (os := os) (X := fun w _ => laidMetH Tryd.prog Rows.fnExactSinrOfRow.laid w) false (World.doorLaid Tryd.prog 37 os) #[.agg #[.string ByteArray.empty, .int .i64 0, .int .i64 0, .int .i64 0, .int .i64 0, .slice none 0 0], .int .i64 0, .slice none 0 0] 8 rfl (World.shaped_of_RefB (by kernel_rfl) (by kernel_rfl)) (by kernel_rfl) (by kernel_rfl) (by kernel_rfl) (door_met os _)) ?_
  intro W base args ds gs before hval hW _ _ hL _
  exact contract H enc W base args ds gs before hval hW hL

theorem said : Rows.FnExactSinrOfSaid :=
  OpenClaim.holds_of_wide 7 Tryd.f7 rfl rfl rfl rfl rfl rfl rfl ⟨rfl, rfl, rfl, rfl, rfl⟩ rfl rfl rfl rfl rfl (by kernel_rfl) Tryd.func7 (by kernel_rfl)
    (of_decide_eq_true (by kernel_rfl)) (by unfold Func.isWrapper; first | (rw [if_pos (by decide +kernel)]; kernel_rfl) | (rw [if_neg (by decide +kernel)]; exact ⟨rfl, rfl⟩))
    (fun os started H enc _ => lifted os started H enc)

theorem plain (f : FuncId) (fn : Func) (hf : Tryd.pinned.checked.prog.funcNamed "loop.example/g00925/laws.FnExactSinrOf" = some f) (hfn : Tryd.pinned.checked.prog.funcs[f]? = some fn) :
    false = Tryd.pinned.checked.prog.looks [] ∧ ∀ (j : Nat) t, fn.params[j]? = some t → Tryd.pinned.checked.prog.wantsStandIn t = false := by
  obtain rfl : f = 7 := Option.some.inj ((show Tryd.prog.funcNamed "loop.example/g00925/laws.FnExactSinrOf" = some 7 by kernel_rfl).symm.trans hf) |>.symm
  obtain rfl : fn = Tryd.f7 := (Option.some.inj (Tryd.func7.symm.trans hfn)).symm
  refine ⟨by kernel_rfl, fun j t ht => ?_⟩
  rw [Tryd.params7] at ht
  have hm : t ∈ [24, 2, 37] := by simpa using Array.mem_of_getElem? ht
  have hall : ([24, 2, 37].all fun u => !Tryd.prog.wantsStandIn u) = true := by kernel_rfl
  exact (show Tryd.prog.wantsStandIn t = false by simpa using List.all_eq_true.1 hall t hm)

theorem proved : Rows.FnExactSinrOfCardSaid :=
  Claim7.holds_tied_plain_at .later [] _ _ _ _ said (fun _ h => by cases h) (by kernel_rfl) (fun _ h => by cases h) fnExactSinrOf_row_tie rfl ⟨rfl, rfl⟩ (by kernel_rfl) rfl plain (by kernel_rfl)
end Go.Proofs.YtlpjcebpfmhpnaaDoor.fnExactSinrOf
