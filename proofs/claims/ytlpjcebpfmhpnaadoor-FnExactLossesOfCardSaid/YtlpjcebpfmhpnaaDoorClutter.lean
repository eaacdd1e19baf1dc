/-
  What the row's list says of the table of clutter: each cell. The condition is the row's own: the variable reads as listed.
-/
import Derived.Test.YtlpjcebpfmhpnaaDoorRows
import Derived.Test.YtlpjcebpfmhpnaaDoorLib
import Derived.Lib.LaidTab
import Derived.OpenShut
namespace Go.Proofs.YtlpjcebpfmhpnaaDoor
open Go.RowKit
set_option linter.unusedSimpArgs false
set_option linter.unusedVariables false
def clutters : List (List UInt8 × Int × Int) :=
  [([111, 112, 101, 110], 0, 0), ([102, 105, 101, 108, 100], 20, 1000), ([119, 97, 116, 101, 114], 10, 500), ([116, 114, 101, 101, 115], 120, 12000),
   ([118, 105, 108, 108, 97, 103, 101], 70, 8000), ([115, 117, 98, 117, 114, 98], 90, 10000), ([116, 111, 119, 110], 160, 16000), ([99, 105, 116, 121], 240, 20000)]
section
variable {H : Type} {enc : TypeId × Value → H} {P : Program} {w : World} {base : Nat} {sp : Nat → Bool} {held : Bool}
theorem rows3_at {t e : TypeId} {n fuel : Nat} {cs : List Value} {p : List MemPlace} {f0 f1 f2 : Field} {L : List (List UInt8 × Int × Int)} (ht : P.underlying t = some (.array n e)) (he : P.underlying e = some (.struct #[f0, f1, f2])) (hce : P.cellsOf e = 3)
    (h0 : P.underlying f0.type = some .string) (h1 : P.underlying f1.type = some (.int .i64)) (h2 : P.underlying f2.type = some (.int .i64)) (o0 : f0.offset = 0) (o1 : f1.offset = 1) (o2 : f2.offset = 2)
    (k0 : P.cellsOf f0.type = 1) (k1 : P.cellsOf f1.type = 1) (k2 : P.cellsOf f2.type = 1) (hn : L.length = n)
    (h : DataW.trod enc P w base sp held fuel t cs = some (.agg (L.map fun x => .agg [.lit (.string x.1), .lit (.int .i64 x.2.1), .lit (.int .i64 x.2.2)]), p)) (i : Nat) (x : List UInt8 × Int × Int) (hx : L[i]? = some x) :
    cs[i * 3]? = some (.string ⟨x.1.toArray⟩) ∧ cs[i * 3 + 1]? = some (.int .i64 x.2.1) ∧ cs[i * 3 + 2]? = some (.int .i64 x.2.2) := by
  obtain ⟨xs, m, _, hxs, hl, hxl, hat⟩ := DataW.trod_array ht h
  have hi : i < n := by rw [← hn]; exact (List.getElem?_eq_some_iff.1 hx).1
  simp only [Prod.mk.injEq, DataW.agg.injEq] at hxs
  have hy : xs[i]? = some (xs[i]'(by omega)) := List.getElem?_eq_getElem (by omega)
  have e1 := hat i hi
  rw [hy, hce] at e1
  have e2 : (xs[i]'(by omega)).1 = .agg [.lit (.string x.1), .lit (.int .i64 x.2.1), .lit (.int .i64 x.2.2)] := by
    have := congrArg (fun l => l[i]?) hxs.1
    simp only [List.getElem?_map, hx, hy, Option.map_some] at this
    exact (Option.some.inj this).symm
  generalize xs[i]'(by omega) = y at e1 e2
  obtain ⟨ys, m', _, hyy, hcl, hyl, hf⟩ := DataW.trod_struct he e1
  rw [hyy] at e2
  simp only [DataW.agg.injEq] at e2
  have a0 := hf 0 f0 rfl
  have a1 := hf 1 f1 rfl
  have a2 := hf 2 f2 rfl
  rw [o0, k0] at a0
  rw [o1, k1] at a1
  rw [o2, k2] at a2
  match ys, hyl with
  | [y0, y1, y2], _ =>
    simp only [List.map_cons, List.map_nil, List.cons.injEq, and_true] at e2
    obtain ⟨d0, d1, d2⟩ := e2
    obtain ⟨s, c0, z0, _⟩ := DataW.trod_string h0 a0
    obtain ⟨v1, c1, z1, _⟩ := DataW.trod_int h1 a1
    obtain ⟨v2, c2, z2, _⟩ := DataW.trod_int h2 a2
    have g0 : s.data.toList = x.1 := by
      have : y0 = (.lit (.string s.data.toList), []) := by simpa using z0
      rw [this] at d0
      simpa using d0
    have g1 : v1 = x.2.1 := by
      have : y1 = (.lit (.int .i64 v1), []) := by simpa using z1
      rw [this] at d1
      simpa using d1
    have g2 : v2 = x.2.2 := by
      have : y2 = (.lit (.int .i64 v2), []) := by simpa using z2
      rw [this] at d2
      simpa using d2
    have s0 : s = ⟨x.1.toArray⟩ := by
      rw [← g0]
    subst g1 g2
    rw [s0] at c0
    have q0 := congrArg (·[0]?) c0
    have q1 := congrArg (·[0]?) c1
    have q2 := congrArg (·[0]?) c2
    simp only [List.getElem?_take, List.getElem?_drop, List.getElem?_cons_zero] at q0 q1 q2
    refine ⟨by simpa using q0, by simpa using q1, by simpa using q2⟩
end
theorem Tryd.gTab : Tryd.prog.globalNamed "loop.example/g00925/impl.clutterTable" = some 0 := by kernel_rfl
theorem Tryd.gTabType : (Tryd.prog.globals[0]?).map (·.type) = some 76 := by kernel_rfl
theorem Tryd.cellsRow : Tryd.prog.cellsOf 75 = 3 := by kernel_rfl
theorem Tryd.cellsStr : Tryd.prog.cellsOf 9 = 1 := by kernel_rfl
theorem Tryd.cellsInt : Tryd.prog.cellsOf 2 = 1 := by kernel_rfl

/-- The table holds what it is listed to hold. -/
def ClutterAt (w : World) : Prop := ∀ i x, clutters[i]? = some x → w.cell? ⟨0, i * 3, none⟩ = some (.string ⟨x.1.toArray⟩) ∧ w.cell? ⟨0, i * 3 + 1, none⟩ = some (.int .i64 x.2.1) ∧
  w.cell? ⟨0, i * 3 + 2, none⟩ = some (.int .i64 x.2.2)
theorem ClutterAt.later {w w' : World} (h : ClutterAt w) (hb : Below w.heap.size w w') : ClutterAt w' := fun i x hx => by
  obtain ⟨h0, h1, h2⟩ := h i x hx
  exact ⟨keeps hb h0, keeps hb h1, keeps hb h2⟩
theorem clutter_laid {W : World} (h : laidMet Tryd.prog [("loop.example/g00925/impl.clutterTable", Rows.laid_loop_example_g00925_impl_clutterTable)] W) : ClutterAt W := by
  obtain ⟨ps, ⟨g', t', cs, fuel, p, q, hg', ht', hvar, hd, _, _⟩, _⟩ := h
  obtain rfl := Option.some.inj (Tryd.gTab.symm.trans hg')
  obtain rfl := Option.some.inj (Tryd.gTabType.symm.trans ht')
  intro i x hx
  obtain ⟨h0, h1, h2⟩ := rows3_at (L := clutters) Tryd.underlying76 Tryd.underlying75 Tryd.cellsRow Tryd.underlying9 Tryd.underlying2 Tryd.underlying2 rfl rfl rfl
    Tryd.cellsStr Tryd.cellsInt Tryd.cellsInt rfl hd i x hx
  have hv := World.var?_cell Tryd.gTab hvar
  exact ⟨by rw [hv]; simpa using h0, by rw [hv]; simpa using h1, by rw [hv]; simpa using h2⟩
theorem clutter_pos {w : World} (h : ClutterAt w) : 0 < w.heap.size := block_of_cell (h 0 _ rfl).1
theorem clutter_0 {w : World} (h : ClutterAt w) : w.cell? ⟨0, 0, none⟩ = some (.string ⟨#[111, 112, 101, 110]⟩) ∧ w.cell? ⟨0, 1, none⟩ = some (.int .i64 0) ∧ w.cell? ⟨0, 2, none⟩ = some (.int .i64 0) := h 0 _ rfl
theorem clutter_1 {w : World} (h : ClutterAt w) : w.cell? ⟨0, 3, none⟩ = some (.string ⟨#[102, 105, 101, 108, 100]⟩) ∧ w.cell? ⟨0, 4, none⟩ = some (.int .i64 20) ∧ w.cell? ⟨0, 5, none⟩ = some (.int .i64 1000) := h 1 _ rfl
theorem clutter_2 {w : World} (h : ClutterAt w) : w.cell? ⟨0, 6, none⟩ = some (.string ⟨#[119, 97, 116, 101, 114]⟩) ∧ w.cell? ⟨0, 7, none⟩ = some (.int .i64 10) ∧ w.cell? ⟨0, 8, none⟩ = some (.int .i64 500) := h 2 _ rfl
theorem clutter_3 {w : World} (h : ClutterAt w) : w.cell? ⟨0, 9, none⟩ = some (.string ⟨#[116, 114, 101, 101, 115]⟩) ∧ w.cell? ⟨0, 10, none⟩ = some (.int .i64 120) ∧ w.cell? ⟨0, 11, none⟩ = some (.int .i64 12000) := h 3 _ rfl
theorem clutter_4 {w : World} (h : ClutterAt w) : w.cell? ⟨0, 12, none⟩ = some (.string ⟨#[118, 105, 108, 108, 97, 103, 101]⟩) ∧ w.cell? ⟨0, 13, none⟩ = some (.int .i64 70) ∧ w.cell? ⟨0, 14, none⟩ = some (.int .i64 8000) := h 4 _ rfl
theorem clutter_5 {w : World} (h : ClutterAt w) : w.cell? ⟨0, 15, none⟩ = some (.string ⟨#[115, 117, 98, 117, 114, 98]⟩) ∧ w.cell? ⟨0, 16, none⟩ = some (.int .i64 90) ∧ w.cell? ⟨0, 17, none⟩ = some (.int .i64 10000) := h 5 _ rfl
theorem clutter_6 {w : World} (h : ClutterAt w) : w.cell? ⟨0, 18, none⟩ = some (.string ⟨#[116, 111, 119, 110]⟩) ∧ w.cell? ⟨0, 19, none⟩ = some (.int .i64 160) ∧ w.cell? ⟨0, 20, none⟩ = some (.int .i64 16000) := h 6 _ rfl
theorem clutter_7 {w : World} (h : ClutterAt w) : w.cell? ⟨0, 21, none⟩ = some (.string ⟨#[99, 105, 116, 121]⟩) ∧ w.cell? ⟨0, 22, none⟩ = some (.int .i64 240) ∧ w.cell? ⟨0, 23, none⟩ = some (.int .i64 20000) := h 7 _ rfl
theorem eight {n : Int} (h0 : 0 ≤ n) (h1 : n ≤ 7) : n = 0 ∨ n = 1 ∨ n = 2 ∨ n = 3 ∨ n = 4 ∨ n = 5 ∨ n = 6 ∨ n = 7 := by omega
end Go.Proofs.YtlpjcebpfmhpnaaDoor
