/-
  Rows of modes (two int64s each) that a call owns, slices of modes that only are read, and the contracts of the laws' own helpers over them: size, copy, comparison, marking. The conditions are the hypotheses.
-/
import Derived.Test.YtampjgfddakdoaaDoorRows
import Derived.Test.YtampjgfddakdoaaDoorLib
import Derived.Test.YtampjgfddakdoaaDoorArgs
import Derived.Deep.QuietTactic
import Derived.BigQuiet
import Derived.Deep.OwnRows
import Derived.Maps.AppendAt
import Derived.Deep.RegionHeld3
import Derived.Deep.DrawnRows
import Derived.Outline
import Derived.Laws.MakeOwn
namespace Go.Proofs.YtampjgfddakdoaaDoor
open Go.RowKit Go.ChangeShapes Go.WideShapes Go.ChangeAt Go.Deep
set_option linter.unusedSimpArgs false
set_option linter.unusedVariables false

/-! ### the cells of a list of pairs -/
def flatM : List (Int × Int) → List Value
  | [] => []
  | m :: r => .int .i64 m.1 :: .int .i64 m.2 :: flatM r
theorem flatM_length : ∀ ms, (flatM ms).length = ms.length * 2
  | [] => rfl
  | m :: r => by simp [flatM, flatM_length r]; omega
theorem flatM_get : ∀ (ms : List (Int × Int)) (k : Nat), k < ms.length → (flatM ms)[k * 2]? = some (.int .i64 (ms.getD k (0, 0)).1) ∧ (flatM ms)[k * 2 + 1]? = some (.int .i64 (ms.getD k (0, 0)).2)
  | [], k, h => by simp at h
  | m :: r, 0, _ => by simp [flatM]
  | m :: r, k + 1, h => by
    have := flatM_get r k (by simpa using h)
    rw [show (k + 1) * 2 = k * 2 + 1 + 1 by omega]
    simpa [flatM] using this
theorem flatM_set1 : ∀ (ms : List (Int × Int)) (k : Nat) (u : Int), k < ms.length → (flatM ms).set (k * 2) (.int .i64 u) = flatM (ms.set k (u, (ms.getD k (0, 0)).2))
  | [], k, u, h => by simp at h
  | m :: r, 0, u, _ => by simp [flatM]
  | m :: r, k + 1, u, h => by
    have := flatM_set1 r k u (by simpa using h)
    rw [show (k + 1) * 2 = k * 2 + 1 + 1 by omega]
    simpa [flatM] using this
theorem flatM_set2 : ∀ (ms : List (Int × Int)) (k : Nat) (u : Int), k < ms.length → (flatM ms).set (k * 2 + 1) (.int .i64 u) = flatM (ms.set k ((ms.getD k (0, 0)).1, u))
  | [], k, u, h => by simp at h
  | m :: r, 0, u, _ => by simp [flatM]
  | m :: r, k + 1, u, h => by
    have := flatM_set2 r k u (by simpa using h)
    rw [show (k + 1) * 2 = k * 2 + 1 + 1 by omega]
    simpa [flatM] using this
theorem flatM_append : ∀ (a b : List (Int × Int)), flatM (a ++ b) = flatM a ++ flatM b
  | [], b => rfl
  | m :: r, b => by simp [flatM, flatM_append r b]

/-! ### a slice of modes that only is read -/
def RdM (w : World) (B : Nat) (v : Value) (ms : List (Int × Int)) : Prop :=
  ms.length ≤ maxLen ∧ ((v = .slice none 0 0 ∧ ms = []) ∨ ∃ A c, v = .slice (some A) ms.length c ∧
    (0 < ms.length → ∃ b off, A = ⟨b, off, none⟩ ∧ b < B ∧ ∀ k, k < ms.length → w.cell? ⟨b, off + k * 2, none⟩ = some (.int .i64 (ms.getD k (0, 0)).1) ∧ w.cell? ⟨b, off + k * 2 + 1, none⟩ = some (.int .i64 (ms.getD k (0, 0)).2)))
theorem RdM.below {w w' : World} {B : Nat} {v : Value} {ms : List (Int × Int)} (h : RdM w B v ms) (hb : Below B w w') : RdM w' B v ms := by
  refine ⟨h.1, ?_⟩
  rcases h.2 with h | ⟨A, c, hv, hc⟩
  · exact .inl h
  · refine .inr ⟨A, c, hv, fun h0 => ?_⟩
    obtain ⟨b, off, hA, hlt, hcell⟩ := hc h0
    exact ⟨b, off, hA, hlt, fun k hk => ⟨(hb.cell (p := ⟨b, off + k * 2, none⟩) hlt).trans (hcell k hk).1, (hb.cell (p := ⟨b, off + k * 2 + 1, none⟩) hlt).trans (hcell k hk).2⟩⟩
theorem RdM.form {w : World} {B : Nat} {v : Value} {ms : List (Int × Int)} (h : RdM w B v ms) : ∃ A c, v = .slice A ms.length c := by
  rcases h.2 with ⟨rfl, rfl⟩ | ⟨A, c, rfl, _⟩
  · exact ⟨_, _, rfl⟩
  · exact ⟨_, _, rfl⟩
section
variable {H : Type} {enc : TypeId × Value → H} {P : Program} {w : World} {base : Nat} {sp : Nat → Bool} {held : Bool}
theorem modes_of_trod {t e : TypeId} {f0 f1 : Field} {n : Nat} {v : Value} {y : DataW H × List MemPlace} (ht : P.underlying t = some (.slice e)) (he : P.underlying e = some (.struct #[f0, f1])) (hc : P.cellsOf e = 2)
    (t0 : P.underlying f0.type = some (.int .i64)) (t1 : P.underlying f1.type = some (.int .i64)) (o0 : f0.offset = 0) (o1 : f1.offset = 1) (c0 : P.cellsOf f0.type = 1) (c1 : P.cellsOf f1.type = 1)
    (h : DataW.trod enc P w base sp held n t [v] = some y) : ∃ ms, RdM w w.heap.size v ms ∧ ∀ m ∈ ms, In64 m.1 ∧ In64 m.2 := by
  rcases open_slice ht h with ⟨hv, _⟩ | ⟨a, len, cap, m, n', D, Pl, hv, _, hl, hm, hmm, _, hi⟩
  · exact ⟨[], ⟨Nat.zero_le _, .inl ⟨by simpa using hv, rfl⟩⟩, fun x hx => by cases hx⟩
  · have hlm : len ≤ m := by rw [hmm]; split <;> omega
    have hel : ∀ i, i < len → ∃ p : Int × Int, (w.cell? (a.add (i * 2)) = some (.int .i64 p.1) ∧ w.cell? (a.add (i * 2 + 1)) = some (.int .i64 p.2)) ∧ In64 p.1 ∧ In64 p.2 := by
      intro i hil
      obtain ⟨cs, hcs, htr⟩ := hi i (by omega)
      rw [hc] at hcs
      obtain ⟨_, hlen, hat⟩ := World.cells?_some hcs
      obtain ⟨m0, z0, h0⟩ := field_of_trod he htr 0 _ rfl 0 1 o0 c0
      obtain ⟨m1, z1, h1⟩ := field_of_trod he htr 1 _ rfl 1 1 o1 c1
      match cs, hlen with
      | [u0, u1], _ =>
        obtain ⟨p0, e0, i0⟩ := int_of_trod t0 h0
        obtain ⟨p1, e1, i1⟩ := int_of_trod t1 h1
        have g0 := hat 0 (by omega)
        have g1 := hat 1 (by omega)
        rw [Go.Deep.add_add] at g0 g1
        simp only [Nat.add_zero, List.getElem?_cons_zero, List.getElem?_cons_succ] at g0 g1
        exact ⟨(p0, p1), ⟨by rw [g0, e0], by rw [g1, e1]⟩, i0, i1⟩
    obtain ⟨F, hF⟩ := choose_lt hel
    have hlen : ((List.range len).map F).length = len := by simp
    refine ⟨(List.range len).map F, ⟨by omega, .inr ⟨a, cap, by rw [hlen]; simpa using hv, fun h0 => ?_⟩⟩, fun x hx => ?_⟩
    · rw [hlen] at h0 ⊢
      have hs := World.cell?_spot (hF 0 h0).1.1
      obtain ⟨b, off, spot⟩ := a
      have hspot : spot = none := by simpa [Addr.add] using hs
      subst hspot
      have hlt := block_lt_of_cell (hF 0 h0).1.1
      refine ⟨b, off, rfl, by simpa [Addr.add] using hlt, fun k hk => ?_⟩
      have e : ((List.range len).map F).getD k (0, 0) = F k := by simp [hk]
      have := (hF k hk).1
      rw [Go.WideShapes.add_plain, Go.WideShapes.add_plain] at this
      rw [e]
      exact this
    · obtain ⟨i, hi', rfl⟩ := List.mem_map.1 hx
      exact (hF i (by simpa using hi')).2
end

/-! ### a row of modes that the call owns -/
def RowM (e : TypeId) (w : World) (base : Nat) (v : Value) (ms : List (Int × Int)) : Prop := w.ownsRow base e 2 v ms.length (flatM ms)
section
variable {e : TypeId} {w w' : World} {base B : Nat} {v : Value} {ms : List (Int × Int)}
theorem RowM.nil_ : RowM e w base (.slice none 0 0) [] := World.ownsRow_nil w base e 2
theorem RowM.lt (h : RowM e w base v ms) : ∀ g, v.ownBlock = some g → base ≤ g ∧ g < w.heap.size := World.ownsRow.lt h
theorem RowM.kept {row : Option Nat} (h : RowM e w base v ms) (hg : w.grownBy w' row) (hne : v.ownBlock = none ∨ v.ownBlock ≠ row) : RowM e w' base v ms := World.ownsRow.kept h hg hne
theorem RowM.later (h : RowM e w base v ms) (hb : Below w.heap.size w w') : RowM e w' base v ms := h.kept (grown_of_below hb) (by cases hv : v.ownBlock <;> simp)
theorem RowM.later1 (h : RowM e w base v ms) (hb : Below w.drew.heap.size w.drew w') : RowM e w' base v ms := RowM.later (w := w.drew) h hb
theorem RowM.writes {S : Nat → Prop} (h : RowM e w base v ms) (hb : Writes w w' S) (hB : ∀ g, v.ownBlock = some g → ¬ S g) : RowM e w' base v ms := by
  refine ⟨h.1, ?_⟩
  rcases h.2 with hn | ⟨g, cap, cur, rfl, hb', hgg, rest⟩
  · exact .inl hn
  · exact .inr ⟨g, cap, cur, rfl, hb', by rw [hb.block g (Array.getElem?_eq_some_iff.1 hgg).1 (hB g rfl)]; exact hgg, rest⟩
theorem RowM.base_le {b' : Nat} (h : RowM e w base v ms) (hb : b' ≤ base) : RowM e w b' v ms := by
  refine ⟨h.1, ?_⟩
  rcases h.2 with hn | ⟨g, cap, cur, rfl, hb', rest⟩
  · exact .inl hn
  · exact .inr ⟨g, cap, cur, rfl, Nat.le_trans hb hb', rest⟩
theorem RowM.low {p : Addr} (hp : p.block < base) (u : Value) (h : RowM e w base v ms) : RowM e (w.setCell p u) base v ms := ownsRow_setCell_below h hp u
theorem RowM.alloc_ (h : RowM e w base v ms) (o : Obj) : RowM e (w.alloc o) base v ms := World.ownsRow.alloc h o
theorem RowM.drewN (h : RowM e w base v ms) (n : Nat) : RowM e (w.drewN n) base v ms := h
theorem RowM.len (h : RowM e w base v ms) : ms.length ≤ maxLen := by
  rcases h.2 with ⟨_, h0⟩ | ⟨g, cap, cur, _, _, _, h1, h2, _⟩
  · rw [h0]; exact Nat.zero_le _
  · exact Nat.le_trans h1 h2
theorem RowM.forms (h : RowM e w base v ms) : (v = .slice none 0 0 ∧ ms = []) ∨ ∃ g cap, v = .slice (some ⟨g, 0, none⟩) ms.length cap ∧ base ≤ g ∧ g < w.heap.size ∧
    (∀ k, k < ms.length → w.cell? ⟨g, k * 2, none⟩ = some (.int .i64 (ms.getD k (0, 0)).1) ∧ w.cell? ⟨g, k * 2 + 1, none⟩ = some (.int .i64 (ms.getD k (0, 0)).2)) ∧ (∀ k, w.frozen? ⟨g, k, none⟩ = false) := by
  rcases h.2 with ⟨hv, h0⟩ | ⟨g, cap, cur, rfl, hb, hgg, h1, h2, h3, h4⟩
  · exact .inl ⟨hv, List.eq_nil_of_length_eq_zero h0⟩
  · have hlt : g < w.heap.size := (Array.getElem?_eq_some_iff.1 hgg).1
    refine .inr ⟨g, cap, rfl, hb, hlt, fun k hk => ?_, fun k => World.ownsRow.frozenAt h k⟩
    have g1 := World.ownsRow.cellAt h (k * 2) (by omega)
    have g2 := World.ownsRow.cellAt h (k * 2 + 1) (by omega)
    obtain ⟨f1, f2⟩ := flatM_get ms k hk
    exact ⟨g1.trans f1, g2.trans f2⟩
theorem RowM.reads (h : RowM e w base v ms) : RdM w w.heap.size v ms := by
  refine ⟨h.len, ?_⟩
  rcases h.forms with h0 | ⟨g, cap, rfl, _, hlt, hc, _⟩
  · exact .inl h0
  · exact .inr ⟨_, cap, rfl, fun _ => ⟨g, 0, rfl, hlt, fun k hk => by simpa using hc k hk⟩⟩
theorem RowM.at_ {g n cap : Nat} (h : RowM e w base (.slice (some ⟨g, 0, none⟩) n cap) ms) : (∀ k, k < ms.length → w.cell? ⟨g, k * 2, none⟩ = some (.int .i64 (ms.getD k (0, 0)).1) ∧ w.cell? ⟨g, k * 2 + 1, none⟩ = some (.int .i64 (ms.getD k (0, 0)).2)) ∧ (∀ k, w.frozen? ⟨g, k, none⟩ = false) := by
  rcases h.forms with ⟨h3, _⟩ | ⟨g', c', h3, _, _, hc, hf⟩
  · cases h3
  · simp only [Value.slice.injEq, Option.some.injEq, Addr.mk.injEq, and_true] at h3
    obtain ⟨rfl, _⟩ := h3
    exact ⟨hc, hf⟩
theorem RowM.frz {g n cap : Nat} (h : RowM e w base (.slice (some ⟨g, 0, none⟩) n cap) ms) (k : Nat) : w.frozen? ⟨g, k, none⟩ = false := h.at_.2 k
theorem RowM.set1 {g n cap : Nat} (h : RowM e w base (.slice (some ⟨g, 0, none⟩) n cap) ms) (hn : ms.length = n) (k : Nat) (hk : k < n) (u : Int) :
    RowM e (w.setCell ⟨g, k * 2, none⟩ (.int .i64 u)) base (.slice (some ⟨g, 0, none⟩) n cap) (ms.set k (u, (ms.getD k (0, 0)).2)) ∧ w.grownBy (w.setCell ⟨g, k * 2, none⟩ (.int .i64 u)) (some g) := by
  subst hn
  obtain ⟨h1, h2⟩ := World.ownsRow.stored h (k * 2) (.int .i64 u)
  refine ⟨?_, h2⟩
  unfold RowM
  rw [List.length_set, ← flatM_set1 ms k u hk]
  exact h1
theorem RowM.set2 {g n cap : Nat} (h : RowM e w base (.slice (some ⟨g, 0, none⟩) n cap) ms) (hn : ms.length = n) (k : Nat) (hk : k < n) (u : Int) :
    RowM e (w.setCell ⟨g, k * 2 + 1, none⟩ (.int .i64 u)) base (.slice (some ⟨g, 0, none⟩) n cap) (ms.set k ((ms.getD k (0, 0)).1, u)) ∧ w.grownBy (w.setCell ⟨g, k * 2 + 1, none⟩ (.int .i64 u)) (some g) := by
  subst hn
  obtain ⟨h1, h2⟩ := World.ownsRow.stored h (k * 2 + 1) (.int .i64 u)
  refine ⟨?_, h2⟩
  unfold RowM
  rw [List.length_set, ← flatM_set2 ms k u hk]
  exact h1
end

theorem mset_two (L : List (Int × Int)) (k : Nat) (x o y : Int) (h : k < L.length) : (L.set k (x, o)).set k (((L.set k (x, o)).getD k (0, 0)).1, y) = L.set k (x, y) := by
  simp [h]
/-! ### the laws' own helpers over modes -/
theorem eqMode_yes (w : World) (x y : Int) :
    Calls Tryd.prog 56 #[.agg #[.int .i64 x, .int .i64 y], .agg #[.int .i64 x, .int .i64 y]] w fun e w' => e = .returned (.bool true) ∧ Below w.heap.size w w' := by
  go_enter Tryd.func56, Tryd.ntmps56
  go_wp2_with fail
  go_ret
  exact ⟨rfl, by repeat (first | (with_reducible exact Below.refl _ _) | (with_reducible assumption) | ((with_reducible refine bl_alloc ?_ _ ?_); (focus ((first | omega | (simp <;> omega)); done))) | ((with_reducible refine bl_set ?_ _ ?_); (focus ((first | omega | (simp <;> omega)); done))) | (with_reducible refine below_drewN ?_ _) | (with_reducible refine Below.drew ?_))⟩
theorem meq_rows (va vb : Value) (ms : List (Int × Int)) (ba bb : Nat) (w : World) (ha : RowM 57 w ba va ms) (hb : RowM 57 w bb vb ms) :
    Calls Tryd.prog 37 #[va, vb] w fun e w' => e = .returned (.bool true) ∧ Below w.heap.size w w' := by
  have hl := ha.len
  unfold maxLen at hl
  have hm : (ms.length : Int) ≤ 9223372036854775807 := by omega
  have hN : ms = [] → Calls Tryd.prog 37 #[va, vb] w fun e w' => e = .returned (.bool true) ∧ Below w.heap.size w w' := by
    intro h0
    subst h0
    rcases ha.forms with ⟨rfl, _⟩ | ⟨ga, ca, rfl, _⟩ <;> rcases hb.forms with ⟨rfl, _⟩ | ⟨gb, cb, rfl, _⟩
    all_goals
      clear ha hb hl hm
      try simp only [List.length_nil]
      go_enter Tryd.func37, Tryd.ntmps37
      go_wp2_with (first | ((with_reducible refine wp_loop_rounds 1 ?_); rw [rounds_succ]) | go_in)
      go_ret
      exact ⟨rfl, Below.refl _ _⟩
  rcases ha.forms with ⟨_, h0⟩ | ⟨ga, ca, rfl, _, la, hca, _⟩
  · exact hN h0
  rcases hb.forms with ⟨_, h0⟩ | ⟨gb, cb, rfl, _, lb, hcb, _⟩
  · exact hN h0
  clear hN ha hb
  generalize hn : ms.length = n at *
  go_enter Tryd.func37, Tryd.ntmps37
  go_wp2
  go_loopw [5] (fun i wr => ∃ k : Nat, k ≤ n ∧ i = .int .i64 k ∧ Below w.heap.size w wr) (fun i _ => n - (intOf i).toNat)
  case atStart => exact ⟨0, Nat.zero_le _, rfl, Below.refl _ _⟩
  case round =>
    obtain ⟨k, hk, rfl, hb⟩ := hrel
    have HB := Lib.hid hb
    by_cases hlt : k < n
    · have c1 := (hb.cell (p := ⟨ga, k * 2, none⟩) la).trans (hca k hlt).1
      have c2 := (hb.cell (p := ⟨ga, k * 2 + 1, none⟩) la).trans (hca k hlt).2
      have c3 := (hb.cell (p := ⟨gb, k * 2, none⟩) lb).trans (hcb k hlt).1
      have c4 := (hb.cell (p := ⟨gb, k * 2 + 1, none⟩) lb).trans (hcb k hlt).2
      have i0 : (0 : Int) ≤ (k : Int) := Int.natCast_nonneg _
      have i1 : (k : Int) < (n : Int) := by omega
      have zz : w.heap.size ≤ wr.heap.size := hb.size
      clear hca hcb hn hb
      generalize (ms.getD k (0, 0)).1 = x at *
      generalize (ms.getD k (0, 0)).2 = y at *
      go_wp2_with fail
      go_region_held3 (fun w' => w'.cell? ⟨ga, k * 2, none⟩ = some (.int .i64 x) ∧ w'.cell? ⟨ga, k * 2 + 1, none⟩ = some (.int .i64 y) ∧ w'.cell? ⟨gb, k * 2, none⟩ = some (.int .i64 x) ∧ w'.cell? ⟨gb, k * 2 + 1, none⟩ = some (.int .i64 y))
        (first | (refine ⟨?_, ?_, ?_, ?_⟩ <;> assumption) | (go_split_ands; (refine ⟨?_, ?_, ?_, ?_⟩ <;> first | assumption | (refine keeps hb1 ?_; assumption))))
        (first | (go_at_call 56; ((with_reducible refine (eqMode_yes _ _ _).mono ?_); rintro e w1 ⟨rfl, hb1⟩)))
      have HB1 := Lib.hid (show Below w.heap.size w w1 by repeat (first | (with_reducible exact Below.refl _ _) | (with_reducible assumption) | ((with_reducible refine bl_alloc ?_ _ ?_); (focus ((first | omega | (simp <;> omega)); done))) | ((with_reducible refine bl_set ?_ _ ?_); (focus ((first | omega | (simp <;> omega)); done))) | (with_reducible refine below_drewN ?_ _) | (with_reducible refine Below.drew ?_) | ((with_reducible refine bl_trans ?_ hb1 ?_); (focus ((first | omega | (simp <;> omega)); done))) | ((with_reducible refine bl_trans ?_ HB.out ?_); (focus ((first | omega | (simp <;> omega)); done)))))
      clear hb1
      go_wp2_with fail
      go_roundw
      case rel => exact ⟨k + 1, by omega, by go_num, HB1.out⟩
      case measure => simp [intOf]; omega
    · clear hca hcb hn
      go_wp2_with fail
      go_ret
      exact ⟨rfl, HB.out⟩
end Go.Proofs.YtampjgfddakdoaaDoor
