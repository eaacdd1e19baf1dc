/-
  Lemmas over any program, used by the walks and by the last steps of this seat's proofs: rows of int64s that a call owns, arguments that are only read, the row's closing step. No statement of the seat is proved here.
-/
import Derived.WalkKit
import Derived.ProofKit
import Derived.OpenShut
import Derived.Lib.Hide
import Derived.Lib.SmallJoins
namespace Go.Proofs.YtampjgfddakdoaaDoor
open Go.RowKit Go.ChangeShapes Go.WideShapes Go.ChangeAt
set_option linter.unusedVariables false

/-! ### numbers -/
def In64 (n : Int) : Prop := -9223372036854775808 ≤ n ∧ n ≤ 9223372036854775807
theorem in64_of_wf {n : Int} (h : (Lit.int .i64 n).wf = true) : In64 n := by
  simpa [In64, Lit.wf, IntKind.min, IntKind.max, IntKind.signed, IntKind.bits] using h
theorem In64.lo {n : Int} (h : In64 n) : -9223372036854775808 ≤ n := h.1
theorem In64.hi {n : Int} (h : In64 n) : n ≤ 9223372036854775807 := h.2

/-- A number within bounds, below them, or above them: the tests as the walk meets them. -/
theorem in_cases (n lo hi : Int) : (lo ≤ n ∧ n ≤ hi) ∨ decide (lo ≤ n) = false ∨ (lo ≤ n ∧ decide (n ≤ hi) = false) := by
  by_cases h1 : lo ≤ n
  · by_cases h2 : n ≤ hi
    · exact .inl ⟨h1, h2⟩
    · exact .inr (.inr ⟨h1, decide_eq_false h2⟩)
  · exact .inr (.inl (decide_eq_false h1))
theorem dec_no {p : Prop} [Decidable p] (h : decide p = false) : ¬ p := of_decide_eq_false h

/-! ### values that a call hands back -/
theorem ret_int {k : IntKind} {a b : Int} (h : a = b) : Ending.returned (.int k a) = .returned (.int k b) := by rw [h]
theorem ret_bool {a b : Bool} (h : a = b) : Ending.returned (.bool a) = .returned (.bool b) := by rw [h]

theorem below_drewN {B : Nat} {a w : World} (h : Below B a w) (n : Nat) : Below B a (w.drewN n) := ⟨h.os, h.tape, h.output, h.size, h.block⟩

theorem bl_alloc {B : Nat} {a w : World} (hB : B ≤ w.heap.size) (o : Obj) (h : Below B a w) : Below B a (w.alloc o) := h.alloc hB o
theorem bl_set {B : Nat} {a w : World} {p : Addr} (hp : B ≤ p.block) (u : Value) (h : Below B a w) : Below B a (w.setCell p u) := h.setCell hp u
theorem bl_trans {B B' : Nat} {a b c : World} (hB : B ≤ B') (k : Below B' b c) (h : Below B a b) : Below B a c := h.trans (k.mono hB)
/-- Of the blocks that were there, only those in S may have turned. -/
structure Writes (w w' : World) (S : Nat → Prop) : Prop where
  os : w'.os = w.os
  tape : w'.tape = w.tape
  output : w'.output = w.output
  size : w.heap.size ≤ w'.heap.size
  block : ∀ k, k < w.heap.size → ¬ S k → w'.heap[k]? = w.heap[k]?
theorem Writes.of_below {w w' : World} (h : Below w.heap.size w w') (S : Nat → Prop) : Writes w w' S := ⟨h.os, h.tape, h.output, h.size, fun k hk _ => h.block k hk⟩
theorem Writes.of_grown {w w' : World} {row : Option Nat} {S : Nat → Prop} (h : w.grownBy w' row) (hS : ∀ g, row = some g → S g) : Writes w w' S :=
  ⟨h.os, h.tape, h.output, h.size, fun k hk hn => h.block k hk (fun e => hn (hS k e.symm))⟩
theorem Writes.trans {a b c : World} {S : Nat → Prop} (h : Writes a b S) (k : Writes b c S) : Writes a c S :=
  ⟨k.os.trans h.os, k.tape.trans h.tape, k.output.trans h.output, Nat.le_trans h.size k.size, fun i hi hn => (k.block i (Nat.lt_of_lt_of_le hi h.size) hn).trans (h.block i hi hn)⟩
theorem Writes.below {B : Nat} {w w' : World} {S : Nat → Prop} (h : Writes w w' S) (hB : B ≤ w.heap.size) (hS : ∀ g, S g → B ≤ g) : Below B w w' :=
  ⟨h.os, h.tape, h.output, h.size, fun k hk => h.block k (by omega) (fun hs => by have := hS k hs; omega)⟩
theorem Writes.mono {w w' : World} {S T : Nat → Prop} (h : Writes w w' S) (hS : ∀ g, S g → T g) : Writes w w' T :=
  ⟨h.os, h.tape, h.output, h.size, fun k hk hn => h.block k hk (fun hs => hn (hS k hs))⟩
/-- Behind a call that leaves all that was there as it was: each old cell, each old mark, as rules of the walk. -/
theorem bcell {W w1 : World} (hb : Below W.heap.size W w1) : (∀ b o, b < W.heap.size → w1.cell? ⟨b, o, none⟩ = W.cell? ⟨b, o, none⟩) ∧ (∀ b o, b < W.heap.size → w1.frozen? ⟨b, o, none⟩ = W.frozen? ⟨b, o, none⟩) :=
  ⟨fun b o h => hb.cell (p := ⟨b, o, none⟩) h, fun b o h => hb.frozen (p := ⟨b, o, none⟩) h⟩

theorem below_drewN1 {B : Nat} {a w : World} (h : Below B a w) : Below B a w.drew := ⟨h.os, h.tape, h.output, h.size, h.block⟩
theorem below_next1 {a w w1 : World} (h : Below a.heap.size a w) (hb : Below w.drew.heap.size w.drew w1) : Below a.heap.size a w1 := (below_drewN1 h).trans (hb.mono h.size)
theorem below_next {a w w1 : World} (h : Below a.heap.size a w) (hb : Below w.heap.size w w1) : Below a.heap.size a w1 := h.trans (hb.mono h.size)

/-! ### a slice of int64s that only is read: nil or not -/
def Rd (w : World) (B : Nat) (v : Value) (xs : List Int) : Prop :=
  xs.length ≤ maxLen ∧ ((v = .slice none 0 0 ∧ xs = []) ∨ ∃ A c, v = .slice (some A) xs.length c ∧
    (0 < xs.length → ∃ b off, A = ⟨b, off, none⟩ ∧ b < B ∧ ∀ k, k < xs.length → w.cell? ⟨b, off + k, none⟩ = some (.int .i64 (xs.getD k 0))))

theorem Rd.below {w w' : World} {B : Nat} {v : Value} {xs : List Int} (h : Rd w B v xs) (hb : Below B w w') : Rd w' B v xs := by
  refine ⟨h.1, ?_⟩
  rcases h.2 with h | ⟨A, c, hv, hc⟩
  · exact .inl h
  · refine .inr ⟨A, c, hv, fun h0 => ?_⟩
    obtain ⟨b, off, hA, hlt, hcell⟩ := hc h0
    exact ⟨b, off, hA, hlt, fun k hk => (hb.cell (p := ⟨b, off + k, none⟩) hlt).trans (hcell k hk)⟩

theorem Rd.form {w : World} {B : Nat} {v : Value} {xs : List Int} (h : Rd w B v xs) : ∃ A c, v = .slice A xs.length c := by
  rcases h.2 with ⟨rfl, rfl⟩ | ⟨A, c, rfl, _⟩
  · exact ⟨_, _, rfl⟩
  · exact ⟨_, _, rfl⟩

/-! ### a row of int64s that the call owns: 'e' is the number of the type int64 -/
def Row (e : TypeId) (w : World) (base : Nat) (v : Value) (xs : List Int) : Prop := w.ownsRow base e 1 v xs.length (xs.map (Value.int .i64))

theorem block_of_cell {w : World} {a : Addr} {v : Value} (h : w.cell? a = some v) : a.block < w.heap.size := by
  rcases Nat.lt_or_ge a.block w.heap.size with hlt | hge
  · exact hlt
  · rw [World.cell?, Array.getElem?_eq_none hge] at h
    cases h
/-- A cell that was there is there behind the call. -/
theorem keeps {X w1 : World} {p : Addr} {v : Value} (hb : Below X.heap.size X w1) (h : X.cell? p = some v) : w1.cell? p = some v := (hb.cell (block_of_cell h)).trans h
theorem cell_alloc {w : World} {p : Addr} {v : Value} (h : w.cell? p = some v) (o : Obj) : (w.alloc o).cell? p = some v := (World.cell?_alloc_lt w o p (block_of_cell h)).trans h
/-- A cell that was there is there whatever the new block holds. -/
theorem cell_realloc {w : World} {o o' : Obj} {b off : Nat} {v : Value} (hne : b ≠ w.heap.size) (h : (w.alloc o).cell? ⟨b, off, none⟩ = some v) : (w.alloc o').cell? ⟨b, off, none⟩ = some v := by
  have hlt : b < w.heap.size := by
    have := block_of_cell h
    simp at this
    omega
  rw [World.cell?_alloc_lt w o _ hlt] at h
  exact (World.cell?_alloc_lt w o' _ hlt).trans h
theorem cell_set1 {w : World} {c d : Nat} {u v : Value} {b off : Nat} (h1 : c ≠ b) (h : w.cell? ⟨b, off, none⟩ = some v) : (w.setCell ⟨c, d, none⟩ u).cell? ⟨b, off, none⟩ = some v :=
  (World.cell?_setCell_other _ _ _ _ (fun e => h1 (by injection e))).trans h
theorem cell_set2 {w : World} {c d c' d' : Nat} {u u' v : Value} {b off : Nat} (h1 : c ≠ b) (h2 : c' ≠ b) (h : w.cell? ⟨b, off, none⟩ = some v) : ((w.setCell ⟨c, d, none⟩ u).setCell ⟨c', d', none⟩ u').cell? ⟨b, off, none⟩ = some v :=
  cell_set1 h2 (cell_set1 h1 h)
theorem cells_set2 {w : World} {T : Nat} {u u' a b : Value} (h0 : w.cell? ⟨T, 0, none⟩ = some u) (h1 : w.cell? ⟨T, 1, none⟩ = some u') :
    ((w.setCell ⟨T, 0, none⟩ a).setCell ⟨T, 1, none⟩ b).cell? ⟨T, 0, none⟩ = some a ∧ ((w.setCell ⟨T, 0, none⟩ a).setCell ⟨T, 1, none⟩ b).cell? ⟨T, 1, none⟩ = some b := by
  have e0 : (w.setCell ⟨T, 0, none⟩ a).cell? ⟨T, 0, none⟩ = some a := World.cell?_setCell_same _ _ _ h0
  have e1 : (w.setCell ⟨T, 0, none⟩ a).cell? ⟨T, 1, none⟩ = some u' := (World.cell?_setCell_other _ _ _ _ (fun e => by injection e with _ e2; cases e2)).trans h1
  exact ⟨(World.cell?_setCell_other _ _ _ _ (fun e => by injection e with _ e2; cases e2)).trans e0, World.cell?_setCell_same _ _ _ e1⟩
theorem keeps1 {X w1 : World} {p : Addr} {v : Value} (hb : Below X.drew.heap.size X.drew w1) (h : X.cell? p = some v) : w1.cell? p = some v := keeps (X := X.drew) hb h
theorem keepsW {X w1 : World} {S : Nat → Prop} {p : Addr} {v : Value} (hb : Writes X w1 S) (h : X.cell? p = some v) (hn : ¬ S p.block) : w1.cell? p = some v :=
  (World.cell?_of_block (hb.block p.block (block_of_cell h) hn)).trans h
/-- Two slices do not lie in one block. -/
def Apart (u v : Value) : Prop := ∀ g, u.ownBlock = some g → v.ownBlock ≠ some g
theorem apart_of {g g' n c n' c' : Nat} {o o' : Nat} {q q' : Option Nat} (h : g ≠ g') : Apart (.slice (some ⟨g, o, q⟩) n c) (.slice (some ⟨g', o', q'⟩) n' c') := by
  intro x hx hy
  simp [Value.ownBlock] at hx hy
  omega
theorem apart_nil {v : Value} : Apart (.slice none 0 0) v := by
  intro x hx
  simp [Value.ownBlock] at hx
theorem Apart.symm {u v : Value} (h : Apart u v) : Apart v u := fun g hg hu => h g hu hg

section
variable {e : TypeId} {w w' : World} {base B : Nat} {v : Value} {xs : List Int}
theorem Row.nil_ : Row e w base (.slice none 0 0) [] := World.ownsRow_nil w base e 1
theorem Row.lt (h : Row e w base v xs) : ∀ g, v.ownBlock = some g → base ≤ g ∧ g < w.heap.size := World.ownsRow.lt h
theorem Row.kept {row : Option Nat} (h : Row e w base v xs) (hg : w.grownBy w' row) (hne : v.ownBlock = none ∨ v.ownBlock ≠ row) : Row e w' base v xs := World.ownsRow.kept h hg hne
theorem grown_of_below (h : Below w.heap.size w w') : w.grownBy w' none := ⟨h.os, h.tape, h.output, h.size, fun i hi _ => h.block i hi⟩
theorem Row.later (h : Row e w base v xs) (hb : Below w.heap.size w w') : Row e w' base v xs := h.kept (grown_of_below hb) (by cases hv : v.ownBlock <;> simp)
theorem Row.later1 (h : Row e w base v xs) (hb : Below w.drew.heap.size w.drew w') : Row e w' base v xs := Row.later (w := w.drew) h hb
theorem Row.below (h : Row e w base v xs) (hb : Below B w w') (hB : ∀ g, v.ownBlock = some g → g < B) : Row e w' base v xs := by
  refine ⟨h.1, ?_⟩
  rcases h.2 with hn | ⟨g, cap, cur, rfl, hb', hgg, rest⟩
  · exact .inl hn
  · exact .inr ⟨g, cap, cur, rfl, hb', by rw [hb.block g (hB g rfl)]; exact hgg, rest⟩
theorem Row.writes {S : Nat → Prop} (h : Row e w base v xs) (hb : Writes w w' S) (hB : ∀ g, v.ownBlock = some g → ¬ S g) : Row e w' base v xs := by
  refine ⟨h.1, ?_⟩
  rcases h.2 with hn | ⟨g, cap, cur, rfl, hb', hgg, rest⟩
  · exact .inl hn
  · exact .inr ⟨g, cap, cur, rfl, hb', by rw [hb.block g (Array.getElem?_eq_some_iff.1 hgg).1 (hB g rfl)]; exact hgg, rest⟩
theorem Row.base_le {b' : Nat} (h : Row e w base v xs) (hb : b' ≤ base) : Row e w b' v xs := by
  refine ⟨h.1, ?_⟩
  rcases h.2 with hn | ⟨g, cap, cur, rfl, hb', rest⟩
  · exact .inl hn
  · exact .inr ⟨g, cap, cur, rfl, Nat.le_trans hb hb', rest⟩
theorem Row.setCell_low (h : Row e w base v xs) {p : Addr} (hp : p.block < base) (u : Value) : Row e (w.setCell p u) base v xs := ownsRow_setCell_below h hp u
theorem Row.low {p : Addr} (hp : p.block < base) (u : Value) (h : Row e w base v xs) : Row e (w.setCell p u) base v xs := h.setCell_low hp u
theorem Row.alloc_ (h : Row e w base v xs) (o : Obj) : Row e (w.alloc o) base v xs := World.ownsRow.alloc h o
theorem Row.drewN (h : Row e w base v xs) (n : Nat) : Row e (w.drewN n) base v xs := h
theorem Row.len (h : Row e w base v xs) : xs.length ≤ maxLen := by
  rcases h.2 with ⟨_, h0⟩ | ⟨g, cap, cur, _, _, _, h1, h2, _⟩
  · rw [h0]; exact Nat.zero_le _
  · exact Nat.le_trans h1 h2
/-- The two forms of such a value, with what the walk asks of memory. -/
theorem Row.forms (h : Row e w base v xs) : (v = .slice none 0 0 ∧ xs = []) ∨ ∃ g cap, v = .slice (some ⟨g, 0, none⟩) xs.length cap ∧ base ≤ g ∧ g < w.heap.size ∧
    (∀ k, k < xs.length → w.cell? ⟨g, k, none⟩ = some (.int .i64 (xs.getD k 0))) ∧ (∀ k, w.frozen? ⟨g, k, none⟩ = false) := by
  have hl := h.len
  rcases h.2 with ⟨hv, h0⟩ | ⟨g, cap, cur, rfl, hb, hgg, h1, h2, h3, h4⟩
  · exact .inl ⟨hv, List.eq_nil_of_length_eq_zero h0⟩
  · have hlt : g < w.heap.size := (Array.getElem?_eq_some_iff.1 hgg).1
    refine .inr ⟨g, cap, rfl, hb, hlt, fun k hk => ?_, fun k => World.ownsRow.frozenAt h k⟩
    have := World.ownsRow.cellAt h k (by simpa using hk)
    rw [this]
    simp [hk]
theorem Row.reads (h : Row e w base v xs) : Rd w w.heap.size v xs := by
  refine ⟨h.len, ?_⟩
  rcases h.forms with h0 | ⟨g, cap, rfl, _, hlt, hc, _⟩
  · exact .inl h0
  · exact .inr ⟨_, cap, rfl, fun _ => ⟨g, 0, rfl, hlt, fun k hk => by simpa using hc k hk⟩⟩
theorem Row.set {g cap : Nat} (h : Row e w base (.slice (some ⟨g, 0, none⟩) xs.length cap) xs) (j : Nat) (u : Int) :
    Row e (w.setCell ⟨g, j, none⟩ (.int .i64 u)) base (.slice (some ⟨g, 0, none⟩) xs.length cap) (xs.set j u) ∧ w.grownBy (w.setCell ⟨g, j, none⟩ (.int .i64 u)) (some g) := by
  obtain ⟨h1, h2⟩ := World.ownsRow.stored h j (.int .i64 u)
  refine ⟨?_, h2⟩
  unfold Row
  rw [List.length_set, List.map_set]
  exact h1
theorem Row.lit (w : World) (e : TypeId) (cs : List Int) (g n base : Nat) (hg : g = w.heap.size) (hn : n = cs.length) (hm : n ≤ maxLen) (hb : base ≤ w.heap.size) :
    Row e (w.alloc (.cells (cs.map (Value.int .i64)).toArray e)) base (.slice (some ⟨g, 0, none⟩) n n) cs := by
  subst hg hn
  have h := World.ownsRow_lit (base := base) (e := e) (size := 1) w (cs.map (Value.int .i64)).toArray cs.length hb hm (by simp)
  unfold Row
  simpa using h
theorem Row.at_ {g n cap : Nat} (h : Row e w base (.slice (some ⟨g, 0, none⟩) n cap) xs) : (∀ k, k < xs.length → w.cell? ⟨g, k, none⟩ = some (.int .i64 (xs.getD k 0))) ∧ (∀ k, w.frozen? ⟨g, k, none⟩ = false) := by
  rcases h.forms with ⟨h3, _⟩ | ⟨g', c', h3, _, _, hc, hf⟩
  · cases h3
  · simp only [Value.slice.injEq, Option.some.injEq, Addr.mk.injEq, and_true] at h3
    obtain ⟨rfl, _⟩ := h3
    exact ⟨hc, hf⟩
theorem Row.frz {g n cap : Nat} (h : Row e w base (.slice (some ⟨g, 0, none⟩) n cap) xs) (k : Nat) : w.frozen? ⟨g, k, none⟩ = false := h.at_.2 k
theorem Row.set_ {g n cap : Nat} (h : Row e w base (.slice (some ⟨g, 0, none⟩) n cap) xs) (hn : xs.length = n) (j : Nat) (u : Int) :
    Row e (w.setCell ⟨g, j, none⟩ (.int .i64 u)) base (.slice (some ⟨g, 0, none⟩) n cap) (xs.set j u) ∧ w.grownBy (w.setCell ⟨g, j, none⟩ (.int .i64 u)) (some g) := by
  subst hn
  exact Row.set h j u
end

/-! ### the law's row, its last step -/
section
variable {H : Type} {enc : TypeId × Value → H} {P : Program}
theorem trodAll_stays (hl : laidOutB P = true) {W W' : World} {sp' : Nat → Bool} : ∀ {ts : List TypeId} {vs : List Value} {ds : List (DataW H)} {ps : List MemPlace},
    (∀ t ∈ ts, P.readableRec t = true ∧ t < P.types.size) → DataW.TrodAll enc P W 0 (fun _ => true) true ts vs ds ps → (∀ p ∈ ps, W.sameAt W' p) → (∀ p ∈ ps, sp' p.block = true) →
    DataW.TrodAll enc P W' 0 sp' true ts vs ds ps
  | [], vs, ds, ps, _, h, _, _ => by
    obtain ⟨rfl, rfl, rfl⟩ := trodAll_nil h
    exact trodAll_mk0
  | t :: ts, vs, ds, ps, ht, h, hs, hsp => by
    obtain ⟨v, vs', d, ds', p, q, rfl, rfl, rfl, h0, h1⟩ := trodAll_cons h
    have h2 := ht t (List.mem_cons_self ..)
    exact trodAll_cons_mk (WideElems.Trod_stays hl h2.1 h2.2 h0 (fun x hx => hs x (List.mem_append_left _ hx)) (fun x hx => hsp x (List.mem_append_left _ hx)))
      (trodAll_stays hl (fun t' h' => ht t' (List.mem_cons_of_mem _ h')) h1 (fun x hx => hs x (List.mem_append_right _ hx)) (fun x hx => hsp x (List.mem_append_right _ hx)))

theorem whole_lt {ts : List TypeId} {vars : List String} {ap : Bool} {W : World} {vs : List Value} {ds gs : List (DataW H)} {ps : List MemPlace} (h : DataW.Whole enc P ts vars ap W vs ds gs ps) :
    ∀ p ∈ ps, p.block < W.heap.size := fun p hp => h.lt p hp

/-- 'post' of a law that hands back true and leaves all that was there as it was. -/
theorem law_post {f : Func} {s : ChangeSpec} {tb : TypeId} {W W' : World} {args : Array Value} {ds gs : List (DataW H)} {before : List MemPlace}
    (hW : DataW.Whole enc P f.params.toList s.vars false W args.toList ds gs before) (hvars : s.vars = [])
    (hfn : s.fn H (ds ++ gs) = { results := [.lit (.bool true)], args := ds }) (hl : laidOutB P = true)
    (hts : ∀ t ∈ f.params.toList, P.readableRec t = true ∧ t < P.types.size) (hr : f.resultTypes = #[tb]) (hb : P.underlying tb = some .bool) (hB : Below W.heap.size W W') :
    s.post enc P f false true false false W args (.bool true) W' := by
  have hlt := whole_lt hW
  have hold : ∀ p ∈ before, (fun b => decide (b < W.heap.size)) p.block = true := fun p hp => by simpa using hlt p hp
  have hW0 := hW
  obtain ⟨p, q, hA, hV, rfl, hfz, hnd⟩ := hW0
  rw [hvars] at hV
  obtain ⟨rfl, rfl⟩ := trodVars_none hV
  have hres : ∀ (b : Nat) (sp : Nat → Bool) (hd : Bool), DataW.TrodAll enc P W' b sp hd f.resultTypes.toList ((Value.bool true).resultList f.resultTypes.size) (s.fn H (ds ++ [])).results [] := by
    intro b sp hd
    rw [hr, hfn]
    exact trodAll_cons_mk (shut_bool hb true) trodAll_mk0
  have hargs : ∀ sp : Nat → Bool, (∀ x ∈ p, sp x.block = true) → DataW.TrodAll enc P W' 0 sp true f.params.toList args.toList (s.fn H (ds ++ [])).args p := by
    intro sp hsp
    rw [hfn]
    exact trodAll_stays hl hts hA (fun x hx => hB.same (hlt x (by simpa using hx))) hsp
  have hv0 : ∀ sp : Nat → Bool, DataW.TrodVars enc P W' sp s.vars (s.fn H (ds ++ [])).vars [] := by
    intro sp
    rw [hvars, hfn]
    rfl
  have hp : p ++ [] = p := List.append_nil p
  refine ⟨ds, [], p ++ [], [], p, [], hW, hres _ _ _, hargs _ (fun x hx => hold x (by simpa using hx)), hv0 _, World.keptBut_mono (fun x hx => ⟨hx, ?_⟩) (hB.frame (· ∈ p ++ [])), fun _ => ?_⟩
  · exact Or.inr (by simpa using hx)
  · refine ⟨ok_one hr rfl (okWide_bool_mk hb true), _, _, ([] ++ p) ++ [], ⟨[] ++ p, [], trodAll_append (hargs _ (fun _ _ => rfl)) (hres _ _ _), hv0 _, rfl, ?_, ?_⟩, ?_⟩
    · intro b off hx
      have hin : MemPlace.cell b off ∈ p ++ [] := by simpa using hx
      rw [hB.frozen (hlt _ hin)]
      exact hfz b off hin
    · intro ha
      cases ha
    · intro x hx _
      simpa using hx
end
end Go.Proofs.YtampjgfddakdoaaDoor
