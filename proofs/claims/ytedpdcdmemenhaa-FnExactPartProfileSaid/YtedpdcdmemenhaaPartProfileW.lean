/-
  The walk of FnExactPartProfile: it returns true, and of what was there nothing has turned. The conditions are what its arguments' readings give.
-/
import Derived.Test.YtedpdcdmemenhaaRows
import Derived.Test.YtedpdcdmemenhaaLib
import Derived.Test.YtedpdcdmemenhaaInt
import Derived.Test.YtedpdcdmemenhaaWithin
import Derived.Test.YtedpdcdmemenhaaInts
import Derived.Test.YtedpdcdmemenhaaIntsB
import Derived.Test.YtedpdcdmemenhaaAll
import Derived.Test.YtedpdcdmemenhaaOwn
import Derived.Test.YtedpdcdmemenhaaField
import Derived.Test.YtedpdcdmemenhaaMk
import Derived.Test.YtedpdcdmemenhaaProf
import Derived.Test.YtedpdcdmemenhaaProfI
import Derived.Test.YtedpdcdmemenhaaOffs
import Derived.Test.YtedpdcdmemenhaaPartS
import Derived.Test.YtedpdcdmemenhaaPartI
import Derived.Test.YtedpdcdmemenhaaProfile
import Derived.Outline
import Derived.Deep.RegionHeld3
import Derived.Deep.DrawnRows
import Derived.Deep.DeepCutAuto
namespace Go.Proofs.Ytedpdcdmemenhaa.fnExactPartProfile
open Go.RowKit Go.ChangeShapes Go.WideShapes Go.ChangeAt
set_option linter.unusedVariables false
set_option linter.unusedSimpArgs false

attribute [local go_sem ↓] Go.wp_at_zero Go.wp_at_succ
def ppIn (hs : List Int) (i k : Int) : Bool := inB i 0 ((hs.length : Int) - 1) && inB k (i + 1) ((hs.length : Int) - 1)
def ppB (d f l : Int) (hs : List Int) (i k : Int) : Bool := profB d f l hs && ppIn hs i k && profB (partD d hs i.toNat k.toNat) (partF f hs i.toNat) (partL l hs k.toNat) (partH hs i.toNat k.toNat)
def ppD (d f l : Int) (hs : List Int) (i k : Int) : Int := if ppB d f l hs i k = true then partD d hs i.toNat k.toNat else 0
def ppF (d f l : Int) (hs : List Int) (i k : Int) : Int := if ppB d f l hs i k = true then partF f hs i.toNat else 0
def ppL (d f l : Int) (hs : List Int) (i k : Int) : Int := if ppB d f l hs i k = true then partL l hs k.toNat else 0
def ppH (d f l : Int) (hs : List Int) (i k : Int) : List Int := if ppB d f l hs i k = true then partH hs i.toNat k.toNat else []
def ppC (d f l : Int) (hs : List Int) (i k : Int) : Int := if profB d f l hs = true then (if ppIn hs i k = true then (if ppB d f l hs i k = true then 0 else 6) else 2) else 1
theorem pp_zero {d f l : Int} {hs : List Int} {i k : Int} (h : ppB d f l hs i k = false) : ppD d f l hs i k = 0 ∧ ppF d f l hs i k = 0 ∧ ppL d f l hs i k = 0 ∧ ppH d f l hs i k = [] := by
  have h' : ¬ ppB d f l hs i k = true := by rw [h]; decide
  exact ⟨if_neg h', if_neg h', if_neg h', if_neg h'⟩
theorem pp_1 {d f l : Int} {hs : List Int} {i k : Int} (h : profB d f l hs = false) : ppB d f l hs i k = false ∧ ppC d f l hs i k = 1 := ⟨by simp [ppB, h], if_neg (by rw [h]; decide)⟩
theorem pp_2 {d f l : Int} {hs : List Int} {i k : Int} (h : profB d f l hs = true) (h2 : ppIn hs i k = false) : ppB d f l hs i k = false ∧ ppC d f l hs i k = 2 := ⟨by simp [ppB, h2], by unfold ppC; rw [if_pos h, if_neg (by rw [h2]; decide)]⟩
theorem pp_6 {d f l : Int} {hs : List Int} {i k : Int} (h : profB d f l hs = true) (h2 : ppIn hs i k = true) (h3 : profB (partD d hs i.toNat k.toNat) (partF f hs i.toNat) (partL l hs k.toNat) (partH hs i.toNat k.toNat) = false) : ppB d f l hs i k = false ∧ ppC d f l hs i k = 6 := by
  have e : ppB d f l hs i k = false := by simp [ppB, h3]
  exact ⟨e, by unfold ppC; rw [if_pos h, if_pos h2, if_neg (by rw [e]; decide)]⟩
theorem pp_0 {d f l : Int} {hs : List Int} {i k : Int} (h : profB d f l hs = true) (h2 : ppIn hs i k = true) (h3 : profB (partD d hs i.toNat k.toNat) (partF f hs i.toNat) (partL l hs k.toNat) (partH hs i.toNat k.toNat) = true) : ppD d f l hs i k = partD d hs i.toNat k.toNat ∧ ppF d f l hs i k = partF f hs i.toNat ∧ ppL d f l hs i k = partL l hs k.toNat ∧ ppH d f l hs i k = partH hs i.toNat k.toNat ∧ ppC d f l hs i k = 0 := by
  have e : ppB d f l hs i k = true := by simp [ppB, h, h2, h3]
  exact ⟨if_pos e, if_pos e, if_pos e, if_pos e, by unfold ppC; rw [if_pos h, if_pos h2, if_pos e]⟩
theorem pp_len (d f l : Int) (hs : List Int) (i k : Int) : (ppH d f l hs i k).length ≤ 65 := by
  cases h : ppB d f l hs i k with
  | true =>
    unfold ppH
    rw [if_pos h]
    unfold ppB at h
    simp only [Bool.and_eq_true] at h
    obtain ⟨_, _, _, h4, _⟩ := prof_parts h.2
    omega
  | false => rw [(pp_zero h).2.2.2]; exact Nat.zero_le _
theorem in_parts {hs : List Int} {i k : Int} (h : ppIn hs i k = true) : 0 ≤ i ∧ i + 1 ≤ k ∧ k ≤ (hs.length : Int) - 1 := by
  unfold ppIn at h
  simp only [Bool.and_eq_true] at h
  have h1 := inB_out h.1
  have h2 := inB_out h.2
  omega
set_option maxRecDepth 20000 in
set_option maxHeartbeats 8000000 in
theorem spec_any (w : World) (d : Int) (id_ : In64 d) (f : Int) (if_ : In64 f) (l : Int) (il : In64 l) (v : Value) (hs : List Int) (p : Nat) (hr : Row 2 w p v hs) (jhs : ∀ n ∈ hs, In64 n) (i : Int) (ii : In64 i) (k : Int) (ik : In64 k) :
    Calls Try.prog 23 #[.agg #[.int .i64 d, .int .i64 f, .int .i64 l, v], .int .i64 i, .int .i64 k] w fun e w' => ∃ A0 n0 c0, e = .returned (.tuple #[.agg #[.int .i64 (ppD d f l hs i k), .int .i64 (ppF d f l hs i k), .int .i64 (ppL d f l hs i k), .slice A0 n0 c0], .int .i64 (ppC d f l hs i k)]) ∧ Row 2 w' w.heap.size (.slice A0 n0 c0) (ppH d f l hs i k) ∧ Below w.heap.size w w' := by
  have HR := Lib.hid hr
  clear hr id_ if_ il jhs
  rcases bool_tf (profB d f l hs) with hv | hv
  rotate_left
  · obtain ⟨eb, e5⟩ := pp_1 (i := i) (k := k) hv
    obtain ⟨e1, e2, e3, e4⟩ := pp_zero eb
    rw [e1, e2, e3, e4, e5]
    clear e1 e2 e3 e4 e5
    have HE := Lib.hid hv
    clear hv eb
    go_enter Try.func23, Try.ntmps23
    go_wp2_with fail
    refine (l05Ok_any _ _ d f l _ hs p ((HR.out.alloc_ _).alloc_ _) (by simp [go_sem]) (by simp [go_sem]) (by simp [go_sem]) (by simp [go_sem])).mono ?_
    rintro e w1 ⟨he, kd, hw⟩
    have hb1 : Below ((w.alloc (.cells #[.int .i64 d, .int .i64 f, .int .i64 l, v] 46)).alloc (.cells #[.int .i64 0, .int .i64 0, .int .i64 0, .slice none 0 0] 46)).heap.size ((w.alloc (.cells #[.int .i64 d, .int .i64 f, .int .i64 l, v] 46)).alloc (.cells #[.int .i64 0, .int .i64 0, .int .i64 0, .slice none 0 0] 46)) w1 := by rw [hw]; exact below_drewN (Below.refl _ _) _
    clear hw
    rw [HE.out] at he
    subst he
    have H1 := Lib.hid (show Below w.heap.size w w1 by repeat (first | (with_reducible exact Below.refl _ _) | (with_reducible assumption) | ((with_reducible refine bl_alloc ?_ _ ?_); (focus ((first | omega | (simp <;> omega)); done))) | ((with_reducible refine bl_set ?_ _ ?_); (focus ((first | omega | (simp <;> omega)); done))) | (with_reducible refine below_drewN ?_ _) | (with_reducible refine Below.drew ?_) | ((with_reducible refine bl_trans ?_ hb1 ?_); (focus ((first | omega | (simp <;> omega)); done)))))
    have SB1 := Lib.hid (show SInv w1 w.heap.size [.int .i64 d, .int .i64 f, .int .i64 l, v] from ((SInv.fresh w #[.int .i64 d, .int .i64 f, .int .i64 l, v] 46).alloc_ (.cells #[.int .i64 0, .int .i64 0, .int .i64 0, .slice none 0 0] 46)).later hb1)
    have SZ1 := Lib.hid (show SInv w1 (w.heap.size + 1) [.int .i64 0, .int .i64 0, .int .i64 0, .slice none 0 0] from by have h := (SInv.fresh (w.alloc (.cells #[.int .i64 d, .int .i64 f, .int .i64 l, v] 46)) #[.int .i64 0, .int .i64 0, .int .i64 0, .slice none 0 0] 46).later hb1; simpa using h)
    have HR1 := Lib.hid (((HR.out.alloc_ (.cells #[.int .i64 d, .int .i64 f, .int .i64 l, v] 46)).alloc_ (.cells #[.int .i64 0, .int .i64 0, .int .i64 0, .slice none 0 0] 46)).later hb1)
    have zz1 : w.heap.size + 2 ≤ w1.heap.size := by have := hb1.size; simp at this; omega
    clear hb1
    have z0 := SZ1.out.cell 0 _ rfl
    have z1 := SZ1.out.cell 1 _ rfl
    have z2 := SZ1.out.cell 2 _ rfl
    have z3 := SZ1.out.cell 3 _ rfl
    have zf := SZ1.out.free
    go_wp2_with fail
    refine bodyPost_ret (v := .tuple #[.agg #[.int .i64 0, .int .i64 0, .int .i64 0, .slice none 0 0], .int .i64 1]) (by simp [results, Try.results23, go_sem, *]) rfl ?_
    exact ⟨_, _, _, rfl, Row.nil_, by repeat (first | (with_reducible exact Below.refl _ _) | (with_reducible assumption) | ((with_reducible refine bl_alloc ?_ _ ?_); (focus ((first | omega | (simp <;> omega)); done))) | ((with_reducible refine bl_set ?_ _ ?_); (focus ((first | omega | (simp <;> omega)); done))) | (with_reducible refine below_drewN ?_ _) | (with_reducible refine Below.drew ?_) | ((with_reducible refine bl_trans ?_ H1.out ?_); (focus ((first | omega | (simp <;> omega)); done))))⟩
  obtain ⟨⟨d0, d1⟩, _, _, ⟨n2, n65⟩, _⟩ := prof_parts hv
  rcases HR.out.forms with ⟨_, hz⟩ | ⟨g, c, rfl, _, lg, hc, _⟩
  · rw [hz] at n2; simp at n2
  clear hc
  rcases bool_tf (inB i 0 ((hs.length : Int) - 1)) with hi | hi
  rotate_left
  · have h2 : ppIn hs i k = false := by simp [ppIn, hi]
    obtain ⟨eb, e5⟩ := pp_2 hv h2
    obtain ⟨e1, e2, e3, e4⟩ := pp_zero eb
    rw [e1, e2, e3, e4, e5]
    clear e1 e2 e3 e4 e5
    have HE := Lib.hid hv
    clear hv eb h2
    obtain ⟨n, hn⟩ : ∃ n, n = hs.length := ⟨_, rfl⟩
    rw [← hn] at n2 n65 HR hi ⊢
    have HN := Lib.hid hn
    clear hn
    have HTi : Hid (∀ W : World, Calls Try.prog 60 #[.int .i64 i, .int .i64 0, .int .i64 ((n : Int) - 1)] W fun e w' => e = .returned (.bool false) ∧ W = w') := fun W => by have h := l00In_any W i 0 ((n : Int) - 1); rw [hi] at h; exact h
    clear hi
    have j1 : IntKind.i64.wrap ((n : Int) - 1) = (n : Int) - 1 := by rw [IntKind.wrap_i64]; omega
    go_enter Try.func23, Try.ntmps23
    go_wp2_with fail
    refine (l05Ok_any _ _ d f l _ hs p ((HR.out.alloc_ _).alloc_ _) (by simp [go_sem]) (by simp [go_sem]) (by simp [go_sem]) (by simp [go_sem])).mono ?_
    rintro e w1 ⟨he, kd, hw⟩
    have hb1 : Below ((w.alloc (.cells #[.int .i64 d, .int .i64 f, .int .i64 l, (.slice (some ⟨g, 0, none⟩) n c)] 46)).alloc (.cells #[.int .i64 0, .int .i64 0, .int .i64 0, .slice none 0 0] 46)).heap.size ((w.alloc (.cells #[.int .i64 d, .int .i64 f, .int .i64 l, (.slice (some ⟨g, 0, none⟩) n c)] 46)).alloc (.cells #[.int .i64 0, .int .i64 0, .int .i64 0, .slice none 0 0] 46)) w1 := by rw [hw]; exact below_drewN (Below.refl _ _) _
    clear hw
    rw [HE.out] at he
    subst he
    have H1 := Lib.hid (show Below w.heap.size w w1 by repeat (first | (with_reducible exact Below.refl _ _) | (with_reducible assumption) | ((with_reducible refine bl_alloc ?_ _ ?_); (focus ((first | omega | (simp <;> omega)); done))) | ((with_reducible refine bl_set ?_ _ ?_); (focus ((first | omega | (simp <;> omega)); done))) | (with_reducible refine below_drewN ?_ _) | (with_reducible refine Below.drew ?_) | ((with_reducible refine bl_trans ?_ hb1 ?_); (focus ((first | omega | (simp <;> omega)); done)))))
    have SB1 := Lib.hid (show SInv w1 w.heap.size [.int .i64 d, .int .i64 f, .int .i64 l, (.slice (some ⟨g, 0, none⟩) n c)] from ((SInv.fresh w #[.int .i64 d, .int .i64 f, .int .i64 l, (.slice (some ⟨g, 0, none⟩) n c)] 46).alloc_ (.cells #[.int .i64 0, .int .i64 0, .int .i64 0, .slice none 0 0] 46)).later hb1)
    have SZ1 := Lib.hid (show SInv w1 (w.heap.size + 1) [.int .i64 0, .int .i64 0, .int .i64 0, .slice none 0 0] from by have h := (SInv.fresh (w.alloc (.cells #[.int .i64 d, .int .i64 f, .int .i64 l, (.slice (some ⟨g, 0, none⟩) n c)] 46)) #[.int .i64 0, .int .i64 0, .int .i64 0, .slice none 0 0] 46).later hb1; simpa using h)
    have HR1 := Lib.hid (((HR.out.alloc_ (.cells #[.int .i64 d, .int .i64 f, .int .i64 l, (.slice (some ⟨g, 0, none⟩) n c)] 46)).alloc_ (.cells #[.int .i64 0, .int .i64 0, .int .i64 0, .slice none 0 0] 46)).later hb1)
    have zz1 : w.heap.size + 2 ≤ w1.heap.size := by have := hb1.size; simp at this; omega
    clear hb1
    have b3 := SB1.out.cell 3 _ rfl
    go_wp2_with fail
    refine (HTi.out _).mono ?_
    rintro e w_ ⟨rfl, rfl⟩
    have z0 := SZ1.out.cell 0 _ rfl
    have z1 := SZ1.out.cell 1 _ rfl
    have z2 := SZ1.out.cell 2 _ rfl
    have z3 := SZ1.out.cell 3 _ rfl
    have zf := SZ1.out.free
    go_wp2_with fail
    refine bodyPost_ret (v := .tuple #[.agg #[.int .i64 0, .int .i64 0, .int .i64 0, .slice none 0 0], .int .i64 2]) (by simp [results, Try.results23, go_sem, *]) rfl ?_
    exact ⟨_, _, _, rfl, Row.nil_, by repeat (first | (with_reducible exact Below.refl _ _) | (with_reducible assumption) | ((with_reducible refine bl_alloc ?_ _ ?_); (focus ((first | omega | (simp <;> omega)); done))) | ((with_reducible refine bl_set ?_ _ ?_); (focus ((first | omega | (simp <;> omega)); done))) | (with_reducible refine below_drewN ?_ _) | (with_reducible refine Below.drew ?_) | ((with_reducible refine bl_trans ?_ H1.out ?_); (focus ((first | omega | (simp <;> omega)); done))))⟩
  rcases bool_tf (inB k (i + 1) ((hs.length : Int) - 1)) with hk | hk
  rotate_left
  · have h2 : ppIn hs i k = false := by simp [ppIn, hi, hk]
    obtain ⟨eb, e5⟩ := pp_2 hv h2
    obtain ⟨e1, e2, e3, e4⟩ := pp_zero eb
    rw [e1, e2, e3, e4, e5]
    clear e1 e2 e3 e4 e5
    have HE := Lib.hid hv
    clear hv eb h2
    obtain ⟨n, hn⟩ : ∃ n, n = hs.length := ⟨_, rfl⟩
    rw [← hn] at n2 n65 HR hi hk ⊢
    have HN := Lib.hid hn
    clear hn
    have hi_ := inB_out hi
    have j2 : IntKind.i64.wrap (i + 1) = i + 1 := by rw [IntKind.wrap_i64]; omega
    have HTi : Hid (∀ W : World, Calls Try.prog 60 #[.int .i64 i, .int .i64 0, .int .i64 ((n : Int) - 1)] W fun e w' => e = .returned (.bool true) ∧ W = w') := fun W => by have h := l00In_any W i 0 ((n : Int) - 1); rw [hi] at h; exact h
    have HTk : Hid (∀ W : World, Calls Try.prog 60 #[.int .i64 k, .int .i64 (i + 1), .int .i64 ((n : Int) - 1)] W fun e w' => e = .returned (.bool false) ∧ W = w') := fun W => by have h := l00In_any W k (i + 1) ((n : Int) - 1); rw [hk] at h; exact h
    clear hi hk
    have j1 : IntKind.i64.wrap ((n : Int) - 1) = (n : Int) - 1 := by rw [IntKind.wrap_i64]; omega
    go_enter Try.func23, Try.ntmps23
    go_wp2_with fail
    refine (l05Ok_any _ _ d f l _ hs p ((HR.out.alloc_ _).alloc_ _) (by simp [go_sem]) (by simp [go_sem]) (by simp [go_sem]) (by simp [go_sem])).mono ?_
    rintro e w1 ⟨he, kd, hw⟩
    have hb1 : Below ((w.alloc (.cells #[.int .i64 d, .int .i64 f, .int .i64 l, (.slice (some ⟨g, 0, none⟩) n c)] 46)).alloc (.cells #[.int .i64 0, .int .i64 0, .int .i64 0, .slice none 0 0] 46)).heap.size ((w.alloc (.cells #[.int .i64 d, .int .i64 f, .int .i64 l, (.slice (some ⟨g, 0, none⟩) n c)] 46)).alloc (.cells #[.int .i64 0, .int .i64 0, .int .i64 0, .slice none 0 0] 46)) w1 := by rw [hw]; exact below_drewN (Below.refl _ _) _
    clear hw
    rw [HE.out] at he
    subst he
    have H1 := Lib.hid (show Below w.heap.size w w1 by repeat (first | (with_reducible exact Below.refl _ _) | (with_reducible assumption) | ((with_reducible refine bl_alloc ?_ _ ?_); (focus ((first | omega | (simp <;> omega)); done))) | ((with_reducible refine bl_set ?_ _ ?_); (focus ((first | omega | (simp <;> omega)); done))) | (with_reducible refine below_drewN ?_ _) | (with_reducible refine Below.drew ?_) | ((with_reducible refine bl_trans ?_ hb1 ?_); (focus ((first | omega | (simp <;> omega)); done)))))
    have SB1 := Lib.hid (show SInv w1 w.heap.size [.int .i64 d, .int .i64 f, .int .i64 l, (.slice (some ⟨g, 0, none⟩) n c)] from ((SInv.fresh w #[.int .i64 d, .int .i64 f, .int .i64 l, (.slice (some ⟨g, 0, none⟩) n c)] 46).alloc_ (.cells #[.int .i64 0, .int .i64 0, .int .i64 0, .slice none 0 0] 46)).later hb1)
    have SZ1 := Lib.hid (show SInv w1 (w.heap.size + 1) [.int .i64 0, .int .i64 0, .int .i64 0, .slice none 0 0] from by have h := (SInv.fresh (w.alloc (.cells #[.int .i64 d, .int .i64 f, .int .i64 l, (.slice (some ⟨g, 0, none⟩) n c)] 46)) #[.int .i64 0, .int .i64 0, .int .i64 0, .slice none 0 0] 46).later hb1; simpa using h)
    have HR1 := Lib.hid (((HR.out.alloc_ (.cells #[.int .i64 d, .int .i64 f, .int .i64 l, (.slice (some ⟨g, 0, none⟩) n c)] 46)).alloc_ (.cells #[.int .i64 0, .int .i64 0, .int .i64 0, .slice none 0 0] 46)).later hb1)
    have zz1 : w.heap.size + 2 ≤ w1.heap.size := by have := hb1.size; simp at this; omega
    clear hb1
    have b3 := SB1.out.cell 3 _ rfl
    go_wp2_with fail
    refine (HTi.out _).mono ?_
    rintro e w_ ⟨rfl, rfl⟩
    go_wp2_with fail
    refine (HTk.out _).mono ?_
    rintro e w_ ⟨rfl, rfl⟩
    have z0 := SZ1.out.cell 0 _ rfl
    have z1 := SZ1.out.cell 1 _ rfl
    have z2 := SZ1.out.cell 2 _ rfl
    have z3 := SZ1.out.cell 3 _ rfl
    have zf := SZ1.out.free
    go_wp2_with fail
    refine bodyPost_ret (v := .tuple #[.agg #[.int .i64 0, .int .i64 0, .int .i64 0, .slice none 0 0], .int .i64 2]) (by simp [results, Try.results23, go_sem, *]) rfl ?_
    exact ⟨_, _, _, rfl, Row.nil_, by repeat (first | (with_reducible exact Below.refl _ _) | (with_reducible assumption) | ((with_reducible refine bl_alloc ?_ _ ?_); (focus ((first | omega | (simp <;> omega)); done))) | ((with_reducible refine bl_set ?_ _ ?_); (focus ((first | omega | (simp <;> omega)); done))) | (with_reducible refine below_drewN ?_ _) | (with_reducible refine Below.drew ?_) | ((with_reducible refine bl_trans ?_ H1.out ?_); (focus ((first | omega | (simp <;> omega)); done))))⟩
  have h2 : ppIn hs i k = true := by simp [ppIn, hi, hk]
  obtain ⟨i0, i1, i2⟩ := in_parts h2
  obtain ⟨iN, hiN⟩ : ∃ q : Nat, q = i.toNat := ⟨_, rfl⟩
  obtain ⟨kN, hkN⟩ : ∃ q : Nat, q = k.toNat := ⟨_, rfl⟩
  have eI : i = (iN : Int) := by omega
  have eK : k = (kN : Int) := by omega
  have HP6 := Lib.hid (fun h => pp_6 (i := i) (k := k) hv h2 h)
  have HP0 := Lib.hid (fun h => pp_0 (i := i) (k := k) hv h2 h)
  rw [← hiN, ← hkN] at HP6 HP0
  have HPT : Hid (∀ W : World, Row 2 W p (.slice (some ⟨g, 0, none⟩) hs.length c) hs → W.cell? ⟨w.heap.size, 0, none⟩ = some (.int .i64 d) → W.cell? ⟨w.heap.size, 1, none⟩ = some (.int .i64 f) → W.cell? ⟨w.heap.size, 2, none⟩ = some (.int .i64 l) → W.cell? ⟨w.heap.size, 3, none⟩ = some (.slice (some ⟨g, 0, none⟩) hs.length c) → Calls Try.prog 61 #[.pointer (some ⟨w.heap.size, 0, none⟩), .int .i64 i, .int .i64 k] W fun e w' => ∃ A m c', e = .returned (.agg #[.int .i64 (partD d hs iN kN), .int .i64 (partF f hs iN), .int .i64 (partL l hs kN), .slice A m c']) ∧ Row 2 w' W.heap.size (.slice A m c') (partH hs iN kN) ∧ Below W.heap.size W w') := fun W hW q0 q1 q2 q3 => by
    rw [eI, eK]
    exact l10Part_any W w.heap.size d f l g c hs p hW n2 n65 d0 d1 iN kN (by omega) (by omega) q0 q1 q2 q3
  obtain ⟨PD, hPD⟩ : ∃ x, x = partD d hs iN kN := ⟨_, rfl⟩
  obtain ⟨PF, hPF⟩ : ∃ x, x = partF f hs iN := ⟨_, rfl⟩
  obtain ⟨PL, hPL⟩ : ∃ x, x = partL l hs kN := ⟨_, rfl⟩
  obtain ⟨PH, hPH⟩ : ∃ x, x = partH hs iN kN := ⟨_, rfl⟩
  rw [← hPD, ← hPF, ← hPL, ← hPH] at HP6 HP0
  rw [← hPD, ← hPF, ← hPL, ← hPH] at HPT
  clear hPD hPF hPL hPH hiN hkN eI eK h2
  rcases bool_tf (profB PD PF PL PH) with h3 | h3
  rotate_left
  · obtain ⟨eb, e5⟩ := HP6.out h3
    obtain ⟨e1, e2, e3, e4⟩ := pp_zero eb
    rw [e1, e2, e3, e4, e5]
    clear e1 e2 e3 e4 e5
    have HE := Lib.hid hv
    have HE3 := Lib.hid h3
    clear hv h3 HP6 HP0 eb
    obtain ⟨n, hn⟩ : ∃ n, n = hs.length := ⟨_, rfl⟩
    rw [← hn] at n2 n65 HR hi hk HPT i2 ⊢
    have HN := Lib.hid hn
    clear hn
    have j2 : IntKind.i64.wrap (i + 1) = i + 1 := by rw [IntKind.wrap_i64]; omega
    have HTi : Hid (∀ W : World, Calls Try.prog 60 #[.int .i64 i, .int .i64 0, .int .i64 ((n : Int) - 1)] W fun e w' => e = .returned (.bool true) ∧ W = w') := fun W => by have h := l00In_any W i 0 ((n : Int) - 1); rw [hi] at h; exact h
    have HTk : Hid (∀ W : World, Calls Try.prog 60 #[.int .i64 k, .int .i64 (i + 1), .int .i64 ((n : Int) - 1)] W fun e w' => e = .returned (.bool true) ∧ W = w') := fun W => by have h := l00In_any W k (i + 1) ((n : Int) - 1); rw [hk] at h; exact h
    clear hi hk
    have j1 : IntKind.i64.wrap ((n : Int) - 1) = (n : Int) - 1 := by rw [IntKind.wrap_i64]; omega
    go_enter Try.func23, Try.ntmps23
    go_wp2_with fail
    refine (l05Ok_any _ _ d f l _ hs p ((HR.out.alloc_ _).alloc_ _) (by simp [go_sem]) (by simp [go_sem]) (by simp [go_sem]) (by simp [go_sem])).mono ?_
    rintro e w1 ⟨he, kd, hw⟩
    have hb1 : Below ((w.alloc (.cells #[.int .i64 d, .int .i64 f, .int .i64 l, (.slice (some ⟨g, 0, none⟩) n c)] 46)).alloc (.cells #[.int .i64 0, .int .i64 0, .int .i64 0, .slice none 0 0] 46)).heap.size ((w.alloc (.cells #[.int .i64 d, .int .i64 f, .int .i64 l, (.slice (some ⟨g, 0, none⟩) n c)] 46)).alloc (.cells #[.int .i64 0, .int .i64 0, .int .i64 0, .slice none 0 0] 46)) w1 := by rw [hw]; exact below_drewN (Below.refl _ _) _
    clear hw
    rw [HE.out] at he
    subst he
    have H1 := Lib.hid (show Below w.heap.size w w1 by repeat (first | (with_reducible exact Below.refl _ _) | (with_reducible assumption) | ((with_reducible refine bl_alloc ?_ _ ?_); (focus ((first | omega | (simp <;> omega)); done))) | ((with_reducible refine bl_set ?_ _ ?_); (focus ((first | omega | (simp <;> omega)); done))) | (with_reducible refine below_drewN ?_ _) | (with_reducible refine Below.drew ?_) | ((with_reducible refine bl_trans ?_ hb1 ?_); (focus ((first | omega | (simp <;> omega)); done)))))
    have SB1 := Lib.hid (show SInv w1 w.heap.size [.int .i64 d, .int .i64 f, .int .i64 l, (.slice (some ⟨g, 0, none⟩) n c)] from ((SInv.fresh w #[.int .i64 d, .int .i64 f, .int .i64 l, (.slice (some ⟨g, 0, none⟩) n c)] 46).alloc_ (.cells #[.int .i64 0, .int .i64 0, .int .i64 0, .slice none 0 0] 46)).later hb1)
    have SZ1 := Lib.hid (show SInv w1 (w.heap.size + 1) [.int .i64 0, .int .i64 0, .int .i64 0, .slice none 0 0] from by have h := (SInv.fresh (w.alloc (.cells #[.int .i64 d, .int .i64 f, .int .i64 l, (.slice (some ⟨g, 0, none⟩) n c)] 46)) #[.int .i64 0, .int .i64 0, .int .i64 0, .slice none 0 0] 46).later hb1; simpa using h)
    have HR1 := Lib.hid (((HR.out.alloc_ (.cells #[.int .i64 d, .int .i64 f, .int .i64 l, (.slice (some ⟨g, 0, none⟩) n c)] 46)).alloc_ (.cells #[.int .i64 0, .int .i64 0, .int .i64 0, .slice none 0 0] 46)).later hb1)
    have zz1 : w.heap.size + 2 ≤ w1.heap.size := by have := hb1.size; simp at this; omega
    clear hb1
    have b3 := SB1.out.cell 3 _ rfl
    go_wp2_with fail
    refine (HTi.out _).mono ?_
    rintro e w_ ⟨rfl, rfl⟩
    go_wp2_with fail
    refine (HTk.out _).mono ?_
    rintro e w_ ⟨rfl, rfl⟩
    clear b3
    have b0 := SB1.out.cell 0 _ rfl
    have b1 := SB1.out.cell 1 _ rfl
    have b2 := SB1.out.cell 2 _ rfl
    have b3 := SB1.out.cell 3 _ rfl
    go_wp2_with fail
    refine (HPT.out _ HR1.out b0 b1 b2 b3).mono ?_
    rintro e w8 ⟨A, m, c', rfl, hp, hb8⟩
    have HP8 := Lib.hid hp
    have L8 := Lib.hid (show w1.heap.size ≤ w8.heap.size from hb8.size)
    have H8 := Lib.hid (H1.out.trans (hb8.mono H1.out.size))
    have SZ8 := Lib.hid (SZ1.out.later hb8)
    have zz8 : w.heap.size + 2 ≤ w8.heap.size := by have := hb8.size; omega
    clear hb8 hp b0 b1 b2 b3
    have hpr := Row.base_le (b' := w.heap.size + 2) HP8.out (by omega)
    have HPR := Lib.hid hpr
    clear hpr HP8
    have SP := Lib.hid (SInv.fresh w8 #[.int .i64 PD, .int .i64 PF, .int .i64 PL, .slice A m c'] 46)
    have b0 := SP.out.cell 0 _ rfl
    have b1 := SP.out.cell 1 _ rfl
    have b2 := SP.out.cell 2 _ rfl
    have b3 := SP.out.cell 3 _ rfl
    go_wp2_with fail
    refine (l05Ok_any _ _ PD PF PL _ PH _ (HPR.out.alloc_ _) b0 b1 b2 b3).mono ?_
    rintro e w9 ⟨he, kd, hw⟩
    have hb9 : Below (w8.alloc (.cells #[.int .i64 PD, .int .i64 PF, .int .i64 PL, .slice A m c'] 46)).heap.size (w8.alloc (.cells #[.int .i64 PD, .int .i64 PF, .int .i64 PL, .slice A m c'] 46)) w9 := by rw [hw]; exact below_drewN (Below.refl _ _) _
    clear hw
    rw [HE3.out] at he
    subst he
    have H9 := Lib.hid (show Below w.heap.size w w9 by repeat (first | (with_reducible exact Below.refl _ _) | (with_reducible assumption) | ((with_reducible refine bl_alloc ?_ _ ?_); (focus ((first | omega | (simp <;> omega)); done))) | ((with_reducible refine bl_set ?_ _ ?_); (focus ((first | omega | (simp <;> omega)); done))) | (with_reducible refine below_drewN ?_ _) | (with_reducible refine Below.drew ?_) | ((with_reducible refine bl_trans ?_ hb9 ?_); (focus ((first | omega | (simp <;> omega)); done))) | ((with_reducible refine bl_trans ?_ H8.out ?_); (focus ((first | omega | (simp <;> omega)); done)))))
    have SZ9 := Lib.hid ((SZ8.out.alloc_ (.cells #[.int .i64 PD, .int .i64 PF, .int .i64 PL, .slice A m c'] 46)).later hb9)
    have SP9 := Lib.hid (SP.out.later hb9)
    have HR9 := Lib.hid ((HPR.out.alloc_ (.cells #[.int .i64 PD, .int .i64 PF, .int .i64 PL, .slice A m c'] 46)).later hb9)
    clear hb9 b0 b1 b2 b3
    have z0 := SZ9.out.cell 0 _ rfl
    have z1 := SZ9.out.cell 1 _ rfl
    have z2 := SZ9.out.cell 2 _ rfl
    have z3 := SZ9.out.cell 3 _ rfl
    have zf := SZ9.out.free
    go_wp2_with fail
    refine bodyPost_ret (v := .tuple #[.agg #[.int .i64 0, .int .i64 0, .int .i64 0, .slice none 0 0], .int .i64 6]) (by simp [results, Try.results23, go_sem, *]) rfl ?_
    exact ⟨_, _, _, rfl, Row.nil_, by repeat (first | (with_reducible exact Below.refl _ _) | (with_reducible assumption) | ((with_reducible refine bl_alloc ?_ _ ?_); (focus ((first | omega | (simp <;> omega)); done))) | ((with_reducible refine bl_set ?_ _ ?_); (focus ((first | omega | (simp <;> omega)); done))) | (with_reducible refine below_drewN ?_ _) | (with_reducible refine Below.drew ?_) | ((with_reducible refine bl_trans ?_ H9.out ?_); (focus ((first | omega | (simp <;> omega)); done))))⟩
  obtain ⟨e1, e2, e3, e4, e5⟩ := HP0.out h3
  rw [e1, e2, e3, e4, e5]
  clear e1 e2 e3 e4 e5
  have HE := Lib.hid hv
  have HE3 := Lib.hid h3
  clear hv h3 HP6 HP0
  obtain ⟨n, hn⟩ : ∃ n, n = hs.length := ⟨_, rfl⟩
  rw [← hn] at n2 n65 HR hi hk HPT i2 ⊢
  have HN := Lib.hid hn
  clear hn
  have j2 : IntKind.i64.wrap (i + 1) = i + 1 := by rw [IntKind.wrap_i64]; omega
  have HTi : Hid (∀ W : World, Calls Try.prog 60 #[.int .i64 i, .int .i64 0, .int .i64 ((n : Int) - 1)] W fun e w' => e = .returned (.bool true) ∧ W = w') := fun W => by have h := l00In_any W i 0 ((n : Int) - 1); rw [hi] at h; exact h
  have HTk : Hid (∀ W : World, Calls Try.prog 60 #[.int .i64 k, .int .i64 (i + 1), .int .i64 ((n : Int) - 1)] W fun e w' => e = .returned (.bool true) ∧ W = w') := fun W => by have h := l00In_any W k (i + 1) ((n : Int) - 1); rw [hk] at h; exact h
  clear hi hk
  have j1 : IntKind.i64.wrap ((n : Int) - 1) = (n : Int) - 1 := by rw [IntKind.wrap_i64]; omega
  go_enter Try.func23, Try.ntmps23
  go_wp2_with fail
  refine (l05Ok_any _ _ d f l _ hs p ((HR.out.alloc_ _).alloc_ _) (by simp [go_sem]) (by simp [go_sem]) (by simp [go_sem]) (by simp [go_sem])).mono ?_
  rintro e w1 ⟨he, kd, hw⟩
  have hb1 : Below ((w.alloc (.cells #[.int .i64 d, .int .i64 f, .int .i64 l, (.slice (some ⟨g, 0, none⟩) n c)] 46)).alloc (.cells #[.int .i64 0, .int .i64 0, .int .i64 0, .slice none 0 0] 46)).heap.size ((w.alloc (.cells #[.int .i64 d, .int .i64 f, .int .i64 l, (.slice (some ⟨g, 0, none⟩) n c)] 46)).alloc (.cells #[.int .i64 0, .int .i64 0, .int .i64 0, .slice none 0 0] 46)) w1 := by rw [hw]; exact below_drewN (Below.refl _ _) _
  clear hw
  rw [HE.out] at he
  subst he
  have H1 := Lib.hid (show Below w.heap.size w w1 by repeat (first | (with_reducible exact Below.refl _ _) | (with_reducible assumption) | ((with_reducible refine bl_alloc ?_ _ ?_); (focus ((first | omega | (simp <;> omega)); done))) | ((with_reducible refine bl_set ?_ _ ?_); (focus ((first | omega | (simp <;> omega)); done))) | (with_reducible refine below_drewN ?_ _) | (with_reducible refine Below.drew ?_) | ((with_reducible refine bl_trans ?_ hb1 ?_); (focus ((first | omega | (simp <;> omega)); done)))))
  have SB1 := Lib.hid (show SInv w1 w.heap.size [.int .i64 d, .int .i64 f, .int .i64 l, (.slice (some ⟨g, 0, none⟩) n c)] from ((SInv.fresh w #[.int .i64 d, .int .i64 f, .int .i64 l, (.slice (some ⟨g, 0, none⟩) n c)] 46).alloc_ (.cells #[.int .i64 0, .int .i64 0, .int .i64 0, .slice none 0 0] 46)).later hb1)
  have SZ1 := Lib.hid (show SInv w1 (w.heap.size + 1) [.int .i64 0, .int .i64 0, .int .i64 0, .slice none 0 0] from by have h := (SInv.fresh (w.alloc (.cells #[.int .i64 d, .int .i64 f, .int .i64 l, (.slice (some ⟨g, 0, none⟩) n c)] 46)) #[.int .i64 0, .int .i64 0, .int .i64 0, .slice none 0 0] 46).later hb1; simpa using h)
  have HR1 := Lib.hid (((HR.out.alloc_ (.cells #[.int .i64 d, .int .i64 f, .int .i64 l, (.slice (some ⟨g, 0, none⟩) n c)] 46)).alloc_ (.cells #[.int .i64 0, .int .i64 0, .int .i64 0, .slice none 0 0] 46)).later hb1)
  have zz1 : w.heap.size + 2 ≤ w1.heap.size := by have := hb1.size; simp at this; omega
  clear hb1
  have b3 := SB1.out.cell 3 _ rfl
  go_wp2_with fail
  refine (HTi.out _).mono ?_
  rintro e w_ ⟨rfl, rfl⟩
  go_wp2_with fail
  refine (HTk.out _).mono ?_
  rintro e w_ ⟨rfl, rfl⟩
  clear b3
  have b0 := SB1.out.cell 0 _ rfl
  have b1 := SB1.out.cell 1 _ rfl
  have b2 := SB1.out.cell 2 _ rfl
  have b3 := SB1.out.cell 3 _ rfl
  go_wp2_with fail
  refine (HPT.out _ HR1.out b0 b1 b2 b3).mono ?_
  rintro e w8 ⟨A, m, c', rfl, hp, hb8⟩
  have HP8 := Lib.hid hp
  have L8 := Lib.hid (show w1.heap.size ≤ w8.heap.size from hb8.size)
  have H8 := Lib.hid (H1.out.trans (hb8.mono H1.out.size))
  have SZ8 := Lib.hid (SZ1.out.later hb8)
  have zz8 : w.heap.size + 2 ≤ w8.heap.size := by have := hb8.size; omega
  clear hb8 hp b0 b1 b2 b3
  have hpr := Row.base_le (b' := w.heap.size + 2) HP8.out (by omega)
  have HPR := Lib.hid hpr
  clear hpr HP8
  have SP := Lib.hid (SInv.fresh w8 #[.int .i64 PD, .int .i64 PF, .int .i64 PL, .slice A m c'] 46)
  have b0 := SP.out.cell 0 _ rfl
  have b1 := SP.out.cell 1 _ rfl
  have b2 := SP.out.cell 2 _ rfl
  have b3 := SP.out.cell 3 _ rfl
  go_wp2_with fail
  refine (l05Ok_any _ _ PD PF PL _ PH _ (HPR.out.alloc_ _) b0 b1 b2 b3).mono ?_
  rintro e w9 ⟨he, kd, hw⟩
  have hb9 : Below (w8.alloc (.cells #[.int .i64 PD, .int .i64 PF, .int .i64 PL, .slice A m c'] 46)).heap.size (w8.alloc (.cells #[.int .i64 PD, .int .i64 PF, .int .i64 PL, .slice A m c'] 46)) w9 := by rw [hw]; exact below_drewN (Below.refl _ _) _
  clear hw
  rw [HE3.out] at he
  subst he
  have H9 := Lib.hid (show Below w.heap.size w w9 by repeat (first | (with_reducible exact Below.refl _ _) | (with_reducible assumption) | ((with_reducible refine bl_alloc ?_ _ ?_); (focus ((first | omega | (simp <;> omega)); done))) | ((with_reducible refine bl_set ?_ _ ?_); (focus ((first | omega | (simp <;> omega)); done))) | (with_reducible refine below_drewN ?_ _) | (with_reducible refine Below.drew ?_) | ((with_reducible refine bl_trans ?_ hb9 ?_); (focus ((first | omega | (simp <;> omega)); done))) | ((with_reducible refine bl_trans ?_ H8.out ?_); (focus ((first | omega | (simp <;> omega)); done)))))
  have SZ9 := Lib.hid ((SZ8.out.alloc_ (.cells #[.int .i64 PD, .int .i64 PF, .int .i64 PL, .slice A m c'] 46)).later hb9)
  have SP9 := Lib.hid (SP.out.later hb9)
  have HR9 := Lib.hid ((HPR.out.alloc_ (.cells #[.int .i64 PD, .int .i64 PF, .int .i64 PL, .slice A m c'] 46)).later hb9)
  clear hb9 b0 b1 b2 b3
  have y0 := SP9.out.cell 0 _ rfl
  have y1 := SP9.out.cell 1 _ rfl
  have y2 := SP9.out.cell 2 _ rfl
  have y3 := SP9.out.cell 3 _ rfl
  have z0 := SZ9.out.cell 0 _ rfl
  have z1 := SZ9.out.cell 1 _ rfl
  have z2 := SZ9.out.cell 2 _ rfl
  have z3 := SZ9.out.cell 3 _ rfl
  have zf := SZ9.out.free
  go_wp2_with fail
  refine bodyPost_ret (v := .tuple #[.agg #[.int .i64 PD, .int .i64 PF, .int .i64 PL, .slice A m c'], .int .i64 0]) (by simp [results, Try.results23, go_sem, *]) rfl ?_
  refine ⟨_, _, _, rfl, ?_, by repeat (first | (with_reducible exact Below.refl _ _) | (with_reducible assumption) | ((with_reducible refine bl_alloc ?_ _ ?_); (focus ((first | omega | (simp <;> omega)); done))) | ((with_reducible refine bl_set ?_ _ ?_); (focus ((first | omega | (simp <;> omega)); done))) | (with_reducible refine below_drewN ?_ _) | (with_reducible refine Below.drew ?_) | ((with_reducible refine bl_trans ?_ H9.out ?_); (focus ((first | omega | (simp <;> omega)); done))))⟩
  refine Row.base_le (base := w.heap.size + 2) ?_ (by omega)
  repeat (first | (with_reducible exact HR9.out) | ((with_reducible refine Row.low ?_ _ ?_); (focus ((first | omega | (simp <;> omega)); done))))
set_option maxRecDepth 20000 in
set_option maxHeartbeats 8000000 in
theorem impl_any (w : World) (d : Int) (id_ : In64 d) (f : Int) (if_ : In64 f) (l : Int) (il : In64 l) (v : Value) (hs : List Int) (p : Nat) (hr : Row 2 w p v hs) (jhs : ∀ n ∈ hs, In64 n) (i : Int) (ii : In64 i) (k : Int) (ik : In64 k) :
    Calls Try.prog 25 #[.agg #[.int .i64 d, .int .i64 f, .int .i64 l, v], .int .i64 i, .int .i64 k] w fun e w' => ∃ A0 n0 c0, e = .returned (.tuple #[.agg #[.int .i64 (ppD d f l hs i k), .int .i64 (ppF d f l hs i k), .int .i64 (ppL d f l hs i k), .slice A0 n0 c0], .int .i64 (ppC d f l hs i k)]) ∧ Row 2 w' w.heap.size (.slice A0 n0 c0) (ppH d f l hs i k) ∧ Below w.heap.size w w' := by
  have HR := Lib.hid hr
  clear hr id_ if_ il jhs
  rcases bool_tf (profB d f l hs) with hv | hv
  rotate_left
  · obtain ⟨eb, e5⟩ := pp_1 (i := i) (k := k) hv
    obtain ⟨e1, e2, e3, e4⟩ := pp_zero eb
    rw [e1, e2, e3, e4, e5]
    clear e1 e2 e3 e4 e5
    have HE := Lib.hid hv
    clear hv eb
    go_enter Try.func25, Try.ntmps25
    go_wp2_with fail
    refine (ValidProfile_any _ d f l _ hs p ((HR.out.alloc_ _).alloc_ _)).mono ?_
    rintro e w1 ⟨he, hb1⟩
    rw [HE.out] at he
    subst he
    have H1 := Lib.hid (show Below w.heap.size w w1 by repeat (first | (with_reducible exact Below.refl _ _) | (with_reducible assumption) | ((with_reducible refine bl_alloc ?_ _ ?_); (focus ((first | omega | (simp <;> omega)); done))) | ((with_reducible refine bl_set ?_ _ ?_); (focus ((first | omega | (simp <;> omega)); done))) | (with_reducible refine below_drewN ?_ _) | (with_reducible refine Below.drew ?_) | ((with_reducible refine bl_trans ?_ hb1 ?_); (focus ((first | omega | (simp <;> omega)); done)))))
    have SB1 := Lib.hid (show SInv w1 w.heap.size [.int .i64 d, .int .i64 f, .int .i64 l, v] from ((SInv.fresh w #[.int .i64 d, .int .i64 f, .int .i64 l, v] 46).alloc_ (.cells #[.int .i64 0, .int .i64 0, .int .i64 0, .slice none 0 0] 46)).later hb1)
    have SZ1 := Lib.hid (show SInv w1 (w.heap.size + 1) [.int .i64 0, .int .i64 0, .int .i64 0, .slice none 0 0] from by have h := (SInv.fresh (w.alloc (.cells #[.int .i64 d, .int .i64 f, .int .i64 l, v] 46)) #[.int .i64 0, .int .i64 0, .int .i64 0, .slice none 0 0] 46).later hb1; simpa using h)
    have HR1 := Lib.hid (((HR.out.alloc_ (.cells #[.int .i64 d, .int .i64 f, .int .i64 l, v] 46)).alloc_ (.cells #[.int .i64 0, .int .i64 0, .int .i64 0, .slice none 0 0] 46)).later hb1)
    have zz1 : w.heap.size + 2 ≤ w1.heap.size := by have := hb1.size; simp at this; omega
    clear hb1
    have z0 := SZ1.out.cell 0 _ rfl
    have z1 := SZ1.out.cell 1 _ rfl
    have z2 := SZ1.out.cell 2 _ rfl
    have z3 := SZ1.out.cell 3 _ rfl
    have zf := SZ1.out.free
    go_wp2_with fail
    refine bodyPost_ret (v := .tuple #[.agg #[.int .i64 0, .int .i64 0, .int .i64 0, .slice none 0 0], .int .i64 1]) (by simp [results, Try.results25, go_sem, *]) rfl ?_
    exact ⟨_, _, _, rfl, Row.nil_, by repeat (first | (with_reducible exact Below.refl _ _) | (with_reducible assumption) | ((with_reducible refine bl_alloc ?_ _ ?_); (focus ((first | omega | (simp <;> omega)); done))) | ((with_reducible refine bl_set ?_ _ ?_); (focus ((first | omega | (simp <;> omega)); done))) | (with_reducible refine below_drewN ?_ _) | (with_reducible refine Below.drew ?_) | ((with_reducible refine bl_trans ?_ H1.out ?_); (focus ((first | omega | (simp <;> omega)); done))))⟩
  obtain ⟨⟨d0, d1⟩, _, _, ⟨n2, n65⟩, _⟩ := prof_parts hv
  rcases HR.out.forms with ⟨_, hz⟩ | ⟨g, c, rfl, _, lg, hc, _⟩
  · rw [hz] at n2; simp at n2
  clear hc
  rcases bool_tf (inB i 0 ((hs.length : Int) - 1)) with hi | hi
  rotate_left
  · have h2 : ppIn hs i k = false := by simp [ppIn, hi]
    obtain ⟨eb, e5⟩ := pp_2 hv h2
    obtain ⟨e1, e2, e3, e4⟩ := pp_zero eb
    rw [e1, e2, e3, e4, e5]
    clear e1 e2 e3 e4 e5
    have HE := Lib.hid hv
    clear hv eb h2
    obtain ⟨n, hn⟩ : ∃ n, n = hs.length := ⟨_, rfl⟩
    rw [← hn] at n2 n65 HR hi ⊢
    have HN := Lib.hid hn
    clear hn
    have HLA : Hid (∀ W : World, Calls Try.prog 64 #[.agg #[.int .i64 d, .int .i64 f, .int .i64 l, (.slice (some ⟨g, 0, none⟩) n c)]] W fun e w' => e = .returned (.int .i64 ((n : Int) - 1)) ∧ Below W.heap.size W w') := fun W => last_any W d f l _ n c (by omega)
    have HTi : Hid (∀ W : World, Calls Try.prog 63 #[.int .i64 i, .int .i64 0, .int .i64 ((n : Int) - 1)] W fun e w' => e = .returned (.bool false) ∧ W = w') := fun W => by have h := within_any W i 0 ((n : Int) - 1); rw [hi] at h; exact h
    clear hi
    have j1 : IntKind.i64.wrap ((n : Int) - 1) = (n : Int) - 1 := by rw [IntKind.wrap_i64]; omega
    go_enter Try.func25, Try.ntmps25
    go_wp2_with fail
    refine (ValidProfile_any _ d f l _ hs p ((HR.out.alloc_ _).alloc_ _)).mono ?_
    rintro e w1 ⟨he, hb1⟩
    rw [HE.out] at he
    subst he
    have H1 := Lib.hid (show Below w.heap.size w w1 by repeat (first | (with_reducible exact Below.refl _ _) | (with_reducible assumption) | ((with_reducible refine bl_alloc ?_ _ ?_); (focus ((first | omega | (simp <;> omega)); done))) | ((with_reducible refine bl_set ?_ _ ?_); (focus ((first | omega | (simp <;> omega)); done))) | (with_reducible refine below_drewN ?_ _) | (with_reducible refine Below.drew ?_) | ((with_reducible refine bl_trans ?_ hb1 ?_); (focus ((first | omega | (simp <;> omega)); done)))))
    have SB1 := Lib.hid (show SInv w1 w.heap.size [.int .i64 d, .int .i64 f, .int .i64 l, (.slice (some ⟨g, 0, none⟩) n c)] from ((SInv.fresh w #[.int .i64 d, .int .i64 f, .int .i64 l, (.slice (some ⟨g, 0, none⟩) n c)] 46).alloc_ (.cells #[.int .i64 0, .int .i64 0, .int .i64 0, .slice none 0 0] 46)).later hb1)
    have SZ1 := Lib.hid (show SInv w1 (w.heap.size + 1) [.int .i64 0, .int .i64 0, .int .i64 0, .slice none 0 0] from by have h := (SInv.fresh (w.alloc (.cells #[.int .i64 d, .int .i64 f, .int .i64 l, (.slice (some ⟨g, 0, none⟩) n c)] 46)) #[.int .i64 0, .int .i64 0, .int .i64 0, .slice none 0 0] 46).later hb1; simpa using h)
    have HR1 := Lib.hid (((HR.out.alloc_ (.cells #[.int .i64 d, .int .i64 f, .int .i64 l, (.slice (some ⟨g, 0, none⟩) n c)] 46)).alloc_ (.cells #[.int .i64 0, .int .i64 0, .int .i64 0, .slice none 0 0] 46)).later hb1)
    have zz1 : w.heap.size + 2 ≤ w1.heap.size := by have := hb1.size; simp at this; omega
    clear hb1
    have b0 := SB1.out.cell 0 _ rfl
    have b1 := SB1.out.cell 1 _ rfl
    have b2 := SB1.out.cell 2 _ rfl
    have b3 := SB1.out.cell 3 _ rfl
    go_wp2_with fail
    refine (HLA.out _).mono ?_
    rintro e w2 ⟨rfl, hb2⟩
    have H2 := Lib.hid (H1.out.trans (hb2.mono H1.out.size))
    have SB2 := Lib.hid (SB1.out.later hb2)
    have SZ2 := Lib.hid (SZ1.out.later hb2)
    have HR2 := Lib.hid (HR1.out.later hb2)
    have zz2 : w.heap.size + 2 ≤ w2.heap.size := by have := hb2.size; omega
    clear hb2
    clear b0 b1 b2 b3
    go_wp2_with fail
    refine (HTi.out _).mono ?_
    rintro e w_ ⟨rfl, rfl⟩
    have z0 := SZ2.out.cell 0 _ rfl
    have z1 := SZ2.out.cell 1 _ rfl
    have z2 := SZ2.out.cell 2 _ rfl
    have z3 := SZ2.out.cell 3 _ rfl
    have zf := SZ2.out.free
    go_wp2_with fail
    refine bodyPost_ret (v := .tuple #[.agg #[.int .i64 0, .int .i64 0, .int .i64 0, .slice none 0 0], .int .i64 2]) (by simp [results, Try.results25, go_sem, *]) rfl ?_
    exact ⟨_, _, _, rfl, Row.nil_, by repeat (first | (with_reducible exact Below.refl _ _) | (with_reducible assumption) | ((with_reducible refine bl_alloc ?_ _ ?_); (focus ((first | omega | (simp <;> omega)); done))) | ((with_reducible refine bl_set ?_ _ ?_); (focus ((first | omega | (simp <;> omega)); done))) | (with_reducible refine below_drewN ?_ _) | (with_reducible refine Below.drew ?_) | ((with_reducible refine bl_trans ?_ H2.out ?_); (focus ((first | omega | (simp <;> omega)); done))))⟩
  rcases bool_tf (inB k (i + 1) ((hs.length : Int) - 1)) with hk | hk
  rotate_left
  · have h2 : ppIn hs i k = false := by simp [ppIn, hi, hk]
    obtain ⟨eb, e5⟩ := pp_2 hv h2
    obtain ⟨e1, e2, e3, e4⟩ := pp_zero eb
    rw [e1, e2, e3, e4, e5]
    clear e1 e2 e3 e4 e5
    have HE := Lib.hid hv
    clear hv eb h2
    obtain ⟨n, hn⟩ : ∃ n, n = hs.length := ⟨_, rfl⟩
    rw [← hn] at n2 n65 HR hi hk ⊢
    have HN := Lib.hid hn
    clear hn
    have HLA : Hid (∀ W : World, Calls Try.prog 64 #[.agg #[.int .i64 d, .int .i64 f, .int .i64 l, (.slice (some ⟨g, 0, none⟩) n c)]] W fun e w' => e = .returned (.int .i64 ((n : Int) - 1)) ∧ Below W.heap.size W w') := fun W => last_any W d f l _ n c (by omega)
    have hi_ := inB_out hi
    have j2 : IntKind.i64.wrap (i + 1) = i + 1 := by rw [IntKind.wrap_i64]; omega
    have HTi : Hid (∀ W : World, Calls Try.prog 63 #[.int .i64 i, .int .i64 0, .int .i64 ((n : Int) - 1)] W fun e w' => e = .returned (.bool true) ∧ W = w') := fun W => by have h := within_any W i 0 ((n : Int) - 1); rw [hi] at h; exact h
    have HTk : Hid (∀ W : World, Calls Try.prog 63 #[.int .i64 k, .int .i64 (i + 1), .int .i64 ((n : Int) - 1)] W fun e w' => e = .returned (.bool false) ∧ W = w') := fun W => by have h := within_any W k (i + 1) ((n : Int) - 1); rw [hk] at h; exact h
    clear hi hk
    have j1 : IntKind.i64.wrap ((n : Int) - 1) = (n : Int) - 1 := by rw [IntKind.wrap_i64]; omega
    go_enter Try.func25, Try.ntmps25
    go_wp2_with fail
    refine (ValidProfile_any _ d f l _ hs p ((HR.out.alloc_ _).alloc_ _)).mono ?_
    rintro e w1 ⟨he, hb1⟩
    rw [HE.out] at he
    subst he
    have H1 := Lib.hid (show Below w.heap.size w w1 by repeat (first | (with_reducible exact Below.refl _ _) | (with_reducible assumption) | ((with_reducible refine bl_alloc ?_ _ ?_); (focus ((first | omega | (simp <;> omega)); done))) | ((with_reducible refine bl_set ?_ _ ?_); (focus ((first | omega | (simp <;> omega)); done))) | (with_reducible refine below_drewN ?_ _) | (with_reducible refine Below.drew ?_) | ((with_reducible refine bl_trans ?_ hb1 ?_); (focus ((first | omega | (simp <;> omega)); done)))))
    have SB1 := Lib.hid (show SInv w1 w.heap.size [.int .i64 d, .int .i64 f, .int .i64 l, (.slice (some ⟨g, 0, none⟩) n c)] from ((SInv.fresh w #[.int .i64 d, .int .i64 f, .int .i64 l, (.slice (some ⟨g, 0, none⟩) n c)] 46).alloc_ (.cells #[.int .i64 0, .int .i64 0, .int .i64 0, .slice none 0 0] 46)).later hb1)
    have SZ1 := Lib.hid (show SInv w1 (w.heap.size + 1) [.int .i64 0, .int .i64 0, .int .i64 0, .slice none 0 0] from by have h := (SInv.fresh (w.alloc (.cells #[.int .i64 d, .int .i64 f, .int .i64 l, (.slice (some ⟨g, 0, none⟩) n c)] 46)) #[.int .i64 0, .int .i64 0, .int .i64 0, .slice none 0 0] 46).later hb1; simpa using h)
    have HR1 := Lib.hid (((HR.out.alloc_ (.cells #[.int .i64 d, .int .i64 f, .int .i64 l, (.slice (some ⟨g, 0, none⟩) n c)] 46)).alloc_ (.cells #[.int .i64 0, .int .i64 0, .int .i64 0, .slice none 0 0] 46)).later hb1)
    have zz1 : w.heap.size + 2 ≤ w1.heap.size := by have := hb1.size; simp at this; omega
    clear hb1
    have b0 := SB1.out.cell 0 _ rfl
    have b1 := SB1.out.cell 1 _ rfl
    have b2 := SB1.out.cell 2 _ rfl
    have b3 := SB1.out.cell 3 _ rfl
    go_wp2_with fail
    refine (HLA.out _).mono ?_
    rintro e w2 ⟨rfl, hb2⟩
    have H2 := Lib.hid (H1.out.trans (hb2.mono H1.out.size))
    have SB2 := Lib.hid (SB1.out.later hb2)
    have SZ2 := Lib.hid (SZ1.out.later hb2)
    have HR2 := Lib.hid (HR1.out.later hb2)
    have zz2 : w.heap.size + 2 ≤ w2.heap.size := by have := hb2.size; omega
    clear hb2
    clear b0 b1 b2 b3
    go_wp2_with fail
    refine (HTi.out _).mono ?_
    rintro e w_ ⟨rfl, rfl⟩
    have b0 := SB2.out.cell 0 _ rfl
    have b1 := SB2.out.cell 1 _ rfl
    have b2 := SB2.out.cell 2 _ rfl
    have b3 := SB2.out.cell 3 _ rfl
    go_wp2_with fail
    refine (HLA.out _).mono ?_
    rintro e w3 ⟨rfl, hb3⟩
    have H3 := Lib.hid (H2.out.trans (hb3.mono H2.out.size))
    have SB3 := Lib.hid (SB2.out.later hb3)
    have SZ3 := Lib.hid (SZ2.out.later hb3)
    have HR3 := Lib.hid (HR2.out.later hb3)
    have zz3 : w.heap.size + 2 ≤ w3.heap.size := by have := hb3.size; omega
    clear hb3
    clear b0 b1 b2 b3
    go_wp2_with fail
    refine (HTk.out _).mono ?_
    rintro e w_ ⟨rfl, rfl⟩
    have z0 := SZ3.out.cell 0 _ rfl
    have z1 := SZ3.out.cell 1 _ rfl
    have z2 := SZ3.out.cell 2 _ rfl
    have z3 := SZ3.out.cell 3 _ rfl
    have zf := SZ3.out.free
    go_wp2_with fail
    refine bodyPost_ret (v := .tuple #[.agg #[.int .i64 0, .int .i64 0, .int .i64 0, .slice none 0 0], .int .i64 2]) (by simp [results, Try.results25, go_sem, *]) rfl ?_
    exact ⟨_, _, _, rfl, Row.nil_, by repeat (first | (with_reducible exact Below.refl _ _) | (with_reducible assumption) | ((with_reducible refine bl_alloc ?_ _ ?_); (focus ((first | omega | (simp <;> omega)); done))) | ((with_reducible refine bl_set ?_ _ ?_); (focus ((first | omega | (simp <;> omega)); done))) | (with_reducible refine below_drewN ?_ _) | (with_reducible refine Below.drew ?_) | ((with_reducible refine bl_trans ?_ H3.out ?_); (focus ((first | omega | (simp <;> omega)); done))))⟩
  have h2 : ppIn hs i k = true := by simp [ppIn, hi, hk]
  obtain ⟨i0, i1, i2⟩ := in_parts h2
  obtain ⟨iN, hiN⟩ : ∃ q : Nat, q = i.toNat := ⟨_, rfl⟩
  obtain ⟨kN, hkN⟩ : ∃ q : Nat, q = k.toNat := ⟨_, rfl⟩
  have eI : i = (iN : Int) := by omega
  have eK : k = (kN : Int) := by omega
  have HP6 := Lib.hid (fun h => pp_6 (i := i) (k := k) hv h2 h)
  have HP0 := Lib.hid (fun h => pp_0 (i := i) (k := k) hv h2 h)
  rw [← hiN, ← hkN] at HP6 HP0
  have HPT : Hid (∀ W : World, Row 2 W p (.slice (some ⟨g, 0, none⟩) hs.length c) hs → Calls Try.prog 65 #[.agg #[.int .i64 d, .int .i64 f, .int .i64 l, .slice (some ⟨g, 0, none⟩) hs.length c], .int .i64 i, .int .i64 k] W fun e w' => ∃ A m c', e = .returned (.agg #[.int .i64 (partD d hs iN kN), .int .i64 (partF f hs iN), .int .i64 (partL l hs kN), .slice A m c']) ∧ Row 2 w' W.heap.size (.slice A m c') (partH hs iN kN) ∧ Below W.heap.size W w') := fun W hW => by
    rw [eI, eK]
    exact part_any W d f l g c hs p hW n2 n65 d0 d1 iN kN (by omega) (by omega)
  obtain ⟨PD, hPD⟩ : ∃ x, x = partD d hs iN kN := ⟨_, rfl⟩
  obtain ⟨PF, hPF⟩ : ∃ x, x = partF f hs iN := ⟨_, rfl⟩
  obtain ⟨PL, hPL⟩ : ∃ x, x = partL l hs kN := ⟨_, rfl⟩
  obtain ⟨PH, hPH⟩ : ∃ x, x = partH hs iN kN := ⟨_, rfl⟩
  rw [← hPD, ← hPF, ← hPL, ← hPH] at HP6 HP0
  rw [← hPD, ← hPF, ← hPL, ← hPH] at HPT
  clear hPD hPF hPL hPH hiN hkN eI eK h2
  rcases bool_tf (profB PD PF PL PH) with h3 | h3
  rotate_left
  · obtain ⟨eb, e5⟩ := HP6.out h3
    obtain ⟨e1, e2, e3, e4⟩ := pp_zero eb
    rw [e1, e2, e3, e4, e5]
    clear e1 e2 e3 e4 e5
    have HE := Lib.hid hv
    have HE3 := Lib.hid h3
    clear hv h3 HP6 HP0 eb
    obtain ⟨n, hn⟩ : ∃ n, n = hs.length := ⟨_, rfl⟩
    rw [← hn] at n2 n65 HR hi hk HPT i2 ⊢
    have HN := Lib.hid hn
    clear hn
    have HLA : Hid (∀ W : World, Calls Try.prog 64 #[.agg #[.int .i64 d, .int .i64 f, .int .i64 l, (.slice (some ⟨g, 0, none⟩) n c)]] W fun e w' => e = .returned (.int .i64 ((n : Int) - 1)) ∧ Below W.heap.size W w') := fun W => last_any W d f l _ n c (by omega)
    have j2 : IntKind.i64.wrap (i + 1) = i + 1 := by rw [IntKind.wrap_i64]; omega
    have HTi : Hid (∀ W : World, Calls Try.prog 63 #[.int .i64 i, .int .i64 0, .int .i64 ((n : Int) - 1)] W fun e w' => e = .returned (.bool true) ∧ W = w') := fun W => by have h := within_any W i 0 ((n : Int) - 1); rw [hi] at h; exact h
    have HTk : Hid (∀ W : World, Calls Try.prog 63 #[.int .i64 k, .int .i64 (i + 1), .int .i64 ((n : Int) - 1)] W fun e w' => e = .returned (.bool true) ∧ W = w') := fun W => by have h := within_any W k (i + 1) ((n : Int) - 1); rw [hk] at h; exact h
    clear hi hk
    have j1 : IntKind.i64.wrap ((n : Int) - 1) = (n : Int) - 1 := by rw [IntKind.wrap_i64]; omega
    go_enter Try.func25, Try.ntmps25
    go_wp2_with fail
    refine (ValidProfile_any _ d f l _ hs p ((HR.out.alloc_ _).alloc_ _)).mono ?_
    rintro e w1 ⟨he, hb1⟩
    rw [HE.out] at he
    subst he
    have H1 := Lib.hid (show Below w.heap.size w w1 by repeat (first | (with_reducible exact Below.refl _ _) | (with_reducible assumption) | ((with_reducible refine bl_alloc ?_ _ ?_); (focus ((first | omega | (simp <;> omega)); done))) | ((with_reducible refine bl_set ?_ _ ?_); (focus ((first | omega | (simp <;> omega)); done))) | (with_reducible refine below_drewN ?_ _) | (with_reducible refine Below.drew ?_) | ((with_reducible refine bl_trans ?_ hb1 ?_); (focus ((first | omega | (simp <;> omega)); done)))))
    have SB1 := Lib.hid (show SInv w1 w.heap.size [.int .i64 d, .int .i64 f, .int .i64 l, (.slice (some ⟨g, 0, none⟩) n c)] from ((SInv.fresh w #[.int .i64 d, .int .i64 f, .int .i64 l, (.slice (some ⟨g, 0, none⟩) n c)] 46).alloc_ (.cells #[.int .i64 0, .int .i64 0, .int .i64 0, .slice none 0 0] 46)).later hb1)
    have SZ1 := Lib.hid (show SInv w1 (w.heap.size + 1) [.int .i64 0, .int .i64 0, .int .i64 0, .slice none 0 0] from by have h := (SInv.fresh (w.alloc (.cells #[.int .i64 d, .int .i64 f, .int .i64 l, (.slice (some ⟨g, 0, none⟩) n c)] 46)) #[.int .i64 0, .int .i64 0, .int .i64 0, .slice none 0 0] 46).later hb1; simpa using h)
    have HR1 := Lib.hid (((HR.out.alloc_ (.cells #[.int .i64 d, .int .i64 f, .int .i64 l, (.slice (some ⟨g, 0, none⟩) n c)] 46)).alloc_ (.cells #[.int .i64 0, .int .i64 0, .int .i64 0, .slice none 0 0] 46)).later hb1)
    have zz1 : w.heap.size + 2 ≤ w1.heap.size := by have := hb1.size; simp at this; omega
    clear hb1
    have b0 := SB1.out.cell 0 _ rfl
    have b1 := SB1.out.cell 1 _ rfl
    have b2 := SB1.out.cell 2 _ rfl
    have b3 := SB1.out.cell 3 _ rfl
    go_wp2_with fail
    refine (HLA.out _).mono ?_
    rintro e w2 ⟨rfl, hb2⟩
    have H2 := Lib.hid (H1.out.trans (hb2.mono H1.out.size))
    have SB2 := Lib.hid (SB1.out.later hb2)
    have SZ2 := Lib.hid (SZ1.out.later hb2)
    have HR2 := Lib.hid (HR1.out.later hb2)
    have zz2 : w.heap.size + 2 ≤ w2.heap.size := by have := hb2.size; omega
    clear hb2
    clear b0 b1 b2 b3
    go_wp2_with fail
    refine (HTi.out _).mono ?_
    rintro e w_ ⟨rfl, rfl⟩
    have b0 := SB2.out.cell 0 _ rfl
    have b1 := SB2.out.cell 1 _ rfl
    have b2 := SB2.out.cell 2 _ rfl
    have b3 := SB2.out.cell 3 _ rfl
    go_wp2_with fail
    refine (HLA.out _).mono ?_
    rintro e w3 ⟨rfl, hb3⟩
    have H3 := Lib.hid (H2.out.trans (hb3.mono H2.out.size))
    have SB3 := Lib.hid (SB2.out.later hb3)
    have SZ3 := Lib.hid (SZ2.out.later hb3)
    have HR3 := Lib.hid (HR2.out.later hb3)
    have zz3 : w.heap.size + 2 ≤ w3.heap.size := by have := hb3.size; omega
    clear hb3
    clear b0 b1 b2 b3
    go_wp2_with fail
    refine (HTk.out _).mono ?_
    rintro e w_ ⟨rfl, rfl⟩
    have b0 := SB3.out.cell 0 _ rfl
    have b1 := SB3.out.cell 1 _ rfl
    have b2 := SB3.out.cell 2 _ rfl
    have b3 := SB3.out.cell 3 _ rfl
    go_wp2_with fail
    refine (HPT.out _ HR3.out).mono ?_
    rintro e w8 ⟨A, m, c', rfl, hp, hb8⟩
    have HP8 := Lib.hid hp
    have L8 := Lib.hid (show w3.heap.size ≤ w8.heap.size from hb8.size)
    have H8 := Lib.hid (H3.out.trans (hb8.mono H3.out.size))
    have SZ8 := Lib.hid (SZ3.out.later hb8)
    have zz8 : w.heap.size + 2 ≤ w8.heap.size := by have := hb8.size; omega
    clear hb8 hp b0 b1 b2 b3
    have hpr := Row.base_le (b' := w.heap.size + 2) HP8.out (by omega)
    have HPR := Lib.hid hpr
    clear hpr HP8
    have SP := Lib.hid (SInv.fresh w8 #[.int .i64 PD, .int .i64 PF, .int .i64 PL, .slice A m c'] 46)
    have b0 := SP.out.cell 0 _ rfl
    have b1 := SP.out.cell 1 _ rfl
    have b2 := SP.out.cell 2 _ rfl
    have b3 := SP.out.cell 3 _ rfl
    go_wp2_with fail
    refine (ValidProfile_any _ PD PF PL _ PH _ (HPR.out.alloc_ _)).mono ?_
    rintro e w9 ⟨he, hb9⟩
    rw [HE3.out] at he
    subst he
    have H9 := Lib.hid (show Below w.heap.size w w9 by repeat (first | (with_reducible exact Below.refl _ _) | (with_reducible assumption) | ((with_reducible refine bl_alloc ?_ _ ?_); (focus ((first | omega | (simp <;> omega)); done))) | ((with_reducible refine bl_set ?_ _ ?_); (focus ((first | omega | (simp <;> omega)); done))) | (with_reducible refine below_drewN ?_ _) | (with_reducible refine Below.drew ?_) | ((with_reducible refine bl_trans ?_ hb9 ?_); (focus ((first | omega | (simp <;> omega)); done))) | ((with_reducible refine bl_trans ?_ H8.out ?_); (focus ((first | omega | (simp <;> omega)); done)))))
    have SZ9 := Lib.hid ((SZ8.out.alloc_ (.cells #[.int .i64 PD, .int .i64 PF, .int .i64 PL, .slice A m c'] 46)).later hb9)
    have SP9 := Lib.hid (SP.out.later hb9)
    have HR9 := Lib.hid ((HPR.out.alloc_ (.cells #[.int .i64 PD, .int .i64 PF, .int .i64 PL, .slice A m c'] 46)).later hb9)
    clear hb9 b0 b1 b2 b3
    have z0 := SZ9.out.cell 0 _ rfl
    have z1 := SZ9.out.cell 1 _ rfl
    have z2 := SZ9.out.cell 2 _ rfl
    have z3 := SZ9.out.cell 3 _ rfl
    have zf := SZ9.out.free
    go_wp2_with fail
    refine bodyPost_ret (v := .tuple #[.agg #[.int .i64 0, .int .i64 0, .int .i64 0, .slice none 0 0], .int .i64 6]) (by simp [results, Try.results25, go_sem, *]) rfl ?_
    exact ⟨_, _, _, rfl, Row.nil_, by repeat (first | (with_reducible exact Below.refl _ _) | (with_reducible assumption) | ((with_reducible refine bl_alloc ?_ _ ?_); (focus ((first | omega | (simp <;> omega)); done))) | ((with_reducible refine bl_set ?_ _ ?_); (focus ((first | omega | (simp <;> omega)); done))) | (with_reducible refine below_drewN ?_ _) | (with_reducible refine Below.drew ?_) | ((with_reducible refine bl_trans ?_ H9.out ?_); (focus ((first | omega | (simp <;> omega)); done))))⟩
  obtain ⟨e1, e2, e3, e4, e5⟩ := HP0.out h3
  rw [e1, e2, e3, e4, e5]
  clear e1 e2 e3 e4 e5
  have HE := Lib.hid hv
  have HE3 := Lib.hid h3
  clear hv h3 HP6 HP0
  obtain ⟨n, hn⟩ : ∃ n, n = hs.length := ⟨_, rfl⟩
  rw [← hn] at n2 n65 HR hi hk HPT i2 ⊢
  have HN := Lib.hid hn
  clear hn
  have HLA : Hid (∀ W : World, Calls Try.prog 64 #[.agg #[.int .i64 d, .int .i64 f, .int .i64 l, (.slice (some ⟨g, 0, none⟩) n c)]] W fun e w' => e = .returned (.int .i64 ((n : Int) - 1)) ∧ Below W.heap.size W w') := fun W => last_any W d f l _ n c (by omega)
  have j2 : IntKind.i64.wrap (i + 1) = i + 1 := by rw [IntKind.wrap_i64]; omega
  have HTi : Hid (∀ W : World, Calls Try.prog 63 #[.int .i64 i, .int .i64 0, .int .i64 ((n : Int) - 1)] W fun e w' => e = .returned (.bool true) ∧ W = w') := fun W => by have h := within_any W i 0 ((n : Int) - 1); rw [hi] at h; exact h
  have HTk : Hid (∀ W : World, Calls Try.prog 63 #[.int .i64 k, .int .i64 (i + 1), .int .i64 ((n : Int) - 1)] W fun e w' => e = .returned (.bool true) ∧ W = w') := fun W => by have h := within_any W k (i + 1) ((n : Int) - 1); rw [hk] at h; exact h
  clear hi hk
  have j1 : IntKind.i64.wrap ((n : Int) - 1) = (n : Int) - 1 := by rw [IntKind.wrap_i64]; omega
  go_enter Try.func25, Try.ntmps25
  go_wp2_with fail
  refine (ValidProfile_any _ d f l _ hs p ((HR.out.alloc_ _).alloc_ _)).mono ?_
  rintro e w1 ⟨he, hb1⟩
  rw [HE.out] at he
  subst he
  have H1 := Lib.hid (show Below w.heap.size w w1 by repeat (first | (with_reducible exact Below.refl _ _) | (with_reducible assumption) | ((with_reducible refine bl_alloc ?_ _ ?_); (focus ((first | omega | (simp <;> omega)); done))) | ((with_reducible refine bl_set ?_ _ ?_); (focus ((first | omega | (simp <;> omega)); done))) | (with_reducible refine below_drewN ?_ _) | (with_reducible refine Below.drew ?_) | ((with_reducible refine bl_trans ?_ hb1 ?_); (focus ((first | omega | (simp <;> omega)); done)))))
  have SB1 := Lib.hid (show SInv w1 w.heap.size [.int .i64 d, .int .i64 f, .int .i64 l, (.slice (some ⟨g, 0, none⟩) n c)] from ((SInv.fresh w #[.int .i64 d, .int .i64 f, .int .i64 l, (.slice (some ⟨g, 0, none⟩) n c)] 46).alloc_ (.cells #[.int .i64 0, .int .i64 0, .int .i64 0, .slice none 0 0] 46)).later hb1)
  have SZ1 := Lib.hid (show SInv w1 (w.heap.size + 1) [.int .i64 0, .int .i64 0, .int .i64 0, .slice none 0 0] from by have h := (SInv.fresh (w.alloc (.cells #[.int .i64 d, .int .i64 f, .int .i64 l, (.slice (some ⟨g, 0, none⟩) n c)] 46)) #[.int .i64 0, .int .i64 0, .int .i64 0, .slice none 0 0] 46).later hb1; simpa using h)
  have HR1 := Lib.hid (((HR.out.alloc_ (.cells #[.int .i64 d, .int .i64 f, .int .i64 l, (.slice (some ⟨g, 0, none⟩) n c)] 46)).alloc_ (.cells #[.int .i64 0, .int .i64 0, .int .i64 0, .slice none 0 0] 46)).later hb1)
  have zz1 : w.heap.size + 2 ≤ w1.heap.size := by have := hb1.size; simp at this; omega
  clear hb1
  have b0 := SB1.out.cell 0 _ rfl
  have b1 := SB1.out.cell 1 _ rfl
  have b2 := SB1.out.cell 2 _ rfl
  have b3 := SB1.out.cell 3 _ rfl
  go_wp2_with fail
  refine (HLA.out _).mono ?_
  rintro e w2 ⟨rfl, hb2⟩
  have H2 := Lib.hid (H1.out.trans (hb2.mono H1.out.size))
  have SB2 := Lib.hid (SB1.out.later hb2)
  have SZ2 := Lib.hid (SZ1.out.later hb2)
  have HR2 := Lib.hid (HR1.out.later hb2)
  have zz2 : w.heap.size + 2 ≤ w2.heap.size := by have := hb2.size; omega
  clear hb2
  clear b0 b1 b2 b3
  go_wp2_with fail
  refine (HTi.out _).mono ?_
  rintro e w_ ⟨rfl, rfl⟩
  have b0 := SB2.out.cell 0 _ rfl
  have b1 := SB2.out.cell 1 _ rfl
  have b2 := SB2.out.cell 2 _ rfl
  have b3 := SB2.out.cell 3 _ rfl
  go_wp2_with fail
  refine (HLA.out _).mono ?_
  rintro e w3 ⟨rfl, hb3⟩
  have H3 := Lib.hid (H2.out.trans (hb3.mono H2.out.size))
  have SB3 := Lib.hid (SB2.out.later hb3)
  have SZ3 := Lib.hid (SZ2.out.later hb3)
  have HR3 := Lib.hid (HR2.out.later hb3)
  have zz3 : w.heap.size + 2 ≤ w3.heap.size := by have := hb3.size; omega
  clear hb3
  clear b0 b1 b2 b3
  go_wp2_with fail
  refine (HTk.out _).mono ?_
  rintro e w_ ⟨rfl, rfl⟩
  have b0 := SB3.out.cell 0 _ rfl
  have b1 := SB3.out.cell 1 _ rfl
  have b2 := SB3.out.cell 2 _ rfl
  have b3 := SB3.out.cell 3 _ rfl
  go_wp2_with fail
  refine (HPT.out _ HR3.out).mono ?_
  rintro e w8 ⟨A, m, c', rfl, hp, hb8⟩
  have HP8 := Lib.hid hp
  have L8 := Lib.hid (show w3.heap.size ≤ w8.heap.size from hb8.size)
  have H8 := Lib.hid (H3.out.trans (hb8.mono H3.out.size))
  have SZ8 := Lib.hid (SZ3.out.later hb8)
  have zz8 : w.heap.size + 2 ≤ w8.heap.size := by have := hb8.size; omega
  clear hb8 hp b0 b1 b2 b3
  have hpr := Row.base_le (b' := w.heap.size + 2) HP8.out (by omega)
  have HPR := Lib.hid hpr
  clear hpr HP8
  have SP := Lib.hid (SInv.fresh w8 #[.int .i64 PD, .int .i64 PF, .int .i64 PL, .slice A m c'] 46)
  have b0 := SP.out.cell 0 _ rfl
  have b1 := SP.out.cell 1 _ rfl
  have b2 := SP.out.cell 2 _ rfl
  have b3 := SP.out.cell 3 _ rfl
  go_wp2_with fail
  refine (ValidProfile_any _ PD PF PL _ PH _ (HPR.out.alloc_ _)).mono ?_
  rintro e w9 ⟨he, hb9⟩
  rw [HE3.out] at he
  subst he
  have H9 := Lib.hid (show Below w.heap.size w w9 by repeat (first | (with_reducible exact Below.refl _ _) | (with_reducible assumption) | ((with_reducible refine bl_alloc ?_ _ ?_); (focus ((first | omega | (simp <;> omega)); done))) | ((with_reducible refine bl_set ?_ _ ?_); (focus ((first | omega | (simp <;> omega)); done))) | (with_reducible refine below_drewN ?_ _) | (with_reducible refine Below.drew ?_) | ((with_reducible refine bl_trans ?_ hb9 ?_); (focus ((first | omega | (simp <;> omega)); done))) | ((with_reducible refine bl_trans ?_ H8.out ?_); (focus ((first | omega | (simp <;> omega)); done)))))
  have SZ9 := Lib.hid ((SZ8.out.alloc_ (.cells #[.int .i64 PD, .int .i64 PF, .int .i64 PL, .slice A m c'] 46)).later hb9)
  have SP9 := Lib.hid (SP.out.later hb9)
  have HR9 := Lib.hid ((HPR.out.alloc_ (.cells #[.int .i64 PD, .int .i64 PF, .int .i64 PL, .slice A m c'] 46)).later hb9)
  clear hb9 b0 b1 b2 b3
  have y0 := SP9.out.cell 0 _ rfl
  have y1 := SP9.out.cell 1 _ rfl
  have y2 := SP9.out.cell 2 _ rfl
  have y3 := SP9.out.cell 3 _ rfl
  have z0 := SZ9.out.cell 0 _ rfl
  have z1 := SZ9.out.cell 1 _ rfl
  have z2 := SZ9.out.cell 2 _ rfl
  have z3 := SZ9.out.cell 3 _ rfl
  have zf := SZ9.out.free
  go_wp2_with fail
  refine bodyPost_ret (v := .tuple #[.agg #[.int .i64 PD, .int .i64 PF, .int .i64 PL, .slice A m c'], .int .i64 0]) (by simp [results, Try.results25, go_sem, *]) rfl ?_
  refine ⟨_, _, _, rfl, ?_, by repeat (first | (with_reducible exact Below.refl _ _) | (with_reducible assumption) | ((with_reducible refine bl_alloc ?_ _ ?_); (focus ((first | omega | (simp <;> omega)); done))) | ((with_reducible refine bl_set ?_ _ ?_); (focus ((first | omega | (simp <;> omega)); done))) | (with_reducible refine below_drewN ?_ _) | (with_reducible refine Below.drew ?_) | ((with_reducible refine bl_trans ?_ H9.out ?_); (focus ((first | omega | (simp <;> omega)); done))))⟩
  refine Row.base_le (base := w.heap.size + 2) ?_ (by omega)
  repeat (first | (with_reducible exact HR9.out) | ((with_reducible refine Row.low ?_ _ ?_); (focus ((first | omega | (simp <;> omega)); done))))
set_option maxRecDepth 20000 in
set_option maxHeartbeats 4000000 in
theorem walk (w : World) (a0_0 : Int) (ia0_0 : In64 a0_0) (a0_1 : Int) (ia0_1 : In64 a0_1) (a0_2 : Int) (ia0_2 : In64 a0_2) (v0_3 : Value) (x0_3 : List Int) (r0_3 : Rd w w.heap.size v0_3 x0_3) (ix0_3 : ∀ n ∈ x0_3, In64 n) (a1 : Int) (ia1 : In64 a1) (a2 : Int) (ia2 : In64 a2) :
    Calls Try.prog 5 #[.agg #[.int .i64 a0_0, .int .i64 a0_1, .int .i64 a0_2, v0_3], .int .i64 a1, .int .i64 a2] w fun e w' => e = .returned (.bool true) ∧ Below w.heap.size w w' := by
  have hml := pp_len a0_0 a0_1 a0_2 x0_3 a1 a2
  by_cases hs0 : ¬ (x0_3.length : Int) ≤ 1048576
  · go_enter Try.func5, Try.ntmps5
    go_wp2_with fail
    refine (szProfile_not a0_0 a0_1 a0_2 _ x0_3 _ w.heap.size (by first | omega | (simp <;> omega)) (Rd.below r0_3 (by repeat (first | (with_reducible exact Below.refl _ _) | (with_reducible assumption) | ((with_reducible refine bl_alloc ?_ _ ?_); (focus ((first | omega | (simp <;> omega)); done))) | ((with_reducible refine bl_set ?_ _ ?_); (focus ((first | omega | (simp <;> omega)); done))) | (with_reducible refine below_drewN ?_ _) | (with_reducible refine Below.drew ?_))))  _ (by omega) (by omega) (by omega)).mono ?_
    rintro e w1 ⟨rfl, hb⟩
    have zz1 : w.heap.size + 1 ≤ w1.heap.size := (by have := hb.size; ((try simp at this) <;> omega))
    have H1 := Lib.hid (show Below w.heap.size w w1 by repeat (first | (with_reducible exact Below.refl _ _) | (with_reducible assumption) | ((with_reducible refine bl_alloc ?_ _ ?_); (focus ((first | omega | (simp <;> omega)); done))) | ((with_reducible refine bl_set ?_ _ ?_); (focus ((first | omega | (simp <;> omega)); done))) | (with_reducible refine below_drewN ?_ _) | (with_reducible refine Below.drew ?_) | ((with_reducible refine bl_trans ?_ hb ?_); (focus ((first | omega | (simp <;> omega)); done)))))
    have f0_0_1 := keeps hb (p := ⟨w.heap.size, 0, none⟩) (v := .int .i64 a0_0) (by simp [go_sem])
    have f0_1_1 := keeps hb (p := ⟨w.heap.size, 1, none⟩) (v := .int .i64 a0_1) (by simp [go_sem])
    have f0_2_1 := keeps hb (p := ⟨w.heap.size, 2, none⟩) (v := .int .i64 a0_2) (by simp [go_sem])
    have f0_3_1 := keeps hb (p := ⟨w.heap.size, 3, none⟩) (v := v0_3) (by simp [go_sem])
    have g0_1 : w.heap.size < w1.heap.size := block_of_cell f0_0_1
    clear hb
    go_wp2_with fail
    go_ret
    exact ⟨rfl, (by repeat (first | (with_reducible exact Below.refl _ _) | (with_reducible assumption) | ((with_reducible refine bl_alloc ?_ _ ?_); (focus ((first | omega | (simp <;> omega)); done))) | ((with_reducible refine bl_set ?_ _ ?_); (focus ((first | omega | (simp <;> omega)); done))) | (with_reducible refine below_drewN ?_ _) | (with_reducible refine Below.drew ?_) | ((with_reducible refine bl_trans ?_ H1.out ?_); (focus ((first | omega | (simp <;> omega)); done)))))⟩
  have hs0' : (x0_3.length : Int) ≤ 1048576 := by omega
  clear hs0
  go_enter Try.func5, Try.ntmps5
  go_wp2_with fail
  refine (szProfile_fits a0_0 a0_1 a0_2 _ x0_3 _ w.heap.size (by first | omega | (simp <;> omega)) (Rd.below r0_3 (by repeat (first | (with_reducible exact Below.refl _ _) | (with_reducible assumption) | ((with_reducible refine bl_alloc ?_ _ ?_); (focus ((first | omega | (simp <;> omega)); done))) | ((with_reducible refine bl_set ?_ _ ?_); (focus ((first | omega | (simp <;> omega)); done))) | (with_reducible refine below_drewN ?_ _) | (with_reducible refine Below.drew ?_))))  _ (by omega) (by omega)).mono ?_
  rintro e w1 ⟨rfl, hb⟩
  have zz1 : w.heap.size + 1 ≤ w1.heap.size := (by have := hb.size; ((try simp at this) <;> omega))
  have H1 := Lib.hid (show Below w.heap.size w w1 by repeat (first | (with_reducible exact Below.refl _ _) | (with_reducible assumption) | ((with_reducible refine bl_alloc ?_ _ ?_); (focus ((first | omega | (simp <;> omega)); done))) | ((with_reducible refine bl_set ?_ _ ?_); (focus ((first | omega | (simp <;> omega)); done))) | (with_reducible refine below_drewN ?_ _) | (with_reducible refine Below.drew ?_) | ((with_reducible refine bl_trans ?_ hb ?_); (focus ((first | omega | (simp <;> omega)); done)))))
  have f0_0_1 := keeps hb (p := ⟨w.heap.size, 0, none⟩) (v := .int .i64 a0_0) (by simp [go_sem])
  have f0_1_1 := keeps hb (p := ⟨w.heap.size, 1, none⟩) (v := .int .i64 a0_1) (by simp [go_sem])
  have f0_2_1 := keeps hb (p := ⟨w.heap.size, 2, none⟩) (v := .int .i64 a0_2) (by simp [go_sem])
  have f0_3_1 := keeps hb (p := ⟨w.heap.size, 3, none⟩) (v := v0_3) (by simp [go_sem])
  have g0_1 : w.heap.size < w1.heap.size := block_of_cell f0_0_1
  clear hb
  go_wp2_with fail
  refine (toProfile_any a0_0 a0_1 a0_2 v0_3 x0_3 _ w.heap.size (by first | omega | (simp <;> omega)) (Rd.below r0_3 (by repeat (first | (with_reducible exact Below.refl _ _) | (with_reducible assumption) | ((with_reducible refine bl_alloc ?_ _ ?_); (focus ((first | omega | (simp <;> omega)); done))) | ((with_reducible refine bl_set ?_ _ ?_); (focus ((first | omega | (simp <;> omega)); done))) | (with_reducible refine below_drewN ?_ _) | (with_reducible refine Below.drew ?_) | ((with_reducible refine bl_trans ?_ H1.out ?_); (focus ((first | omega | (simp <;> omega)); done)))))) (by omega)).mono ?_
  rintro e w2 ⟨A0, n0, c0, rfl, hr0, hb⟩
  have zz2 : w1.heap.size ≤ w2.heap.size := (by have := hb.size; ((try simp at this) <;> omega))
  have H2 := Lib.hid (show Below w.heap.size w w2 by repeat (first | (with_reducible exact Below.refl _ _) | (with_reducible assumption) | ((with_reducible refine bl_alloc ?_ _ ?_); (focus ((first | omega | (simp <;> omega)); done))) | ((with_reducible refine bl_set ?_ _ ?_); (focus ((first | omega | (simp <;> omega)); done))) | (with_reducible refine below_drewN ?_ _) | (with_reducible refine Below.drew ?_) | ((with_reducible refine bl_trans ?_ hb ?_); (focus ((first | omega | (simp <;> omega)); done))) | ((with_reducible refine bl_trans ?_ H1.out ?_); (focus ((first | omega | (simp <;> omega)); done)))))
  have f0_0_2 := keeps hb f0_0_1
  have f0_1_2 := keeps hb f0_1_1
  have f0_2_2 := keeps hb f0_2_1
  have f0_3_2 := keeps hb f0_3_1
  have g0_2 : w.heap.size < w2.heap.size := block_of_cell f0_0_2
  have R0_2 := Lib.hid hr0
  have RL0 := Lib.hid (show ∀ g, Value.ownBlock (.slice A0 n0 c0) = some g → w1.heap.size ≤ g ∧ g < w2.heap.size from fun g h => by have l1 := hr0.lt g h; ((try simp at l1) <;> omega))
  clear hb f0_0_1 f0_1_1 f0_2_1 f0_3_1 g0_1 hr0 H1
  go_wp2_with fail
  refine (spec_any _ a0_0 ia0_0 a0_1 ia0_1 a0_2 ia0_2 _ x0_3 _ R0_2.out ix0_3 a1 ia1 a2 ia2).mono ?_
  rintro e w3 ⟨A1, n1, c1, rfl, hr1, hb⟩
  have zz3 : w2.heap.size ≤ w3.heap.size := (by have := hb.size; ((try simp at this) <;> omega))
  have H3 := Lib.hid (show Below w.heap.size w w3 by repeat (first | (with_reducible exact Below.refl _ _) | (with_reducible assumption) | ((with_reducible refine bl_alloc ?_ _ ?_); (focus ((first | omega | (simp <;> omega)); done))) | ((with_reducible refine bl_set ?_ _ ?_); (focus ((first | omega | (simp <;> omega)); done))) | (with_reducible refine below_drewN ?_ _) | (with_reducible refine Below.drew ?_) | ((with_reducible refine bl_trans ?_ hb ?_); (focus ((first | omega | (simp <;> omega)); done))) | ((with_reducible refine bl_trans ?_ H2.out ?_); (focus ((first | omega | (simp <;> omega)); done)))))
  have f0_0_3 := keeps hb f0_0_2
  have f0_1_3 := keeps hb f0_1_2
  have f0_2_3 := keeps hb f0_2_2
  have f0_3_3 := keeps hb f0_3_2
  have g0_3 : w.heap.size < w3.heap.size := block_of_cell f0_0_3
  have R1_3 := Lib.hid hr1
  have RL1 := Lib.hid (show ∀ g, Value.ownBlock (.slice A1 n1 c1) = some g → w2.heap.size ≤ g ∧ g < w3.heap.size from fun g h => by have l1 := hr1.lt g h; ((try simp at l1) <;> omega))
  clear hb f0_0_2 f0_1_2 f0_2_2 f0_3_2 g0_2 R0_2 hr1 H2
  go_wp2_with fail
  refine (toProfile_any a0_0 a0_1 a0_2 v0_3 x0_3 _ w.heap.size (by first | omega | (simp <;> omega)) (Rd.below r0_3 (by repeat (first | (with_reducible exact Below.refl _ _) | (with_reducible assumption) | ((with_reducible refine bl_alloc ?_ _ ?_); (focus ((first | omega | (simp <;> omega)); done))) | ((with_reducible refine bl_set ?_ _ ?_); (focus ((first | omega | (simp <;> omega)); done))) | (with_reducible refine below_drewN ?_ _) | (with_reducible refine Below.drew ?_) | ((with_reducible refine bl_trans ?_ H3.out ?_); (focus ((first | omega | (simp <;> omega)); done)))))) (by omega)).mono ?_
  rintro e w4 ⟨A2, n2, c2, rfl, hr2, hb⟩
  have zz4 : w3.heap.size + 1 ≤ w4.heap.size := (by have := hb.size; ((try simp at this) <;> omega))
  have H4 := Lib.hid (show Below w.heap.size w w4 by repeat (first | (with_reducible exact Below.refl _ _) | (with_reducible assumption) | ((with_reducible refine bl_alloc ?_ _ ?_); (focus ((first | omega | (simp <;> omega)); done))) | ((with_reducible refine bl_set ?_ _ ?_); (focus ((first | omega | (simp <;> omega)); done))) | (with_reducible refine below_drewN ?_ _) | (with_reducible refine Below.drew ?_) | ((with_reducible refine bl_trans ?_ hb ?_); (focus ((first | omega | (simp <;> omega)); done))) | ((with_reducible refine bl_trans ?_ H3.out ?_); (focus ((first | omega | (simp <;> omega)); done)))))
  have f0_0_4 := keeps hb (cell_alloc f0_0_3 _)
  have f0_1_4 := keeps hb (cell_alloc f0_1_3 _)
  have f0_2_4 := keeps hb (cell_alloc f0_2_3 _)
  have f0_3_4 := keeps hb (cell_alloc f0_3_3 _)
  have g0_4 : w.heap.size < w4.heap.size := block_of_cell f0_0_4
  have f1_0_4 := keeps hb (p := ⟨w3.heap.size, 0, none⟩) (v := .int .i64 ((ppD a0_0 a0_1 a0_2 x0_3 a1 a2))) (by simp [go_sem])
  have f1_1_4 := keeps hb (p := ⟨w3.heap.size, 1, none⟩) (v := .int .i64 ((ppF a0_0 a0_1 a0_2 x0_3 a1 a2))) (by simp [go_sem])
  have f1_2_4 := keeps hb (p := ⟨w3.heap.size, 2, none⟩) (v := .int .i64 ((ppL a0_0 a0_1 a0_2 x0_3 a1 a2))) (by simp [go_sem])
  have f1_3_4 := keeps hb (p := ⟨w3.heap.size, 3, none⟩) (v := (.slice A1 n1 c1)) (by simp [go_sem])
  have g1_4 : w3.heap.size < w4.heap.size := block_of_cell f1_0_4
  have R1_4 := Lib.hid (Row.later (R1_3.out.alloc_ _) hb)
  have R2_4 := Lib.hid hr2
  have RL2 := Lib.hid (show ∀ g, Value.ownBlock (.slice A2 n2 c2) = some g → w3.heap.size + 1 ≤ g ∧ g < w4.heap.size from fun g h => by have l1 := hr2.lt g h; ((try simp at l1) <;> omega))
  clear hb f0_0_3 f0_1_3 f0_2_3 f0_3_3 g0_3 R1_3 hr2 H3
  go_wp2_with fail
  refine (impl_any _ a0_0 ia0_0 a0_1 ia0_1 a0_2 ia0_2 _ x0_3 _ (R2_4.out.alloc_ _) ix0_3 a1 ia1 a2 ia2).mono ?_
  rintro e w5 ⟨A3, n3, c3, rfl, hr3, hb⟩
  have zz5 : w4.heap.size + 1 ≤ w5.heap.size := (by have := hb.size; ((try simp at this) <;> omega))
  have H5 := Lib.hid (show Below w.heap.size w w5 by repeat (first | (with_reducible exact Below.refl _ _) | (with_reducible assumption) | ((with_reducible refine bl_alloc ?_ _ ?_); (focus ((first | omega | (simp <;> omega)); done))) | ((with_reducible refine bl_set ?_ _ ?_); (focus ((first | omega | (simp <;> omega)); done))) | (with_reducible refine below_drewN ?_ _) | (with_reducible refine Below.drew ?_) | ((with_reducible refine bl_trans ?_ hb ?_); (focus ((first | omega | (simp <;> omega)); done))) | ((with_reducible refine bl_trans ?_ H4.out ?_); (focus ((first | omega | (simp <;> omega)); done)))))
  have f0_0_5 := keeps hb (cell_alloc f0_0_4 _)
  have f0_1_5 := keeps hb (cell_alloc f0_1_4 _)
  have f0_2_5 := keeps hb (cell_alloc f0_2_4 _)
  have f0_3_5 := keeps hb (cell_alloc f0_3_4 _)
  have g0_5 : w.heap.size < w5.heap.size := block_of_cell f0_0_5
  have f1_0_5 := keeps hb (cell_alloc f1_0_4 _)
  have f1_1_5 := keeps hb (cell_alloc f1_1_4 _)
  have f1_2_5 := keeps hb (cell_alloc f1_2_4 _)
  have f1_3_5 := keeps hb (cell_alloc f1_3_4 _)
  have g1_5 : w3.heap.size < w5.heap.size := block_of_cell f1_0_5
  have f2_0_5 := keeps hb (p := ⟨w4.heap.size, 0, none⟩) (v := .int .i64 a0_0) (by simp [go_sem])
  have f2_1_5 := keeps hb (p := ⟨w4.heap.size, 1, none⟩) (v := .int .i64 a0_1) (by simp [go_sem])
  have f2_2_5 := keeps hb (p := ⟨w4.heap.size, 2, none⟩) (v := .int .i64 a0_2) (by simp [go_sem])
  have f2_3_5 := keeps hb (p := ⟨w4.heap.size, 3, none⟩) (v := (.slice A2 n2 c2)) (by simp [go_sem])
  have g2_5 : w4.heap.size < w5.heap.size := block_of_cell f2_0_5
  have R1_5 := Lib.hid (Row.later (R1_4.out.alloc_ _) hb)
  have R2_5 := Lib.hid (Row.later (R2_4.out.alloc_ _) hb)
  have R3_5 := Lib.hid hr3
  have RL3 := Lib.hid (show ∀ g, Value.ownBlock (.slice A3 n3 c3) = some g → w4.heap.size + 1 ≤ g ∧ g < w5.heap.size from fun g h => by have l1 := hr3.lt g h; ((try simp at l1) <;> omega))
  clear hb f0_0_4 f0_1_4 f0_2_4 f0_3_4 g0_4 f1_0_4 f1_1_4 f1_2_4 f1_3_4 g1_4 R1_4 R2_4 hr3 H4
  go_wp2_with fail
  refine (eqProfile_any ((ppD a0_0 a0_1 a0_2 x0_3 a1 a2)) ((ppF a0_0 a0_1 a0_2 x0_3 a1 a2)) ((ppL a0_0 a0_1 a0_2 x0_3 a1 a2)) _ _ _ ((ppH a0_0 a0_1 a0_2 x0_3 a1 a2)) _ _ (R3_5.out.alloc_ _) (R1_5.out.alloc_ _)).mono ?_
  rintro e w6 ⟨rfl, hb⟩
  have zz6 : w5.heap.size + 1 ≤ w6.heap.size := (by have := hb.size; ((try simp at this) <;> omega))
  have H6 := Lib.hid (show Below w.heap.size w w6 by repeat (first | (with_reducible exact Below.refl _ _) | (with_reducible assumption) | ((with_reducible refine bl_alloc ?_ _ ?_); (focus ((first | omega | (simp <;> omega)); done))) | ((with_reducible refine bl_set ?_ _ ?_); (focus ((first | omega | (simp <;> omega)); done))) | (with_reducible refine below_drewN ?_ _) | (with_reducible refine Below.drew ?_) | ((with_reducible refine bl_trans ?_ hb ?_); (focus ((first | omega | (simp <;> omega)); done))) | ((with_reducible refine bl_trans ?_ H5.out ?_); (focus ((first | omega | (simp <;> omega)); done)))))
  have f0_0_6 := keeps hb (cell_alloc f0_0_5 _)
  have f0_1_6 := keeps hb (cell_alloc f0_1_5 _)
  have f0_2_6 := keeps hb (cell_alloc f0_2_5 _)
  have f0_3_6 := keeps hb (cell_alloc f0_3_5 _)
  have g0_6 : w.heap.size < w6.heap.size := block_of_cell f0_0_6
  have f1_0_6 := keeps hb (cell_alloc f1_0_5 _)
  have f1_1_6 := keeps hb (cell_alloc f1_1_5 _)
  have f1_2_6 := keeps hb (cell_alloc f1_2_5 _)
  have f1_3_6 := keeps hb (cell_alloc f1_3_5 _)
  have g1_6 : w3.heap.size < w6.heap.size := block_of_cell f1_0_6
  have f2_0_6 := keeps hb (cell_alloc f2_0_5 _)
  have f2_1_6 := keeps hb (cell_alloc f2_1_5 _)
  have f2_2_6 := keeps hb (cell_alloc f2_2_5 _)
  have f2_3_6 := keeps hb (cell_alloc f2_3_5 _)
  have g2_6 : w4.heap.size < w6.heap.size := block_of_cell f2_0_6
  have f3_0_6 := keeps hb (p := ⟨w5.heap.size, 0, none⟩) (v := .int .i64 ((ppD a0_0 a0_1 a0_2 x0_3 a1 a2))) (by simp [go_sem])
  have f3_1_6 := keeps hb (p := ⟨w5.heap.size, 1, none⟩) (v := .int .i64 ((ppF a0_0 a0_1 a0_2 x0_3 a1 a2))) (by simp [go_sem])
  have f3_2_6 := keeps hb (p := ⟨w5.heap.size, 2, none⟩) (v := .int .i64 ((ppL a0_0 a0_1 a0_2 x0_3 a1 a2))) (by simp [go_sem])
  have f3_3_6 := keeps hb (p := ⟨w5.heap.size, 3, none⟩) (v := (.slice A3 n3 c3)) (by simp [go_sem])
  have g3_6 : w5.heap.size < w6.heap.size := block_of_cell f3_0_6
  have R1_6 := Lib.hid (Row.later (R1_5.out.alloc_ _) hb)
  have R2_6 := Lib.hid (Row.later (R2_5.out.alloc_ _) hb)
  have R3_6 := Lib.hid (Row.later (R3_5.out.alloc_ _) hb)
  clear hb f0_0_5 f0_1_5 f0_2_5 f0_3_5 g0_5 f1_0_5 f1_1_5 f1_2_5 f1_3_5 g1_5 f2_0_5 f2_1_5 f2_2_5 f2_3_5 g2_5 R1_5 R2_5 R3_5 H5
  go_wp2_with fail
  go_region_held3 (fun w' => w'.cell? ⟨w4.heap.size, 0, none⟩ = some (.int .i64 a0_0) ∧ w'.cell? ⟨w4.heap.size, 1, none⟩ = some (.int .i64 a0_1) ∧ w'.cell? ⟨w4.heap.size, 2, none⟩ = some (.int .i64 a0_2) ∧ w'.cell? ⟨w4.heap.size, 3, none⟩ = some ((.slice A2 n2 c2)) ∧ w'.cell? ⟨w.heap.size, 0, none⟩ = some (.int .i64 a0_0) ∧ w'.cell? ⟨w.heap.size, 1, none⟩ = some (.int .i64 a0_1) ∧ w'.cell? ⟨w.heap.size, 2, none⟩ = some (.int .i64 a0_2) ∧ w'.cell? ⟨w.heap.size, 3, none⟩ = some (v0_3))
    (first | (refine ⟨?_, ?_, ?_, ?_, ?_, ?_, ?_, ?_⟩ <;> assumption) | (go_split_ands; (refine ⟨?_, ?_, ?_, ?_, ?_, ?_, ?_, ?_⟩ <;> first | assumption | (refine keeps hb ?_; assumption))))
    (first
      | (go_at_call 24; ((with_reducible refine (toProfile_any a0_0 a0_1 a0_2 v0_3 x0_3 _ w.heap.size (by first | omega | (simp <;> omega)) (Rd.below r0_3 (by repeat (first | (with_reducible exact Below.refl _ _) | (with_reducible assumption) | ((with_reducible refine bl_alloc ?_ _ ?_); (focus ((first | omega | (simp <;> omega)); done))) | ((with_reducible refine bl_set ?_ _ ?_); (focus ((first | omega | (simp <;> omega)); done))) | (with_reducible refine below_drewN ?_ _) | (with_reducible refine Below.drew ?_) | ((with_reducible refine bl_trans ?_ H6.out ?_); (focus ((first | omega | (simp <;> omega)); done)))))) (by omega)).mono ?_); rintro e w7 ⟨A4, n4, c4, rfl, hr4, hb⟩; have zz7 : w6.heap.size ≤ w7.heap.size := (by have := hb.size; ((try simp at this) <;> omega)); have H7 := Lib.hid (show Below w.heap.size w w7 by repeat (first | (with_reducible exact Below.refl _ _) | (with_reducible assumption) | ((with_reducible refine bl_alloc ?_ _ ?_); (focus ((first | omega | (simp <;> omega)); done))) | ((with_reducible refine bl_set ?_ _ ?_); (focus ((first | omega | (simp <;> omega)); done))) | (with_reducible refine below_drewN ?_ _) | (with_reducible refine Below.drew ?_) | ((with_reducible refine bl_trans ?_ hb ?_); (focus ((first | omega | (simp <;> omega)); done))) | ((with_reducible refine bl_trans ?_ H6.out ?_); (focus ((first | omega | (simp <;> omega)); done))))); have f0_0_7 := keeps1 hb f0_0_6; have f0_1_7 := keeps1 hb f0_1_6; have f0_2_7 := keeps1 hb f0_2_6; have f0_3_7 := keeps1 hb f0_3_6; have g0_7 : w.heap.size < w7.heap.size := block_of_cell f0_0_7; have f1_0_7 := keeps1 hb f1_0_6; have f1_1_7 := keeps1 hb f1_1_6; have f1_2_7 := keeps1 hb f1_2_6; have f1_3_7 := keeps1 hb f1_3_6; have g1_7 : w3.heap.size < w7.heap.size := block_of_cell f1_0_7; have f2_0_7 := keeps1 hb f2_0_6; have f2_1_7 := keeps1 hb f2_1_6; have f2_2_7 := keeps1 hb f2_2_6; have f2_3_7 := keeps1 hb f2_3_6; have g2_7 : w4.heap.size < w7.heap.size := block_of_cell f2_0_7; have f3_0_7 := keeps1 hb f3_0_6; have f3_1_7 := keeps1 hb f3_1_6; have f3_2_7 := keeps1 hb f3_2_6; have f3_3_7 := keeps1 hb f3_3_6; have g3_7 : w5.heap.size < w7.heap.size := block_of_cell f3_0_7; have R1_7 := Lib.hid (Row.later1 R1_6.out hb); have R2_7 := Lib.hid (Row.later1 R2_6.out hb); have R3_7 := Lib.hid (Row.later1 R3_6.out hb); have R4_7 := Lib.hid hr4; have RL4 := Lib.hid (show ∀ g, Value.ownBlock (.slice A4 n4 c4) = some g → w6.heap.size ≤ g ∧ g < w7.heap.size from fun g h => by have l1 := hr4.lt g h; ((try simp at l1) <;> omega)); clear f0_0_6 f0_1_6 f0_2_6 f0_3_6 g0_6 f1_0_6 f1_1_6 f1_2_6 f1_3_6 g1_6 f2_0_6 f2_1_6 f2_2_6 f2_3_6 g2_6 f3_0_6 f3_1_6 f3_2_6 f3_3_6 g3_6 R1_6 R2_6 R3_6 hr4 H6))
      | (go_at_call 26; ((with_reducible refine (eqProfile_any a0_0 a0_1 a0_2 _ _ _ (x0_3) _ _ R2_7.out R4_7.out).mono ?_); rintro e w8 ⟨rfl, hb⟩; have zz8 : w7.heap.size ≤ w8.heap.size := (by have := hb.size; ((try simp at this) <;> omega)); have H8 := Lib.hid (show Below w.heap.size w w8 by repeat (first | (with_reducible exact Below.refl _ _) | (with_reducible assumption) | ((with_reducible refine bl_alloc ?_ _ ?_); (focus ((first | omega | (simp <;> omega)); done))) | ((with_reducible refine bl_set ?_ _ ?_); (focus ((first | omega | (simp <;> omega)); done))) | (with_reducible refine below_drewN ?_ _) | (with_reducible refine Below.drew ?_) | ((with_reducible refine bl_trans ?_ hb ?_); (focus ((first | omega | (simp <;> omega)); done))) | ((with_reducible refine bl_trans ?_ H7.out ?_); (focus ((first | omega | (simp <;> omega)); done))))); have f0_0_8 := keeps hb f0_0_7; have f0_1_8 := keeps hb f0_1_7; have f0_2_8 := keeps hb f0_2_7; have f0_3_8 := keeps hb f0_3_7; have g0_8 : w.heap.size < w8.heap.size := block_of_cell f0_0_8; have f1_0_8 := keeps hb f1_0_7; have f1_1_8 := keeps hb f1_1_7; have f1_2_8 := keeps hb f1_2_7; have f1_3_8 := keeps hb f1_3_7; have g1_8 : w3.heap.size < w8.heap.size := block_of_cell f1_0_8; have f2_0_8 := keeps hb f2_0_7; have f2_1_8 := keeps hb f2_1_7; have f2_2_8 := keeps hb f2_2_7; have f2_3_8 := keeps hb f2_3_7; have g2_8 : w4.heap.size < w8.heap.size := block_of_cell f2_0_8; have f3_0_8 := keeps hb f3_0_7; have f3_1_8 := keeps hb f3_1_7; have f3_2_8 := keeps hb f3_2_7; have f3_3_8 := keeps hb f3_3_7; have g3_8 : w5.heap.size < w8.heap.size := block_of_cell f3_0_8; have R1_8 := Lib.hid (Row.later R1_7.out hb); have R2_8 := Lib.hid (Row.later R2_7.out hb); have R3_8 := Lib.hid (Row.later R3_7.out hb); clear f0_0_7 f0_1_7 f0_2_7 f0_3_7 g0_7 f1_0_7 f1_1_7 f1_2_7 f1_3_7 g1_7 f2_0_7 f2_1_7 f2_2_7 f2_3_7 g2_7 f3_0_7 f3_1_7 f3_2_7 f3_3_7 g3_7 R1_7 R2_7 R3_7 R4_7 H7)))
  go_wp2_with fail
  refine (markProfile_any a0_0 a0_1 a0_2 _ _ _ (x0_3) _ R2_8.out  (by omega) (by omega)).mono ?_
  rintro e w9 ⟨rfl, hr2, hb⟩
  have zz9 : w8.heap.size ≤ w9.heap.size := (by have := hb.size; ((try simp at this) <;> omega))
  have H9 := Lib.hid (show Below w.heap.size w w9 from Below.trans (by repeat (first | (with_reducible exact Below.refl _ _) | (with_reducible assumption) | ((with_reducible refine bl_alloc ?_ _ ?_); (focus ((first | omega | (simp <;> omega)); done))) | ((with_reducible refine bl_set ?_ _ ?_); (focus ((first | omega | (simp <;> omega)); done))) | (with_reducible refine below_drewN ?_ _) | (with_reducible refine Below.drew ?_) | ((with_reducible refine bl_trans ?_ H8.out ?_); (focus ((first | omega | (simp <;> omega)); done))))) (hb.below (by first | omega | (simp <;> omega)) (fun g hs => by have := (RL2.out g hs).1; omega)))
  have f0_0_9 := keepsW hb f0_0_8 (fun hs => by have := RL2.out _ hs; ((try simp at this) <;> omega))
  have f0_1_9 := keepsW hb f0_1_8 (fun hs => by have := RL2.out _ hs; ((try simp at this) <;> omega))
  have f0_2_9 := keepsW hb f0_2_8 (fun hs => by have := RL2.out _ hs; ((try simp at this) <;> omega))
  have f0_3_9 := keepsW hb f0_3_8 (fun hs => by have := RL2.out _ hs; ((try simp at this) <;> omega))
  have g0_9 : w.heap.size < w9.heap.size := block_of_cell f0_0_9
  have f1_0_9 := keepsW hb f1_0_8 (fun hs => by have := RL2.out _ hs; ((try simp at this) <;> omega))
  have f1_1_9 := keepsW hb f1_1_8 (fun hs => by have := RL2.out _ hs; ((try simp at this) <;> omega))
  have f1_2_9 := keepsW hb f1_2_8 (fun hs => by have := RL2.out _ hs; ((try simp at this) <;> omega))
  have f1_3_9 := keepsW hb f1_3_8 (fun hs => by have := RL2.out _ hs; ((try simp at this) <;> omega))
  have g1_9 : w3.heap.size < w9.heap.size := block_of_cell f1_0_9
  have f3_0_9 := keepsW hb f3_0_8 (fun hs => by have := RL2.out _ hs; ((try simp at this) <;> omega))
  have f3_1_9 := keepsW hb f3_1_8 (fun hs => by have := RL2.out _ hs; ((try simp at this) <;> omega))
  have f3_2_9 := keepsW hb f3_2_8 (fun hs => by have := RL2.out _ hs; ((try simp at this) <;> omega))
  have f3_3_9 := keepsW hb f3_3_8 (fun hs => by have := RL2.out _ hs; ((try simp at this) <;> omega))
  have g3_9 : w5.heap.size < w9.heap.size := block_of_cell f3_0_9
  have R1_9 := Lib.hid (Row.writes R1_8.out hb (fun g h hs => by have h1 := RL1.out g h; have h2 := RL2.out g hs; omega))
  have R3_9 := Lib.hid (Row.writes R3_8.out hb (fun g h hs => by have h1 := RL3.out g h; have h2 := RL2.out g hs; omega))
  have R2_9 := Lib.hid hr2
  clear hb f0_0_8 f0_1_8 f0_2_8 f0_3_8 g0_8 f1_0_8 f1_1_8 f1_2_8 f1_3_8 g1_8 f2_0_8 f2_1_8 f2_2_8 f2_3_8 g2_8 f3_0_8 f3_1_8 f3_2_8 f3_3_8 g3_8 R1_8 R3_8 R2_8 hr2 H8
  go_wp2_with fail
  refine (eqProfile_any ((ppD a0_0 a0_1 a0_2 x0_3 a1 a2)) ((ppF a0_0 a0_1 a0_2 x0_3 a1 a2)) ((ppL a0_0 a0_1 a0_2 x0_3 a1 a2)) _ _ _ ((ppH a0_0 a0_1 a0_2 x0_3 a1 a2)) _ _ R3_9.out R1_9.out).mono ?_
  rintro e w10 ⟨rfl, hb⟩
  have zz10 : w9.heap.size ≤ w10.heap.size := (by have := hb.size; ((try simp at this) <;> omega))
  have H10 := Lib.hid (show Below w.heap.size w w10 by repeat (first | (with_reducible exact Below.refl _ _) | (with_reducible assumption) | ((with_reducible refine bl_alloc ?_ _ ?_); (focus ((first | omega | (simp <;> omega)); done))) | ((with_reducible refine bl_set ?_ _ ?_); (focus ((first | omega | (simp <;> omega)); done))) | (with_reducible refine below_drewN ?_ _) | (with_reducible refine Below.drew ?_) | ((with_reducible refine bl_trans ?_ hb ?_); (focus ((first | omega | (simp <;> omega)); done))) | ((with_reducible refine bl_trans ?_ H9.out ?_); (focus ((first | omega | (simp <;> omega)); done)))))
  have f0_0_10 := keeps hb f0_0_9
  have f0_1_10 := keeps hb f0_1_9
  have f0_2_10 := keeps hb f0_2_9
  have f0_3_10 := keeps hb f0_3_9
  have g0_10 : w.heap.size < w10.heap.size := block_of_cell f0_0_10
  have f1_0_10 := keeps hb f1_0_9
  have f1_1_10 := keeps hb f1_1_9
  have f1_2_10 := keeps hb f1_2_9
  have f1_3_10 := keeps hb f1_3_9
  have g1_10 : w3.heap.size < w10.heap.size := block_of_cell f1_0_10
  have f3_0_10 := keeps hb f3_0_9
  have f3_1_10 := keeps hb f3_1_9
  have f3_2_10 := keeps hb f3_2_9
  have f3_3_10 := keeps hb f3_3_9
  have g3_10 : w5.heap.size < w10.heap.size := block_of_cell f3_0_10
  have R1_10 := Lib.hid (Row.later R1_9.out hb)
  have R3_10 := Lib.hid (Row.later R3_9.out hb)
  clear hb f0_0_9 f0_1_9 f0_2_9 f0_3_9 g0_9 f1_0_9 f1_1_9 f1_2_9 f1_3_9 g1_9 f3_0_9 f3_1_9 f3_2_9 f3_3_9 g3_9 R1_9 R2_9 R3_9 H9
  go_wp2_with fail
  refine (markProfile_any ((ppD a0_0 a0_1 a0_2 x0_3 a1 a2)) ((ppF a0_0 a0_1 a0_2 x0_3 a1 a2)) ((ppL a0_0 a0_1 a0_2 x0_3 a1 a2)) _ _ _ ((ppH a0_0 a0_1 a0_2 x0_3 a1 a2)) _ R3_10.out  (by omega) (by omega)).mono ?_
  rintro e w11 ⟨rfl, hr3, hb⟩
  have zz11 : w10.heap.size ≤ w11.heap.size := (by have := hb.size; ((try simp at this) <;> omega))
  have H11 := Lib.hid (show Below w.heap.size w w11 from Below.trans (by repeat (first | (with_reducible exact Below.refl _ _) | (with_reducible assumption) | ((with_reducible refine bl_alloc ?_ _ ?_); (focus ((first | omega | (simp <;> omega)); done))) | ((with_reducible refine bl_set ?_ _ ?_); (focus ((first | omega | (simp <;> omega)); done))) | (with_reducible refine below_drewN ?_ _) | (with_reducible refine Below.drew ?_) | ((with_reducible refine bl_trans ?_ H10.out ?_); (focus ((first | omega | (simp <;> omega)); done))))) (hb.below (by first | omega | (simp <;> omega)) (fun g hs => by have := (RL3.out g hs).1; omega)))
  have f0_0_11 := keepsW hb f0_0_10 (fun hs => by have := RL3.out _ hs; ((try simp at this) <;> omega))
  have f0_1_11 := keepsW hb f0_1_10 (fun hs => by have := RL3.out _ hs; ((try simp at this) <;> omega))
  have f0_2_11 := keepsW hb f0_2_10 (fun hs => by have := RL3.out _ hs; ((try simp at this) <;> omega))
  have f0_3_11 := keepsW hb f0_3_10 (fun hs => by have := RL3.out _ hs; ((try simp at this) <;> omega))
  have g0_11 : w.heap.size < w11.heap.size := block_of_cell f0_0_11
  have f1_0_11 := keepsW hb f1_0_10 (fun hs => by have := RL3.out _ hs; ((try simp at this) <;> omega))
  have f1_1_11 := keepsW hb f1_1_10 (fun hs => by have := RL3.out _ hs; ((try simp at this) <;> omega))
  have f1_2_11 := keepsW hb f1_2_10 (fun hs => by have := RL3.out _ hs; ((try simp at this) <;> omega))
  have f1_3_11 := keepsW hb f1_3_10 (fun hs => by have := RL3.out _ hs; ((try simp at this) <;> omega))
  have g1_11 : w3.heap.size < w11.heap.size := block_of_cell f1_0_11
  have f3_0_11 := keepsW hb f3_0_10 (fun hs => by have := RL3.out _ hs; ((try simp at this) <;> omega))
  have f3_1_11 := keepsW hb f3_1_10 (fun hs => by have := RL3.out _ hs; ((try simp at this) <;> omega))
  have f3_2_11 := keepsW hb f3_2_10 (fun hs => by have := RL3.out _ hs; ((try simp at this) <;> omega))
  have f3_3_11 := keepsW hb f3_3_10 (fun hs => by have := RL3.out _ hs; ((try simp at this) <;> omega))
  have g3_11 : w5.heap.size < w11.heap.size := block_of_cell f3_0_11
  have R1_11 := Lib.hid (Row.writes R1_10.out hb (fun g h hs => by have h1 := RL1.out g h; have h2 := RL3.out g hs; omega))
  have R3_11 := Lib.hid hr3
  clear hb f0_0_10 f0_1_10 f0_2_10 f0_3_10 g0_10 f1_0_10 f1_1_10 f1_2_10 f1_3_10 g1_10 f3_0_10 f3_1_10 f3_2_10 f3_3_10 g3_10 R1_10 R3_10 hr3 H10
  go_wp2_with fail
  refine (heldProfile_any ((ppD a0_0 a0_1 a0_2 x0_3 a1 a2)) ((ppF a0_0 a0_1 a0_2 x0_3 a1 a2)) ((ppL a0_0 a0_1 a0_2 x0_3 a1 a2)) _ _ _ _ _ R3_11.out (by omega) (by omega)).mono ?_
  rintro e w12 ⟨rfl, hb⟩
  have zz12 : w11.heap.size ≤ w12.heap.size := (by have := hb.size; ((try simp at this) <;> omega))
  have H12 := Lib.hid (show Below w.heap.size w w12 by repeat (first | (with_reducible exact Below.refl _ _) | (with_reducible assumption) | ((with_reducible refine bl_alloc ?_ _ ?_); (focus ((first | omega | (simp <;> omega)); done))) | ((with_reducible refine bl_set ?_ _ ?_); (focus ((first | omega | (simp <;> omega)); done))) | (with_reducible refine below_drewN ?_ _) | (with_reducible refine Below.drew ?_) | ((with_reducible refine bl_trans ?_ hb ?_); (focus ((first | omega | (simp <;> omega)); done))) | ((with_reducible refine bl_trans ?_ H11.out ?_); (focus ((first | omega | (simp <;> omega)); done)))))
  have f0_0_12 := keeps hb f0_0_11
  have f0_1_12 := keeps hb f0_1_11
  have f0_2_12 := keeps hb f0_2_11
  have f0_3_12 := keeps hb f0_3_11
  have g0_12 : w.heap.size < w12.heap.size := block_of_cell f0_0_12
  have f1_0_12 := keeps hb f1_0_11
  have f1_1_12 := keeps hb f1_1_11
  have f1_2_12 := keeps hb f1_2_11
  have f1_3_12 := keeps hb f1_3_11
  have g1_12 : w3.heap.size < w12.heap.size := block_of_cell f1_0_12
  have f3_0_12 := keeps hb f3_0_11
  have f3_1_12 := keeps hb f3_1_11
  have f3_2_12 := keeps hb f3_2_11
  have f3_3_12 := keeps hb f3_3_11
  have g3_12 : w5.heap.size < w12.heap.size := block_of_cell f3_0_12
  have R1_12 := Lib.hid (Row.later R1_11.out hb)
  have R3_12 := Lib.hid (Row.later R3_11.out hb)
  clear hb f0_0_11 f0_1_11 f0_2_11 f0_3_11 g0_11 f1_0_11 f1_1_11 f1_2_11 f1_3_11 g1_11 f3_0_11 f3_1_11 f3_2_11 f3_3_11 g3_11 R1_11 R3_11 H11
  go_wp2_with fail
  refine (toProfile_any a0_0 a0_1 a0_2 v0_3 x0_3 _ w.heap.size (by first | omega | (simp <;> omega)) (Rd.below r0_3 (by repeat (first | (with_reducible exact Below.refl _ _) | (with_reducible assumption) | ((with_reducible refine bl_alloc ?_ _ ?_); (focus ((first | omega | (simp <;> omega)); done))) | ((with_reducible refine bl_set ?_ _ ?_); (focus ((first | omega | (simp <;> omega)); done))) | (with_reducible refine below_drewN ?_ _) | (with_reducible refine Below.drew ?_) | ((with_reducible refine bl_trans ?_ H12.out ?_); (focus ((first | omega | (simp <;> omega)); done)))))) (by omega)).mono ?_
  rintro e w13 ⟨A5, n5, c5, rfl, hr5, hb⟩
  have zz13 : w12.heap.size ≤ w13.heap.size := (by have := hb.size; ((try simp at this) <;> omega))
  have H13 := Lib.hid (show Below w.heap.size w w13 by repeat (first | (with_reducible exact Below.refl _ _) | (with_reducible assumption) | ((with_reducible refine bl_alloc ?_ _ ?_); (focus ((first | omega | (simp <;> omega)); done))) | ((with_reducible refine bl_set ?_ _ ?_); (focus ((first | omega | (simp <;> omega)); done))) | (with_reducible refine below_drewN ?_ _) | (with_reducible refine Below.drew ?_) | ((with_reducible refine bl_trans ?_ hb ?_); (focus ((first | omega | (simp <;> omega)); done))) | ((with_reducible refine bl_trans ?_ H12.out ?_); (focus ((first | omega | (simp <;> omega)); done)))))
  have f1_0_13 := keeps hb f1_0_12
  have f1_1_13 := keeps hb f1_1_12
  have f1_2_13 := keeps hb f1_2_12
  have f1_3_13 := keeps hb f1_3_12
  have g1_13 : w3.heap.size < w13.heap.size := block_of_cell f1_0_13
  have f3_0_13 := keeps hb f3_0_12
  have f3_1_13 := keeps hb f3_1_12
  have f3_2_13 := keeps hb f3_2_12
  have f3_3_13 := keeps hb f3_3_12
  have g3_13 : w5.heap.size < w13.heap.size := block_of_cell f3_0_13
  have R1_13 := Lib.hid (Row.later R1_12.out hb)
  have R3_13 := Lib.hid (Row.later R3_12.out hb)
  have R5_13 := Lib.hid hr5
  have RL5 := Lib.hid (show ∀ g, Value.ownBlock (.slice A5 n5 c5) = some g → w12.heap.size ≤ g ∧ g < w13.heap.size from fun g h => by have l1 := hr5.lt g h; ((try simp at l1) <;> omega))
  clear hb f0_0_12 f0_1_12 f0_2_12 f0_3_12 g0_12 f1_0_12 f1_1_12 f1_2_12 f1_3_12 g1_12 f3_0_12 f3_1_12 f3_2_12 f3_3_12 g3_12 R1_12 R3_12 hr5 H12
  go_wp2_with fail
  refine (impl_any _ a0_0 ia0_0 a0_1 ia0_1 a0_2 ia0_2 _ x0_3 _ R5_13.out ix0_3 a1 ia1 a2 ia2).mono ?_
  rintro e w14 ⟨A6, n6, c6, rfl, hr6, hb⟩
  have zz14 : w13.heap.size ≤ w14.heap.size := (by have := hb.size; ((try simp at this) <;> omega))
  have H14 := Lib.hid (show Below w.heap.size w w14 by repeat (first | (with_reducible exact Below.refl _ _) | (with_reducible assumption) | ((with_reducible refine bl_alloc ?_ _ ?_); (focus ((first | omega | (simp <;> omega)); done))) | ((with_reducible refine bl_set ?_ _ ?_); (focus ((first | omega | (simp <;> omega)); done))) | (with_reducible refine below_drewN ?_ _) | (with_reducible refine Below.drew ?_) | ((with_reducible refine bl_trans ?_ hb ?_); (focus ((first | omega | (simp <;> omega)); done))) | ((with_reducible refine bl_trans ?_ H13.out ?_); (focus ((first | omega | (simp <;> omega)); done)))))
  have f1_0_14 := keeps hb f1_0_13
  have f1_1_14 := keeps hb f1_1_13
  have f1_2_14 := keeps hb f1_2_13
  have f1_3_14 := keeps hb f1_3_13
  have g1_14 : w3.heap.size < w14.heap.size := block_of_cell f1_0_14
  have f3_0_14 := keeps hb f3_0_13
  have f3_1_14 := keeps hb f3_1_13
  have f3_2_14 := keeps hb f3_2_13
  have f3_3_14 := keeps hb f3_3_13
  have g3_14 : w5.heap.size < w14.heap.size := block_of_cell f3_0_14
  have R1_14 := Lib.hid (Row.later R1_13.out hb)
  have R3_14 := Lib.hid (Row.later R3_13.out hb)
  have R6_14 := Lib.hid hr6
  have RL6 := Lib.hid (show ∀ g, Value.ownBlock (.slice A6 n6 c6) = some g → w13.heap.size ≤ g ∧ g < w14.heap.size from fun g h => by have l1 := hr6.lt g h; ((try simp at l1) <;> omega))
  clear hb f1_0_13 f1_1_13 f1_2_13 f1_3_13 g1_13 f3_0_13 f3_1_13 f3_2_13 f3_3_13 g3_13 R1_13 R3_13 R5_13 hr6 H13
  go_wp2_with fail
  refine (eqProfile_any ((ppD a0_0 a0_1 a0_2 x0_3 a1 a2)) ((ppF a0_0 a0_1 a0_2 x0_3 a1 a2)) ((ppL a0_0 a0_1 a0_2 x0_3 a1 a2)) _ _ _ ((ppH a0_0 a0_1 a0_2 x0_3 a1 a2)) _ _ (R6_14.out.alloc_ _) (R1_14.out.alloc_ _)).mono ?_
  rintro e w15 ⟨rfl, hb⟩
  have zz15 : w14.heap.size + 1 ≤ w15.heap.size := (by have := hb.size; ((try simp at this) <;> omega))
  have H15 := Lib.hid (show Below w.heap.size w w15 by repeat (first | (with_reducible exact Below.refl _ _) | (with_reducible assumption) | ((with_reducible refine bl_alloc ?_ _ ?_); (focus ((first | omega | (simp <;> omega)); done))) | ((with_reducible refine bl_set ?_ _ ?_); (focus ((first | omega | (simp <;> omega)); done))) | (with_reducible refine below_drewN ?_ _) | (with_reducible refine Below.drew ?_) | ((with_reducible refine bl_trans ?_ hb ?_); (focus ((first | omega | (simp <;> omega)); done))) | ((with_reducible refine bl_trans ?_ H14.out ?_); (focus ((first | omega | (simp <;> omega)); done)))))
  have f3_0_15 := keeps hb (cell_alloc f3_0_14 _)
  have f3_1_15 := keeps hb (cell_alloc f3_1_14 _)
  have f3_2_15 := keeps hb (cell_alloc f3_2_14 _)
  have f3_3_15 := keeps hb (cell_alloc f3_3_14 _)
  have g3_15 : w5.heap.size < w15.heap.size := block_of_cell f3_0_15
  have R3_15 := Lib.hid (Row.later (R3_14.out.alloc_ _) hb)
  clear hb f1_0_14 f1_1_14 f1_2_14 f1_3_14 g1_14 f3_0_14 f3_1_14 f3_2_14 f3_3_14 g3_14 R1_14 R3_14 R6_14 H14
  go_wp2_with fail
  refine (heldProfile_any ((ppD a0_0 a0_1 a0_2 x0_3 a1 a2)) ((ppF a0_0 a0_1 a0_2 x0_3 a1 a2)) ((ppL a0_0 a0_1 a0_2 x0_3 a1 a2)) _ _ _ _ _ R3_15.out (by omega) (by omega)).mono ?_
  rintro e w16 ⟨rfl, hb⟩
  have zz16 : w15.heap.size ≤ w16.heap.size := (by have := hb.size; ((try simp at this) <;> omega))
  have H16 := Lib.hid (show Below w.heap.size w w16 by repeat (first | (with_reducible exact Below.refl _ _) | (with_reducible assumption) | ((with_reducible refine bl_alloc ?_ _ ?_); (focus ((first | omega | (simp <;> omega)); done))) | ((with_reducible refine bl_set ?_ _ ?_); (focus ((first | omega | (simp <;> omega)); done))) | (with_reducible refine below_drewN ?_ _) | (with_reducible refine Below.drew ?_) | ((with_reducible refine bl_trans ?_ hb ?_); (focus ((first | omega | (simp <;> omega)); done))) | ((with_reducible refine bl_trans ?_ H15.out ?_); (focus ((first | omega | (simp <;> omega)); done)))))
  clear hb f3_0_15 f3_1_15 f3_2_15 f3_3_15 g3_15 R3_15 H15
  go_wp2_with fail
  go_ret
  exact ⟨rfl, (by repeat (first | (with_reducible exact Below.refl _ _) | (with_reducible assumption) | ((with_reducible refine bl_alloc ?_ _ ?_); (focus ((first | omega | (simp <;> omega)); done))) | ((with_reducible refine bl_set ?_ _ ?_); (focus ((first | omega | (simp <;> omega)); done))) | (with_reducible refine below_drewN ?_ _) | (with_reducible refine Below.drew ?_) | ((with_reducible refine bl_trans ?_ H16.out ?_); (focus ((first | omega | (simp <;> omega)); done)))))⟩
end Go.Proofs.Ytedpdcdmemenhaa.fnExactPartProfile
