/-
  The walk of FnExactEnvelopeOf: it returns true, and of what was there nothing has turned. The conditions are what its arguments' readings give.
-/
import Derived.Test.YtedpdcdmemenhaaRows
import Derived.Test.YtedpdcdmemenhaaLib
import Derived.Test.YtedpdcdmemenhaaInt
import Derived.Test.YtedpdcdmemenhaaInts
import Derived.Test.YtedpdcdmemenhaaIntsB
import Derived.Test.YtedpdcdmemenhaaWithin
import Derived.Test.YtedpdcdmemenhaaNames
import Derived.Test.YtedpdcdmemenhaaAll
import Derived.Test.YtedpdcdmemenhaaPattern
import Derived.Test.YtedpdcdmemenhaaAntenna
import Derived.Test.YtedpdcdmemenhaaOwn
import Derived.Test.YtedpdcdmemenhaaField
import Derived.Test.YtedpdcdmemenhaaMinMax
import Derived.Test.YtedpdcdmemenhaaEnvB
import Derived.Test.YtedpdcdmemenhaaMk
import Derived.Outline
import Derived.Deep.RegionHeld3
import Derived.Deep.DrawnRows
import Derived.OwnWalk
import Derived.Deep.AppendLies
import Derived.Deep.RegionLaw
import Derived.Laws.Cover1
import Derived.Deep.DeepCutAuto
namespace Go.Proofs.Ytedpdcdmemenhaa.fnExactEnvelopeOf
open Go.RowKit Go.ChangeShapes Go.WideShapes Go.ChangeAt
set_option linter.unusedVariables false
set_option linter.unusedSimpArgs false

attribute [local go_sem ↓] Go.wp_at_zero Go.wp_at_succ
def envB (s : ByteArray) (g : Int) (xs ys : List Int) (s2 : ByteArray) (g2 : Int) (xs2 ys2 : List Int) (nm : ByteArray) : Bool := antB s g xs ys && antB s2 g2 xs2 ys2 && nameB nm
def envN (s : ByteArray) (g : Int) (xs ys : List Int) (s2 : ByteArray) (g2 : Int) (xs2 ys2 : List Int) (nm : ByteArray) : ByteArray := if envB s g xs ys s2 g2 xs2 ys2 nm = true then nm else ⟨#[]⟩
def envG (s : ByteArray) (g : Int) (xs ys : List Int) (s2 : ByteArray) (g2 : Int) (xs2 ys2 : List Int) (nm : ByteArray) : Int := if envB s g xs ys s2 g2 xs2 ys2 nm = true then max g g2 else 0
def envH (s : ByteArray) (g : Int) (xs ys : List Int) (s2 : ByteArray) (g2 : Int) (xs2 ys2 : List Int) (nm : ByteArray) : List Int := if envB s g xs ys s2 g2 xs2 ys2 nm = true then envL xs xs2 (max g g2 - g) (max g g2 - g2) else []
def envW (s : ByteArray) (g : Int) (xs ys : List Int) (s2 : ByteArray) (g2 : Int) (xs2 ys2 : List Int) (nm : ByteArray) : List Int := if envB s g xs ys s2 g2 xs2 ys2 nm = true then envL ys ys2 (max g g2 - g) (max g g2 - g2) else []
def envC (s : ByteArray) (g : Int) (xs ys : List Int) (s2 : ByteArray) (g2 : Int) (xs2 ys2 : List Int) (nm : ByteArray) : Int := if envB s g xs ys s2 g2 xs2 ys2 nm = true then 0 else 1
theorem env_yes {s : ByteArray} {g : Int} {xs ys : List Int} {s2 : ByteArray} {g2 : Int} {xs2 ys2 : List Int} {nm : ByteArray} (h1 : antB s g xs ys = true) (h2 : antB s2 g2 xs2 ys2 = true) (h3 : nameB nm = true) : envN s g xs ys s2 g2 xs2 ys2 nm = nm ∧ envG s g xs ys s2 g2 xs2 ys2 nm = max g g2 ∧ envH s g xs ys s2 g2 xs2 ys2 nm = envL xs xs2 (max g g2 - g) (max g g2 - g2) ∧ envW s g xs ys s2 g2 xs2 ys2 nm = envL ys ys2 (max g g2 - g) (max g g2 - g2) ∧ envC s g xs ys s2 g2 xs2 ys2 nm = 0 := by
  have h : envB s g xs ys s2 g2 xs2 ys2 nm = true := by simp [envB, h1, h2, h3]
  exact ⟨if_pos h, if_pos h, if_pos h, if_pos h, if_pos h⟩
theorem env_no {s : ByteArray} {g : Int} {xs ys : List Int} {s2 : ByteArray} {g2 : Int} {xs2 ys2 : List Int} {nm : ByteArray} (h : antB s g xs ys = false ∨ antB s2 g2 xs2 ys2 = false ∨ nameB nm = false) : envN s g xs ys s2 g2 xs2 ys2 nm = ⟨#[]⟩ ∧ envG s g xs ys s2 g2 xs2 ys2 nm = 0 ∧ envH s g xs ys s2 g2 xs2 ys2 nm = [] ∧ envW s g xs ys s2 g2 xs2 ys2 nm = [] ∧ envC s g xs ys s2 g2 xs2 ys2 nm = 1 := by
  have h' : ¬ envB s g xs ys s2 g2 xs2 ys2 nm = true := by
    unfold envB
    rcases h with h | h | h <;> simp [h]
  exact ⟨if_neg h', if_neg h', if_neg h', if_neg h', if_neg h'⟩
theorem env_len (s : ByteArray) (g : Int) (xs ys : List Int) (s2 : ByteArray) (g2 : Int) (xs2 ys2 : List Int) (nm : ByteArray) : (envH s g xs ys s2 g2 xs2 ys2 nm).length ≤ 36 ∧ (envW s g xs ys s2 g2 xs2 ys2 nm).length ≤ 19 := by
  rcases bool_two (envB s g xs ys s2 g2 xs2 ys2 nm) with h | h
  · have h' := h
    unfold envB at h'
    simp only [Bool.and_eq_true] at h'
    obtain ⟨_, _, _, l1, l2⟩ := ant_parts h'.1.1
    have h1 := (loss_parts l1).1
    have h2 := (loss_parts l2).1
    unfold envH envW
    rw [if_pos h, if_pos h, envL_len, envL_len]
    omega
  · have h' : ¬ envB s g xs ys s2 g2 xs2 ys2 nm = true := by rw [h]; decide
    unfold envH envW
    rw [if_neg h', if_neg h']
    exact ⟨Nat.zero_le _, Nat.zero_le _⟩
theorem all_at {xs : List Int} {n : Nat} (h : allIn xs 0 60000 = true) (hn : xs.length = n) : ∀ k, k < n → 0 ≤ xs.getD k 0 ∧ xs.getD k 0 ≤ 60000 := fun k hk => (of_decide_eq_true h) k (by omega)

theorem drew_heap (w : World) : w.drew.heap = w.heap := rfl
theorem cell_heap {W w : World} (h : W.heap = w.heap) (p : Addr) : W.cell? p = w.cell? p := by
  unfold World.cell?
  rw [h]
set_option maxRecDepth 20000 in
set_option maxHeartbeats 8000000 in
theorem spec_any (w : World) (s : ByteArray) (is : s.size ≤ maxLen) (g : Int) (ig : In64 g) (a : Value) (xs : List Int) (p : Nat) (ha : Row 2 w p a xs) (jxs : ∀ n ∈ xs, In64 n) (b : Value) (ys : List Int) (q : Nat) (hb : Row 2 w q b ys) (jys : ∀ n ∈ ys, In64 n) (s2 : ByteArray) (is2 : s2.size ≤ maxLen) (g2 : Int) (ig2 : In64 g2) (a2 : Value) (xs2 : List Int) (p2 : Nat) (ha2 : Row 2 w p2 a2 xs2) (jxs2 : ∀ n ∈ xs2, In64 n) (b2 : Value) (ys2 : List Int) (q2 : Nat) (hb2 : Row 2 w q2 b2 ys2) (jys2 : ∀ n ∈ ys2, In64 n) (nm : ByteArray) (inm : nm.size ≤ maxLen) :
    Calls Try.prog 9 #[.agg #[.string s, .int .i64 g, a, b], .agg #[.string s2, .int .i64 g2, a2, b2], .string nm] w fun e w' => ∃ A0 n0 c0 A1 n1 c1, e = .returned (.tuple #[.agg #[.string (envN s g xs ys s2 g2 xs2 ys2 nm), .int .i64 (envG s g xs ys s2 g2 xs2 ys2 nm), .slice A0 n0 c0, .slice A1 n1 c1], .int .i64 (envC s g xs ys s2 g2 xs2 ys2 nm)]) ∧ Row 2 w' w.heap.size (.slice A0 n0 c0) (envH s g xs ys s2 g2 xs2 ys2 nm) ∧ Row 2 w' w.heap.size (.slice A1 n1 c1) (envW s g xs ys s2 g2 xs2 ys2 nm) ∧ Apart (.slice A0 n0 c0) (.slice A1 n1 c1) ∧ Below w.heap.size w w' := by
  have IS := Lib.hid is
  have IS2 := Lib.hid is2
  have INM := Lib.hid inm
  have HA := Lib.hid ha
  have HB := Lib.hid hb
  have HA2 := Lib.hid ha2
  have HB2 := Lib.hid hb2
  clear is is2 inm ig ig2 jxs jys jxs2 jys2
  rcases bool_two (antB s g xs ys) with hv | hv
  rotate_left
  · obtain ⟨e1, e2, e3, e4, e5⟩ := env_no (s2 := s2) (g2 := g2) (xs2 := xs2) (ys2 := ys2) (nm := nm) (.inl hv)
    rw [e1, e2, e3, e4, e5]
    clear e1 e2 e3 e4 e5
    have HE := Lib.hid hv
    clear hv
    go_enter Try.func9, Try.ntmps9
    go_wp2_with fail
    refine (l06Ok_any _ _ s IS.out g _ xs p (((HA.out.alloc_ _).alloc_ _).alloc_ _) _ ys q (((HB.out.alloc_ _).alloc_ _).alloc_ _) (by simp [go_sem]) (by simp [go_sem]) (by simp [go_sem]) (by simp [go_sem])).mono ?_
    rintro e w1 ⟨he, kd, hw⟩
    have hb1 : Below (((w.alloc (.cells #[.string s, .int .i64 g, a, b] 26)).alloc (.cells #[.string s2, .int .i64 g2, a2, b2] 26)).alloc (.cells #[.string ⟨#[]⟩, .int .i64 0, .slice none 0 0, .slice none 0 0] 26)).heap.size (((w.alloc (.cells #[.string s, .int .i64 g, a, b] 26)).alloc (.cells #[.string s2, .int .i64 g2, a2, b2] 26)).alloc (.cells #[.string ⟨#[]⟩, .int .i64 0, .slice none 0 0, .slice none 0 0] 26)) w1 := by rw [hw]; exact below_drewN (Below.refl _ _) _
    clear hw
    rw [HE.out] at he
    subst he
    have H1 := Lib.hid (show Below w.heap.size w w1 by repeat (first | (with_reducible exact Below.refl _ _) | (with_reducible assumption) | ((with_reducible refine bl_alloc ?_ _ ?_); (focus ((first | omega | (simp <;> omega)); done))) | ((with_reducible refine bl_set ?_ _ ?_); (focus ((first | omega | (simp <;> omega)); done))) | (with_reducible refine below_drewN ?_ _) | (with_reducible refine Below.drew ?_) | ((with_reducible refine bl_trans ?_ hb1 ?_); (focus ((first | omega | (simp <;> omega)); done)))))
    have SA1 := Lib.hid (show SInv w1 w.heap.size [.string s, .int .i64 g, a, b] from (((SInv.fresh w #[.string s, .int .i64 g, a, b] 26).alloc_ (.cells #[.string s2, .int .i64 g2, a2, b2] 26)).alloc_ (.cells #[.string ⟨#[]⟩, .int .i64 0, .slice none 0 0, .slice none 0 0] 26)).later hb1)
    have SB1 := Lib.hid (show SInv w1 (w.heap.size + 1) [.string s2, .int .i64 g2, a2, b2] from by have h := ((SInv.fresh (w.alloc (.cells #[.string s, .int .i64 g, a, b] 26)) #[.string s2, .int .i64 g2, a2, b2] 26).alloc_ (.cells #[.string ⟨#[]⟩, .int .i64 0, .slice none 0 0, .slice none 0 0] 26)).later hb1; simpa using h)
    have SZ1 := Lib.hid (show SInv w1 (w.heap.size + 2) [.string ⟨#[]⟩, .int .i64 0, .slice none 0 0, .slice none 0 0] from by have h := (SInv.fresh ((w.alloc (.cells #[.string s, .int .i64 g, a, b] 26)).alloc (.cells #[.string s2, .int .i64 g2, a2, b2] 26)) #[.string ⟨#[]⟩, .int .i64 0, .slice none 0 0, .slice none 0 0] 26).later hb1; simpa using h)
    have HA1 := Lib.hid ((((HA.out.alloc_ (.cells #[.string s, .int .i64 g, a, b] 26)).alloc_ (.cells #[.string s2, .int .i64 g2, a2, b2] 26)).alloc_ (.cells #[.string ⟨#[]⟩, .int .i64 0, .slice none 0 0, .slice none 0 0] 26)).later hb1)
    have HB1 := Lib.hid ((((HB.out.alloc_ (.cells #[.string s, .int .i64 g, a, b] 26)).alloc_ (.cells #[.string s2, .int .i64 g2, a2, b2] 26)).alloc_ (.cells #[.string ⟨#[]⟩, .int .i64 0, .slice none 0 0, .slice none 0 0] 26)).later hb1)
    have HA_21 := Lib.hid ((((HA2.out.alloc_ (.cells #[.string s, .int .i64 g, a, b] 26)).alloc_ (.cells #[.string s2, .int .i64 g2, a2, b2] 26)).alloc_ (.cells #[.string ⟨#[]⟩, .int .i64 0, .slice none 0 0, .slice none 0 0] 26)).later hb1)
    have HB_21 := Lib.hid ((((HB2.out.alloc_ (.cells #[.string s, .int .i64 g, a, b] 26)).alloc_ (.cells #[.string s2, .int .i64 g2, a2, b2] 26)).alloc_ (.cells #[.string ⟨#[]⟩, .int .i64 0, .slice none 0 0, .slice none 0 0] 26)).later hb1)
    have zz1 : w.heap.size + 3 ≤ w1.heap.size := by have := hb1.size; simp at this; omega
    clear hb1
    have z0 := SZ1.out.cell 0 _ rfl
    have z1 := SZ1.out.cell 1 _ rfl
    have z2 := SZ1.out.cell 2 _ rfl
    have z3 := SZ1.out.cell 3 _ rfl
    have zf := SZ1.out.free
    go_wp2_with fail
    refine bodyPost_ret (v := .tuple #[.agg #[.string ⟨#[]⟩, .int .i64 0, .slice none 0 0, .slice none 0 0], .int .i64 1]) (by simp [results, Try.results9, go_sem, *]) rfl ?_
    exact ⟨_, _, _, _, _, _, rfl, Row.nil_, Row.nil_, apart_nil, by repeat (first | (with_reducible exact Below.refl _ _) | (with_reducible assumption) | ((with_reducible refine bl_alloc ?_ _ ?_); (focus ((first | omega | (simp <;> omega)); done))) | ((with_reducible refine bl_set ?_ _ ?_); (focus ((first | omega | (simp <;> omega)); done))) | (with_reducible refine below_drewN ?_ _) | (with_reducible refine Below.drew ?_) | ((with_reducible refine bl_trans ?_ H1.out ?_); (focus ((first | omega | (simp <;> omega)); done))))⟩
  rcases bool_two (antB s2 g2 xs2 ys2) with hv2 | hv2
  rotate_left
  · obtain ⟨e1, e2, e3, e4, e5⟩ := env_no (s := s) (g := g) (xs := xs) (ys := ys) (nm := nm) (.inr (.inl hv2))
    rw [e1, e2, e3, e4, e5]
    clear e1 e2 e3 e4 e5
    have HE := Lib.hid hv
    have HE2 := Lib.hid hv2
    clear hv hv2
    go_enter Try.func9, Try.ntmps9
    go_wp2_with fail
    refine (l06Ok_any _ _ s IS.out g _ xs p (((HA.out.alloc_ _).alloc_ _).alloc_ _) _ ys q (((HB.out.alloc_ _).alloc_ _).alloc_ _) (by simp [go_sem]) (by simp [go_sem]) (by simp [go_sem]) (by simp [go_sem])).mono ?_
    rintro e w1 ⟨he, kd, hw⟩
    have hb1 : Below (((w.alloc (.cells #[.string s, .int .i64 g, a, b] 26)).alloc (.cells #[.string s2, .int .i64 g2, a2, b2] 26)).alloc (.cells #[.string ⟨#[]⟩, .int .i64 0, .slice none 0 0, .slice none 0 0] 26)).heap.size (((w.alloc (.cells #[.string s, .int .i64 g, a, b] 26)).alloc (.cells #[.string s2, .int .i64 g2, a2, b2] 26)).alloc (.cells #[.string ⟨#[]⟩, .int .i64 0, .slice none 0 0, .slice none 0 0] 26)) w1 := by rw [hw]; exact below_drewN (Below.refl _ _) _
    clear hw
    rw [HE.out] at he
    subst he
    have H1 := Lib.hid (show Below w.heap.size w w1 by repeat (first | (with_reducible exact Below.refl _ _) | (with_reducible assumption) | ((with_reducible refine bl_alloc ?_ _ ?_); (focus ((first | omega | (simp <;> omega)); done))) | ((with_reducible refine bl_set ?_ _ ?_); (focus ((first | omega | (simp <;> omega)); done))) | (with_reducible refine below_drewN ?_ _) | (with_reducible refine Below.drew ?_) | ((with_reducible refine bl_trans ?_ hb1 ?_); (focus ((first | omega | (simp <;> omega)); done)))))
    have SA1 := Lib.hid (show SInv w1 w.heap.size [.string s, .int .i64 g, a, b] from (((SInv.fresh w #[.string s, .int .i64 g, a, b] 26).alloc_ (.cells #[.string s2, .int .i64 g2, a2, b2] 26)).alloc_ (.cells #[.string ⟨#[]⟩, .int .i64 0, .slice none 0 0, .slice none 0 0] 26)).later hb1)
    have SB1 := Lib.hid (show SInv w1 (w.heap.size + 1) [.string s2, .int .i64 g2, a2, b2] from by have h := ((SInv.fresh (w.alloc (.cells #[.string s, .int .i64 g, a, b] 26)) #[.string s2, .int .i64 g2, a2, b2] 26).alloc_ (.cells #[.string ⟨#[]⟩, .int .i64 0, .slice none 0 0, .slice none 0 0] 26)).later hb1; simpa using h)
    have SZ1 := Lib.hid (show SInv w1 (w.heap.size + 2) [.string ⟨#[]⟩, .int .i64 0, .slice none 0 0, .slice none 0 0] from by have h := (SInv.fresh ((w.alloc (.cells #[.string s, .int .i64 g, a, b] 26)).alloc (.cells #[.string s2, .int .i64 g2, a2, b2] 26)) #[.string ⟨#[]⟩, .int .i64 0, .slice none 0 0, .slice none 0 0] 26).later hb1; simpa using h)
    have HA1 := Lib.hid ((((HA.out.alloc_ (.cells #[.string s, .int .i64 g, a, b] 26)).alloc_ (.cells #[.string s2, .int .i64 g2, a2, b2] 26)).alloc_ (.cells #[.string ⟨#[]⟩, .int .i64 0, .slice none 0 0, .slice none 0 0] 26)).later hb1)
    have HB1 := Lib.hid ((((HB.out.alloc_ (.cells #[.string s, .int .i64 g, a, b] 26)).alloc_ (.cells #[.string s2, .int .i64 g2, a2, b2] 26)).alloc_ (.cells #[.string ⟨#[]⟩, .int .i64 0, .slice none 0 0, .slice none 0 0] 26)).later hb1)
    have HA_21 := Lib.hid ((((HA2.out.alloc_ (.cells #[.string s, .int .i64 g, a, b] 26)).alloc_ (.cells #[.string s2, .int .i64 g2, a2, b2] 26)).alloc_ (.cells #[.string ⟨#[]⟩, .int .i64 0, .slice none 0 0, .slice none 0 0] 26)).later hb1)
    have HB_21 := Lib.hid ((((HB2.out.alloc_ (.cells #[.string s, .int .i64 g, a, b] 26)).alloc_ (.cells #[.string s2, .int .i64 g2, a2, b2] 26)).alloc_ (.cells #[.string ⟨#[]⟩, .int .i64 0, .slice none 0 0, .slice none 0 0] 26)).later hb1)
    have zz1 : w.heap.size + 3 ≤ w1.heap.size := by have := hb1.size; simp at this; omega
    clear hb1
    have b0 := SB1.out.cell 0 _ rfl
    have b1 := SB1.out.cell 1 _ rfl
    have b2 := SB1.out.cell 2 _ rfl
    have b3 := SB1.out.cell 3 _ rfl
    go_wp2_with fail
    refine (l06Ok_any _ _ s2 IS2.out g2 _ xs2 p2 HA_21.out _ ys2 q2 HB_21.out b0 b1 b2 b3).mono ?_
    rintro e w2 ⟨he, kd, hw⟩
    have hb2 : Below w1.heap.size w1 w2 := by rw [hw]; exact below_drewN (Below.refl _ _) _
    clear hw
    rw [HE2.out] at he
    subst he
    have H2 := Lib.hid (H1.out.trans (hb2.mono H1.out.size))
    have SA2 := Lib.hid (SA1.out.later hb2)
    have SB2 := Lib.hid (SB1.out.later hb2)
    have SZ2 := Lib.hid (SZ1.out.later hb2)
    have HA_ := Lib.hid (HA1.out.later hb2)
    have HB_ := Lib.hid (HB1.out.later hb2)
    have HA_2_ := Lib.hid (HA_21.out.later hb2)
    have HB_2_ := Lib.hid (HB_21.out.later hb2)
    have zz2 : w.heap.size + 3 ≤ w2.heap.size := by have := hb2.size; omega
    clear hb2 b0 b1 b2 b3 SA1 SB1 SZ1 H1 HA1 HB1 HA_21 HB_21
    have z0 := SZ2.out.cell 0 _ rfl
    have z1 := SZ2.out.cell 1 _ rfl
    have z2 := SZ2.out.cell 2 _ rfl
    have z3 := SZ2.out.cell 3 _ rfl
    have zf := SZ2.out.free
    go_wp2_with fail
    refine bodyPost_ret (v := .tuple #[.agg #[.string ⟨#[]⟩, .int .i64 0, .slice none 0 0, .slice none 0 0], .int .i64 1]) (by simp [results, Try.results9, go_sem, *]) rfl ?_
    exact ⟨_, _, _, _, _, _, rfl, Row.nil_, Row.nil_, apart_nil, by repeat (first | (with_reducible exact Below.refl _ _) | (with_reducible assumption) | ((with_reducible refine bl_alloc ?_ _ ?_); (focus ((first | omega | (simp <;> omega)); done))) | ((with_reducible refine bl_set ?_ _ ?_); (focus ((first | omega | (simp <;> omega)); done))) | (with_reducible refine below_drewN ?_ _) | (with_reducible refine Below.drew ?_) | ((with_reducible refine bl_trans ?_ H2.out ?_); (focus ((first | omega | (simp <;> omega)); done))))⟩
  rcases bool_two (nameB nm) with hv3 | hv3
  rotate_left
  · obtain ⟨e1, e2, e3, e4, e5⟩ := env_no (s := s) (g := g) (xs := xs) (ys := ys) (s2 := s2) (g2 := g2) (xs2 := xs2) (ys2 := ys2) (.inr (.inr hv3))
    rw [e1, e2, e3, e4, e5]
    clear e1 e2 e3 e4 e5
    have HE := Lib.hid hv
    have HE2 := Lib.hid hv2
    have HE3 := Lib.hid hv3
    clear hv hv2 hv3
    go_enter Try.func9, Try.ntmps9
    go_wp2_with fail
    refine (l06Ok_any _ _ s IS.out g _ xs p (((HA.out.alloc_ _).alloc_ _).alloc_ _) _ ys q (((HB.out.alloc_ _).alloc_ _).alloc_ _) (by simp [go_sem]) (by simp [go_sem]) (by simp [go_sem]) (by simp [go_sem])).mono ?_
    rintro e w1 ⟨he, kd, hw⟩
    have hb1 : Below (((w.alloc (.cells #[.string s, .int .i64 g, a, b] 26)).alloc (.cells #[.string s2, .int .i64 g2, a2, b2] 26)).alloc (.cells #[.string ⟨#[]⟩, .int .i64 0, .slice none 0 0, .slice none 0 0] 26)).heap.size (((w.alloc (.cells #[.string s, .int .i64 g, a, b] 26)).alloc (.cells #[.string s2, .int .i64 g2, a2, b2] 26)).alloc (.cells #[.string ⟨#[]⟩, .int .i64 0, .slice none 0 0, .slice none 0 0] 26)) w1 := by rw [hw]; exact below_drewN (Below.refl _ _) _
    clear hw
    rw [HE.out] at he
    subst he
    have H1 := Lib.hid (show Below w.heap.size w w1 by repeat (first | (with_reducible exact Below.refl _ _) | (with_reducible assumption) | ((with_reducible refine bl_alloc ?_ _ ?_); (focus ((first | omega | (simp <;> omega)); done))) | ((with_reducible refine bl_set ?_ _ ?_); (focus ((first | omega | (simp <;> omega)); done))) | (with_reducible refine below_drewN ?_ _) | (with_reducible refine Below.drew ?_) | ((with_reducible refine bl_trans ?_ hb1 ?_); (focus ((first | omega | (simp <;> omega)); done)))))
    have SA1 := Lib.hid (show SInv w1 w.heap.size [.string s, .int .i64 g, a, b] from (((SInv.fresh w #[.string s, .int .i64 g, a, b] 26).alloc_ (.cells #[.string s2, .int .i64 g2, a2, b2] 26)).alloc_ (.cells #[.string ⟨#[]⟩, .int .i64 0, .slice none 0 0, .slice none 0 0] 26)).later hb1)
    have SB1 := Lib.hid (show SInv w1 (w.heap.size + 1) [.string s2, .int .i64 g2, a2, b2] from by have h := ((SInv.fresh (w.alloc (.cells #[.string s, .int .i64 g, a, b] 26)) #[.string s2, .int .i64 g2, a2, b2] 26).alloc_ (.cells #[.string ⟨#[]⟩, .int .i64 0, .slice none 0 0, .slice none 0 0] 26)).later hb1; simpa using h)
    have SZ1 := Lib.hid (show SInv w1 (w.heap.size + 2) [.string ⟨#[]⟩, .int .i64 0, .slice none 0 0, .slice none 0 0] from by have h := (SInv.fresh ((w.alloc (.cells #[.string s, .int .i64 g, a, b] 26)).alloc (.cells #[.string s2, .int .i64 g2, a2, b2] 26)) #[.string ⟨#[]⟩, .int .i64 0, .slice none 0 0, .slice none 0 0] 26).later hb1; simpa using h)
    have HA1 := Lib.hid ((((HA.out.alloc_ (.cells #[.string s, .int .i64 g, a, b] 26)).alloc_ (.cells #[.string s2, .int .i64 g2, a2, b2] 26)).alloc_ (.cells #[.string ⟨#[]⟩, .int .i64 0, .slice none 0 0, .slice none 0 0] 26)).later hb1)
    have HB1 := Lib.hid ((((HB.out.alloc_ (.cells #[.string s, .int .i64 g, a, b] 26)).alloc_ (.cells #[.string s2, .int .i64 g2, a2, b2] 26)).alloc_ (.cells #[.string ⟨#[]⟩, .int .i64 0, .slice none 0 0, .slice none 0 0] 26)).later hb1)
    have HA_21 := Lib.hid ((((HA2.out.alloc_ (.cells #[.string s, .int .i64 g, a, b] 26)).alloc_ (.cells #[.string s2, .int .i64 g2, a2, b2] 26)).alloc_ (.cells #[.string ⟨#[]⟩, .int .i64 0, .slice none 0 0, .slice none 0 0] 26)).later hb1)
    have HB_21 := Lib.hid ((((HB2.out.alloc_ (.cells #[.string s, .int .i64 g, a, b] 26)).alloc_ (.cells #[.string s2, .int .i64 g2, a2, b2] 26)).alloc_ (.cells #[.string ⟨#[]⟩, .int .i64 0, .slice none 0 0, .slice none 0 0] 26)).later hb1)
    have zz1 : w.heap.size + 3 ≤ w1.heap.size := by have := hb1.size; simp at this; omega
    clear hb1
    have b0 := SB1.out.cell 0 _ rfl
    have b1 := SB1.out.cell 1 _ rfl
    have b2 := SB1.out.cell 2 _ rfl
    have b3 := SB1.out.cell 3 _ rfl
    go_wp2_with fail
    refine (l06Ok_any _ _ s2 IS2.out g2 _ xs2 p2 HA_21.out _ ys2 q2 HB_21.out b0 b1 b2 b3).mono ?_
    rintro e w2 ⟨he, kd, hw⟩
    have hb2 : Below w1.heap.size w1 w2 := by rw [hw]; exact below_drewN (Below.refl _ _) _
    clear hw
    rw [HE2.out] at he
    subst he
    have H2 := Lib.hid (H1.out.trans (hb2.mono H1.out.size))
    have SA2 := Lib.hid (SA1.out.later hb2)
    have SB2 := Lib.hid (SB1.out.later hb2)
    have SZ2 := Lib.hid (SZ1.out.later hb2)
    have HA_ := Lib.hid (HA1.out.later hb2)
    have HB_ := Lib.hid (HB1.out.later hb2)
    have HA_2_ := Lib.hid (HA_21.out.later hb2)
    have HB_2_ := Lib.hid (HB_21.out.later hb2)
    have zz2 : w.heap.size + 3 ≤ w2.heap.size := by have := hb2.size; omega
    clear hb2 b0 b1 b2 b3 SA1 SB1 SZ1 H1 HA1 HB1 HA_21 HB_21
    go_wp2_with fail
    refine (l01Name_any _ nm INM.out).mono ?_
    rintro e w3 ⟨he, hw⟩
    obtain rfl := hw.symm
    clear hw
    rw [HE3.out] at he
    subst he
    have z0 := SZ2.out.cell 0 _ rfl
    have z1 := SZ2.out.cell 1 _ rfl
    have z2 := SZ2.out.cell 2 _ rfl
    have z3 := SZ2.out.cell 3 _ rfl
    have zf := SZ2.out.free
    go_wp2_with fail
    refine bodyPost_ret (v := .tuple #[.agg #[.string ⟨#[]⟩, .int .i64 0, .slice none 0 0, .slice none 0 0], .int .i64 1]) (by simp [results, Try.results9, go_sem, *]) rfl ?_
    exact ⟨_, _, _, _, _, _, rfl, Row.nil_, Row.nil_, apart_nil, by repeat (first | (with_reducible exact Below.refl _ _) | (with_reducible assumption) | ((with_reducible refine bl_alloc ?_ _ ?_); (focus ((first | omega | (simp <;> omega)); done))) | ((with_reducible refine bl_set ?_ _ ?_); (focus ((first | omega | (simp <;> omega)); done))) | (with_reducible refine below_drewN ?_ _) | (with_reducible refine Below.drew ?_) | ((with_reducible refine bl_trans ?_ H2.out ?_); (focus ((first | omega | (simp <;> omega)); done))))⟩
  obtain ⟨e1, e2, e3, e4, e5⟩ := env_yes hv hv2 hv3
  rw [e1, e2, e3, e4, e5]
  clear e1 e2 e3 e4 e5
  obtain ⟨ga, ca, gb, cb, rfl, rfl, n1, n2, r1, r2, l1, l2, k1, k2⟩ := ant_open hv HA.out HB.out
  obtain ⟨ga2, ca2, gb2, cb2, rfl, rfl, m1, m2, t1, t2, l3, l4, k3, k4⟩ := ant_open hv2 HA2.out HB2.out
  obtain ⟨_, g0, g1, _, _⟩ := ant_parts hv
  obtain ⟨_, g20, g21, _, _⟩ := ant_parts hv2
  have HE := Lib.hid hv
  have HE2 := Lib.hid hv2
  have HE3 := Lib.hid hv3
  have HK1 := Lib.hid k1
  have HK2 := Lib.hid k2
  have HK3 := Lib.hid k3
  have HK4 := Lib.hid k4
  have HN1 := Lib.hid n1
  have HN2 := Lib.hid n2
  have HM1 := Lib.hid m1
  have HM2 := Lib.hid m2
  have B1 := Lib.hid (all_at r1 n1)
  have B2 := Lib.hid (all_at r2 n2)
  have B3 := Lib.hid (all_at t1 m1)
  have B4 := Lib.hid (all_at t2 m2)
  clear hv hv2 hv3 k1 k2 k3 k4 n1 n2 m1 m2 r1 r2 t1 t2
  obtain ⟨G, hG⟩ : ∃ G, G = max g g2 := ⟨_, rfl⟩
  have G1 : g ≤ G := by omega
  have G2 : g2 ≤ G := by omega
  have G3 : G ≤ 60000 := by omega
  rw [← hG]
  have HG : Hid (∀ W : World, Calls Try.prog 41 #[.int .i64 g, .int .i64 g2] W fun e w' => e = .returned (.int .i64 G) ∧ W = w') := fun W => by rw [hG]; exact cMax_any W g g2
  clear hG
  obtain ⟨E1, hE1⟩ : ∃ E, E = envL xs xs2 (G - g) (G - g2) := ⟨_, rfl⟩
  obtain ⟨E2, hE2⟩ : ∃ E, E = envL ys ys2 (G - g) (G - g2) := ⟨_, rfl⟩
  rw [← hE1, ← hE2]
  have HE1 := Lib.hid hE1
  have HE2_ := Lib.hid hE2
  clear hE1 hE2
  go_enter Try.func9, Try.ntmps9
  go_wp2_with fail
  refine (l06Ok_any _ _ s IS.out g _ xs p (((HA.out.alloc_ _).alloc_ _).alloc_ _) _ ys q (((HB.out.alloc_ _).alloc_ _).alloc_ _) (by simp [go_sem]) (by simp [go_sem]) (by simp [go_sem]) (by simp [go_sem])).mono ?_
  rintro e w1 ⟨he, kd, hw⟩
  have hb1 : Below (((w.alloc (.cells #[.string s, .int .i64 g, (.slice (some ⟨ga, 0, none⟩) 36 ca), (.slice (some ⟨gb, 0, none⟩) 19 cb)] 26)).alloc (.cells #[.string s2, .int .i64 g2, (.slice (some ⟨ga2, 0, none⟩) 36 ca2), (.slice (some ⟨gb2, 0, none⟩) 19 cb2)] 26)).alloc (.cells #[.string ⟨#[]⟩, .int .i64 0, .slice none 0 0, .slice none 0 0] 26)).heap.size (((w.alloc (.cells #[.string s, .int .i64 g, (.slice (some ⟨ga, 0, none⟩) 36 ca), (.slice (some ⟨gb, 0, none⟩) 19 cb)] 26)).alloc (.cells #[.string s2, .int .i64 g2, (.slice (some ⟨ga2, 0, none⟩) 36 ca2), (.slice (some ⟨gb2, 0, none⟩) 19 cb2)] 26)).alloc (.cells #[.string ⟨#[]⟩, .int .i64 0, .slice none 0 0, .slice none 0 0] 26)) w1 := by rw [hw]; exact below_drewN (Below.refl _ _) _
  clear hw
  rw [HE.out] at he
  subst he
  have H1 := Lib.hid (show Below w.heap.size w w1 by repeat (first | (with_reducible exact Below.refl _ _) | (with_reducible assumption) | ((with_reducible refine bl_alloc ?_ _ ?_); (focus ((first | omega | (simp <;> omega)); done))) | ((with_reducible refine bl_set ?_ _ ?_); (focus ((first | omega | (simp <;> omega)); done))) | (with_reducible refine below_drewN ?_ _) | (with_reducible refine Below.drew ?_) | ((with_reducible refine bl_trans ?_ hb1 ?_); (focus ((first | omega | (simp <;> omega)); done)))))
  have SA1 := Lib.hid (show SInv w1 w.heap.size [.string s, .int .i64 g, (.slice (some ⟨ga, 0, none⟩) 36 ca), (.slice (some ⟨gb, 0, none⟩) 19 cb)] from (((SInv.fresh w #[.string s, .int .i64 g, (.slice (some ⟨ga, 0, none⟩) 36 ca), (.slice (some ⟨gb, 0, none⟩) 19 cb)] 26).alloc_ (.cells #[.string s2, .int .i64 g2, (.slice (some ⟨ga2, 0, none⟩) 36 ca2), (.slice (some ⟨gb2, 0, none⟩) 19 cb2)] 26)).alloc_ (.cells #[.string ⟨#[]⟩, .int .i64 0, .slice none 0 0, .slice none 0 0] 26)).later hb1)
  have SB1 := Lib.hid (show SInv w1 (w.heap.size + 1) [.string s2, .int .i64 g2, (.slice (some ⟨ga2, 0, none⟩) 36 ca2), (.slice (some ⟨gb2, 0, none⟩) 19 cb2)] from by have h := ((SInv.fresh (w.alloc (.cells #[.string s, .int .i64 g, (.slice (some ⟨ga, 0, none⟩) 36 ca), (.slice (some ⟨gb, 0, none⟩) 19 cb)] 26)) #[.string s2, .int .i64 g2, (.slice (some ⟨ga2, 0, none⟩) 36 ca2), (.slice (some ⟨gb2, 0, none⟩) 19 cb2)] 26).alloc_ (.cells #[.string ⟨#[]⟩, .int .i64 0, .slice none 0 0, .slice none 0 0] 26)).later hb1; simpa using h)
  have SZ1 := Lib.hid (show SInv w1 (w.heap.size + 2) [.string ⟨#[]⟩, .int .i64 0, .slice none 0 0, .slice none 0 0] from by have h := (SInv.fresh ((w.alloc (.cells #[.string s, .int .i64 g, (.slice (some ⟨ga, 0, none⟩) 36 ca), (.slice (some ⟨gb, 0, none⟩) 19 cb)] 26)).alloc (.cells #[.string s2, .int .i64 g2, (.slice (some ⟨ga2, 0, none⟩) 36 ca2), (.slice (some ⟨gb2, 0, none⟩) 19 cb2)] 26)) #[.string ⟨#[]⟩, .int .i64 0, .slice none 0 0, .slice none 0 0] 26).later hb1; simpa using h)
  have HA1 := Lib.hid ((((HA.out.alloc_ (.cells #[.string s, .int .i64 g, (.slice (some ⟨ga, 0, none⟩) 36 ca), (.slice (some ⟨gb, 0, none⟩) 19 cb)] 26)).alloc_ (.cells #[.string s2, .int .i64 g2, (.slice (some ⟨ga2, 0, none⟩) 36 ca2), (.slice (some ⟨gb2, 0, none⟩) 19 cb2)] 26)).alloc_ (.cells #[.string ⟨#[]⟩, .int .i64 0, .slice none 0 0, .slice none 0 0] 26)).later hb1)
  have HB1 := Lib.hid ((((HB.out.alloc_ (.cells #[.string s, .int .i64 g, (.slice (some ⟨ga, 0, none⟩) 36 ca), (.slice (some ⟨gb, 0, none⟩) 19 cb)] 26)).alloc_ (.cells #[.string s2, .int .i64 g2, (.slice (some ⟨ga2, 0, none⟩) 36 ca2), (.slice (some ⟨gb2, 0, none⟩) 19 cb2)] 26)).alloc_ (.cells #[.string ⟨#[]⟩, .int .i64 0, .slice none 0 0, .slice none 0 0] 26)).later hb1)
  have HA_21 := Lib.hid ((((HA2.out.alloc_ (.cells #[.string s, .int .i64 g, (.slice (some ⟨ga, 0, none⟩) 36 ca), (.slice (some ⟨gb, 0, none⟩) 19 cb)] 26)).alloc_ (.cells #[.string s2, .int .i64 g2, (.slice (some ⟨ga2, 0, none⟩) 36 ca2), (.slice (some ⟨gb2, 0, none⟩) 19 cb2)] 26)).alloc_ (.cells #[.string ⟨#[]⟩, .int .i64 0, .slice none 0 0, .slice none 0 0] 26)).later hb1)
  have HB_21 := Lib.hid ((((HB2.out.alloc_ (.cells #[.string s, .int .i64 g, (.slice (some ⟨ga, 0, none⟩) 36 ca), (.slice (some ⟨gb, 0, none⟩) 19 cb)] 26)).alloc_ (.cells #[.string s2, .int .i64 g2, (.slice (some ⟨ga2, 0, none⟩) 36 ca2), (.slice (some ⟨gb2, 0, none⟩) 19 cb2)] 26)).alloc_ (.cells #[.string ⟨#[]⟩, .int .i64 0, .slice none 0 0, .slice none 0 0] 26)).later hb1)
  have zz1 : w.heap.size + 3 ≤ w1.heap.size := by have := hb1.size; simp at this; omega
  clear hb1
  have b0 := SB1.out.cell 0 _ rfl
  have b1 := SB1.out.cell 1 _ rfl
  have b2 := SB1.out.cell 2 _ rfl
  have b3 := SB1.out.cell 3 _ rfl
  go_wp2_with fail
  refine (l06Ok_any _ _ s2 IS2.out g2 _ xs2 p2 HA_21.out _ ys2 q2 HB_21.out b0 b1 b2 b3).mono ?_
  rintro e w2 ⟨he, kd, hw⟩
  have hb2 : Below w1.heap.size w1 w2 := by rw [hw]; exact below_drewN (Below.refl _ _) _
  clear hw
  rw [HE2.out] at he
  subst he
  have H2 := Lib.hid (H1.out.trans (hb2.mono H1.out.size))
  have SA2 := Lib.hid (SA1.out.later hb2)
  have SB2 := Lib.hid (SB1.out.later hb2)
  have SZ2 := Lib.hid (SZ1.out.later hb2)
  have HA_ := Lib.hid (HA1.out.later hb2)
  have HB_ := Lib.hid (HB1.out.later hb2)
  have HA_2_ := Lib.hid (HA_21.out.later hb2)
  have HB_2_ := Lib.hid (HB_21.out.later hb2)
  have zz2 : w.heap.size + 3 ≤ w2.heap.size := by have := hb2.size; omega
  clear hb2 b0 b1 b2 b3 SA1 SB1 SZ1 H1 HA1 HB1 HA_21 HB_21
  go_wp2_with fail
  refine (l01Name_any _ nm INM.out).mono ?_
  rintro e w3 ⟨he, hw⟩
  obtain rfl := hw.symm
  clear hw
  rw [HE3.out] at he
  subst he
  have a1 := SA2.out.cell 1 _ rfl
  have a2 := SA2.out.cell 2 _ rfl
  have a3 := SA2.out.cell 3 _ rfl
  have b1 := SB2.out.cell 1 _ rfl
  have b2 := SB2.out.cell 2 _ rfl
  have b3 := SB2.out.cell 3 _ rfl
  go_wp2_with fail
  refine (HG.out _).mono ?_
  rintro e w4 ⟨rfl, rfl⟩
  have HC1 : Hid (∀ V : World, Below w2.heap.size w2 V → Calls Try.prog 42 #[(.slice (some ⟨ga, 0, none⟩) 36 ca), (.slice (some ⟨ga2, 0, none⟩) 36 ca2), .int .i64 (G - g), .int .i64 (G - g2)] V fun e w' => ∃ A n c, e = .returned (.slice A n c) ∧ Row 2 w' V.heap.size (.slice A n c) (envL xs xs2 (G - g) (G - g2)) ∧ Below V.heap.size V w') := fun V hV => l06Lesser_any V _ xs _ (HA_.out.later hV) _ xs2 _ (HA_2_.out.later hV) _ _ (by rw [HN1.out, HM1.out]) (by rw [HN1.out]; omega) (by rw [HN1.out]; omega) (by rw [HN1.out]; exact B1.out) (by rw [HN1.out]; exact B3.out) (by omega) (by omega) (by omega) (by omega)
  have HC2 : Hid (∀ V : World, Below w2.heap.size w2 V → Calls Try.prog 42 #[(.slice (some ⟨gb, 0, none⟩) 19 cb), (.slice (some ⟨gb2, 0, none⟩) 19 cb2), .int .i64 (G - g), .int .i64 (G - g2)] V fun e w' => ∃ A n c, e = .returned (.slice A n c) ∧ Row 2 w' V.heap.size (.slice A n c) (envL ys ys2 (G - g) (G - g2)) ∧ Below V.heap.size V w') := fun V hV => l06Lesser_any V _ ys _ (HB_.out.later hV) _ ys2 _ (HB_2_.out.later hV) _ _ (by rw [HN2.out, HM2.out]) (by rw [HN2.out]; omega) (by rw [HN2.out]; omega) (by rw [HN2.out]; exact B2.out) (by rw [HN2.out]; exact B4.out) (by omega) (by omega) (by omega) (by omega)
  have i1 : IntKind.i64.wrap (G - g) = G - g := by rw [IntKind.wrap_i64]; omega
  have i2 : IntKind.i64.wrap (G - g2) = G - g2 := by rw [IntKind.wrap_i64]; omega
  rw [← HE1.out] at HC1
  rw [← HE2_.out] at HC2
  go_wp2_with fail
  go_region_held3 (fun w' => w'.cell? ⟨w.heap.size, 1, none⟩ = some (.int .i64 g) ∧ w'.cell? ⟨w.heap.size, 2, none⟩ = some ((.slice (some ⟨ga, 0, none⟩) 36 ca)) ∧ w'.cell? ⟨w.heap.size, 3, none⟩ = some ((.slice (some ⟨gb, 0, none⟩) 19 cb)) ∧ w'.cell? ⟨w.heap.size + 1, 1, none⟩ = some (.int .i64 g2) ∧ w'.cell? ⟨w.heap.size + 1, 2, none⟩ = some ((.slice (some ⟨ga2, 0, none⟩) 36 ca2)) ∧ w'.cell? ⟨w.heap.size + 1, 3, none⟩ = some ((.slice (some ⟨gb2, 0, none⟩) 19 cb2)))
    (((try go_split_ands); (refine ⟨?_, ?_, ?_, ?_, ?_, ?_⟩ <;> (repeat (first | (with_reducible assumption) | (with_reducible refine cell_drew ?_) | (with_reducible refine cell_drewN ?_) | (with_reducible refine keeps hb ?_) | ((with_reducible refine cell_alloc ?_ _)) | ((with_reducible refine cell_set1 ?_ ?_); (focus (omega; done))))))))
    (first
      | (go_at_call 42; ((with_reducible refine (HC1.out _ (by repeat (first | (with_reducible exact Below.refl _ _) | (with_reducible assumption) | ((with_reducible refine bl_alloc ?_ _ ?_); (focus ((first | omega | (simp <;> omega)); done))) | ((with_reducible refine bl_set ?_ _ ?_); (focus ((first | omega | (simp <;> omega)); done))) | (with_reducible refine below_drewN ?_ _) | (with_reducible refine Below.drew ?_)))).mono ?_); rintro e w5 ⟨A0, k0, c0, rfl, hr0, hb⟩; have H5 := Lib.hid (show Below w2.heap.size w2 w5 from ⟨hb.os, hb.tape, hb.output, hb.size, hb.block⟩); have R0 := Lib.hid hr0))
      | (go_at_call 42; ((with_reducible refine (HC2.out w5 H5.out).mono ?_); rintro e w6 ⟨A1, k1, c1, rfl, hr1, hb⟩; have H6 := Lib.hid (show Below w2.heap.size w2 w6 from H5.out.trans (hb.mono H5.out.size)); have R1 := Lib.hid hr1; have R02 := Lib.hid (R0.out.later hb); have SZ6 := Lib.hid (SZ2.out.later H6.out); have z0 := SZ6.out.cell 0 _ rfl; have z1 := SZ6.out.cell 1 _ rfl; have z2 := SZ6.out.cell 2 _ rfl; have z3 := SZ6.out.cell 3 _ rfl; have zf := SZ6.out.free)))
  have HB6 := Lib.hid (show Below w.heap.size w w6 from H2.out.trans (H6.out.mono H2.out.size))
  have z5W : w2.heap.size ≤ w5.heap.size := H5.out.size
  have r0 := Row.base_le (b' := w.heap.size + 3) R02.out (by show w.heap.size + 3 ≤ w2.heap.size; omega)
  have r1 := Row.base_le (b' := w.heap.size + 3) R1.out (by omega)
  have HAp : Hid (Apart (.slice A0 k0 c0) (.slice A1 k1 c1)) := fun b h q => by have := (R0.out.lt b h).2; have := (R1.out.lt b q).1; omega
  have RR0 := Lib.hid r0
  have RR1 := Lib.hid r1
  clear r0 r1
  go_wp2_with fail
  refine bodyPost_ret (v := .tuple #[.agg #[.string nm, .int .i64 G, .slice A0 k0 c0, .slice A1 k1 c1], .int .i64 0]) (by simp [results, Try.results9, go_sem, *]) rfl ?_
  refine ⟨_, _, _, _, _, _, rfl, ?_, ?_, HAp.out, by repeat (first | (with_reducible exact Below.refl _ _) | (with_reducible assumption) | ((with_reducible refine bl_alloc ?_ _ ?_); (focus ((first | omega | (simp <;> omega)); done))) | ((with_reducible refine bl_set ?_ _ ?_); (focus ((first | omega | (simp <;> omega)); done))) | (with_reducible refine below_drewN ?_ _) | (with_reducible refine Below.drew ?_) | ((with_reducible refine bl_trans ?_ HB6.out ?_); (focus ((first | omega | (simp <;> omega)); done))))⟩
  · refine Row.base_le (base := w.heap.size + 3) ?_ (by omega)
    repeat (first | (with_reducible exact RR0.out) | ((with_reducible refine Row.low ?_ _ ?_); (focus ((first | omega | (simp <;> omega)); done))))
  · refine Row.base_le (base := w.heap.size + 3) ?_ (by omega)
    repeat (first | (with_reducible exact RR1.out) | ((with_reducible refine Row.low ?_ _ ?_); (focus ((first | omega | (simp <;> omega)); done))))
set_option maxRecDepth 20000 in
set_option maxHeartbeats 8000000 in
theorem impl_good (w : World) (s : ByteArray) (is : s.size ≤ maxLen) (g : Int) (ig : In64 g) (a : Value) (xs : List Int) (p : Nat) (ha : Row 2 w p a xs) (jxs : ∀ n ∈ xs, In64 n) (b : Value) (ys : List Int) (q : Nat) (hb : Row 2 w q b ys) (jys : ∀ n ∈ ys, In64 n) (s2 : ByteArray) (is2 : s2.size ≤ maxLen) (g2 : Int) (ig2 : In64 g2) (a2 : Value) (xs2 : List Int) (p2 : Nat) (ha2 : Row 2 w p2 a2 xs2) (jxs2 : ∀ n ∈ xs2, In64 n) (b2 : Value) (ys2 : List Int) (q2 : Nat) (hb2 : Row 2 w q2 b2 ys2) (jys2 : ∀ n ∈ ys2, In64 n) (nm : ByteArray) (inm : nm.size ≤ maxLen) (hv : antB s g xs ys = true) (hv2 : antB s2 g2 xs2 ys2 = true) (hv3 : nameB nm = true) :
    Calls Try.prog 11 #[.agg #[.string s, .int .i64 g, a, b], .agg #[.string s2, .int .i64 g2, a2, b2], .string nm] w fun e w' => ∃ A0 n0 c0 A1 n1 c1, e = .returned (.tuple #[.agg #[.string (envN s g xs ys s2 g2 xs2 ys2 nm), .int .i64 (envG s g xs ys s2 g2 xs2 ys2 nm), .slice A0 n0 c0, .slice A1 n1 c1], .int .i64 (envC s g xs ys s2 g2 xs2 ys2 nm)]) ∧ Row 2 w' w.heap.size (.slice A0 n0 c0) (envH s g xs ys s2 g2 xs2 ys2 nm) ∧ Row 2 w' w.heap.size (.slice A1 n1 c1) (envW s g xs ys s2 g2 xs2 ys2 nm) ∧ Apart (.slice A0 n0 c0) (.slice A1 n1 c1) ∧ Below w.heap.size w w' := by
  have IS := Lib.hid is
  have IS2 := Lib.hid is2
  have INM := Lib.hid inm
  have HA := Lib.hid ha
  have HB := Lib.hid hb
  have HA2 := Lib.hid ha2
  have HB2 := Lib.hid hb2
  clear is is2 inm ig ig2 jxs jys jxs2 jys2
  obtain ⟨e1, e2, e3, e4, e5⟩ := env_yes hv hv2 hv3
  rw [e1, e2, e3, e4, e5]
  clear e1 e2 e3 e4 e5
  obtain ⟨ga, ca, gb, cb, rfl, rfl, n1, n2, r1, r2, l1, l2, k1, k2⟩ := ant_open hv HA.out HB.out
  obtain ⟨ga2, ca2, gb2, cb2, rfl, rfl, m1, m2, t1, t2, l3, l4, k3, k4⟩ := ant_open hv2 HA2.out HB2.out
  obtain ⟨_, g0, g1, _, _⟩ := ant_parts hv
  obtain ⟨_, g20, g21, _, _⟩ := ant_parts hv2
  have HE := Lib.hid hv
  have HE2 := Lib.hid hv2
  have HE3 := Lib.hid hv3
  have HK1 := Lib.hid k1
  have HK2 := Lib.hid k2
  have HK3 := Lib.hid k3
  have HK4 := Lib.hid k4
  have HN1 := Lib.hid n1
  have HN2 := Lib.hid n2
  have HM1 := Lib.hid m1
  have HM2 := Lib.hid m2
  have B1 := Lib.hid (all_at r1 n1)
  have B2 := Lib.hid (all_at r2 n2)
  have B3 := Lib.hid (all_at t1 m1)
  have B4 := Lib.hid (all_at t2 m2)
  clear hv hv2 hv3 k1 k2 k3 k4 n1 n2 m1 m2 r1 r2 t1 t2
  obtain ⟨G, hG⟩ : ∃ G, G = max g g2 := ⟨_, rfl⟩
  have G1 : g ≤ G := by omega
  have G2 : g2 ≤ G := by omega
  have G3 : G ≤ 60000 := by omega
  rw [← hG]
  have hmx : (g < g2 ∧ G = g2) ∨ (¬ g < g2 ∧ G = g) := by omega
  clear hG
  rcases hmx with ⟨hm1, hm2⟩ | ⟨hm1, hm2⟩
  · have hm3 := hm2.symm
    clear hm2
    subst hm3
    obtain ⟨i0, hi, hz0, hz1, hz2⟩ := info_parts Try.info_i64
    have HI := Lib.hid hi
    have HZ0 := Lib.hid hz0
    have HZ1 := Lib.hid hz1
    have HZ2 := Lib.hid hz2
    clear hi hz0 hz1 hz2
    have EL1 := Lib.hid ((envL_len xs xs2 (g2 - g) (g2 - g2)).trans HN1.out)
    have EL2 := Lib.hid ((envL_len ys ys2 (g2 - g) (g2 - g2)).trans HN2.out)
    have ES1 := Lib.hid (fun k (h : k < 36) => envL_step (xs := xs) (ys := xs2) (u := g2 - g) (d := g2 - g2) (k := k) (by rw [HN1.out]; exact h))
    have ES2 := Lib.hid (fun k (h : k < 19) => envL_step (xs := ys) (ys := ys2) (u := g2 - g) (d := g2 - g2) (k := k) (by rw [HN2.out]; exact h))
    obtain ⟨E1, hE1⟩ : ∃ E, E = envL xs xs2 (g2 - g) (g2 - g2) := ⟨_, rfl⟩
    obtain ⟨E2, hE2⟩ : ∃ E, E = envL ys ys2 (g2 - g) (g2 - g2) := ⟨_, rfl⟩
    rw [← hE1] at EL1 ES1 ⊢
    rw [← hE2] at EL2 ES2 ⊢
    clear hE1 hE2
    go_enter Try.func11, Try.ntmps11
    go_wp2_with fail
    refine (ValidAntenna_any _ s IS.out g _ xs p (((HA.out.alloc_ _).alloc_ _).alloc_ _) _ ys q (((HB.out.alloc_ _).alloc_ _).alloc_ _)).mono ?_
    rintro e w1 ⟨he, hb1⟩
    rw [HE.out] at he
    subst he
    have H1 := Lib.hid (show Below w.heap.size w w1 by repeat (first | (with_reducible exact Below.refl _ _) | (with_reducible assumption) | ((with_reducible refine bl_alloc ?_ _ ?_); (focus ((first | omega | (simp <;> omega)); done))) | ((with_reducible refine bl_set ?_ _ ?_); (focus ((first | omega | (simp <;> omega)); done))) | (with_reducible refine below_drewN ?_ _) | (with_reducible refine Below.drew ?_) | ((with_reducible refine bl_trans ?_ hb1 ?_); (focus ((first | omega | (simp <;> omega)); done)))))
    have SA1 := Lib.hid (show SInv w1 w.heap.size [.string s, .int .i64 g, (.slice (some ⟨ga, 0, none⟩) 36 ca), (.slice (some ⟨gb, 0, none⟩) 19 cb)] from (((SInv.fresh w #[.string s, .int .i64 g, (.slice (some ⟨ga, 0, none⟩) 36 ca), (.slice (some ⟨gb, 0, none⟩) 19 cb)] 26).alloc_ (.cells #[.string s2, .int .i64 g2, (.slice (some ⟨ga2, 0, none⟩) 36 ca2), (.slice (some ⟨gb2, 0, none⟩) 19 cb2)] 26)).alloc_ (.cells #[.string ⟨#[]⟩, .int .i64 0, .slice none 0 0, .slice none 0 0] 26)).later hb1)
    have SB1 := Lib.hid (show SInv w1 (w.heap.size + 1) [.string s2, .int .i64 g2, (.slice (some ⟨ga2, 0, none⟩) 36 ca2), (.slice (some ⟨gb2, 0, none⟩) 19 cb2)] from by have h := ((SInv.fresh (w.alloc (.cells #[.string s, .int .i64 g, (.slice (some ⟨ga, 0, none⟩) 36 ca), (.slice (some ⟨gb, 0, none⟩) 19 cb)] 26)) #[.string s2, .int .i64 g2, (.slice (some ⟨ga2, 0, none⟩) 36 ca2), (.slice (some ⟨gb2, 0, none⟩) 19 cb2)] 26).alloc_ (.cells #[.string ⟨#[]⟩, .int .i64 0, .slice none 0 0, .slice none 0 0] 26)).later hb1; simpa using h)
    have SZ1 := Lib.hid (show SInv w1 (w.heap.size + 2) [.string ⟨#[]⟩, .int .i64 0, .slice none 0 0, .slice none 0 0] from by have h := (SInv.fresh ((w.alloc (.cells #[.string s, .int .i64 g, (.slice (some ⟨ga, 0, none⟩) 36 ca), (.slice (some ⟨gb, 0, none⟩) 19 cb)] 26)).alloc (.cells #[.string s2, .int .i64 g2, (.slice (some ⟨ga2, 0, none⟩) 36 ca2), (.slice (some ⟨gb2, 0, none⟩) 19 cb2)] 26)) #[.string ⟨#[]⟩, .int .i64 0, .slice none 0 0, .slice none 0 0] 26).later hb1; simpa using h)
    have HA1 := Lib.hid ((((HA.out.alloc_ (.cells #[.string s, .int .i64 g, (.slice (some ⟨ga, 0, none⟩) 36 ca), (.slice (some ⟨gb, 0, none⟩) 19 cb)] 26)).alloc_ (.cells #[.string s2, .int .i64 g2, (.slice (some ⟨ga2, 0, none⟩) 36 ca2), (.slice (some ⟨gb2, 0, none⟩) 19 cb2)] 26)).alloc_ (.cells #[.string ⟨#[]⟩, .int .i64 0, .slice none 0 0, .slice none 0 0] 26)).later hb1)
    have HB1 := Lib.hid ((((HB.out.alloc_ (.cells #[.string s, .int .i64 g, (.slice (some ⟨ga, 0, none⟩) 36 ca), (.slice (some ⟨gb, 0, none⟩) 19 cb)] 26)).alloc_ (.cells #[.string s2, .int .i64 g2, (.slice (some ⟨ga2, 0, none⟩) 36 ca2), (.slice (some ⟨gb2, 0, none⟩) 19 cb2)] 26)).alloc_ (.cells #[.string ⟨#[]⟩, .int .i64 0, .slice none 0 0, .slice none 0 0] 26)).later hb1)
    have HA_21 := Lib.hid ((((HA2.out.alloc_ (.cells #[.string s, .int .i64 g, (.slice (some ⟨ga, 0, none⟩) 36 ca), (.slice (some ⟨gb, 0, none⟩) 19 cb)] 26)).alloc_ (.cells #[.string s2, .int .i64 g2, (.slice (some ⟨ga2, 0, none⟩) 36 ca2), (.slice (some ⟨gb2, 0, none⟩) 19 cb2)] 26)).alloc_ (.cells #[.string ⟨#[]⟩, .int .i64 0, .slice none 0 0, .slice none 0 0] 26)).later hb1)
    have HB_21 := Lib.hid ((((HB2.out.alloc_ (.cells #[.string s, .int .i64 g, (.slice (some ⟨ga, 0, none⟩) 36 ca), (.slice (some ⟨gb, 0, none⟩) 19 cb)] 26)).alloc_ (.cells #[.string s2, .int .i64 g2, (.slice (some ⟨ga2, 0, none⟩) 36 ca2), (.slice (some ⟨gb2, 0, none⟩) 19 cb2)] 26)).alloc_ (.cells #[.string ⟨#[]⟩, .int .i64 0, .slice none 0 0, .slice none 0 0] 26)).later hb1)
    have zz1 : w.heap.size + 3 ≤ w1.heap.size := by have := hb1.size; simp at this; omega
    clear hb1
    have b0 := SB1.out.cell 0 _ rfl
    have b1 := SB1.out.cell 1 _ rfl
    have b2 := SB1.out.cell 2 _ rfl
    have b3 := SB1.out.cell 3 _ rfl
    go_wp2_with fail
    refine (ValidAntenna_any _ s2 IS2.out g2 _ xs2 p2 HA_21.out _ ys2 q2 HB_21.out).mono ?_
    rintro e w2 ⟨he, hb2⟩
    rw [HE2.out] at he
    subst he
    have H2 := Lib.hid (H1.out.trans (hb2.mono H1.out.size))
    have SA2 := Lib.hid (SA1.out.later hb2)
    have SB2 := Lib.hid (SB1.out.later hb2)
    have SZ2 := Lib.hid (SZ1.out.later hb2)
    have HA_ := Lib.hid (HA1.out.later hb2)
    have HB_ := Lib.hid (HB1.out.later hb2)
    have HA_2_ := Lib.hid (HA_21.out.later hb2)
    have HB_2_ := Lib.hid (HB_21.out.later hb2)
    have zz2 : w.heap.size + 3 ≤ w2.heap.size := by have := hb2.size; omega
    clear hb2 b0 b1 b2 b3 SA1 SB1 SZ1 H1 HA1 HB1 HA_21 HB_21
    go_wp2_with fail
    refine (IsName_any _ nm INM.out).mono ?_
    rintro e w3 ⟨he, hw⟩
    obtain rfl := hw.symm
    clear hw
    rw [HE3.out] at he
    subst he
    have a0 := SA2.out.cell 0 _ rfl
    have a1 := SA2.out.cell 1 _ rfl
    have a2 := SA2.out.cell 2 _ rfl
    have a3 := SA2.out.cell 3 _ rfl
    have b0 := SB2.out.cell 0 _ rfl
    have b1 := SB2.out.cell 1 _ rfl
    have b2 := SB2.out.cell 2 _ rfl
    have b3 := SB2.out.cell 3 _ rfl
    have SO := Lib.hid (SInv.fresh w2 #[.string nm, .int .i64 g2, .slice none 0 0, .slice none 0 0] 26)
    have HBO := Lib.hid (show Below w2.heap.size w2 (w2.alloc (.cells #[.string nm, .int .i64 g2, .slice none 0 0, .slice none 0 0] 26)) by repeat (first | (with_reducible exact Below.refl _ _) | (with_reducible assumption) | ((with_reducible refine bl_alloc ?_ _ ?_); (focus ((first | omega | (simp <;> omega)); done))) | ((with_reducible refine bl_set ?_ _ ?_); (focus ((first | omega | (simp <;> omega)); done))) | (with_reducible refine below_drewN ?_ _) | (with_reducible refine Below.drew ?_)))
    have cq2 := cell_alloc a2 (.cells #[.string nm, .int .i64 g2, .slice none 0 0, .slice none 0 0] 26)
    go_wp2_with fail
    clear a0 a1 a2 a3 b0 b1 b2 b3 cq2
    go_loopw [39] (fun i wr => ∃ (k : Nat) (t : Value), k ≤ 36 ∧ i = .int .i64 (k : Int) ∧ Hid (SInv wr (w2.heap.size) [.string nm, .int .i64 g2, t, .slice none 0 0]) ∧ Hid (Row 2 wr ((w2.heap.size) + 1) t (E1.take k)) ∧ Hid (t.ownBlock ≠ some (w2.heap.size)) ∧ Hid (Below w2.heap.size w2 wr)) (fun i _ => 37 - (intOf i).toNat)
    case atStart => exact ⟨0, .slice none 0 0, Nat.zero_le _, rfl, SO, Row.nil_, (by simp [Value.ownBlock, Hid]), HBO⟩
    case round =>
      obtain ⟨k, t, hk, rfl, hs, hr, hne, hbw⟩ := hrel
      have k0 : (0 : Int) ≤ (k : Int) := Int.natCast_nonneg _
      have zO : (w2.heap.size) < wr.heap.size := hs.out.lt
      by_cases hlt : k < 36
      · have hlt' : (k : Int) < 36 := by omega
        have hBW := H2.out.trans (hbw.out.mono H2.out.size)
        have y2 := hs.out.cell 2 _ rfl
        have yA : ∀ (n : Nat) (o : Obj), ((wr.drewN n).alloc o).cell? ⟨(w2.heap.size), 2, none⟩ = some t := fun n o => cell_alloc (w := wr.drewN n) y2 o
        have yB : ∀ o : Obj, (wr.alloc o).cell? ⟨(w2.heap.size), 2, none⟩ = some t := fun o => cell_alloc y2 o
        have cb := (SB2.out.later hbw.out).cell 2 _ rfl
        have cx := (hBW.cell (p := ⟨ga, k, none⟩) l1).trans (HK1.out k hlt)
        have cy := (hBW.cell (p := ⟨ga2, k, none⟩) l3).trans (HK3.out k hlt)
        have HCL : Hid (∀ (W : World), W.heap = wr.heap → Calls Try.prog 46 #[.int .i64 (xs.getD k 0), .int .i64 (xs2.getD k 0), .pointer (some ⟨(w2.heap.size), 0, none⟩), .pointer (some ⟨w.heap.size, 0, none⟩), .pointer (some ⟨w.heap.size + 1, 0, none⟩)] W fun e w' => e = .returned (.int .i64 (min 60000 (min (xs.getD k 0 + (g2 - g)) (xs2.getD k 0 + (g2 - g2))))) ∧ W = w') := fun W hW => by
          obtain ⟨x0, x1⟩ := B1.out k hlt
          obtain ⟨y0, y1⟩ := B3.out k hlt
          exact least_any W _ _ g2 g g2 (w2.heap.size) w.heap.size (w.heap.size + 1) x0 x1 y0 y1 (by omega) (by omega) (by omega) (by omega) (by omega) (by omega) ((cell_heap hW _).trans (hs.out.cell 1 _ rfl)) ((cell_heap hW _).trans ((SA2.out.later hbw.out).cell 1 _ rfl)) ((cell_heap hW _).trans ((SB2.out.later hbw.out).cell 1 _ rfl))
        have hlen : (E1.take k).length = k := by rw [List.length_take, EL1.out]; omega
        have hst := Lib.hid (ES1.out k hlt)
        obtain ⟨zs, hzs⟩ : ∃ zs, zs = E1.take k := ⟨_, rfl⟩
        rw [← hzs] at hr hlen hst
        clear hzs
        obtain ⟨x, hx⟩ : ∃ x, x = xs.getD k 0 := ⟨_, rfl⟩
        obtain ⟨y, hy⟩ : ∃ y, y = xs2.getD k 0 := ⟨_, rfl⟩
        rw [← hx] at cx hst HCL
        rw [← hy] at cy hst HCL
        clear hx hy
        obtain ⟨K, hK⟩ : ∃ K, K = min 60000 (min (x + (g2 - g)) (y + (g2 - g2))) := ⟨_, rfl⟩
        rw [← hK] at hst HCL
        clear hK hBW
        go_wp2_with fail
        go_region_law (first | (refine step_append_lies _ (by rfl) _ _ _ (by rfl) ((w2.heap.size) + 1) 2 i0 (.int .i64 0) 1 8 Try.underlying22 HI.out HZ0.out HZ1.out HZ2.out rfl (by omega) t k (zs.map (Value.int .i64)) (by rfl) (env_owns hlen (hr.out.alloc_ (.cells #[.int .i64 K] 2))) ⟨wr.heap.size, 0, none⟩ 1 1 [.int .i64 K] (by rfl) (by rfl) (World.news_of_block (cs := #[.int .i64 K]) (t := 2) (fr := (0, 0)) (heap_alloc_new wr _)) (by simp [Value.oneCell']) (by omega) (by unfold maxLen; omega) (by omega) (by simp <;> omega) (wr.heap.size + 1) (by simp) ?_; intro g3 cap3 w3 hown hgrow hat hlt3; have q2 := (hgrow.cell_far ⟨(w2.heap.size), 2, none⟩ (by simp <;> omega) (fun q => hne.out q.symm)).trans (cell_alloc y2 (.cells #[.int .i64 K] 2)); have qf := (hgrow.frozen_far ⟨(w2.heap.size), 2, none⟩ (by simp <;> omega) (fun q => hne.out q.symm)).trans ((hs.out.alloc_ (.cells #[.int .i64 K] 2)).free 2)) | (go_simp; go_at_call 46; ((with_reducible refine (HCL.out wr.drew (drew_heap wr)).mono ?_); rintro e w7 ⟨rfl, rfl⟩)))
        all_goals
          have hp := push_row 2 (by simp) hs.out hr.out hne.out (by repeat (first | (with_reducible exact Below.refl _ _) | (with_reducible assumption) | ((with_reducible refine bl_alloc ?_ _ ?_); (focus ((first | omega | (simp <;> omega)); done))) | ((with_reducible refine bl_set ?_ _ ?_); (focus ((first | omega | (simp <;> omega)); done))) | (with_reducible refine below_drewN ?_ _) | (with_reducible refine Below.drew ?_))) hgrow hat (by omega) hlen hown
          obtain ⟨p1, p2', p3, p4, p5⟩ := hp
          have P1 := Lib.hid p1
          rw [← hst.out] at p2'
          have P2 := Lib.hid p2'
          have P3 := Lib.hid p3
          have PB := Lib.hid (show Below w2.heap.size w2 _ from hbw.out.trans (p4.below hbw.out.size (fun b q => by rcases q with q | q; (have := (hr.out.lt _ q).1; omega); omega)))
          clear yA yB y2 hown hgrow p1 p2' p3 p4 p5 q2 qf hat cb cx cy
          go_wp2
          refine ⟨?_, ?_⟩
          · first
              | ((repeat apply Exists.intro); (refine ⟨?_, rfl⟩); exact ⟨k + 1, .slice (some ⟨g3, 0, none⟩) (k + 1) cap3, hlt, rfl, P1, P2, P3, PB⟩)
              | exact ⟨k + 1, .slice (some ⟨g3, 0, none⟩) (k + 1) cap3, hlt, rfl, P1, P2, P3, PB⟩
              | exact ⟨(k + 1 : Nat), .slice (some ⟨g3, 0, none⟩) (k + 1) cap3, hlt, rfl, P1, P2, P3, PB⟩
          · first | (simp [intOf]; done) | (simp [intOf]; omega)
      · have hge : 36 ≤ k := by omega
        have hgI : (36 : Int) ≤ (k : Int) := by omega
        have hrE : Hid (Row 2 wr ((w2.heap.size) + 1) t E1) := by
          have h := hr.out
          rw [List.take_of_length_le (by rw [EL1.out]; omega)] at h
          exact h
        clear hr
        have hrH := hrE
        have hneH := hne
        obtain ⟨tH, htH⟩ : ∃ tH, tH = t := ⟨_, rfl⟩
        rw [← htH] at hs hrH hneH
        clear hrE hne htH
        have c3 := (SA2.out.later hbw.out).cell 3 _ rfl
        go_wp2_with fail
        clear c3
        go_loopw [61] (fun i wr => ∃ (k : Nat) (t : Value), k ≤ 19 ∧ i = .int .i64 (k : Int) ∧ Hid (SInv wr (w2.heap.size) [.string nm, .int .i64 g2, tH, t]) ∧ Hid (Row 2 wr ((w2.heap.size) + 1) t (E2.take k)) ∧ Hid (t.ownBlock ≠ some (w2.heap.size)) ∧ Hid (Row 2 wr ((w2.heap.size) + 1) tH E1) ∧ Hid (tH.ownBlock ≠ some (w2.heap.size)) ∧ Hid (Apart t tH) ∧ Hid (Below w2.heap.size w2 wr)) (fun i _ => 20 - (intOf i).toNat)
        case atStart => exact ⟨0, .slice none 0 0, Nat.zero_le _, rfl, hs, Row.nil_, (by simp [Value.ownBlock, Hid]), hrH, hneH, apart_nil, hbw⟩
        case round =>
          obtain ⟨k, t, hk, rfl, hs, hr, hne, hrH, hneH, hap, hbw⟩ := hrel
          have k0 : (0 : Int) ≤ (k : Int) := Int.natCast_nonneg _
          have zO : (w2.heap.size) < wr.heap.size := hs.out.lt
          by_cases hlt : k < 19
          · have hlt' : (k : Int) < 19 := by omega
            have hBW := H2.out.trans (hbw.out.mono H2.out.size)
            have y2 := hs.out.cell 3 _ rfl
            have yA : ∀ (n : Nat) (o : Obj), ((wr.drewN n).alloc o).cell? ⟨(w2.heap.size), 3, none⟩ = some t := fun n o => cell_alloc (w := wr.drewN n) y2 o
            have yB : ∀ o : Obj, (wr.alloc o).cell? ⟨(w2.heap.size), 3, none⟩ = some t := fun o => cell_alloc y2 o
            have cb := (SB2.out.later hbw.out).cell 3 _ rfl
            have cx := (hBW.cell (p := ⟨gb, k, none⟩) l2).trans (HK2.out k hlt)
            have cy := (hBW.cell (p := ⟨gb2, k, none⟩) l4).trans (HK4.out k hlt)
            have HCL : Hid (∀ (W : World), W.heap = wr.heap → Calls Try.prog 46 #[.int .i64 (ys.getD k 0), .int .i64 (ys2.getD k 0), .pointer (some ⟨(w2.heap.size), 0, none⟩), .pointer (some ⟨w.heap.size, 0, none⟩), .pointer (some ⟨w.heap.size + 1, 0, none⟩)] W fun e w' => e = .returned (.int .i64 (min 60000 (min (ys.getD k 0 + (g2 - g)) (ys2.getD k 0 + (g2 - g2))))) ∧ W = w') := fun W hW => by
              obtain ⟨x0, x1⟩ := B2.out k hlt
              obtain ⟨y0, y1⟩ := B4.out k hlt
              exact least_any W _ _ g2 g g2 (w2.heap.size) w.heap.size (w.heap.size + 1) x0 x1 y0 y1 (by omega) (by omega) (by omega) (by omega) (by omega) (by omega) ((cell_heap hW _).trans (hs.out.cell 1 _ rfl)) ((cell_heap hW _).trans ((SA2.out.later hbw.out).cell 1 _ rfl)) ((cell_heap hW _).trans ((SB2.out.later hbw.out).cell 1 _ rfl))
            have hlen : (E2.take k).length = k := by rw [List.length_take, EL2.out]; omega
            have hst := Lib.hid (ES2.out k hlt)
            obtain ⟨zs, hzs⟩ : ∃ zs, zs = E2.take k := ⟨_, rfl⟩
            rw [← hzs] at hr hlen hst
            clear hzs
            obtain ⟨x, hx⟩ : ∃ x, x = ys.getD k 0 := ⟨_, rfl⟩
            obtain ⟨y, hy⟩ : ∃ y, y = ys2.getD k 0 := ⟨_, rfl⟩
            rw [← hx] at cx hst HCL
            rw [← hy] at cy hst HCL
            clear hx hy
            obtain ⟨K, hK⟩ : ∃ K, K = min 60000 (min (x + (g2 - g)) (y + (g2 - g2))) := ⟨_, rfl⟩
            rw [← hK] at hst HCL
            clear hK hBW
            go_wp2_with fail
            go_region_law (first | (refine step_append_lies _ (by rfl) _ _ _ (by rfl) ((w2.heap.size) + 1) 2 i0 (.int .i64 0) 1 8 Try.underlying22 HI.out HZ0.out HZ1.out HZ2.out rfl (by omega) t k (zs.map (Value.int .i64)) (by rfl) (env_owns hlen (hr.out.alloc_ (.cells #[.int .i64 K] 2))) ⟨wr.heap.size, 0, none⟩ 1 1 [.int .i64 K] (by rfl) (by rfl) (World.news_of_block (cs := #[.int .i64 K]) (t := 2) (fr := (0, 0)) (heap_alloc_new wr _)) (by simp [Value.oneCell']) (by omega) (by unfold maxLen; omega) (by omega) (by simp <;> omega) (wr.heap.size + 1) (by simp) ?_; intro g3 cap3 w3 hown hgrow hat hlt3; have q2 := (hgrow.cell_far ⟨(w2.heap.size), 3, none⟩ (by simp <;> omega) (fun q => hne.out q.symm)).trans (cell_alloc y2 (.cells #[.int .i64 K] 2)); have qf := (hgrow.frozen_far ⟨(w2.heap.size), 3, none⟩ (by simp <;> omega) (fun q => hne.out q.symm)).trans ((hs.out.alloc_ (.cells #[.int .i64 K] 2)).free 3)) | (go_simp; go_at_call 46; ((with_reducible refine (HCL.out wr.drew (drew_heap wr)).mono ?_); rintro e w7 ⟨rfl, rfl⟩)))
            all_goals
              have hp := push_row 3 (by simp) hs.out hr.out hne.out (by repeat (first | (with_reducible exact Below.refl _ _) | (with_reducible assumption) | ((with_reducible refine bl_alloc ?_ _ ?_); (focus ((first | omega | (simp <;> omega)); done))) | ((with_reducible refine bl_set ?_ _ ?_); (focus ((first | omega | (simp <;> omega)); done))) | (with_reducible refine below_drewN ?_ _) | (with_reducible refine Below.drew ?_))) hgrow hat (by omega) hlen hown
              obtain ⟨p1, p2', p3, p4, p5⟩ := hp
              have P1 := Lib.hid p1
              rw [← hst.out] at p2'
              have P2 := Lib.hid p2'
              have P3 := Lib.hid p3
              have PB := Lib.hid (show Below w2.heap.size w2 _ from hbw.out.trans (p4.below hbw.out.size (fun b q => by rcases q with q | q; (have := (hr.out.lt _ q).1; omega); omega)))
              have PH := Lib.hid (hrH.out.writes p4 (fun b h q => by rcases q with q | q; exact hap.out _ q h; exact hneH.out (by rw [h, q])))
              have PA := Lib.hid (p5 tH (fun b h => (hrH.out.lt b h).2) hap.out)
              clear yA yB y2 hown hgrow p1 p2' p3 p4 p5 q2 qf hat cb cx cy
              go_wp2
              refine ⟨?_, ?_⟩
              · first
                  | ((repeat apply Exists.intro); (refine ⟨?_, rfl⟩); exact ⟨k + 1, .slice (some ⟨g3, 0, none⟩) (k + 1) cap3, hlt, rfl, P1, P2, P3, PH, hneH, PA, PB⟩)
                  | exact ⟨k + 1, .slice (some ⟨g3, 0, none⟩) (k + 1) cap3, hlt, rfl, P1, P2, P3, PH, hneH, PA, PB⟩
                  | exact ⟨(k + 1 : Nat), .slice (some ⟨g3, 0, none⟩) (k + 1) cap3, hlt, rfl, P1, P2, P3, PH, hneH, PA, PB⟩
              · first | (simp [intOf]; done) | (simp [intOf]; omega)
          · have hge : 19 ≤ k := by omega
            have hgI : (19 : Int) ≤ (k : Int) := by omega
            have hrE : Hid (Row 2 wr ((w2.heap.size) + 1) t E2) := by
              have h := hr.out
              rw [List.take_of_length_le (by rw [EL2.out]; omega)] at h
              exact h
            clear hr
            have fH : ∃ A n c, tH = .slice A n c := by rcases hrH.out.forms with ⟨h, _⟩ | ⟨_, _, h, _⟩ <;> exact ⟨_, _, _, h⟩
            have fV : ∃ A n c, t = .slice A n c := by rcases hrE.out.forms with ⟨h, _⟩ | ⟨_, _, h, _⟩ <;> exact ⟨_, _, _, h⟩
            obtain ⟨A0, n0, c0, rfl⟩ := fH
            obtain ⟨A1, n1, c1, rfl⟩ := fV
            have y0 := hs.out.cell 0 _ rfl
            have y1 := hs.out.cell 1 _ rfl
            have y2 := hs.out.cell 2 _ rfl
            have y3 := hs.out.cell 3 _ rfl
            have SZ7 := Lib.hid (SZ2.out.later hbw.out)
            have z0 := SZ7.out.cell 0 _ rfl
            have z1 := SZ7.out.cell 1 _ rfl
            have z2 := SZ7.out.cell 2 _ rfl
            have z3 := SZ7.out.cell 3 _ rfl
            have zf := SZ7.out.free
            have HB7 := Lib.hid (H2.out.trans (hbw.out.mono H2.out.size))
            go_wp2_with fail
            refine bodyPost_ret (v := .tuple #[.agg #[.string nm, .int .i64 g2, .slice A0 n0 c0, .slice A1 n1 c1], .int .i64 0]) (by simp [results, Try.results11, go_sem, *]) rfl ?_
            refine ⟨_, _, _, _, _, _, rfl, ?_, ?_, hap.out.symm, by repeat (first | (with_reducible exact Below.refl _ _) | (with_reducible assumption) | ((with_reducible refine bl_alloc ?_ _ ?_); (focus ((first | omega | (simp <;> omega)); done))) | ((with_reducible refine bl_set ?_ _ ?_); (focus ((first | omega | (simp <;> omega)); done))) | (with_reducible refine below_drewN ?_ _) | (with_reducible refine Below.drew ?_) | ((with_reducible refine bl_trans ?_ HB7.out ?_); (focus ((first | omega | (simp <;> omega)); done))))⟩
            · refine Row.base_le (base := (w2.heap.size) + 1) ?_ (by omega)
              repeat (first | (with_reducible exact hrH.out) | ((with_reducible refine Row.low ?_ _ ?_); (focus ((first | omega | (simp <;> omega)); done))))
            · refine Row.base_le (base := (w2.heap.size) + 1) ?_ (by omega)
              repeat (first | (with_reducible exact hrE.out) | ((with_reducible refine Row.low ?_ _ ?_); (focus ((first | omega | (simp <;> omega)); done))))
  · have hm3 := hm2.symm
    clear hm2
    subst hm3
    obtain ⟨i0, hi, hz0, hz1, hz2⟩ := info_parts Try.info_i64
    have HI := Lib.hid hi
    have HZ0 := Lib.hid hz0
    have HZ1 := Lib.hid hz1
    have HZ2 := Lib.hid hz2
    clear hi hz0 hz1 hz2
    have EL1 := Lib.hid ((envL_len xs xs2 (g - g) (g - g2)).trans HN1.out)
    have EL2 := Lib.hid ((envL_len ys ys2 (g - g) (g - g2)).trans HN2.out)
    have ES1 := Lib.hid (fun k (h : k < 36) => envL_step (xs := xs) (ys := xs2) (u := g - g) (d := g - g2) (k := k) (by rw [HN1.out]; exact h))
    have ES2 := Lib.hid (fun k (h : k < 19) => envL_step (xs := ys) (ys := ys2) (u := g - g) (d := g - g2) (k := k) (by rw [HN2.out]; exact h))
    obtain ⟨E1, hE1⟩ : ∃ E, E = envL xs xs2 (g - g) (g - g2) := ⟨_, rfl⟩
    obtain ⟨E2, hE2⟩ : ∃ E, E = envL ys ys2 (g - g) (g - g2) := ⟨_, rfl⟩
    rw [← hE1] at EL1 ES1 ⊢
    rw [← hE2] at EL2 ES2 ⊢
    clear hE1 hE2
    go_enter Try.func11, Try.ntmps11
    go_wp2_with fail
    refine (ValidAntenna_any _ s IS.out g _ xs p (((HA.out.alloc_ _).alloc_ _).alloc_ _) _ ys q (((HB.out.alloc_ _).alloc_ _).alloc_ _)).mono ?_
    rintro e w1 ⟨he, hb1⟩
    rw [HE.out] at he
    subst he
    have H1 := Lib.hid (show Below w.heap.size w w1 by repeat (first | (with_reducible exact Below.refl _ _) | (with_reducible assumption) | ((with_reducible refine bl_alloc ?_ _ ?_); (focus ((first | omega | (simp <;> omega)); done))) | ((with_reducible refine bl_set ?_ _ ?_); (focus ((first | omega | (simp <;> omega)); done))) | (with_reducible refine below_drewN ?_ _) | (with_reducible refine Below.drew ?_) | ((with_reducible refine bl_trans ?_ hb1 ?_); (focus ((first | omega | (simp <;> omega)); done)))))
    have SA1 := Lib.hid (show SInv w1 w.heap.size [.string s, .int .i64 g, (.slice (some ⟨ga, 0, none⟩) 36 ca), (.slice (some ⟨gb, 0, none⟩) 19 cb)] from (((SInv.fresh w #[.string s, .int .i64 g, (.slice (some ⟨ga, 0, none⟩) 36 ca), (.slice (some ⟨gb, 0, none⟩) 19 cb)] 26).alloc_ (.cells #[.string s2, .int .i64 g2, (.slice (some ⟨ga2, 0, none⟩) 36 ca2), (.slice (some ⟨gb2, 0, none⟩) 19 cb2)] 26)).alloc_ (.cells #[.string ⟨#[]⟩, .int .i64 0, .slice none 0 0, .slice none 0 0] 26)).later hb1)
    have SB1 := Lib.hid (show SInv w1 (w.heap.size + 1) [.string s2, .int .i64 g2, (.slice (some ⟨ga2, 0, none⟩) 36 ca2), (.slice (some ⟨gb2, 0, none⟩) 19 cb2)] from by have h := ((SInv.fresh (w.alloc (.cells #[.string s, .int .i64 g, (.slice (some ⟨ga, 0, none⟩) 36 ca), (.slice (some ⟨gb, 0, none⟩) 19 cb)] 26)) #[.string s2, .int .i64 g2, (.slice (some ⟨ga2, 0, none⟩) 36 ca2), (.slice (some ⟨gb2, 0, none⟩) 19 cb2)] 26).alloc_ (.cells #[.string ⟨#[]⟩, .int .i64 0, .slice none 0 0, .slice none 0 0] 26)).later hb1; simpa using h)
    have SZ1 := Lib.hid (show SInv w1 (w.heap.size + 2) [.string ⟨#[]⟩, .int .i64 0, .slice none 0 0, .slice none 0 0] from by have h := (SInv.fresh ((w.alloc (.cells #[.string s, .int .i64 g, (.slice (some ⟨ga, 0, none⟩) 36 ca), (.slice (some ⟨gb, 0, none⟩) 19 cb)] 26)).alloc (.cells #[.string s2, .int .i64 g2, (.slice (some ⟨ga2, 0, none⟩) 36 ca2), (.slice (some ⟨gb2, 0, none⟩) 19 cb2)] 26)) #[.string ⟨#[]⟩, .int .i64 0, .slice none 0 0, .slice none 0 0] 26).later hb1; simpa using h)
    have HA1 := Lib.hid ((((HA.out.alloc_ (.cells #[.string s, .int .i64 g, (.slice (some ⟨ga, 0, none⟩) 36 ca), (.slice (some ⟨gb, 0, none⟩) 19 cb)] 26)).alloc_ (.cells #[.string s2, .int .i64 g2, (.slice (some ⟨ga2, 0, none⟩) 36 ca2), (.slice (some ⟨gb2, 0, none⟩) 19 cb2)] 26)).alloc_ (.cells #[.string ⟨#[]⟩, .int .i64 0, .slice none 0 0, .slice none 0 0] 26)).later hb1)
    have HB1 := Lib.hid ((((HB.out.alloc_ (.cells #[.string s, .int .i64 g, (.slice (some ⟨ga, 0, none⟩) 36 ca), (.slice (some ⟨gb, 0, none⟩) 19 cb)] 26)).alloc_ (.cells #[.string s2, .int .i64 g2, (.slice (some ⟨ga2, 0, none⟩) 36 ca2), (.slice (some ⟨gb2, 0, none⟩) 19 cb2)] 26)).alloc_ (.cells #[.string ⟨#[]⟩, .int .i64 0, .slice none 0 0, .slice none 0 0] 26)).later hb1)
    have HA_21 := Lib.hid ((((HA2.out.alloc_ (.cells #[.string s, .int .i64 g, (.slice (some ⟨ga, 0, none⟩) 36 ca), (.slice (some ⟨gb, 0, none⟩) 19 cb)] 26)).alloc_ (.cells #[.string s2, .int .i64 g2, (.slice (some ⟨ga2, 0, none⟩) 36 ca2), (.slice (some ⟨gb2, 0, none⟩) 19 cb2)] 26)).alloc_ (.cells #[.string ⟨#[]⟩, .int .i64 0, .slice none 0 0, .slice none 0 0] 26)).later hb1)
    have HB_21 := Lib.hid ((((HB2.out.alloc_ (.cells #[.string s, .int .i64 g, (.slice (some ⟨ga, 0, none⟩) 36 ca), (.slice (some ⟨gb, 0, none⟩) 19 cb)] 26)).alloc_ (.cells #[.string s2, .int .i64 g2, (.slice (some ⟨ga2, 0, none⟩) 36 ca2), (.slice (some ⟨gb2, 0, none⟩) 19 cb2)] 26)).alloc_ (.cells #[.string ⟨#[]⟩, .int .i64 0, .slice none 0 0, .slice none 0 0] 26)).later hb1)
    have zz1 : w.heap.size + 3 ≤ w1.heap.size := by have := hb1.size; simp at this; omega
    clear hb1
    have b0 := SB1.out.cell 0 _ rfl
    have b1 := SB1.out.cell 1 _ rfl
    have b2 := SB1.out.cell 2 _ rfl
    have b3 := SB1.out.cell 3 _ rfl
    go_wp2_with fail
    refine (ValidAntenna_any _ s2 IS2.out g2 _ xs2 p2 HA_21.out _ ys2 q2 HB_21.out).mono ?_
    rintro e w2 ⟨he, hb2⟩
    rw [HE2.out] at he
    subst he
    have H2 := Lib.hid (H1.out.trans (hb2.mono H1.out.size))
    have SA2 := Lib.hid (SA1.out.later hb2)
    have SB2 := Lib.hid (SB1.out.later hb2)
    have SZ2 := Lib.hid (SZ1.out.later hb2)
    have HA_ := Lib.hid (HA1.out.later hb2)
    have HB_ := Lib.hid (HB1.out.later hb2)
    have HA_2_ := Lib.hid (HA_21.out.later hb2)
    have HB_2_ := Lib.hid (HB_21.out.later hb2)
    have zz2 : w.heap.size + 3 ≤ w2.heap.size := by have := hb2.size; omega
    clear hb2 b0 b1 b2 b3 SA1 SB1 SZ1 H1 HA1 HB1 HA_21 HB_21
    go_wp2_with fail
    refine (IsName_any _ nm INM.out).mono ?_
    rintro e w3 ⟨he, hw⟩
    obtain rfl := hw.symm
    clear hw
    rw [HE3.out] at he
    subst he
    have a0 := SA2.out.cell 0 _ rfl
    have a1 := SA2.out.cell 1 _ rfl
    have a2 := SA2.out.cell 2 _ rfl
    have a3 := SA2.out.cell 3 _ rfl
    have b0 := SB2.out.cell 0 _ rfl
    have b1 := SB2.out.cell 1 _ rfl
    have b2 := SB2.out.cell 2 _ rfl
    have b3 := SB2.out.cell 3 _ rfl
    have SO := Lib.hid (SInv.fresh w2 #[.string nm, .int .i64 g, .slice none 0 0, .slice none 0 0] 26)
    have HBO := Lib.hid (show Below w2.heap.size w2 (w2.alloc (.cells #[.string nm, .int .i64 g, .slice none 0 0, .slice none 0 0] 26)) by repeat (first | (with_reducible exact Below.refl _ _) | (with_reducible assumption) | ((with_reducible refine bl_alloc ?_ _ ?_); (focus ((first | omega | (simp <;> omega)); done))) | ((with_reducible refine bl_set ?_ _ ?_); (focus ((first | omega | (simp <;> omega)); done))) | (with_reducible refine below_drewN ?_ _) | (with_reducible refine Below.drew ?_)))
    have cq2 := cell_alloc a2 (.cells #[.string nm, .int .i64 g, .slice none 0 0, .slice none 0 0] 26)
    go_wp2_with fail
    clear a0 a1 a2 a3 b0 b1 b2 b3 cq2
    go_loopw [39] (fun i wr => ∃ (k : Nat) (t : Value), k ≤ 36 ∧ i = .int .i64 (k : Int) ∧ Hid (SInv wr (w2.heap.size) [.string nm, .int .i64 g, t, .slice none 0 0]) ∧ Hid (Row 2 wr ((w2.heap.size) + 1) t (E1.take k)) ∧ Hid (t.ownBlock ≠ some (w2.heap.size)) ∧ Hid (Below w2.heap.size w2 wr)) (fun i _ => 37 - (intOf i).toNat)
    case atStart => exact ⟨0, .slice none 0 0, Nat.zero_le _, rfl, SO, Row.nil_, (by simp [Value.ownBlock, Hid]), HBO⟩
    case round =>
      obtain ⟨k, t, hk, rfl, hs, hr, hne, hbw⟩ := hrel
      have k0 : (0 : Int) ≤ (k : Int) := Int.natCast_nonneg _
      have zO : (w2.heap.size) < wr.heap.size := hs.out.lt
      by_cases hlt : k < 36
      · have hlt' : (k : Int) < 36 := by omega
        have hBW := H2.out.trans (hbw.out.mono H2.out.size)
        have y2 := hs.out.cell 2 _ rfl
        have yA : ∀ (n : Nat) (o : Obj), ((wr.drewN n).alloc o).cell? ⟨(w2.heap.size), 2, none⟩ = some t := fun n o => cell_alloc (w := wr.drewN n) y2 o
        have yB : ∀ o : Obj, (wr.alloc o).cell? ⟨(w2.heap.size), 2, none⟩ = some t := fun o => cell_alloc y2 o
        have cb := (SB2.out.later hbw.out).cell 2 _ rfl
        have cx := (hBW.cell (p := ⟨ga, k, none⟩) l1).trans (HK1.out k hlt)
        have cy := (hBW.cell (p := ⟨ga2, k, none⟩) l3).trans (HK3.out k hlt)
        have HCL : Hid (∀ (W : World), W.heap = wr.heap → Calls Try.prog 46 #[.int .i64 (xs.getD k 0), .int .i64 (xs2.getD k 0), .pointer (some ⟨(w2.heap.size), 0, none⟩), .pointer (some ⟨w.heap.size, 0, none⟩), .pointer (some ⟨w.heap.size + 1, 0, none⟩)] W fun e w' => e = .returned (.int .i64 (min 60000 (min (xs.getD k 0 + (g - g)) (xs2.getD k 0 + (g - g2))))) ∧ W = w') := fun W hW => by
          obtain ⟨x0, x1⟩ := B1.out k hlt
          obtain ⟨y0, y1⟩ := B3.out k hlt
          exact least_any W _ _ g g g2 (w2.heap.size) w.heap.size (w.heap.size + 1) x0 x1 y0 y1 (by omega) (by omega) (by omega) (by omega) (by omega) (by omega) ((cell_heap hW _).trans (hs.out.cell 1 _ rfl)) ((cell_heap hW _).trans ((SA2.out.later hbw.out).cell 1 _ rfl)) ((cell_heap hW _).trans ((SB2.out.later hbw.out).cell 1 _ rfl))
        have hlen : (E1.take k).length = k := by rw [List.length_take, EL1.out]; omega
        have hst := Lib.hid (ES1.out k hlt)
        obtain ⟨zs, hzs⟩ : ∃ zs, zs = E1.take k := ⟨_, rfl⟩
        rw [← hzs] at hr hlen hst
        clear hzs
        obtain ⟨x, hx⟩ : ∃ x, x = xs.getD k 0 := ⟨_, rfl⟩
        obtain ⟨y, hy⟩ : ∃ y, y = xs2.getD k 0 := ⟨_, rfl⟩
        rw [← hx] at cx hst HCL
        rw [← hy] at cy hst HCL
        clear hx hy
        obtain ⟨K, hK⟩ : ∃ K, K = min 60000 (min (x + (g - g)) (y + (g - g2))) := ⟨_, rfl⟩
        rw [← hK] at hst HCL
        clear hK hBW
        go_wp2_with fail
        go_region_law (first | (refine step_append_lies _ (by rfl) _ _ _ (by rfl) ((w2.heap.size) + 1) 2 i0 (.int .i64 0) 1 8 Try.underlying22 HI.out HZ0.out HZ1.out HZ2.out rfl (by omega) t k (zs.map (Value.int .i64)) (by rfl) (env_owns hlen (hr.out.alloc_ (.cells #[.int .i64 K] 2))) ⟨wr.heap.size, 0, none⟩ 1 1 [.int .i64 K] (by rfl) (by rfl) (World.news_of_block (cs := #[.int .i64 K]) (t := 2) (fr := (0, 0)) (heap_alloc_new wr _)) (by simp [Value.oneCell']) (by omega) (by unfold maxLen; omega) (by omega) (by simp <;> omega) (wr.heap.size + 1) (by simp) ?_; intro g3 cap3 w3 hown hgrow hat hlt3; have q2 := (hgrow.cell_far ⟨(w2.heap.size), 2, none⟩ (by simp <;> omega) (fun q => hne.out q.symm)).trans (cell_alloc y2 (.cells #[.int .i64 K] 2)); have qf := (hgrow.frozen_far ⟨(w2.heap.size), 2, none⟩ (by simp <;> omega) (fun q => hne.out q.symm)).trans ((hs.out.alloc_ (.cells #[.int .i64 K] 2)).free 2)) | (go_simp; go_at_call 46; ((with_reducible refine (HCL.out wr.drew (drew_heap wr)).mono ?_); rintro e w7 ⟨rfl, rfl⟩)))
        all_goals
          have hp := push_row 2 (by simp) hs.out hr.out hne.out (by repeat (first | (with_reducible exact Below.refl _ _) | (with_reducible assumption) | ((with_reducible refine bl_alloc ?_ _ ?_); (focus ((first | omega | (simp <;> omega)); done))) | ((with_reducible refine bl_set ?_ _ ?_); (focus ((first | omega | (simp <;> omega)); done))) | (with_reducible refine below_drewN ?_ _) | (with_reducible refine Below.drew ?_))) hgrow hat (by omega) hlen hown
          obtain ⟨p1, p2', p3, p4, p5⟩ := hp
          have P1 := Lib.hid p1
          rw [← hst.out] at p2'
          have P2 := Lib.hid p2'
          have P3 := Lib.hid p3
          have PB := Lib.hid (show Below w2.heap.size w2 _ from hbw.out.trans (p4.below hbw.out.size (fun b q => by rcases q with q | q; (have := (hr.out.lt _ q).1; omega); omega)))
          clear yA yB y2 hown hgrow p1 p2' p3 p4 p5 q2 qf hat cb cx cy
          go_wp2
          refine ⟨?_, ?_⟩
          · first
              | ((repeat apply Exists.intro); (refine ⟨?_, rfl⟩); exact ⟨k + 1, .slice (some ⟨g3, 0, none⟩) (k + 1) cap3, hlt, rfl, P1, P2, P3, PB⟩)
              | exact ⟨k + 1, .slice (some ⟨g3, 0, none⟩) (k + 1) cap3, hlt, rfl, P1, P2, P3, PB⟩
              | exact ⟨(k + 1 : Nat), .slice (some ⟨g3, 0, none⟩) (k + 1) cap3, hlt, rfl, P1, P2, P3, PB⟩
          · first | (simp [intOf]; done) | (simp [intOf]; omega)
      · have hge : 36 ≤ k := by omega
        have hgI : (36 : Int) ≤ (k : Int) := by omega
        have hrE : Hid (Row 2 wr ((w2.heap.size) + 1) t E1) := by
          have h := hr.out
          rw [List.take_of_length_le (by rw [EL1.out]; omega)] at h
          exact h
        clear hr
        have hrH := hrE
        have hneH := hne
        obtain ⟨tH, htH⟩ : ∃ tH, tH = t := ⟨_, rfl⟩
        rw [← htH] at hs hrH hneH
        clear hrE hne htH
        have c3 := (SA2.out.later hbw.out).cell 3 _ rfl
        go_wp2_with fail
        clear c3
        go_loopw [61] (fun i wr => ∃ (k : Nat) (t : Value), k ≤ 19 ∧ i = .int .i64 (k : Int) ∧ Hid (SInv wr (w2.heap.size) [.string nm, .int .i64 g, tH, t]) ∧ Hid (Row 2 wr ((w2.heap.size) + 1) t (E2.take k)) ∧ Hid (t.ownBlock ≠ some (w2.heap.size)) ∧ Hid (Row 2 wr ((w2.heap.size) + 1) tH E1) ∧ Hid (tH.ownBlock ≠ some (w2.heap.size)) ∧ Hid (Apart t tH) ∧ Hid (Below w2.heap.size w2 wr)) (fun i _ => 20 - (intOf i).toNat)
        case atStart => exact ⟨0, .slice none 0 0, Nat.zero_le _, rfl, hs, Row.nil_, (by simp [Value.ownBlock, Hid]), hrH, hneH, apart_nil, hbw⟩
        case round =>
          obtain ⟨k, t, hk, rfl, hs, hr, hne, hrH, hneH, hap, hbw⟩ := hrel
          have k0 : (0 : Int) ≤ (k : Int) := Int.natCast_nonneg _
          have zO : (w2.heap.size) < wr.heap.size := hs.out.lt
          by_cases hlt : k < 19
          · have hlt' : (k : Int) < 19 := by omega
            have hBW := H2.out.trans (hbw.out.mono H2.out.size)
            have y2 := hs.out.cell 3 _ rfl
            have yA : ∀ (n : Nat) (o : Obj), ((wr.drewN n).alloc o).cell? ⟨(w2.heap.size), 3, none⟩ = some t := fun n o => cell_alloc (w := wr.drewN n) y2 o
            have yB : ∀ o : Obj, (wr.alloc o).cell? ⟨(w2.heap.size), 3, none⟩ = some t := fun o => cell_alloc y2 o
            have cb := (SB2.out.later hbw.out).cell 3 _ rfl
            have cx := (hBW.cell (p := ⟨gb, k, none⟩) l2).trans (HK2.out k hlt)
            have cy := (hBW.cell (p := ⟨gb2, k, none⟩) l4).trans (HK4.out k hlt)
            have HCL : Hid (∀ (W : World), W.heap = wr.heap → Calls Try.prog 46 #[.int .i64 (ys.getD k 0), .int .i64 (ys2.getD k 0), .pointer (some ⟨(w2.heap.size), 0, none⟩), .pointer (some ⟨w.heap.size, 0, none⟩), .pointer (some ⟨w.heap.size + 1, 0, none⟩)] W fun e w' => e = .returned (.int .i64 (min 60000 (min (ys.getD k 0 + (g - g)) (ys2.getD k 0 + (g - g2))))) ∧ W = w') := fun W hW => by
              obtain ⟨x0, x1⟩ := B2.out k hlt
              obtain ⟨y0, y1⟩ := B4.out k hlt
              exact least_any W _ _ g g g2 (w2.heap.size) w.heap.size (w.heap.size + 1) x0 x1 y0 y1 (by omega) (by omega) (by omega) (by omega) (by omega) (by omega) ((cell_heap hW _).trans (hs.out.cell 1 _ rfl)) ((cell_heap hW _).trans ((SA2.out.later hbw.out).cell 1 _ rfl)) ((cell_heap hW _).trans ((SB2.out.later hbw.out).cell 1 _ rfl))
            have hlen : (E2.take k).length = k := by rw [List.length_take, EL2.out]; omega
            have hst := Lib.hid (ES2.out k hlt)
            obtain ⟨zs, hzs⟩ : ∃ zs, zs = E2.take k := ⟨_, rfl⟩
            rw [← hzs] at hr hlen hst
            clear hzs
            obtain ⟨x, hx⟩ : ∃ x, x = ys.getD k 0 := ⟨_, rfl⟩
            obtain ⟨y, hy⟩ : ∃ y, y = ys2.getD k 0 := ⟨_, rfl⟩
            rw [← hx] at cx hst HCL
            rw [← hy] at cy hst HCL
            clear hx hy
            obtain ⟨K, hK⟩ : ∃ K, K = min 60000 (min (x + (g - g)) (y + (g - g2))) := ⟨_, rfl⟩
            rw [← hK] at hst HCL
            clear hK hBW
            go_wp2_with fail
            go_region_law (first | (refine step_append_lies _ (by rfl) _ _ _ (by rfl) ((w2.heap.size) + 1) 2 i0 (.int .i64 0) 1 8 Try.underlying22 HI.out HZ0.out HZ1.out HZ2.out rfl (by omega) t k (zs.map (Value.int .i64)) (by rfl) (env_owns hlen (hr.out.alloc_ (.cells #[.int .i64 K] 2))) ⟨wr.heap.size, 0, none⟩ 1 1 [.int .i64 K] (by rfl) (by rfl) (World.news_of_block (cs := #[.int .i64 K]) (t := 2) (fr := (0, 0)) (heap_alloc_new wr _)) (by simp [Value.oneCell']) (by omega) (by unfold maxLen; omega) (by omega) (by simp <;> omega) (wr.heap.size + 1) (by simp) ?_; intro g3 cap3 w3 hown hgrow hat hlt3; have q2 := (hgrow.cell_far ⟨(w2.heap.size), 3, none⟩ (by simp <;> omega) (fun q => hne.out q.symm)).trans (cell_alloc y2 (.cells #[.int .i64 K] 2)); have qf := (hgrow.frozen_far ⟨(w2.heap.size), 3, none⟩ (by simp <;> omega) (fun q => hne.out q.symm)).trans ((hs.out.alloc_ (.cells #[.int .i64 K] 2)).free 3)) | (go_simp; go_at_call 46; ((with_reducible refine (HCL.out wr.drew (drew_heap wr)).mono ?_); rintro e w7 ⟨rfl, rfl⟩)))
            all_goals
              have hp := push_row 3 (by simp) hs.out hr.out hne.out (by repeat (first | (with_reducible exact Below.refl _ _) | (with_reducible assumption) | ((with_reducible refine bl_alloc ?_ _ ?_); (focus ((first | omega | (simp <;> omega)); done))) | ((with_reducible refine bl_set ?_ _ ?_); (focus ((first | omega | (simp <;> omega)); done))) | (with_reducible refine below_drewN ?_ _) | (with_reducible refine Below.drew ?_))) hgrow hat (by omega) hlen hown
              obtain ⟨p1, p2', p3, p4, p5⟩ := hp
              have P1 := Lib.hid p1
              rw [← hst.out] at p2'
              have P2 := Lib.hid p2'
              have P3 := Lib.hid p3
              have PB := Lib.hid (show Below w2.heap.size w2 _ from hbw.out.trans (p4.below hbw.out.size (fun b q => by rcases q with q | q; (have := (hr.out.lt _ q).1; omega); omega)))
              have PH := Lib.hid (hrH.out.writes p4 (fun b h q => by rcases q with q | q; exact hap.out _ q h; exact hneH.out (by rw [h, q])))
              have PA := Lib.hid (p5 tH (fun b h => (hrH.out.lt b h).2) hap.out)
              clear yA yB y2 hown hgrow p1 p2' p3 p4 p5 q2 qf hat cb cx cy
              go_wp2
              refine ⟨?_, ?_⟩
              · first
                  | ((repeat apply Exists.intro); (refine ⟨?_, rfl⟩); exact ⟨k + 1, .slice (some ⟨g3, 0, none⟩) (k + 1) cap3, hlt, rfl, P1, P2, P3, PH, hneH, PA, PB⟩)
                  | exact ⟨k + 1, .slice (some ⟨g3, 0, none⟩) (k + 1) cap3, hlt, rfl, P1, P2, P3, PH, hneH, PA, PB⟩
                  | exact ⟨(k + 1 : Nat), .slice (some ⟨g3, 0, none⟩) (k + 1) cap3, hlt, rfl, P1, P2, P3, PH, hneH, PA, PB⟩
              · first | (simp [intOf]; done) | (simp [intOf]; omega)
          · have hge : 19 ≤ k := by omega
            have hgI : (19 : Int) ≤ (k : Int) := by omega
            have hrE : Hid (Row 2 wr ((w2.heap.size) + 1) t E2) := by
              have h := hr.out
              rw [List.take_of_length_le (by rw [EL2.out]; omega)] at h
              exact h
            clear hr
            have fH : ∃ A n c, tH = .slice A n c := by rcases hrH.out.forms with ⟨h, _⟩ | ⟨_, _, h, _⟩ <;> exact ⟨_, _, _, h⟩
            have fV : ∃ A n c, t = .slice A n c := by rcases hrE.out.forms with ⟨h, _⟩ | ⟨_, _, h, _⟩ <;> exact ⟨_, _, _, h⟩
            obtain ⟨A0, n0, c0, rfl⟩ := fH
            obtain ⟨A1, n1, c1, rfl⟩ := fV
            have y0 := hs.out.cell 0 _ rfl
            have y1 := hs.out.cell 1 _ rfl
            have y2 := hs.out.cell 2 _ rfl
            have y3 := hs.out.cell 3 _ rfl
            have SZ7 := Lib.hid (SZ2.out.later hbw.out)
            have z0 := SZ7.out.cell 0 _ rfl
            have z1 := SZ7.out.cell 1 _ rfl
            have z2 := SZ7.out.cell 2 _ rfl
            have z3 := SZ7.out.cell 3 _ rfl
            have zf := SZ7.out.free
            have HB7 := Lib.hid (H2.out.trans (hbw.out.mono H2.out.size))
            go_wp2_with fail
            refine bodyPost_ret (v := .tuple #[.agg #[.string nm, .int .i64 g, .slice A0 n0 c0, .slice A1 n1 c1], .int .i64 0]) (by simp [results, Try.results11, go_sem, *]) rfl ?_
            refine ⟨_, _, _, _, _, _, rfl, ?_, ?_, hap.out.symm, by repeat (first | (with_reducible exact Below.refl _ _) | (with_reducible assumption) | ((with_reducible refine bl_alloc ?_ _ ?_); (focus ((first | omega | (simp <;> omega)); done))) | ((with_reducible refine bl_set ?_ _ ?_); (focus ((first | omega | (simp <;> omega)); done))) | (with_reducible refine below_drewN ?_ _) | (with_reducible refine Below.drew ?_) | ((with_reducible refine bl_trans ?_ HB7.out ?_); (focus ((first | omega | (simp <;> omega)); done))))⟩
            · refine Row.base_le (base := (w2.heap.size) + 1) ?_ (by omega)
              repeat (first | (with_reducible exact hrH.out) | ((with_reducible refine Row.low ?_ _ ?_); (focus ((first | omega | (simp <;> omega)); done))))
            · refine Row.base_le (base := (w2.heap.size) + 1) ?_ (by omega)
              repeat (first | (with_reducible exact hrE.out) | ((with_reducible refine Row.low ?_ _ ?_); (focus ((first | omega | (simp <;> omega)); done))))
set_option maxRecDepth 20000 in
set_option maxHeartbeats 8000000 in
theorem impl_any (w : World) (s : ByteArray) (is : s.size ≤ maxLen) (g : Int) (ig : In64 g) (a : Value) (xs : List Int) (p : Nat) (ha : Row 2 w p a xs) (jxs : ∀ n ∈ xs, In64 n) (b : Value) (ys : List Int) (q : Nat) (hb : Row 2 w q b ys) (jys : ∀ n ∈ ys, In64 n) (s2 : ByteArray) (is2 : s2.size ≤ maxLen) (g2 : Int) (ig2 : In64 g2) (a2 : Value) (xs2 : List Int) (p2 : Nat) (ha2 : Row 2 w p2 a2 xs2) (jxs2 : ∀ n ∈ xs2, In64 n) (b2 : Value) (ys2 : List Int) (q2 : Nat) (hb2 : Row 2 w q2 b2 ys2) (jys2 : ∀ n ∈ ys2, In64 n) (nm : ByteArray) (inm : nm.size ≤ maxLen) :
    Calls Try.prog 11 #[.agg #[.string s, .int .i64 g, a, b], .agg #[.string s2, .int .i64 g2, a2, b2], .string nm] w fun e w' => ∃ A0 n0 c0 A1 n1 c1, e = .returned (.tuple #[.agg #[.string (envN s g xs ys s2 g2 xs2 ys2 nm), .int .i64 (envG s g xs ys s2 g2 xs2 ys2 nm), .slice A0 n0 c0, .slice A1 n1 c1], .int .i64 (envC s g xs ys s2 g2 xs2 ys2 nm)]) ∧ Row 2 w' w.heap.size (.slice A0 n0 c0) (envH s g xs ys s2 g2 xs2 ys2 nm) ∧ Row 2 w' w.heap.size (.slice A1 n1 c1) (envW s g xs ys s2 g2 xs2 ys2 nm) ∧ Apart (.slice A0 n0 c0) (.slice A1 n1 c1) ∧ Below w.heap.size w w' := by
  have IS := Lib.hid is
  have IS2 := Lib.hid is2
  have INM := Lib.hid inm
  have HA := Lib.hid ha
  have HB := Lib.hid hb
  have HA2 := Lib.hid ha2
  have HB2 := Lib.hid hb2
  have ig_ := ig
  have ig2_ := ig2
  have jxs_ := jxs
  have jys_ := jys
  have jxs2_ := jxs2
  have jys2_ := jys2
  clear is is2 inm ig ig2 jxs jys jxs2 jys2
  rcases bool_two (antB s g xs ys) with hv | hv
  rotate_left
  · obtain ⟨e1, e2, e3, e4, e5⟩ := env_no (s2 := s2) (g2 := g2) (xs2 := xs2) (ys2 := ys2) (nm := nm) (.inl hv)
    rw [e1, e2, e3, e4, e5]
    clear e1 e2 e3 e4 e5
    have HE := Lib.hid hv
    clear hv
    go_enter Try.func11, Try.ntmps11
    go_wp2_with fail
    refine (ValidAntenna_any _ s IS.out g _ xs p (((HA.out.alloc_ _).alloc_ _).alloc_ _) _ ys q (((HB.out.alloc_ _).alloc_ _).alloc_ _)).mono ?_
    rintro e w1 ⟨he, hb1⟩
    rw [HE.out] at he
    subst he
    have H1 := Lib.hid (show Below w.heap.size w w1 by repeat (first | (with_reducible exact Below.refl _ _) | (with_reducible assumption) | ((with_reducible refine bl_alloc ?_ _ ?_); (focus ((first | omega | (simp <;> omega)); done))) | ((with_reducible refine bl_set ?_ _ ?_); (focus ((first | omega | (simp <;> omega)); done))) | (with_reducible refine below_drewN ?_ _) | (with_reducible refine Below.drew ?_) | ((with_reducible refine bl_trans ?_ hb1 ?_); (focus ((first | omega | (simp <;> omega)); done)))))
    have SA1 := Lib.hid (show SInv w1 w.heap.size [.string s, .int .i64 g, a, b] from (((SInv.fresh w #[.string s, .int .i64 g, a, b] 26).alloc_ (.cells #[.string s2, .int .i64 g2, a2, b2] 26)).alloc_ (.cells #[.string ⟨#[]⟩, .int .i64 0, .slice none 0 0, .slice none 0 0] 26)).later hb1)
    have SB1 := Lib.hid (show SInv w1 (w.heap.size + 1) [.string s2, .int .i64 g2, a2, b2] from by have h := ((SInv.fresh (w.alloc (.cells #[.string s, .int .i64 g, a, b] 26)) #[.string s2, .int .i64 g2, a2, b2] 26).alloc_ (.cells #[.string ⟨#[]⟩, .int .i64 0, .slice none 0 0, .slice none 0 0] 26)).later hb1; simpa using h)
    have SZ1 := Lib.hid (show SInv w1 (w.heap.size + 2) [.string ⟨#[]⟩, .int .i64 0, .slice none 0 0, .slice none 0 0] from by have h := (SInv.fresh ((w.alloc (.cells #[.string s, .int .i64 g, a, b] 26)).alloc (.cells #[.string s2, .int .i64 g2, a2, b2] 26)) #[.string ⟨#[]⟩, .int .i64 0, .slice none 0 0, .slice none 0 0] 26).later hb1; simpa using h)
    have HA1 := Lib.hid ((((HA.out.alloc_ (.cells #[.string s, .int .i64 g, a, b] 26)).alloc_ (.cells #[.string s2, .int .i64 g2, a2, b2] 26)).alloc_ (.cells #[.string ⟨#[]⟩, .int .i64 0, .slice none 0 0, .slice none 0 0] 26)).later hb1)
    have HB1 := Lib.hid ((((HB.out.alloc_ (.cells #[.string s, .int .i64 g, a, b] 26)).alloc_ (.cells #[.string s2, .int .i64 g2, a2, b2] 26)).alloc_ (.cells #[.string ⟨#[]⟩, .int .i64 0, .slice none 0 0, .slice none 0 0] 26)).later hb1)
    have HA_21 := Lib.hid ((((HA2.out.alloc_ (.cells #[.string s, .int .i64 g, a, b] 26)).alloc_ (.cells #[.string s2, .int .i64 g2, a2, b2] 26)).alloc_ (.cells #[.string ⟨#[]⟩, .int .i64 0, .slice none 0 0, .slice none 0 0] 26)).later hb1)
    have HB_21 := Lib.hid ((((HB2.out.alloc_ (.cells #[.string s, .int .i64 g, a, b] 26)).alloc_ (.cells #[.string s2, .int .i64 g2, a2, b2] 26)).alloc_ (.cells #[.string ⟨#[]⟩, .int .i64 0, .slice none 0 0, .slice none 0 0] 26)).later hb1)
    have zz1 : w.heap.size + 3 ≤ w1.heap.size := by have := hb1.size; simp at this; omega
    clear hb1
    have z0 := SZ1.out.cell 0 _ rfl
    have z1 := SZ1.out.cell 1 _ rfl
    have z2 := SZ1.out.cell 2 _ rfl
    have z3 := SZ1.out.cell 3 _ rfl
    have zf := SZ1.out.free
    go_wp2_with fail
    refine bodyPost_ret (v := .tuple #[.agg #[.string ⟨#[]⟩, .int .i64 0, .slice none 0 0, .slice none 0 0], .int .i64 1]) (by simp [results, Try.results11, go_sem, *]) rfl ?_
    exact ⟨_, _, _, _, _, _, rfl, Row.nil_, Row.nil_, apart_nil, by repeat (first | (with_reducible exact Below.refl _ _) | (with_reducible assumption) | ((with_reducible refine bl_alloc ?_ _ ?_); (focus ((first | omega | (simp <;> omega)); done))) | ((with_reducible refine bl_set ?_ _ ?_); (focus ((first | omega | (simp <;> omega)); done))) | (with_reducible refine below_drewN ?_ _) | (with_reducible refine Below.drew ?_) | ((with_reducible refine bl_trans ?_ H1.out ?_); (focus ((first | omega | (simp <;> omega)); done))))⟩
  rcases bool_two (antB s2 g2 xs2 ys2) with hv2 | hv2
  rotate_left
  · obtain ⟨e1, e2, e3, e4, e5⟩ := env_no (s := s) (g := g) (xs := xs) (ys := ys) (nm := nm) (.inr (.inl hv2))
    rw [e1, e2, e3, e4, e5]
    clear e1 e2 e3 e4 e5
    have HE := Lib.hid hv
    have HE2 := Lib.hid hv2
    clear hv hv2
    go_enter Try.func11, Try.ntmps11
    go_wp2_with fail
    refine (ValidAntenna_any _ s IS.out g _ xs p (((HA.out.alloc_ _).alloc_ _).alloc_ _) _ ys q (((HB.out.alloc_ _).alloc_ _).alloc_ _)).mono ?_
    rintro e w1 ⟨he, hb1⟩
    rw [HE.out] at he
    subst he
    have H1 := Lib.hid (show Below w.heap.size w w1 by repeat (first | (with_reducible exact Below.refl _ _) | (with_reducible assumption) | ((with_reducible refine bl_alloc ?_ _ ?_); (focus ((first | omega | (simp <;> omega)); done))) | ((with_reducible refine bl_set ?_ _ ?_); (focus ((first | omega | (simp <;> omega)); done))) | (with_reducible refine below_drewN ?_ _) | (with_reducible refine Below.drew ?_) | ((with_reducible refine bl_trans ?_ hb1 ?_); (focus ((first | omega | (simp <;> omega)); done)))))
    have SA1 := Lib.hid (show SInv w1 w.heap.size [.string s, .int .i64 g, a, b] from (((SInv.fresh w #[.string s, .int .i64 g, a, b] 26).alloc_ (.cells #[.string s2, .int .i64 g2, a2, b2] 26)).alloc_ (.cells #[.string ⟨#[]⟩, .int .i64 0, .slice none 0 0, .slice none 0 0] 26)).later hb1)
    have SB1 := Lib.hid (show SInv w1 (w.heap.size + 1) [.string s2, .int .i64 g2, a2, b2] from by have h := ((SInv.fresh (w.alloc (.cells #[.string s, .int .i64 g, a, b] 26)) #[.string s2, .int .i64 g2, a2, b2] 26).alloc_ (.cells #[.string ⟨#[]⟩, .int .i64 0, .slice none 0 0, .slice none 0 0] 26)).later hb1; simpa using h)
    have SZ1 := Lib.hid (show SInv w1 (w.heap.size + 2) [.string ⟨#[]⟩, .int .i64 0, .slice none 0 0, .slice none 0 0] from by have h := (SInv.fresh ((w.alloc (.cells #[.string s, .int .i64 g, a, b] 26)).alloc (.cells #[.string s2, .int .i64 g2, a2, b2] 26)) #[.string ⟨#[]⟩, .int .i64 0, .slice none 0 0, .slice none 0 0] 26).later hb1; simpa using h)
    have HA1 := Lib.hid ((((HA.out.alloc_ (.cells #[.string s, .int .i64 g, a, b] 26)).alloc_ (.cells #[.string s2, .int .i64 g2, a2, b2] 26)).alloc_ (.cells #[.string ⟨#[]⟩, .int .i64 0, .slice none 0 0, .slice none 0 0] 26)).later hb1)
    have HB1 := Lib.hid ((((HB.out.alloc_ (.cells #[.string s, .int .i64 g, a, b] 26)).alloc_ (.cells #[.string s2, .int .i64 g2, a2, b2] 26)).alloc_ (.cells #[.string ⟨#[]⟩, .int .i64 0, .slice none 0 0, .slice none 0 0] 26)).later hb1)
    have HA_21 := Lib.hid ((((HA2.out.alloc_ (.cells #[.string s, .int .i64 g, a, b] 26)).alloc_ (.cells #[.string s2, .int .i64 g2, a2, b2] 26)).alloc_ (.cells #[.string ⟨#[]⟩, .int .i64 0, .slice none 0 0, .slice none 0 0] 26)).later hb1)
    have HB_21 := Lib.hid ((((HB2.out.alloc_ (.cells #[.string s, .int .i64 g, a, b] 26)).alloc_ (.cells #[.string s2, .int .i64 g2, a2, b2] 26)).alloc_ (.cells #[.string ⟨#[]⟩, .int .i64 0, .slice none 0 0, .slice none 0 0] 26)).later hb1)
    have zz1 : w.heap.size + 3 ≤ w1.heap.size := by have := hb1.size; simp at this; omega
    clear hb1
    have b0 := SB1.out.cell 0 _ rfl
    have b1 := SB1.out.cell 1 _ rfl
    have b2 := SB1.out.cell 2 _ rfl
    have b3 := SB1.out.cell 3 _ rfl
    go_wp2_with fail
    refine (ValidAntenna_any _ s2 IS2.out g2 _ xs2 p2 HA_21.out _ ys2 q2 HB_21.out).mono ?_
    rintro e w2 ⟨he, hb2⟩
    rw [HE2.out] at he
    subst he
    have H2 := Lib.hid (H1.out.trans (hb2.mono H1.out.size))
    have SA2 := Lib.hid (SA1.out.later hb2)
    have SB2 := Lib.hid (SB1.out.later hb2)
    have SZ2 := Lib.hid (SZ1.out.later hb2)
    have HA_ := Lib.hid (HA1.out.later hb2)
    have HB_ := Lib.hid (HB1.out.later hb2)
    have HA_2_ := Lib.hid (HA_21.out.later hb2)
    have HB_2_ := Lib.hid (HB_21.out.later hb2)
    have zz2 : w.heap.size + 3 ≤ w2.heap.size := by have := hb2.size; omega
    clear hb2 b0 b1 b2 b3 SA1 SB1 SZ1 H1 HA1 HB1 HA_21 HB_21
    have z0 := SZ2.out.cell 0 _ rfl
    have z1 := SZ2.out.cell 1 _ rfl
    have z2 := SZ2.out.cell 2 _ rfl
    have z3 := SZ2.out.cell 3 _ rfl
    have zf := SZ2.out.free
    go_wp2_with fail
    refine bodyPost_ret (v := .tuple #[.agg #[.string ⟨#[]⟩, .int .i64 0, .slice none 0 0, .slice none 0 0], .int .i64 1]) (by simp [results, Try.results11, go_sem, *]) rfl ?_
    exact ⟨_, _, _, _, _, _, rfl, Row.nil_, Row.nil_, apart_nil, by repeat (first | (with_reducible exact Below.refl _ _) | (with_reducible assumption) | ((with_reducible refine bl_alloc ?_ _ ?_); (focus ((first | omega | (simp <;> omega)); done))) | ((with_reducible refine bl_set ?_ _ ?_); (focus ((first | omega | (simp <;> omega)); done))) | (with_reducible refine below_drewN ?_ _) | (with_reducible refine Below.drew ?_) | ((with_reducible refine bl_trans ?_ H2.out ?_); (focus ((first | omega | (simp <;> omega)); done))))⟩
  rcases bool_two (nameB nm) with hv3 | hv3
  rotate_left
  · obtain ⟨e1, e2, e3, e4, e5⟩ := env_no (s := s) (g := g) (xs := xs) (ys := ys) (s2 := s2) (g2 := g2) (xs2 := xs2) (ys2 := ys2) (.inr (.inr hv3))
    rw [e1, e2, e3, e4, e5]
    clear e1 e2 e3 e4 e5
    have HE := Lib.hid hv
    have HE2 := Lib.hid hv2
    have HE3 := Lib.hid hv3
    clear hv hv2 hv3
    go_enter Try.func11, Try.ntmps11
    go_wp2_with fail
    refine (ValidAntenna_any _ s IS.out g _ xs p (((HA.out.alloc_ _).alloc_ _).alloc_ _) _ ys q (((HB.out.alloc_ _).alloc_ _).alloc_ _)).mono ?_
    rintro e w1 ⟨he, hb1⟩
    rw [HE.out] at he
    subst he
    have H1 := Lib.hid (show Below w.heap.size w w1 by repeat (first | (with_reducible exact Below.refl _ _) | (with_reducible assumption) | ((with_reducible refine bl_alloc ?_ _ ?_); (focus ((first | omega | (simp <;> omega)); done))) | ((with_reducible refine bl_set ?_ _ ?_); (focus ((first | omega | (simp <;> omega)); done))) | (with_reducible refine below_drewN ?_ _) | (with_reducible refine Below.drew ?_) | ((with_reducible refine bl_trans ?_ hb1 ?_); (focus ((first | omega | (simp <;> omega)); done)))))
    have SA1 := Lib.hid (show SInv w1 w.heap.size [.string s, .int .i64 g, a, b] from (((SInv.fresh w #[.string s, .int .i64 g, a, b] 26).alloc_ (.cells #[.string s2, .int .i64 g2, a2, b2] 26)).alloc_ (.cells #[.string ⟨#[]⟩, .int .i64 0, .slice none 0 0, .slice none 0 0] 26)).later hb1)
    have SB1 := Lib.hid (show SInv w1 (w.heap.size + 1) [.string s2, .int .i64 g2, a2, b2] from by have h := ((SInv.fresh (w.alloc (.cells #[.string s, .int .i64 g, a, b] 26)) #[.string s2, .int .i64 g2, a2, b2] 26).alloc_ (.cells #[.string ⟨#[]⟩, .int .i64 0, .slice none 0 0, .slice none 0 0] 26)).later hb1; simpa using h)
    have SZ1 := Lib.hid (show SInv w1 (w.heap.size + 2) [.string ⟨#[]⟩, .int .i64 0, .slice none 0 0, .slice none 0 0] from by have h := (SInv.fresh ((w.alloc (.cells #[.string s, .int .i64 g, a, b] 26)).alloc (.cells #[.string s2, .int .i64 g2, a2, b2] 26)) #[.string ⟨#[]⟩, .int .i64 0, .slice none 0 0, .slice none 0 0] 26).later hb1; simpa using h)
    have HA1 := Lib.hid ((((HA.out.alloc_ (.cells #[.string s, .int .i64 g, a, b] 26)).alloc_ (.cells #[.string s2, .int .i64 g2, a2, b2] 26)).alloc_ (.cells #[.string ⟨#[]⟩, .int .i64 0, .slice none 0 0, .slice none 0 0] 26)).later hb1)
    have HB1 := Lib.hid ((((HB.out.alloc_ (.cells #[.string s, .int .i64 g, a, b] 26)).alloc_ (.cells #[.string s2, .int .i64 g2, a2, b2] 26)).alloc_ (.cells #[.string ⟨#[]⟩, .int .i64 0, .slice none 0 0, .slice none 0 0] 26)).later hb1)
    have HA_21 := Lib.hid ((((HA2.out.alloc_ (.cells #[.string s, .int .i64 g, a, b] 26)).alloc_ (.cells #[.string s2, .int .i64 g2, a2, b2] 26)).alloc_ (.cells #[.string ⟨#[]⟩, .int .i64 0, .slice none 0 0, .slice none 0 0] 26)).later hb1)
    have HB_21 := Lib.hid ((((HB2.out.alloc_ (.cells #[.string s, .int .i64 g, a, b] 26)).alloc_ (.cells #[.string s2, .int .i64 g2, a2, b2] 26)).alloc_ (.cells #[.string ⟨#[]⟩, .int .i64 0, .slice none 0 0, .slice none 0 0] 26)).later hb1)
    have zz1 : w.heap.size + 3 ≤ w1.heap.size := by have := hb1.size; simp at this; omega
    clear hb1
    have b0 := SB1.out.cell 0 _ rfl
    have b1 := SB1.out.cell 1 _ rfl
    have b2 := SB1.out.cell 2 _ rfl
    have b3 := SB1.out.cell 3 _ rfl
    go_wp2_with fail
    refine (ValidAntenna_any _ s2 IS2.out g2 _ xs2 p2 HA_21.out _ ys2 q2 HB_21.out).mono ?_
    rintro e w2 ⟨he, hb2⟩
    rw [HE2.out] at he
    subst he
    have H2 := Lib.hid (H1.out.trans (hb2.mono H1.out.size))
    have SA2 := Lib.hid (SA1.out.later hb2)
    have SB2 := Lib.hid (SB1.out.later hb2)
    have SZ2 := Lib.hid (SZ1.out.later hb2)
    have HA_ := Lib.hid (HA1.out.later hb2)
    have HB_ := Lib.hid (HB1.out.later hb2)
    have HA_2_ := Lib.hid (HA_21.out.later hb2)
    have HB_2_ := Lib.hid (HB_21.out.later hb2)
    have zz2 : w.heap.size + 3 ≤ w2.heap.size := by have := hb2.size; omega
    clear hb2 b0 b1 b2 b3 SA1 SB1 SZ1 H1 HA1 HB1 HA_21 HB_21
    go_wp2_with fail
    refine (IsName_any _ nm INM.out).mono ?_
    rintro e w3 ⟨he, hw⟩
    obtain rfl := hw.symm
    clear hw
    rw [HE3.out] at he
    subst he
    have z0 := SZ2.out.cell 0 _ rfl
    have z1 := SZ2.out.cell 1 _ rfl
    have z2 := SZ2.out.cell 2 _ rfl
    have z3 := SZ2.out.cell 3 _ rfl
    have zf := SZ2.out.free
    go_wp2_with fail
    refine bodyPost_ret (v := .tuple #[.agg #[.string ⟨#[]⟩, .int .i64 0, .slice none 0 0, .slice none 0 0], .int .i64 1]) (by simp [results, Try.results11, go_sem, *]) rfl ?_
    exact ⟨_, _, _, _, _, _, rfl, Row.nil_, Row.nil_, apart_nil, by repeat (first | (with_reducible exact Below.refl _ _) | (with_reducible assumption) | ((with_reducible refine bl_alloc ?_ _ ?_); (focus ((first | omega | (simp <;> omega)); done))) | ((with_reducible refine bl_set ?_ _ ?_); (focus ((first | omega | (simp <;> omega)); done))) | (with_reducible refine below_drewN ?_ _) | (with_reducible refine Below.drew ?_) | ((with_reducible refine bl_trans ?_ H2.out ?_); (focus ((first | omega | (simp <;> omega)); done))))⟩
  exact impl_good w s IS.out g ig_ a xs p HA.out jxs_ b ys q HB.out jys_ s2 IS2.out g2 ig2_ a2 xs2 p2 HA2.out jxs2_ b2 ys2 q2 HB2.out jys2_ nm INM.out hv hv2 hv3
set_option maxRecDepth 20000 in
set_option maxHeartbeats 4000000 in
theorem walk (w : World) (s0_0 : ByteArray) (is0_0 : s0_0.size ≤ maxLen) (a0_1 : Int) (ia0_1 : In64 a0_1) (v0_2 : Value) (x0_2 : List Int) (r0_2 : Rd w w.heap.size v0_2 x0_2) (ix0_2 : ∀ n ∈ x0_2, In64 n) (v0_3 : Value) (x0_3 : List Int) (r0_3 : Rd w w.heap.size v0_3 x0_3) (ix0_3 : ∀ n ∈ x0_3, In64 n) (s1_0 : ByteArray) (is1_0 : s1_0.size ≤ maxLen) (a1_1 : Int) (ia1_1 : In64 a1_1) (v1_2 : Value) (x1_2 : List Int) (r1_2 : Rd w w.heap.size v1_2 x1_2) (ix1_2 : ∀ n ∈ x1_2, In64 n) (v1_3 : Value) (x1_3 : List Int) (r1_3 : Rd w w.heap.size v1_3 x1_3) (ix1_3 : ∀ n ∈ x1_3, In64 n) (s2 : ByteArray) (is2 : s2.size ≤ maxLen) :
    Calls Try.prog 3 #[.agg #[.string s0_0, .int .i64 a0_1, v0_2, v0_3], .agg #[.string s1_0, .int .i64 a1_1, v1_2, v1_3], .string s2] w fun e w' => e = .returned (.bool true) ∧ Below w.heap.size w w' := by
  have hml := env_len s0_0 a0_1 x0_2 x0_3 s1_0 a1_1 x1_2 x1_3 s2
  by_cases ht2 : ¬ (s2.size : Int) ≤ 1048576
  · go_enter Try.func3, Try.ntmps3
    go_wp2_with fail
    go_ret
    exact ⟨rfl, by repeat (first | (with_reducible exact Below.refl _ _) | (with_reducible assumption) | ((with_reducible refine bl_alloc ?_ _ ?_); (focus ((first | omega | (simp <;> omega)); done))) | ((with_reducible refine bl_set ?_ _ ?_); (focus ((first | omega | (simp <;> omega)); done))) | (with_reducible refine below_drewN ?_ _) | (with_reducible refine Below.drew ?_))⟩
  have ht2' : (s2.size : Int) ≤ 1048576 := by omega
  clear ht2
  by_cases hs0 : ¬ (s0_0.size : Int) + (x0_2.length : Int) + (x0_3.length : Int) ≤ 1048576
  · go_enter Try.func3, Try.ntmps3
    go_wp2_with fail
    refine (szAntenna_not s0_0 a0_1 _ x0_2 _ x0_3 _ w.heap.size (by first | omega | (simp <;> omega)) (Rd.below r0_2 (by repeat (first | (with_reducible exact Below.refl _ _) | (with_reducible assumption) | ((with_reducible refine bl_alloc ?_ _ ?_); (focus ((first | omega | (simp <;> omega)); done))) | ((with_reducible refine bl_set ?_ _ ?_); (focus ((first | omega | (simp <;> omega)); done))) | (with_reducible refine below_drewN ?_ _) | (with_reducible refine Below.drew ?_)))) (Rd.below r0_3 (by repeat (first | (with_reducible exact Below.refl _ _) | (with_reducible assumption) | ((with_reducible refine bl_alloc ?_ _ ?_); (focus ((first | omega | (simp <;> omega)); done))) | ((with_reducible refine bl_set ?_ _ ?_); (focus ((first | omega | (simp <;> omega)); done))) | (with_reducible refine below_drewN ?_ _) | (with_reducible refine Below.drew ?_)))) is0_0 _ (by omega) (by omega) (by omega)).mono ?_
    rintro e w1 ⟨rfl, hb⟩
    have zz1 : w.heap.size + 1 + 1 ≤ w1.heap.size := (by have := hb.size; ((try simp at this) <;> omega))
    have H1 := Lib.hid (show Below w.heap.size w w1 by repeat (first | (with_reducible exact Below.refl _ _) | (with_reducible assumption) | ((with_reducible refine bl_alloc ?_ _ ?_); (focus ((first | omega | (simp <;> omega)); done))) | ((with_reducible refine bl_set ?_ _ ?_); (focus ((first | omega | (simp <;> omega)); done))) | (with_reducible refine below_drewN ?_ _) | (with_reducible refine Below.drew ?_) | ((with_reducible refine bl_trans ?_ hb ?_); (focus ((first | omega | (simp <;> omega)); done)))))
    have f0_0_1 := keeps hb (p := ⟨w.heap.size, 0, none⟩) (v := .string s0_0) (by simp [go_sem])
    have f0_1_1 := keeps hb (p := ⟨w.heap.size, 1, none⟩) (v := .int .i64 a0_1) (by simp [go_sem])
    have f0_2_1 := keeps hb (p := ⟨w.heap.size, 2, none⟩) (v := v0_2) (by simp [go_sem])
    have f0_3_1 := keeps hb (p := ⟨w.heap.size, 3, none⟩) (v := v0_3) (by simp [go_sem])
    have g0_1 : w.heap.size < w1.heap.size := block_of_cell f0_0_1
    have f1_0_1 := keeps hb (p := ⟨w.heap.size + 1, 0, none⟩) (v := .string s1_0) (by simp [go_sem])
    have f1_1_1 := keeps hb (p := ⟨w.heap.size + 1, 1, none⟩) (v := .int .i64 a1_1) (by simp [go_sem])
    have f1_2_1 := keeps hb (p := ⟨w.heap.size + 1, 2, none⟩) (v := v1_2) (by simp [go_sem])
    have f1_3_1 := keeps hb (p := ⟨w.heap.size + 1, 3, none⟩) (v := v1_3) (by simp [go_sem])
    have g1_1 : w.heap.size + 1 < w1.heap.size := block_of_cell f1_0_1
    clear hb
    go_wp2_with fail
    go_ret
    exact ⟨rfl, (by repeat (first | (with_reducible exact Below.refl _ _) | (with_reducible assumption) | ((with_reducible refine bl_alloc ?_ _ ?_); (focus ((first | omega | (simp <;> omega)); done))) | ((with_reducible refine bl_set ?_ _ ?_); (focus ((first | omega | (simp <;> omega)); done))) | (with_reducible refine below_drewN ?_ _) | (with_reducible refine Below.drew ?_) | ((with_reducible refine bl_trans ?_ H1.out ?_); (focus ((first | omega | (simp <;> omega)); done)))))⟩
  have hs0' : (s0_0.size : Int) + (x0_2.length : Int) + (x0_3.length : Int) ≤ 1048576 := by omega
  clear hs0
  by_cases hs1 : ¬ (s1_0.size : Int) + (x1_2.length : Int) + (x1_3.length : Int) ≤ 1048576 - (s0_0.size : Int) - (x0_2.length : Int) - (x0_3.length : Int)
  · go_enter Try.func3, Try.ntmps3
    go_wp2_with fail
    refine (szAntenna_fits s0_0 a0_1 _ x0_2 _ x0_3 _ w.heap.size (by first | omega | (simp <;> omega)) (Rd.below r0_2 (by repeat (first | (with_reducible exact Below.refl _ _) | (with_reducible assumption) | ((with_reducible refine bl_alloc ?_ _ ?_); (focus ((first | omega | (simp <;> omega)); done))) | ((with_reducible refine bl_set ?_ _ ?_); (focus ((first | omega | (simp <;> omega)); done))) | (with_reducible refine below_drewN ?_ _) | (with_reducible refine Below.drew ?_)))) (Rd.below r0_3 (by repeat (first | (with_reducible exact Below.refl _ _) | (with_reducible assumption) | ((with_reducible refine bl_alloc ?_ _ ?_); (focus ((first | omega | (simp <;> omega)); done))) | ((with_reducible refine bl_set ?_ _ ?_); (focus ((first | omega | (simp <;> omega)); done))) | (with_reducible refine below_drewN ?_ _) | (with_reducible refine Below.drew ?_)))) is0_0 _ (by omega) (by omega)).mono ?_
    rintro e w1 ⟨rfl, hb⟩
    have zz1 : w.heap.size + 1 + 1 ≤ w1.heap.size := (by have := hb.size; ((try simp at this) <;> omega))
    have H1 := Lib.hid (show Below w.heap.size w w1 by repeat (first | (with_reducible exact Below.refl _ _) | (with_reducible assumption) | ((with_reducible refine bl_alloc ?_ _ ?_); (focus ((first | omega | (simp <;> omega)); done))) | ((with_reducible refine bl_set ?_ _ ?_); (focus ((first | omega | (simp <;> omega)); done))) | (with_reducible refine below_drewN ?_ _) | (with_reducible refine Below.drew ?_) | ((with_reducible refine bl_trans ?_ hb ?_); (focus ((first | omega | (simp <;> omega)); done)))))
    have f0_0_1 := keeps hb (p := ⟨w.heap.size, 0, none⟩) (v := .string s0_0) (by simp [go_sem])
    have f0_1_1 := keeps hb (p := ⟨w.heap.size, 1, none⟩) (v := .int .i64 a0_1) (by simp [go_sem])
    have f0_2_1 := keeps hb (p := ⟨w.heap.size, 2, none⟩) (v := v0_2) (by simp [go_sem])
    have f0_3_1 := keeps hb (p := ⟨w.heap.size, 3, none⟩) (v := v0_3) (by simp [go_sem])
    have g0_1 : w.heap.size < w1.heap.size := block_of_cell f0_0_1
    have f1_0_1 := keeps hb (p := ⟨w.heap.size + 1, 0, none⟩) (v := .string s1_0) (by simp [go_sem])
    have f1_1_1 := keeps hb (p := ⟨w.heap.size + 1, 1, none⟩) (v := .int .i64 a1_1) (by simp [go_sem])
    have f1_2_1 := keeps hb (p := ⟨w.heap.size + 1, 2, none⟩) (v := v1_2) (by simp [go_sem])
    have f1_3_1 := keeps hb (p := ⟨w.heap.size + 1, 3, none⟩) (v := v1_3) (by simp [go_sem])
    have g1_1 : w.heap.size + 1 < w1.heap.size := block_of_cell f1_0_1
    clear hb
    go_wp2_with fail
    refine (szAntenna_not s1_0 a1_1 _ x1_2 _ x1_3 _ w.heap.size (by first | omega | (simp <;> omega)) (Rd.below r1_2 (by repeat (first | (with_reducible exact Below.refl _ _) | (with_reducible assumption) | ((with_reducible refine bl_alloc ?_ _ ?_); (focus ((first | omega | (simp <;> omega)); done))) | ((with_reducible refine bl_set ?_ _ ?_); (focus ((first | omega | (simp <;> omega)); done))) | (with_reducible refine below_drewN ?_ _) | (with_reducible refine Below.drew ?_) | ((with_reducible refine bl_trans ?_ H1.out ?_); (focus ((first | omega | (simp <;> omega)); done)))))) (Rd.below r1_3 (by repeat (first | (with_reducible exact Below.refl _ _) | (with_reducible assumption) | ((with_reducible refine bl_alloc ?_ _ ?_); (focus ((first | omega | (simp <;> omega)); done))) | ((with_reducible refine bl_set ?_ _ ?_); (focus ((first | omega | (simp <;> omega)); done))) | (with_reducible refine below_drewN ?_ _) | (with_reducible refine Below.drew ?_) | ((with_reducible refine bl_trans ?_ H1.out ?_); (focus ((first | omega | (simp <;> omega)); done)))))) is1_0 _ (by omega) (by omega) (by omega)).mono ?_
    rintro e w2 ⟨rfl, hb⟩
    have zz2 : w1.heap.size ≤ w2.heap.size := (by have := hb.size; ((try simp at this) <;> omega))
    have H2 := Lib.hid (show Below w.heap.size w w2 by repeat (first | (with_reducible exact Below.refl _ _) | (with_reducible assumption) | ((with_reducible refine bl_alloc ?_ _ ?_); (focus ((first | omega | (simp <;> omega)); done))) | ((with_reducible refine bl_set ?_ _ ?_); (focus ((first | omega | (simp <;> omega)); done))) | (with_reducible refine below_drewN ?_ _) | (with_reducible refine Below.drew ?_) | ((with_reducible refine bl_trans ?_ hb ?_); (focus ((first | omega | (simp <;> omega)); done))) | ((with_reducible refine bl_trans ?_ H1.out ?_); (focus ((first | omega | (simp <;> omega)); done)))))
    have f0_0_2 := keeps hb f0_0_1
    have f0_1_2 := keeps hb f0_1_1
    have f0_2_2 := keeps hb f0_2_1
    have f0_3_2 := keeps hb f0_3_1
    have g0_2 : w.heap.size < w2.heap.size := block_of_cell f0_0_2
    have f1_0_2 := keeps hb f1_0_1
    have f1_1_2 := keeps hb f1_1_1
    have f1_2_2 := keeps hb f1_2_1
    have f1_3_2 := keeps hb f1_3_1
    have g1_2 : w.heap.size + 1 < w2.heap.size := block_of_cell f1_0_2
    clear hb f0_0_1 f0_1_1 f0_2_1 f0_3_1 g0_1 f1_0_1 f1_1_1 f1_2_1 f1_3_1 g1_1 H1
    go_wp2_with fail
    go_ret
    exact ⟨rfl, (by repeat (first | (with_reducible exact Below.refl _ _) | (with_reducible assumption) | ((with_reducible refine bl_alloc ?_ _ ?_); (focus ((first | omega | (simp <;> omega)); done))) | ((with_reducible refine bl_set ?_ _ ?_); (focus ((first | omega | (simp <;> omega)); done))) | (with_reducible refine below_drewN ?_ _) | (with_reducible refine Below.drew ?_) | ((with_reducible refine bl_trans ?_ H2.out ?_); (focus ((first | omega | (simp <;> omega)); done)))))⟩
  have hs1' : (s1_0.size : Int) + (x1_2.length : Int) + (x1_3.length : Int) ≤ 1048576 - (s0_0.size : Int) - (x0_2.length : Int) - (x0_3.length : Int) := by omega
  clear hs1
  go_enter Try.func3, Try.ntmps3
  go_wp2_with fail
  refine (szAntenna_fits s0_0 a0_1 _ x0_2 _ x0_3 _ w.heap.size (by first | omega | (simp <;> omega)) (Rd.below r0_2 (by repeat (first | (with_reducible exact Below.refl _ _) | (with_reducible assumption) | ((with_reducible refine bl_alloc ?_ _ ?_); (focus ((first | omega | (simp <;> omega)); done))) | ((with_reducible refine bl_set ?_ _ ?_); (focus ((first | omega | (simp <;> omega)); done))) | (with_reducible refine below_drewN ?_ _) | (with_reducible refine Below.drew ?_)))) (Rd.below r0_3 (by repeat (first | (with_reducible exact Below.refl _ _) | (with_reducible assumption) | ((with_reducible refine bl_alloc ?_ _ ?_); (focus ((first | omega | (simp <;> omega)); done))) | ((with_reducible refine bl_set ?_ _ ?_); (focus ((first | omega | (simp <;> omega)); done))) | (with_reducible refine below_drewN ?_ _) | (with_reducible refine Below.drew ?_)))) is0_0 _ (by omega) (by omega)).mono ?_
  rintro e w1 ⟨rfl, hb⟩
  have zz1 : w.heap.size + 1 + 1 ≤ w1.heap.size := (by have := hb.size; ((try simp at this) <;> omega))
  have H1 := Lib.hid (show Below w.heap.size w w1 by repeat (first | (with_reducible exact Below.refl _ _) | (with_reducible assumption) | ((with_reducible refine bl_alloc ?_ _ ?_); (focus ((first | omega | (simp <;> omega)); done))) | ((with_reducible refine bl_set ?_ _ ?_); (focus ((first | omega | (simp <;> omega)); done))) | (with_reducible refine below_drewN ?_ _) | (with_reducible refine Below.drew ?_) | ((with_reducible refine bl_trans ?_ hb ?_); (focus ((first | omega | (simp <;> omega)); done)))))
  have f0_0_1 := keeps hb (p := ⟨w.heap.size, 0, none⟩) (v := .string s0_0) (by simp [go_sem])
  have f0_1_1 := keeps hb (p := ⟨w.heap.size, 1, none⟩) (v := .int .i64 a0_1) (by simp [go_sem])
  have f0_2_1 := keeps hb (p := ⟨w.heap.size, 2, none⟩) (v := v0_2) (by simp [go_sem])
  have f0_3_1 := keeps hb (p := ⟨w.heap.size, 3, none⟩) (v := v0_3) (by simp [go_sem])
  have g0_1 : w.heap.size < w1.heap.size := block_of_cell f0_0_1
  have f1_0_1 := keeps hb (p := ⟨w.heap.size + 1, 0, none⟩) (v := .string s1_0) (by simp [go_sem])
  have f1_1_1 := keeps hb (p := ⟨w.heap.size + 1, 1, none⟩) (v := .int .i64 a1_1) (by simp [go_sem])
  have f1_2_1 := keeps hb (p := ⟨w.heap.size + 1, 2, none⟩) (v := v1_2) (by simp [go_sem])
  have f1_3_1 := keeps hb (p := ⟨w.heap.size + 1, 3, none⟩) (v := v1_3) (by simp [go_sem])
  have g1_1 : w.heap.size + 1 < w1.heap.size := block_of_cell f1_0_1
  clear hb
  go_wp2_with fail
  refine (szAntenna_fits s1_0 a1_1 _ x1_2 _ x1_3 _ w.heap.size (by first | omega | (simp <;> omega)) (Rd.below r1_2 (by repeat (first | (with_reducible exact Below.refl _ _) | (with_reducible assumption) | ((with_reducible refine bl_alloc ?_ _ ?_); (focus ((first | omega | (simp <;> omega)); done))) | ((with_reducible refine bl_set ?_ _ ?_); (focus ((first | omega | (simp <;> omega)); done))) | (with_reducible refine below_drewN ?_ _) | (with_reducible refine Below.drew ?_) | ((with_reducible refine bl_trans ?_ H1.out ?_); (focus ((first | omega | (simp <;> omega)); done)))))) (Rd.below r1_3 (by repeat (first | (with_reducible exact Below.refl _ _) | (with_reducible assumption) | ((with_reducible refine bl_alloc ?_ _ ?_); (focus ((first | omega | (simp <;> omega)); done))) | ((with_reducible refine bl_set ?_ _ ?_); (focus ((first | omega | (simp <;> omega)); done))) | (with_reducible refine below_drewN ?_ _) | (with_reducible refine Below.drew ?_) | ((with_reducible refine bl_trans ?_ H1.out ?_); (focus ((first | omega | (simp <;> omega)); done)))))) is1_0 _ (by omega) (by omega)).mono ?_
  rintro e w2 ⟨rfl, hb⟩
  have zz2 : w1.heap.size ≤ w2.heap.size := (by have := hb.size; ((try simp at this) <;> omega))
  have H2 := Lib.hid (show Below w.heap.size w w2 by repeat (first | (with_reducible exact Below.refl _ _) | (with_reducible assumption) | ((with_reducible refine bl_alloc ?_ _ ?_); (focus ((first | omega | (simp <;> omega)); done))) | ((with_reducible refine bl_set ?_ _ ?_); (focus ((first | omega | (simp <;> omega)); done))) | (with_reducible refine below_drewN ?_ _) | (with_reducible refine Below.drew ?_) | ((with_reducible refine bl_trans ?_ hb ?_); (focus ((first | omega | (simp <;> omega)); done))) | ((with_reducible refine bl_trans ?_ H1.out ?_); (focus ((first | omega | (simp <;> omega)); done)))))
  have f0_0_2 := keeps hb f0_0_1
  have f0_1_2 := keeps hb f0_1_1
  have f0_2_2 := keeps hb f0_2_1
  have f0_3_2 := keeps hb f0_3_1
  have g0_2 : w.heap.size < w2.heap.size := block_of_cell f0_0_2
  have f1_0_2 := keeps hb f1_0_1
  have f1_1_2 := keeps hb f1_1_1
  have f1_2_2 := keeps hb f1_2_1
  have f1_3_2 := keeps hb f1_3_1
  have g1_2 : w.heap.size + 1 < w2.heap.size := block_of_cell f1_0_2
  clear hb f0_0_1 f0_1_1 f0_2_1 f0_3_1 g0_1 f1_0_1 f1_1_1 f1_2_1 f1_3_1 g1_1 H1
  go_upto_region 10 with fail
  go_cut [8, 9] (fun p_ c_ wx => ∃ O A4 n4 c4 A5 n5 c5, p_ = .pointer (some ⟨O, 0, none⟩) ∧ c_ = .int .i64 (envC s0_0 a0_1 x0_2 x0_3 s1_0 a1_1 x1_2 x1_3 s2) ∧ Hid (SInv wx O [.string (envN s0_0 a0_1 x0_2 x0_3 s1_0 a1_1 x1_2 x1_3 s2), .int .i64 ((envG s0_0 a0_1 x0_2 x0_3 s1_0 a1_1 x1_2 x1_3 s2)), (.slice A4 n4 c4), (.slice A5 n5 c5)]) ∧ Hid (w2.heap.size ≤ O) ∧ Hid (Row 2 wx w2.heap.size (.slice A4 n4 c4) (envH s0_0 a0_1 x0_2 x0_3 s1_0 a1_1 x1_2 x1_3 s2)) ∧ Hid (Row 2 wx w2.heap.size (.slice A5 n5 c5) (envW s0_0 a0_1 x0_2 x0_3 s1_0 a1_1 x1_2 x1_3 s2)) ∧ Hid (Apart (.slice A4 n4 c4) (.slice A5 n5 c5)) ∧ Hid (Value.ownBlock (.slice A4 n4 c4) ≠ some O) ∧ Hid (Value.ownBlock (.slice A5 n5 c5) ≠ some O) ∧ Hid (Below w2.heap.size w2 wx))
  case first =>
    go_region_held3 (fun w' => w'.cell? ⟨w.heap.size, 0, none⟩ = some (.string s0_0) ∧ w'.cell? ⟨w.heap.size, 1, none⟩ = some (.int .i64 a0_1) ∧ w'.cell? ⟨w.heap.size, 2, none⟩ = some (v0_2) ∧ w'.cell? ⟨w.heap.size, 3, none⟩ = some (v0_3) ∧ w'.cell? ⟨w.heap.size + 1, 0, none⟩ = some (.string s1_0) ∧ w'.cell? ⟨w.heap.size + 1, 1, none⟩ = some (.int .i64 a1_1) ∧ w'.cell? ⟨w.heap.size + 1, 2, none⟩ = some (v1_2) ∧ w'.cell? ⟨w.heap.size + 1, 3, none⟩ = some (v1_3))
      (((try go_split_ands); (refine ⟨?_, ?_, ?_, ?_, ?_, ?_, ?_, ?_⟩ <;> (repeat (first | (with_reducible assumption) | (with_reducible refine cell_drew ?_) | (with_reducible refine cell_drewN ?_) | (with_reducible refine cell_alloc ?_ _) | ((with_reducible refine cell_set1 ?_ ?_); (focus (omega; done))) | (with_reducible refine keeps hb ?_))))))
      (first
        | (go_at_call 10; ((with_reducible refine (toAntenna_any s0_0 a0_1 v0_2 x0_2 v0_3 x0_3 _ w.heap.size (by first | omega | (simp <;> omega)) (Rd.below r0_2 (by repeat (first | (with_reducible exact Below.refl _ _) | (with_reducible assumption) | ((with_reducible refine bl_alloc ?_ _ ?_); (focus ((first | omega | (simp <;> omega)); done))) | ((with_reducible refine bl_set ?_ _ ?_); (focus ((first | omega | (simp <;> omega)); done))) | (with_reducible refine below_drewN ?_ _) | (with_reducible refine Below.drew ?_) | ((with_reducible refine bl_trans ?_ H2.out ?_); (focus ((first | omega | (simp <;> omega)); done)))))) (by omega) (Rd.below r0_3 (by repeat (first | (with_reducible exact Below.refl _ _) | (with_reducible assumption) | ((with_reducible refine bl_alloc ?_ _ ?_); (focus ((first | omega | (simp <;> omega)); done))) | ((with_reducible refine bl_set ?_ _ ?_); (focus ((first | omega | (simp <;> omega)); done))) | (with_reducible refine below_drewN ?_ _) | (with_reducible refine Below.drew ?_) | ((with_reducible refine bl_trans ?_ H2.out ?_); (focus ((first | omega | (simp <;> omega)); done)))))) (by omega)).mono ?_); rintro e w3 ⟨A0, n0, c0, A1, n1, c1, rfl, hr0, hr1, ha0_1, hb⟩; have zz3 : w2.heap.size ≤ w3.heap.size := (by have := hb.size; ((try simp at this) <;> omega)); have H3 := Lib.hid (show Below w.heap.size w w3 by repeat (first | (with_reducible exact Below.refl _ _) | (with_reducible assumption) | ((with_reducible refine bl_alloc ?_ _ ?_); (focus ((first | omega | (simp <;> omega)); done))) | ((with_reducible refine bl_set ?_ _ ?_); (focus ((first | omega | (simp <;> omega)); done))) | (with_reducible refine below_drewN ?_ _) | (with_reducible refine Below.drew ?_) | ((with_reducible refine bl_trans ?_ hb ?_); (focus ((first | omega | (simp <;> omega)); done))) | ((with_reducible refine bl_trans ?_ H2.out ?_); (focus ((first | omega | (simp <;> omega)); done))))); have HX3 := Lib.hid (show Below w2.heap.size w2 w3 by repeat (first | (with_reducible exact Below.refl _ _) | (with_reducible assumption) | ((with_reducible refine bl_alloc ?_ _ ?_); (focus ((first | omega | (simp <;> omega)); done))) | ((with_reducible refine bl_set ?_ _ ?_); (focus ((first | omega | (simp <;> omega)); done))) | (with_reducible refine below_drewN ?_ _) | (with_reducible refine Below.drew ?_) | ((with_reducible refine bl_trans ?_ hb ?_); (focus ((first | omega | (simp <;> omega)); done))))); have f0_0_3 : w3.cell? ⟨w.heap.size, 0, none⟩ = some (.string s0_0) := (by first | exact keeps hb f0_0_2 | exact keeps1 hb f0_0_2 | exact keeps hb (cell_alloc f0_0_2 _) | exact keeps hb (cell_alloc (cell_drew f0_0_2) _)); have f0_1_3 : w3.cell? ⟨w.heap.size, 1, none⟩ = some (.int .i64 a0_1) := (by first | exact keeps hb f0_1_2 | exact keeps1 hb f0_1_2 | exact keeps hb (cell_alloc f0_1_2 _) | exact keeps hb (cell_alloc (cell_drew f0_1_2) _)); have f0_2_3 : w3.cell? ⟨w.heap.size, 2, none⟩ = some (v0_2) := (by first | exact keeps hb f0_2_2 | exact keeps1 hb f0_2_2 | exact keeps hb (cell_alloc f0_2_2 _) | exact keeps hb (cell_alloc (cell_drew f0_2_2) _)); have f0_3_3 : w3.cell? ⟨w.heap.size, 3, none⟩ = some (v0_3) := (by first | exact keeps hb f0_3_2 | exact keeps1 hb f0_3_2 | exact keeps hb (cell_alloc f0_3_2 _) | exact keeps hb (cell_alloc (cell_drew f0_3_2) _)); have f1_0_3 : w3.cell? ⟨w.heap.size + 1, 0, none⟩ = some (.string s1_0) := (by first | exact keeps hb f1_0_2 | exact keeps1 hb f1_0_2 | exact keeps hb (cell_alloc f1_0_2 _) | exact keeps hb (cell_alloc (cell_drew f1_0_2) _)); have f1_1_3 : w3.cell? ⟨w.heap.size + 1, 1, none⟩ = some (.int .i64 a1_1) := (by first | exact keeps hb f1_1_2 | exact keeps1 hb f1_1_2 | exact keeps hb (cell_alloc f1_1_2 _) | exact keeps hb (cell_alloc (cell_drew f1_1_2) _)); have f1_2_3 : w3.cell? ⟨w.heap.size + 1, 2, none⟩ = some (v1_2) := (by first | exact keeps hb f1_2_2 | exact keeps1 hb f1_2_2 | exact keeps hb (cell_alloc f1_2_2 _) | exact keeps hb (cell_alloc (cell_drew f1_2_2) _)); have f1_3_3 : w3.cell? ⟨w.heap.size + 1, 3, none⟩ = some (v1_3) := (by first | exact keeps hb f1_3_2 | exact keeps1 hb f1_3_2 | exact keeps hb (cell_alloc f1_3_2 _) | exact keeps hb (cell_alloc (cell_drew f1_3_2) _)); have R0_3 := Lib.hid (Row.base_le (b' := w2.heap.size) hr0 (by first | omega | (simp <;> omega))); have RL0 := Lib.hid (show ∀ g, Value.ownBlock (.slice A0 n0 c0) = some g → w2.heap.size ≤ g ∧ g < w3.heap.size from fun g h => by have l1 := hr0.lt g h; ((try simp at l1) <;> omega)); have RA0_1 := Lib.hid ha0_1; have R1_3 := Lib.hid (Row.base_le (b' := w2.heap.size) hr1 (by first | omega | (simp <;> omega))); have RL1 := Lib.hid (show ∀ g, Value.ownBlock (.slice A1 n1 c1) = some g → w2.heap.size ≤ g ∧ g < w3.heap.size from fun g h => by have l1 := hr1.lt g h; ((try simp at l1) <;> omega)); (first | (have SZ3 := Lib.hid (SZ2.out.later hb)) | (have SZ3 := Lib.hid (mk_fresh1 hb)) | (have SZ3 := Lib.hid (mk_fresh2 hb)) | (have SZ3 := Lib.hid (mk_fresh hb)) | skip); (first | (have zl3 := SZ3.out.lt) | skip)))
        | (go_at_call 10; ((with_reducible refine (toAntenna_any s1_0 a1_1 v1_2 x1_2 v1_3 x1_3 _ w.heap.size (by first | omega | (simp <;> omega)) (Rd.below r1_2 (by repeat (first | (with_reducible exact Below.refl _ _) | (with_reducible assumption) | ((with_reducible refine bl_alloc ?_ _ ?_); (focus ((first | omega | (simp <;> omega)); done))) | ((with_reducible refine bl_set ?_ _ ?_); (focus ((first | omega | (simp <;> omega)); done))) | (with_reducible refine below_drewN ?_ _) | (with_reducible refine Below.drew ?_) | ((with_reducible refine bl_trans ?_ H3.out ?_); (focus ((first | omega | (simp <;> omega)); done)))))) (by omega) (Rd.below r1_3 (by repeat (first | (with_reducible exact Below.refl _ _) | (with_reducible assumption) | ((with_reducible refine bl_alloc ?_ _ ?_); (focus ((first | omega | (simp <;> omega)); done))) | ((with_reducible refine bl_set ?_ _ ?_); (focus ((first | omega | (simp <;> omega)); done))) | (with_reducible refine below_drewN ?_ _) | (with_reducible refine Below.drew ?_) | ((with_reducible refine bl_trans ?_ H3.out ?_); (focus ((first | omega | (simp <;> omega)); done)))))) (by omega)).mono ?_); rintro e w4 ⟨A2, n2, c2, A3, n3, c3, rfl, hr2, hr3, ha2_3, hb⟩; have zz4 : w3.heap.size ≤ w4.heap.size := (by have := hb.size; ((try simp at this) <;> omega)); have H4 := Lib.hid (show Below w.heap.size w w4 by repeat (first | (with_reducible exact Below.refl _ _) | (with_reducible assumption) | ((with_reducible refine bl_alloc ?_ _ ?_); (focus ((first | omega | (simp <;> omega)); done))) | ((with_reducible refine bl_set ?_ _ ?_); (focus ((first | omega | (simp <;> omega)); done))) | (with_reducible refine below_drewN ?_ _) | (with_reducible refine Below.drew ?_) | ((with_reducible refine bl_trans ?_ hb ?_); (focus ((first | omega | (simp <;> omega)); done))) | ((with_reducible refine bl_trans ?_ H3.out ?_); (focus ((first | omega | (simp <;> omega)); done))))); have HX4 := Lib.hid (show Below w2.heap.size w2 w4 by repeat (first | (with_reducible exact Below.refl _ _) | (with_reducible assumption) | ((with_reducible refine bl_alloc ?_ _ ?_); (focus ((first | omega | (simp <;> omega)); done))) | ((with_reducible refine bl_set ?_ _ ?_); (focus ((first | omega | (simp <;> omega)); done))) | (with_reducible refine below_drewN ?_ _) | (with_reducible refine Below.drew ?_) | ((with_reducible refine bl_trans ?_ hb ?_); (focus ((first | omega | (simp <;> omega)); done))) | ((with_reducible refine bl_trans ?_ HX3.out ?_); (focus ((first | omega | (simp <;> omega)); done))))); have f0_0_4 : w4.cell? ⟨w.heap.size, 0, none⟩ = some (.string s0_0) := (by first | exact keeps hb f0_0_3 | exact keeps1 hb f0_0_3 | exact keeps hb (cell_alloc f0_0_3 _) | exact keeps hb (cell_alloc (cell_drew f0_0_3) _)); have f0_1_4 : w4.cell? ⟨w.heap.size, 1, none⟩ = some (.int .i64 a0_1) := (by first | exact keeps hb f0_1_3 | exact keeps1 hb f0_1_3 | exact keeps hb (cell_alloc f0_1_3 _) | exact keeps hb (cell_alloc (cell_drew f0_1_3) _)); have f0_2_4 : w4.cell? ⟨w.heap.size, 2, none⟩ = some (v0_2) := (by first | exact keeps hb f0_2_3 | exact keeps1 hb f0_2_3 | exact keeps hb (cell_alloc f0_2_3 _) | exact keeps hb (cell_alloc (cell_drew f0_2_3) _)); have f0_3_4 : w4.cell? ⟨w.heap.size, 3, none⟩ = some (v0_3) := (by first | exact keeps hb f0_3_3 | exact keeps1 hb f0_3_3 | exact keeps hb (cell_alloc f0_3_3 _) | exact keeps hb (cell_alloc (cell_drew f0_3_3) _)); have f1_0_4 : w4.cell? ⟨w.heap.size + 1, 0, none⟩ = some (.string s1_0) := (by first | exact keeps hb f1_0_3 | exact keeps1 hb f1_0_3 | exact keeps hb (cell_alloc f1_0_3 _) | exact keeps hb (cell_alloc (cell_drew f1_0_3) _)); have f1_1_4 : w4.cell? ⟨w.heap.size + 1, 1, none⟩ = some (.int .i64 a1_1) := (by first | exact keeps hb f1_1_3 | exact keeps1 hb f1_1_3 | exact keeps hb (cell_alloc f1_1_3 _) | exact keeps hb (cell_alloc (cell_drew f1_1_3) _)); have f1_2_4 : w4.cell? ⟨w.heap.size + 1, 2, none⟩ = some (v1_2) := (by first | exact keeps hb f1_2_3 | exact keeps1 hb f1_2_3 | exact keeps hb (cell_alloc f1_2_3 _) | exact keeps hb (cell_alloc (cell_drew f1_2_3) _)); have f1_3_4 : w4.cell? ⟨w.heap.size + 1, 3, none⟩ = some (v1_3) := (by first | exact keeps hb f1_3_3 | exact keeps1 hb f1_3_3 | exact keeps hb (cell_alloc f1_3_3 _) | exact keeps hb (cell_alloc (cell_drew f1_3_3) _)); have R0_4 : Hid (Row 2 w4 w2.heap.size (.slice A0 n0 c0) x0_2) := (by first | exact Lib.hid (Row.later R0_3.out hb) | exact Lib.hid (Row.later (R0_3.out.alloc_ _) hb)); have R1_4 : Hid (Row 2 w4 w2.heap.size (.slice A1 n1 c1) x0_3) := (by first | exact Lib.hid (Row.later R1_3.out hb) | exact Lib.hid (Row.later (R1_3.out.alloc_ _) hb)); have R2_4 := Lib.hid (Row.base_le (b' := w2.heap.size) hr2 (by first | omega | (simp <;> omega))); have RL2 := Lib.hid (show ∀ g, Value.ownBlock (.slice A2 n2 c2) = some g → w3.heap.size ≤ g ∧ g < w4.heap.size from fun g h => by have l1 := hr2.lt g h; ((try simp at l1) <;> omega)); have RA2_3 := Lib.hid ha2_3; have R3_4 := Lib.hid (Row.base_le (b' := w2.heap.size) hr3 (by first | omega | (simp <;> omega))); have RL3 := Lib.hid (show ∀ g, Value.ownBlock (.slice A3 n3 c3) = some g → w3.heap.size ≤ g ∧ g < w4.heap.size from fun g h => by have l1 := hr3.lt g h; ((try simp at l1) <;> omega)); (first | (have SZ4 := Lib.hid (SZ3.out.later hb)) | (have SZ4 := Lib.hid (mk_fresh1 hb)) | (have SZ4 := Lib.hid (mk_fresh2 hb)) | (have SZ4 := Lib.hid (mk_fresh hb)) | skip); (first | (have zl4 := SZ4.out.lt) | skip)))
        | (go_at_call 9; ((with_reducible refine (spec_any _ s0_0 is0_0 a0_1 ia0_1 _ x0_2 _ (by first | exact R0_4.out | exact R0_4.out.alloc_ _) ix0_2 _ x0_3 _ (by first | exact R1_4.out | exact R1_4.out.alloc_ _) ix0_3 s1_0 is1_0 a1_1 ia1_1 _ x1_2 _ (by first | exact R2_4.out | exact R2_4.out.alloc_ _) ix1_2 _ x1_3 _ (by first | exact R3_4.out | exact R3_4.out.alloc_ _) ix1_3 s2 is2).mono ?_); rintro e w5 ⟨A4, n4, c4, A5, n5, c5, rfl, hr4, hr5, ha4_5, hb⟩; have zz5 : w4.heap.size ≤ w5.heap.size := (by have := hb.size; ((try simp at this) <;> omega)); have H5 := Lib.hid (show Below w.heap.size w w5 by repeat (first | (with_reducible exact Below.refl _ _) | (with_reducible assumption) | ((with_reducible refine bl_alloc ?_ _ ?_); (focus ((first | omega | (simp <;> omega)); done))) | ((with_reducible refine bl_set ?_ _ ?_); (focus ((first | omega | (simp <;> omega)); done))) | (with_reducible refine below_drewN ?_ _) | (with_reducible refine Below.drew ?_) | ((with_reducible refine bl_trans ?_ hb ?_); (focus ((first | omega | (simp <;> omega)); done))) | ((with_reducible refine bl_trans ?_ H4.out ?_); (focus ((first | omega | (simp <;> omega)); done))))); have HX5 := Lib.hid (show Below w2.heap.size w2 w5 by repeat (first | (with_reducible exact Below.refl _ _) | (with_reducible assumption) | ((with_reducible refine bl_alloc ?_ _ ?_); (focus ((first | omega | (simp <;> omega)); done))) | ((with_reducible refine bl_set ?_ _ ?_); (focus ((first | omega | (simp <;> omega)); done))) | (with_reducible refine below_drewN ?_ _) | (with_reducible refine Below.drew ?_) | ((with_reducible refine bl_trans ?_ hb ?_); (focus ((first | omega | (simp <;> omega)); done))) | ((with_reducible refine bl_trans ?_ HX4.out ?_); (focus ((first | omega | (simp <;> omega)); done))))); have f0_0_5 : w5.cell? ⟨w.heap.size, 0, none⟩ = some (.string s0_0) := (by first | exact keeps hb f0_0_4 | exact keeps1 hb f0_0_4 | exact keeps hb (cell_alloc f0_0_4 _) | exact keeps hb (cell_alloc (cell_drew f0_0_4) _)); have f0_1_5 : w5.cell? ⟨w.heap.size, 1, none⟩ = some (.int .i64 a0_1) := (by first | exact keeps hb f0_1_4 | exact keeps1 hb f0_1_4 | exact keeps hb (cell_alloc f0_1_4 _) | exact keeps hb (cell_alloc (cell_drew f0_1_4) _)); have f0_2_5 : w5.cell? ⟨w.heap.size, 2, none⟩ = some (v0_2) := (by first | exact keeps hb f0_2_4 | exact keeps1 hb f0_2_4 | exact keeps hb (cell_alloc f0_2_4 _) | exact keeps hb (cell_alloc (cell_drew f0_2_4) _)); have f0_3_5 : w5.cell? ⟨w.heap.size, 3, none⟩ = some (v0_3) := (by first | exact keeps hb f0_3_4 | exact keeps1 hb f0_3_4 | exact keeps hb (cell_alloc f0_3_4 _) | exact keeps hb (cell_alloc (cell_drew f0_3_4) _)); have f1_0_5 : w5.cell? ⟨w.heap.size + 1, 0, none⟩ = some (.string s1_0) := (by first | exact keeps hb f1_0_4 | exact keeps1 hb f1_0_4 | exact keeps hb (cell_alloc f1_0_4 _) | exact keeps hb (cell_alloc (cell_drew f1_0_4) _)); have f1_1_5 : w5.cell? ⟨w.heap.size + 1, 1, none⟩ = some (.int .i64 a1_1) := (by first | exact keeps hb f1_1_4 | exact keeps1 hb f1_1_4 | exact keeps hb (cell_alloc f1_1_4 _) | exact keeps hb (cell_alloc (cell_drew f1_1_4) _)); have f1_2_5 : w5.cell? ⟨w.heap.size + 1, 2, none⟩ = some (v1_2) := (by first | exact keeps hb f1_2_4 | exact keeps1 hb f1_2_4 | exact keeps hb (cell_alloc f1_2_4 _) | exact keeps hb (cell_alloc (cell_drew f1_2_4) _)); have f1_3_5 : w5.cell? ⟨w.heap.size + 1, 3, none⟩ = some (v1_3) := (by first | exact keeps hb f1_3_4 | exact keeps1 hb f1_3_4 | exact keeps hb (cell_alloc f1_3_4 _) | exact keeps hb (cell_alloc (cell_drew f1_3_4) _)); have R4_5 := Lib.hid (Row.base_le (b' := w2.heap.size) hr4 (by first | omega | (simp <;> omega))); have RL4 := Lib.hid (show ∀ g, Value.ownBlock (.slice A4 n4 c4) = some g → w4.heap.size ≤ g ∧ g < w5.heap.size from fun g h => by have l1 := hr4.lt g h; ((try simp at l1) <;> omega)); have RA4_5 := Lib.hid ha4_5; have R5_5 := Lib.hid (Row.base_le (b' := w2.heap.size) hr5 (by first | omega | (simp <;> omega))); have RL5 := Lib.hid (show ∀ g, Value.ownBlock (.slice A5 n5 c5) = some g → w4.heap.size ≤ g ∧ g < w5.heap.size from fun g h => by have l1 := hr5.lt g h; ((try simp at l1) <;> omega)); (first | (have SZ5 := Lib.hid (SZ4.out.later hb)) | (have SZ5 := Lib.hid (mk_fresh1 hb)) | (have SZ5 := Lib.hid (mk_fresh2 hb)) | (have SZ5 := Lib.hid (mk_fresh hb)) | skip); (first | (have zl5 := SZ5.out.lt) | skip); (first | (have SZZ := SZ5; have z0_ := SZZ.out.cell 0 _ rfl; have z1_ := SZZ.out.cell 1 _ rfl; have z2_ := SZZ.out.cell 2 _ rfl; have z3_ := SZZ.out.cell 3 _ rfl; have zf_ := SZZ.out.free; have zl_ := SZZ.out.lt) | skip))))
    all_goals (go_wp2_with fail; go_meet)
    all_goals skip
    all_goals first
      | exact ⟨_, _, _, _, _, _, _, rfl, rfl, SInv.fresh _ _ _, (show _ ≤ _ by omega), (R4_5.out.alloc_ _), (R5_5.out.alloc_ _), RA4_5, (fun q => by have h1 := hr4.lt _ q; ((try simp at h1) <;> omega)), (fun q => by have h1 := hr5.lt _ q; ((try simp at h1) <;> omega)), bl_alloc (by omega) _ HX5.out⟩
      | exact ⟨_, _, _, _, _, _, _, rfl, rfl, (Lib.hid (by simpa using ((((SZZ.out.set 0 (by simp) (.string (envN s0_0 a0_1 x0_2 x0_3 s1_0 a1_1 x1_2 x1_3 s2))).set 1 (by simp) (.int .i64 ((envG s0_0 a0_1 x0_2 x0_3 s1_0 a1_1 x1_2 x1_3 s2)))).set 2 (by simp) ((.slice A4 n4 c4))).set 3 (by simp) ((.slice A5 n5 c5))))), (show _ ≤ _ by omega), (Lib.hid (by repeat (first | (with_reducible exact R4_5.out) | (with_reducible refine Row.other ?_ (fun q => by have h1 := hr4.lt _ q; ((try simp at h1) <;> omega)) _)))), (Lib.hid (by repeat (first | (with_reducible exact R5_5.out) | (with_reducible refine Row.other ?_ (fun q => by have h1 := hr5.lt _ q; ((try simp at h1) <;> omega)) _)))), RA4_5, (fun q => by have h1 := hr4.lt _ q; ((try simp at h1) <;> omega)), (fun q => by have h1 := hr5.lt _ q; ((try simp at h1) <;> omega)), (Lib.hid (by repeat (first | (with_reducible exact Below.refl _ _) | (with_reducible assumption) | ((with_reducible refine bl_alloc ?_ _ ?_); (focus ((first | omega | (simp <;> omega)); done))) | ((with_reducible refine bl_set ?_ _ ?_); (focus ((first | omega | (simp <;> omega)); done))) | (with_reducible refine below_drewN ?_ _) | (with_reducible refine Below.drew ?_) | ((with_reducible refine bl_trans ?_ HX5.out ?_); (focus ((first | omega | (simp <;> omega)); done))))))⟩
  obtain ⟨O6, A4, n4, c4, A5, n5, c5, hpp, hcc, hs, ho, hr4, hr5, ha4_5, ho4, ho5, hbx⟩ := hcut
  subst hpp hcc
  obtain ⟨w6, hw_⟩ : ∃ x, x = wc := ⟨_, rfl⟩
  rw [← hw_] at hs hr4 hr5 hbx ⊢
  clear hw_
  have hb := hbx.out
  have zz6 : w2.heap.size ≤ w6.heap.size := hb.size
  have H6 := Lib.hid (show Below w.heap.size w w6 by repeat (first | (with_reducible exact Below.refl _ _) | (with_reducible assumption) | ((with_reducible refine bl_alloc ?_ _ ?_); (focus ((first | omega | (simp <;> omega)); done))) | ((with_reducible refine bl_set ?_ _ ?_); (focus ((first | omega | (simp <;> omega)); done))) | (with_reducible refine below_drewN ?_ _) | (with_reducible refine Below.drew ?_) | ((with_reducible refine bl_trans ?_ hb ?_); (focus ((first | omega | (simp <;> omega)); done))) | ((with_reducible refine bl_trans ?_ H2.out ?_); (focus ((first | omega | (simp <;> omega)); done)))))
  have lo6 : O6 < w6.heap.size := hs.out.lt
  have lp6 : w2.heap.size ≤ O6 := ho.out
  have f0_0_6 := keeps hb f0_0_2
  have f0_1_6 := keeps hb f0_1_2
  have f0_2_6 := keeps hb f0_2_2
  have f0_3_6 := keeps hb f0_3_2
  have g0_6 : w.heap.size < w6.heap.size := block_of_cell f0_0_6
  have f1_0_6 := keeps hb f1_0_2
  have f1_1_6 := keeps hb f1_1_2
  have f1_2_6 := keeps hb f1_2_2
  have f1_3_6 := keeps hb f1_3_2
  have g1_6 : w.heap.size + 1 < w6.heap.size := block_of_cell f1_0_6
  have f2_0_6 := hs.out.cell 0 _ rfl
  have f2_1_6 := hs.out.cell 1 _ rfl
  have f2_2_6 := hs.out.cell 2 _ rfl
  have f2_3_6 := hs.out.cell 3 _ rfl
  have g2_6 : O6 < w6.heap.size := hs.out.lt
  have R4_6 := Lib.hid hr4.out
  have RL4 := Lib.hid (show ∀ g, Value.ownBlock (.slice A4 n4 c4) = some g → w2.heap.size ≤ g ∧ g < w6.heap.size from fun g h => hr4.out.lt g h)
  have R5_6 := Lib.hid hr5.out
  have RL5 := Lib.hid (show ∀ g, Value.ownBlock (.slice A5 n5 c5) = some g → w2.heap.size ≤ g ∧ g < w6.heap.size from fun g h => hr5.out.lt g h)
  have RA4_5 := ha4_5
  clear hbx ho f0_0_2 f0_1_2 f0_2_2 f0_3_2 g0_2 f1_0_2 f1_1_2 f1_2_2 f1_3_2 g1_2 hs hr4 ho4 hr5 ho5 hb H2
  go_wp2_with fail
  refine (toAntenna_any s0_0 a0_1 v0_2 x0_2 v0_3 x0_3 _ w.heap.size (by first | omega | (simp <;> omega)) (Rd.below r0_2 (by repeat (first | (with_reducible exact Below.refl _ _) | (with_reducible assumption) | ((with_reducible refine bl_alloc ?_ _ ?_); (focus ((first | omega | (simp <;> omega)); done))) | ((with_reducible refine bl_set ?_ _ ?_); (focus ((first | omega | (simp <;> omega)); done))) | (with_reducible refine below_drewN ?_ _) | (with_reducible refine Below.drew ?_) | ((with_reducible refine bl_trans ?_ H6.out ?_); (focus ((first | omega | (simp <;> omega)); done)))))) (by omega) (Rd.below r0_3 (by repeat (first | (with_reducible exact Below.refl _ _) | (with_reducible assumption) | ((with_reducible refine bl_alloc ?_ _ ?_); (focus ((first | omega | (simp <;> omega)); done))) | ((with_reducible refine bl_set ?_ _ ?_); (focus ((first | omega | (simp <;> omega)); done))) | (with_reducible refine below_drewN ?_ _) | (with_reducible refine Below.drew ?_) | ((with_reducible refine bl_trans ?_ H6.out ?_); (focus ((first | omega | (simp <;> omega)); done)))))) (by omega)).mono ?_
  rintro e w7 ⟨A6, n6, c6, A7, n7, c7, rfl, hr6, hr7, ha6_7, hb⟩
  have zz7 : w6.heap.size ≤ w7.heap.size := (by have := hb.size; ((try simp at this) <;> omega))
  have H7 := Lib.hid (show Below w.heap.size w w7 by repeat (first | (with_reducible exact Below.refl _ _) | (with_reducible assumption) | ((with_reducible refine bl_alloc ?_ _ ?_); (focus ((first | omega | (simp <;> omega)); done))) | ((with_reducible refine bl_set ?_ _ ?_); (focus ((first | omega | (simp <;> omega)); done))) | (with_reducible refine below_drewN ?_ _) | (with_reducible refine Below.drew ?_) | ((with_reducible refine bl_trans ?_ hb ?_); (focus ((first | omega | (simp <;> omega)); done))) | ((with_reducible refine bl_trans ?_ H6.out ?_); (focus ((first | omega | (simp <;> omega)); done)))))
  have f0_0_7 := keeps hb f0_0_6
  have f0_1_7 := keeps hb f0_1_6
  have f0_2_7 := keeps hb f0_2_6
  have f0_3_7 := keeps hb f0_3_6
  have g0_7 : w.heap.size < w7.heap.size := block_of_cell f0_0_7
  have f1_0_7 := keeps hb f1_0_6
  have f1_1_7 := keeps hb f1_1_6
  have f1_2_7 := keeps hb f1_2_6
  have f1_3_7 := keeps hb f1_3_6
  have g1_7 : w.heap.size + 1 < w7.heap.size := block_of_cell f1_0_7
  have f2_0_7 := keeps hb f2_0_6
  have f2_1_7 := keeps hb f2_1_6
  have f2_2_7 := keeps hb f2_2_6
  have f2_3_7 := keeps hb f2_3_6
  have g2_7 : O6 < w7.heap.size := block_of_cell f2_0_7
  have R4_7 := Lib.hid (Row.later R4_6.out hb)
  have R5_7 := Lib.hid (Row.later R5_6.out hb)
  have R6_7 := Lib.hid hr6
  have RL6 := Lib.hid (show ∀ g, Value.ownBlock (.slice A6 n6 c6) = some g → w6.heap.size ≤ g ∧ g < w7.heap.size from fun g h => by have l1 := hr6.lt g h; ((try simp at l1) <;> omega))
  have RA6_7 := Lib.hid ha6_7
  have R7_7 := Lib.hid hr7
  have RL7 := Lib.hid (show ∀ g, Value.ownBlock (.slice A7 n7 c7) = some g → w6.heap.size ≤ g ∧ g < w7.heap.size from fun g h => by have l1 := hr7.lt g h; ((try simp at l1) <;> omega))
  clear hb f0_0_6 f0_1_6 f0_2_6 f0_3_6 g0_6 f1_0_6 f1_1_6 f1_2_6 f1_3_6 g1_6 f2_0_6 f2_1_6 f2_2_6 f2_3_6 g2_6 R4_6 R5_6 hr6 ha6_7 hr7 H6
  go_wp2_with fail
  refine (toAntenna_any s1_0 a1_1 v1_2 x1_2 v1_3 x1_3 _ w.heap.size (by first | omega | (simp <;> omega)) (Rd.below r1_2 (by repeat (first | (with_reducible exact Below.refl _ _) | (with_reducible assumption) | ((with_reducible refine bl_alloc ?_ _ ?_); (focus ((first | omega | (simp <;> omega)); done))) | ((with_reducible refine bl_set ?_ _ ?_); (focus ((first | omega | (simp <;> omega)); done))) | (with_reducible refine below_drewN ?_ _) | (with_reducible refine Below.drew ?_) | ((with_reducible refine bl_trans ?_ H7.out ?_); (focus ((first | omega | (simp <;> omega)); done)))))) (by omega) (Rd.below r1_3 (by repeat (first | (with_reducible exact Below.refl _ _) | (with_reducible assumption) | ((with_reducible refine bl_alloc ?_ _ ?_); (focus ((first | omega | (simp <;> omega)); done))) | ((with_reducible refine bl_set ?_ _ ?_); (focus ((first | omega | (simp <;> omega)); done))) | (with_reducible refine below_drewN ?_ _) | (with_reducible refine Below.drew ?_) | ((with_reducible refine bl_trans ?_ H7.out ?_); (focus ((first | omega | (simp <;> omega)); done)))))) (by omega)).mono ?_
  rintro e w8 ⟨A8, n8, c8, A9, n9, c9, rfl, hr8, hr9, ha8_9, hb⟩
  have zz8 : w7.heap.size + 1 ≤ w8.heap.size := (by have := hb.size; ((try simp at this) <;> omega))
  have H8 := Lib.hid (show Below w.heap.size w w8 by repeat (first | (with_reducible exact Below.refl _ _) | (with_reducible assumption) | ((with_reducible refine bl_alloc ?_ _ ?_); (focus ((first | omega | (simp <;> omega)); done))) | ((with_reducible refine bl_set ?_ _ ?_); (focus ((first | omega | (simp <;> omega)); done))) | (with_reducible refine below_drewN ?_ _) | (with_reducible refine Below.drew ?_) | ((with_reducible refine bl_trans ?_ hb ?_); (focus ((first | omega | (simp <;> omega)); done))) | ((with_reducible refine bl_trans ?_ H7.out ?_); (focus ((first | omega | (simp <;> omega)); done)))))
  have f0_0_8 := keeps hb (cell_alloc f0_0_7 _)
  have f0_1_8 := keeps hb (cell_alloc f0_1_7 _)
  have f0_2_8 := keeps hb (cell_alloc f0_2_7 _)
  have f0_3_8 := keeps hb (cell_alloc f0_3_7 _)
  have g0_8 : w.heap.size < w8.heap.size := block_of_cell f0_0_8
  have f1_0_8 := keeps hb (cell_alloc f1_0_7 _)
  have f1_1_8 := keeps hb (cell_alloc f1_1_7 _)
  have f1_2_8 := keeps hb (cell_alloc f1_2_7 _)
  have f1_3_8 := keeps hb (cell_alloc f1_3_7 _)
  have g1_8 : w.heap.size + 1 < w8.heap.size := block_of_cell f1_0_8
  have f2_0_8 := keeps hb (cell_alloc f2_0_7 _)
  have f2_1_8 := keeps hb (cell_alloc f2_1_7 _)
  have f2_2_8 := keeps hb (cell_alloc f2_2_7 _)
  have f2_3_8 := keeps hb (cell_alloc f2_3_7 _)
  have g2_8 : O6 < w8.heap.size := block_of_cell f2_0_8
  have f3_0_8 := keeps hb (p := ⟨w7.heap.size, 0, none⟩) (v := .string s0_0) (by simp [go_sem])
  have f3_1_8 := keeps hb (p := ⟨w7.heap.size, 1, none⟩) (v := .int .i64 a0_1) (by simp [go_sem])
  have f3_2_8 := keeps hb (p := ⟨w7.heap.size, 2, none⟩) (v := (.slice A6 n6 c6)) (by simp [go_sem])
  have f3_3_8 := keeps hb (p := ⟨w7.heap.size, 3, none⟩) (v := (.slice A7 n7 c7)) (by simp [go_sem])
  have g3_8 : w7.heap.size < w8.heap.size := block_of_cell f3_0_8
  have R4_8 := Lib.hid (Row.later (R4_7.out.alloc_ _) hb)
  have R5_8 := Lib.hid (Row.later (R5_7.out.alloc_ _) hb)
  have R6_8 := Lib.hid (Row.later (R6_7.out.alloc_ _) hb)
  have R7_8 := Lib.hid (Row.later (R7_7.out.alloc_ _) hb)
  have R8_8 := Lib.hid hr8
  have RL8 := Lib.hid (show ∀ g, Value.ownBlock (.slice A8 n8 c8) = some g → w7.heap.size + 1 ≤ g ∧ g < w8.heap.size from fun g h => by have l1 := hr8.lt g h; ((try simp at l1) <;> omega))
  have RA8_9 := Lib.hid ha8_9
  have R9_8 := Lib.hid hr9
  have RL9 := Lib.hid (show ∀ g, Value.ownBlock (.slice A9 n9 c9) = some g → w7.heap.size + 1 ≤ g ∧ g < w8.heap.size from fun g h => by have l1 := hr9.lt g h; ((try simp at l1) <;> omega))
  clear hb f0_0_7 f0_1_7 f0_2_7 f0_3_7 g0_7 f1_0_7 f1_1_7 f1_2_7 f1_3_7 g1_7 f2_0_7 f2_1_7 f2_2_7 f2_3_7 g2_7 R4_7 R5_7 R6_7 R7_7 hr8 ha8_9 hr9 H7
  go_wp2_with fail
  refine (impl_any _ s0_0 is0_0 a0_1 ia0_1 _ x0_2 _ (R6_8.out.alloc_ _) ix0_2 _ x0_3 _ (R7_8.out.alloc_ _) ix0_3 s1_0 is1_0 a1_1 ia1_1 _ x1_2 _ (R8_8.out.alloc_ _) ix1_2 _ x1_3 _ (R9_8.out.alloc_ _) ix1_3 s2 is2).mono ?_
  rintro e w9 ⟨A10, n10, c10, A11, n11, c11, rfl, hr10, hr11, ha10_11, hb⟩
  have zz9 : w8.heap.size + 1 ≤ w9.heap.size := (by have := hb.size; ((try simp at this) <;> omega))
  have H9 := Lib.hid (show Below w.heap.size w w9 by repeat (first | (with_reducible exact Below.refl _ _) | (with_reducible assumption) | ((with_reducible refine bl_alloc ?_ _ ?_); (focus ((first | omega | (simp <;> omega)); done))) | ((with_reducible refine bl_set ?_ _ ?_); (focus ((first | omega | (simp <;> omega)); done))) | (with_reducible refine below_drewN ?_ _) | (with_reducible refine Below.drew ?_) | ((with_reducible refine bl_trans ?_ hb ?_); (focus ((first | omega | (simp <;> omega)); done))) | ((with_reducible refine bl_trans ?_ H8.out ?_); (focus ((first | omega | (simp <;> omega)); done)))))
  have f0_0_9 := keeps hb (cell_alloc f0_0_8 _)
  have f0_1_9 := keeps hb (cell_alloc f0_1_8 _)
  have f0_2_9 := keeps hb (cell_alloc f0_2_8 _)
  have f0_3_9 := keeps hb (cell_alloc f0_3_8 _)
  have g0_9 : w.heap.size < w9.heap.size := block_of_cell f0_0_9
  have f1_0_9 := keeps hb (cell_alloc f1_0_8 _)
  have f1_1_9 := keeps hb (cell_alloc f1_1_8 _)
  have f1_2_9 := keeps hb (cell_alloc f1_2_8 _)
  have f1_3_9 := keeps hb (cell_alloc f1_3_8 _)
  have g1_9 : w.heap.size + 1 < w9.heap.size := block_of_cell f1_0_9
  have f2_0_9 := keeps hb (cell_alloc f2_0_8 _)
  have f2_1_9 := keeps hb (cell_alloc f2_1_8 _)
  have f2_2_9 := keeps hb (cell_alloc f2_2_8 _)
  have f2_3_9 := keeps hb (cell_alloc f2_3_8 _)
  have g2_9 : O6 < w9.heap.size := block_of_cell f2_0_9
  have f3_0_9 := keeps hb (cell_alloc f3_0_8 _)
  have f3_1_9 := keeps hb (cell_alloc f3_1_8 _)
  have f3_2_9 := keeps hb (cell_alloc f3_2_8 _)
  have f3_3_9 := keeps hb (cell_alloc f3_3_8 _)
  have g3_9 : w7.heap.size < w9.heap.size := block_of_cell f3_0_9
  have f4_0_9 := keeps hb (p := ⟨w8.heap.size, 0, none⟩) (v := .string s1_0) (by simp [go_sem])
  have f4_1_9 := keeps hb (p := ⟨w8.heap.size, 1, none⟩) (v := .int .i64 a1_1) (by simp [go_sem])
  have f4_2_9 := keeps hb (p := ⟨w8.heap.size, 2, none⟩) (v := (.slice A8 n8 c8)) (by simp [go_sem])
  have f4_3_9 := keeps hb (p := ⟨w8.heap.size, 3, none⟩) (v := (.slice A9 n9 c9)) (by simp [go_sem])
  have g4_9 : w8.heap.size < w9.heap.size := block_of_cell f4_0_9
  have R4_9 := Lib.hid (Row.later (R4_8.out.alloc_ _) hb)
  have R5_9 := Lib.hid (Row.later (R5_8.out.alloc_ _) hb)
  have R6_9 := Lib.hid (Row.later (R6_8.out.alloc_ _) hb)
  have R7_9 := Lib.hid (Row.later (R7_8.out.alloc_ _) hb)
  have R8_9 := Lib.hid (Row.later (R8_8.out.alloc_ _) hb)
  have R9_9 := Lib.hid (Row.later (R9_8.out.alloc_ _) hb)
  have R10_9 := Lib.hid hr10
  have RL10 := Lib.hid (show ∀ g, Value.ownBlock (.slice A10 n10 c10) = some g → w8.heap.size + 1 ≤ g ∧ g < w9.heap.size from fun g h => by have l1 := hr10.lt g h; ((try simp at l1) <;> omega))
  have RA10_11 := Lib.hid ha10_11
  have R11_9 := Lib.hid hr11
  have RL11 := Lib.hid (show ∀ g, Value.ownBlock (.slice A11 n11 c11) = some g → w8.heap.size + 1 ≤ g ∧ g < w9.heap.size from fun g h => by have l1 := hr11.lt g h; ((try simp at l1) <;> omega))
  clear hb f0_0_8 f0_1_8 f0_2_8 f0_3_8 g0_8 f1_0_8 f1_1_8 f1_2_8 f1_3_8 g1_8 f2_0_8 f2_1_8 f2_2_8 f2_3_8 g2_8 f3_0_8 f3_1_8 f3_2_8 f3_3_8 g3_8 R4_8 R5_8 R6_8 R7_8 R8_8 R9_8 hr10 ha10_11 hr11 H8
  go_wp2_with fail
  refine (eqAntenna_any ((envN s0_0 a0_1 x0_2 x0_3 s1_0 a1_1 x1_2 x1_3 s2)) ((envG s0_0 a0_1 x0_2 x0_3 s1_0 a1_1 x1_2 x1_3 s2)) _ _ _ ((envH s0_0 a0_1 x0_2 x0_3 s1_0 a1_1 x1_2 x1_3 s2)) _ _ (R10_9.out.alloc_ _) (R4_9.out.alloc_ _) _ _ ((envW s0_0 a0_1 x0_2 x0_3 s1_0 a1_1 x1_2 x1_3 s2)) _ _ (R11_9.out.alloc_ _) (R5_9.out.alloc_ _)).mono ?_
  rintro e w10 ⟨rfl, hb⟩
  have zz10 : w9.heap.size + 1 ≤ w10.heap.size := (by have := hb.size; ((try simp at this) <;> omega))
  have H10 := Lib.hid (show Below w.heap.size w w10 by repeat (first | (with_reducible exact Below.refl _ _) | (with_reducible assumption) | ((with_reducible refine bl_alloc ?_ _ ?_); (focus ((first | omega | (simp <;> omega)); done))) | ((with_reducible refine bl_set ?_ _ ?_); (focus ((first | omega | (simp <;> omega)); done))) | (with_reducible refine below_drewN ?_ _) | (with_reducible refine Below.drew ?_) | ((with_reducible refine bl_trans ?_ hb ?_); (focus ((first | omega | (simp <;> omega)); done))) | ((with_reducible refine bl_trans ?_ H9.out ?_); (focus ((first | omega | (simp <;> omega)); done)))))
  have f0_0_10 := keeps hb (cell_alloc f0_0_9 _)
  have f0_1_10 := keeps hb (cell_alloc f0_1_9 _)
  have f0_2_10 := keeps hb (cell_alloc f0_2_9 _)
  have f0_3_10 := keeps hb (cell_alloc f0_3_9 _)
  have g0_10 : w.heap.size < w10.heap.size := block_of_cell f0_0_10
  have f1_0_10 := keeps hb (cell_alloc f1_0_9 _)
  have f1_1_10 := keeps hb (cell_alloc f1_1_9 _)
  have f1_2_10 := keeps hb (cell_alloc f1_2_9 _)
  have f1_3_10 := keeps hb (cell_alloc f1_3_9 _)
  have g1_10 : w.heap.size + 1 < w10.heap.size := block_of_cell f1_0_10
  have f2_0_10 := keeps hb (cell_alloc f2_0_9 _)
  have f2_1_10 := keeps hb (cell_alloc f2_1_9 _)
  have f2_2_10 := keeps hb (cell_alloc f2_2_9 _)
  have f2_3_10 := keeps hb (cell_alloc f2_3_9 _)
  have g2_10 : O6 < w10.heap.size := block_of_cell f2_0_10
  have f3_0_10 := keeps hb (cell_alloc f3_0_9 _)
  have f3_1_10 := keeps hb (cell_alloc f3_1_9 _)
  have f3_2_10 := keeps hb (cell_alloc f3_2_9 _)
  have f3_3_10 := keeps hb (cell_alloc f3_3_9 _)
  have g3_10 : w7.heap.size < w10.heap.size := block_of_cell f3_0_10
  have f4_0_10 := keeps hb (cell_alloc f4_0_9 _)
  have f4_1_10 := keeps hb (cell_alloc f4_1_9 _)
  have f4_2_10 := keeps hb (cell_alloc f4_2_9 _)
  have f4_3_10 := keeps hb (cell_alloc f4_3_9 _)
  have g4_10 : w8.heap.size < w10.heap.size := block_of_cell f4_0_10
  have f5_0_10 := keeps hb (p := ⟨w9.heap.size, 0, none⟩) (v := .string (envN s0_0 a0_1 x0_2 x0_3 s1_0 a1_1 x1_2 x1_3 s2)) (by simp [go_sem])
  have f5_1_10 := keeps hb (p := ⟨w9.heap.size, 1, none⟩) (v := .int .i64 ((envG s0_0 a0_1 x0_2 x0_3 s1_0 a1_1 x1_2 x1_3 s2))) (by simp [go_sem])
  have f5_2_10 := keeps hb (p := ⟨w9.heap.size, 2, none⟩) (v := (.slice A10 n10 c10)) (by simp [go_sem])
  have f5_3_10 := keeps hb (p := ⟨w9.heap.size, 3, none⟩) (v := (.slice A11 n11 c11)) (by simp [go_sem])
  have g5_10 : w9.heap.size < w10.heap.size := block_of_cell f5_0_10
  have R4_10 := Lib.hid (Row.later (R4_9.out.alloc_ _) hb)
  have R5_10 := Lib.hid (Row.later (R5_9.out.alloc_ _) hb)
  have R6_10 := Lib.hid (Row.later (R6_9.out.alloc_ _) hb)
  have R7_10 := Lib.hid (Row.later (R7_9.out.alloc_ _) hb)
  have R8_10 := Lib.hid (Row.later (R8_9.out.alloc_ _) hb)
  have R9_10 := Lib.hid (Row.later (R9_9.out.alloc_ _) hb)
  have R10_10 := Lib.hid (Row.later (R10_9.out.alloc_ _) hb)
  have R11_10 := Lib.hid (Row.later (R11_9.out.alloc_ _) hb)
  clear hb f0_0_9 f0_1_9 f0_2_9 f0_3_9 g0_9 f1_0_9 f1_1_9 f1_2_9 f1_3_9 g1_9 f2_0_9 f2_1_9 f2_2_9 f2_3_9 g2_9 f3_0_9 f3_1_9 f3_2_9 f3_3_9 g3_9 f4_0_9 f4_1_9 f4_2_9 f4_3_9 g4_9 R4_9 R5_9 R6_9 R7_9 R8_9 R9_9 R10_9 R11_9 H9
  go_wp2_with fail
  go_region_held3 (fun w' => w'.cell? ⟨w7.heap.size, 0, none⟩ = some (.string s0_0) ∧ w'.cell? ⟨w7.heap.size, 1, none⟩ = some (.int .i64 a0_1) ∧ w'.cell? ⟨w7.heap.size, 2, none⟩ = some ((.slice A6 n6 c6)) ∧ w'.cell? ⟨w7.heap.size, 3, none⟩ = some ((.slice A7 n7 c7)) ∧ w'.cell? ⟨w.heap.size, 0, none⟩ = some (.string s0_0) ∧ w'.cell? ⟨w.heap.size, 1, none⟩ = some (.int .i64 a0_1) ∧ w'.cell? ⟨w.heap.size, 2, none⟩ = some (v0_2) ∧ w'.cell? ⟨w.heap.size, 3, none⟩ = some (v0_3))
    (first | (refine ⟨?_, ?_, ?_, ?_, ?_, ?_, ?_, ?_⟩ <;> assumption) | (go_split_ands; (refine ⟨?_, ?_, ?_, ?_, ?_, ?_, ?_, ?_⟩ <;> first | assumption | (refine keeps hb ?_; assumption))))
    (first
      | (go_at_call 10; ((with_reducible refine (toAntenna_any s0_0 a0_1 v0_2 x0_2 v0_3 x0_3 _ w.heap.size (by first | omega | (simp <;> omega)) (Rd.below r0_2 (by repeat (first | (with_reducible exact Below.refl _ _) | (with_reducible assumption) | ((with_reducible refine bl_alloc ?_ _ ?_); (focus ((first | omega | (simp <;> omega)); done))) | ((with_reducible refine bl_set ?_ _ ?_); (focus ((first | omega | (simp <;> omega)); done))) | (with_reducible refine below_drewN ?_ _) | (with_reducible refine Below.drew ?_) | ((with_reducible refine bl_trans ?_ H10.out ?_); (focus ((first | omega | (simp <;> omega)); done)))))) (by omega) (Rd.below r0_3 (by repeat (first | (with_reducible exact Below.refl _ _) | (with_reducible assumption) | ((with_reducible refine bl_alloc ?_ _ ?_); (focus ((first | omega | (simp <;> omega)); done))) | ((with_reducible refine bl_set ?_ _ ?_); (focus ((first | omega | (simp <;> omega)); done))) | (with_reducible refine below_drewN ?_ _) | (with_reducible refine Below.drew ?_) | ((with_reducible refine bl_trans ?_ H10.out ?_); (focus ((first | omega | (simp <;> omega)); done)))))) (by omega)).mono ?_); rintro e w11 ⟨A12, n12, c12, A13, n13, c13, rfl, hr12, hr13, ha12_13, hb⟩; have zz11 : w10.heap.size ≤ w11.heap.size := (by have := hb.size; ((try simp at this) <;> omega)); have H11 := Lib.hid (show Below w.heap.size w w11 by repeat (first | (with_reducible exact Below.refl _ _) | (with_reducible assumption) | ((with_reducible refine bl_alloc ?_ _ ?_); (focus ((first | omega | (simp <;> omega)); done))) | ((with_reducible refine bl_set ?_ _ ?_); (focus ((first | omega | (simp <;> omega)); done))) | (with_reducible refine below_drewN ?_ _) | (with_reducible refine Below.drew ?_) | ((with_reducible refine bl_trans ?_ hb ?_); (focus ((first | omega | (simp <;> omega)); done))) | ((with_reducible refine bl_trans ?_ H10.out ?_); (focus ((first | omega | (simp <;> omega)); done))))); have f0_0_11 := keeps1 hb f0_0_10; have f0_1_11 := keeps1 hb f0_1_10; have f0_2_11 := keeps1 hb f0_2_10; have f0_3_11 := keeps1 hb f0_3_10; have g0_11 : w.heap.size < w11.heap.size := block_of_cell f0_0_11; have f1_0_11 := keeps1 hb f1_0_10; have f1_1_11 := keeps1 hb f1_1_10; have f1_2_11 := keeps1 hb f1_2_10; have f1_3_11 := keeps1 hb f1_3_10; have g1_11 : w.heap.size + 1 < w11.heap.size := block_of_cell f1_0_11; have f2_0_11 := keeps1 hb f2_0_10; have f2_1_11 := keeps1 hb f2_1_10; have f2_2_11 := keeps1 hb f2_2_10; have f2_3_11 := keeps1 hb f2_3_10; have g2_11 : O6 < w11.heap.size := block_of_cell f2_0_11; have f3_0_11 := keeps1 hb f3_0_10; have f3_1_11 := keeps1 hb f3_1_10; have f3_2_11 := keeps1 hb f3_2_10; have f3_3_11 := keeps1 hb f3_3_10; have g3_11 : w7.heap.size < w11.heap.size := block_of_cell f3_0_11; have f4_0_11 := keeps1 hb f4_0_10; have f4_1_11 := keeps1 hb f4_1_10; have f4_2_11 := keeps1 hb f4_2_10; have f4_3_11 := keeps1 hb f4_3_10; have g4_11 : w8.heap.size < w11.heap.size := block_of_cell f4_0_11; have f5_0_11 := keeps1 hb f5_0_10; have f5_1_11 := keeps1 hb f5_1_10; have f5_2_11 := keeps1 hb f5_2_10; have f5_3_11 := keeps1 hb f5_3_10; have g5_11 : w9.heap.size < w11.heap.size := block_of_cell f5_0_11; have R4_11 := Lib.hid (Row.later1 R4_10.out hb); have R5_11 := Lib.hid (Row.later1 R5_10.out hb); have R6_11 := Lib.hid (Row.later1 R6_10.out hb); have R7_11 := Lib.hid (Row.later1 R7_10.out hb); have R8_11 := Lib.hid (Row.later1 R8_10.out hb); have R9_11 := Lib.hid (Row.later1 R9_10.out hb); have R10_11 := Lib.hid (Row.later1 R10_10.out hb); have R11_11 := Lib.hid (Row.later1 R11_10.out hb); have R12_11 := Lib.hid hr12; have RL12 := Lib.hid (show ∀ g, Value.ownBlock (.slice A12 n12 c12) = some g → w10.heap.size ≤ g ∧ g < w11.heap.size from fun g h => by have l1 := hr12.lt g h; ((try simp at l1) <;> omega)); have RA12_13 := Lib.hid ha12_13; have R13_11 := Lib.hid hr13; have RL13 := Lib.hid (show ∀ g, Value.ownBlock (.slice A13 n13 c13) = some g → w10.heap.size ≤ g ∧ g < w11.heap.size from fun g h => by have l1 := hr13.lt g h; ((try simp at l1) <;> omega)); clear f0_0_10 f0_1_10 f0_2_10 f0_3_10 g0_10 f1_0_10 f1_1_10 f1_2_10 f1_3_10 g1_10 f2_0_10 f2_1_10 f2_2_10 f2_3_10 g2_10 f3_0_10 f3_1_10 f3_2_10 f3_3_10 g3_10 f4_0_10 f4_1_10 f4_2_10 f4_3_10 g4_10 f5_0_10 f5_1_10 f5_2_10 f5_3_10 g5_10 R4_10 R5_10 R6_10 R7_10 R8_10 R9_10 R10_10 R11_10 hr12 ha12_13 hr13 H10))
      | (go_at_call 12; ((with_reducible refine (eqAntenna_any s0_0 a0_1 _ _ _ (x0_2) _ _ R6_11.out R12_11.out _ _ (x0_3) _ _ R7_11.out R13_11.out).mono ?_); rintro e w12 ⟨rfl, hb⟩; have zz12 : w11.heap.size ≤ w12.heap.size := (by have := hb.size; ((try simp at this) <;> omega)); have H12 := Lib.hid (show Below w.heap.size w w12 by repeat (first | (with_reducible exact Below.refl _ _) | (with_reducible assumption) | ((with_reducible refine bl_alloc ?_ _ ?_); (focus ((first | omega | (simp <;> omega)); done))) | ((with_reducible refine bl_set ?_ _ ?_); (focus ((first | omega | (simp <;> omega)); done))) | (with_reducible refine below_drewN ?_ _) | (with_reducible refine Below.drew ?_) | ((with_reducible refine bl_trans ?_ hb ?_); (focus ((first | omega | (simp <;> omega)); done))) | ((with_reducible refine bl_trans ?_ H11.out ?_); (focus ((first | omega | (simp <;> omega)); done))))); have f0_0_12 := keeps hb f0_0_11; have f0_1_12 := keeps hb f0_1_11; have f0_2_12 := keeps hb f0_2_11; have f0_3_12 := keeps hb f0_3_11; have g0_12 : w.heap.size < w12.heap.size := block_of_cell f0_0_12; have f1_0_12 := keeps hb f1_0_11; have f1_1_12 := keeps hb f1_1_11; have f1_2_12 := keeps hb f1_2_11; have f1_3_12 := keeps hb f1_3_11; have g1_12 : w.heap.size + 1 < w12.heap.size := block_of_cell f1_0_12; have f2_0_12 := keeps hb f2_0_11; have f2_1_12 := keeps hb f2_1_11; have f2_2_12 := keeps hb f2_2_11; have f2_3_12 := keeps hb f2_3_11; have g2_12 : O6 < w12.heap.size := block_of_cell f2_0_12; have f3_0_12 := keeps hb f3_0_11; have f3_1_12 := keeps hb f3_1_11; have f3_2_12 := keeps hb f3_2_11; have f3_3_12 := keeps hb f3_3_11; have g3_12 : w7.heap.size < w12.heap.size := block_of_cell f3_0_12; have f4_0_12 := keeps hb f4_0_11; have f4_1_12 := keeps hb f4_1_11; have f4_2_12 := keeps hb f4_2_11; have f4_3_12 := keeps hb f4_3_11; have g4_12 : w8.heap.size < w12.heap.size := block_of_cell f4_0_12; have f5_0_12 := keeps hb f5_0_11; have f5_1_12 := keeps hb f5_1_11; have f5_2_12 := keeps hb f5_2_11; have f5_3_12 := keeps hb f5_3_11; have g5_12 : w9.heap.size < w12.heap.size := block_of_cell f5_0_12; have R4_12 := Lib.hid (Row.later R4_11.out hb); have R5_12 := Lib.hid (Row.later R5_11.out hb); have R6_12 := Lib.hid (Row.later R6_11.out hb); have R7_12 := Lib.hid (Row.later R7_11.out hb); have R8_12 := Lib.hid (Row.later R8_11.out hb); have R9_12 := Lib.hid (Row.later R9_11.out hb); have R10_12 := Lib.hid (Row.later R10_11.out hb); have R11_12 := Lib.hid (Row.later R11_11.out hb); clear f0_0_11 f0_1_11 f0_2_11 f0_3_11 g0_11 f1_0_11 f1_1_11 f1_2_11 f1_3_11 g1_11 f2_0_11 f2_1_11 f2_2_11 f2_3_11 g2_11 f3_0_11 f3_1_11 f3_2_11 f3_3_11 g3_11 f4_0_11 f4_1_11 f4_2_11 f4_3_11 g4_11 f5_0_11 f5_1_11 f5_2_11 f5_3_11 g5_11 R4_11 R5_11 R6_11 R7_11 R8_11 R9_11 R10_11 R11_11 R12_11 R13_11 H11)))
  go_wp2_with fail
  go_region_held3 (fun w' => w'.cell? ⟨w8.heap.size, 0, none⟩ = some (.string s1_0) ∧ w'.cell? ⟨w8.heap.size, 1, none⟩ = some (.int .i64 a1_1) ∧ w'.cell? ⟨w8.heap.size, 2, none⟩ = some ((.slice A8 n8 c8)) ∧ w'.cell? ⟨w8.heap.size, 3, none⟩ = some ((.slice A9 n9 c9)) ∧ w'.cell? ⟨w.heap.size + 1, 0, none⟩ = some (.string s1_0) ∧ w'.cell? ⟨w.heap.size + 1, 1, none⟩ = some (.int .i64 a1_1) ∧ w'.cell? ⟨w.heap.size + 1, 2, none⟩ = some (v1_2) ∧ w'.cell? ⟨w.heap.size + 1, 3, none⟩ = some (v1_3))
    (first | (refine ⟨?_, ?_, ?_, ?_, ?_, ?_, ?_, ?_⟩ <;> assumption) | (go_split_ands; (refine ⟨?_, ?_, ?_, ?_, ?_, ?_, ?_, ?_⟩ <;> first | assumption | (refine keeps hb ?_; assumption))))
    (first
      | (go_at_call 10; ((with_reducible refine (toAntenna_any s1_0 a1_1 v1_2 x1_2 v1_3 x1_3 _ w.heap.size (by first | omega | (simp <;> omega)) (Rd.below r1_2 (by repeat (first | (with_reducible exact Below.refl _ _) | (with_reducible assumption) | ((with_reducible refine bl_alloc ?_ _ ?_); (focus ((first | omega | (simp <;> omega)); done))) | ((with_reducible refine bl_set ?_ _ ?_); (focus ((first | omega | (simp <;> omega)); done))) | (with_reducible refine below_drewN ?_ _) | (with_reducible refine Below.drew ?_) | ((with_reducible refine bl_trans ?_ H12.out ?_); (focus ((first | omega | (simp <;> omega)); done)))))) (by omega) (Rd.below r1_3 (by repeat (first | (with_reducible exact Below.refl _ _) | (with_reducible assumption) | ((with_reducible refine bl_alloc ?_ _ ?_); (focus ((first | omega | (simp <;> omega)); done))) | ((with_reducible refine bl_set ?_ _ ?_); (focus ((first | omega | (simp <;> omega)); done))) | (with_reducible refine below_drewN ?_ _) | (with_reducible refine Below.drew ?_) | ((with_reducible refine bl_trans ?_ H12.out ?_); (focus ((first | omega | (simp <;> omega)); done)))))) (by omega)).mono ?_); rintro e w13 ⟨A14, n14, c14, A15, n15, c15, rfl, hr14, hr15, ha14_15, hb⟩; have zz13 : w12.heap.size ≤ w13.heap.size := (by have := hb.size; ((try simp at this) <;> omega)); have H13 := Lib.hid (show Below w.heap.size w w13 by repeat (first | (with_reducible exact Below.refl _ _) | (with_reducible assumption) | ((with_reducible refine bl_alloc ?_ _ ?_); (focus ((first | omega | (simp <;> omega)); done))) | ((with_reducible refine bl_set ?_ _ ?_); (focus ((first | omega | (simp <;> omega)); done))) | (with_reducible refine below_drewN ?_ _) | (with_reducible refine Below.drew ?_) | ((with_reducible refine bl_trans ?_ hb ?_); (focus ((first | omega | (simp <;> omega)); done))) | ((with_reducible refine bl_trans ?_ H12.out ?_); (focus ((first | omega | (simp <;> omega)); done))))); have f0_0_13 := keeps1 hb f0_0_12; have f0_1_13 := keeps1 hb f0_1_12; have f0_2_13 := keeps1 hb f0_2_12; have f0_3_13 := keeps1 hb f0_3_12; have g0_13 : w.heap.size < w13.heap.size := block_of_cell f0_0_13; have f1_0_13 := keeps1 hb f1_0_12; have f1_1_13 := keeps1 hb f1_1_12; have f1_2_13 := keeps1 hb f1_2_12; have f1_3_13 := keeps1 hb f1_3_12; have g1_13 : w.heap.size + 1 < w13.heap.size := block_of_cell f1_0_13; have f2_0_13 := keeps1 hb f2_0_12; have f2_1_13 := keeps1 hb f2_1_12; have f2_2_13 := keeps1 hb f2_2_12; have f2_3_13 := keeps1 hb f2_3_12; have g2_13 : O6 < w13.heap.size := block_of_cell f2_0_13; have f3_0_13 := keeps1 hb f3_0_12; have f3_1_13 := keeps1 hb f3_1_12; have f3_2_13 := keeps1 hb f3_2_12; have f3_3_13 := keeps1 hb f3_3_12; have g3_13 : w7.heap.size < w13.heap.size := block_of_cell f3_0_13; have f4_0_13 := keeps1 hb f4_0_12; have f4_1_13 := keeps1 hb f4_1_12; have f4_2_13 := keeps1 hb f4_2_12; have f4_3_13 := keeps1 hb f4_3_12; have g4_13 : w8.heap.size < w13.heap.size := block_of_cell f4_0_13; have f5_0_13 := keeps1 hb f5_0_12; have f5_1_13 := keeps1 hb f5_1_12; have f5_2_13 := keeps1 hb f5_2_12; have f5_3_13 := keeps1 hb f5_3_12; have g5_13 : w9.heap.size < w13.heap.size := block_of_cell f5_0_13; have R4_13 := Lib.hid (Row.later1 R4_12.out hb); have R5_13 := Lib.hid (Row.later1 R5_12.out hb); have R6_13 := Lib.hid (Row.later1 R6_12.out hb); have R7_13 := Lib.hid (Row.later1 R7_12.out hb); have R8_13 := Lib.hid (Row.later1 R8_12.out hb); have R9_13 := Lib.hid (Row.later1 R9_12.out hb); have R10_13 := Lib.hid (Row.later1 R10_12.out hb); have R11_13 := Lib.hid (Row.later1 R11_12.out hb); have R14_13 := Lib.hid hr14; have RL14 := Lib.hid (show ∀ g, Value.ownBlock (.slice A14 n14 c14) = some g → w12.heap.size ≤ g ∧ g < w13.heap.size from fun g h => by have l1 := hr14.lt g h; ((try simp at l1) <;> omega)); have RA14_15 := Lib.hid ha14_15; have R15_13 := Lib.hid hr15; have RL15 := Lib.hid (show ∀ g, Value.ownBlock (.slice A15 n15 c15) = some g → w12.heap.size ≤ g ∧ g < w13.heap.size from fun g h => by have l1 := hr15.lt g h; ((try simp at l1) <;> omega)); clear f0_0_12 f0_1_12 f0_2_12 f0_3_12 g0_12 f1_0_12 f1_1_12 f1_2_12 f1_3_12 g1_12 f2_0_12 f2_1_12 f2_2_12 f2_3_12 g2_12 f3_0_12 f3_1_12 f3_2_12 f3_3_12 g3_12 f4_0_12 f4_1_12 f4_2_12 f4_3_12 g4_12 f5_0_12 f5_1_12 f5_2_12 f5_3_12 g5_12 R4_12 R5_12 R6_12 R7_12 R8_12 R9_12 R10_12 R11_12 hr14 ha14_15 hr15 H12))
      | (go_at_call 12; ((with_reducible refine (eqAntenna_any s1_0 a1_1 _ _ _ (x1_2) _ _ R8_13.out R14_13.out _ _ (x1_3) _ _ R9_13.out R15_13.out).mono ?_); rintro e w14 ⟨rfl, hb⟩; have zz14 : w13.heap.size ≤ w14.heap.size := (by have := hb.size; ((try simp at this) <;> omega)); have H14 := Lib.hid (show Below w.heap.size w w14 by repeat (first | (with_reducible exact Below.refl _ _) | (with_reducible assumption) | ((with_reducible refine bl_alloc ?_ _ ?_); (focus ((first | omega | (simp <;> omega)); done))) | ((with_reducible refine bl_set ?_ _ ?_); (focus ((first | omega | (simp <;> omega)); done))) | (with_reducible refine below_drewN ?_ _) | (with_reducible refine Below.drew ?_) | ((with_reducible refine bl_trans ?_ hb ?_); (focus ((first | omega | (simp <;> omega)); done))) | ((with_reducible refine bl_trans ?_ H13.out ?_); (focus ((first | omega | (simp <;> omega)); done))))); have f0_0_14 := keeps hb f0_0_13; have f0_1_14 := keeps hb f0_1_13; have f0_2_14 := keeps hb f0_2_13; have f0_3_14 := keeps hb f0_3_13; have g0_14 : w.heap.size < w14.heap.size := block_of_cell f0_0_14; have f1_0_14 := keeps hb f1_0_13; have f1_1_14 := keeps hb f1_1_13; have f1_2_14 := keeps hb f1_2_13; have f1_3_14 := keeps hb f1_3_13; have g1_14 : w.heap.size + 1 < w14.heap.size := block_of_cell f1_0_14; have f2_0_14 := keeps hb f2_0_13; have f2_1_14 := keeps hb f2_1_13; have f2_2_14 := keeps hb f2_2_13; have f2_3_14 := keeps hb f2_3_13; have g2_14 : O6 < w14.heap.size := block_of_cell f2_0_14; have f3_0_14 := keeps hb f3_0_13; have f3_1_14 := keeps hb f3_1_13; have f3_2_14 := keeps hb f3_2_13; have f3_3_14 := keeps hb f3_3_13; have g3_14 : w7.heap.size < w14.heap.size := block_of_cell f3_0_14; have f4_0_14 := keeps hb f4_0_13; have f4_1_14 := keeps hb f4_1_13; have f4_2_14 := keeps hb f4_2_13; have f4_3_14 := keeps hb f4_3_13; have g4_14 : w8.heap.size < w14.heap.size := block_of_cell f4_0_14; have f5_0_14 := keeps hb f5_0_13; have f5_1_14 := keeps hb f5_1_13; have f5_2_14 := keeps hb f5_2_13; have f5_3_14 := keeps hb f5_3_13; have g5_14 : w9.heap.size < w14.heap.size := block_of_cell f5_0_14; have R4_14 := Lib.hid (Row.later R4_13.out hb); have R5_14 := Lib.hid (Row.later R5_13.out hb); have R6_14 := Lib.hid (Row.later R6_13.out hb); have R7_14 := Lib.hid (Row.later R7_13.out hb); have R8_14 := Lib.hid (Row.later R8_13.out hb); have R9_14 := Lib.hid (Row.later R9_13.out hb); have R10_14 := Lib.hid (Row.later R10_13.out hb); have R11_14 := Lib.hid (Row.later R11_13.out hb); clear f0_0_13 f0_1_13 f0_2_13 f0_3_13 g0_13 f1_0_13 f1_1_13 f1_2_13 f1_3_13 g1_13 f2_0_13 f2_1_13 f2_2_13 f2_3_13 g2_13 f3_0_13 f3_1_13 f3_2_13 f3_3_13 g3_13 f4_0_13 f4_1_13 f4_2_13 f4_3_13 g4_13 f5_0_13 f5_1_13 f5_2_13 f5_3_13 g5_13 R4_13 R5_13 R6_13 R7_13 R8_13 R9_13 R10_13 R11_13 R14_13 R15_13 H13)))
  go_wp2_with fail
  refine (markAntenna_any s0_0 a0_1 _ _ _ (x0_2) _ R6_14.out _ (x0_3) _ R7_14.out RA6_7.out (by omega) (by omega)).mono ?_
  rintro e w15 ⟨rfl, hr6, hr7, hb⟩
  have zz15 : w14.heap.size ≤ w15.heap.size := (by have := hb.size; ((try simp at this) <;> omega))
  have H15 := Lib.hid (show Below w.heap.size w w15 from Below.trans (by repeat (first | (with_reducible exact Below.refl _ _) | (with_reducible assumption) | ((with_reducible refine bl_alloc ?_ _ ?_); (focus ((first | omega | (simp <;> omega)); done))) | ((with_reducible refine bl_set ?_ _ ?_); (focus ((first | omega | (simp <;> omega)); done))) | (with_reducible refine below_drewN ?_ _) | (with_reducible refine Below.drew ?_) | ((with_reducible refine bl_trans ?_ H14.out ?_); (focus ((first | omega | (simp <;> omega)); done))))) (hb.below (by first | omega | (simp <;> omega)) (fun g hs => by rcases hs with hs | hs <;> first | (have := (RL6.out g hs).1; omega) | (have := (RL7.out g hs).1; omega))))
  have f0_0_15 := keepsW hb f0_0_14 (fun hs => by rcases hs with hs | hs <;> first | (have := RL6.out _ hs; ((try simp at this) <;> omega)) | (have := RL7.out _ hs; ((try simp at this) <;> omega)))
  have f0_1_15 := keepsW hb f0_1_14 (fun hs => by rcases hs with hs | hs <;> first | (have := RL6.out _ hs; ((try simp at this) <;> omega)) | (have := RL7.out _ hs; ((try simp at this) <;> omega)))
  have f0_2_15 := keepsW hb f0_2_14 (fun hs => by rcases hs with hs | hs <;> first | (have := RL6.out _ hs; ((try simp at this) <;> omega)) | (have := RL7.out _ hs; ((try simp at this) <;> omega)))
  have f0_3_15 := keepsW hb f0_3_14 (fun hs => by rcases hs with hs | hs <;> first | (have := RL6.out _ hs; ((try simp at this) <;> omega)) | (have := RL7.out _ hs; ((try simp at this) <;> omega)))
  have g0_15 : w.heap.size < w15.heap.size := block_of_cell f0_0_15
  have f1_0_15 := keepsW hb f1_0_14 (fun hs => by rcases hs with hs | hs <;> first | (have := RL6.out _ hs; ((try simp at this) <;> omega)) | (have := RL7.out _ hs; ((try simp at this) <;> omega)))
  have f1_1_15 := keepsW hb f1_1_14 (fun hs => by rcases hs with hs | hs <;> first | (have := RL6.out _ hs; ((try simp at this) <;> omega)) | (have := RL7.out _ hs; ((try simp at this) <;> omega)))
  have f1_2_15 := keepsW hb f1_2_14 (fun hs => by rcases hs with hs | hs <;> first | (have := RL6.out _ hs; ((try simp at this) <;> omega)) | (have := RL7.out _ hs; ((try simp at this) <;> omega)))
  have f1_3_15 := keepsW hb f1_3_14 (fun hs => by rcases hs with hs | hs <;> first | (have := RL6.out _ hs; ((try simp at this) <;> omega)) | (have := RL7.out _ hs; ((try simp at this) <;> omega)))
  have g1_15 : w.heap.size + 1 < w15.heap.size := block_of_cell f1_0_15
  have f2_0_15 := keepsW hb f2_0_14 (fun hs => by rcases hs with hs | hs <;> first | (have := RL6.out _ hs; ((try simp at this) <;> omega)) | (have := RL7.out _ hs; ((try simp at this) <;> omega)))
  have f2_1_15 := keepsW hb f2_1_14 (fun hs => by rcases hs with hs | hs <;> first | (have := RL6.out _ hs; ((try simp at this) <;> omega)) | (have := RL7.out _ hs; ((try simp at this) <;> omega)))
  have f2_2_15 := keepsW hb f2_2_14 (fun hs => by rcases hs with hs | hs <;> first | (have := RL6.out _ hs; ((try simp at this) <;> omega)) | (have := RL7.out _ hs; ((try simp at this) <;> omega)))
  have f2_3_15 := keepsW hb f2_3_14 (fun hs => by rcases hs with hs | hs <;> first | (have := RL6.out _ hs; ((try simp at this) <;> omega)) | (have := RL7.out _ hs; ((try simp at this) <;> omega)))
  have g2_15 : O6 < w15.heap.size := block_of_cell f2_0_15
  have f4_0_15 := keepsW hb f4_0_14 (fun hs => by rcases hs with hs | hs <;> first | (have := RL6.out _ hs; ((try simp at this) <;> omega)) | (have := RL7.out _ hs; ((try simp at this) <;> omega)))
  have f4_1_15 := keepsW hb f4_1_14 (fun hs => by rcases hs with hs | hs <;> first | (have := RL6.out _ hs; ((try simp at this) <;> omega)) | (have := RL7.out _ hs; ((try simp at this) <;> omega)))
  have f4_2_15 := keepsW hb f4_2_14 (fun hs => by rcases hs with hs | hs <;> first | (have := RL6.out _ hs; ((try simp at this) <;> omega)) | (have := RL7.out _ hs; ((try simp at this) <;> omega)))
  have f4_3_15 := keepsW hb f4_3_14 (fun hs => by rcases hs with hs | hs <;> first | (have := RL6.out _ hs; ((try simp at this) <;> omega)) | (have := RL7.out _ hs; ((try simp at this) <;> omega)))
  have g4_15 : w8.heap.size < w15.heap.size := block_of_cell f4_0_15
  have f5_0_15 := keepsW hb f5_0_14 (fun hs => by rcases hs with hs | hs <;> first | (have := RL6.out _ hs; ((try simp at this) <;> omega)) | (have := RL7.out _ hs; ((try simp at this) <;> omega)))
  have f5_1_15 := keepsW hb f5_1_14 (fun hs => by rcases hs with hs | hs <;> first | (have := RL6.out _ hs; ((try simp at this) <;> omega)) | (have := RL7.out _ hs; ((try simp at this) <;> omega)))
  have f5_2_15 := keepsW hb f5_2_14 (fun hs => by rcases hs with hs | hs <;> first | (have := RL6.out _ hs; ((try simp at this) <;> omega)) | (have := RL7.out _ hs; ((try simp at this) <;> omega)))
  have f5_3_15 := keepsW hb f5_3_14 (fun hs => by rcases hs with hs | hs <;> first | (have := RL6.out _ hs; ((try simp at this) <;> omega)) | (have := RL7.out _ hs; ((try simp at this) <;> omega)))
  have g5_15 : w9.heap.size < w15.heap.size := block_of_cell f5_0_15
  have R4_15 := Lib.hid (Row.writes R4_14.out hb (fun g h hs => by have h1 := RL4.out g h; rcases hs with hs | hs <;> first | (have h2 := RL6.out g hs; omega) | (have h2 := RL7.out g hs; omega)))
  have R5_15 := Lib.hid (Row.writes R5_14.out hb (fun g h hs => by have h1 := RL5.out g h; rcases hs with hs | hs <;> first | (have h2 := RL6.out g hs; omega) | (have h2 := RL7.out g hs; omega)))
  have R8_15 := Lib.hid (Row.writes R8_14.out hb (fun g h hs => by have h1 := RL8.out g h; rcases hs with hs | hs <;> first | (have h2 := RL6.out g hs; omega) | (have h2 := RL7.out g hs; omega)))
  have R9_15 := Lib.hid (Row.writes R9_14.out hb (fun g h hs => by have h1 := RL9.out g h; rcases hs with hs | hs <;> first | (have h2 := RL6.out g hs; omega) | (have h2 := RL7.out g hs; omega)))
  have R10_15 := Lib.hid (Row.writes R10_14.out hb (fun g h hs => by have h1 := RL10.out g h; rcases hs with hs | hs <;> first | (have h2 := RL6.out g hs; omega) | (have h2 := RL7.out g hs; omega)))
  have R11_15 := Lib.hid (Row.writes R11_14.out hb (fun g h hs => by have h1 := RL11.out g h; rcases hs with hs | hs <;> first | (have h2 := RL6.out g hs; omega) | (have h2 := RL7.out g hs; omega)))
  have R6_15 := Lib.hid hr6
  have R7_15 := Lib.hid hr7
  clear hb f0_0_14 f0_1_14 f0_2_14 f0_3_14 g0_14 f1_0_14 f1_1_14 f1_2_14 f1_3_14 g1_14 f2_0_14 f2_1_14 f2_2_14 f2_3_14 g2_14 f3_0_14 f3_1_14 f3_2_14 f3_3_14 g3_14 f4_0_14 f4_1_14 f4_2_14 f4_3_14 g4_14 f5_0_14 f5_1_14 f5_2_14 f5_3_14 g5_14 R4_14 R5_14 R8_14 R9_14 R10_14 R11_14 R6_14 hr6 R7_14 hr7 H14
  go_wp2_with fail
  refine (markAntenna_any s1_0 a1_1 _ _ _ (x1_2) _ R8_15.out _ (x1_3) _ R9_15.out RA8_9.out (by omega) (by omega)).mono ?_
  rintro e w16 ⟨rfl, hr8, hr9, hb⟩
  have zz16 : w15.heap.size ≤ w16.heap.size := (by have := hb.size; ((try simp at this) <;> omega))
  have H16 := Lib.hid (show Below w.heap.size w w16 from Below.trans (by repeat (first | (with_reducible exact Below.refl _ _) | (with_reducible assumption) | ((with_reducible refine bl_alloc ?_ _ ?_); (focus ((first | omega | (simp <;> omega)); done))) | ((with_reducible refine bl_set ?_ _ ?_); (focus ((first | omega | (simp <;> omega)); done))) | (with_reducible refine below_drewN ?_ _) | (with_reducible refine Below.drew ?_) | ((with_reducible refine bl_trans ?_ H15.out ?_); (focus ((first | omega | (simp <;> omega)); done))))) (hb.below (by first | omega | (simp <;> omega)) (fun g hs => by rcases hs with hs | hs <;> first | (have := (RL8.out g hs).1; omega) | (have := (RL9.out g hs).1; omega))))
  have f0_0_16 := keepsW hb f0_0_15 (fun hs => by rcases hs with hs | hs <;> first | (have := RL8.out _ hs; ((try simp at this) <;> omega)) | (have := RL9.out _ hs; ((try simp at this) <;> omega)))
  have f0_1_16 := keepsW hb f0_1_15 (fun hs => by rcases hs with hs | hs <;> first | (have := RL8.out _ hs; ((try simp at this) <;> omega)) | (have := RL9.out _ hs; ((try simp at this) <;> omega)))
  have f0_2_16 := keepsW hb f0_2_15 (fun hs => by rcases hs with hs | hs <;> first | (have := RL8.out _ hs; ((try simp at this) <;> omega)) | (have := RL9.out _ hs; ((try simp at this) <;> omega)))
  have f0_3_16 := keepsW hb f0_3_15 (fun hs => by rcases hs with hs | hs <;> first | (have := RL8.out _ hs; ((try simp at this) <;> omega)) | (have := RL9.out _ hs; ((try simp at this) <;> omega)))
  have g0_16 : w.heap.size < w16.heap.size := block_of_cell f0_0_16
  have f1_0_16 := keepsW hb f1_0_15 (fun hs => by rcases hs with hs | hs <;> first | (have := RL8.out _ hs; ((try simp at this) <;> omega)) | (have := RL9.out _ hs; ((try simp at this) <;> omega)))
  have f1_1_16 := keepsW hb f1_1_15 (fun hs => by rcases hs with hs | hs <;> first | (have := RL8.out _ hs; ((try simp at this) <;> omega)) | (have := RL9.out _ hs; ((try simp at this) <;> omega)))
  have f1_2_16 := keepsW hb f1_2_15 (fun hs => by rcases hs with hs | hs <;> first | (have := RL8.out _ hs; ((try simp at this) <;> omega)) | (have := RL9.out _ hs; ((try simp at this) <;> omega)))
  have f1_3_16 := keepsW hb f1_3_15 (fun hs => by rcases hs with hs | hs <;> first | (have := RL8.out _ hs; ((try simp at this) <;> omega)) | (have := RL9.out _ hs; ((try simp at this) <;> omega)))
  have g1_16 : w.heap.size + 1 < w16.heap.size := block_of_cell f1_0_16
  have f2_0_16 := keepsW hb f2_0_15 (fun hs => by rcases hs with hs | hs <;> first | (have := RL8.out _ hs; ((try simp at this) <;> omega)) | (have := RL9.out _ hs; ((try simp at this) <;> omega)))
  have f2_1_16 := keepsW hb f2_1_15 (fun hs => by rcases hs with hs | hs <;> first | (have := RL8.out _ hs; ((try simp at this) <;> omega)) | (have := RL9.out _ hs; ((try simp at this) <;> omega)))
  have f2_2_16 := keepsW hb f2_2_15 (fun hs => by rcases hs with hs | hs <;> first | (have := RL8.out _ hs; ((try simp at this) <;> omega)) | (have := RL9.out _ hs; ((try simp at this) <;> omega)))
  have f2_3_16 := keepsW hb f2_3_15 (fun hs => by rcases hs with hs | hs <;> first | (have := RL8.out _ hs; ((try simp at this) <;> omega)) | (have := RL9.out _ hs; ((try simp at this) <;> omega)))
  have g2_16 : O6 < w16.heap.size := block_of_cell f2_0_16
  have f5_0_16 := keepsW hb f5_0_15 (fun hs => by rcases hs with hs | hs <;> first | (have := RL8.out _ hs; ((try simp at this) <;> omega)) | (have := RL9.out _ hs; ((try simp at this) <;> omega)))
  have f5_1_16 := keepsW hb f5_1_15 (fun hs => by rcases hs with hs | hs <;> first | (have := RL8.out _ hs; ((try simp at this) <;> omega)) | (have := RL9.out _ hs; ((try simp at this) <;> omega)))
  have f5_2_16 := keepsW hb f5_2_15 (fun hs => by rcases hs with hs | hs <;> first | (have := RL8.out _ hs; ((try simp at this) <;> omega)) | (have := RL9.out _ hs; ((try simp at this) <;> omega)))
  have f5_3_16 := keepsW hb f5_3_15 (fun hs => by rcases hs with hs | hs <;> first | (have := RL8.out _ hs; ((try simp at this) <;> omega)) | (have := RL9.out _ hs; ((try simp at this) <;> omega)))
  have g5_16 : w9.heap.size < w16.heap.size := block_of_cell f5_0_16
  have R4_16 := Lib.hid (Row.writes R4_15.out hb (fun g h hs => by have h1 := RL4.out g h; rcases hs with hs | hs <;> first | (have h2 := RL8.out g hs; omega) | (have h2 := RL9.out g hs; omega)))
  have R5_16 := Lib.hid (Row.writes R5_15.out hb (fun g h hs => by have h1 := RL5.out g h; rcases hs with hs | hs <;> first | (have h2 := RL8.out g hs; omega) | (have h2 := RL9.out g hs; omega)))
  have R10_16 := Lib.hid (Row.writes R10_15.out hb (fun g h hs => by have h1 := RL10.out g h; rcases hs with hs | hs <;> first | (have h2 := RL8.out g hs; omega) | (have h2 := RL9.out g hs; omega)))
  have R11_16 := Lib.hid (Row.writes R11_15.out hb (fun g h hs => by have h1 := RL11.out g h; rcases hs with hs | hs <;> first | (have h2 := RL8.out g hs; omega) | (have h2 := RL9.out g hs; omega)))
  have R8_16 := Lib.hid hr8
  have R9_16 := Lib.hid hr9
  clear hb f0_0_15 f0_1_15 f0_2_15 f0_3_15 g0_15 f1_0_15 f1_1_15 f1_2_15 f1_3_15 g1_15 f2_0_15 f2_1_15 f2_2_15 f2_3_15 g2_15 f4_0_15 f4_1_15 f4_2_15 f4_3_15 g4_15 f5_0_15 f5_1_15 f5_2_15 f5_3_15 g5_15 R4_15 R5_15 R6_15 R7_15 R10_15 R11_15 R8_15 hr8 R9_15 hr9 H15
  go_wp2_with fail
  refine (eqAntenna_any ((envN s0_0 a0_1 x0_2 x0_3 s1_0 a1_1 x1_2 x1_3 s2)) ((envG s0_0 a0_1 x0_2 x0_3 s1_0 a1_1 x1_2 x1_3 s2)) _ _ _ ((envH s0_0 a0_1 x0_2 x0_3 s1_0 a1_1 x1_2 x1_3 s2)) _ _ R10_16.out R4_16.out _ _ ((envW s0_0 a0_1 x0_2 x0_3 s1_0 a1_1 x1_2 x1_3 s2)) _ _ R11_16.out R5_16.out).mono ?_
  rintro e w17 ⟨rfl, hb⟩
  have zz17 : w16.heap.size ≤ w17.heap.size := (by have := hb.size; ((try simp at this) <;> omega))
  have H17 := Lib.hid (show Below w.heap.size w w17 by repeat (first | (with_reducible exact Below.refl _ _) | (with_reducible assumption) | ((with_reducible refine bl_alloc ?_ _ ?_); (focus ((first | omega | (simp <;> omega)); done))) | ((with_reducible refine bl_set ?_ _ ?_); (focus ((first | omega | (simp <;> omega)); done))) | (with_reducible refine below_drewN ?_ _) | (with_reducible refine Below.drew ?_) | ((with_reducible refine bl_trans ?_ hb ?_); (focus ((first | omega | (simp <;> omega)); done))) | ((with_reducible refine bl_trans ?_ H16.out ?_); (focus ((first | omega | (simp <;> omega)); done)))))
  have f0_0_17 := keeps hb f0_0_16
  have f0_1_17 := keeps hb f0_1_16
  have f0_2_17 := keeps hb f0_2_16
  have f0_3_17 := keeps hb f0_3_16
  have g0_17 : w.heap.size < w17.heap.size := block_of_cell f0_0_17
  have f1_0_17 := keeps hb f1_0_16
  have f1_1_17 := keeps hb f1_1_16
  have f1_2_17 := keeps hb f1_2_16
  have f1_3_17 := keeps hb f1_3_16
  have g1_17 : w.heap.size + 1 < w17.heap.size := block_of_cell f1_0_17
  have f2_0_17 := keeps hb f2_0_16
  have f2_1_17 := keeps hb f2_1_16
  have f2_2_17 := keeps hb f2_2_16
  have f2_3_17 := keeps hb f2_3_16
  have g2_17 : O6 < w17.heap.size := block_of_cell f2_0_17
  have f5_0_17 := keeps hb f5_0_16
  have f5_1_17 := keeps hb f5_1_16
  have f5_2_17 := keeps hb f5_2_16
  have f5_3_17 := keeps hb f5_3_16
  have g5_17 : w9.heap.size < w17.heap.size := block_of_cell f5_0_17
  have R4_17 := Lib.hid (Row.later R4_16.out hb)
  have R5_17 := Lib.hid (Row.later R5_16.out hb)
  have R10_17 := Lib.hid (Row.later R10_16.out hb)
  have R11_17 := Lib.hid (Row.later R11_16.out hb)
  clear hb f0_0_16 f0_1_16 f0_2_16 f0_3_16 g0_16 f1_0_16 f1_1_16 f1_2_16 f1_3_16 g1_16 f2_0_16 f2_1_16 f2_2_16 f2_3_16 g2_16 f5_0_16 f5_1_16 f5_2_16 f5_3_16 g5_16 R4_16 R5_16 R8_16 R9_16 R10_16 R11_16 H16
  go_wp2_with fail
  refine (markAntenna_any ((envN s0_0 a0_1 x0_2 x0_3 s1_0 a1_1 x1_2 x1_3 s2)) ((envG s0_0 a0_1 x0_2 x0_3 s1_0 a1_1 x1_2 x1_3 s2)) _ _ _ ((envH s0_0 a0_1 x0_2 x0_3 s1_0 a1_1 x1_2 x1_3 s2)) _ R10_17.out _ ((envW s0_0 a0_1 x0_2 x0_3 s1_0 a1_1 x1_2 x1_3 s2)) _ R11_17.out RA10_11.out (by omega) (by omega)).mono ?_
  rintro e w18 ⟨rfl, hr10, hr11, hb⟩
  have zz18 : w17.heap.size ≤ w18.heap.size := (by have := hb.size; ((try simp at this) <;> omega))
  have H18 := Lib.hid (show Below w.heap.size w w18 from Below.trans (by repeat (first | (with_reducible exact Below.refl _ _) | (with_reducible assumption) | ((with_reducible refine bl_alloc ?_ _ ?_); (focus ((first | omega | (simp <;> omega)); done))) | ((with_reducible refine bl_set ?_ _ ?_); (focus ((first | omega | (simp <;> omega)); done))) | (with_reducible refine below_drewN ?_ _) | (with_reducible refine Below.drew ?_) | ((with_reducible refine bl_trans ?_ H17.out ?_); (focus ((first | omega | (simp <;> omega)); done))))) (hb.below (by first | omega | (simp <;> omega)) (fun g hs => by rcases hs with hs | hs <;> first | (have := (RL10.out g hs).1; omega) | (have := (RL11.out g hs).1; omega))))
  have f0_0_18 := keepsW hb f0_0_17 (fun hs => by rcases hs with hs | hs <;> first | (have := RL10.out _ hs; ((try simp at this) <;> omega)) | (have := RL11.out _ hs; ((try simp at this) <;> omega)))
  have f0_1_18 := keepsW hb f0_1_17 (fun hs => by rcases hs with hs | hs <;> first | (have := RL10.out _ hs; ((try simp at this) <;> omega)) | (have := RL11.out _ hs; ((try simp at this) <;> omega)))
  have f0_2_18 := keepsW hb f0_2_17 (fun hs => by rcases hs with hs | hs <;> first | (have := RL10.out _ hs; ((try simp at this) <;> omega)) | (have := RL11.out _ hs; ((try simp at this) <;> omega)))
  have f0_3_18 := keepsW hb f0_3_17 (fun hs => by rcases hs with hs | hs <;> first | (have := RL10.out _ hs; ((try simp at this) <;> omega)) | (have := RL11.out _ hs; ((try simp at this) <;> omega)))
  have g0_18 : w.heap.size < w18.heap.size := block_of_cell f0_0_18
  have f1_0_18 := keepsW hb f1_0_17 (fun hs => by rcases hs with hs | hs <;> first | (have := RL10.out _ hs; ((try simp at this) <;> omega)) | (have := RL11.out _ hs; ((try simp at this) <;> omega)))
  have f1_1_18 := keepsW hb f1_1_17 (fun hs => by rcases hs with hs | hs <;> first | (have := RL10.out _ hs; ((try simp at this) <;> omega)) | (have := RL11.out _ hs; ((try simp at this) <;> omega)))
  have f1_2_18 := keepsW hb f1_2_17 (fun hs => by rcases hs with hs | hs <;> first | (have := RL10.out _ hs; ((try simp at this) <;> omega)) | (have := RL11.out _ hs; ((try simp at this) <;> omega)))
  have f1_3_18 := keepsW hb f1_3_17 (fun hs => by rcases hs with hs | hs <;> first | (have := RL10.out _ hs; ((try simp at this) <;> omega)) | (have := RL11.out _ hs; ((try simp at this) <;> omega)))
  have g1_18 : w.heap.size + 1 < w18.heap.size := block_of_cell f1_0_18
  have f2_0_18 := keepsW hb f2_0_17 (fun hs => by rcases hs with hs | hs <;> first | (have := RL10.out _ hs; ((try simp at this) <;> omega)) | (have := RL11.out _ hs; ((try simp at this) <;> omega)))
  have f2_1_18 := keepsW hb f2_1_17 (fun hs => by rcases hs with hs | hs <;> first | (have := RL10.out _ hs; ((try simp at this) <;> omega)) | (have := RL11.out _ hs; ((try simp at this) <;> omega)))
  have f2_2_18 := keepsW hb f2_2_17 (fun hs => by rcases hs with hs | hs <;> first | (have := RL10.out _ hs; ((try simp at this) <;> omega)) | (have := RL11.out _ hs; ((try simp at this) <;> omega)))
  have f2_3_18 := keepsW hb f2_3_17 (fun hs => by rcases hs with hs | hs <;> first | (have := RL10.out _ hs; ((try simp at this) <;> omega)) | (have := RL11.out _ hs; ((try simp at this) <;> omega)))
  have g2_18 : O6 < w18.heap.size := block_of_cell f2_0_18
  have f5_0_18 := keepsW hb f5_0_17 (fun hs => by rcases hs with hs | hs <;> first | (have := RL10.out _ hs; ((try simp at this) <;> omega)) | (have := RL11.out _ hs; ((try simp at this) <;> omega)))
  have f5_1_18 := keepsW hb f5_1_17 (fun hs => by rcases hs with hs | hs <;> first | (have := RL10.out _ hs; ((try simp at this) <;> omega)) | (have := RL11.out _ hs; ((try simp at this) <;> omega)))
  have f5_2_18 := keepsW hb f5_2_17 (fun hs => by rcases hs with hs | hs <;> first | (have := RL10.out _ hs; ((try simp at this) <;> omega)) | (have := RL11.out _ hs; ((try simp at this) <;> omega)))
  have f5_3_18 := keepsW hb f5_3_17 (fun hs => by rcases hs with hs | hs <;> first | (have := RL10.out _ hs; ((try simp at this) <;> omega)) | (have := RL11.out _ hs; ((try simp at this) <;> omega)))
  have g5_18 : w9.heap.size < w18.heap.size := block_of_cell f5_0_18
  have R4_18 := Lib.hid (Row.writes R4_17.out hb (fun g h hs => by have h1 := RL4.out g h; rcases hs with hs | hs <;> first | (have h2 := RL10.out g hs; omega) | (have h2 := RL11.out g hs; omega)))
  have R5_18 := Lib.hid (Row.writes R5_17.out hb (fun g h hs => by have h1 := RL5.out g h; rcases hs with hs | hs <;> first | (have h2 := RL10.out g hs; omega) | (have h2 := RL11.out g hs; omega)))
  have R10_18 := Lib.hid hr10
  have R11_18 := Lib.hid hr11
  clear hb f0_0_17 f0_1_17 f0_2_17 f0_3_17 g0_17 f1_0_17 f1_1_17 f1_2_17 f1_3_17 g1_17 f2_0_17 f2_1_17 f2_2_17 f2_3_17 g2_17 f5_0_17 f5_1_17 f5_2_17 f5_3_17 g5_17 R4_17 R5_17 R10_17 hr10 R11_17 hr11 H17
  go_wp2_with fail
  refine (heldAntenna_any ((envN s0_0 a0_1 x0_2 x0_3 s1_0 a1_1 x1_2 x1_3 s2)) ((envG s0_0 a0_1 x0_2 x0_3 s1_0 a1_1 x1_2 x1_3 s2)) _ _ _ _ _ R10_18.out _ _ _ R11_18.out (by omega) (by omega)).mono ?_
  rintro e w19 ⟨rfl, hb⟩
  have zz19 : w18.heap.size ≤ w19.heap.size := (by have := hb.size; ((try simp at this) <;> omega))
  have H19 := Lib.hid (show Below w.heap.size w w19 by repeat (first | (with_reducible exact Below.refl _ _) | (with_reducible assumption) | ((with_reducible refine bl_alloc ?_ _ ?_); (focus ((first | omega | (simp <;> omega)); done))) | ((with_reducible refine bl_set ?_ _ ?_); (focus ((first | omega | (simp <;> omega)); done))) | (with_reducible refine below_drewN ?_ _) | (with_reducible refine Below.drew ?_) | ((with_reducible refine bl_trans ?_ hb ?_); (focus ((first | omega | (simp <;> omega)); done))) | ((with_reducible refine bl_trans ?_ H18.out ?_); (focus ((first | omega | (simp <;> omega)); done)))))
  have f0_0_19 := keeps hb f0_0_18
  have f0_1_19 := keeps hb f0_1_18
  have f0_2_19 := keeps hb f0_2_18
  have f0_3_19 := keeps hb f0_3_18
  have g0_19 : w.heap.size < w19.heap.size := block_of_cell f0_0_19
  have f1_0_19 := keeps hb f1_0_18
  have f1_1_19 := keeps hb f1_1_18
  have f1_2_19 := keeps hb f1_2_18
  have f1_3_19 := keeps hb f1_3_18
  have g1_19 : w.heap.size + 1 < w19.heap.size := block_of_cell f1_0_19
  have f2_0_19 := keeps hb f2_0_18
  have f2_1_19 := keeps hb f2_1_18
  have f2_2_19 := keeps hb f2_2_18
  have f2_3_19 := keeps hb f2_3_18
  have g2_19 : O6 < w19.heap.size := block_of_cell f2_0_19
  have f5_0_19 := keeps hb f5_0_18
  have f5_1_19 := keeps hb f5_1_18
  have f5_2_19 := keeps hb f5_2_18
  have f5_3_19 := keeps hb f5_3_18
  have g5_19 : w9.heap.size < w19.heap.size := block_of_cell f5_0_19
  have R4_19 := Lib.hid (Row.later R4_18.out hb)
  have R5_19 := Lib.hid (Row.later R5_18.out hb)
  have R10_19 := Lib.hid (Row.later R10_18.out hb)
  have R11_19 := Lib.hid (Row.later R11_18.out hb)
  clear hb f0_0_18 f0_1_18 f0_2_18 f0_3_18 g0_18 f1_0_18 f1_1_18 f1_2_18 f1_3_18 g1_18 f2_0_18 f2_1_18 f2_2_18 f2_3_18 g2_18 f5_0_18 f5_1_18 f5_2_18 f5_3_18 g5_18 R4_18 R5_18 R10_18 R11_18 H18
  go_upto_region 33 with fail
  go_cut [17, 18] (fun p_ c_ wx => ∃ O A20 n20 c20 A21 n21 c21, p_ = .pointer (some ⟨O, 0, none⟩) ∧ c_ = .int .i64 (envC s0_0 a0_1 x0_2 x0_3 s1_0 a1_1 x1_2 x1_3 s2) ∧ Hid (SInv wx O [.string (envN s0_0 a0_1 x0_2 x0_3 s1_0 a1_1 x1_2 x1_3 s2), .int .i64 ((envG s0_0 a0_1 x0_2 x0_3 s1_0 a1_1 x1_2 x1_3 s2)), (.slice A20 n20 c20), (.slice A21 n21 c21)]) ∧ Hid (w19.heap.size ≤ O) ∧ Hid (Row 2 wx w19.heap.size (.slice A20 n20 c20) (envH s0_0 a0_1 x0_2 x0_3 s1_0 a1_1 x1_2 x1_3 s2)) ∧ Hid (Row 2 wx w19.heap.size (.slice A21 n21 c21) (envW s0_0 a0_1 x0_2 x0_3 s1_0 a1_1 x1_2 x1_3 s2)) ∧ Hid (Apart (.slice A20 n20 c20) (.slice A21 n21 c21)) ∧ Hid (Value.ownBlock (.slice A20 n20 c20) ≠ some O) ∧ Hid (Value.ownBlock (.slice A21 n21 c21) ≠ some O) ∧ Hid (Below w19.heap.size w19 wx))
  case first =>
    go_region_held3 (fun w' => w'.cell? ⟨w.heap.size, 0, none⟩ = some (.string s0_0) ∧ w'.cell? ⟨w.heap.size, 1, none⟩ = some (.int .i64 a0_1) ∧ w'.cell? ⟨w.heap.size, 2, none⟩ = some (v0_2) ∧ w'.cell? ⟨w.heap.size, 3, none⟩ = some (v0_3) ∧ w'.cell? ⟨w.heap.size + 1, 0, none⟩ = some (.string s1_0) ∧ w'.cell? ⟨w.heap.size + 1, 1, none⟩ = some (.int .i64 a1_1) ∧ w'.cell? ⟨w.heap.size + 1, 2, none⟩ = some (v1_2) ∧ w'.cell? ⟨w.heap.size + 1, 3, none⟩ = some (v1_3))
      (((try go_split_ands); (refine ⟨?_, ?_, ?_, ?_, ?_, ?_, ?_, ?_⟩ <;> (repeat (first | (with_reducible assumption) | (with_reducible refine cell_drew ?_) | (with_reducible refine cell_drewN ?_) | (with_reducible refine cell_alloc ?_ _) | ((with_reducible refine cell_set1 ?_ ?_); (focus (omega; done))) | (with_reducible refine keeps hb ?_))))))
      (first
        | (go_at_call 10; ((with_reducible refine (toAntenna_any s0_0 a0_1 v0_2 x0_2 v0_3 x0_3 _ w.heap.size (by first | omega | (simp <;> omega)) (Rd.below r0_2 (by repeat (first | (with_reducible exact Below.refl _ _) | (with_reducible assumption) | ((with_reducible refine bl_alloc ?_ _ ?_); (focus ((first | omega | (simp <;> omega)); done))) | ((with_reducible refine bl_set ?_ _ ?_); (focus ((first | omega | (simp <;> omega)); done))) | (with_reducible refine below_drewN ?_ _) | (with_reducible refine Below.drew ?_) | ((with_reducible refine bl_trans ?_ H19.out ?_); (focus ((first | omega | (simp <;> omega)); done)))))) (by omega) (Rd.below r0_3 (by repeat (first | (with_reducible exact Below.refl _ _) | (with_reducible assumption) | ((with_reducible refine bl_alloc ?_ _ ?_); (focus ((first | omega | (simp <;> omega)); done))) | ((with_reducible refine bl_set ?_ _ ?_); (focus ((first | omega | (simp <;> omega)); done))) | (with_reducible refine below_drewN ?_ _) | (with_reducible refine Below.drew ?_) | ((with_reducible refine bl_trans ?_ H19.out ?_); (focus ((first | omega | (simp <;> omega)); done)))))) (by omega)).mono ?_); rintro e w20 ⟨A16, n16, c16, A17, n17, c17, rfl, hr16, hr17, ha16_17, hb⟩; have zz20 : w19.heap.size ≤ w20.heap.size := (by have := hb.size; ((try simp at this) <;> omega)); have H20 := Lib.hid (show Below w.heap.size w w20 by repeat (first | (with_reducible exact Below.refl _ _) | (with_reducible assumption) | ((with_reducible refine bl_alloc ?_ _ ?_); (focus ((first | omega | (simp <;> omega)); done))) | ((with_reducible refine bl_set ?_ _ ?_); (focus ((first | omega | (simp <;> omega)); done))) | (with_reducible refine below_drewN ?_ _) | (with_reducible refine Below.drew ?_) | ((with_reducible refine bl_trans ?_ hb ?_); (focus ((first | omega | (simp <;> omega)); done))) | ((with_reducible refine bl_trans ?_ H19.out ?_); (focus ((first | omega | (simp <;> omega)); done))))); have HX20 := Lib.hid (show Below w19.heap.size w19 w20 by repeat (first | (with_reducible exact Below.refl _ _) | (with_reducible assumption) | ((with_reducible refine bl_alloc ?_ _ ?_); (focus ((first | omega | (simp <;> omega)); done))) | ((with_reducible refine bl_set ?_ _ ?_); (focus ((first | omega | (simp <;> omega)); done))) | (with_reducible refine below_drewN ?_ _) | (with_reducible refine Below.drew ?_) | ((with_reducible refine bl_trans ?_ hb ?_); (focus ((first | omega | (simp <;> omega)); done))))); have f0_0_20 : w20.cell? ⟨w.heap.size, 0, none⟩ = some (.string s0_0) := (by first | exact keeps hb f0_0_19 | exact keeps1 hb f0_0_19 | exact keeps hb (cell_alloc f0_0_19 _) | exact keeps hb (cell_alloc (cell_drew f0_0_19) _)); have f0_1_20 : w20.cell? ⟨w.heap.size, 1, none⟩ = some (.int .i64 a0_1) := (by first | exact keeps hb f0_1_19 | exact keeps1 hb f0_1_19 | exact keeps hb (cell_alloc f0_1_19 _) | exact keeps hb (cell_alloc (cell_drew f0_1_19) _)); have f0_2_20 : w20.cell? ⟨w.heap.size, 2, none⟩ = some (v0_2) := (by first | exact keeps hb f0_2_19 | exact keeps1 hb f0_2_19 | exact keeps hb (cell_alloc f0_2_19 _) | exact keeps hb (cell_alloc (cell_drew f0_2_19) _)); have f0_3_20 : w20.cell? ⟨w.heap.size, 3, none⟩ = some (v0_3) := (by first | exact keeps hb f0_3_19 | exact keeps1 hb f0_3_19 | exact keeps hb (cell_alloc f0_3_19 _) | exact keeps hb (cell_alloc (cell_drew f0_3_19) _)); have f1_0_20 : w20.cell? ⟨w.heap.size + 1, 0, none⟩ = some (.string s1_0) := (by first | exact keeps hb f1_0_19 | exact keeps1 hb f1_0_19 | exact keeps hb (cell_alloc f1_0_19 _) | exact keeps hb (cell_alloc (cell_drew f1_0_19) _)); have f1_1_20 : w20.cell? ⟨w.heap.size + 1, 1, none⟩ = some (.int .i64 a1_1) := (by first | exact keeps hb f1_1_19 | exact keeps1 hb f1_1_19 | exact keeps hb (cell_alloc f1_1_19 _) | exact keeps hb (cell_alloc (cell_drew f1_1_19) _)); have f1_2_20 : w20.cell? ⟨w.heap.size + 1, 2, none⟩ = some (v1_2) := (by first | exact keeps hb f1_2_19 | exact keeps1 hb f1_2_19 | exact keeps hb (cell_alloc f1_2_19 _) | exact keeps hb (cell_alloc (cell_drew f1_2_19) _)); have f1_3_20 : w20.cell? ⟨w.heap.size + 1, 3, none⟩ = some (v1_3) := (by first | exact keeps hb f1_3_19 | exact keeps1 hb f1_3_19 | exact keeps hb (cell_alloc f1_3_19 _) | exact keeps hb (cell_alloc (cell_drew f1_3_19) _)); have f2_0_20 : w20.cell? ⟨O6, 0, none⟩ = some (.string (envN s0_0 a0_1 x0_2 x0_3 s1_0 a1_1 x1_2 x1_3 s2)) := (by first | exact keeps hb f2_0_19 | exact keeps1 hb f2_0_19 | exact keeps hb (cell_alloc f2_0_19 _) | exact keeps hb (cell_alloc (cell_drew f2_0_19) _)); have f2_1_20 : w20.cell? ⟨O6, 1, none⟩ = some (.int .i64 ((envG s0_0 a0_1 x0_2 x0_3 s1_0 a1_1 x1_2 x1_3 s2))) := (by first | exact keeps hb f2_1_19 | exact keeps1 hb f2_1_19 | exact keeps hb (cell_alloc f2_1_19 _) | exact keeps hb (cell_alloc (cell_drew f2_1_19) _)); have f2_2_20 : w20.cell? ⟨O6, 2, none⟩ = some ((.slice A4 n4 c4)) := (by first | exact keeps hb f2_2_19 | exact keeps1 hb f2_2_19 | exact keeps hb (cell_alloc f2_2_19 _) | exact keeps hb (cell_alloc (cell_drew f2_2_19) _)); have f2_3_20 : w20.cell? ⟨O6, 3, none⟩ = some ((.slice A5 n5 c5)) := (by first | exact keeps hb f2_3_19 | exact keeps1 hb f2_3_19 | exact keeps hb (cell_alloc f2_3_19 _) | exact keeps hb (cell_alloc (cell_drew f2_3_19) _)); have f5_0_20 : w20.cell? ⟨w9.heap.size, 0, none⟩ = some (.string (envN s0_0 a0_1 x0_2 x0_3 s1_0 a1_1 x1_2 x1_3 s2)) := (by first | exact keeps hb f5_0_19 | exact keeps1 hb f5_0_19 | exact keeps hb (cell_alloc f5_0_19 _) | exact keeps hb (cell_alloc (cell_drew f5_0_19) _)); have f5_1_20 : w20.cell? ⟨w9.heap.size, 1, none⟩ = some (.int .i64 ((envG s0_0 a0_1 x0_2 x0_3 s1_0 a1_1 x1_2 x1_3 s2))) := (by first | exact keeps hb f5_1_19 | exact keeps1 hb f5_1_19 | exact keeps hb (cell_alloc f5_1_19 _) | exact keeps hb (cell_alloc (cell_drew f5_1_19) _)); have f5_2_20 : w20.cell? ⟨w9.heap.size, 2, none⟩ = some ((.slice A10 n10 c10)) := (by first | exact keeps hb f5_2_19 | exact keeps1 hb f5_2_19 | exact keeps hb (cell_alloc f5_2_19 _) | exact keeps hb (cell_alloc (cell_drew f5_2_19) _)); have f5_3_20 : w20.cell? ⟨w9.heap.size, 3, none⟩ = some ((.slice A11 n11 c11)) := (by first | exact keeps hb f5_3_19 | exact keeps1 hb f5_3_19 | exact keeps hb (cell_alloc f5_3_19 _) | exact keeps hb (cell_alloc (cell_drew f5_3_19) _)); have R16_20 := Lib.hid (Row.base_le (b' := w19.heap.size) hr16 (by first | omega | (simp <;> omega))); have RL16 := Lib.hid (show ∀ g, Value.ownBlock (.slice A16 n16 c16) = some g → w19.heap.size ≤ g ∧ g < w20.heap.size from fun g h => by have l1 := hr16.lt g h; ((try simp at l1) <;> omega)); have RA16_17 := Lib.hid ha16_17; have R17_20 := Lib.hid (Row.base_le (b' := w19.heap.size) hr17 (by first | omega | (simp <;> omega))); have RL17 := Lib.hid (show ∀ g, Value.ownBlock (.slice A17 n17 c17) = some g → w19.heap.size ≤ g ∧ g < w20.heap.size from fun g h => by have l1 := hr17.lt g h; ((try simp at l1) <;> omega)); (first | (have SZ20 := Lib.hid (SZ19.out.later hb)) | (have SZ20 := Lib.hid (mk_fresh1 hb)) | (have SZ20 := Lib.hid (mk_fresh2 hb)) | (have SZ20 := Lib.hid (mk_fresh hb)) | skip); (first | (have zl20 := SZ20.out.lt) | skip)))
        | (go_at_call 10; ((with_reducible refine (toAntenna_any s1_0 a1_1 v1_2 x1_2 v1_3 x1_3 _ w.heap.size (by first | omega | (simp <;> omega)) (Rd.below r1_2 (by repeat (first | (with_reducible exact Below.refl _ _) | (with_reducible assumption) | ((with_reducible refine bl_alloc ?_ _ ?_); (focus ((first | omega | (simp <;> omega)); done))) | ((with_reducible refine bl_set ?_ _ ?_); (focus ((first | omega | (simp <;> omega)); done))) | (with_reducible refine below_drewN ?_ _) | (with_reducible refine Below.drew ?_) | ((with_reducible refine bl_trans ?_ H20.out ?_); (focus ((first | omega | (simp <;> omega)); done)))))) (by omega) (Rd.below r1_3 (by repeat (first | (with_reducible exact Below.refl _ _) | (with_reducible assumption) | ((with_reducible refine bl_alloc ?_ _ ?_); (focus ((first | omega | (simp <;> omega)); done))) | ((with_reducible refine bl_set ?_ _ ?_); (focus ((first | omega | (simp <;> omega)); done))) | (with_reducible refine below_drewN ?_ _) | (with_reducible refine Below.drew ?_) | ((with_reducible refine bl_trans ?_ H20.out ?_); (focus ((first | omega | (simp <;> omega)); done)))))) (by omega)).mono ?_); rintro e w21 ⟨A18, n18, c18, A19, n19, c19, rfl, hr18, hr19, ha18_19, hb⟩; have zz21 : w20.heap.size ≤ w21.heap.size := (by have := hb.size; ((try simp at this) <;> omega)); have H21 := Lib.hid (show Below w.heap.size w w21 by repeat (first | (with_reducible exact Below.refl _ _) | (with_reducible assumption) | ((with_reducible refine bl_alloc ?_ _ ?_); (focus ((first | omega | (simp <;> omega)); done))) | ((with_reducible refine bl_set ?_ _ ?_); (focus ((first | omega | (simp <;> omega)); done))) | (with_reducible refine below_drewN ?_ _) | (with_reducible refine Below.drew ?_) | ((with_reducible refine bl_trans ?_ hb ?_); (focus ((first | omega | (simp <;> omega)); done))) | ((with_reducible refine bl_trans ?_ H20.out ?_); (focus ((first | omega | (simp <;> omega)); done))))); have HX21 := Lib.hid (show Below w19.heap.size w19 w21 by repeat (first | (with_reducible exact Below.refl _ _) | (with_reducible assumption) | ((with_reducible refine bl_alloc ?_ _ ?_); (focus ((first | omega | (simp <;> omega)); done))) | ((with_reducible refine bl_set ?_ _ ?_); (focus ((first | omega | (simp <;> omega)); done))) | (with_reducible refine below_drewN ?_ _) | (with_reducible refine Below.drew ?_) | ((with_reducible refine bl_trans ?_ hb ?_); (focus ((first | omega | (simp <;> omega)); done))) | ((with_reducible refine bl_trans ?_ HX20.out ?_); (focus ((first | omega | (simp <;> omega)); done))))); have f0_0_21 : w21.cell? ⟨w.heap.size, 0, none⟩ = some (.string s0_0) := (by first | exact keeps hb f0_0_20 | exact keeps1 hb f0_0_20 | exact keeps hb (cell_alloc f0_0_20 _) | exact keeps hb (cell_alloc (cell_drew f0_0_20) _)); have f0_1_21 : w21.cell? ⟨w.heap.size, 1, none⟩ = some (.int .i64 a0_1) := (by first | exact keeps hb f0_1_20 | exact keeps1 hb f0_1_20 | exact keeps hb (cell_alloc f0_1_20 _) | exact keeps hb (cell_alloc (cell_drew f0_1_20) _)); have f0_2_21 : w21.cell? ⟨w.heap.size, 2, none⟩ = some (v0_2) := (by first | exact keeps hb f0_2_20 | exact keeps1 hb f0_2_20 | exact keeps hb (cell_alloc f0_2_20 _) | exact keeps hb (cell_alloc (cell_drew f0_2_20) _)); have f0_3_21 : w21.cell? ⟨w.heap.size, 3, none⟩ = some (v0_3) := (by first | exact keeps hb f0_3_20 | exact keeps1 hb f0_3_20 | exact keeps hb (cell_alloc f0_3_20 _) | exact keeps hb (cell_alloc (cell_drew f0_3_20) _)); have f1_0_21 : w21.cell? ⟨w.heap.size + 1, 0, none⟩ = some (.string s1_0) := (by first | exact keeps hb f1_0_20 | exact keeps1 hb f1_0_20 | exact keeps hb (cell_alloc f1_0_20 _) | exact keeps hb (cell_alloc (cell_drew f1_0_20) _)); have f1_1_21 : w21.cell? ⟨w.heap.size + 1, 1, none⟩ = some (.int .i64 a1_1) := (by first | exact keeps hb f1_1_20 | exact keeps1 hb f1_1_20 | exact keeps hb (cell_alloc f1_1_20 _) | exact keeps hb (cell_alloc (cell_drew f1_1_20) _)); have f1_2_21 : w21.cell? ⟨w.heap.size + 1, 2, none⟩ = some (v1_2) := (by first | exact keeps hb f1_2_20 | exact keeps1 hb f1_2_20 | exact keeps hb (cell_alloc f1_2_20 _) | exact keeps hb (cell_alloc (cell_drew f1_2_20) _)); have f1_3_21 : w21.cell? ⟨w.heap.size + 1, 3, none⟩ = some (v1_3) := (by first | exact keeps hb f1_3_20 | exact keeps1 hb f1_3_20 | exact keeps hb (cell_alloc f1_3_20 _) | exact keeps hb (cell_alloc (cell_drew f1_3_20) _)); have f2_0_21 : w21.cell? ⟨O6, 0, none⟩ = some (.string (envN s0_0 a0_1 x0_2 x0_3 s1_0 a1_1 x1_2 x1_3 s2)) := (by first | exact keeps hb f2_0_20 | exact keeps1 hb f2_0_20 | exact keeps hb (cell_alloc f2_0_20 _) | exact keeps hb (cell_alloc (cell_drew f2_0_20) _)); have f2_1_21 : w21.cell? ⟨O6, 1, none⟩ = some (.int .i64 ((envG s0_0 a0_1 x0_2 x0_3 s1_0 a1_1 x1_2 x1_3 s2))) := (by first | exact keeps hb f2_1_20 | exact keeps1 hb f2_1_20 | exact keeps hb (cell_alloc f2_1_20 _) | exact keeps hb (cell_alloc (cell_drew f2_1_20) _)); have f2_2_21 : w21.cell? ⟨O6, 2, none⟩ = some ((.slice A4 n4 c4)) := (by first | exact keeps hb f2_2_20 | exact keeps1 hb f2_2_20 | exact keeps hb (cell_alloc f2_2_20 _) | exact keeps hb (cell_alloc (cell_drew f2_2_20) _)); have f2_3_21 : w21.cell? ⟨O6, 3, none⟩ = some ((.slice A5 n5 c5)) := (by first | exact keeps hb f2_3_20 | exact keeps1 hb f2_3_20 | exact keeps hb (cell_alloc f2_3_20 _) | exact keeps hb (cell_alloc (cell_drew f2_3_20) _)); have f5_0_21 : w21.cell? ⟨w9.heap.size, 0, none⟩ = some (.string (envN s0_0 a0_1 x0_2 x0_3 s1_0 a1_1 x1_2 x1_3 s2)) := (by first | exact keeps hb f5_0_20 | exact keeps1 hb f5_0_20 | exact keeps hb (cell_alloc f5_0_20 _) | exact keeps hb (cell_alloc (cell_drew f5_0_20) _)); have f5_1_21 : w21.cell? ⟨w9.heap.size, 1, none⟩ = some (.int .i64 ((envG s0_0 a0_1 x0_2 x0_3 s1_0 a1_1 x1_2 x1_3 s2))) := (by first | exact keeps hb f5_1_20 | exact keeps1 hb f5_1_20 | exact keeps hb (cell_alloc f5_1_20 _) | exact keeps hb (cell_alloc (cell_drew f5_1_20) _)); have f5_2_21 : w21.cell? ⟨w9.heap.size, 2, none⟩ = some ((.slice A10 n10 c10)) := (by first | exact keeps hb f5_2_20 | exact keeps1 hb f5_2_20 | exact keeps hb (cell_alloc f5_2_20 _) | exact keeps hb (cell_alloc (cell_drew f5_2_20) _)); have f5_3_21 : w21.cell? ⟨w9.heap.size, 3, none⟩ = some ((.slice A11 n11 c11)) := (by first | exact keeps hb f5_3_20 | exact keeps1 hb f5_3_20 | exact keeps hb (cell_alloc f5_3_20 _) | exact keeps hb (cell_alloc (cell_drew f5_3_20) _)); have R16_21 : Hid (Row 2 w21 w19.heap.size (.slice A16 n16 c16) x0_2) := (by first | exact Lib.hid (Row.later R16_20.out hb) | exact Lib.hid (Row.later (R16_20.out.alloc_ _) hb)); have R17_21 : Hid (Row 2 w21 w19.heap.size (.slice A17 n17 c17) x0_3) := (by first | exact Lib.hid (Row.later R17_20.out hb) | exact Lib.hid (Row.later (R17_20.out.alloc_ _) hb)); have R18_21 := Lib.hid (Row.base_le (b' := w19.heap.size) hr18 (by first | omega | (simp <;> omega))); have RL18 := Lib.hid (show ∀ g, Value.ownBlock (.slice A18 n18 c18) = some g → w20.heap.size ≤ g ∧ g < w21.heap.size from fun g h => by have l1 := hr18.lt g h; ((try simp at l1) <;> omega)); have RA18_19 := Lib.hid ha18_19; have R19_21 := Lib.hid (Row.base_le (b' := w19.heap.size) hr19 (by first | omega | (simp <;> omega))); have RL19 := Lib.hid (show ∀ g, Value.ownBlock (.slice A19 n19 c19) = some g → w20.heap.size ≤ g ∧ g < w21.heap.size from fun g h => by have l1 := hr19.lt g h; ((try simp at l1) <;> omega)); (first | (have SZ21 := Lib.hid (SZ20.out.later hb)) | (have SZ21 := Lib.hid (mk_fresh1 hb)) | (have SZ21 := Lib.hid (mk_fresh2 hb)) | (have SZ21 := Lib.hid (mk_fresh hb)) | skip); (first | (have zl21 := SZ21.out.lt) | skip)))
        | (go_at_call 11; ((with_reducible refine (impl_any _ s0_0 is0_0 a0_1 ia0_1 _ x0_2 _ (by first | exact R16_21.out | exact R16_21.out.alloc_ _) ix0_2 _ x0_3 _ (by first | exact R17_21.out | exact R17_21.out.alloc_ _) ix0_3 s1_0 is1_0 a1_1 ia1_1 _ x1_2 _ (by first | exact R18_21.out | exact R18_21.out.alloc_ _) ix1_2 _ x1_3 _ (by first | exact R19_21.out | exact R19_21.out.alloc_ _) ix1_3 s2 is2).mono ?_); rintro e w22 ⟨A20, n20, c20, A21, n21, c21, rfl, hr20, hr21, ha20_21, hb⟩; have zz22 : w21.heap.size ≤ w22.heap.size := (by have := hb.size; ((try simp at this) <;> omega)); have H22 := Lib.hid (show Below w.heap.size w w22 by repeat (first | (with_reducible exact Below.refl _ _) | (with_reducible assumption) | ((with_reducible refine bl_alloc ?_ _ ?_); (focus ((first | omega | (simp <;> omega)); done))) | ((with_reducible refine bl_set ?_ _ ?_); (focus ((first | omega | (simp <;> omega)); done))) | (with_reducible refine below_drewN ?_ _) | (with_reducible refine Below.drew ?_) | ((with_reducible refine bl_trans ?_ hb ?_); (focus ((first | omega | (simp <;> omega)); done))) | ((with_reducible refine bl_trans ?_ H21.out ?_); (focus ((first | omega | (simp <;> omega)); done))))); have HX22 := Lib.hid (show Below w19.heap.size w19 w22 by repeat (first | (with_reducible exact Below.refl _ _) | (with_reducible assumption) | ((with_reducible refine bl_alloc ?_ _ ?_); (focus ((first | omega | (simp <;> omega)); done))) | ((with_reducible refine bl_set ?_ _ ?_); (focus ((first | omega | (simp <;> omega)); done))) | (with_reducible refine below_drewN ?_ _) | (with_reducible refine Below.drew ?_) | ((with_reducible refine bl_trans ?_ hb ?_); (focus ((first | omega | (simp <;> omega)); done))) | ((with_reducible refine bl_trans ?_ HX21.out ?_); (focus ((first | omega | (simp <;> omega)); done))))); have f0_0_22 : w22.cell? ⟨w.heap.size, 0, none⟩ = some (.string s0_0) := (by first | exact keeps hb f0_0_21 | exact keeps1 hb f0_0_21 | exact keeps hb (cell_alloc f0_0_21 _) | exact keeps hb (cell_alloc (cell_drew f0_0_21) _)); have f0_1_22 : w22.cell? ⟨w.heap.size, 1, none⟩ = some (.int .i64 a0_1) := (by first | exact keeps hb f0_1_21 | exact keeps1 hb f0_1_21 | exact keeps hb (cell_alloc f0_1_21 _) | exact keeps hb (cell_alloc (cell_drew f0_1_21) _)); have f0_2_22 : w22.cell? ⟨w.heap.size, 2, none⟩ = some (v0_2) := (by first | exact keeps hb f0_2_21 | exact keeps1 hb f0_2_21 | exact keeps hb (cell_alloc f0_2_21 _) | exact keeps hb (cell_alloc (cell_drew f0_2_21) _)); have f0_3_22 : w22.cell? ⟨w.heap.size, 3, none⟩ = some (v0_3) := (by first | exact keeps hb f0_3_21 | exact keeps1 hb f0_3_21 | exact keeps hb (cell_alloc f0_3_21 _) | exact keeps hb (cell_alloc (cell_drew f0_3_21) _)); have f1_0_22 : w22.cell? ⟨w.heap.size + 1, 0, none⟩ = some (.string s1_0) := (by first | exact keeps hb f1_0_21 | exact keeps1 hb f1_0_21 | exact keeps hb (cell_alloc f1_0_21 _) | exact keeps hb (cell_alloc (cell_drew f1_0_21) _)); have f1_1_22 : w22.cell? ⟨w.heap.size + 1, 1, none⟩ = some (.int .i64 a1_1) := (by first | exact keeps hb f1_1_21 | exact keeps1 hb f1_1_21 | exact keeps hb (cell_alloc f1_1_21 _) | exact keeps hb (cell_alloc (cell_drew f1_1_21) _)); have f1_2_22 : w22.cell? ⟨w.heap.size + 1, 2, none⟩ = some (v1_2) := (by first | exact keeps hb f1_2_21 | exact keeps1 hb f1_2_21 | exact keeps hb (cell_alloc f1_2_21 _) | exact keeps hb (cell_alloc (cell_drew f1_2_21) _)); have f1_3_22 : w22.cell? ⟨w.heap.size + 1, 3, none⟩ = some (v1_3) := (by first | exact keeps hb f1_3_21 | exact keeps1 hb f1_3_21 | exact keeps hb (cell_alloc f1_3_21 _) | exact keeps hb (cell_alloc (cell_drew f1_3_21) _)); have f2_0_22 : w22.cell? ⟨O6, 0, none⟩ = some (.string (envN s0_0 a0_1 x0_2 x0_3 s1_0 a1_1 x1_2 x1_3 s2)) := (by first | exact keeps hb f2_0_21 | exact keeps1 hb f2_0_21 | exact keeps hb (cell_alloc f2_0_21 _) | exact keeps hb (cell_alloc (cell_drew f2_0_21) _)); have f2_1_22 : w22.cell? ⟨O6, 1, none⟩ = some (.int .i64 ((envG s0_0 a0_1 x0_2 x0_3 s1_0 a1_1 x1_2 x1_3 s2))) := (by first | exact keeps hb f2_1_21 | exact keeps1 hb f2_1_21 | exact keeps hb (cell_alloc f2_1_21 _) | exact keeps hb (cell_alloc (cell_drew f2_1_21) _)); have f2_2_22 : w22.cell? ⟨O6, 2, none⟩ = some ((.slice A4 n4 c4)) := (by first | exact keeps hb f2_2_21 | exact keeps1 hb f2_2_21 | exact keeps hb (cell_alloc f2_2_21 _) | exact keeps hb (cell_alloc (cell_drew f2_2_21) _)); have f2_3_22 : w22.cell? ⟨O6, 3, none⟩ = some ((.slice A5 n5 c5)) := (by first | exact keeps hb f2_3_21 | exact keeps1 hb f2_3_21 | exact keeps hb (cell_alloc f2_3_21 _) | exact keeps hb (cell_alloc (cell_drew f2_3_21) _)); have f5_0_22 : w22.cell? ⟨w9.heap.size, 0, none⟩ = some (.string (envN s0_0 a0_1 x0_2 x0_3 s1_0 a1_1 x1_2 x1_3 s2)) := (by first | exact keeps hb f5_0_21 | exact keeps1 hb f5_0_21 | exact keeps hb (cell_alloc f5_0_21 _) | exact keeps hb (cell_alloc (cell_drew f5_0_21) _)); have f5_1_22 : w22.cell? ⟨w9.heap.size, 1, none⟩ = some (.int .i64 ((envG s0_0 a0_1 x0_2 x0_3 s1_0 a1_1 x1_2 x1_3 s2))) := (by first | exact keeps hb f5_1_21 | exact keeps1 hb f5_1_21 | exact keeps hb (cell_alloc f5_1_21 _) | exact keeps hb (cell_alloc (cell_drew f5_1_21) _)); have f5_2_22 : w22.cell? ⟨w9.heap.size, 2, none⟩ = some ((.slice A10 n10 c10)) := (by first | exact keeps hb f5_2_21 | exact keeps1 hb f5_2_21 | exact keeps hb (cell_alloc f5_2_21 _) | exact keeps hb (cell_alloc (cell_drew f5_2_21) _)); have f5_3_22 : w22.cell? ⟨w9.heap.size, 3, none⟩ = some ((.slice A11 n11 c11)) := (by first | exact keeps hb f5_3_21 | exact keeps1 hb f5_3_21 | exact keeps hb (cell_alloc f5_3_21 _) | exact keeps hb (cell_alloc (cell_drew f5_3_21) _)); have R20_22 := Lib.hid (Row.base_le (b' := w19.heap.size) hr20 (by first | omega | (simp <;> omega))); have RL20 := Lib.hid (show ∀ g, Value.ownBlock (.slice A20 n20 c20) = some g → w21.heap.size ≤ g ∧ g < w22.heap.size from fun g h => by have l1 := hr20.lt g h; ((try simp at l1) <;> omega)); have RA20_21 := Lib.hid ha20_21; have R21_22 := Lib.hid (Row.base_le (b' := w19.heap.size) hr21 (by first | omega | (simp <;> omega))); have RL21 := Lib.hid (show ∀ g, Value.ownBlock (.slice A21 n21 c21) = some g → w21.heap.size ≤ g ∧ g < w22.heap.size from fun g h => by have l1 := hr21.lt g h; ((try simp at l1) <;> omega)); (first | (have SZ22 := Lib.hid (SZ21.out.later hb)) | (have SZ22 := Lib.hid (mk_fresh1 hb)) | (have SZ22 := Lib.hid (mk_fresh2 hb)) | (have SZ22 := Lib.hid (mk_fresh hb)) | skip); (first | (have zl22 := SZ22.out.lt) | skip); (first | (have SZZ := SZ22; have z0_ := SZZ.out.cell 0 _ rfl; have z1_ := SZZ.out.cell 1 _ rfl; have z2_ := SZZ.out.cell 2 _ rfl; have z3_ := SZZ.out.cell 3 _ rfl; have zf_ := SZZ.out.free; have zl_ := SZZ.out.lt) | skip))))
    all_goals (go_wp2_with fail; go_meet)
    all_goals skip
    all_goals first
      | exact ⟨_, _, _, _, _, _, _, rfl, rfl, SInv.fresh _ _ _, (show _ ≤ _ by omega), (R20_22.out.alloc_ _), (R21_22.out.alloc_ _), RA20_21, (fun q => by have h1 := hr20.lt _ q; ((try simp at h1) <;> omega)), (fun q => by have h1 := hr21.lt _ q; ((try simp at h1) <;> omega)), bl_alloc (by omega) _ HX22.out⟩
      | exact ⟨_, _, _, _, _, _, _, rfl, rfl, (Lib.hid (by simpa using ((((SZZ.out.set 0 (by simp) (.string (envN s0_0 a0_1 x0_2 x0_3 s1_0 a1_1 x1_2 x1_3 s2))).set 1 (by simp) (.int .i64 ((envG s0_0 a0_1 x0_2 x0_3 s1_0 a1_1 x1_2 x1_3 s2)))).set 2 (by simp) ((.slice A20 n20 c20))).set 3 (by simp) ((.slice A21 n21 c21))))), (show _ ≤ _ by omega), (Lib.hid (by repeat (first | (with_reducible exact R20_22.out) | (with_reducible refine Row.other ?_ (fun q => by have h1 := hr20.lt _ q; ((try simp at h1) <;> omega)) _)))), (Lib.hid (by repeat (first | (with_reducible exact R21_22.out) | (with_reducible refine Row.other ?_ (fun q => by have h1 := hr21.lt _ q; ((try simp at h1) <;> omega)) _)))), RA20_21, (fun q => by have h1 := hr20.lt _ q; ((try simp at h1) <;> omega)), (fun q => by have h1 := hr21.lt _ q; ((try simp at h1) <;> omega)), (Lib.hid (by repeat (first | (with_reducible exact Below.refl _ _) | (with_reducible assumption) | ((with_reducible refine bl_alloc ?_ _ ?_); (focus ((first | omega | (simp <;> omega)); done))) | ((with_reducible refine bl_set ?_ _ ?_); (focus ((first | omega | (simp <;> omega)); done))) | (with_reducible refine below_drewN ?_ _) | (with_reducible refine Below.drew ?_) | ((with_reducible refine bl_trans ?_ HX22.out ?_); (focus ((first | omega | (simp <;> omega)); done))))))⟩
  obtain ⟨O23, A20, n20, c20, A21, n21, c21, hpp, hcc, hs, ho, hr20, hr21, ha20_21, ho20, ho21, hbx⟩ := hcut
  subst hpp hcc
  obtain ⟨w23, hw_⟩ : ∃ x, x = wc := ⟨_, rfl⟩
  rw [← hw_] at hs hr20 hr21 hbx ⊢
  clear hw_
  have hb := hbx.out
  have zz23 : w19.heap.size ≤ w23.heap.size := hb.size
  have H23 := Lib.hid (show Below w.heap.size w w23 by repeat (first | (with_reducible exact Below.refl _ _) | (with_reducible assumption) | ((with_reducible refine bl_alloc ?_ _ ?_); (focus ((first | omega | (simp <;> omega)); done))) | ((with_reducible refine bl_set ?_ _ ?_); (focus ((first | omega | (simp <;> omega)); done))) | (with_reducible refine below_drewN ?_ _) | (with_reducible refine Below.drew ?_) | ((with_reducible refine bl_trans ?_ hb ?_); (focus ((first | omega | (simp <;> omega)); done))) | ((with_reducible refine bl_trans ?_ H19.out ?_); (focus ((first | omega | (simp <;> omega)); done)))))
  have lo23 : O23 < w23.heap.size := hs.out.lt
  have lp23 : w19.heap.size ≤ O23 := ho.out
  have f0_0_23 := keeps hb f0_0_19
  have f0_1_23 := keeps hb f0_1_19
  have f0_2_23 := keeps hb f0_2_19
  have f0_3_23 := keeps hb f0_3_19
  have g0_23 : w.heap.size < w23.heap.size := block_of_cell f0_0_23
  have f1_0_23 := keeps hb f1_0_19
  have f1_1_23 := keeps hb f1_1_19
  have f1_2_23 := keeps hb f1_2_19
  have f1_3_23 := keeps hb f1_3_19
  have g1_23 : w.heap.size + 1 < w23.heap.size := block_of_cell f1_0_23
  have f2_0_23 := keeps hb f2_0_19
  have f2_1_23 := keeps hb f2_1_19
  have f2_2_23 := keeps hb f2_2_19
  have f2_3_23 := keeps hb f2_3_19
  have g2_23 : O6 < w23.heap.size := block_of_cell f2_0_23
  have f5_0_23 := keeps hb f5_0_19
  have f5_1_23 := keeps hb f5_1_19
  have f5_2_23 := keeps hb f5_2_19
  have f5_3_23 := keeps hb f5_3_19
  have g5_23 : w9.heap.size < w23.heap.size := block_of_cell f5_0_23
  have R4_23 := Lib.hid (Row.later R4_19.out hb)
  have R5_23 := Lib.hid (Row.later R5_19.out hb)
  have R10_23 := Lib.hid (Row.later R10_19.out hb)
  have R11_23 := Lib.hid (Row.later R11_19.out hb)
  have f6_0_23 := hs.out.cell 0 _ rfl
  have f6_1_23 := hs.out.cell 1 _ rfl
  have f6_2_23 := hs.out.cell 2 _ rfl
  have f6_3_23 := hs.out.cell 3 _ rfl
  have g6_23 : O23 < w23.heap.size := hs.out.lt
  have R20_23 := Lib.hid hr20.out
  have RL20 := Lib.hid (show ∀ g, Value.ownBlock (.slice A20 n20 c20) = some g → w19.heap.size ≤ g ∧ g < w23.heap.size from fun g h => hr20.out.lt g h)
  have R21_23 := Lib.hid hr21.out
  have RL21 := Lib.hid (show ∀ g, Value.ownBlock (.slice A21 n21 c21) = some g → w19.heap.size ≤ g ∧ g < w23.heap.size from fun g h => hr21.out.lt g h)
  have RA20_21 := ha20_21
  clear hbx ho f0_0_19 f0_1_19 f0_2_19 f0_3_19 g0_19 f1_0_19 f1_1_19 f1_2_19 f1_3_19 g1_19 f2_0_19 f2_1_19 f2_2_19 f2_3_19 g2_19 f5_0_19 f5_1_19 f5_2_19 f5_3_19 g5_19 R4_19 R5_19 R10_19 R11_19 hs hr20 ho20 hr21 ho21 hb H19
  go_wp2_with fail
  refine (eqAntenna_any ((envN s0_0 a0_1 x0_2 x0_3 s1_0 a1_1 x1_2 x1_3 s2)) ((envG s0_0 a0_1 x0_2 x0_3 s1_0 a1_1 x1_2 x1_3 s2)) _ _ _ ((envH s0_0 a0_1 x0_2 x0_3 s1_0 a1_1 x1_2 x1_3 s2)) _ _ R20_23.out R4_23.out _ _ ((envW s0_0 a0_1 x0_2 x0_3 s1_0 a1_1 x1_2 x1_3 s2)) _ _ R21_23.out R5_23.out).mono ?_
  rintro e w24 ⟨rfl, hb⟩
  have zz24 : w23.heap.size ≤ w24.heap.size := (by have := hb.size; ((try simp at this) <;> omega))
  have H24 := Lib.hid (show Below w.heap.size w w24 by repeat (first | (with_reducible exact Below.refl _ _) | (with_reducible assumption) | ((with_reducible refine bl_alloc ?_ _ ?_); (focus ((first | omega | (simp <;> omega)); done))) | ((with_reducible refine bl_set ?_ _ ?_); (focus ((first | omega | (simp <;> omega)); done))) | (with_reducible refine below_drewN ?_ _) | (with_reducible refine Below.drew ?_) | ((with_reducible refine bl_trans ?_ hb ?_); (focus ((first | omega | (simp <;> omega)); done))) | ((with_reducible refine bl_trans ?_ H23.out ?_); (focus ((first | omega | (simp <;> omega)); done)))))
  have f5_0_24 := keeps hb f5_0_23
  have f5_1_24 := keeps hb f5_1_23
  have f5_2_24 := keeps hb f5_2_23
  have f5_3_24 := keeps hb f5_3_23
  have g5_24 : w9.heap.size < w24.heap.size := block_of_cell f5_0_24
  have R10_24 := Lib.hid (Row.later R10_23.out hb)
  have R11_24 := Lib.hid (Row.later R11_23.out hb)
  clear hb f0_0_23 f0_1_23 f0_2_23 f0_3_23 g0_23 f1_0_23 f1_1_23 f1_2_23 f1_3_23 g1_23 f2_0_23 f2_1_23 f2_2_23 f2_3_23 g2_23 f5_0_23 f5_1_23 f5_2_23 f5_3_23 g5_23 f6_0_23 f6_1_23 f6_2_23 f6_3_23 g6_23 R4_23 R5_23 R10_23 R11_23 R20_23 R21_23 H23
  go_wp2_with fail
  refine (heldAntenna_any ((envN s0_0 a0_1 x0_2 x0_3 s1_0 a1_1 x1_2 x1_3 s2)) ((envG s0_0 a0_1 x0_2 x0_3 s1_0 a1_1 x1_2 x1_3 s2)) _ _ _ _ _ R10_24.out _ _ _ R11_24.out (by omega) (by omega)).mono ?_
  rintro e w25 ⟨rfl, hb⟩
  have zz25 : w24.heap.size ≤ w25.heap.size := (by have := hb.size; ((try simp at this) <;> omega))
  have H25 := Lib.hid (show Below w.heap.size w w25 by repeat (first | (with_reducible exact Below.refl _ _) | (with_reducible assumption) | ((with_reducible refine bl_alloc ?_ _ ?_); (focus ((first | omega | (simp <;> omega)); done))) | ((with_reducible refine bl_set ?_ _ ?_); (focus ((first | omega | (simp <;> omega)); done))) | (with_reducible refine below_drewN ?_ _) | (with_reducible refine Below.drew ?_) | ((with_reducible refine bl_trans ?_ hb ?_); (focus ((first | omega | (simp <;> omega)); done))) | ((with_reducible refine bl_trans ?_ H24.out ?_); (focus ((first | omega | (simp <;> omega)); done)))))
  clear hb f5_0_24 f5_1_24 f5_2_24 f5_3_24 g5_24 R10_24 R11_24 H24
  go_wp2_with fail
  go_ret
  exact ⟨rfl, (by repeat (first | (with_reducible exact Below.refl _ _) | (with_reducible assumption) | ((with_reducible refine bl_alloc ?_ _ ?_); (focus ((first | omega | (simp <;> omega)); done))) | ((with_reducible refine bl_set ?_ _ ?_); (focus ((first | omega | (simp <;> omega)); done))) | (with_reducible refine below_drewN ?_ _) | (with_reducible refine Below.drew ?_) | ((with_reducible refine bl_trans ?_ H25.out ?_); (focus ((first | omega | (simp <;> omega)); done)))))⟩
end Go.Proofs.Ytedpdcdmemenhaa.fnExactEnvelopeOf
