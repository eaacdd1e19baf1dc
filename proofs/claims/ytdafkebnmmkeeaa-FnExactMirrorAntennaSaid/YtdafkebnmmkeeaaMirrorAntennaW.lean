/-
  The walk of FnExactMirrorAntenna: it returns true, and of what was there nothing has turned. The conditions are what its arguments' readings give.
-/
import Derived.Test.YtdafkebnmmkeeaaRows
import Derived.Test.YtdafkebnmmkeeaaLib
import Derived.Test.YtdafkebnmmkeeaaInt
import Derived.Test.YtdafkebnmmkeeaaInts
import Derived.Test.YtdafkebnmmkeeaaIntsB
import Derived.Test.YtdafkebnmmkeeaaWithin
import Derived.Test.YtdafkebnmmkeeaaNames
import Derived.Test.YtdafkebnmmkeeaaAll
import Derived.Test.YtdafkebnmmkeeaaPattern
import Derived.Test.YtdafkebnmmkeeaaAntenna
import Derived.Test.YtdafkebnmmkeeaaOwn
import Derived.Test.YtdafkebnmmkeeaaField
import Derived.Test.YtdafkebnmmkeeaaAntOwn
import Derived.Outline
import Derived.Deep.RegionHeld3
import Derived.Deep.DrawnRows
import Derived.OwnWalk
import Derived.Deep.AppendLies
import Derived.Deep.RegionLaw
namespace Go.Proofs.Ytdafkebnmmkeeaa.fnExactMirrorAntenna
open Go.RowKit Go.ChangeShapes Go.WideShapes Go.ChangeAt
set_option linter.unusedVariables false
set_option linter.unusedSimpArgs false

attribute [local go_sem ↓] Go.wp_at_zero Go.wp_at_succ
def mirX (xs : List Int) : List Int := (List.range 36).map fun i => xs.getD ((36 - i) % 36) 0
def mirN (s : ByteArray) (g : Int) (xs ys : List Int) : ByteArray := if antB s g xs ys = true then s else ⟨#[]⟩
def mirG (s : ByteArray) (g : Int) (xs ys : List Int) : Int := if antB s g xs ys = true then g else 0
def mirH (s : ByteArray) (g : Int) (xs ys : List Int) : List Int := if antB s g xs ys = true then mirX xs else []
def mirV (s : ByteArray) (g : Int) (xs ys : List Int) : List Int := if antB s g xs ys = true then ys else []
def mirC (s : ByteArray) (g : Int) (xs ys : List Int) : Int := if antB s g xs ys = true then 0 else 1
theorem mir_yes {s : ByteArray} {g : Int} {xs ys : List Int} (h : antB s g xs ys = true) : mirN s g xs ys = s ∧ mirG s g xs ys = g ∧ mirH s g xs ys = mirX xs ∧ mirV s g xs ys = ys ∧ mirC s g xs ys = 0 := ⟨if_pos h, if_pos h, if_pos h, if_pos h, if_pos h⟩
theorem mir_no {s : ByteArray} {g : Int} {xs ys : List Int} (h : antB s g xs ys = false) : mirN s g xs ys = ⟨#[]⟩ ∧ mirG s g xs ys = 0 ∧ mirH s g xs ys = [] ∧ mirV s g xs ys = [] ∧ mirC s g xs ys = 1 := by
  have h' : ¬ antB s g xs ys = true := by rw [h]; decide
  exact ⟨if_neg h', if_neg h', if_neg h', if_neg h', if_neg h'⟩
theorem mirX_len (xs : List Int) : (mirX xs).length = 36 := by simp [mirX]
theorem mirX_at (xs : List Int) {k : Nat} (h : k < 36) : (mirX xs).getD k 0 = xs.getD ((36 - k) % 36) 0 := by simp [mirX, h]
theorem mir_len (s : ByteArray) (g : Int) (xs ys : List Int) : (mirH s g xs ys).length ≤ 36 ∧ (mirV s g xs ys).length ≤ 19 := by
  rcases bool_two (antB s g xs ys) with h | h
  · obtain ⟨_, _, e1, e2, _⟩ := mir_yes h
    obtain ⟨_, _, _, _, l2⟩ := ant_parts h
    have := (loss_parts l2).1
    rw [e1, e2, mirX_len]
    omega
  · obtain ⟨_, _, e1, e2, _⟩ := mir_no h
    rw [e1, e2]
    exact ⟨Nat.zero_le _, Nat.zero_le _⟩
theorem take_next {ys : List Int} {k : Nat} (hk : k < ys.length) : ys.take (k + 1) = ys.take k ++ [ys.getD k 0] := by
  rw [List.take_add_one]
  simp [List.getD, hk]
theorem mix_set {xs ys : List Int} {k : Nat} (h : xs.length = ys.length) (hk : k < ys.length) : (ys.take k ++ xs.drop k).set k (ys.getD k 0) = ys.take (k + 1) ++ xs.drop (k + 1) := by
  rw [take_next hk, List.set_append_right _ _ (by simp; omega), List.length_take, Nat.min_eq_left (by omega), Nat.sub_self]
  rw [List.drop_eq_getElem_cons (by omega), List.set_cons_zero, List.append_assoc]
  rfl
theorem mir_first (xs : List Int) (h : xs.length = 36) : (mirX xs).take 1 ++ xs.drop 1 = xs := by
  have e : (mirX xs).take 1 = [xs.getD 0 0] := by
    rw [show (1 : Nat) = 0 + 1 from rfl, take_next (by rw [mirX_len]; omega), mirX_at xs (by omega)]
    rfl
  rw [e]
  cases xs with
  | nil => simp at h
  | cons a l => rfl
theorem rowOwns {e : TypeId} {w : World} {base n : Nat} {t : Value} {ys : List Int} (hn : ys.length = n) (h : Row e w base t ys) : w.ownsRow base e 1 t n (ys.map (Value.int .i64)) := by
  subst hn
  exact h
set_option maxRecDepth 20000 in
set_option maxHeartbeats 4000000 in
theorem impl_any (w : World) (s : ByteArray) (is : s.size ≤ maxLen) (g : Int) (ig : In64 g) (a : Value) (xs : List Int) (p : Nat) (ha : Row 2 w p a xs) (ixs : ∀ n ∈ xs, In64 n) (b : Value) (ys : List Int) (q : Nat) (hb : Row 2 w q b ys) (iys : ∀ n ∈ ys, In64 n) :
    Calls Try.prog 28 #[.agg #[.string s, .int .i64 g, a, b]] w fun e w' => ∃ A0 n0 c0 A1 n1 c1, e = .returned (.tuple #[.agg #[.string (mirN s g xs ys), .int .i64 (mirG s g xs ys), .slice A0 n0 c0, .slice A1 n1 c1], .int .i64 (mirC s g xs ys)]) ∧ Row 2 w' w.heap.size (.slice A0 n0 c0) (mirH s g xs ys) ∧ Row 2 w' w.heap.size (.slice A1 n1 c1) (mirV s g xs ys) ∧ Apart (.slice A0 n0 c0) (.slice A1 n1 c1) ∧ Below w.heap.size w w' := by
  have IS := Lib.hid is
  have HA := Lib.hid ha
  have HBB := Lib.hid hb
  clear is ixs iys
  rcases bool_two (antB s g xs ys) with hv | hv
  rotate_left
  · obtain ⟨e1, e2, e3, e4, e5⟩ := mir_no hv
    rw [e1, e2, e3, e4, e5]
    have HE := Lib.hid hv
    clear hv e1 e2 e3 e4 e5
    go_enter Try.func28, Try.ntmps28
    go_wp2_with fail
    refine (ValidAntenna_any _ s IS.out g _ xs p ((HA.out.alloc_ _).alloc_ _) _ ys q ((HBB.out.alloc_ _).alloc_ _)).mono ?_
    rintro e w1 ⟨he, hb1⟩
    rw [HE.out] at he
    subst he
    have H1 := Lib.hid (show Below w.heap.size w w1 by repeat (first | (with_reducible exact Below.refl _ _) | (with_reducible assumption) | ((with_reducible refine bl_alloc ?_ _ ?_); (focus ((first | omega | (simp <;> omega)); done))) | ((with_reducible refine bl_set ?_ _ ?_); (focus ((first | omega | (simp <;> omega)); done))) | (with_reducible refine below_drewN ?_ _) | (with_reducible refine Below.drew ?_) | ((with_reducible refine bl_trans ?_ hb1 ?_); (focus ((first | omega | (simp <;> omega)); done)))))
    have SA := Lib.hid (show SInv w1 w.heap.size [.string s, .int .i64 g, a, b] from ((SInv.fresh w #[.string s, .int .i64 g, a, b] 47).alloc_ (.cells #[.string ⟨#[]⟩, .int .i64 0, .slice none 0 0, .slice none 0 0] 47)).later hb1)
    have SZ := Lib.hid (show SInv w1 (w.heap.size + 1) [.string ⟨#[]⟩, .int .i64 0, .slice none 0 0, .slice none 0 0] from by have h := (SInv.fresh (w.alloc (.cells #[.string s, .int .i64 g, a, b] 47)) #[.string ⟨#[]⟩, .int .i64 0, .slice none 0 0, .slice none 0 0] 47).later hb1; simpa using h)
    have HA1 := Lib.hid (((HA.out.alloc_ (.cells #[.string s, .int .i64 g, a, b] 47)).alloc_ (.cells #[.string ⟨#[]⟩, .int .i64 0, .slice none 0 0, .slice none 0 0] 47)).later hb1)
    have HB1 := Lib.hid (((HBB.out.alloc_ (.cells #[.string s, .int .i64 g, a, b] 47)).alloc_ (.cells #[.string ⟨#[]⟩, .int .i64 0, .slice none 0 0, .slice none 0 0] 47)).later hb1)
    have zz1 : w.heap.size + 1 < w1.heap.size := by have := hb1.size; simp at this; omega
    clear hb1
    have z0 := SZ.out.cell 0 _ rfl
    have z1 := SZ.out.cell 1 _ rfl
    have z2 := SZ.out.cell 2 _ rfl
    have z3 := SZ.out.cell 3 _ rfl
    have zf := SZ.out.free
    go_wp2_with fail
    refine bodyPost_ret (v := .tuple #[.agg #[.string ⟨#[]⟩, .int .i64 0, .slice none 0 0, .slice none 0 0], .int .i64 1]) (by simp [results, Try.results28, go_sem, *]) rfl ?_
    exact ⟨_, _, _, _, _, _, rfl, Row.nil_, Row.nil_, apart_nil, by repeat (first | (with_reducible exact Below.refl _ _) | (with_reducible assumption) | ((with_reducible refine bl_alloc ?_ _ ?_); (focus ((first | omega | (simp <;> omega)); done))) | ((with_reducible refine bl_set ?_ _ ?_); (focus ((first | omega | (simp <;> omega)); done))) | (with_reducible refine below_drewN ?_ _) | (with_reducible refine Below.drew ?_) | ((with_reducible refine bl_trans ?_ H1.out ?_); (focus ((first | omega | (simp <;> omega)); done))))⟩
  obtain ⟨e1, e2, e3, e4, e5⟩ := mir_yes hv
  rw [e1, e2, e3, e4, e5]
  clear e1 e2 e3 e4 e5
  obtain ⟨ga, ca, gb, cb, rfl, rfl, n1, n2, r1, r2, l1, l2, k1, k2⟩ := ant_open hv HA.out HBB.out
  have HE := Lib.hid hv
  have HK1 := Lib.hid k1
  have HN1 := Lib.hid n1
  have HN2 := Lib.hid n2
  clear hv k1 k2 r1 r2 n1 n2
  obtain ⟨i0, hi, hz0, hz1, hz2⟩ := info_parts Try.info_i64
  have HI := Lib.hid hi
  have HZ0 := Lib.hid hz0
  have HZ1 := Lib.hid hz1
  have HZ2 := Lib.hid hz2
  clear hi hz0 hz1 hz2
  go_enter Try.func28, Try.ntmps28
  go_wp2_with fail
  refine (ValidAntenna_any _ s IS.out g _ xs p ((HA.out.alloc_ _).alloc_ _) _ ys q ((HBB.out.alloc_ _).alloc_ _)).mono ?_
  rintro e w1 ⟨he, hb1⟩
  rw [HE.out] at he
  subst he
  have H1 := Lib.hid (show Below w.heap.size w w1 by repeat (first | (with_reducible exact Below.refl _ _) | (with_reducible assumption) | ((with_reducible refine bl_alloc ?_ _ ?_); (focus ((first | omega | (simp <;> omega)); done))) | ((with_reducible refine bl_set ?_ _ ?_); (focus ((first | omega | (simp <;> omega)); done))) | (with_reducible refine below_drewN ?_ _) | (with_reducible refine Below.drew ?_) | ((with_reducible refine bl_trans ?_ hb1 ?_); (focus ((first | omega | (simp <;> omega)); done)))))
  have SA := Lib.hid (show SInv w1 w.heap.size [.string s, .int .i64 g, .slice (some ⟨ga, 0, none⟩) 36 ca, .slice (some ⟨gb, 0, none⟩) 19 cb] from ((SInv.fresh w #[.string s, .int .i64 g, .slice (some ⟨ga, 0, none⟩) 36 ca, .slice (some ⟨gb, 0, none⟩) 19 cb] 47).alloc_ (.cells #[.string ⟨#[]⟩, .int .i64 0, .slice none 0 0, .slice none 0 0] 47)).later hb1)
  have SZ := Lib.hid (show SInv w1 (w.heap.size + 1) [.string ⟨#[]⟩, .int .i64 0, .slice none 0 0, .slice none 0 0] from by have h := (SInv.fresh (w.alloc (.cells #[.string s, .int .i64 g, .slice (some ⟨ga, 0, none⟩) 36 ca, .slice (some ⟨gb, 0, none⟩) 19 cb] 47)) #[.string ⟨#[]⟩, .int .i64 0, .slice none 0 0, .slice none 0 0] 47).later hb1; simpa using h)
  have HA1 := Lib.hid (((HA.out.alloc_ (.cells #[.string s, .int .i64 g, .slice (some ⟨ga, 0, none⟩) 36 ca, .slice (some ⟨gb, 0, none⟩) 19 cb] 47)).alloc_ (.cells #[.string ⟨#[]⟩, .int .i64 0, .slice none 0 0, .slice none 0 0] 47)).later hb1)
  have HB1 := Lib.hid (((HBB.out.alloc_ (.cells #[.string s, .int .i64 g, .slice (some ⟨ga, 0, none⟩) 36 ca, .slice (some ⟨gb, 0, none⟩) 19 cb] 47)).alloc_ (.cells #[.string ⟨#[]⟩, .int .i64 0, .slice none 0 0, .slice none 0 0] 47)).later hb1)
  have zz1 : w.heap.size + 1 < w1.heap.size := by have := hb1.size; simp at this; omega
  clear hb1
  have a0 := SA.out.cell 0 _ rfl
  have a1 := SA.out.cell 1 _ rfl
  have a2 := SA.out.cell 2 _ rfl
  have a3 := SA.out.cell 3 _ rfl
  have zz0 : w.heap.size < w1.heap.size := by omega
  have HC : Hid (∀ W : World, Below w1.heap.size w1 W → Calls Try.prog 77 #[.slice (some ⟨gb, 0, none⟩) 19 cb] W fun e w' => ∃ A n c, e = .returned (.slice A n c) ∧ Row 2 w' W.heap.size (.slice A n c) ys ∧ Below W.heap.size W w') := fun W hW => clone_any W _ ys q (HB1.out.later hW) (by rw [HN2.out]; omega) (by rw [HN2.out]; omega)
  go_wp2_with fail
  go_region_held3 (fun w' => w'.cell? ⟨w.heap.size, 0, none⟩ = some (.string s) ∧ w'.cell? ⟨w.heap.size, 1, none⟩ = some (.int .i64 g) ∧ w'.cell? ⟨w.heap.size, 3, none⟩ = some (.slice (some ⟨gb, 0, none⟩) 19 cb))
    (((try go_split_ands); (refine ⟨?_, ?_, ?_⟩ <;> (repeat (first | (with_reducible assumption) | (with_reducible refine cell_drew ?_) | (with_reducible refine cell_drewN ?_) | (with_reducible refine cell_alloc ?_ _) | ((with_reducible refine cell_set1 ?_ ?_); (focus (omega; done))))))))
    (first
      | (go_at_call 77; ((with_reducible refine (HC.out w1.drew (by repeat (first | (with_reducible exact Below.refl _ _) | (with_reducible assumption) | ((with_reducible refine bl_alloc ?_ _ ?_); (focus ((first | omega | (simp <;> omega)); done))) | ((with_reducible refine bl_set ?_ _ ?_); (focus ((first | omega | (simp <;> omega)); done))) | (with_reducible refine below_drewN ?_ _) | (with_reducible refine Below.drew ?_)))).mono ?_); rintro e w2 ⟨A2, n2, c2, rfl, hr2, hb⟩; have zz2 : w1.heap.size ≤ w2.heap.size := (by have := hb.size; ((try simp at this) <;> omega)); have b0 := keeps hb (p := ⟨w.heap.size, 0, none⟩) (v := .string s) a0; have b1 := keeps hb (p := ⟨w.heap.size, 1, none⟩) (v := .int .i64 g) a1; have b3 := keeps hb (p := ⟨w.heap.size, 3, none⟩) (v := .slice (some ⟨gb, 0, none⟩) 19 cb) a3))
      | (go_at_call 77; ((with_reducible refine (HC.out _ (by repeat (first | (with_reducible exact Below.refl _ _) | (with_reducible assumption) | ((with_reducible refine bl_alloc ?_ _ ?_); (focus ((first | omega | (simp <;> omega)); done))) | ((with_reducible refine bl_set ?_ _ ?_); (focus ((first | omega | (simp <;> omega)); done))) | (with_reducible refine below_drewN ?_ _) | (with_reducible refine Below.drew ?_)))).mono ?_); rintro e w2 ⟨A2, n2, c2, rfl, hr2, hb⟩; have zz2 : w1.heap.size ≤ w2.heap.size := (by have := hb.size; ((try simp at this) <;> omega)); have b0 := keeps hb (p := ⟨w.heap.size, 0, none⟩) (v := .string s) (cell_alloc a0 _); have b1 := keeps hb (p := ⟨w.heap.size, 1, none⟩) (v := .int .i64 g) (cell_alloc a1 _); have b3 := keeps hb (p := ⟨w.heap.size, 3, none⟩) (v := .slice (some ⟨gb, 0, none⟩) 19 cb) (cell_alloc a3 _); have y0 := keeps hb (p := ⟨w1.heap.size, 0, none⟩) (v := .string ⟨#[]⟩) (by simp [go_sem]); have y1 := keeps hb (p := ⟨w1.heap.size, 1, none⟩) (v := .int .i64 0) (by simp [go_sem]); have y2 := keeps hb (p := ⟨w1.heap.size, 2, none⟩) (v := .slice none 0 0) (by simp [go_sem]); have y3 := keeps hb (p := ⟨w1.heap.size, 3, none⟩) (v := .slice none 0 0) (by simp [go_sem]); have yf : ∀ j : Nat, w2.frozen? ⟨w1.heap.size, j, none⟩ = false := fun j => (hb.frozen (p := ⟨w1.heap.size, j, none⟩) (by simp)).trans (by simp [go_sem]))))
  · have hbb : Below w1.heap.size w1 w2 := ⟨hb.os, hb.tape, hb.output, hb.size, hb.block⟩
    have SO := Lib.hid (show SInv (w2.alloc (.cells #[.string s, .int .i64 g, .slice none 0 0, .slice A2 n2 c2] 47)) w2.heap.size [.string s, .int .i64 g, .slice none 0 0, .slice A2 n2 c2] from SInv.fresh _ _ _)
    have rv0 : Row 2 w2 w1.heap.size (.slice A2 n2 c2) ys := hr2
    have RV := Lib.hid ((Row.base_le (b' := w.heap.size + 2) rv0 (by omega)).alloc_ (.cells #[.string s, .int .i64 g, .slice none 0 0, .slice A2 n2 c2] 47))
    have NV : Hid ((Value.slice A2 n2 c2).ownBlock ≠ some w2.heap.size) := fun q => by have := (rv0.lt _ q).2; omega
    have SB := Lib.hid ((SA.out.later hbb).alloc_ (.cells #[.string s, .int .i64 g, .slice none 0 0, .slice A2 n2 c2] 47))
    have SY := Lib.hid ((SZ.out.later hbb).alloc_ (.cells #[.string s, .int .i64 g, .slice none 0 0, .slice A2 n2 c2] 47))
    have HBO := Lib.hid (show Below w.heap.size w (w2.alloc (.cells #[.string s, .int .i64 g, .slice none 0 0, .slice A2 n2 c2] 47)) from bl_alloc (by omega) _ (H1.out.trans (hbb.mono H1.out.size)))
    have zO2 : w.heap.size + 2 ≤ w2.heap.size := by omega
    clear rv0 hbb hr2 hb b0 b1 b3 a0 a1 a2 a3
    obtain ⟨O, hO⟩ : ∃ O, O = w2.heap.size := ⟨_, rfl⟩
    obtain ⟨WO, hWO⟩ : ∃ WO, WO = w2.alloc (.cells #[.string s, .int .i64 g, .slice none 0 0, .slice A2 n2 c2] 47) := ⟨_, rfl⟩
    rw [← hWO] at SO RV SB SY HBO ⊢
    rw [← hO] at SO NV zO2 ⊢
    clear hO hWO
    go_wp2_with fail
    go_loopw [18] (fun i wr => ∃ (k : Nat) (t : Value), k ≤ 36 ∧ i = .int .i64 (k : Int) ∧ Hid (SInv wr O [.string s, .int .i64 g, t, .slice A2 n2 c2]) ∧ Hid (Row 2 wr (w.heap.size + 2) t ((mirX xs).take k)) ∧ Hid (t.ownBlock ≠ some O) ∧ Hid (Apart t (.slice A2 n2 c2)) ∧ Hid (Row 2 wr (w.heap.size + 2) (.slice A2 n2 c2) ys) ∧ Hid (SInv wr w.heap.size [.string s, .int .i64 g, .slice (some ⟨ga, 0, none⟩) 36 ca, .slice (some ⟨gb, 0, none⟩) 19 cb]) ∧ Hid (SInv wr (w.heap.size + 1) [.string ⟨#[]⟩, .int .i64 0, .slice none 0 0, .slice none 0 0]) ∧ Hid (Below w.heap.size w wr)) (fun i _ => 37 - (intOf i).toNat)
    case atStart => exact ⟨0, .slice none 0 0, Nat.zero_le _, rfl, SO, Row.nil_, (by simp [Value.ownBlock, Hid]), apart_nil, RV, SB, SY, HBO⟩
    case round =>
      obtain ⟨k, t, hk, rfl, hs, hr, hne, hap, hrv, hsa, hsz, hbw⟩ := hrel
      have k0 : (0 : Int) ≤ (k : Int) := Int.natCast_nonneg _
      have zO : O < wr.heap.size := hs.out.lt
      by_cases hlt : k < 36
      · have hlt' : (k : Int) < 36 := by omega
        have y2 := hs.out.cell 2 _ rfl
        have b2 := hsa.out.cell 2 _ rfl
        have yA : ∀ (n : Nat) (o : Obj), ((wr.drewN n).alloc o).cell? ⟨O, 2, none⟩ = some t := fun n o => cell_alloc (w := wr.drewN n) y2 o
        have yB : ∀ o : Obj, (wr.alloc o).cell? ⟨O, 2, none⟩ = some t := fun o => cell_alloc y2 o
        have hlen : ((mirX xs).take k).length = k := by rw [List.length_take, mirX_len]; omega
        have hst := Lib.hid (show (mirX xs).take (k + 1) = (mirX xs).take k ++ [xs.getD ((36 - k) % 36) 0] by rw [take_next (by rw [mirX_len]; exact hlt), mirX_at xs hlt])
        obtain ⟨zs, hy⟩ : ∃ zs, zs = (mirX xs).take k := ⟨_, rfl⟩
        rw [← hy] at hr hlen hst
        obtain ⟨m, hm⟩ : ∃ m, m = (36 - k) % 36 := ⟨_, rfl⟩
        rw [← hm] at hst
        have m1 : m < 36 := by omega
        have m2 : (0 : Int) ≤ (m : Int) := Int.natCast_nonneg _
        have m3 : (m : Int) < 36 := by omega
        have m4 : (36 - (k : Int)) % 36 = (m : Int) := by omega
        have m5 : Int.tmod (36 - (k : Int)) 36 = (m : Int) := by rw [Int.tmod_eq_emod_of_nonneg (by omega)]; exact m4
        have cx := (hbw.out.cell (p := ⟨ga, m, none⟩) l1).trans (HK1.out m m1)
        obtain ⟨K, hK⟩ : ∃ K, K = xs.getD m 0 := ⟨_, rfl⟩
        rw [← hK] at hst cx
        clear hy hm hK
        have i1 : IntKind.i64.wrap (36 - (k : Int)) = 36 - (k : Int) := by rw [IntKind.wrap_i64]; omega
        go_wp2_with fail
        go_region_law (first | (refine step_append_lies _ (by rfl) _ _ _ (by rfl) (w.heap.size + 2) 2 i0 (.int .i64 0) 1 8 Try.underlying34 HI.out HZ0.out HZ1.out HZ2.out rfl (by omega) t k (zs.map (Value.int .i64)) (by rfl) (rowOwns hlen (hr.out.alloc_ (.cells #[.int .i64 K] 2))) ⟨wr.heap.size, 0, none⟩ 1 1 [.int .i64 K] (by rfl) (by rfl) (World.news_of_block (cs := #[.int .i64 K]) (t := 2) (fr := (0, 0)) (heap_alloc_new wr _)) (by simp [Value.oneCell']) (by omega) (by unfold maxLen; omega) (by omega) (by simp <;> omega) (wr.heap.size + 1) (by simp) ?_; intro g3 cap3 w3 hown hgrow hat hlt3; have q2 := (hgrow.cell_far ⟨O, 2, none⟩ (by simp <;> omega) (fun q => hne.out q.symm)).trans (cell_alloc y2 (.cells #[.int .i64 K] 2)); have qf := (hgrow.frozen_far ⟨O, 2, none⟩ (by simp <;> omega) (fun q => hne.out q.symm)).trans ((hs.out.alloc_ (.cells #[.int .i64 K] 2)).free 2)) | fail)
        all_goals
          obtain ⟨p1, p2, p3, p4, p5⟩ := push_row 2 (by simp) hs.out hr.out hne.out (by repeat (first | (with_reducible exact Below.refl _ _) | (with_reducible assumption) | ((with_reducible refine bl_alloc ?_ _ ?_); (focus ((first | omega | (simp <;> omega)); done))) | ((with_reducible refine bl_set ?_ _ ?_); (focus ((first | omega | (simp <;> omega)); done))) | (with_reducible refine below_drewN ?_ _) | (with_reducible refine Below.drew ?_))) hgrow hat (by omega) hlen hown
          have P1 := Lib.hid p1
          rw [← hst.out] at p2
          have P2 := Lib.hid p2
          have P3 := Lib.hid p3
          have PV := Lib.hid (hrv.out.writes p4 (fun b h q => by rcases q with q | q; exact hap.out _ q h; exact NV.out (by rw [h, q])))
          have PA := Lib.hid (p5 (.slice A2 n2 c2) (fun b h => (hrv.out.lt b h).2) hap.out)
          have PS := Lib.hid (hsa.out.writes p4 (fun q => by rcases q with q | q; (have := (hr.out.lt _ q).1; omega); omega))
          have PZ := Lib.hid (hsz.out.writes p4 (fun q => by rcases q with q | q; (have := (hr.out.lt _ q).1; omega); omega))
          have PB := Lib.hid (show Below w.heap.size w _ from hbw.out.trans (p4.below hbw.out.size (fun b q => by rcases q with q | q; (have := (hr.out.lt _ q).1; omega); omega)))
          clear yA yB y2 hown hgrow p1 p2 p3 p4 p5 q2 qf hat
          go_wp2
          go_roundw
          case rel => exact ⟨k + 1, .slice (some ⟨g3, 0, none⟩) (k + 1) cap3, by omega, by go_num, P1, P2, P3, PA, PV, PS, PZ, PB⟩
          case measure => simp [intOf]; omega
      · have hge : 36 ≤ k := by omega
        have hgI : (36 : Int) ≤ (k : Int) := by omega
        have hrH : Hid (Row 2 wr (w.heap.size + 2) t (mirX xs)) := by
          have h := hr.out
          rw [List.take_of_length_le (by rw [mirX_len]; exact hge)] at h
          exact h
        clear hr
        have fH : ∃ A n c, t = .slice A n c := by rcases hrH.out.forms with ⟨h, _⟩ | ⟨_, _, h, _⟩ <;> exact ⟨_, _, _, h⟩
        obtain ⟨A0, n0, c0, rfl⟩ := fH
        have y0 := hs.out.cell 0 _ rfl
        have y1 := hs.out.cell 1 _ rfl
        have y2 := hs.out.cell 2 _ rfl
        have y3 := hs.out.cell 3 _ rfl
        have z0 := hsz.out.cell 0 _ rfl
        have z1 := hsz.out.cell 1 _ rfl
        have z2 := hsz.out.cell 2 _ rfl
        have z3 := hsz.out.cell 3 _ rfl
        have zf := hsz.out.free
        have hbI := hbw.out.size
        have zR : w.heap.size + 1 < wr.heap.size := hsz.out.lt
        go_wp2_with fail
        refine bodyPost_ret (v := .tuple #[.agg #[.string s, .int .i64 g, .slice A0 n0 c0, .slice A2 n2 c2], .int .i64 0]) (by simp [results, Try.results28, go_sem, *]) rfl ?_
        refine ⟨_, _, _, _, _, _, rfl, ?_, ?_, hap.out, by repeat (first | (with_reducible exact Below.refl _ _) | (with_reducible assumption) | ((with_reducible refine bl_alloc ?_ _ ?_); (focus ((first | omega | (simp <;> omega)); done))) | ((with_reducible refine bl_set ?_ _ ?_); (focus ((first | omega | (simp <;> omega)); done))) | (with_reducible refine below_drewN ?_ _) | (with_reducible refine Below.drew ?_) | ((with_reducible refine bl_trans ?_ hbw.out ?_); (focus ((first | omega | (simp <;> omega)); done))))⟩
        · refine Row.base_le (base := w.heap.size + 2) ?_ (by omega)
          repeat (first | (with_reducible exact hrH.out) | ((with_reducible refine Row.low ?_ _ ?_); (focus ((first | omega | (simp <;> omega)); done))))
        · refine Row.base_le (base := w.heap.size + 2) ?_ (by omega)
          repeat (first | (with_reducible exact hrv.out) | ((with_reducible refine Row.low ?_ _ ?_); (focus ((first | omega | (simp <;> omega)); done))))
  · have hbz : Below (w1.alloc (.cells #[.string ⟨#[]⟩, .int .i64 0, .slice none 0 0, .slice none 0 0] 47)).heap.size (w1.alloc (.cells #[.string ⟨#[]⟩, .int .i64 0, .slice none 0 0, .slice none 0 0] 47)) w2 := ⟨hb.os, hb.tape, hb.output, hb.size, hb.block⟩
    have hbb : Below w1.heap.size w1 w2 := ((Below.refl _ _).alloc (Nat.le_refl _) _).trans (hbz.mono (by simp))
    have SO := Lib.hid (show SInv ((((w2.setCell ⟨w1.heap.size, 0, none⟩ (.string s)).setCell ⟨w1.heap.size, 1, none⟩ (.int .i64 g)).setCell ⟨w1.heap.size, 2, none⟩ (.slice none 0 0)).setCell ⟨w1.heap.size, 3, none⟩ (.slice A2 n2 c2)) w1.heap.size [.string s, .int .i64 g, .slice none 0 0, .slice A2 n2 c2] from (((((SInv.fresh w1 #[.string ⟨#[]⟩, .int .i64 0, .slice none 0 0, .slice none 0 0] 47).later hbz).set 0 (by simp) (.string s)).set 1 (by simp) (.int .i64 g)).set 2 (by simp) (.slice none 0 0)).set 3 (by simp) (.slice A2 n2 c2))
    have rv0 : Row 2 w2 (w1.heap.size + 1) (.slice A2 n2 c2) ys := by have h := hr2; simpa using h
    have NV : Hid ((Value.slice A2 n2 c2).ownBlock ≠ some w1.heap.size) := fun q => by have := (rv0.lt _ q).1; omega
    have RV := Lib.hid (show Row 2 ((((w2.setCell ⟨w1.heap.size, 0, none⟩ (.string s)).setCell ⟨w1.heap.size, 1, none⟩ (.int .i64 g)).setCell ⟨w1.heap.size, 2, none⟩ (.slice none 0 0)).setCell ⟨w1.heap.size, 3, none⟩ (.slice A2 n2 c2)) (w.heap.size + 2) (.slice A2 n2 c2) ys from ((((Row.base_le (b' := w.heap.size + 2) rv0 (by omega)).other (p := ⟨w1.heap.size, 0, none⟩) NV.out _).other (p := ⟨w1.heap.size, 1, none⟩) NV.out _).other (p := ⟨w1.heap.size, 2, none⟩) NV.out _).other (p := ⟨w1.heap.size, 3, none⟩) NV.out _)
    have zN0 : w1.heap.size ≠ w.heap.size := by omega
    have zN1 : w1.heap.size ≠ w.heap.size + 1 := by omega
    have SB := Lib.hid (show SInv ((((w2.setCell ⟨w1.heap.size, 0, none⟩ (.string s)).setCell ⟨w1.heap.size, 1, none⟩ (.int .i64 g)).setCell ⟨w1.heap.size, 2, none⟩ (.slice none 0 0)).setCell ⟨w1.heap.size, 3, none⟩ (.slice A2 n2 c2)) w.heap.size _ from ((((SA.out.later hbb).other (p := ⟨w1.heap.size, 0, none⟩) zN0 _).other (p := ⟨w1.heap.size, 1, none⟩) zN0 _).other (p := ⟨w1.heap.size, 2, none⟩) zN0 _).other (p := ⟨w1.heap.size, 3, none⟩) zN0 _)
    have SY := Lib.hid (show SInv ((((w2.setCell ⟨w1.heap.size, 0, none⟩ (.string s)).setCell ⟨w1.heap.size, 1, none⟩ (.int .i64 g)).setCell ⟨w1.heap.size, 2, none⟩ (.slice none 0 0)).setCell ⟨w1.heap.size, 3, none⟩ (.slice A2 n2 c2)) (w.heap.size + 1) _ from ((((SZ.out.later hbb).other (p := ⟨w1.heap.size, 0, none⟩) zN1 _).other (p := ⟨w1.heap.size, 1, none⟩) zN1 _).other (p := ⟨w1.heap.size, 2, none⟩) zN1 _).other (p := ⟨w1.heap.size, 3, none⟩) zN1 _)
    have HB2 := H1.out.trans (hbb.mono H1.out.size)
    have HBO := Lib.hid (show Below w.heap.size w ((((w2.setCell ⟨w1.heap.size, 0, none⟩ (.string s)).setCell ⟨w1.heap.size, 1, none⟩ (.int .i64 g)).setCell ⟨w1.heap.size, 2, none⟩ (.slice none 0 0)).setCell ⟨w1.heap.size, 3, none⟩ (.slice A2 n2 c2)) from bl_set (show w.heap.size ≤ w1.heap.size by omega) _ (bl_set (show w.heap.size ≤ w1.heap.size by omega) _ (bl_set (show w.heap.size ≤ w1.heap.size by omega) _ (bl_set (show w.heap.size ≤ w1.heap.size by omega) _ HB2))))
    have zO2 : w.heap.size + 2 ≤ w1.heap.size := by omega
    clear rv0 hbb hbz hr2 hb b0 b1 b3 a0 a1 a2 a3 y0 y1 y2 y3 yf HB2 zN0 zN1
    obtain ⟨WO, hWO⟩ : ∃ WO, WO = ((((w2.setCell ⟨w1.heap.size, 0, none⟩ (.string s)).setCell ⟨w1.heap.size, 1, none⟩ (.int .i64 g)).setCell ⟨w1.heap.size, 2, none⟩ (.slice none 0 0)).setCell ⟨w1.heap.size, 3, none⟩ (.slice A2 n2 c2)) := ⟨_, rfl⟩
    rw [← hWO] at SO RV SB SY HBO ⊢
    obtain ⟨O, hO⟩ : ∃ O, O = w1.heap.size := ⟨_, rfl⟩
    rw [← hO] at SO NV zO2 ⊢
    clear hO hWO
    go_wp2_with fail
    go_loopw [18] (fun i wr => ∃ (k : Nat) (t : Value), k ≤ 36 ∧ i = .int .i64 (k : Int) ∧ Hid (SInv wr O [.string s, .int .i64 g, t, .slice A2 n2 c2]) ∧ Hid (Row 2 wr (w.heap.size + 2) t ((mirX xs).take k)) ∧ Hid (t.ownBlock ≠ some O) ∧ Hid (Apart t (.slice A2 n2 c2)) ∧ Hid (Row 2 wr (w.heap.size + 2) (.slice A2 n2 c2) ys) ∧ Hid (SInv wr w.heap.size [.string s, .int .i64 g, .slice (some ⟨ga, 0, none⟩) 36 ca, .slice (some ⟨gb, 0, none⟩) 19 cb]) ∧ Hid (SInv wr (w.heap.size + 1) [.string ⟨#[]⟩, .int .i64 0, .slice none 0 0, .slice none 0 0]) ∧ Hid (Below w.heap.size w wr)) (fun i _ => 37 - (intOf i).toNat)
    case atStart => exact ⟨0, .slice none 0 0, Nat.zero_le _, rfl, SO, Row.nil_, (by simp [Value.ownBlock, Hid]), apart_nil, RV, SB, SY, HBO⟩
    case round =>
      obtain ⟨k, t, hk, rfl, hs, hr, hne, hap, hrv, hsa, hsz, hbw⟩ := hrel
      have k0 : (0 : Int) ≤ (k : Int) := Int.natCast_nonneg _
      have zO : O < wr.heap.size := hs.out.lt
      by_cases hlt : k < 36
      · have hlt' : (k : Int) < 36 := by omega
        have y2 := hs.out.cell 2 _ rfl
        have b2 := hsa.out.cell 2 _ rfl
        have yA : ∀ (n : Nat) (o : Obj), ((wr.drewN n).alloc o).cell? ⟨O, 2, none⟩ = some t := fun n o => cell_alloc (w := wr.drewN n) y2 o
        have yB : ∀ o : Obj, (wr.alloc o).cell? ⟨O, 2, none⟩ = some t := fun o => cell_alloc y2 o
        have hlen : ((mirX xs).take k).length = k := by rw [List.length_take, mirX_len]; omega
        have hst := Lib.hid (show (mirX xs).take (k + 1) = (mirX xs).take k ++ [xs.getD ((36 - k) % 36) 0] by rw [take_next (by rw [mirX_len]; exact hlt), mirX_at xs hlt])
        obtain ⟨zs, hy⟩ : ∃ zs, zs = (mirX xs).take k := ⟨_, rfl⟩
        rw [← hy] at hr hlen hst
        obtain ⟨m, hm⟩ : ∃ m, m = (36 - k) % 36 := ⟨_, rfl⟩
        rw [← hm] at hst
        have m1 : m < 36 := by omega
        have m2 : (0 : Int) ≤ (m : Int) := Int.natCast_nonneg _
        have m3 : (m : Int) < 36 := by omega
        have m4 : (36 - (k : Int)) % 36 = (m : Int) := by omega
        have m5 : Int.tmod (36 - (k : Int)) 36 = (m : Int) := by rw [Int.tmod_eq_emod_of_nonneg (by omega)]; exact m4
        have cx := (hbw.out.cell (p := ⟨ga, m, none⟩) l1).trans (HK1.out m m1)
        obtain ⟨K, hK⟩ : ∃ K, K = xs.getD m 0 := ⟨_, rfl⟩
        rw [← hK] at hst cx
        clear hy hm hK
        have i1 : IntKind.i64.wrap (36 - (k : Int)) = 36 - (k : Int) := by rw [IntKind.wrap_i64]; omega
        go_wp2_with fail
        go_region_law (first | (refine step_append_lies _ (by rfl) _ _ _ (by rfl) (w.heap.size + 2) 2 i0 (.int .i64 0) 1 8 Try.underlying34 HI.out HZ0.out HZ1.out HZ2.out rfl (by omega) t k (zs.map (Value.int .i64)) (by rfl) (rowOwns hlen (hr.out.alloc_ (.cells #[.int .i64 K] 2))) ⟨wr.heap.size, 0, none⟩ 1 1 [.int .i64 K] (by rfl) (by rfl) (World.news_of_block (cs := #[.int .i64 K]) (t := 2) (fr := (0, 0)) (heap_alloc_new wr _)) (by simp [Value.oneCell']) (by omega) (by unfold maxLen; omega) (by omega) (by simp <;> omega) (wr.heap.size + 1) (by simp) ?_; intro g3 cap3 w3 hown hgrow hat hlt3; have q2 := (hgrow.cell_far ⟨O, 2, none⟩ (by simp <;> omega) (fun q => hne.out q.symm)).trans (cell_alloc y2 (.cells #[.int .i64 K] 2)); have qf := (hgrow.frozen_far ⟨O, 2, none⟩ (by simp <;> omega) (fun q => hne.out q.symm)).trans ((hs.out.alloc_ (.cells #[.int .i64 K] 2)).free 2)) | fail)
        all_goals
          obtain ⟨p1, p2, p3, p4, p5⟩ := push_row 2 (by simp) hs.out hr.out hne.out (by repeat (first | (with_reducible exact Below.refl _ _) | (with_reducible assumption) | ((with_reducible refine bl_alloc ?_ _ ?_); (focus ((first | omega | (simp <;> omega)); done))) | ((with_reducible refine bl_set ?_ _ ?_); (focus ((first | omega | (simp <;> omega)); done))) | (with_reducible refine below_drewN ?_ _) | (with_reducible refine Below.drew ?_))) hgrow hat (by omega) hlen hown
          have P1 := Lib.hid p1
          rw [← hst.out] at p2
          have P2 := Lib.hid p2
          have P3 := Lib.hid p3
          have PV := Lib.hid (hrv.out.writes p4 (fun b h q => by rcases q with q | q; exact hap.out _ q h; exact NV.out (by rw [h, q])))
          have PA := Lib.hid (p5 (.slice A2 n2 c2) (fun b h => (hrv.out.lt b h).2) hap.out)
          have PS := Lib.hid (hsa.out.writes p4 (fun q => by rcases q with q | q; (have := (hr.out.lt _ q).1; omega); omega))
          have PZ := Lib.hid (hsz.out.writes p4 (fun q => by rcases q with q | q; (have := (hr.out.lt _ q).1; omega); omega))
          have PB := Lib.hid (show Below w.heap.size w _ from hbw.out.trans (p4.below hbw.out.size (fun b q => by rcases q with q | q; (have := (hr.out.lt _ q).1; omega); omega)))
          clear yA yB y2 hown hgrow p1 p2 p3 p4 p5 q2 qf hat
          go_wp2
          go_roundw
          case rel => exact ⟨k + 1, .slice (some ⟨g3, 0, none⟩) (k + 1) cap3, by omega, by go_num, P1, P2, P3, PA, PV, PS, PZ, PB⟩
          case measure => simp [intOf]; omega
      · have hge : 36 ≤ k := by omega
        have hgI : (36 : Int) ≤ (k : Int) := by omega
        have hrH : Hid (Row 2 wr (w.heap.size + 2) t (mirX xs)) := by
          have h := hr.out
          rw [List.take_of_length_le (by rw [mirX_len]; exact hge)] at h
          exact h
        clear hr
        have fH : ∃ A n c, t = .slice A n c := by rcases hrH.out.forms with ⟨h, _⟩ | ⟨_, _, h, _⟩ <;> exact ⟨_, _, _, h⟩
        obtain ⟨A0, n0, c0, rfl⟩ := fH
        have y0 := hs.out.cell 0 _ rfl
        have y1 := hs.out.cell 1 _ rfl
        have y2 := hs.out.cell 2 _ rfl
        have y3 := hs.out.cell 3 _ rfl
        have z0 := hsz.out.cell 0 _ rfl
        have z1 := hsz.out.cell 1 _ rfl
        have z2 := hsz.out.cell 2 _ rfl
        have z3 := hsz.out.cell 3 _ rfl
        have zf := hsz.out.free
        have hbI := hbw.out.size
        have zR : w.heap.size + 1 < wr.heap.size := hsz.out.lt
        go_wp2_with fail
        refine bodyPost_ret (v := .tuple #[.agg #[.string s, .int .i64 g, .slice A0 n0 c0, .slice A2 n2 c2], .int .i64 0]) (by simp [results, Try.results28, go_sem, *]) rfl ?_
        refine ⟨_, _, _, _, _, _, rfl, ?_, ?_, hap.out, by repeat (first | (with_reducible exact Below.refl _ _) | (with_reducible assumption) | ((with_reducible refine bl_alloc ?_ _ ?_); (focus ((first | omega | (simp <;> omega)); done))) | ((with_reducible refine bl_set ?_ _ ?_); (focus ((first | omega | (simp <;> omega)); done))) | (with_reducible refine below_drewN ?_ _) | (with_reducible refine Below.drew ?_) | ((with_reducible refine bl_trans ?_ hbw.out ?_); (focus ((first | omega | (simp <;> omega)); done))))⟩
        · refine Row.base_le (base := w.heap.size + 2) ?_ (by omega)
          repeat (first | (with_reducible exact hrH.out) | ((with_reducible refine Row.low ?_ _ ?_); (focus ((first | omega | (simp <;> omega)); done))))
        · refine Row.base_le (base := w.heap.size + 2) ?_ (by omega)
          repeat (first | (with_reducible exact hrv.out) | ((with_reducible refine Row.low ?_ _ ?_); (focus ((first | omega | (simp <;> omega)); done))))
set_option maxRecDepth 20000 in
set_option maxHeartbeats 4000000 in
theorem spec_any (w : World) (s : ByteArray) (is : s.size ≤ maxLen) (g : Int) (ig : In64 g) (a : Value) (xs : List Int) (p : Nat) (ha : Row 2 w p a xs) (ixs : ∀ n ∈ xs, In64 n) (b : Value) (ys : List Int) (q : Nat) (hb : Row 2 w q b ys) (iys : ∀ n ∈ ys, In64 n) :
    Calls Try.prog 27 #[.agg #[.string s, .int .i64 g, a, b]] w fun e w' => ∃ A0 n0 c0 A1 n1 c1, e = .returned (.tuple #[.agg #[.string (mirN s g xs ys), .int .i64 (mirG s g xs ys), .slice A0 n0 c0, .slice A1 n1 c1], .int .i64 (mirC s g xs ys)]) ∧ Row 2 w' w.heap.size (.slice A0 n0 c0) (mirH s g xs ys) ∧ Row 2 w' w.heap.size (.slice A1 n1 c1) (mirV s g xs ys) ∧ Apart (.slice A0 n0 c0) (.slice A1 n1 c1) ∧ Below w.heap.size w w' := by
  have IS := Lib.hid is
  have HA := Lib.hid ha
  have HBB := Lib.hid hb
  clear is ixs iys
  rcases bool_two (antB s g xs ys) with hv | hv
  rotate_left
  · obtain ⟨e1, e2, e3, e4, e5⟩ := mir_no hv
    rw [e1, e2, e3, e4, e5]
    have HE := Lib.hid hv
    clear hv e1 e2 e3 e4 e5
    go_enter Try.func27, Try.ntmps27
    go_wp2_with fail
    refine (l06Ok_any _ w.heap.size s IS.out g _ xs p ((HA.out.alloc_ _).alloc_ _) _ ys q ((HBB.out.alloc_ _).alloc_ _) (by simp [go_sem]) (by simp [go_sem]) (by simp [go_sem]) (by simp [go_sem])).mono ?_
    rintro e w1 ⟨he, hb1⟩
    obtain ⟨kd, hkd⟩ := hb1
    have hb1 : Below ((w.alloc (.cells #[.string s, .int .i64 g, a, b] 47)).alloc (.cells #[.string ⟨#[]⟩, .int .i64 0, .slice none 0 0, .slice none 0 0] 47)).heap.size ((w.alloc (.cells #[.string s, .int .i64 g, a, b] 47)).alloc (.cells #[.string ⟨#[]⟩, .int .i64 0, .slice none 0 0, .slice none 0 0] 47)) w1 := by rw [hkd]; exact below_drewN (Below.refl _ _) _
    clear hkd
    rw [HE.out] at he
    subst he
    have H1 := Lib.hid (show Below w.heap.size w w1 by repeat (first | (with_reducible exact Below.refl _ _) | (with_reducible assumption) | ((with_reducible refine bl_alloc ?_ _ ?_); (focus ((first | omega | (simp <;> omega)); done))) | ((with_reducible refine bl_set ?_ _ ?_); (focus ((first | omega | (simp <;> omega)); done))) | (with_reducible refine below_drewN ?_ _) | (with_reducible refine Below.drew ?_) | ((with_reducible refine bl_trans ?_ hb1 ?_); (focus ((first | omega | (simp <;> omega)); done)))))
    have SA := Lib.hid (show SInv w1 w.heap.size [.string s, .int .i64 g, a, b] from ((SInv.fresh w #[.string s, .int .i64 g, a, b] 47).alloc_ (.cells #[.string ⟨#[]⟩, .int .i64 0, .slice none 0 0, .slice none 0 0] 47)).later hb1)
    have SZ := Lib.hid (show SInv w1 (w.heap.size + 1) [.string ⟨#[]⟩, .int .i64 0, .slice none 0 0, .slice none 0 0] from by have h := (SInv.fresh (w.alloc (.cells #[.string s, .int .i64 g, a, b] 47)) #[.string ⟨#[]⟩, .int .i64 0, .slice none 0 0, .slice none 0 0] 47).later hb1; simpa using h)
    have HA1 := Lib.hid (((HA.out.alloc_ (.cells #[.string s, .int .i64 g, a, b] 47)).alloc_ (.cells #[.string ⟨#[]⟩, .int .i64 0, .slice none 0 0, .slice none 0 0] 47)).later hb1)
    have HB1 := Lib.hid (((HBB.out.alloc_ (.cells #[.string s, .int .i64 g, a, b] 47)).alloc_ (.cells #[.string ⟨#[]⟩, .int .i64 0, .slice none 0 0, .slice none 0 0] 47)).later hb1)
    have zz1 : w.heap.size + 1 < w1.heap.size := by have := hb1.size; simp at this; omega
    clear hb1
    have z0 := SZ.out.cell 0 _ rfl
    have z1 := SZ.out.cell 1 _ rfl
    have z2 := SZ.out.cell 2 _ rfl
    have z3 := SZ.out.cell 3 _ rfl
    have zf := SZ.out.free
    go_wp2_with fail
    refine bodyPost_ret (v := .tuple #[.agg #[.string ⟨#[]⟩, .int .i64 0, .slice none 0 0, .slice none 0 0], .int .i64 1]) (by simp [results, Try.results27, go_sem, *]) rfl ?_
    exact ⟨_, _, _, _, _, _, rfl, Row.nil_, Row.nil_, apart_nil, by repeat (first | (with_reducible exact Below.refl _ _) | (with_reducible assumption) | ((with_reducible refine bl_alloc ?_ _ ?_); (focus ((first | omega | (simp <;> omega)); done))) | ((with_reducible refine bl_set ?_ _ ?_); (focus ((first | omega | (simp <;> omega)); done))) | (with_reducible refine below_drewN ?_ _) | (with_reducible refine Below.drew ?_) | ((with_reducible refine bl_trans ?_ H1.out ?_); (focus ((first | omega | (simp <;> omega)); done))))⟩
  obtain ⟨e1, e2, e3, e4, e5⟩ := mir_yes hv
  rw [e1, e2, e3, e4, e5]
  clear e1 e2 e3 e4 e5
  obtain ⟨ga, ca, gb, cb, rfl, rfl, n1, n2, r1, r2, l1, l2, k1, k2⟩ := ant_open hv HA.out HBB.out
  have HE := Lib.hid hv
  have HK1 := Lib.hid k1
  have HN1 := Lib.hid n1
  have HN2 := Lib.hid n2
  clear hv k1 k2 r1 r2 n1 n2
  obtain ⟨i0, hi, hz0, hz1, hz2⟩ := info_parts Try.info_i64
  have HI := Lib.hid hi
  have HZ0 := Lib.hid hz0
  have HZ1 := Lib.hid hz1
  have HZ2 := Lib.hid hz2
  clear hi hz0 hz1 hz2
  go_enter Try.func27, Try.ntmps27
  go_wp2_with fail
  refine (l06Ok_any _ w.heap.size s IS.out g _ xs p ((HA.out.alloc_ _).alloc_ _) _ ys q ((HBB.out.alloc_ _).alloc_ _) (by simp [go_sem]) (by simp [go_sem]) (by simp [go_sem]) (by simp [go_sem])).mono ?_
  rintro e w1 ⟨he, hb1⟩
  obtain ⟨kd, hkd⟩ := hb1
  have hb1 : Below ((w.alloc (.cells #[.string s, .int .i64 g, .slice (some ⟨ga, 0, none⟩) 36 ca, .slice (some ⟨gb, 0, none⟩) 19 cb] 47)).alloc (.cells #[.string ⟨#[]⟩, .int .i64 0, .slice none 0 0, .slice none 0 0] 47)).heap.size ((w.alloc (.cells #[.string s, .int .i64 g, .slice (some ⟨ga, 0, none⟩) 36 ca, .slice (some ⟨gb, 0, none⟩) 19 cb] 47)).alloc (.cells #[.string ⟨#[]⟩, .int .i64 0, .slice none 0 0, .slice none 0 0] 47)) w1 := by rw [hkd]; exact below_drewN (Below.refl _ _) _
  clear hkd
  rw [HE.out] at he
  subst he
  have H1 := Lib.hid (show Below w.heap.size w w1 by repeat (first | (with_reducible exact Below.refl _ _) | (with_reducible assumption) | ((with_reducible refine bl_alloc ?_ _ ?_); (focus ((first | omega | (simp <;> omega)); done))) | ((with_reducible refine bl_set ?_ _ ?_); (focus ((first | omega | (simp <;> omega)); done))) | (with_reducible refine below_drewN ?_ _) | (with_reducible refine Below.drew ?_) | ((with_reducible refine bl_trans ?_ hb1 ?_); (focus ((first | omega | (simp <;> omega)); done)))))
  have SA := Lib.hid (show SInv w1 w.heap.size [.string s, .int .i64 g, .slice (some ⟨ga, 0, none⟩) 36 ca, .slice (some ⟨gb, 0, none⟩) 19 cb] from ((SInv.fresh w #[.string s, .int .i64 g, .slice (some ⟨ga, 0, none⟩) 36 ca, .slice (some ⟨gb, 0, none⟩) 19 cb] 47).alloc_ (.cells #[.string ⟨#[]⟩, .int .i64 0, .slice none 0 0, .slice none 0 0] 47)).later hb1)
  have SZ := Lib.hid (show SInv w1 (w.heap.size + 1) [.string ⟨#[]⟩, .int .i64 0, .slice none 0 0, .slice none 0 0] from by have h := (SInv.fresh (w.alloc (.cells #[.string s, .int .i64 g, .slice (some ⟨ga, 0, none⟩) 36 ca, .slice (some ⟨gb, 0, none⟩) 19 cb] 47)) #[.string ⟨#[]⟩, .int .i64 0, .slice none 0 0, .slice none 0 0] 47).later hb1; simpa using h)
  have HA1 := Lib.hid (((HA.out.alloc_ (.cells #[.string s, .int .i64 g, .slice (some ⟨ga, 0, none⟩) 36 ca, .slice (some ⟨gb, 0, none⟩) 19 cb] 47)).alloc_ (.cells #[.string ⟨#[]⟩, .int .i64 0, .slice none 0 0, .slice none 0 0] 47)).later hb1)
  have HB1 := Lib.hid (((HBB.out.alloc_ (.cells #[.string s, .int .i64 g, .slice (some ⟨ga, 0, none⟩) 36 ca, .slice (some ⟨gb, 0, none⟩) 19 cb] 47)).alloc_ (.cells #[.string ⟨#[]⟩, .int .i64 0, .slice none 0 0, .slice none 0 0] 47)).later hb1)
  have zz1 : w.heap.size + 1 < w1.heap.size := by have := hb1.size; simp at this; omega
  clear hb1
  have a0 := SA.out.cell 0 _ rfl
  have a1 := SA.out.cell 1 _ rfl
  have a2 := SA.out.cell 2 _ rfl
  have a3 := SA.out.cell 3 _ rfl
  go_wp2_with fail
  refine (l06Own_any _ w.heap.size s g ga ca gb cb 36 19 xs ys p q HA1.out HB1.out a0 a1 a2 a3 (by rw [HN1.out]; omega) (by rw [HN1.out]; omega) (by rw [HN2.out]; omega) (by rw [HN2.out]; omega)).mono ?_
  rintro e w2 ⟨A0, n0, c0, A1, n1, c1, rfl, hr0, hr1, hap, hb⟩
  rcases hr0.forms with ⟨_, hz⟩ | ⟨h0, d0, hu, hb0, hl0, _, _⟩
  · rw [hz] at HN1; exact absurd HN1.out (by simp)
  rcases hr1.forms with ⟨_, hz⟩ | ⟨h1, d1, hu1, hb1, hl1, _, _⟩
  · rw [hz] at HN2; exact absurd HN2.out (by simp)
  rw [HN1.out] at hu
  rw [HN2.out] at hu1
  rw [hu] at hr0 hap
  rw [hu1] at hr1 hap
  have R0 := Lib.hid (Row.base_le (b' := w.heap.size + 2) hr0 (by omega))
  have R1 := Lib.hid (Row.base_le (b' := w.heap.size + 2) hr1 (by omega))
  have HAP := Lib.hid hap
  have HBB2 := Lib.hid hb
  have H2 := Lib.hid (show Below w.heap.size w w2 from H1.out.trans (hb.mono H1.out.size))
  have SB := Lib.hid (SA.out.later hb)
  have SY := Lib.hid (SZ.out.later hb)
  have zz2 : w1.heap.size ≤ w2.heap.size := hb.size
  rw [hu, hu1]
  clear hr0 hr1 hap hb hu hu1 a0 a1 a2 a3
  go_wp2_with fail
  have SO := Lib.hid (show SInv (w2.alloc (.cells #[.string s, .int .i64 g, .slice (some ⟨h0, 0, none⟩) 36 d0, .slice (some ⟨h1, 0, none⟩) 19 d1] 47)) w2.heap.size [.string s, .int .i64 g, .slice (some ⟨h0, 0, none⟩) 36 d0, .slice (some ⟨h1, 0, none⟩) 19 d1] from SInv.fresh _ _ _)
  go_loopw [5] (fun i wr => ∃ k : Nat, 1 ≤ k ∧ k ≤ 36 ∧ i = .int .i64 (k : Int) ∧ Hid (Row 2 wr (w.heap.size + 2) (.slice (some ⟨h0, 0, none⟩) 36 d0) ((mirX xs).take k ++ xs.drop k)) ∧ Hid (Row 2 wr (w.heap.size + 2) (.slice (some ⟨h1, 0, none⟩) 19 d1) ys) ∧ Hid (SInv wr w2.heap.size [.string s, .int .i64 g, .slice (some ⟨h0, 0, none⟩) 36 d0, .slice (some ⟨h1, 0, none⟩) 19 d1]) ∧ Hid (SInv wr w.heap.size [.string s, .int .i64 g, .slice (some ⟨ga, 0, none⟩) 36 ca, .slice (some ⟨gb, 0, none⟩) 19 cb]) ∧ Hid (SInv wr (w.heap.size + 1) [.string ⟨#[]⟩, .int .i64 0, .slice none 0 0, .slice none 0 0]) ∧ Hid (Below w.heap.size w wr)) (fun i _ => 37 - (intOf i).toNat)
  case atStart => exact ⟨1, Nat.le_refl _, by omega, rfl, (show Row _ _ _ _ _ by rw [mir_first xs HN1.out]; exact R0.out.alloc_ _), (show Row _ _ _ _ _ from R1.out.alloc_ _), SO, (show SInv _ _ _ from SB.out.alloc_ _), (show SInv _ _ _ from SY.out.alloc_ _), (show Below _ _ _ from bl_alloc (by omega) _ H2.out)⟩
  case round =>
    obtain ⟨k, hk1, hk, rfl, hr, hrv, hs, hsa, hsz, hbw⟩ := hrel
    have k0 : (0 : Int) ≤ (k : Int) := Int.natCast_nonneg _
    have zO : w2.heap.size < wr.heap.size := hs.out.lt
    by_cases hlt : k < 36
    · have hlt' : (k : Int) < 36 := by omega
      have hk1' : (1 : Int) ≤ (k : Int) := by omega
      have y2 := hs.out.cell 2 _ rfl
      have b2 := hsa.out.cell 2 _ rfl
      obtain ⟨m, hm⟩ : ∃ m, m = 36 - k := ⟨_, rfl⟩
      have m1 : m < 36 := by omega
      have m2 : (0 : Int) ≤ (m : Int) := Int.natCast_nonneg _
      have m3 : (m : Int) < 36 := by omega
      have m4 : 36 - (k : Int) = (m : Int) := by omega
      have cx := (hbw.out.cell (p := ⟨ga, m, none⟩) l1).trans (HK1.out m m1)
      have hxl : ((mirX xs).take k ++ xs.drop k).length = 36 := by rw [List.length_append, List.length_take, List.length_drop, mirX_len, HN1.out]; omega
      obtain ⟨hc, hf⟩ := hr.out.at_
      have ck := hc k (by rw [hxl]; exact hlt)
      have fk := hf k
      have hset : Hid (((mirX xs).take k ++ xs.drop k).set k (xs.getD m 0) = (mirX xs).take (k + 1) ++ xs.drop (k + 1)) := by
        have h := mix_set (xs := xs) (ys := mirX xs) (k := k) (by rw [mirX_len]; exact HN1.out) (by rw [mirX_len]; exact hlt)
        rw [mirX_at xs hlt, show (36 - k) % 36 = m by omega] at h
        exact h
      obtain ⟨hr2, hg2⟩ := hr.out.set_ hxl k (xs.getD m 0)
      rw [hset.out] at hr2
      have hW := Writes.of_grown hg2 (S := fun b => b = h0) (fun b q => by simpa using q.symm)
      have PR := Lib.hid hr2
      have nz0 : ¬ (w.heap.size = h0) := by omega
      have nz1 : ¬ (w.heap.size + 1 = h0) := by omega
      have nz2 : ¬ (w2.heap.size = h0) := by omega
      have PV := Lib.hid (hrv.out.writes hW (fun b h q => HAP.out h0 (by simp [Value.ownBlock]) (by rw [h, q])))
      have PS := Lib.hid (hs.out.writes hW nz2)
      have PA := Lib.hid (hsa.out.writes hW nz0)
      have PZ := Lib.hid (hsz.out.writes hW nz1)
      have PB := Lib.hid (show Below w.heap.size w _ from hbw.out.trans (hW.below hbw.out.size (fun b q => by omega)))
      obtain ⟨K, hK⟩ : ∃ K, K = xs.getD m 0 := ⟨_, rfl⟩
      rw [← hK] at cx PR PV PS PA PZ PB
      obtain ⟨old, hold⟩ : ∃ old, old = ((mirX xs).take k ++ xs.drop k).getD k 0 := ⟨_, rfl⟩
      rw [← hold] at ck
      have i1 : IntKind.i64.wrap (36 - (k : Int)) = (m : Int) := by rw [IntKind.wrap_i64]; omega
      clear hm m4 hc hf hr2 hg2 hW hK hold hset hr nz0 nz1 nz2 hxl
      go_wp2_with fail
      go_region_held3 (fun w' => w'.cell? ⟨w2.heap.size, 2, none⟩ = some (.slice (some ⟨h0, 0, none⟩) 36 d0) ∧ w'.cell? ⟨w.heap.size, 2, none⟩ = some (.slice (some ⟨ga, 0, none⟩) 36 ca) ∧ w'.cell? ⟨ga, m, none⟩ = some (.int .i64 K))
        (((try go_split_ands); (refine ⟨?_, ?_, ?_⟩ <;> (repeat (first | (with_reducible assumption) | (with_reducible refine cell_drew ?_) | ((with_reducible refine cell_set1 ?_ ?_); (focus (omega; done))))))))
        (fail)
      go_wp2
      go_roundw
      case rel => exact ⟨k + 1, by omega, by omega, by go_num, PR, PV, (show SInv _ _ _ from PS.out.draw 1), (show SInv _ _ _ from PA.out.draw 1), (show SInv _ _ _ from PZ.out.draw 1), (show Below _ _ _ from below_drewN1 PB.out)⟩
      case measure => simp [intOf]; omega
    · have hge : 36 ≤ k := by omega
      have hgI : (36 : Int) ≤ (k : Int) := by omega
      have hrH : Hid (Row 2 wr (w.heap.size + 2) (.slice (some ⟨h0, 0, none⟩) 36 d0) (mirX xs)) := by
        have h := hr.out
        rw [List.take_of_length_le (by rw [mirX_len]; exact hge), List.drop_eq_nil_of_le (by rw [HN1.out]; exact hge), List.append_nil] at h
        exact h
      clear hr
      have y0 := hs.out.cell 0 _ rfl
      have y1 := hs.out.cell 1 _ rfl
      have y2 := hs.out.cell 2 _ rfl
      have y3 := hs.out.cell 3 _ rfl
      have z0 := hsz.out.cell 0 _ rfl
      have z1 := hsz.out.cell 1 _ rfl
      have z2 := hsz.out.cell 2 _ rfl
      have z3 := hsz.out.cell 3 _ rfl
      have zf := hsz.out.free
      have zR : w.heap.size + 1 < wr.heap.size := hsz.out.lt
      go_wp2_with fail
      refine bodyPost_ret (v := .tuple #[.agg #[.string s, .int .i64 g, .slice (some ⟨h0, 0, none⟩) 36 d0, .slice (some ⟨h1, 0, none⟩) 19 d1], .int .i64 0]) (by simp [results, Try.results27, go_sem, *]) rfl ?_
      refine ⟨_, _, _, _, _, _, rfl, ?_, ?_, HAP.out, by repeat (first | (with_reducible exact Below.refl _ _) | (with_reducible assumption) | ((with_reducible refine bl_alloc ?_ _ ?_); (focus ((first | omega | (simp <;> omega)); done))) | ((with_reducible refine bl_set ?_ _ ?_); (focus ((first | omega | (simp <;> omega)); done))) | (with_reducible refine below_drewN ?_ _) | (with_reducible refine Below.drew ?_) | ((with_reducible refine bl_trans ?_ hbw.out ?_); (focus ((first | omega | (simp <;> omega)); done))))⟩
      · refine Row.base_le (base := w.heap.size + 2) ?_ (by omega)
        repeat (first | (with_reducible exact hrH.out) | ((with_reducible refine Row.low ?_ _ ?_); (focus ((first | omega | (simp <;> omega)); done))))
      · refine Row.base_le (base := w.heap.size + 2) ?_ (by omega)
        repeat (first | (with_reducible exact hrv.out) | ((with_reducible refine Row.low ?_ _ ?_); (focus ((first | omega | (simp <;> omega)); done))))
set_option maxRecDepth 20000 in
set_option maxHeartbeats 4000000 in
theorem walk (w : World) (s0_0 : ByteArray) (is0_0 : s0_0.size ≤ maxLen) (a0_1 : Int) (ia0_1 : In64 a0_1) (v0_2 : Value) (x0_2 : List Int) (r0_2 : Rd w w.heap.size v0_2 x0_2) (ix0_2 : ∀ n ∈ x0_2, In64 n) (v0_3 : Value) (x0_3 : List Int) (r0_3 : Rd w w.heap.size v0_3 x0_3) (ix0_3 : ∀ n ∈ x0_3, In64 n) :
    Calls Try.prog 6 #[.agg #[.string s0_0, .int .i64 a0_1, v0_2, v0_3]] w fun e w' => e = .returned (.bool true) ∧ Below w.heap.size w w' := by
  have hml := mir_len s0_0 a0_1 x0_2 x0_3
  by_cases hs0 : ¬ (s0_0.size : Int) + (x0_2.length : Int) + (x0_3.length : Int) ≤ 1048576
  · go_enter Try.func6, Try.ntmps6
    go_wp2_with fail
    refine (szAntenna_not s0_0 a0_1 _ x0_2 _ x0_3 _ w.heap.size (by first | omega | (simp <;> omega)) (Rd.below r0_2 (by repeat (first | (with_reducible exact Below.refl _ _) | (with_reducible assumption) | ((with_reducible refine bl_alloc ?_ _ ?_); (focus ((first | omega | (simp <;> omega)); done))) | ((with_reducible refine bl_set ?_ _ ?_); (focus ((first | omega | (simp <;> omega)); done))) | (with_reducible refine below_drewN ?_ _) | (with_reducible refine Below.drew ?_)))) (Rd.below r0_3 (by repeat (first | (with_reducible exact Below.refl _ _) | (with_reducible assumption) | ((with_reducible refine bl_alloc ?_ _ ?_); (focus ((first | omega | (simp <;> omega)); done))) | ((with_reducible refine bl_set ?_ _ ?_); (focus ((first | omega | (simp <;> omega)); done))) | (with_reducible refine below_drewN ?_ _) | (with_reducible refine Below.drew ?_)))) is0_0 _ (by omega) (by omega) (by omega)).mono ?_
    rintro e w1 ⟨rfl, hb⟩
    have zz1 : w.heap.size + 1 ≤ w1.heap.size := (by have := hb.size; ((try simp at this) <;> omega))
    have H1 := Lib.hid (show Below w.heap.size w w1 by repeat (first | (with_reducible exact Below.refl _ _) | (with_reducible assumption) | ((with_reducible refine bl_alloc ?_ _ ?_); (focus ((first | omega | (simp <;> omega)); done))) | ((with_reducible refine bl_set ?_ _ ?_); (focus ((first | omega | (simp <;> omega)); done))) | (with_reducible refine below_drewN ?_ _) | (with_reducible refine Below.drew ?_) | ((with_reducible refine bl_trans ?_ hb ?_); (focus ((first | omega | (simp <;> omega)); done)))))
    have f0_0_1 := keeps hb (p := ⟨w.heap.size, 0, none⟩) (v := .string s0_0) (by simp [go_sem])
    have f0_1_1 := keeps hb (p := ⟨w.heap.size, 1, none⟩) (v := .int .i64 a0_1) (by simp [go_sem])
    have f0_2_1 := keeps hb (p := ⟨w.heap.size, 2, none⟩) (v := v0_2) (by simp [go_sem])
    have f0_3_1 := keeps hb (p := ⟨w.heap.size, 3, none⟩) (v := v0_3) (by simp [go_sem])
    have g0_1 : w.heap.size < w1.heap.size := block_of_cell f0_0_1
    clear hb
    go_wp2_with fail
    go_ret
    exact ⟨rfl, (by repeat (first | (with_reducible exact Below.refl _ _) | (with_reducible assumption) | ((with_reducible refine bl_alloc ?_ _ ?_); (focus ((first | omega | (simp <;> omega)); done))) | ((with_reducible refine bl_set ?_ _ ?_); (focus ((first | omega | (simp <;> omega)); done))) | (with_reducible refine below_drewN ?_ _) | (with_reducible refine Below.drew ?_) | ((with_reducible refine bl_trans ?_ H1.out ?_); (focus ((first | omega | (simp <;> omega)); done)))))⟩
  have hs0' : (s0_0.size : Int) + (x0_2.length : Int) + (x0_3.length : Int) ≤ 1048576 := by omega
  clear hs0
  go_enter Try.func6, Try.ntmps6
  go_wp2_with fail
  refine (szAntenna_fits s0_0 a0_1 _ x0_2 _ x0_3 _ w.heap.size (by first | omega | (simp <;> omega)) (Rd.below r0_2 (by repeat (first | (with_reducible exact Below.refl _ _) | (with_reducible assumption) | ((with_reducible refine bl_alloc ?_ _ ?_); (focus ((first | omega | (simp <;> omega)); done))) | ((with_reducible refine bl_set ?_ _ ?_); (focus ((first | omega | (simp <;> omega)); done))) | (with_reducible refine below_drewN ?_ _) | (with_reducible refine Below.drew ?_)))) (Rd.below r0_3 (by repeat (first | (with_reducible exact Below.refl _ _) | (with_reducible assumption) | ((with_reducible refine bl_alloc ?_ _ ?_); (focus ((first | omega | (simp <;> omega)); done))) | ((with_reducible refine bl_set ?_ _ ?_); (focus ((first | omega | (simp <;> omega)); done))) | (with_reducible refine below_drewN ?_ _) | (with_reducible refine Below.drew ?_)))) is0_0 _ (by omega) (by omega)).mono ?_
  rintro e w1 ⟨rfl, hb⟩
  have zz1 : w.heap.size + 1 ≤ w1.heap.size := (by have := hb.size; ((try simp at this) <;> omega))
  have H1 := Lib.hid (show Below w.heap.size w w1 by repeat (first | (with_reducible exact Below.refl _ _) | (with_reducible assumption) | ((with_reducible refine bl_alloc ?_ _ ?_); (focus ((first | omega | (simp <;> omega)); done))) | ((with_reducible refine bl_set ?_ _ ?_); (focus ((first | omega | (simp <;> omega)); done))) | (with_reducible refine below_drewN ?_ _) | (with_reducible refine Below.drew ?_) | ((with_reducible refine bl_trans ?_ hb ?_); (focus ((first | omega | (simp <;> omega)); done)))))
  have f0_0_1 := keeps hb (p := ⟨w.heap.size, 0, none⟩) (v := .string s0_0) (by simp [go_sem])
  have f0_1_1 := keeps hb (p := ⟨w.heap.size, 1, none⟩) (v := .int .i64 a0_1) (by simp [go_sem])
  have f0_2_1 := keeps hb (p := ⟨w.heap.size, 2, none⟩) (v := v0_2) (by simp [go_sem])
  have f0_3_1 := keeps hb (p := ⟨w.heap.size, 3, none⟩) (v := v0_3) (by simp [go_sem])
  have g0_1 : w.heap.size < w1.heap.size := block_of_cell f0_0_1
  clear hb
  go_wp2_with fail
  refine (toAntenna_any s0_0 a0_1 v0_2 x0_2 v0_3 x0_3 _ w.heap.size (by first | omega | (simp <;> omega)) (Rd.below r0_2 (by repeat (first | (with_reducible exact Below.refl _ _) | (with_reducible assumption) | ((with_reducible refine bl_alloc ?_ _ ?_); (focus ((first | omega | (simp <;> omega)); done))) | ((with_reducible refine bl_set ?_ _ ?_); (focus ((first | omega | (simp <;> omega)); done))) | (with_reducible refine below_drewN ?_ _) | (with_reducible refine Below.drew ?_) | ((with_reducible refine bl_trans ?_ H1.out ?_); (focus ((first | omega | (simp <;> omega)); done)))))) (by omega) (Rd.below r0_3 (by repeat (first | (with_reducible exact Below.refl _ _) | (with_reducible assumption) | ((with_reducible refine bl_alloc ?_ _ ?_); (focus ((first | omega | (simp <;> omega)); done))) | ((with_reducible refine bl_set ?_ _ ?_); (focus ((first | omega | (simp <;> omega)); done))) | (with_reducible refine below_drewN ?_ _) | (with_reducible refine Below.drew ?_) | ((with_reducible refine bl_trans ?_ H1.out ?_); (focus ((first | omega | (simp <;> omega)); done)))))) (by omega)).mono ?_
  rintro e w2 ⟨A0, n0, c0, A1, n1, c1, rfl, hr0, hr1, ha0_1, hb⟩
  have zz2 : w1.heap.size ≤ w2.heap.size := (by have := hb.size; ((try simp at this) <;> omega))
  have H2 := Lib.hid (show Below w.heap.size w w2 by repeat (first | (with_reducible exact Below.refl _ _) | (with_reducible assumption) | ((with_reducible refine bl_alloc ?_ _ ?_); (focus ((first | omega | (simp <;> omega)); done))) | ((with_reducible refine bl_set ?_ _ ?_); (focus ((first | omega | (simp <;> omega)); done))) | (with_reducible refine below_drewN ?_ _) | (with_reducible refine Below.drew ?_) | ((with_reducible refine bl_trans ?_ hb ?_); (focus ((first | omega | (simp <;> omega)); done))) | ((with_reducible refine bl_trans ?_ H1.out ?_); (focus ((first | omega | (simp <;> omega)); done)))))
  have f0_0_2 := keeps hb f0_0_1
  have f0_1_2 := keeps hb f0_1_1
  have f0_2_2 := keeps hb f0_2_1
  have f0_3_2 := keeps hb f0_3_1
  have g0_2 : w.heap.size < w2.heap.size := block_of_cell f0_0_2
  have R0_2 := Lib.hid hr0
  have RL0 := Lib.hid (show ∀ g, Value.ownBlock (.slice A0 n0 c0) = some g → w1.heap.size ≤ g ∧ g < w2.heap.size from fun g h => by have l1 := hr0.lt g h; ((try simp at l1) <;> omega))
  have RA0_1 := Lib.hid ha0_1
  have R1_2 := Lib.hid hr1
  have RL1 := Lib.hid (show ∀ g, Value.ownBlock (.slice A1 n1 c1) = some g → w1.heap.size ≤ g ∧ g < w2.heap.size from fun g h => by have l1 := hr1.lt g h; ((try simp at l1) <;> omega))
  clear hb f0_0_1 f0_1_1 f0_2_1 f0_3_1 g0_1 hr0 ha0_1 hr1 H1
  go_wp2_with fail
  refine (spec_any _ s0_0 is0_0 a0_1 ia0_1 _ x0_2 _ R0_2.out ix0_2 _ x0_3 _ R1_2.out ix0_3).mono ?_
  rintro e w3 ⟨A2, n2, c2, A3, n3, c3, rfl, hr2, hr3, ha2_3, hb⟩
  have zz3 : w2.heap.size ≤ w3.heap.size := (by have := hb.size; ((try simp at this) <;> omega))
  have H3 := Lib.hid (show Below w.heap.size w w3 by repeat (first | (with_reducible exact Below.refl _ _) | (with_reducible assumption) | ((with_reducible refine bl_alloc ?_ _ ?_); (focus ((first | omega | (simp <;> omega)); done))) | ((with_reducible refine bl_set ?_ _ ?_); (focus ((first | omega | (simp <;> omega)); done))) | (with_reducible refine below_drewN ?_ _) | (with_reducible refine Below.drew ?_) | ((with_reducible refine bl_trans ?_ hb ?_); (focus ((first | omega | (simp <;> omega)); done))) | ((with_reducible refine bl_trans ?_ H2.out ?_); (focus ((first | omega | (simp <;> omega)); done)))))
  have f0_0_3 := keeps hb f0_0_2
  have f0_1_3 := keeps hb f0_1_2
  have f0_2_3 := keeps hb f0_2_2
  have f0_3_3 := keeps hb f0_3_2
  have g0_3 : w.heap.size < w3.heap.size := block_of_cell f0_0_3
  have R2_3 := Lib.hid hr2
  have RL2 := Lib.hid (show ∀ g, Value.ownBlock (.slice A2 n2 c2) = some g → w2.heap.size ≤ g ∧ g < w3.heap.size from fun g h => by have l1 := hr2.lt g h; ((try simp at l1) <;> omega))
  have RA2_3 := Lib.hid ha2_3
  have R3_3 := Lib.hid hr3
  have RL3 := Lib.hid (show ∀ g, Value.ownBlock (.slice A3 n3 c3) = some g → w2.heap.size ≤ g ∧ g < w3.heap.size from fun g h => by have l1 := hr3.lt g h; ((try simp at l1) <;> omega))
  clear hb f0_0_2 f0_1_2 f0_2_2 f0_3_2 g0_2 R0_2 R1_2 hr2 ha2_3 hr3 H2
  go_wp2_with fail
  refine (toAntenna_any s0_0 a0_1 v0_2 x0_2 v0_3 x0_3 _ w.heap.size (by first | omega | (simp <;> omega)) (Rd.below r0_2 (by repeat (first | (with_reducible exact Below.refl _ _) | (with_reducible assumption) | ((with_reducible refine bl_alloc ?_ _ ?_); (focus ((first | omega | (simp <;> omega)); done))) | ((with_reducible refine bl_set ?_ _ ?_); (focus ((first | omega | (simp <;> omega)); done))) | (with_reducible refine below_drewN ?_ _) | (with_reducible refine Below.drew ?_) | ((with_reducible refine bl_trans ?_ H3.out ?_); (focus ((first | omega | (simp <;> omega)); done)))))) (by omega) (Rd.below r0_3 (by repeat (first | (with_reducible exact Below.refl _ _) | (with_reducible assumption) | ((with_reducible refine bl_alloc ?_ _ ?_); (focus ((first | omega | (simp <;> omega)); done))) | ((with_reducible refine bl_set ?_ _ ?_); (focus ((first | omega | (simp <;> omega)); done))) | (with_reducible refine below_drewN ?_ _) | (with_reducible refine Below.drew ?_) | ((with_reducible refine bl_trans ?_ H3.out ?_); (focus ((first | omega | (simp <;> omega)); done)))))) (by omega)).mono ?_
  rintro e w4 ⟨A4, n4, c4, A5, n5, c5, rfl, hr4, hr5, ha4_5, hb⟩
  have zz4 : w3.heap.size + 1 ≤ w4.heap.size := (by have := hb.size; ((try simp at this) <;> omega))
  have H4 := Lib.hid (show Below w.heap.size w w4 by repeat (first | (with_reducible exact Below.refl _ _) | (with_reducible assumption) | ((with_reducible refine bl_alloc ?_ _ ?_); (focus ((first | omega | (simp <;> omega)); done))) | ((with_reducible refine bl_set ?_ _ ?_); (focus ((first | omega | (simp <;> omega)); done))) | (with_reducible refine below_drewN ?_ _) | (with_reducible refine Below.drew ?_) | ((with_reducible refine bl_trans ?_ hb ?_); (focus ((first | omega | (simp <;> omega)); done))) | ((with_reducible refine bl_trans ?_ H3.out ?_); (focus ((first | omega | (simp <;> omega)); done)))))
  have f0_0_4 := keeps hb (cell_alloc f0_0_3 _)
  have f0_1_4 := keeps hb (cell_alloc f0_1_3 _)
  have f0_2_4 := keeps hb (cell_alloc f0_2_3 _)
  have f0_3_4 := keeps hb (cell_alloc f0_3_3 _)
  have g0_4 : w.heap.size < w4.heap.size := block_of_cell f0_0_4
  have f1_0_4 := keeps hb (p := ⟨w3.heap.size, 0, none⟩) (v := .string (mirN s0_0 a0_1 x0_2 x0_3)) (by simp [go_sem])
  have f1_1_4 := keeps hb (p := ⟨w3.heap.size, 1, none⟩) (v := .int .i64 ((mirG s0_0 a0_1 x0_2 x0_3))) (by simp [go_sem])
  have f1_2_4 := keeps hb (p := ⟨w3.heap.size, 2, none⟩) (v := (.slice A2 n2 c2)) (by simp [go_sem])
  have f1_3_4 := keeps hb (p := ⟨w3.heap.size, 3, none⟩) (v := (.slice A3 n3 c3)) (by simp [go_sem])
  have g1_4 : w3.heap.size < w4.heap.size := block_of_cell f1_0_4
  have R2_4 := Lib.hid (Row.later (R2_3.out.alloc_ _) hb)
  have R3_4 := Lib.hid (Row.later (R3_3.out.alloc_ _) hb)
  have R4_4 := Lib.hid hr4
  have RL4 := Lib.hid (show ∀ g, Value.ownBlock (.slice A4 n4 c4) = some g → w3.heap.size + 1 ≤ g ∧ g < w4.heap.size from fun g h => by have l1 := hr4.lt g h; ((try simp at l1) <;> omega))
  have RA4_5 := Lib.hid ha4_5
  have R5_4 := Lib.hid hr5
  have RL5 := Lib.hid (show ∀ g, Value.ownBlock (.slice A5 n5 c5) = some g → w3.heap.size + 1 ≤ g ∧ g < w4.heap.size from fun g h => by have l1 := hr5.lt g h; ((try simp at l1) <;> omega))
  clear hb f0_0_3 f0_1_3 f0_2_3 f0_3_3 g0_3 R2_3 R3_3 hr4 ha4_5 hr5 H3
  go_wp2_with fail
  refine (impl_any _ s0_0 is0_0 a0_1 ia0_1 _ x0_2 _ (R4_4.out.alloc_ _) ix0_2 _ x0_3 _ (R5_4.out.alloc_ _) ix0_3).mono ?_
  rintro e w5 ⟨A6, n6, c6, A7, n7, c7, rfl, hr6, hr7, ha6_7, hb⟩
  have zz5 : w4.heap.size + 1 ≤ w5.heap.size := (by have := hb.size; ((try simp at this) <;> omega))
  have H5 := Lib.hid (show Below w.heap.size w w5 by repeat (first | (with_reducible exact Below.refl _ _) | (with_reducible assumption) | ((with_reducible refine bl_alloc ?_ _ ?_); (focus ((first | omega | (simp <;> omega)); done))) | ((with_reducible refine bl_set ?_ _ ?_); (focus ((first | omega | (simp <;> omega)); done))) | (with_reducible refine below_drewN ?_ _) | (with_reducible refine Below.drew ?_) | ((with_reducible refine bl_trans ?_ hb ?_); (focus ((first | omega | (simp <;> omega)); done))) | ((with_reducible refine bl_trans ?_ H4.out ?_); (focus ((first | omega | (simp <;> omega)); done)))))
  have f0_0_5 := keeps hb (cell_alloc f0_0_4 _)
  have f0_1_5 := keeps hb (cell_alloc f0_1_4 _)
  have f0_2_5 := keeps hb (cell_alloc f0_2_4 _)
  have f0_3_5 := keeps hb (cell_alloc f0_3_4 _)
  have g0_5 : w.heap.size < w5.heap.size := block_of_cell f0_0_5
  have f1_0_5 := keeps hb (cell_alloc f1_0_4 _)
  have f1_1_5 := keeps hb (cell_alloc f1_1_4 _)
  have f1_2_5 := keeps hb (cell_alloc f1_2_4 _)
  have f1_3_5 := keeps hb (cell_alloc f1_3_4 _)
  have g1_5 : w3.heap.size < w5.heap.size := block_of_cell f1_0_5
  have f2_0_5 := keeps hb (p := ⟨w4.heap.size, 0, none⟩) (v := .string s0_0) (by simp [go_sem])
  have f2_1_5 := keeps hb (p := ⟨w4.heap.size, 1, none⟩) (v := .int .i64 a0_1) (by simp [go_sem])
  have f2_2_5 := keeps hb (p := ⟨w4.heap.size, 2, none⟩) (v := (.slice A4 n4 c4)) (by simp [go_sem])
  have f2_3_5 := keeps hb (p := ⟨w4.heap.size, 3, none⟩) (v := (.slice A5 n5 c5)) (by simp [go_sem])
  have g2_5 : w4.heap.size < w5.heap.size := block_of_cell f2_0_5
  have R2_5 := Lib.hid (Row.later (R2_4.out.alloc_ _) hb)
  have R3_5 := Lib.hid (Row.later (R3_4.out.alloc_ _) hb)
  have R4_5 := Lib.hid (Row.later (R4_4.out.alloc_ _) hb)
  have R5_5 := Lib.hid (Row.later (R5_4.out.alloc_ _) hb)
  have R6_5 := Lib.hid hr6
  have RL6 := Lib.hid (show ∀ g, Value.ownBlock (.slice A6 n6 c6) = some g → w4.heap.size + 1 ≤ g ∧ g < w5.heap.size from fun g h => by have l1 := hr6.lt g h; ((try simp at l1) <;> omega))
  have RA6_7 := Lib.hid ha6_7
  have R7_5 := Lib.hid hr7
  have RL7 := Lib.hid (show ∀ g, Value.ownBlock (.slice A7 n7 c7) = some g → w4.heap.size + 1 ≤ g ∧ g < w5.heap.size from fun g h => by have l1 := hr7.lt g h; ((try simp at l1) <;> omega))
  clear hb f0_0_4 f0_1_4 f0_2_4 f0_3_4 g0_4 f1_0_4 f1_1_4 f1_2_4 f1_3_4 g1_4 R2_4 R3_4 R4_4 R5_4 hr6 ha6_7 hr7 H4
  go_wp2_with fail
  refine (eqAntenna_any ((mirN s0_0 a0_1 x0_2 x0_3)) ((mirG s0_0 a0_1 x0_2 x0_3)) _ _ _ ((mirH s0_0 a0_1 x0_2 x0_3)) _ _ (R6_5.out.alloc_ _) (R2_5.out.alloc_ _) _ _ ((mirV s0_0 a0_1 x0_2 x0_3)) _ _ (R7_5.out.alloc_ _) (R3_5.out.alloc_ _)).mono ?_
  rintro e w6 ⟨rfl, hb⟩
  have zz6 : w5.heap.size + 1 ≤ w6.heap.size := (by have := hb.size; ((try simp at this) <;> omega))
  have H6 := Lib.hid (show Below w.heap.size w w6 by repeat (first | (with_reducible exact Below.refl _ _) | (with_reducible assumption) | ((with_reducible refine bl_alloc ?_ _ ?_); (focus ((first | omega | (simp <;> omega)); done))) | ((with_reducible refine bl_set ?_ _ ?_); (focus ((first | omega | (simp <;> omega)); done))) | (with_reducible refine below_drewN ?_ _) | (with_reducible refine Below.drew ?_) | ((with_reducible refine bl_trans ?_ hb ?_); (focus ((first | omega | (simp <;> omega)); done))) | ((with_reducible refine bl_trans ?_ H5.out ?_); (focus ((first | omega | (simp <;> omega)); done)))))
  have f0_0_6 := keeps hb (cell_alloc f0_0_5 _)
  have f0_1_6 := keeps hb (cell_alloc f0_1_5 _)
  have f0_2_6 := keeps hb (cell_alloc f0_2_5 _)
  have f0_3_6 := keeps hb (cell_alloc f0_3_5 _)
  have g0_6 : w.heap.size < w6.heap.size := block_of_cell f0_0_6
  have f1_0_6 := keeps hb (cell_alloc f1_0_5 _)
  have f1_1_6 := keeps hb (cell_alloc f1_1_5 _)
  have f1_2_6 := keeps hb (cell_alloc f1_2_5 _)
  have f1_3_6 := keeps hb (cell_alloc f1_3_5 _)
  have g1_6 : w3.heap.size < w6.heap.size := block_of_cell f1_0_6
  have f2_0_6 := keeps hb (cell_alloc f2_0_5 _)
  have f2_1_6 := keeps hb (cell_alloc f2_1_5 _)
  have f2_2_6 := keeps hb (cell_alloc f2_2_5 _)
  have f2_3_6 := keeps hb (cell_alloc f2_3_5 _)
  have g2_6 : w4.heap.size < w6.heap.size := block_of_cell f2_0_6
  have f3_0_6 := keeps hb (p := ⟨w5.heap.size, 0, none⟩) (v := .string (mirN s0_0 a0_1 x0_2 x0_3)) (by simp [go_sem])
  have f3_1_6 := keeps hb (p := ⟨w5.heap.size, 1, none⟩) (v := .int .i64 ((mirG s0_0 a0_1 x0_2 x0_3))) (by simp [go_sem])
  have f3_2_6 := keeps hb (p := ⟨w5.heap.size, 2, none⟩) (v := (.slice A6 n6 c6)) (by simp [go_sem])
  have f3_3_6 := keeps hb (p := ⟨w5.heap.size, 3, none⟩) (v := (.slice A7 n7 c7)) (by simp [go_sem])
  have g3_6 : w5.heap.size < w6.heap.size := block_of_cell f3_0_6
  have R2_6 := Lib.hid (Row.later (R2_5.out.alloc_ _) hb)
  have R3_6 := Lib.hid (Row.later (R3_5.out.alloc_ _) hb)
  have R4_6 := Lib.hid (Row.later (R4_5.out.alloc_ _) hb)
  have R5_6 := Lib.hid (Row.later (R5_5.out.alloc_ _) hb)
  have R6_6 := Lib.hid (Row.later (R6_5.out.alloc_ _) hb)
  have R7_6 := Lib.hid (Row.later (R7_5.out.alloc_ _) hb)
  clear hb f0_0_5 f0_1_5 f0_2_5 f0_3_5 g0_5 f1_0_5 f1_1_5 f1_2_5 f1_3_5 g1_5 f2_0_5 f2_1_5 f2_2_5 f2_3_5 g2_5 R2_5 R3_5 R4_5 R5_5 R6_5 R7_5 H5
  go_wp2_with fail
  go_region_held3 (fun w' => w'.cell? ⟨w4.heap.size, 0, none⟩ = some (.string s0_0) ∧ w'.cell? ⟨w4.heap.size, 1, none⟩ = some (.int .i64 a0_1) ∧ w'.cell? ⟨w4.heap.size, 2, none⟩ = some ((.slice A4 n4 c4)) ∧ w'.cell? ⟨w4.heap.size, 3, none⟩ = some ((.slice A5 n5 c5)) ∧ w'.cell? ⟨w.heap.size, 0, none⟩ = some (.string s0_0) ∧ w'.cell? ⟨w.heap.size, 1, none⟩ = some (.int .i64 a0_1) ∧ w'.cell? ⟨w.heap.size, 2, none⟩ = some (v0_2) ∧ w'.cell? ⟨w.heap.size, 3, none⟩ = some (v0_3))
    (first | (refine ⟨?_, ?_, ?_, ?_, ?_, ?_, ?_, ?_⟩ <;> assumption) | (go_split_ands; (refine ⟨?_, ?_, ?_, ?_, ?_, ?_, ?_, ?_⟩ <;> first | assumption | (refine keeps hb ?_; assumption))))
    (first
      | (go_at_call 24; ((with_reducible refine (toAntenna_any s0_0 a0_1 v0_2 x0_2 v0_3 x0_3 _ w.heap.size (by first | omega | (simp <;> omega)) (Rd.below r0_2 (by repeat (first | (with_reducible exact Below.refl _ _) | (with_reducible assumption) | ((with_reducible refine bl_alloc ?_ _ ?_); (focus ((first | omega | (simp <;> omega)); done))) | ((with_reducible refine bl_set ?_ _ ?_); (focus ((first | omega | (simp <;> omega)); done))) | (with_reducible refine below_drewN ?_ _) | (with_reducible refine Below.drew ?_) | ((with_reducible refine bl_trans ?_ H6.out ?_); (focus ((first | omega | (simp <;> omega)); done)))))) (by omega) (Rd.below r0_3 (by repeat (first | (with_reducible exact Below.refl _ _) | (with_reducible assumption) | ((with_reducible refine bl_alloc ?_ _ ?_); (focus ((first | omega | (simp <;> omega)); done))) | ((with_reducible refine bl_set ?_ _ ?_); (focus ((first | omega | (simp <;> omega)); done))) | (with_reducible refine below_drewN ?_ _) | (with_reducible refine Below.drew ?_) | ((with_reducible refine bl_trans ?_ H6.out ?_); (focus ((first | omega | (simp <;> omega)); done)))))) (by omega)).mono ?_); rintro e w7 ⟨A8, n8, c8, A9, n9, c9, rfl, hr8, hr9, ha8_9, hb⟩; have zz7 : w6.heap.size ≤ w7.heap.size := (by have := hb.size; ((try simp at this) <;> omega)); have H7 := Lib.hid (show Below w.heap.size w w7 by repeat (first | (with_reducible exact Below.refl _ _) | (with_reducible assumption) | ((with_reducible refine bl_alloc ?_ _ ?_); (focus ((first | omega | (simp <;> omega)); done))) | ((with_reducible refine bl_set ?_ _ ?_); (focus ((first | omega | (simp <;> omega)); done))) | (with_reducible refine below_drewN ?_ _) | (with_reducible refine Below.drew ?_) | ((with_reducible refine bl_trans ?_ hb ?_); (focus ((first | omega | (simp <;> omega)); done))) | ((with_reducible refine bl_trans ?_ H6.out ?_); (focus ((first | omega | (simp <;> omega)); done))))); have f0_0_7 := keeps1 hb f0_0_6; have f0_1_7 := keeps1 hb f0_1_6; have f0_2_7 := keeps1 hb f0_2_6; have f0_3_7 := keeps1 hb f0_3_6; have g0_7 : w.heap.size < w7.heap.size := block_of_cell f0_0_7; have f1_0_7 := keeps1 hb f1_0_6; have f1_1_7 := keeps1 hb f1_1_6; have f1_2_7 := keeps1 hb f1_2_6; have f1_3_7 := keeps1 hb f1_3_6; have g1_7 : w3.heap.size < w7.heap.size := block_of_cell f1_0_7; have f2_0_7 := keeps1 hb f2_0_6; have f2_1_7 := keeps1 hb f2_1_6; have f2_2_7 := keeps1 hb f2_2_6; have f2_3_7 := keeps1 hb f2_3_6; have g2_7 : w4.heap.size < w7.heap.size := block_of_cell f2_0_7; have f3_0_7 := keeps1 hb f3_0_6; have f3_1_7 := keeps1 hb f3_1_6; have f3_2_7 := keeps1 hb f3_2_6; have f3_3_7 := keeps1 hb f3_3_6; have g3_7 : w5.heap.size < w7.heap.size := block_of_cell f3_0_7; have R2_7 := Lib.hid (Row.later1 R2_6.out hb); have R3_7 := Lib.hid (Row.later1 R3_6.out hb); have R4_7 := Lib.hid (Row.later1 R4_6.out hb); have R5_7 := Lib.hid (Row.later1 R5_6.out hb); have R6_7 := Lib.hid (Row.later1 R6_6.out hb); have R7_7 := Lib.hid (Row.later1 R7_6.out hb); have R8_7 := Lib.hid hr8; have RL8 := Lib.hid (show ∀ g, Value.ownBlock (.slice A8 n8 c8) = some g → w6.heap.size ≤ g ∧ g < w7.heap.size from fun g h => by have l1 := hr8.lt g h; ((try simp at l1) <;> omega)); have RA8_9 := Lib.hid ha8_9; have R9_7 := Lib.hid hr9; have RL9 := Lib.hid (show ∀ g, Value.ownBlock (.slice A9 n9 c9) = some g → w6.heap.size ≤ g ∧ g < w7.heap.size from fun g h => by have l1 := hr9.lt g h; ((try simp at l1) <;> omega)); clear f0_0_6 f0_1_6 f0_2_6 f0_3_6 g0_6 f1_0_6 f1_1_6 f1_2_6 f1_3_6 g1_6 f2_0_6 f2_1_6 f2_2_6 f2_3_6 g2_6 f3_0_6 f3_1_6 f3_2_6 f3_3_6 g3_6 R2_6 R3_6 R4_6 R5_6 R6_6 R7_6 hr8 ha8_9 hr9 H6))
      | (go_at_call 26; ((with_reducible refine (eqAntenna_any s0_0 a0_1 _ _ _ (x0_2) _ _ R4_7.out R8_7.out _ _ (x0_3) _ _ R5_7.out R9_7.out).mono ?_); rintro e w8 ⟨rfl, hb⟩; have zz8 : w7.heap.size ≤ w8.heap.size := (by have := hb.size; ((try simp at this) <;> omega)); have H8 := Lib.hid (show Below w.heap.size w w8 by repeat (first | (with_reducible exact Below.refl _ _) | (with_reducible assumption) | ((with_reducible refine bl_alloc ?_ _ ?_); (focus ((first | omega | (simp <;> omega)); done))) | ((with_reducible refine bl_set ?_ _ ?_); (focus ((first | omega | (simp <;> omega)); done))) | (with_reducible refine below_drewN ?_ _) | (with_reducible refine Below.drew ?_) | ((with_reducible refine bl_trans ?_ hb ?_); (focus ((first | omega | (simp <;> omega)); done))) | ((with_reducible refine bl_trans ?_ H7.out ?_); (focus ((first | omega | (simp <;> omega)); done))))); have f0_0_8 := keeps hb f0_0_7; have f0_1_8 := keeps hb f0_1_7; have f0_2_8 := keeps hb f0_2_7; have f0_3_8 := keeps hb f0_3_7; have g0_8 : w.heap.size < w8.heap.size := block_of_cell f0_0_8; have f1_0_8 := keeps hb f1_0_7; have f1_1_8 := keeps hb f1_1_7; have f1_2_8 := keeps hb f1_2_7; have f1_3_8 := keeps hb f1_3_7; have g1_8 : w3.heap.size < w8.heap.size := block_of_cell f1_0_8; have f2_0_8 := keeps hb f2_0_7; have f2_1_8 := keeps hb f2_1_7; have f2_2_8 := keeps hb f2_2_7; have f2_3_8 := keeps hb f2_3_7; have g2_8 : w4.heap.size < w8.heap.size := block_of_cell f2_0_8; have f3_0_8 := keeps hb f3_0_7; have f3_1_8 := keeps hb f3_1_7; have f3_2_8 := keeps hb f3_2_7; have f3_3_8 := keeps hb f3_3_7; have g3_8 : w5.heap.size < w8.heap.size := block_of_cell f3_0_8; have R2_8 := Lib.hid (Row.later R2_7.out hb); have R3_8 := Lib.hid (Row.later R3_7.out hb); have R4_8 := Lib.hid (Row.later R4_7.out hb); have R5_8 := Lib.hid (Row.later R5_7.out hb); have R6_8 := Lib.hid (Row.later R6_7.out hb); have R7_8 := Lib.hid (Row.later R7_7.out hb); clear f0_0_7 f0_1_7 f0_2_7 f0_3_7 g0_7 f1_0_7 f1_1_7 f1_2_7 f1_3_7 g1_7 f2_0_7 f2_1_7 f2_2_7 f2_3_7 g2_7 f3_0_7 f3_1_7 f3_2_7 f3_3_7 g3_7 R2_7 R3_7 R4_7 R5_7 R6_7 R7_7 R8_7 R9_7 H7)))
  go_wp2_with fail
  refine (markAntenna_any s0_0 a0_1 _ _ _ (x0_2) _ R4_8.out _ (x0_3) _ R5_8.out RA4_5.out (by omega) (by omega)).mono ?_
  rintro e w9 ⟨rfl, hr4, hr5, hb⟩
  have zz9 : w8.heap.size ≤ w9.heap.size := (by have := hb.size; ((try simp at this) <;> omega))
  have H9 := Lib.hid (show Below w.heap.size w w9 from Below.trans (by repeat (first | (with_reducible exact Below.refl _ _) | (with_reducible assumption) | ((with_reducible refine bl_alloc ?_ _ ?_); (focus ((first | omega | (simp <;> omega)); done))) | ((with_reducible refine bl_set ?_ _ ?_); (focus ((first | omega | (simp <;> omega)); done))) | (with_reducible refine below_drewN ?_ _) | (with_reducible refine Below.drew ?_) | ((with_reducible refine bl_trans ?_ H8.out ?_); (focus ((first | omega | (simp <;> omega)); done))))) (hb.below (by first | omega | (simp <;> omega)) (fun g hs => by rcases hs with hs | hs <;> first | (have := (RL4.out g hs).1; omega) | (have := (RL5.out g hs).1; omega))))
  have f0_0_9 := keepsW hb f0_0_8 (fun hs => by rcases hs with hs | hs <;> first | (have := RL4.out _ hs; ((try simp at this) <;> omega)) | (have := RL5.out _ hs; ((try simp at this) <;> omega)))
  have f0_1_9 := keepsW hb f0_1_8 (fun hs => by rcases hs with hs | hs <;> first | (have := RL4.out _ hs; ((try simp at this) <;> omega)) | (have := RL5.out _ hs; ((try simp at this) <;> omega)))
  have f0_2_9 := keepsW hb f0_2_8 (fun hs => by rcases hs with hs | hs <;> first | (have := RL4.out _ hs; ((try simp at this) <;> omega)) | (have := RL5.out _ hs; ((try simp at this) <;> omega)))
  have f0_3_9 := keepsW hb f0_3_8 (fun hs => by rcases hs with hs | hs <;> first | (have := RL4.out _ hs; ((try simp at this) <;> omega)) | (have := RL5.out _ hs; ((try simp at this) <;> omega)))
  have g0_9 : w.heap.size < w9.heap.size := block_of_cell f0_0_9
  have f1_0_9 := keepsW hb f1_0_8 (fun hs => by rcases hs with hs | hs <;> first | (have := RL4.out _ hs; ((try simp at this) <;> omega)) | (have := RL5.out _ hs; ((try simp at this) <;> omega)))
  have f1_1_9 := keepsW hb f1_1_8 (fun hs => by rcases hs with hs | hs <;> first | (have := RL4.out _ hs; ((try simp at this) <;> omega)) | (have := RL5.out _ hs; ((try simp at this) <;> omega)))
  have f1_2_9 := keepsW hb f1_2_8 (fun hs => by rcases hs with hs | hs <;> first | (have := RL4.out _ hs; ((try simp at this) <;> omega)) | (have := RL5.out _ hs; ((try simp at this) <;> omega)))
  have f1_3_9 := keepsW hb f1_3_8 (fun hs => by rcases hs with hs | hs <;> first | (have := RL4.out _ hs; ((try simp at this) <;> omega)) | (have := RL5.out _ hs; ((try simp at this) <;> omega)))
  have g1_9 : w3.heap.size < w9.heap.size := block_of_cell f1_0_9
  have f3_0_9 := keepsW hb f3_0_8 (fun hs => by rcases hs with hs | hs <;> first | (have := RL4.out _ hs; ((try simp at this) <;> omega)) | (have := RL5.out _ hs; ((try simp at this) <;> omega)))
  have f3_1_9 := keepsW hb f3_1_8 (fun hs => by rcases hs with hs | hs <;> first | (have := RL4.out _ hs; ((try simp at this) <;> omega)) | (have := RL5.out _ hs; ((try simp at this) <;> omega)))
  have f3_2_9 := keepsW hb f3_2_8 (fun hs => by rcases hs with hs | hs <;> first | (have := RL4.out _ hs; ((try simp at this) <;> omega)) | (have := RL5.out _ hs; ((try simp at this) <;> omega)))
  have f3_3_9 := keepsW hb f3_3_8 (fun hs => by rcases hs with hs | hs <;> first | (have := RL4.out _ hs; ((try simp at this) <;> omega)) | (have := RL5.out _ hs; ((try simp at this) <;> omega)))
  have g3_9 : w5.heap.size < w9.heap.size := block_of_cell f3_0_9
  have R2_9 := Lib.hid (Row.writes R2_8.out hb (fun g h hs => by have h1 := RL2.out g h; rcases hs with hs | hs <;> first | (have h2 := RL4.out g hs; omega) | (have h2 := RL5.out g hs; omega)))
  have R3_9 := Lib.hid (Row.writes R3_8.out hb (fun g h hs => by have h1 := RL3.out g h; rcases hs with hs | hs <;> first | (have h2 := RL4.out g hs; omega) | (have h2 := RL5.out g hs; omega)))
  have R6_9 := Lib.hid (Row.writes R6_8.out hb (fun g h hs => by have h1 := RL6.out g h; rcases hs with hs | hs <;> first | (have h2 := RL4.out g hs; omega) | (have h2 := RL5.out g hs; omega)))
  have R7_9 := Lib.hid (Row.writes R7_8.out hb (fun g h hs => by have h1 := RL7.out g h; rcases hs with hs | hs <;> first | (have h2 := RL4.out g hs; omega) | (have h2 := RL5.out g hs; omega)))
  have R4_9 := Lib.hid hr4
  have R5_9 := Lib.hid hr5
  clear hb f0_0_8 f0_1_8 f0_2_8 f0_3_8 g0_8 f1_0_8 f1_1_8 f1_2_8 f1_3_8 g1_8 f2_0_8 f2_1_8 f2_2_8 f2_3_8 g2_8 f3_0_8 f3_1_8 f3_2_8 f3_3_8 g3_8 R2_8 R3_8 R6_8 R7_8 R4_8 hr4 R5_8 hr5 H8
  go_wp2_with fail
  refine (eqAntenna_any ((mirN s0_0 a0_1 x0_2 x0_3)) ((mirG s0_0 a0_1 x0_2 x0_3)) _ _ _ ((mirH s0_0 a0_1 x0_2 x0_3)) _ _ R6_9.out R2_9.out _ _ ((mirV s0_0 a0_1 x0_2 x0_3)) _ _ R7_9.out R3_9.out).mono ?_
  rintro e w10 ⟨rfl, hb⟩
  have zz10 : w9.heap.size ≤ w10.heap.size := (by have := hb.size; ((try simp at this) <;> omega))
  have H10 := Lib.hid (show Below w.heap.size w w10 by repeat (first | (with_reducible exact Below.refl _ _) | (with_reducible assumption) | ((with_reducible refine bl_alloc ?_ _ ?_); (focus ((first | omega | (simp <;> omega)); done))) | ((with_reducible refine bl_set ?_ _ ?_); (focus ((first | omega | (simp <;> omega)); done))) | (with_reducible refine below_drewN ?_ _) | (with_reducible refine Below.drew ?_) | ((with_reducible refine bl_trans ?_ hb ?_); (focus ((first | omega | (simp <;> omega)); done))) | ((with_reducible refine bl_trans ?_ H9.out ?_); (focus ((first | omega | (simp <;> omega)); done)))))
  have f0_0_10 := keeps hb f0_0_9
  have f0_1_10 := keeps hb f0_1_9
  have f0_2_10 := keeps hb f0_2_9
  have f0_3_10 := keeps hb f0_3_9
  have g0_10 : w.heap.size < w10.heap.size := block_of_cell f0_0_10
  have f1_0_10 := keeps hb f1_0_9
  have f1_1_10 := keeps hb f1_1_9
  have f1_2_10 := keeps hb f1_2_9
  have f1_3_10 := keeps hb f1_3_9
  have g1_10 : w3.heap.size < w10.heap.size := block_of_cell f1_0_10
  have f3_0_10 := keeps hb f3_0_9
  have f3_1_10 := keeps hb f3_1_9
  have f3_2_10 := keeps hb f3_2_9
  have f3_3_10 := keeps hb f3_3_9
  have g3_10 : w5.heap.size < w10.heap.size := block_of_cell f3_0_10
  have R2_10 := Lib.hid (Row.later R2_9.out hb)
  have R3_10 := Lib.hid (Row.later R3_9.out hb)
  have R6_10 := Lib.hid (Row.later R6_9.out hb)
  have R7_10 := Lib.hid (Row.later R7_9.out hb)
  clear hb f0_0_9 f0_1_9 f0_2_9 f0_3_9 g0_9 f1_0_9 f1_1_9 f1_2_9 f1_3_9 g1_9 f3_0_9 f3_1_9 f3_2_9 f3_3_9 g3_9 R2_9 R3_9 R4_9 R5_9 R6_9 R7_9 H9
  go_wp2_with fail
  refine (markAntenna_any ((mirN s0_0 a0_1 x0_2 x0_3)) ((mirG s0_0 a0_1 x0_2 x0_3)) _ _ _ ((mirH s0_0 a0_1 x0_2 x0_3)) _ R6_10.out _ ((mirV s0_0 a0_1 x0_2 x0_3)) _ R7_10.out RA6_7.out (by omega) (by omega)).mono ?_
  rintro e w11 ⟨rfl, hr6, hr7, hb⟩
  have zz11 : w10.heap.size ≤ w11.heap.size := (by have := hb.size; ((try simp at this) <;> omega))
  have H11 := Lib.hid (show Below w.heap.size w w11 from Below.trans (by repeat (first | (with_reducible exact Below.refl _ _) | (with_reducible assumption) | ((with_reducible refine bl_alloc ?_ _ ?_); (focus ((first | omega | (simp <;> omega)); done))) | ((with_reducible refine bl_set ?_ _ ?_); (focus ((first | omega | (simp <;> omega)); done))) | (with_reducible refine below_drewN ?_ _) | (with_reducible refine Below.drew ?_) | ((with_reducible refine bl_trans ?_ H10.out ?_); (focus ((first | omega | (simp <;> omega)); done))))) (hb.below (by first | omega | (simp <;> omega)) (fun g hs => by rcases hs with hs | hs <;> first | (have := (RL6.out g hs).1; omega) | (have := (RL7.out g hs).1; omega))))
  have f0_0_11 := keepsW hb f0_0_10 (fun hs => by rcases hs with hs | hs <;> first | (have := RL6.out _ hs; ((try simp at this) <;> omega)) | (have := RL7.out _ hs; ((try simp at this) <;> omega)))
  have f0_1_11 := keepsW hb f0_1_10 (fun hs => by rcases hs with hs | hs <;> first | (have := RL6.out _ hs; ((try simp at this) <;> omega)) | (have := RL7.out _ hs; ((try simp at this) <;> omega)))
  have f0_2_11 := keepsW hb f0_2_10 (fun hs => by rcases hs with hs | hs <;> first | (have := RL6.out _ hs; ((try simp at this) <;> omega)) | (have := RL7.out _ hs; ((try simp at this) <;> omega)))
  have f0_3_11 := keepsW hb f0_3_10 (fun hs => by rcases hs with hs | hs <;> first | (have := RL6.out _ hs; ((try simp at this) <;> omega)) | (have := RL7.out _ hs; ((try simp at this) <;> omega)))
  have g0_11 : w.heap.size < w11.heap.size := block_of_cell f0_0_11
  have f1_0_11 := keepsW hb f1_0_10 (fun hs => by rcases hs with hs | hs <;> first | (have := RL6.out _ hs; ((try simp at this) <;> omega)) | (have := RL7.out _ hs; ((try simp at this) <;> omega)))
  have f1_1_11 := keepsW hb f1_1_10 (fun hs => by rcases hs with hs | hs <;> first | (have := RL6.out _ hs; ((try simp at this) <;> omega)) | (have := RL7.out _ hs; ((try simp at this) <;> omega)))
  have f1_2_11 := keepsW hb f1_2_10 (fun hs => by rcases hs with hs | hs <;> first | (have := RL6.out _ hs; ((try simp at this) <;> omega)) | (have := RL7.out _ hs; ((try simp at this) <;> omega)))
  have f1_3_11 := keepsW hb f1_3_10 (fun hs => by rcases hs with hs | hs <;> first | (have := RL6.out _ hs; ((try simp at this) <;> omega)) | (have := RL7.out _ hs; ((try simp at this) <;> omega)))
  have g1_11 : w3.heap.size < w11.heap.size := block_of_cell f1_0_11
  have f3_0_11 := keepsW hb f3_0_10 (fun hs => by rcases hs with hs | hs <;> first | (have := RL6.out _ hs; ((try simp at this) <;> omega)) | (have := RL7.out _ hs; ((try simp at this) <;> omega)))
  have f3_1_11 := keepsW hb f3_1_10 (fun hs => by rcases hs with hs | hs <;> first | (have := RL6.out _ hs; ((try simp at this) <;> omega)) | (have := RL7.out _ hs; ((try simp at this) <;> omega)))
  have f3_2_11 := keepsW hb f3_2_10 (fun hs => by rcases hs with hs | hs <;> first | (have := RL6.out _ hs; ((try simp at this) <;> omega)) | (have := RL7.out _ hs; ((try simp at this) <;> omega)))
  have f3_3_11 := keepsW hb f3_3_10 (fun hs => by rcases hs with hs | hs <;> first | (have := RL6.out _ hs; ((try simp at this) <;> omega)) | (have := RL7.out _ hs; ((try simp at this) <;> omega)))
  have g3_11 : w5.heap.size < w11.heap.size := block_of_cell f3_0_11
  have R2_11 := Lib.hid (Row.writes R2_10.out hb (fun g h hs => by have h1 := RL2.out g h; rcases hs with hs | hs <;> first | (have h2 := RL6.out g hs; omega) | (have h2 := RL7.out g hs; omega)))
  have R3_11 := Lib.hid (Row.writes R3_10.out hb (fun g h hs => by have h1 := RL3.out g h; rcases hs with hs | hs <;> first | (have h2 := RL6.out g hs; omega) | (have h2 := RL7.out g hs; omega)))
  have R6_11 := Lib.hid hr6
  have R7_11 := Lib.hid hr7
  clear hb f0_0_10 f0_1_10 f0_2_10 f0_3_10 g0_10 f1_0_10 f1_1_10 f1_2_10 f1_3_10 g1_10 f3_0_10 f3_1_10 f3_2_10 f3_3_10 g3_10 R2_10 R3_10 R6_10 hr6 R7_10 hr7 H10
  go_wp2_with fail
  refine (heldAntenna_any ((mirN s0_0 a0_1 x0_2 x0_3)) ((mirG s0_0 a0_1 x0_2 x0_3)) _ _ _ _ _ R6_11.out _ _ _ R7_11.out (by omega) (by omega)).mono ?_
  rintro e w12 ⟨rfl, hb⟩
  have zz12 : w11.heap.size ≤ w12.heap.size := (by have := hb.size; ((try simp at this) <;> omega))
  have H12 := Lib.hid (show Below w.heap.size w w12 by repeat (first | (with_reducible exact Below.refl _ _) | (with_reducible assumption) | ((with_reducible refine bl_alloc ?_ _ ?_); (focus ((first | omega | (simp <;> omega)); done))) | ((with_reducible refine bl_set ?_ _ ?_); (focus ((first | omega | (simp <;> omega)); done))) | (with_reducible refine below_drewN ?_ _) | (with_reducible refine Below.drew ?_) | ((with_reducible refine bl_trans ?_ hb ?_); (focus ((first | omega | (simp <;> omega)); done))) | ((with_reducible refine bl_trans ?_ H11.out ?_); (focus ((first | omega | (simp <;> omega)); done)))))
  have f0_0_12 := keeps hb f0_0_11
  have f0_1_12 := keeps hb f0_1_11
  have f0_2_12 := keeps hb f0_2_11
  have f0_3_12 := keeps hb f0_3_11
  have g0_12 : w.heap.size < w12.heap.size := block_of_cell f0_0_12
  have f1_0_12 := keeps hb f1_0_11
  have f1_1_12 := keeps hb f1_1_11
  have f1_2_12 := keeps hb f1_2_11
  have f1_3_12 := keeps hb f1_3_11
  have g1_12 : w3.heap.size < w12.heap.size := block_of_cell f1_0_12
  have f3_0_12 := keeps hb f3_0_11
  have f3_1_12 := keeps hb f3_1_11
  have f3_2_12 := keeps hb f3_2_11
  have f3_3_12 := keeps hb f3_3_11
  have g3_12 : w5.heap.size < w12.heap.size := block_of_cell f3_0_12
  have R2_12 := Lib.hid (Row.later R2_11.out hb)
  have R3_12 := Lib.hid (Row.later R3_11.out hb)
  have R6_12 := Lib.hid (Row.later R6_11.out hb)
  have R7_12 := Lib.hid (Row.later R7_11.out hb)
  clear hb f0_0_11 f0_1_11 f0_2_11 f0_3_11 g0_11 f1_0_11 f1_1_11 f1_2_11 f1_3_11 g1_11 f3_0_11 f3_1_11 f3_2_11 f3_3_11 g3_11 R2_11 R3_11 R6_11 R7_11 H11
  go_wp2_with fail
  refine (toAntenna_any s0_0 a0_1 v0_2 x0_2 v0_3 x0_3 _ w.heap.size (by first | omega | (simp <;> omega)) (Rd.below r0_2 (by repeat (first | (with_reducible exact Below.refl _ _) | (with_reducible assumption) | ((with_reducible refine bl_alloc ?_ _ ?_); (focus ((first | omega | (simp <;> omega)); done))) | ((with_reducible refine bl_set ?_ _ ?_); (focus ((first | omega | (simp <;> omega)); done))) | (with_reducible refine below_drewN ?_ _) | (with_reducible refine Below.drew ?_) | ((with_reducible refine bl_trans ?_ H12.out ?_); (focus ((first | omega | (simp <;> omega)); done)))))) (by omega) (Rd.below r0_3 (by repeat (first | (with_reducible exact Below.refl _ _) | (with_reducible assumption) | ((with_reducible refine bl_alloc ?_ _ ?_); (focus ((first | omega | (simp <;> omega)); done))) | ((with_reducible refine bl_set ?_ _ ?_); (focus ((first | omega | (simp <;> omega)); done))) | (with_reducible refine below_drewN ?_ _) | (with_reducible refine Below.drew ?_) | ((with_reducible refine bl_trans ?_ H12.out ?_); (focus ((first | omega | (simp <;> omega)); done)))))) (by omega)).mono ?_
  rintro e w13 ⟨A10, n10, c10, A11, n11, c11, rfl, hr10, hr11, ha10_11, hb⟩
  have zz13 : w12.heap.size ≤ w13.heap.size := (by have := hb.size; ((try simp at this) <;> omega))
  have H13 := Lib.hid (show Below w.heap.size w w13 by repeat (first | (with_reducible exact Below.refl _ _) | (with_reducible assumption) | ((with_reducible refine bl_alloc ?_ _ ?_); (focus ((first | omega | (simp <;> omega)); done))) | ((with_reducible refine bl_set ?_ _ ?_); (focus ((first | omega | (simp <;> omega)); done))) | (with_reducible refine below_drewN ?_ _) | (with_reducible refine Below.drew ?_) | ((with_reducible refine bl_trans ?_ hb ?_); (focus ((first | omega | (simp <;> omega)); done))) | ((with_reducible refine bl_trans ?_ H12.out ?_); (focus ((first | omega | (simp <;> omega)); done)))))
  have f1_0_13 := keeps hb f1_0_12
  have f1_1_13 := keeps hb f1_1_12
  have f1_2_13 := keeps hb f1_2_12
  have f1_3_13 := keeps hb f1_3_12
  have g1_13 : w3.heap.size < w13.heap.size := block_of_cell f1_0_13
  have f3_0_13 := keeps hb f3_0_12
  have f3_1_13 := keeps hb f3_1_12
  have f3_2_13 := keeps hb f3_2_12
  have f3_3_13 := keeps hb f3_3_12
  have g3_13 : w5.heap.size < w13.heap.size := block_of_cell f3_0_13
  have R2_13 := Lib.hid (Row.later R2_12.out hb)
  have R3_13 := Lib.hid (Row.later R3_12.out hb)
  have R6_13 := Lib.hid (Row.later R6_12.out hb)
  have R7_13 := Lib.hid (Row.later R7_12.out hb)
  have R10_13 := Lib.hid hr10
  have RL10 := Lib.hid (show ∀ g, Value.ownBlock (.slice A10 n10 c10) = some g → w12.heap.size ≤ g ∧ g < w13.heap.size from fun g h => by have l1 := hr10.lt g h; ((try simp at l1) <;> omega))
  have RA10_11 := Lib.hid ha10_11
  have R11_13 := Lib.hid hr11
  have RL11 := Lib.hid (show ∀ g, Value.ownBlock (.slice A11 n11 c11) = some g → w12.heap.size ≤ g ∧ g < w13.heap.size from fun g h => by have l1 := hr11.lt g h; ((try simp at l1) <;> omega))
  clear hb f0_0_12 f0_1_12 f0_2_12 f0_3_12 g0_12 f1_0_12 f1_1_12 f1_2_12 f1_3_12 g1_12 f3_0_12 f3_1_12 f3_2_12 f3_3_12 g3_12 R2_12 R3_12 R6_12 R7_12 hr10 ha10_11 hr11 H12
  go_wp2_with fail
  refine (impl_any _ s0_0 is0_0 a0_1 ia0_1 _ x0_2 _ R10_13.out ix0_2 _ x0_3 _ R11_13.out ix0_3).mono ?_
  rintro e w14 ⟨A12, n12, c12, A13, n13, c13, rfl, hr12, hr13, ha12_13, hb⟩
  have zz14 : w13.heap.size ≤ w14.heap.size := (by have := hb.size; ((try simp at this) <;> omega))
  have H14 := Lib.hid (show Below w.heap.size w w14 by repeat (first | (with_reducible exact Below.refl _ _) | (with_reducible assumption) | ((with_reducible refine bl_alloc ?_ _ ?_); (focus ((first | omega | (simp <;> omega)); done))) | ((with_reducible refine bl_set ?_ _ ?_); (focus ((first | omega | (simp <;> omega)); done))) | (with_reducible refine below_drewN ?_ _) | (with_reducible refine Below.drew ?_) | ((with_reducible refine bl_trans ?_ hb ?_); (focus ((first | omega | (simp <;> omega)); done))) | ((with_reducible refine bl_trans ?_ H13.out ?_); (focus ((first | omega | (simp <;> omega)); done)))))
  have f1_0_14 := keeps hb f1_0_13
  have f1_1_14 := keeps hb f1_1_13
  have f1_2_14 := keeps hb f1_2_13
  have f1_3_14 := keeps hb f1_3_13
  have g1_14 : w3.heap.size < w14.heap.size := block_of_cell f1_0_14
  have f3_0_14 := keeps hb f3_0_13
  have f3_1_14 := keeps hb f3_1_13
  have f3_2_14 := keeps hb f3_2_13
  have f3_3_14 := keeps hb f3_3_13
  have g3_14 : w5.heap.size < w14.heap.size := block_of_cell f3_0_14
  have R2_14 := Lib.hid (Row.later R2_13.out hb)
  have R3_14 := Lib.hid (Row.later R3_13.out hb)
  have R6_14 := Lib.hid (Row.later R6_13.out hb)
  have R7_14 := Lib.hid (Row.later R7_13.out hb)
  have R12_14 := Lib.hid hr12
  have RL12 := Lib.hid (show ∀ g, Value.ownBlock (.slice A12 n12 c12) = some g → w13.heap.size ≤ g ∧ g < w14.heap.size from fun g h => by have l1 := hr12.lt g h; ((try simp at l1) <;> omega))
  have RA12_13 := Lib.hid ha12_13
  have R13_14 := Lib.hid hr13
  have RL13 := Lib.hid (show ∀ g, Value.ownBlock (.slice A13 n13 c13) = some g → w13.heap.size ≤ g ∧ g < w14.heap.size from fun g h => by have l1 := hr13.lt g h; ((try simp at l1) <;> omega))
  clear hb f1_0_13 f1_1_13 f1_2_13 f1_3_13 g1_13 f3_0_13 f3_1_13 f3_2_13 f3_3_13 g3_13 R2_13 R3_13 R6_13 R7_13 R10_13 R11_13 hr12 ha12_13 hr13 H13
  go_wp2_with fail
  refine (eqAntenna_any ((mirN s0_0 a0_1 x0_2 x0_3)) ((mirG s0_0 a0_1 x0_2 x0_3)) _ _ _ ((mirH s0_0 a0_1 x0_2 x0_3)) _ _ (R12_14.out.alloc_ _) (R2_14.out.alloc_ _) _ _ ((mirV s0_0 a0_1 x0_2 x0_3)) _ _ (R13_14.out.alloc_ _) (R3_14.out.alloc_ _)).mono ?_
  rintro e w15 ⟨rfl, hb⟩
  have zz15 : w14.heap.size + 1 ≤ w15.heap.size := (by have := hb.size; ((try simp at this) <;> omega))
  have H15 := Lib.hid (show Below w.heap.size w w15 by repeat (first | (with_reducible exact Below.refl _ _) | (with_reducible assumption) | ((with_reducible refine bl_alloc ?_ _ ?_); (focus ((first | omega | (simp <;> omega)); done))) | ((with_reducible refine bl_set ?_ _ ?_); (focus ((first | omega | (simp <;> omega)); done))) | (with_reducible refine below_drewN ?_ _) | (with_reducible refine Below.drew ?_) | ((with_reducible refine bl_trans ?_ hb ?_); (focus ((first | omega | (simp <;> omega)); done))) | ((with_reducible refine bl_trans ?_ H14.out ?_); (focus ((first | omega | (simp <;> omega)); done)))))
  have f3_0_15 := keeps hb (cell_alloc f3_0_14 _)
  have f3_1_15 := keeps hb (cell_alloc f3_1_14 _)
  have f3_2_15 := keeps hb (cell_alloc f3_2_14 _)
  have f3_3_15 := keeps hb (cell_alloc f3_3_14 _)
  have g3_15 : w5.heap.size < w15.heap.size := block_of_cell f3_0_15
  have R6_15 := Lib.hid (Row.later (R6_14.out.alloc_ _) hb)
  have R7_15 := Lib.hid (Row.later (R7_14.out.alloc_ _) hb)
  clear hb f1_0_14 f1_1_14 f1_2_14 f1_3_14 g1_14 f3_0_14 f3_1_14 f3_2_14 f3_3_14 g3_14 R2_14 R3_14 R6_14 R7_14 R12_14 R13_14 H14
  go_wp2_with fail
  refine (heldAntenna_any ((mirN s0_0 a0_1 x0_2 x0_3)) ((mirG s0_0 a0_1 x0_2 x0_3)) _ _ _ _ _ R6_15.out _ _ _ R7_15.out (by omega) (by omega)).mono ?_
  rintro e w16 ⟨rfl, hb⟩
  have zz16 : w15.heap.size ≤ w16.heap.size := (by have := hb.size; ((try simp at this) <;> omega))
  have H16 := Lib.hid (show Below w.heap.size w w16 by repeat (first | (with_reducible exact Below.refl _ _) | (with_reducible assumption) | ((with_reducible refine bl_alloc ?_ _ ?_); (focus ((first | omega | (simp <;> omega)); done))) | ((with_reducible refine bl_set ?_ _ ?_); (focus ((first | omega | (simp <;> omega)); done))) | (with_reducible refine below_drewN ?_ _) | (with_reducible refine Below.drew ?_) | ((with_reducible refine bl_trans ?_ hb ?_); (focus ((first | omega | (simp <;> omega)); done))) | ((with_reducible refine bl_trans ?_ H15.out ?_); (focus ((first | omega | (simp <;> omega)); done)))))
  clear hb f3_0_15 f3_1_15 f3_2_15 f3_3_15 g3_15 R6_15 R7_15 H15
  go_wp2_with fail
  go_ret
  exact ⟨rfl, (by repeat (first | (with_reducible exact Below.refl _ _) | (with_reducible assumption) | ((with_reducible refine bl_alloc ?_ _ ?_); (focus ((first | omega | (simp <;> omega)); done))) | ((with_reducible refine bl_set ?_ _ ?_); (focus ((first | omega | (simp <;> omega)); done))) | (with_reducible refine below_drewN ?_ _) | (with_reducible refine Below.drew ?_) | ((with_reducible refine bl_trans ?_ H16.out ?_); (focus ((first | omega | (simp <;> omega)); done)))))⟩
end Go.Proofs.Ytdafkebnmmkeeaa.fnExactMirrorAntenna
