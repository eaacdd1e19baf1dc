/-
  A part of a profile, by the reference. The conditions are the hypotheses.
-/
import Derived.Test.YtedpdcdmemenhaaRows
import Derived.Test.YtedpdcdmemenhaaLib
import Derived.Test.YtedpdcdmemenhaaInt
import Derived.Test.YtedpdcdmemenhaaOwn
import Derived.Test.YtedpdcdmemenhaaField
import Derived.Test.YtedpdcdmemenhaaMk
import Derived.Test.YtedpdcdmemenhaaProf
import Derived.Test.YtedpdcdmemenhaaOffs
import Derived.Outline
import Derived.Deep.DeepCutAuto
import Derived.Deep.QuietTactic
import Derived.BigQuiet
import Derived.Deep.RegionHeld3
import Derived.Deep.DrawnRows
namespace Go.Proofs.Ytedpdcdmemenhaa
open Go.RowKit
set_option linter.unusedSimpArgs false
set_option linter.unusedVariables false
attribute [local go_sem ↓] Go.wp_at_zero Go.wp_at_succ
def partF (f : Int) (hs : List Int) (i : Nat) : Int := if i = 0 then f else hs.getD i 0
def partL (l : Int) (hs : List Int) (k : Nat) : Int := if k = hs.length - 1 then l else hs.getD k 0
def partH (hs : List Int) (i k : Nat) : List Int := (hs.drop i).take (k + 1 - i)
def partD (d : Int) (hs : List Int) (i k : Nat) : Int := offV d ((hs.length : Int) - 1) k - offV d ((hs.length : Int) - 1) i
theorem partH_len {hs : List Int} {i k : Nat} (h : k < hs.length) (h2 : i ≤ k) : (partH hs i k).length = k + 1 - i := by
  unfold partH
  rw [List.length_take, List.length_drop]
  omega
theorem partH_at {hs : List Int} {i k q : Nat} (h : k < hs.length) (hq : q < k + 1 - i) : (partH hs i k).getD q 0 = hs.getD (i + q) 0 := by
  unfold partH
  simp [List.getElem?_take, List.getElem?_drop, hq]
theorem part_view {w : World} {g n : Nat} {hs : List Int} {i k : Nat} (hk : k < hs.length) (hn : n = k + 1 - i) (hc : ∀ q, q < hs.length → w.cell? ⟨g, q, none⟩ = some (.int .i64 (hs.getD q 0))) :
    ∀ q, q < n → w.cell? ⟨g, i + q, none⟩ = some (.int .i64 ((partH hs i k).getD q 0)) := by
  intro q hq
  rw [partH_at hk (by omega)]
  exact hc (i + q) (by omega)
theorem row_cap {e : TypeId} {w : World} {p g n c : Nat} {xs : List Int} (h : Row e w p (.slice (some ⟨g, 0, none⟩) n c) xs) : xs.length ≤ c := by
  rcases h.2 with ⟨hv, _⟩ | ⟨g', cap, cur, hv, _, _, h1, _⟩
  · cases hv
  · injection hv with e1 e2 e3
    subst e3
    simpa using h1
set_option maxRecDepth 20000 in
set_option maxHeartbeats 8000000 in
theorem l10Part_any (w : World) (o : Nat) (d f l : Int) (g c : Nat) (hs : List Int) (p : Nat) (hr : Row 2 w p (.slice (some ⟨g, 0, none⟩) hs.length c) hs) (h2 : 2 ≤ hs.length) (h65 : hs.length ≤ 65) (d0 : 1 ≤ d) (d1 : d ≤ 283000) (i k : Nat) (hik : i + 1 ≤ k) (hkn : k < hs.length) (c0 : w.cell? ⟨o, 0, none⟩ = some (.int .i64 d)) (c1 : w.cell? ⟨o, 1, none⟩ = some (.int .i64 f)) (c2 : w.cell? ⟨o, 2, none⟩ = some (.int .i64 l)) (c3 : w.cell? ⟨o, 3, none⟩ = some (.slice (some ⟨g, 0, none⟩) hs.length c)) :
    Calls Try.prog 61 #[.pointer (some ⟨o, 0, none⟩), .int .i64 (i : Int), .int .i64 (k : Int)] w fun e w' => ∃ A m c', e = .returned (.agg #[.int .i64 (partD d hs i k), .int .i64 (partF f hs i), .int .i64 (partL l hs k), .slice A m c']) ∧ Row 2 w' w.heap.size (.slice A m c') (partH hs i k) ∧ Below w.heap.size w w' := by
  have hcap := row_cap hr
  have HR := Lib.hid hr
  have hc := hr.at_.1
  have lg : g < w.heap.size := (hr.lt g rfl).2
  have HC := Lib.hid hc
  clear hr hc
  have HPH := Lib.hid (partH_len (i := i) hkn (by omega))
  have hD : Hid (partD d hs i k = offV d ((hs.length : Int) - 1) k - offV d ((hs.length : Int) - 1) i) := rfl
  have hF : Hid (partF f hs i = if i = 0 then f else hs.getD i 0) := rfl
  have hL : Hid (partL l hs k = if k = hs.length - 1 then l else hs.getD k 0) := rfl
  obtain ⟨DD, hDD⟩ : ∃ D, D = partD d hs i k := ⟨_, rfl⟩
  obtain ⟨FF, hFF⟩ : ∃ D, D = partF f hs i := ⟨_, rfl⟩
  obtain ⟨LL, hLL⟩ : ∃ D, D = partL l hs k := ⟨_, rfl⟩
  rw [← hDD] at hD ⊢
  rw [← hFF] at hF ⊢
  rw [← hLL] at hL ⊢
  clear hDD hFF hLL
  obtain ⟨hi, hhi⟩ : ∃ x, x = hs.getD i 0 := ⟨_, rfl⟩
  obtain ⟨hk, hhk⟩ : ∃ x, x = hs.getD k 0 := ⟨_, rfl⟩
  rw [← hhi] at hF
  rw [← hhk] at hL
  have ci := HC.out i (by omega)
  have ck := HC.out k hkn
  rw [← hhi] at ci
  rw [← hhk] at ck
  clear hhi hhk
  have HPV := Lib.hid (fun (W : World) (n : Nat) (hn : n = k + 1 - i) hc => part_view (w := W) (g := g) hkn hn hc)
  obtain ⟨PH, hPH⟩ : ∃ P, P = partH hs i k := ⟨_, rfl⟩
  rw [← hPH] at HPH HPV ⊢
  clear hPH
  obtain ⟨n, hn⟩ : ∃ n, n = hs.length := ⟨_, rfl⟩
  have HN := Lib.hid hn
  rw [← hn] at h2 h65 hkn HC HR hD hL hcap c3
  clear hn
  obtain ⟨OK, hOK⟩ : ∃ x, x = offV d ((n : Int) - 1) k := ⟨_, rfl⟩
  obtain ⟨OI, hOI⟩ : ∃ x, x = offV d ((n : Int) - 1) i := ⟨_, rfl⟩
  have bk := off_bd (n := (n : Int) - 1) (i := (k : Int)) d0 d1 (by omega) (by omega) (by omega) (by omega)
  have bi := off_bd (n := (n : Int) - 1) (i := (i : Int)) d0 d1 (by omega) (by omega) (by omega) (by omega)
  rw [← hOK] at bk hD
  rw [← hOI] at bi hD
  obtain ⟨bk0, bk1⟩ := bk
  obtain ⟨bi0, bi1⟩ := bi
  have HOK := Lib.hid hOK
  have HOI := Lib.hid hOI
  clear hOK hOI
  obtain ⟨W0, hW0⟩ : ∃ W, W = w.alloc (.cells #[.int .i64 0, .int .i64 0, .int .i64 0, .slice none 0 0] 46) := ⟨_, rfl⟩
  have HW0 := Lib.hid (show Below w.heap.size w W0 by rw [hW0]; repeat (first | (with_reducible exact Below.refl _ _) | (with_reducible assumption) | ((with_reducible refine bl_alloc ?_ _ ?_); (focus ((first | omega | (simp <;> omega)); done))) | ((with_reducible refine bl_set ?_ _ ?_); (focus ((first | omega | (simp <;> omega)); done))) | (with_reducible refine below_drewN ?_ _) | (with_reducible refine Below.drew ?_)))
  have zW : w.heap.size + 1 ≤ W0.heap.size := by rw [hW0]; simp
  have SZ0 := Lib.hid (show SInv W0 w.heap.size [.int .i64 0, .int .i64 0, .int .i64 0, .slice none 0 0] from by rw [hW0]; exact SInv.fresh w #[.int .i64 0, .int .i64 0, .int .i64 0, .slice none 0 0] 46)
  have lo : o < w.heap.size := block_of_cell c0
  have e0 := keeps HW0.out c0
  have e1 := keeps HW0.out c1
  have e2 := keeps HW0.out c2
  have e3 := keeps HW0.out c3
  clear c0 c1 c2 c3
  have E0 := Lib.hid e0
  have E1 := Lib.hid e1
  have E2 := Lib.hid e2
  have E3 := Lib.hid e3
  have s0 := e3
  have s1 := keeps HW0.out ci
  have s2 := keeps HW0.out ck
  clear e0 e1 e2 e3 ci ck
  have HCk : Hid (∀ V : World, Below W0.heap.size W0 V → Calls Try.prog 94 #[.pointer (some ⟨o, 0, none⟩), .int .i64 (k : Int)] V fun e w' => e = .returned (.int .i64 OK) ∧ Below V.heap.size V w') := fun V hV => by
    have h := l05Offset_any V o d (some ⟨g, 0, none⟩) n c (k : Int) h2 h65 d0 d1 (by omega) (by omega) (keeps hV E0.out) (keeps hV E3.out)
    rw [← HOK.out] at h
    exact h.mono fun e w' ⟨he, q, hq⟩ => ⟨he, by rw [hq]; exact below_drewN (Below.refl _ _) _⟩
  have HCi : Hid (∀ V : World, Below W0.heap.size W0 V → Calls Try.prog 94 #[.pointer (some ⟨o, 0, none⟩), .int .i64 (i : Int)] V fun e w' => e = .returned (.int .i64 OI) ∧ Below V.heap.size V w') := fun V hV => by
    have h := l05Offset_any V o d (some ⟨g, 0, none⟩) n c (i : Int) h2 h65 d0 d1 (by omega) (by omega) (keeps hV E0.out) (keeps hV E3.out)
    rw [← HOI.out] at h
    exact h.mono fun e w' ⟨he, q, hq⟩ => ⟨he, by rw [hq]; exact below_drewN (Below.refl _ _) _⟩
  have j1 : IntKind.i64.wrap (OK - OI) = OK - OI := by rw [IntKind.wrap_i64]; omega
  have j2 : IntKind.i64.wrap ((k : Int) + 1) = (k : Int) + 1 := by rw [IntKind.wrap_i64]; omega
  have ii0 : (0 : Int) ≤ (i : Int) := by omega
  have ii1 : (i : Int) < (n : Int) := by omega
  have ik0 : (0 : Int) ≤ (k : Int) := by omega
  have ik1 : (k : Int) < (n : Int) := by omega
  have ij0 : (i : Int) ≤ (k : Int) + 1 := by omega
  have ij1 : (k : Int) + 1 ≤ (c : Int) := by omega
  have ij2 : (0 : Int) ≤ (k : Int) + 1 := by omega
  have HCO : Hid (∀ V : World, Below W0.heap.size W0 V → Calls Try.prog 51 #[.slice (some ⟨g, i, none⟩) (k + 1 - i) (c - i)] V fun e w' => ∃ A m c', e = .returned (.slice A m c') ∧ Row 2 w' V.heap.size (.slice A m c') PH ∧ Below V.heap.size V w') := fun V hV =>
    l00Own_view V g i (k + 1 - i) (c - i) PH HPH.out.symm (HPV.out V _ rfl (fun q hq => by rw [← HN.out] at hq; exact (hV.cell (p := ⟨g, q, none⟩) (by show g < W0.heap.size; have := HW0.out.size; omega)).trans (keeps HW0.out (HC.out q hq)))) (by omega) (by omega)
  go_enter Try.func61, Try.ntmps61
  (go_upto_region 1 with fail; rw [← hW0]; clear hW0)
  go_cut [7] (fun p_ wx => ∃ O_ A m c', p_ = .pointer (some ⟨O_, 0, none⟩) ∧ Hid (SInv wx O_ [.int .i64 (OK - OI), .int .i64 hi, .int .i64 hk, .slice A m c']) ∧ Hid (W0.heap.size ≤ O_) ∧ Hid (Row 2 wx W0.heap.size (.slice A m c') PH) ∧ Hid (Value.ownBlock (.slice A m c') ≠ some O_) ∧ Hid (Below W0.heap.size W0 wx))
  case first =>
    go_region_held3 (fun w' => w'.cell? ⟨o, 3, none⟩ = some (.slice (some ⟨g, 0, none⟩) n c) ∧ w'.cell? ⟨g, i, none⟩ = some (.int .i64 hi) ∧ w'.cell? ⟨g, k, none⟩ = some (.int .i64 hk))
      (((try go_split_ands); (refine ⟨?_, ?_, ?_⟩ <;> (repeat (first | (with_reducible assumption) | (with_reducible refine cell_drew ?_) | (with_reducible refine cell_drewN ?_) | (with_reducible refine cell_alloc ?_ _) | ((with_reducible refine cell_set1 ?_ ?_); (focus (omega; done))) | (with_reducible refine keeps hb ?_))))))
      (first
        | (go_at_call 94; ((with_reducible refine (HCk.out _ (by repeat (first | (with_reducible exact Below.refl _ _) | (with_reducible assumption) | ((with_reducible refine bl_alloc ?_ _ ?_); (focus ((first | omega | (simp <;> omega)); done))) | ((with_reducible refine bl_set ?_ _ ?_); (focus ((first | omega | (simp <;> omega)); done))) | (with_reducible refine below_drewN ?_ _) | (with_reducible refine Below.drew ?_)))).mono ?_); rintro e w50 ⟨rfl, hb⟩; have zz50 : W0.heap.size ≤ w50.heap.size := (by have := hb.size; ((try simp at this) <;> omega)); have HX50 := Lib.hid (show Below W0.heap.size W0 w50 by repeat (first | (with_reducible exact Below.refl _ _) | (with_reducible assumption) | ((with_reducible refine bl_alloc ?_ _ ?_); (focus ((first | omega | (simp <;> omega)); done))) | ((with_reducible refine bl_set ?_ _ ?_); (focus ((first | omega | (simp <;> omega)); done))) | (with_reducible refine below_drewN ?_ _) | (with_reducible refine Below.drew ?_) | ((with_reducible refine bl_trans ?_ hb ?_); (focus ((first | omega | (simp <;> omega)); done))))); have s0_50 : w50.cell? ⟨o, 3, none⟩ = some (.slice (some ⟨g, 0, none⟩) n c) := (by first | exact keeps hb s0 | exact keeps1 hb s0 | exact keeps hb (cell_alloc s0 _) | exact keeps hb (cell_alloc (cell_drew s0) _)); have s1_50 : w50.cell? ⟨g, i, none⟩ = some (.int .i64 hi) := (by first | exact keeps hb s1 | exact keeps1 hb s1 | exact keeps hb (cell_alloc s1 _) | exact keeps hb (cell_alloc (cell_drew s1) _)); have s2_50 : w50.cell? ⟨g, k, none⟩ = some (.int .i64 hk) := (by first | exact keeps hb s2 | exact keeps1 hb s2 | exact keeps hb (cell_alloc s2 _) | exact keeps hb (cell_alloc (cell_drew s2) _)); (first | (have SZ50 := Lib.hid (SZ49.out.later hb)) | (have SZ50 := Lib.hid (mk_fresh1 hb)) | (have SZ50 := Lib.hid (mk_fresh2 hb)) | (have SZ50 := Lib.hid (mk_fresh hb)) | skip); (first | (have zl50 := SZ50.out.lt) | skip)))
        | (go_at_call 94; ((with_reducible refine (HCi.out _ (by repeat (first | (with_reducible exact Below.refl _ _) | (with_reducible assumption) | ((with_reducible refine bl_alloc ?_ _ ?_); (focus ((first | omega | (simp <;> omega)); done))) | ((with_reducible refine bl_set ?_ _ ?_); (focus ((first | omega | (simp <;> omega)); done))) | (with_reducible refine below_drewN ?_ _) | (with_reducible refine Below.drew ?_) | ((with_reducible refine bl_trans ?_ HX50.out ?_); (focus ((first | omega | (simp <;> omega)); done)))))).mono ?_); rintro e w51 ⟨rfl, hb⟩; have zz51 : w50.heap.size ≤ w51.heap.size := (by have := hb.size; ((try simp at this) <;> omega)); have HX51 := Lib.hid (show Below W0.heap.size W0 w51 by repeat (first | (with_reducible exact Below.refl _ _) | (with_reducible assumption) | ((with_reducible refine bl_alloc ?_ _ ?_); (focus ((first | omega | (simp <;> omega)); done))) | ((with_reducible refine bl_set ?_ _ ?_); (focus ((first | omega | (simp <;> omega)); done))) | (with_reducible refine below_drewN ?_ _) | (with_reducible refine Below.drew ?_) | ((with_reducible refine bl_trans ?_ hb ?_); (focus ((first | omega | (simp <;> omega)); done))) | ((with_reducible refine bl_trans ?_ HX50.out ?_); (focus ((first | omega | (simp <;> omega)); done))))); have s0_51 : w51.cell? ⟨o, 3, none⟩ = some (.slice (some ⟨g, 0, none⟩) n c) := (by first | exact keeps hb s0_50 | exact keeps1 hb s0_50 | exact keeps hb (cell_alloc s0_50 _) | exact keeps hb (cell_alloc (cell_drew s0_50) _)); have s1_51 : w51.cell? ⟨g, i, none⟩ = some (.int .i64 hi) := (by first | exact keeps hb s1_50 | exact keeps1 hb s1_50 | exact keeps hb (cell_alloc s1_50 _) | exact keeps hb (cell_alloc (cell_drew s1_50) _)); have s2_51 : w51.cell? ⟨g, k, none⟩ = some (.int .i64 hk) := (by first | exact keeps hb s2_50 | exact keeps1 hb s2_50 | exact keeps hb (cell_alloc s2_50 _) | exact keeps hb (cell_alloc (cell_drew s2_50) _)); (first | (have SZ51 := Lib.hid (SZ50.out.later hb)) | (have SZ51 := Lib.hid (mk_fresh1 hb)) | (have SZ51 := Lib.hid (mk_fresh2 hb)) | (have SZ51 := Lib.hid (mk_fresh hb)) | skip); (first | (have zl51 := SZ51.out.lt) | skip)))
        | (go_at_call 51; ((with_reducible refine (HCO.out _ (by repeat (first | (with_reducible exact Below.refl _ _) | (with_reducible assumption) | ((with_reducible refine bl_alloc ?_ _ ?_); (focus ((first | omega | (simp <;> omega)); done))) | ((with_reducible refine bl_set ?_ _ ?_); (focus ((first | omega | (simp <;> omega)); done))) | (with_reducible refine below_drewN ?_ _) | (with_reducible refine Below.drew ?_) | ((with_reducible refine bl_trans ?_ HX51.out ?_); (focus ((first | omega | (simp <;> omega)); done)))))).mono ?_); rintro e w52 ⟨A, m, c', rfl, hr52_, hb⟩; have zz52 : w51.heap.size ≤ w52.heap.size := (by have := hb.size; ((try simp at this) <;> omega)); have HX52 := Lib.hid (show Below W0.heap.size W0 w52 by repeat (first | (with_reducible exact Below.refl _ _) | (with_reducible assumption) | ((with_reducible refine bl_alloc ?_ _ ?_); (focus ((first | omega | (simp <;> omega)); done))) | ((with_reducible refine bl_set ?_ _ ?_); (focus ((first | omega | (simp <;> omega)); done))) | (with_reducible refine below_drewN ?_ _) | (with_reducible refine Below.drew ?_) | ((with_reducible refine bl_trans ?_ hb ?_); (focus ((first | omega | (simp <;> omega)); done))) | ((with_reducible refine bl_trans ?_ HX51.out ?_); (focus ((first | omega | (simp <;> omega)); done))))); have s0_52 : w52.cell? ⟨o, 3, none⟩ = some (.slice (some ⟨g, 0, none⟩) n c) := (by first | exact keeps hb s0_51 | exact keeps1 hb s0_51 | exact keeps hb (cell_alloc s0_51 _) | exact keeps hb (cell_alloc (cell_drew s0_51) _)); have s1_52 : w52.cell? ⟨g, i, none⟩ = some (.int .i64 hi) := (by first | exact keeps hb s1_51 | exact keeps1 hb s1_51 | exact keeps hb (cell_alloc s1_51 _) | exact keeps hb (cell_alloc (cell_drew s1_51) _)); have s2_52 : w52.cell? ⟨g, k, none⟩ = some (.int .i64 hk) := (by first | exact keeps hb s2_51 | exact keeps1 hb s2_51 | exact keeps hb (cell_alloc s2_51 _) | exact keeps hb (cell_alloc (cell_drew s2_51) _)); have RR52_52 := Lib.hid (Row.base_le (b' := W0.heap.size) hr52_ (by first | omega | (simp <;> omega))); (first | (have SZ52 := Lib.hid (SZ51.out.later hb)) | (have SZ52 := Lib.hid (mk_fresh1 hb)) | (have SZ52 := Lib.hid (mk_fresh2 hb)) | (have SZ52 := Lib.hid (mk_fresh hb)) | skip); (first | (have zl52 := SZ52.out.lt) | skip); (first | (have SZZ := SZ52; have z0_ := SZZ.out.cell 0 _ rfl; have z1_ := SZZ.out.cell 1 _ rfl; have z2_ := SZZ.out.cell 2 _ rfl; have z3_ := SZZ.out.cell 3 _ rfl; have zf_ := SZZ.out.free; have zl_ := SZZ.out.lt) | skip))))
    all_goals (go_wp2_with fail; go_meet)
    all_goals first
      | exact ⟨_, _, _, _, rfl, SInv.fresh _ _ _, (show _ ≤ _ by omega), (RR52_52.out.alloc_ _), (fun q => by have h1 := hr52_.lt _ q; ((try simp at h1) <;> omega)), bl_alloc (by omega) _ HX52.out⟩
      | exact ⟨_, _, _, _, rfl, (Lib.hid (by simpa using ((((SZZ.out.set 0 (by simp) (.int .i64 (OK - OI))).set 1 (by simp) (.int .i64 hi)).set 2 (by simp) (.int .i64 hk)).set 3 (by simp) (.slice A m c')))), (show _ ≤ _ by omega), (Lib.hid (by repeat (first | (with_reducible exact RR52_52.out) | (with_reducible refine Row.other ?_ (fun q => by have h1 := hr52_.lt _ q; ((try simp at h1) <;> omega)) _)))), (fun q => by have h1 := hr52_.lt _ q; ((try simp at h1) <;> omega)), (Lib.hid (by repeat (first | (with_reducible exact Below.refl _ _) | (with_reducible assumption) | ((with_reducible refine bl_alloc ?_ _ ?_); (focus ((first | omega | (simp <;> omega)); done))) | ((with_reducible refine bl_set ?_ _ ?_); (focus ((first | omega | (simp <;> omega)); done))) | (with_reducible refine below_drewN ?_ _) | (with_reducible refine Below.drew ?_) | ((with_reducible refine bl_trans ?_ HX52.out ?_); (focus ((first | omega | (simp <;> omega)); done))))))⟩
  obtain ⟨O_, A, m, c', hpp, hSI, ho, hr0, hn0, hbx⟩ := hcut
  subst hpp
  obtain ⟨wx_, hw_⟩ : ∃ x, x = wc := ⟨_, rfl⟩
  rw [← hw_] at hSI hbx hr0 ⊢
  clear hw_
  have HBX := Lib.hid (show Below w.heap.size w wx_ from HW0.out.trans (hbx.out.mono HW0.out.size))
  have hb := hbx.out
  have z_ := hb.size
  have hO := ho.out
  have lO := hSI.out.lt
  have q1 := keeps hb E1.out
  have q2 := keeps hb E2.out
  have q3 := keeps hb E3.out
  have y0 := hSI.out.cell 0 _ rfl
  have y1 := hSI.out.cell 1 _ rfl
  have y2 := hSI.out.cell 2 _ rfl
  have y3 := hSI.out.cell 3 _ rfl
  have yf := hSI.out.free
  have SZX := Lib.hid (SZ0.out.later hb)
  have z0 := SZX.out.cell 0 _ rfl
  have z1 := SZX.out.cell 1 _ rfl
  have z2 := SZX.out.cell 2 _ rfl
  have z3 := SZX.out.cell 3 _ rfl
  have zf := SZX.out.free
  have m1 : ¬ O_ = o := by omega
  have m2 : ¬ o = O_ := by omega
  have m3 : ¬ O_ = w.heap.size := by omega
  have m4 : ¬ w.heap.size = O_ := by omega
  have w1 : IntKind.i64.wrap ((n : Int) - 1) = (n : Int) - 1 := by rw [IntKind.wrap_i64]; omega
  clear hb j1 j2 s0 s1 s2 bk0 bk1 bi0 bi1
  by_cases h0i : i = 0
  · by_cases h0k : k = n - 1
    · have b0 : ((i : Int) == 0) = true := by rw [beq_iff_eq]; omega
      have b1 : ((k : Int) == (n : Int) - 1) = true := by rw [beq_iff_eq]; omega
      have eF : Hid (FF = f) := by show _ = _; rw [hF.out, if_pos h0i]
      have eL : Hid (LL = l) := by show _ = _; rw [hL.out, if_pos h0k]
      clear h0i h0k
      go_wp2_with fail
      refine bodyPost_ret (v := .agg #[.int .i64 (OK - OI), .int .i64 f, .int .i64 l, (.slice A m c')]) (by simp [results, Try.results61, go_sem, *]) rfl ?_
      refine ⟨A, m, c', by rw [hD.out, eF.out, eL.out], ?_, by repeat (first | (with_reducible exact Below.refl _ _) | (with_reducible assumption) | ((with_reducible refine bl_alloc ?_ _ ?_); (focus ((first | omega | (simp <;> omega)); done))) | ((with_reducible refine bl_set ?_ _ ?_); (focus ((first | omega | (simp <;> omega)); done))) | (with_reducible refine below_drewN ?_ _) | (with_reducible refine Below.drew ?_) | ((with_reducible refine bl_trans ?_ HBX.out ?_); (focus ((first | omega | (simp <;> omega)); done))))⟩
      refine Row.base_le (base := W0.heap.size) ?_ (by omega)
      repeat (first | (with_reducible exact hr0.out) | ((with_reducible refine Row.low ?_ _ ?_); (focus ((first | omega | (simp <;> omega)); done))) | (with_reducible refine Row.other ?_ (by exact hn0.out) _))
    · have b0 : ((i : Int) == 0) = true := by rw [beq_iff_eq]; omega
      have b1 : ((k : Int) == (n : Int) - 1) = false := by rw [beq_eq_false_iff_ne]; omega
      have eF : Hid (FF = f) := by show _ = _; rw [hF.out, if_pos h0i]
      have eL : Hid (LL = hk) := by show _ = _; rw [hL.out, if_neg h0k]
      clear h0i h0k
      go_wp2_with fail
      refine bodyPost_ret (v := .agg #[.int .i64 (OK - OI), .int .i64 f, .int .i64 hk, (.slice A m c')]) (by simp [results, Try.results61, go_sem, *]) rfl ?_
      refine ⟨A, m, c', by rw [hD.out, eF.out, eL.out], ?_, by repeat (first | (with_reducible exact Below.refl _ _) | (with_reducible assumption) | ((with_reducible refine bl_alloc ?_ _ ?_); (focus ((first | omega | (simp <;> omega)); done))) | ((with_reducible refine bl_set ?_ _ ?_); (focus ((first | omega | (simp <;> omega)); done))) | (with_reducible refine below_drewN ?_ _) | (with_reducible refine Below.drew ?_) | ((with_reducible refine bl_trans ?_ HBX.out ?_); (focus ((first | omega | (simp <;> omega)); done))))⟩
      refine Row.base_le (base := W0.heap.size) ?_ (by omega)
      repeat (first | (with_reducible exact hr0.out) | ((with_reducible refine Row.low ?_ _ ?_); (focus ((first | omega | (simp <;> omega)); done))) | (with_reducible refine Row.other ?_ (by exact hn0.out) _))
  · by_cases h0k : k = n - 1
    · have b0 : ((i : Int) == 0) = false := by rw [beq_eq_false_iff_ne]; omega
      have b1 : ((k : Int) == (n : Int) - 1) = true := by rw [beq_iff_eq]; omega
      have eF : Hid (FF = hi) := by show _ = _; rw [hF.out, if_neg h0i]
      have eL : Hid (LL = l) := by show _ = _; rw [hL.out, if_pos h0k]
      clear h0i h0k
      go_wp2_with fail
      refine bodyPost_ret (v := .agg #[.int .i64 (OK - OI), .int .i64 hi, .int .i64 l, (.slice A m c')]) (by simp [results, Try.results61, go_sem, *]) rfl ?_
      refine ⟨A, m, c', by rw [hD.out, eF.out, eL.out], ?_, by repeat (first | (with_reducible exact Below.refl _ _) | (with_reducible assumption) | ((with_reducible refine bl_alloc ?_ _ ?_); (focus ((first | omega | (simp <;> omega)); done))) | ((with_reducible refine bl_set ?_ _ ?_); (focus ((first | omega | (simp <;> omega)); done))) | (with_reducible refine below_drewN ?_ _) | (with_reducible refine Below.drew ?_) | ((with_reducible refine bl_trans ?_ HBX.out ?_); (focus ((first | omega | (simp <;> omega)); done))))⟩
      refine Row.base_le (base := W0.heap.size) ?_ (by omega)
      repeat (first | (with_reducible exact hr0.out) | ((with_reducible refine Row.low ?_ _ ?_); (focus ((first | omega | (simp <;> omega)); done))) | (with_reducible refine Row.other ?_ (by exact hn0.out) _))
    · have b0 : ((i : Int) == 0) = false := by rw [beq_eq_false_iff_ne]; omega
      have b1 : ((k : Int) == (n : Int) - 1) = false := by rw [beq_eq_false_iff_ne]; omega
      have eF : Hid (FF = hi) := by show _ = _; rw [hF.out, if_neg h0i]
      have eL : Hid (LL = hk) := by show _ = _; rw [hL.out, if_neg h0k]
      clear h0i h0k
      go_wp2_with fail
      refine bodyPost_ret (v := .agg #[.int .i64 (OK - OI), .int .i64 hi, .int .i64 hk, (.slice A m c')]) (by simp [results, Try.results61, go_sem, *]) rfl ?_
      refine ⟨A, m, c', by rw [hD.out, eF.out, eL.out], ?_, by repeat (first | (with_reducible exact Below.refl _ _) | (with_reducible assumption) | ((with_reducible refine bl_alloc ?_ _ ?_); (focus ((first | omega | (simp <;> omega)); done))) | ((with_reducible refine bl_set ?_ _ ?_); (focus ((first | omega | (simp <;> omega)); done))) | (with_reducible refine below_drewN ?_ _) | (with_reducible refine Below.drew ?_) | ((with_reducible refine bl_trans ?_ HBX.out ?_); (focus ((first | omega | (simp <;> omega)); done))))⟩
      refine Row.base_le (base := W0.heap.size) ?_ (by omega)
      repeat (first | (with_reducible exact hr0.out) | ((with_reducible refine Row.low ?_ _ ?_); (focus ((first | omega | (simp <;> omega)); done))) | (with_reducible refine Row.other ?_ (by exact hn0.out) _))
end Go.Proofs.Ytedpdcdmemenhaa
