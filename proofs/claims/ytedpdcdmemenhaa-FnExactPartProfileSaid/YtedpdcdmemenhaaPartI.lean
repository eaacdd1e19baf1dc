/-
  A part of a profile, by the program. The conditions are the hypotheses.
-/
import Derived.Test.YtedpdcdmemenhaaRows
import Derived.Test.YtedpdcdmemenhaaLib
import Derived.Test.YtedpdcdmemenhaaInt
import Derived.Test.YtedpdcdmemenhaaOwn
import Derived.Test.YtedpdcdmemenhaaField
import Derived.Test.YtedpdcdmemenhaaMk
import Derived.Test.YtedpdcdmemenhaaProf
import Derived.Test.YtedpdcdmemenhaaOffs
import Derived.Test.YtedpdcdmemenhaaPartS
import Derived.Outline
import Derived.Deep.DeepCutAuto
import Derived.Deep.AppendLies
import Derived.Deep.RegionLaw
import Derived.Deep.QuietTactic
import Derived.BigQuiet
import Derived.Deep.RegionHeld3
import Derived.Deep.DrawnRows
namespace Go.Proofs.Ytedpdcdmemenhaa
open Go.RowKit
set_option linter.unusedSimpArgs false
set_option linter.unusedVariables false
attribute [local go_sem ↓] Go.wp_at_zero Go.wp_at_succ
set_option maxRecDepth 20000 in
set_option maxHeartbeats 8000000 in
theorem part_any (w : World) (d f l : Int) (g c : Nat) (hs : List Int) (p : Nat) (hr : Row 2 w p (.slice (some ⟨g, 0, none⟩) hs.length c) hs) (h2 : 2 ≤ hs.length) (h65 : hs.length ≤ 65) (d0 : 1 ≤ d) (d1 : d ≤ 283000) (i k : Nat) (hik : i + 1 ≤ k) (hkn : k < hs.length) :
    Calls Try.prog 65 #[.agg #[.int .i64 d, .int .i64 f, .int .i64 l, .slice (some ⟨g, 0, none⟩) hs.length c], .int .i64 (i : Int), .int .i64 (k : Int)] w fun e w' => ∃ A m c', e = .returned (.agg #[.int .i64 (partD d hs i k), .int .i64 (partF f hs i), .int .i64 (partL l hs k), .slice A m c']) ∧ Row 2 w' w.heap.size (.slice A m c') (partH hs i k) ∧ Below w.heap.size w w' := by
  have hcap := row_cap hr
  have HR := Lib.hid hr
  have hc := hr.at_.1
  have lg : g < w.heap.size := (hr.lt g rfl).2
  have HC := Lib.hid hc
  clear hr hc
  have HPH := Lib.hid (partH_len (i := i) hkn (by omega))
  have hD : Hid (partD d hs i k = offV d ((hs.length : Int) - 1) k - offV d ((hs.length : Int) - 1) i) := rfl
  have hF : Hid (partF f hs i = if i = 0 then f else hs.getD i 0) := rfl
  have hL : Hid (partL l hs k = if k = hs.length - 1 then l else hs.getD k 0) := rfl
  obtain ⟨DD, hDD⟩ : ∃ D, D = partD d hs i k := ⟨_, rfl⟩
  obtain ⟨FF, hFF⟩ : ∃ D, D = partF f hs i := ⟨_, rfl⟩
  obtain ⟨LL, hLL⟩ : ∃ D, D = partL l hs k := ⟨_, rfl⟩
  rw [← hDD] at hD ⊢
  rw [← hFF] at hF ⊢
  rw [← hLL] at hL ⊢
  clear hDD hFF hLL
  obtain ⟨hi, hhi⟩ : ∃ x, x = hs.getD i 0 := ⟨_, rfl⟩
  obtain ⟨hk, hhk⟩ : ∃ x, x = hs.getD k 0 := ⟨_, rfl⟩
  rw [← hhi] at hF
  rw [← hhk] at hL
  have ci := HC.out i (by omega)
  have ck := HC.out k hkn
  rw [← hhi] at ci
  rw [← hhk] at ck
  clear hhi hhk
  have HPV := Lib.hid (fun (W : World) (n : Nat) (hn : n = k + 1 - i) hc => part_view (w := W) (g := g) hkn hn hc)
  obtain ⟨PH, hPH⟩ : ∃ P, P = partH hs i k := ⟨_, rfl⟩
  rw [← hPH] at HPH HPV ⊢
  clear hPH
  obtain ⟨n, hn⟩ : ∃ n, n = hs.length := ⟨_, rfl⟩
  have HN := Lib.hid hn
  rw [← hn] at h2 h65 hkn HC HR hD hL hcap ⊢
  clear hn
  obtain ⟨OK, hOK⟩ : ∃ x, x = offV d ((n : Int) - 1) k := ⟨_, rfl⟩
  obtain ⟨OI, hOI⟩ : ∃ x, x = offV d ((n : Int) - 1) i := ⟨_, rfl⟩
  have bk := off_bd (n := (n : Int) - 1) (i := (k : Int)) d0 d1 (by omega) (by omega) (by omega) (by omega)
  have bi := off_bd (n := (n : Int) - 1) (i := (i : Int)) d0 d1 (by omega) (by omega) (by omega) (by omega)
  rw [← hOK] at bk hD
  rw [← hOI] at bi hD
  obtain ⟨bk0, bk1⟩ := bk
  obtain ⟨bi0, bi1⟩ := bi
  have HOK := Lib.hid hOK
  have HOI := Lib.hid hOI
  clear hOK hOI
  obtain ⟨W0, hW0⟩ : ∃ W, W = (w.alloc (.cells #[.int .i64 d, .int .i64 f, .int .i64 l, .slice (some ⟨g, 0, none⟩) n c] 46)).alloc (.cells #[.int .i64 0, .int .i64 0, .int .i64 0, .slice none 0 0] 46) := ⟨_, rfl⟩
  have HW0 := Lib.hid (show Below w.heap.size w W0 by rw [hW0]; repeat (first | (with_reducible exact Below.refl _ _) | (with_reducible assumption) | ((with_reducible refine bl_alloc ?_ _ ?_); (focus ((first | omega | (simp <;> omega)); done))) | ((with_reducible refine bl_set ?_ _ ?_); (focus ((first | omega | (simp <;> omega)); done))) | (with_reducible refine below_drewN ?_ _) | (with_reducible refine Below.drew ?_)))
  have zW : w.heap.size + 1 + 1 ≤ W0.heap.size := by rw [hW0]; simp
  have SB := Lib.hid (show SInv W0 w.heap.size [.int .i64 d, .int .i64 f, .int .i64 l, .slice (some ⟨g, 0, none⟩) n c] from by rw [hW0]; exact (SInv.fresh w #[.int .i64 d, .int .i64 f, .int .i64 l, .slice (some ⟨g, 0, none⟩) n c] 46).alloc_ _)
  have SZ0 := Lib.hid (show SInv W0 (w.heap.size + 1) [.int .i64 0, .int .i64 0, .int .i64 0, .slice none 0 0] from by rw [hW0]; have h := SInv.fresh (w.alloc (.cells #[.int .i64 d, .int .i64 f, .int .i64 l, .slice (some ⟨g, 0, none⟩) n c] 46)) #[.int .i64 0, .int .i64 0, .int .i64 0, .slice none 0 0] 46; simpa using h)
  have e0 := SB.out.cell 0 _ rfl
  have e1 := SB.out.cell 1 _ rfl
  have e2 := SB.out.cell 2 _ rfl
  have e3 := SB.out.cell 3 _ rfl
  have E0 := Lib.hid e0
  have E1 := Lib.hid e1
  have E2 := Lib.hid e2
  have E3 := Lib.hid e3
  have s0 := e0
  have s1 := e1
  have s2 := e2
  have s3 := e3
  have s4 := keeps HW0.out ci
  have s5 := keeps HW0.out ck
  clear e0 e1 e2 e3 ci ck
  have HCk : Hid (∀ V : World, Below W0.heap.size W0 V → Calls Try.prog 95 #[.agg #[.int .i64 d, .int .i64 f, .int .i64 l, .slice (some ⟨g, 0, none⟩) n c], .int .i64 (k : Int)] V fun e w' => e = .returned (.int .i64 OK) ∧ Below V.heap.size V w') := fun V hV => by
    have h := offset_any V d f l (some ⟨g, 0, none⟩) n c (k : Int) h2 h65 d0 d1 (by omega) (by omega)
    rw [← HOK.out] at h
    exact h
  have HCi : Hid (∀ V : World, Below W0.heap.size W0 V → Calls Try.prog 95 #[.agg #[.int .i64 d, .int .i64 f, .int .i64 l, .slice (some ⟨g, 0, none⟩) n c], .int .i64 (i : Int)] V fun e w' => e = .returned (.int .i64 OI) ∧ Below V.heap.size V w') := fun V hV => by
    have h := offset_any V d f l (some ⟨g, 0, none⟩) n c (i : Int) h2 h65 d0 d1 (by omega) (by omega)
    rw [← HOI.out] at h
    exact h
  have j1 : IntKind.i64.wrap (OK - OI) = OK - OI := by rw [IntKind.wrap_i64]; omega
  have j2 : IntKind.i64.wrap ((k : Int) + 1) = (k : Int) + 1 := by rw [IntKind.wrap_i64]; omega
  have ii0 : (0 : Int) ≤ (i : Int) := by omega
  have ii1 : (i : Int) < (n : Int) := by omega
  have ik0 : (0 : Int) ≤ (k : Int) := by omega
  have ik1 : (k : Int) < (n : Int) := by omega
  have ij0 : (i : Int) ≤ (k : Int) + 1 := by omega
  have ij1 : (k : Int) + 1 ≤ (c : Int) := by omega
  have ij2 : (0 : Int) ≤ (k : Int) + 1 := by omega
  have hci : ¬ c = i := by omega
  go_enter Try.func65, Try.ntmps65
  (go_upto_region 1 with fail; rw [← hW0]; clear hW0)
  go_cut [7] (fun p_ wx => ∃ O_, p_ = .pointer (some ⟨O_, 0, none⟩) ∧ Hid (SInv wx O_ [.int .i64 (OK - OI), .int .i64 hi, .int .i64 hk, .slice none 0 0]) ∧ Hid (W0.heap.size ≤ O_) ∧ Hid (Below W0.heap.size W0 wx))
  case first =>
    go_region_held3 (fun w' => w'.cell? ⟨w.heap.size, 0, none⟩ = some (.int .i64 d) ∧ w'.cell? ⟨w.heap.size, 1, none⟩ = some (.int .i64 f) ∧ w'.cell? ⟨w.heap.size, 2, none⟩ = some (.int .i64 l) ∧ w'.cell? ⟨w.heap.size, 3, none⟩ = some (.slice (some ⟨g, 0, none⟩) n c) ∧ w'.cell? ⟨g, i, none⟩ = some (.int .i64 hi) ∧ w'.cell? ⟨g, k, none⟩ = some (.int .i64 hk))
      (((try go_split_ands); (refine ⟨?_, ?_, ?_, ?_, ?_, ?_⟩ <;> (repeat (first | (with_reducible assumption) | (with_reducible refine cell_drew ?_) | (with_reducible refine cell_drewN ?_) | (with_reducible refine cell_alloc ?_ _) | ((with_reducible refine cell_set1 ?_ ?_); (focus (omega; done))) | (with_reducible refine keeps hb ?_))))))
      (first
        | (go_at_call 95; ((with_reducible refine (HCk.out _ (by repeat (first | (with_reducible exact Below.refl _ _) | (with_reducible assumption) | ((with_reducible refine bl_alloc ?_ _ ?_); (focus ((first | omega | (simp <;> omega)); done))) | ((with_reducible refine bl_set ?_ _ ?_); (focus ((first | omega | (simp <;> omega)); done))) | (with_reducible refine below_drewN ?_ _) | (with_reducible refine Below.drew ?_)))).mono ?_); rintro e w50 ⟨rfl, hb⟩; have zz50 : W0.heap.size ≤ w50.heap.size := (by have := hb.size; ((try simp at this) <;> omega)); have HX50 := Lib.hid (show Below W0.heap.size W0 w50 by repeat (first | (with_reducible exact Below.refl _ _) | (with_reducible assumption) | ((with_reducible refine bl_alloc ?_ _ ?_); (focus ((first | omega | (simp <;> omega)); done))) | ((with_reducible refine bl_set ?_ _ ?_); (focus ((first | omega | (simp <;> omega)); done))) | (with_reducible refine below_drewN ?_ _) | (with_reducible refine Below.drew ?_) | ((with_reducible refine bl_trans ?_ hb ?_); (focus ((first | omega | (simp <;> omega)); done))))); have s0_50 : w50.cell? ⟨w.heap.size, 0, none⟩ = some (.int .i64 d) := (by first | exact keeps hb s0 | exact keeps1 hb s0 | exact keeps hb (cell_alloc s0 _) | exact keeps hb (cell_alloc (cell_drew s0) _)); have s1_50 : w50.cell? ⟨w.heap.size, 1, none⟩ = some (.int .i64 f) := (by first | exact keeps hb s1 | exact keeps1 hb s1 | exact keeps hb (cell_alloc s1 _) | exact keeps hb (cell_alloc (cell_drew s1) _)); have s2_50 : w50.cell? ⟨w.heap.size, 2, none⟩ = some (.int .i64 l) := (by first | exact keeps hb s2 | exact keeps1 hb s2 | exact keeps hb (cell_alloc s2 _) | exact keeps hb (cell_alloc (cell_drew s2) _)); have s3_50 : w50.cell? ⟨w.heap.size, 3, none⟩ = some (.slice (some ⟨g, 0, none⟩) n c) := (by first | exact keeps hb s3 | exact keeps1 hb s3 | exact keeps hb (cell_alloc s3 _) | exact keeps hb (cell_alloc (cell_drew s3) _)); have s4_50 : w50.cell? ⟨g, i, none⟩ = some (.int .i64 hi) := (by first | exact keeps hb s4 | exact keeps1 hb s4 | exact keeps hb (cell_alloc s4 _) | exact keeps hb (cell_alloc (cell_drew s4) _)); have s5_50 : w50.cell? ⟨g, k, none⟩ = some (.int .i64 hk) := (by first | exact keeps hb s5 | exact keeps1 hb s5 | exact keeps hb (cell_alloc s5 _) | exact keeps hb (cell_alloc (cell_drew s5) _)); (first | (have SZ50 := Lib.hid (SZ49.out.later hb)) | (have SZ50 := Lib.hid (mk_fresh1 hb)) | (have SZ50 := Lib.hid (mk_fresh2 hb)) | (have SZ50 := Lib.hid (mk_fresh hb)) | skip); (first | (have zl50 := SZ50.out.lt) | skip)))
        | (go_at_call 95; ((with_reducible refine (HCi.out _ (by repeat (first | (with_reducible exact Below.refl _ _) | (with_reducible assumption) | ((with_reducible refine bl_alloc ?_ _ ?_); (focus ((first | omega | (simp <;> omega)); done))) | ((with_reducible refine bl_set ?_ _ ?_); (focus ((first | omega | (simp <;> omega)); done))) | (with_reducible refine below_drewN ?_ _) | (with_reducible refine Below.drew ?_) | ((with_reducible refine bl_trans ?_ HX50.out ?_); (focus ((first | omega | (simp <;> omega)); done)))))).mono ?_); rintro e w51 ⟨rfl, hb⟩; have zz51 : w50.heap.size ≤ w51.heap.size := (by have := hb.size; ((try simp at this) <;> omega)); have HX51 := Lib.hid (show Below W0.heap.size W0 w51 by repeat (first | (with_reducible exact Below.refl _ _) | (with_reducible assumption) | ((with_reducible refine bl_alloc ?_ _ ?_); (focus ((first | omega | (simp <;> omega)); done))) | ((with_reducible refine bl_set ?_ _ ?_); (focus ((first | omega | (simp <;> omega)); done))) | (with_reducible refine below_drewN ?_ _) | (with_reducible refine Below.drew ?_) | ((with_reducible refine bl_trans ?_ hb ?_); (focus ((first | omega | (simp <;> omega)); done))) | ((with_reducible refine bl_trans ?_ HX50.out ?_); (focus ((first | omega | (simp <;> omega)); done))))); have s0_51 : w51.cell? ⟨w.heap.size, 0, none⟩ = some (.int .i64 d) := (by first | exact keeps hb s0_50 | exact keeps1 hb s0_50 | exact keeps hb (cell_alloc s0_50 _) | exact keeps hb (cell_alloc (cell_drew s0_50) _)); have s1_51 : w51.cell? ⟨w.heap.size, 1, none⟩ = some (.int .i64 f) := (by first | exact keeps hb s1_50 | exact keeps1 hb s1_50 | exact keeps hb (cell_alloc s1_50 _) | exact keeps hb (cell_alloc (cell_drew s1_50) _)); have s2_51 : w51.cell? ⟨w.heap.size, 2, none⟩ = some (.int .i64 l) := (by first | exact keeps hb s2_50 | exact keeps1 hb s2_50 | exact keeps hb (cell_alloc s2_50 _) | exact keeps hb (cell_alloc (cell_drew s2_50) _)); have s3_51 : w51.cell? ⟨w.heap.size, 3, none⟩ = some (.slice (some ⟨g, 0, none⟩) n c) := (by first | exact keeps hb s3_50 | exact keeps1 hb s3_50 | exact keeps hb (cell_alloc s3_50 _) | exact keeps hb (cell_alloc (cell_drew s3_50) _)); have s4_51 : w51.cell? ⟨g, i, none⟩ = some (.int .i64 hi) := (by first | exact keeps hb s4_50 | exact keeps1 hb s4_50 | exact keeps hb (cell_alloc s4_50 _) | exact keeps hb (cell_alloc (cell_drew s4_50) _)); have s5_51 : w51.cell? ⟨g, k, none⟩ = some (.int .i64 hk) := (by first | exact keeps hb s5_50 | exact keeps1 hb s5_50 | exact keeps hb (cell_alloc s5_50 _) | exact keeps hb (cell_alloc (cell_drew s5_50) _)); (first | (have SZ51 := Lib.hid (SZ50.out.later hb)) | (have SZ51 := Lib.hid (mk_fresh1 hb)) | (have SZ51 := Lib.hid (mk_fresh2 hb)) | (have SZ51 := Lib.hid (mk_fresh hb)) | skip); (first | (have zl51 := SZ51.out.lt) | skip); (first | (have SZZ := SZ51; have z0_ := SZZ.out.cell 0 _ rfl; have z1_ := SZZ.out.cell 1 _ rfl; have z2_ := SZZ.out.cell 2 _ rfl; have z3_ := SZZ.out.cell 3 _ rfl; have zf_ := SZZ.out.free; have zl_ := SZZ.out.lt) | skip))))
    all_goals (go_wp2_with fail; go_meet)
    all_goals first
      | exact ⟨_, rfl, SInv.fresh _ _ _, (show _ ≤ _ by omega), bl_alloc (by omega) _ HX51.out⟩
      | exact ⟨_, rfl, (Lib.hid (by simpa using ((((SZZ.out.set 0 (by simp) (.int .i64 (OK - OI))).set 1 (by simp) (.int .i64 hi)).set 2 (by simp) (.int .i64 hk)).set 3 (by simp) (.slice none 0 0)))), (show _ ≤ _ by omega), (Lib.hid (by repeat (first | (with_reducible exact Below.refl _ _) | (with_reducible assumption) | ((with_reducible refine bl_alloc ?_ _ ?_); (focus ((first | omega | (simp <;> omega)); done))) | ((with_reducible refine bl_set ?_ _ ?_); (focus ((first | omega | (simp <;> omega)); done))) | (with_reducible refine below_drewN ?_ _) | (with_reducible refine Below.drew ?_) | ((with_reducible refine bl_trans ?_ HX51.out ?_); (focus ((first | omega | (simp <;> omega)); done))))))⟩
  obtain ⟨O_, hpp, hSI0, ho, hbx0⟩ := hcut
  subst hpp
  obtain ⟨wy_, hw_⟩ : ∃ x, x = wc := ⟨_, rfl⟩
  rw [← hw_] at hSI0 hbx0 ⊢
  clear hw_
  obtain ⟨i0, hi_, hz0, hz1, hz2⟩ := info_parts Try.info_i64
  have HI := Lib.hid hi_
  have HZ0 := Lib.hid hz0
  have HZ1 := Lib.hid hz1
  have HZ2 := Lib.hid hz2
  clear hi_ hz0 hz1 hz2
  have hbY := hbx0.out
  have zY := hbY.size
  have lO0 := hSI0.out.lt
  have y3 := hSI0.out.cell 3 _ rfl
  have yB := keeps hbY E3.out
  have hO_ := ho.out
  have HNV := Lib.hid (news_view (w := wy_) (xs := PH) (n := k + 1 - i) HPH.out.symm (HPV.out wy_ (k + 1 - i) rfl (fun q hq => by rw [← HN.out] at hq; exact (hbY.cell (p := ⟨g, q, none⟩) (by show g < W0.heap.size; have := HW0.out.size; omega)).trans (keeps HW0.out (HC.out q hq)))))
  go_wp2_with fail
  go_region_law (first | (refine step_append_lies _ (by rfl) _ _ _ (by rfl) W0.heap.size 2 i0 (.int .i64 0) 1 8 Try.underlying22 HI.out HZ0.out HZ1.out HZ2.out rfl (by omega) (.slice none 0 0) 0 [] (by rfl) (World.ownsRow_nil _ W0.heap.size 2 1) ⟨g, i, none⟩ (k + 1 - i) (c - i) (PH.map (Value.int .i64)) (by rfl) (by rw [List.length_map, HPH.out]; omega) HNV.out (news_one PH) (by omega) (by unfold maxLen; omega) (by omega) (by simp <;> omega) wy_.heap.size (by simp) ?_; intro g3 cap3 w3 hown hgrow hat hlt3; have hb3 : Below wy_.heap.size wy_ w3 := ⟨hgrow.os, hgrow.tape, hgrow.output, hgrow.size, fun k hk => hgrow.block k hk (fun he => by cases he)⟩; have q2 := keeps hb3 y3; have qf := (SInv.later hSI0.out hb3).free 3))
  all_goals
    have hg3 : g3 = wy_.heap.size := by rcases hat with h | h; (cases h); exact h
    have hbR : Row 2 w3 W0.heap.size (.slice (some ⟨g3, 0, none⟩) (k + 1 - i) cap3) PH := by
      have h := app_rows (ys := []) rfl (HPH.out.symm) hown
      simpa using h
    have hnR : Value.ownBlock (.slice (some ⟨g3, 0, none⟩) (k + 1 - i) cap3) ≠ some O_ := by
      intro q
      simp [Value.ownBlock] at q
      omega
    have hSI := Lib.hid (show SInv (w3.setCell ⟨O_, 3, none⟩ (.slice (some ⟨g3, 0, none⟩) (k + 1 - i) cap3)) O_ [.int .i64 (OK - OI), .int .i64 hi, .int .i64 hk, .slice (some ⟨g3, 0, none⟩) (k + 1 - i) cap3] from by have h := (SInv.later hSI0.out hb3).set 3 (by simp) (.slice (some ⟨g3, 0, none⟩) (k + 1 - i) cap3); simpa using h)
    have hr0 := Lib.hid (Row.other hbR hnR (.slice (some ⟨g3, 0, none⟩) (k + 1 - i) cap3) (p := ⟨O_, 3, none⟩))
    have hn0 := Lib.hid hnR
    have hbx := Lib.hid (show Below W0.heap.size W0 (w3.setCell ⟨O_, 3, none⟩ (.slice (some ⟨g3, 0, none⟩) (k + 1 - i) cap3)) from (hbY.trans (hb3.mono hbY.size)).setCell hO_ _)
    obtain ⟨wx_, hwx⟩ : ∃ W, W = w3.setCell ⟨O_, 3, none⟩ (.slice (some ⟨g3, 0, none⟩) (k + 1 - i) cap3) := ⟨_, rfl⟩
    (try simp only [Nat.zero_add])
    rw [← hwx] at hSI hr0 hbx ⊢
    clear hwx hgrow hown hat hlt3 hb3 q2 qf hbR hnR hbY yB y3
    have HBX := Lib.hid (show Below w.heap.size w wx_ from HW0.out.trans (hbx.out.mono HW0.out.size))
    have hb := hbx.out
    have z_ := hb.size
    have hO := ho.out
    have lO := hSI.out.lt
    have q0 := keeps hb E0.out
    have q1 := keeps hb E1.out
    have q2 := keeps hb E2.out
    have q3 := keeps hb E3.out
    have y0 := hSI.out.cell 0 _ rfl
    have y1 := hSI.out.cell 1 _ rfl
    have y2 := hSI.out.cell 2 _ rfl
    have y3 := hSI.out.cell 3 _ rfl
    have yf := hSI.out.free
    have SZX := Lib.hid (SZ0.out.later hb)
    have SBX := Lib.hid (SB.out.later hb)
    have hOw : w.heap.size ≤ O_ := by omega
    have z0 := SZX.out.cell 0 _ rfl
    have z1 := SZX.out.cell 1 _ rfl
    have z2 := SZX.out.cell 2 _ rfl
    have z3 := SZX.out.cell 3 _ rfl
    have zf := SZX.out.free
    have m1 : ¬ O_ = w.heap.size := by omega
    have m2 : ¬ w.heap.size = O_ := by omega
    have m3 : ¬ O_ = w.heap.size + 1 := by omega
    have m4 : ¬ w.heap.size + 1 = O_ := by omega
    have w1 : IntKind.i64.wrap ((n : Int) - 1) = (n : Int) - 1 := by rw [IntKind.wrap_i64]; omega
    clear hb j1 j2 s0 s1 s2 s3 s4 s5 bk0 bk1 bi0 bi1
    by_cases h0i : i = 0
    · by_cases h0k : k = n - 1
      · have b0 : ((i : Int) == 0) = true := by rw [beq_iff_eq]; omega
        have b1 : ((k : Int) == (n : Int) - 1) = true := by rw [beq_iff_eq]; omega
        have eF : Hid (FF = f) := by show _ = _; rw [hF.out, if_pos h0i]
        have eL : Hid (LL = l) := by show _ = _; rw [hL.out, if_pos h0k]
        clear h0i h0k
        go_wp2_with fail
        refine (last_any _ d f l _ n c (by omega)).mono ?_
        rintro e w9 ⟨rfl, hb9⟩
        have SO9 := Lib.hid (SInv.later (hSI.out.set 1 (by simp) (.int .i64 f)) hb9)
        have SB9 := Lib.hid (SInv.later (SBX.out.other (p := ⟨O_, 1, none⟩) m1 (.int .i64 f)) hb9)
        have SZ9 := Lib.hid (SInv.later (SZX.out.other (p := ⟨O_, 1, none⟩) m3 (.int .i64 f)) hb9)
        have RR9 := Lib.hid (Row.later (Row.other hr0.out hn0.out (.int .i64 f) (p := ⟨O_, 1, none⟩)) hb9)
        have hw9 : Below w.heap.size w w9 := (HBX.out.setCell (p := ⟨O_, 1, none⟩) hOw (.int .i64 f)).trans (hb9.mono ((HBX.out.setCell (p := ⟨O_, 1, none⟩) hOw (.int .i64 f))).size)
        have HB9 := Lib.hid hw9
        have lO9 := SO9.out.lt
        clear hw9 hb9 y0 y1 y2 y3 yf z0 z1 z2 z3 zf q0 q1 q2 q3
        have y0 := SO9.out.cell 0 _ rfl
        have y1 := SO9.out.cell 1 _ rfl
        have y2 := SO9.out.cell 2 _ rfl
        have y3 := SO9.out.cell 3 _ rfl
        have yf := SO9.out.free
        have q2 := SB9.out.cell 2 _ rfl
        have z0 := SZ9.out.cell 0 _ rfl
        have z1 := SZ9.out.cell 1 _ rfl
        have z2 := SZ9.out.cell 2 _ rfl
        have z3 := SZ9.out.cell 3 _ rfl
        have zf := SZ9.out.free
        go_wp2_with fail
        refine bodyPost_ret (v := .agg #[.int .i64 (OK - OI), .int .i64 f, .int .i64 l, (.slice (some ⟨g3, 0, none⟩) (k + 1 - i) cap3)]) (by simp [results, Try.results65, go_sem, *]) rfl ?_
        refine ⟨some ⟨g3, 0, none⟩, k + 1 - i, cap3, by rw [hD.out, eF.out, eL.out], ?_, by repeat (first | (with_reducible exact Below.refl _ _) | (with_reducible assumption) | ((with_reducible refine bl_alloc ?_ _ ?_); (focus ((first | omega | (simp <;> omega)); done))) | ((with_reducible refine bl_set ?_ _ ?_); (focus ((first | omega | (simp <;> omega)); done))) | (with_reducible refine below_drewN ?_ _) | (with_reducible refine Below.drew ?_) | ((with_reducible refine bl_trans ?_ HB9.out ?_); (focus ((first | omega | (simp <;> omega)); done))))⟩
        refine Row.base_le (base := W0.heap.size) ?_ (by omega)
        repeat (first | (with_reducible exact RR9.out) | ((with_reducible refine Row.low ?_ _ ?_); (focus ((first | omega | (simp <;> omega)); done))) | (with_reducible refine Row.other ?_ (by exact hn0.out) _))
      · have b0 : ((i : Int) == 0) = true := by rw [beq_iff_eq]; omega
        have b1 : ((k : Int) == (n : Int) - 1) = false := by rw [beq_eq_false_iff_ne]; omega
        have eF : Hid (FF = f) := by show _ = _; rw [hF.out, if_pos h0i]
        have eL : Hid (LL = hk) := by show _ = _; rw [hL.out, if_neg h0k]
        clear h0i h0k
        go_wp2_with fail
        refine (last_any _ d f l _ n c (by omega)).mono ?_
        rintro e w9 ⟨rfl, hb9⟩
        have SO9 := Lib.hid (SInv.later (hSI.out.set 1 (by simp) (.int .i64 f)) hb9)
        have SB9 := Lib.hid (SInv.later (SBX.out.other (p := ⟨O_, 1, none⟩) m1 (.int .i64 f)) hb9)
        have SZ9 := Lib.hid (SInv.later (SZX.out.other (p := ⟨O_, 1, none⟩) m3 (.int .i64 f)) hb9)
        have RR9 := Lib.hid (Row.later (Row.other hr0.out hn0.out (.int .i64 f) (p := ⟨O_, 1, none⟩)) hb9)
        have hw9 : Below w.heap.size w w9 := (HBX.out.setCell (p := ⟨O_, 1, none⟩) hOw (.int .i64 f)).trans (hb9.mono ((HBX.out.setCell (p := ⟨O_, 1, none⟩) hOw (.int .i64 f))).size)
        have HB9 := Lib.hid hw9
        have lO9 := SO9.out.lt
        clear hw9 hb9 y0 y1 y2 y3 yf z0 z1 z2 z3 zf q0 q1 q2 q3
        have y0 := SO9.out.cell 0 _ rfl
        have y1 := SO9.out.cell 1 _ rfl
        have y2 := SO9.out.cell 2 _ rfl
        have y3 := SO9.out.cell 3 _ rfl
        have yf := SO9.out.free
        have q2 := SB9.out.cell 2 _ rfl
        have z0 := SZ9.out.cell 0 _ rfl
        have z1 := SZ9.out.cell 1 _ rfl
        have z2 := SZ9.out.cell 2 _ rfl
        have z3 := SZ9.out.cell 3 _ rfl
        have zf := SZ9.out.free
        go_wp2_with fail
        refine bodyPost_ret (v := .agg #[.int .i64 (OK - OI), .int .i64 f, .int .i64 hk, (.slice (some ⟨g3, 0, none⟩) (k + 1 - i) cap3)]) (by simp [results, Try.results65, go_sem, *]) rfl ?_
        refine ⟨some ⟨g3, 0, none⟩, k + 1 - i, cap3, by rw [hD.out, eF.out, eL.out], ?_, by repeat (first | (with_reducible exact Below.refl _ _) | (with_reducible assumption) | ((with_reducible refine bl_alloc ?_ _ ?_); (focus ((first | omega | (simp <;> omega)); done))) | ((with_reducible refine bl_set ?_ _ ?_); (focus ((first | omega | (simp <;> omega)); done))) | (with_reducible refine below_drewN ?_ _) | (with_reducible refine Below.drew ?_) | ((with_reducible refine bl_trans ?_ HB9.out ?_); (focus ((first | omega | (simp <;> omega)); done))))⟩
        refine Row.base_le (base := W0.heap.size) ?_ (by omega)
        repeat (first | (with_reducible exact RR9.out) | ((with_reducible refine Row.low ?_ _ ?_); (focus ((first | omega | (simp <;> omega)); done))) | (with_reducible refine Row.other ?_ (by exact hn0.out) _))
    · by_cases h0k : k = n - 1
      · have b0 : ((i : Int) == 0) = false := by rw [beq_eq_false_iff_ne]; omega
        have b1 : ((k : Int) == (n : Int) - 1) = true := by rw [beq_iff_eq]; omega
        have eF : Hid (FF = hi) := by show _ = _; rw [hF.out, if_neg h0i]
        have eL : Hid (LL = l) := by show _ = _; rw [hL.out, if_pos h0k]
        clear h0i h0k
        go_wp2_with fail
        refine (last_any _ d f l _ n c (by omega)).mono ?_
        rintro e w9 ⟨rfl, hb9⟩
        have SO9 := Lib.hid (SInv.later hSI.out hb9)
        have SB9 := Lib.hid (SInv.later SBX.out hb9)
        have SZ9 := Lib.hid (SInv.later SZX.out hb9)
        have RR9 := Lib.hid (Row.later hr0.out hb9)
        have hw9 : Below w.heap.size w w9 := HBX.out.trans (hb9.mono (HBX.out).size)
        have HB9 := Lib.hid hw9
        have lO9 := SO9.out.lt
        clear hw9 hb9 y0 y1 y2 y3 yf z0 z1 z2 z3 zf q0 q1 q2 q3
        have y0 := SO9.out.cell 0 _ rfl
        have y1 := SO9.out.cell 1 _ rfl
        have y2 := SO9.out.cell 2 _ rfl
        have y3 := SO9.out.cell 3 _ rfl
        have yf := SO9.out.free
        have q2 := SB9.out.cell 2 _ rfl
        have z0 := SZ9.out.cell 0 _ rfl
        have z1 := SZ9.out.cell 1 _ rfl
        have z2 := SZ9.out.cell 2 _ rfl
        have z3 := SZ9.out.cell 3 _ rfl
        have zf := SZ9.out.free
        go_wp2_with fail
        refine bodyPost_ret (v := .agg #[.int .i64 (OK - OI), .int .i64 hi, .int .i64 l, (.slice (some ⟨g3, 0, none⟩) (k + 1 - i) cap3)]) (by simp [results, Try.results65, go_sem, *]) rfl ?_
        refine ⟨some ⟨g3, 0, none⟩, k + 1 - i, cap3, by rw [hD.out, eF.out, eL.out], ?_, by repeat (first | (with_reducible exact Below.refl _ _) | (with_reducible assumption) | ((with_reducible refine bl_alloc ?_ _ ?_); (focus ((first | omega | (simp <;> omega)); done))) | ((with_reducible refine bl_set ?_ _ ?_); (focus ((first | omega | (simp <;> omega)); done))) | (with_reducible refine below_drewN ?_ _) | (with_reducible refine Below.drew ?_) | ((with_reducible refine bl_trans ?_ HB9.out ?_); (focus ((first | omega | (simp <;> omega)); done))))⟩
        refine Row.base_le (base := W0.heap.size) ?_ (by omega)
        repeat (first | (with_reducible exact RR9.out) | ((with_reducible refine Row.low ?_ _ ?_); (focus ((first | omega | (simp <;> omega)); done))) | (with_reducible refine Row.other ?_ (by exact hn0.out) _))
      · have b0 : ((i : Int) == 0) = false := by rw [beq_eq_false_iff_ne]; omega
        have b1 : ((k : Int) == (n : Int) - 1) = false := by rw [beq_eq_false_iff_ne]; omega
        have eF : Hid (FF = hi) := by show _ = _; rw [hF.out, if_neg h0i]
        have eL : Hid (LL = hk) := by show _ = _; rw [hL.out, if_neg h0k]
        clear h0i h0k
        go_wp2_with fail
        refine (last_any _ d f l _ n c (by omega)).mono ?_
        rintro e w9 ⟨rfl, hb9⟩
        have SO9 := Lib.hid (SInv.later hSI.out hb9)
        have SB9 := Lib.hid (SInv.later SBX.out hb9)
        have SZ9 := Lib.hid (SInv.later SZX.out hb9)
        have RR9 := Lib.hid (Row.later hr0.out hb9)
        have hw9 : Below w.heap.size w w9 := HBX.out.trans (hb9.mono (HBX.out).size)
        have HB9 := Lib.hid hw9
        have lO9 := SO9.out.lt
        clear hw9 hb9 y0 y1 y2 y3 yf z0 z1 z2 z3 zf q0 q1 q2 q3
        have y0 := SO9.out.cell 0 _ rfl
        have y1 := SO9.out.cell 1 _ rfl
        have y2 := SO9.out.cell 2 _ rfl
        have y3 := SO9.out.cell 3 _ rfl
        have yf := SO9.out.free
        have q2 := SB9.out.cell 2 _ rfl
        have z0 := SZ9.out.cell 0 _ rfl
        have z1 := SZ9.out.cell 1 _ rfl
        have z2 := SZ9.out.cell 2 _ rfl
        have z3 := SZ9.out.cell 3 _ rfl
        have zf := SZ9.out.free
        go_wp2_with fail
        refine bodyPost_ret (v := .agg #[.int .i64 (OK - OI), .int .i64 hi, .int .i64 hk, (.slice (some ⟨g3, 0, none⟩) (k + 1 - i) cap3)]) (by simp [results, Try.results65, go_sem, *]) rfl ?_
        refine ⟨some ⟨g3, 0, none⟩, k + 1 - i, cap3, by rw [hD.out, eF.out, eL.out], ?_, by repeat (first | (with_reducible exact Below.refl _ _) | (with_reducible assumption) | ((with_reducible refine bl_alloc ?_ _ ?_); (focus ((first | omega | (simp <;> omega)); done))) | ((with_reducible refine bl_set ?_ _ ?_); (focus ((first | omega | (simp <;> omega)); done))) | (with_reducible refine below_drewN ?_ _) | (with_reducible refine Below.drew ?_) | ((with_reducible refine bl_trans ?_ HB9.out ?_); (focus ((first | omega | (simp <;> omega)); done))))⟩
        refine Row.base_le (base := W0.heap.size) ?_ (by omega)
        repeat (first | (with_reducible exact RR9.out) | ((with_reducible refine Row.low ?_ _ ?_); (focus ((first | omega | (simp <;> omega)); done))) | (with_reducible refine Row.other ?_ (by exact hn0.out) _))
end Go.Proofs.Ytedpdcdmemenhaa
