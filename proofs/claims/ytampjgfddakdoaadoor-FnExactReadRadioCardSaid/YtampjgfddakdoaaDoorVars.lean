/-
  The last step of a law's row whose specification lists package-level variables: they read behind the call as before. Over any program.
-/
import Derived.Test.YtampjgfddakdoaaDoorLib
import Derived.LaidMore
import Derived.LaidLaws
import Derived.Stop.Joined
namespace Go.Proofs.YtampjgfddakdoaaDoor
open Go.RowKit Go.ChangeShapes Go.WideShapes Go.ChangeAt
set_option linter.unusedVariables false
section
variable {H : Type} {enc : TypeId × Value → H} {P : Program}
theorem trodVars_stays (hl : laidOutB P = true) {W W' : World} {sp' : Nat → Bool} (hb : Below W.heap.size W W') : ∀ {ns : List String} {gs : List (DataW H)} {ps : List MemPlace},
    (∀ n ∈ ns, ∀ g t, P.globalNamed n = some g → (P.globals[g]?).map (·.type) = some t → P.readableRec t = true ∧ t < P.types.size) → DataW.TrodVars enc P W (fun _ => true) ns gs ps → (∀ p ∈ ps, W.sameAt W' p) → (∀ p ∈ ps, sp' p.block = true) →
    DataW.TrodVars enc P W' sp' ns gs ps
  | [], gs, ps, _, h, _, _ => by
    obtain ⟨rfl, rfl⟩ := trodVars_none h
    rfl
  | n :: ns, [], ps, _, h, _, _ => by simp [DataW.TrodVars] at h
  | n :: ns, d :: gs, ps, ht, h, hs, hsp => by
    obtain ⟨g, t, cs, fuel, p, q, hg, hty, hv, hd, hr, rfl⟩ := h
    obtain ⟨h1, h2⟩ := ht n (List.mem_cons_self ..) g t hg hty
    refine ⟨g, t, cs, fuel, p, q, hg, hty, ?_, ?_, trodVars_stays hl hb (fun n' h' => ht n' (List.mem_cons_of_mem _ h')) hr (fun x hx => hs x (List.mem_append_right _ hx)) (fun x hx => hsp x (List.mem_append_right _ hx)), rfl⟩
    · have hlt : g < W.heap.size := by
        rcases Nat.lt_or_ge g W.heap.size with hlt | hge
        · exact hlt
        · simp only [World.var?, hg, Option.bind_some] at hv
          rw [Array.getElem?_eq_none hge] at hv
          cases hv
      simp only [World.var?, hg, Option.bind_some] at hv ⊢
      rw [hb.block g hlt]
      exact hv
    · exact DataW.trod_stays (kids_book hl h1) (book_sized h1) (fun h => by cases h) ⟨h2, book_self t⟩ hd (fun x hx => hs x (List.mem_append_left _ (List.mem_append_right _ hx)))
        (fun x hx => hsp x (List.mem_append_left _ (List.mem_append_right _ hx)))

theorem law_postV {f : Func} {s : ChangeSpec} {tb : TypeId} {W W' : World} {args : Array Value} {ds gs : List (DataW H)} {before : List MemPlace}
    (hW : DataW.Whole enc P f.params.toList s.vars false W args.toList ds gs before)
    (hfn : s.fn H (ds ++ gs) = { results := [.lit (.bool true)], args := ds, vars := gs }) (hl : laidOutB P = true)
    (hts : ∀ t ∈ f.params.toList, P.readableRec t = true ∧ t < P.types.size)
    (htv : ∀ n ∈ s.vars, ∀ g t, P.globalNamed n = some g → (P.globals[g]?).map (·.type) = some t → P.readableRec t = true ∧ t < P.types.size)
    (hr : f.resultTypes = #[tb]) (hb : P.underlying tb = some .bool) (hB : Below W.heap.size W W') :
    s.post enc P f false true false false W args (.bool true) W' := by
  have hlt := whole_lt hW
  have hold : ∀ p ∈ before, (fun b => decide (b < W.heap.size)) p.block = true := fun p hp => by simpa using hlt p hp
  have hW0 := hW
  obtain ⟨p, q, hA, hV, rfl, hfz, hnd⟩ := hW0
  have hres : ∀ (b : Nat) (sp : Nat → Bool) (hd : Bool), DataW.TrodAll enc P W' b sp hd f.resultTypes.toList ((Value.bool true).resultList f.resultTypes.size) (s.fn H (ds ++ gs)).results [] := by
    intro b sp hd
    rw [hr, hfn]
    exact trodAll_cons_mk (shut_bool hb true) trodAll_mk0
  have hargs : ∀ sp : Nat → Bool, (∀ x ∈ p, sp x.block = true) → DataW.TrodAll enc P W' 0 sp true f.params.toList args.toList (s.fn H (ds ++ gs)).args p := by
    intro sp hsp
    rw [hfn]
    exact trodAll_stays hl hts hA (fun x hx => hB.same (hlt x (List.mem_append_left _ hx))) hsp
  have hv0 : ∀ sp : Nat → Bool, (∀ x ∈ q, sp x.block = true) → DataW.TrodVars enc P W' sp s.vars (s.fn H (ds ++ gs)).vars q := by
    intro sp hsp
    rw [hfn]
    exact trodVars_stays hl hB htv hV (fun x hx => hB.same (hlt x (List.mem_append_right _ hx))) hsp
  refine ⟨ds, gs, p ++ q, [], p, q, hW, hres _ _ _, hargs _ (fun x hx => hold x (List.mem_append_left _ hx)), hv0 _ (fun x hx => hold x (List.mem_append_right _ hx)), World.keptBut_mono (fun x hx => ⟨hx, ?_⟩) (hB.frame (· ∈ p ++ q)), fun _ => ?_⟩
  · exact Or.inr (by simpa using hx)
  · refine ⟨ok_one hr rfl (okWide_bool_mk hb true), _, _, ([] ++ p) ++ q, ⟨[] ++ p, q, trodAll_append (hargs _ (fun _ _ => rfl)) (hres _ _ _), hv0 _ (fun _ _ => rfl), rfl, ?_, ?_⟩, ?_⟩
    · intro b off hx
      have hin : MemPlace.cell b off ∈ p ++ q := by simpa using hx
      rw [hB.frozen (hlt _ hin)]
      exact hfz b off hin
    · intro ha
      cases ha
    · intro x hx _
      simpa using hx
end
end Go.Proofs.YtampjgfddakdoaaDoor
