/- The plain law of CasefoldDivides: orbits are the same or lie apart. No program in sight. -/
import Derived.Test.YtdgboklnhmfhoaaGreatDoorG17
import Derived.Test.YtdgboklnhmfhoaaGreatDoorV3
namespace Go.Proofs.YtdgboklnhmfhoaaGreatDoor.G
open Go.RowKit Go.Proofs.YtdgboklnhmfhoaaGreatDoorW.PrintWords Go.Proofs.YtdgboklnhmfhoaaGreatDoorW.PrintLast Go.Proofs.YtdgboklnhmfhoaaGreatDoorW.PrintMore
set_option linter.unusedVariables false
theorem match_ev {l0 l1 l2 l3 : List S44} {l4 l5 : List S87} (h : smallP l3) (h4 : l4.length ≤ 12) (h5 : l5.length ≤ 12) (x y : Int) :
    Ev (fun k => casefold_Match.f k [] [] [] l0 l1 l2 l3 l4 l5 [x] [y] 0) (decide (fold1 (foldList l0 l1 l2 l3 l4 l5) x = fold1 (foldList l0 l1 l2 l3 l4 l5) y)) := by
  have hf : ∀ c, casefold_Form.f [] [] [] l0 l1 l2 l3 l4 l5 [c] 0 = some (fold1 (foldList l0 l1 l2 l3 l4 l5) c) := fun c => by
    rw [casefold_Form.f, if_pos rfl, fold_f h h4 h5 (by simp)]
    simp [foldT]
  have hl := fold1_length (l0 := l0) (l1 := l1) (l2 := l2) (l4 := l4) (l5 := l5) h x
  refine Ev.congr (f := fun k => (slices_Equal_int_int.f k (fold1 (foldList l0 l1 l2 l3 l4 l5) x) (fold1 (foldList l0 l1 l2 l3 l4 l5) y)).bind fun t => some t) (fun k => ?_) (Ev.bind (f := fun _ t => some t) (sequal_ev _ _ (by omega)) (Ev.now _))
  rw [casefold_Match.f, hf x, hf y]
  rfl
section
variable (l0 l1 l2 l3 : List S44) (l4 l5 : List S87) (x y : Int) (a b : List Int) (same : Bool)
/-- The loops: no pair of equal elements stops them. -/
theorem divides_l0 (ha : a.length < 1000) (hb : b.length < 1000) (hd : ∀ i j : Nat, i < a.length → j < b.length → a.getD i 0 = b.getD j 0 → same = true)
    (hm : Ev (fun k => casefold_Match.f k [] [] [] l0 l1 l2 l3 l4 l5 [x] [y] 0) same) (d : Nat) :
    ∀ i : Nat, i ≤ a.length → a.length - i = d → Ev (fun k => unicodetextlaw38_CasefoldDivides.l0 k x y a b same i l0 l1 l2 l3 l4 l5) true := by
  induction d with
  | zero =>
    intro i hi hdd
    refine Ev.step (f := fun k => (casefold_Match.f k [] [] [] l0 l1 l2 l3 l4 l5 [x] [y] 0).bind fun t383 => (if (same == t383) = true then ((unicodetextlaw38_awake.f).bind fun t384 => (some t384)) else (some false))) (fun k => by rw [unicodetextlaw38_CasefoldDivides.l0, if_neg (by omega)]) ?_
    exact Ev.bind (f := fun _ t383 => (if (same == t383) = true then ((unicodetextlaw38_awake.f).bind fun t384 => (some t384)) else (some false))) hm (Ev.congr (f := fun _ => some true) (fun k => by rw [if_pos (by simp)]; rfl) (Ev.now _))
  | succ d ih =>
    intro i hi hdd
    have hia : i < a.length := by omega
    have inner : ∀ (e j : Nat), j ≤ b.length → b.length - j = e → Ev (fun k => unicodetextlaw38_CasefoldDivides.l1 k x y a b same i j l0 l1 l2 l3 l4 l5) true := by
      intro e
      induction e with
      | zero =>
        intro j hj he
        refine Ev.step (f := fun k => unicodetextlaw38_CasefoldDivides.l0 k x y a b same ((i + 1 : Nat) : Int) l0 l1 l2 l3 l4 l5) (fun k => by rw [unicodetextlaw38_CasefoldDivides.l1, if_neg (by omega), w64n (by omega)]) (ih (i + 1) (by omega) (by omega))
      | succ e ihj =>
        intro j hj he
        have hjb : j < b.length := by omega
        refine Ev.step (f := fun k => unicodetextlaw38_CasefoldDivides.l1 k x y a b same i ((j + 1 : Nat) : Int) l0 l1 l2 l3 l4 l5) (fun k => ?_) (ihj (j + 1) (by omega) (by omega))
        rw [unicodetextlaw38_CasefoldDivides.l1, if_pos (by omega), if_pos (by omega), if_pos (by omega), if_pos (by omega), w64n (by omega)]
        by_cases hr : rd a (i : Int) = rd b (j : Int)
        · rw [if_pos hr, if_pos (hd i j hia hjb hr)]
        · rw [if_neg hr]
    exact Ev.step (f := fun k => unicodetextlaw38_CasefoldDivides.l1 k x y a b same i ((0 : Nat) : Int) l0 l1 l2 l3 l4 l5) (fun k => by rw [unicodetextlaw38_CasefoldDivides.l0, if_pos (by omega)]; rfl) (inner b.length 0 (Nat.zero_le _) rfl)
theorem divides_out : Ev (fun k => unicodetextlaw38_CasefoldDivides.j0 k x y true l0 l1 l2 l3 l4 l5) true :=
  Ev.step (f := fun _ => some true) (fun k => by rw [unicodetextlaw38_CasefoldDivides.j0, if_pos rfl]; rfl) (Ev.now _)
end
theorem divides_in (l0 l1 l2 l3 : List S44) (l4 l5 : List S87) (h : smallP l3) (h4 : l4.length ≤ 12) (h5 : l5.length ≤ 12) (x y : Int) (hx : 0 ≤ x ∧ x ≤ 1114111) (hy : 0 ≤ y ∧ y ≤ 1114111) :
    Ev (fun k => unicodetextlaw38_CasefoldDivides.j0 k x y false l0 l1 l2 l3 l4 l5) true := by
  have hn := foldList_nodup l0 l1 l2 l3 l4 l5
  have hs := (foldList_sub l0 l1 l2 l3 l4 l5).1
  have h20 := h.1
  have la := orbit_length (foldList l0 l1 l2 l3 l4 l5) x
  have lb := orbit_length (foldList l0 l1 l2 l3 l4 l5) y
  have hme := match_ev (l0 := l0) (l1 := l1) (l2 := l2) h h4 h5 x y
  have hox := orbit_f (l0 := l0) (l1 := l1) (l2 := l2) h h4 h5 hx
  have hoy := orbit_f (l0 := l0) (l1 := l1) (l2 := l2) h h4 h5 hy
  generalize foldList l0 l1 l2 l3 l4 l5 = FL at hn hs la lb hme hox hoy
  have hse : decide (orbitL FL x = orbitL FL y) = decide (fold1 FL x = fold1 FL y) := by
    by_cases e : fold1 FL x = fold1 FL y
    · rw [decide_eq_true e, decide_eq_true ((orbit_eq hn).2 e)]
    · rw [decide_eq_false e, decide_eq_false (fun q => e ((orbit_eq hn).1 q))]
  refine Ev.step (f := fun k => (unicodetextref01_Equal.f k (orbitL FL x) (orbitL FL y)).bind fun t376 => (unicodetextlaw38_CasefoldDivides.l0 k x y (orbitL FL x) (orbitL FL y) t376 0 l0 l1 l2 l3 l4 l5)) (fun k => ?_) ?_
  · rw [unicodetextlaw38_CasefoldDivides.j0, if_neg (by simp), hox, hoy]
    rfl
  · refine Ev.bind (equal01_ev _ _ (by omega)) ?_
    refine divides_l0 l0 l1 l2 l3 l4 l5 x y (orbitL FL x) (orbitL FL y) _ (by omega) (by omega) (fun i j hi hj e => ?_) (by rw [hse]; exact hme) _ 0 (Nat.zero_le _) rfl
    rw [hse]
    have e1 : (orbitL FL x).getD i 0 ∈ orbitL FL x := by rw [List.getD_eq_getElem?_getD, List.getElem?_eq_getElem hi]; exact List.getElem_mem hi
    have e2 : (orbitL FL y).getD j 0 ∈ orbitL FL y := by rw [List.getD_eq_getElem?_getD, List.getElem?_eq_getElem hj]; exact List.getElem_mem hj
    have g1 := orbit_mem hn e1
    have g2 := orbit_mem hn e2
    rw [e] at g1
    exact decide_eq_true (g1.symm.trans g2)
theorem divides_pure (l0 l1 l2 l3 : List S44) (l4 l5 : List S87) (x y : Int) :
    ∃ k, unicodetextlaw38_CasefoldDivides.f k l0 l1 l2 l3 l4 l5 x y = some true := by
  refine Ev.rounds ?_
  obtain ⟨r, er, hr⟩ := few_ev l0 l1 l2 l3 l4 l5 [] []
  have hv : ∀ c : Int, unicodetextref01_Valid.f c = some (decide (0 ≤ c ∧ c ≤ 1114111)) := fun c => by
    unfold unicodetextref01_Valid.f
    by_cases h1 : c ≥ 0
    · rw [if_pos h1]
      have : decide (c ≤ 1114111) = decide (0 ≤ c ∧ c ≤ 1114111) := by
        by_cases h2 : c ≤ 1114111
        · rw [decide_eq_true h2, decide_eq_true ⟨h1, h2⟩]
        · rw [decide_eq_false h2, decide_eq_false (fun q => h2 q.2)]
      rw [this]
    · rw [if_neg h1, decide_eq_false (fun q => h1 q.1)]
  cases r with
  | false => exact Ev.bind er (Ev.congr (f := fun k => unicodetextlaw38_CasefoldDivides.j0 k x y true l0 l1 l2 l3 l4 l5) (fun k => by rw [if_neg (by simp)]) (divides_out _ _ _ _ _ _ _ _))
  | true =>
    obtain ⟨_, _, _, p3, h4, h5, _, _⟩ := hr rfl
    refine Ev.bind er ?_
    by_cases hx : 0 ≤ x ∧ x ≤ 1114111
    · by_cases hy : 0 ≤ y ∧ y ≤ 1114111
      · refine Ev.congr (f := fun k => unicodetextlaw38_CasefoldDivides.j0 k x y false l0 l1 l2 l3 l4 l5) (fun k => ?_) (divides_in l0 l1 l2 l3 l4 l5 p3 h4 h5 x y hx hy)
        rw [if_pos rfl, hv x, hv y, decide_eq_true hx, decide_eq_true hy]
        rfl
      · refine Ev.congr (f := fun k => unicodetextlaw38_CasefoldDivides.j0 k x y true l0 l1 l2 l3 l4 l5) (fun k => ?_) (divides_out _ _ _ _ _ _ _ _)
        rw [if_pos rfl, hv x, hv y, decide_eq_true hx, decide_eq_false hy]
        rfl
    · refine Ev.congr (f := fun k => unicodetextlaw38_CasefoldDivides.j0 k x y true l0 l1 l2 l3 l4 l5) (fun k => ?_) (divides_out _ _ _ _ _ _ _ _)
      rw [if_pos rfl, hv x, decide_eq_false hx]
      rfl
end Go.Proofs.YtdgboklnhmfhoaaGreatDoor.G
