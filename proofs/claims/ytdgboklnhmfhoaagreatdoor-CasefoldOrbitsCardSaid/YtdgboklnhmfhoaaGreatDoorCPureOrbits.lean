/- The plain law of CasefoldOrbits. No program in sight. -/
import Derived.Test.YtdgboklnhmfhoaaGreatDoorCG19
import Derived.Test.YtdgboklnhmfhoaaGreatDoorCV11
namespace Go.Proofs.YtdgboklnhmfhoaaGreatDoor.G
open Go.RowKit Go.Proofs.YtdgboklnhmfhoaaGreatDoorW.PrintWords Go.Proofs.YtdgboklnhmfhoaaGreatDoorW.PrintLast Go.Proofs.YtdgboklnhmfhoaaGreatDoorW.PrintMore
set_option linter.unusedVariables false
section
variable (l0 l1 l2 l3 : List S44) (l4 l5 : List S87) (c : Int) (L : List Int)
theorem orbits_l0 (hL : L.length ≤ 1000) (ho : ∀ x ∈ L, casefold_Orbit.f l0 l1 l2 l3 l4 l5 x = some L) (d : Nat) : ∀ (i : Nat) (f : Bool), i ≤ L.length → L.length - i = d → (f = true ∨ c ∈ L.drop i) →
    Ev (fun k => unicodetextlaw38_CasefoldOrbits.l0 k c L f i l0 l1 l2 l3 l4 l5) true := by
  induction d with
  | zero =>
    intro i f hi hd hf
    have e : L.drop i = [] := List.drop_eq_nil_of_le (by omega)
    rw [e] at hf
    have hf1 : f = true := by
      rcases hf with h | h
      · exact h
      · cases h
    exact Ev.step (f := fun _ => some true) (fun k => by rw [unicodetextlaw38_CasefoldOrbits.l0, if_neg (by omega), if_pos hf1]; rfl) (Ev.now _)
  | succ d ih =>
    intro i f hi hd hf
    have h1 : i < L.length := by omega
    have inner : ∀ g : Bool, (g = true ∨ c ∈ L.drop (i + 1)) → Ev (fun k => unicodetextlaw38_CasefoldOrbits.j1 k c L g i l0 l1 l2 l3 l4 l5) true := fun g hg => by
      refine Ev.step (f := fun k => (unicodetextref01_Equal.f k L L).bind fun t399 => (if t399 = true then (unicodetextlaw38_CasefoldOrbits.l0 k c L g ((i + 1 : Nat) : Int) l0 l1 l2 l3 l4 l5) else (some false))) (fun k => ?_) ?_
      · rw [unicodetextlaw38_CasefoldOrbits.j1, if_pos (by omega), if_pos (by omega), rd_get h1, ho _ (List.getElem_mem h1), w64n (by omega)]
        rfl
      · refine Ev.bind (f := fun k t399 => (if t399 = true then (unicodetextlaw38_CasefoldOrbits.l0 k c L g ((i + 1 : Nat) : Int) l0 l1 l2 l3 l4 l5) else (some false))) (equal01_ev L L (by omega)) ?_
        exact Ev.congr (f := fun k => unicodetextlaw38_CasefoldOrbits.l0 k c L g ((i + 1 : Nat) : Int) l0 l1 l2 l3 l4 l5) (fun k => by rw [if_pos (decide_eq_true rfl)]) (ih (i + 1) g (by omega) (by omega) hg)
    cases f with
    | true => exact Ev.step (f := fun k => unicodetextlaw38_CasefoldOrbits.j1 k c L true i l0 l1 l2 l3 l4 l5) (fun k => by rw [unicodetextlaw38_CasefoldOrbits.l0, if_pos (by omega), if_pos rfl]) (inner true (.inl rfl))
    | false =>
      refine Ev.step (f := fun k => unicodetextlaw38_CasefoldOrbits.j1 k c L (L[i] == c) i l0 l1 l2 l3 l4 l5) (fun k => by rw [unicodetextlaw38_CasefoldOrbits.l0, if_pos (by omega), if_neg (by simp), if_pos (by omega), rd_get h1]) (inner (L[i] == c) ?_)
      rcases hf with h | h
      · cases h
      · rw [List.drop_eq_getElem_cons h1] at h
        rcases List.mem_cons.1 h with h | h
        · exact .inl (by rw [h]; exact beq_self_eq_true _)
        · exact .inr h
end
theorem orbits_pure (l0 l1 l2 l3 : List S44) (l4 l5 : List S87) (c : Int) :
    ∃ k, unicodetextlaw38_CasefoldOrbits.f k l0 l1 l2 l3 l4 l5 c = some true := by
  refine Ev.rounds ?_
  obtain ⟨r, er, hr⟩ := few_ev l0 l1 l2 l3 l4 l5 [] []
  cases r with
  | false => exact Ev.bind er (Ev.congr (f := fun _ => some true) (fun k => by rw [if_neg (by simp)]; rfl) (Ev.now _))
  | true =>
    obtain ⟨p0, p1, p2, p3, h4, h5, _, _⟩ := hr rfl
    have B := bulk_small p0 p1 p2 p3 h4 h5
    have h20 := p3.1
    have hs := (foldList_sub l0 l1 l2 l3 l4 l5).1
    have lo := orbit_length (foldList l0 l1 l2 l3 l4 l5) c
    have hn := foldList_nodup l0 l1 l2 l3 l4 l5
    have ho := orbit38_ev B p3 c
    refine Ev.bind er ?_
    have key : ∀ L : List Int, L.length ≤ 1000 → casefold_Orbit.f l0 l1 l2 l3 l4 l5 c = some L → Ev (fun k => unicodetextref38_Orbit.f k l0 l1 l2 l3 l4 l5 c) L → (∀ x ∈ L, casefold_Orbit.f l0 l1 l2 l3 l4 l5 x = some L) → ((!(!badCode c)) = true ∨ c ∈ L) →
        Ev (fun k => if true = true then ((casefold_Orbit.f l0 l1 l2 l3 l4 l5 c).bind fun t385 => ((unicodetextref38_Orbit.f k l0 l1 l2 l3 l4 l5 c).bind fun t388 => ((unicodetextref01_Equal.f k t385 t388).bind fun t391 => (if t391 = true then ((unicodetextref01_Valid.f c).bind fun t392 => (unicodetextlaw38_CasefoldOrbits.l0 k c t385 (!t392) 0 l0 l1 l2 l3 l4 l5)) else (some false))))) else ((unicodetextlaw38_awake.f).bind fun t384 => (some t384))) true := by
      intro L hL e1 e2 e3 e4
      refine Ev.congr (f := fun k => (unicodetextref38_Orbit.f k l0 l1 l2 l3 l4 l5 c).bind fun t388 => ((unicodetextref01_Equal.f k L t388).bind fun t391 => (if t391 = true then (unicodetextlaw38_CasefoldOrbits.l0 k c L (!(!badCode c)) ((0 : Nat) : Int) l0 l1 l2 l3 l4 l5) else (some false)))) (fun k => by rw [if_pos rfl, e1, valid01]; rfl) ?_
      refine Ev.bind (f := fun k t388 => ((unicodetextref01_Equal.f k L t388).bind fun t391 => (if t391 = true then (unicodetextlaw38_CasefoldOrbits.l0 k c L (!(!badCode c)) ((0 : Nat) : Int) l0 l1 l2 l3 l4 l5) else (some false)))) e2 ?_
      refine Ev.bind (f := fun k t391 => (if t391 = true then (unicodetextlaw38_CasefoldOrbits.l0 k c L (!(!badCode c)) ((0 : Nat) : Int) l0 l1 l2 l3 l4 l5) else (some false))) (equal01_ev L L (by omega)) ?_
      exact Ev.congr (f := fun k => unicodetextlaw38_CasefoldOrbits.l0 k c L (!(!badCode c)) ((0 : Nat) : Int) l0 l1 l2 l3 l4 l5) (fun k => by rw [if_pos (decide_eq_true rfl)]) (orbits_l0 l0 l1 l2 l3 l4 l5 c L hL e3 L.length 0 _ (Nat.zero_le _) rfl e4)
    cases hc : badCode c with
    | true =>
      rw [hc, if_pos rfl] at ho
      have hbad : c < 0 ∨ 1114111 < c := by
        simp only [badCode, Bool.not_eq_true', Bool.and_eq_false_iff, decide_eq_false_iff_not] at hc
        omega
      exact key [] (by simp) (by rw [casefold_Orbit.f, if_pos hbad]) ho (fun x hx => by cases hx) (.inl (by rw [hc]; rfl))
    | false =>
      rw [hc, if_neg (by simp)] at ho
      have hok : ∀ x : Int, badCode x = false → 0 ≤ x ∧ x ≤ 1114111 := fun x h => good_iff.1 h
      refine key _ (by omega) (orbit_f p3 h4 h5 (hok c hc)) ho (fun x hx => ?_) (.inr (orbit_self hn c))
      have hg := cands_good (chkM_good (foldList_chk l0 l1 l2 l3 l4 l5)) hc x (orbit_sub hx)
      rw [orbit_f p3 h4 h5 (hok x hg), orbit_congr (orbit_mem hn hx)]
end Go.Proofs.YtdgboklnhmfhoaaGreatDoor.G
