/- The plain law of CasefoldClosed. No program in sight. -/
import Derived.Test.YtdgboklnhmfhoaaGreatDoorBG20
import Derived.Test.YtdgboklnhmfhoaaGreatDoorBV9
import Derived.Test.YtdgboklnhmfhoaaGreatDoorBV12
namespace Go.Proofs.YtdgboklnhmfhoaaGreatDoor.G
open Go.RowKit Go.Proofs.YtdgboklnhmfhoaaGreatDoorW.PrintWords Go.Proofs.YtdgboklnhmfhoaaGreatDoorW.PrintLast Go.Proofs.YtdgboklnhmfhoaaGreatDoorW.PrintMore
set_option linter.unusedVariables false
theorem closed_pure (l0 l1 l2 l3 : List S44) (l4 l5 : List S87) (text : List Int) :
    ∃ k, unicodetextlaw38_CasefoldClosed.f k l0 l1 l2 l3 l4 l5 text = some true := by
  refine Ev.rounds ?_
  obtain ⟨r, er, hr⟩ := few_ev l0 l1 l2 l3 l4 l5 text []
  cases r with
  | false => exact Ev.bind er (Ev.congr (f := fun _ => some true) (fun k => by rw [if_neg (by simp)]; rfl) (Ev.now _))
  | true =>
    obtain ⟨p0, p1, p2, p3, h4, h5, ha, _⟩ := hr rfl
    have B := bulk_small p0 p1 p2 p3 h4 h5
    have lx := foldT_length (l0 := l0) (l1 := l1) (l2 := l2) (l4 := l4) (l5 := l5) p3 text
    have hc := closed38_ev B
    have fa := fold_f (l0 := l0) (l1 := l1) (l2 := l2) (l4 := l4) (l5 := l5) p3 h4 h5 (l := text) (by omega)
    have fc := closed_f (l0 := l0) (l1 := l1) (l2 := l2) (l3 := l3) (l4 := l4) (l5 := l5) h4 h5
    have faa := fold_f (l0 := l0) (l1 := l1) (l2 := l2) (l4 := l4) (l5 := l5) p3 h4 h5 (l := foldT (foldList l0 l1 l2 l3 l4 l5) text) (by omega)
    have tw : closedB (foldList l0 l1 l2 l3 l4 l5) = true → foldT (foldList l0 l1 l2 l3 l4 l5) (foldT (foldList l0 l1 l2 l3 l4 l5) text) = foldT (foldList l0 l1 l2 l3 l4 l5) text := fun h => closed_twice h text
    generalize closedB (foldList l0 l1 l2 l3 l4 l5) = cb at hc fc tw
    refine Ev.bind er ?_
    refine Ev.congr (f := fun k => (unicodetextref38_Closed.f k l0 l1 l2 l3 l4 l5).bind fun t407 => (if (cb == t407) = true then (if cb = true then ((unicodetextref01_Equal.f k (foldT (foldList l0 l1 l2 l3 l4 l5) (foldT (foldList l0 l1 l2 l3 l4 l5) text)) (foldT (foldList l0 l1 l2 l3 l4 l5) text)).bind fun t411 => (if t411 = true then ((unicodetextlaw38_awake.f).bind fun t412 => (some t412)) else (some false))) else ((unicodetextlaw38_awake.f).bind fun t413 => (some t413))) else (some false))) (fun k => ?_) ?_
    · rw [if_pos rfl, fc, fa]
      simp only [Option.bind_some]
      rw [faa]
      rfl
    · refine Ev.bind (f := fun k t407 => (if (cb == t407) = true then (if cb = true then ((unicodetextref01_Equal.f k (foldT (foldList l0 l1 l2 l3 l4 l5) (foldT (foldList l0 l1 l2 l3 l4 l5) text)) (foldT (foldList l0 l1 l2 l3 l4 l5) text)).bind fun t411 => (if t411 = true then ((unicodetextlaw38_awake.f).bind fun t412 => (some t412)) else (some false))) else ((unicodetextlaw38_awake.f).bind fun t413 => (some t413))) else (some false))) hc ?_
      cases cb with
      | false => exact Ev.congr (f := fun _ => some true) (fun k => by rw [if_pos (show (false == false) = true from rfl), if_neg (by simp)]; rfl) (Ev.now _)
      | true =>
        rw [tw rfl]
        refine Ev.congr (f := fun k => (unicodetextref01_Equal.f k (foldT (foldList l0 l1 l2 l3 l4 l5) text) (foldT (foldList l0 l1 l2 l3 l4 l5) text)).bind fun t411 => (if t411 = true then ((unicodetextlaw38_awake.f).bind fun t412 => (some t412)) else (some false))) (fun k => by rw [if_pos (show (true == true) = true from rfl), if_pos rfl]) ?_
        refine Ev.bind (f := fun _ t411 => (if t411 = true then ((unicodetextlaw38_awake.f).bind fun t412 => (some t412)) else (some false))) (equal01_ev _ _ (by omega)) ?_
        exact Ev.congr (f := fun _ => some true) (fun k => by rw [if_pos (decide_eq_true rfl)]; rfl) (Ev.now _)
end Go.Proofs.YtdgboklnhmfhoaaGreatDoor.G
