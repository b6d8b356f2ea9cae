/- The plain law of CasefoldFolds. No program in sight. -/
import Derived.Test.YtdgboklnhmfhoaaGreatDoorAG18
import Derived.Test.YtdgboklnhmfhoaaGreatDoorAV9
import Derived.Test.YtdgboklnhmfhoaaGreatDoorAV10
namespace Go.Proofs.YtdgboklnhmfhoaaGreatDoor.G
open Go.RowKit Go.Proofs.YtdgboklnhmfhoaaGreatDoorW.PrintWords Go.Proofs.YtdgboklnhmfhoaaGreatDoorW.PrintLast Go.Proofs.YtdgboklnhmfhoaaGreatDoorW.PrintMore
set_option linter.unusedVariables false
theorem folds_pure (l0 l1 l2 l3 : List S44) (l4 l5 : List S87) (a b : List Int) :
    ∃ k, unicodetextlaw38_CasefoldFolds.f k l0 l1 l2 l3 l4 l5 a b = some true := by
  refine Ev.rounds ?_
  obtain ⟨r, er, hr⟩ := few_ev l0 l1 l2 l3 l4 l5 a b
  cases r with
  | false => exact Ev.bind er (Ev.congr (f := fun _ => some true) (fun k => by rw [if_neg (by simp)]; rfl) (Ev.now _))
  | true =>
    obtain ⟨p0, p1, p2, p3, h4, h5, ha, hbl⟩ := hr rfl
    have B := bulk_small p0 p1 p2 p3 h4 h5
    have lx := foldT_length (l0 := l0) (l1 := l1) (l2 := l2) (l4 := l4) (l5 := l5) p3 a
    have ly := foldT_length (l0 := l0) (l1 := l1) (l2 := l2) (l4 := l4) (l5 := l5) p3 b
    have hr := fold38_ev B p3 a (by omega)
    have fa := fold_f (l0 := l0) (l1 := l1) (l2 := l2) (l4 := l4) (l5 := l5) p3 h4 h5 (l := a) (by omega)
    have fb := fold_f (l0 := l0) (l1 := l1) (l2 := l2) (l4 := l4) (l5 := l5) p3 h4 h5 (l := b) (by omega)
    have fab := fold_f (l0 := l0) (l1 := l1) (l2 := l2) (l4 := l4) (l5 := l5) p3 h4 h5 (l := a ++ b) (by rw [List.length_append]; omega)
    rw [foldT_append] at fab
    generalize foldT (foldList l0 l1 l2 l3 l4 l5) a = X at lx hr fa fab
    generalize foldT (foldList l0 l1 l2 l3 l4 l5) b = Y at ly fb fab
    refine Ev.bind er ?_
    refine Ev.congr (f := fun k => (unicodetextref38_Fold.f k l0 l1 l2 l3 l4 l5 a).bind fun t373 => ((unicodetextref01_Equal.f k X t373).bind fun t376 => (if t376 = true then ((unicodetextref01_Equal.f k (X ++ Y) (X ++ Y)).bind fun t380 => (if t380 = true then ((unicodetextlaw38_awake.f).bind fun t381 => (some t381)) else (some false))) else (some false)))) (fun k => ?_) ?_
    · rw [if_pos rfl, fa, fb]
      simp only [Option.bind_some, List.length_nil, List.nil_append, Nat.zero_add]
      rw [if_pos (by omega), if_pos (by omega), if_pos (by omega), if_pos (by omega), fab]
      rfl
    · refine Ev.bind (f := fun k t373 => ((unicodetextref01_Equal.f k X t373).bind fun t376 => (if t376 = true then ((unicodetextref01_Equal.f k (X ++ Y) (X ++ Y)).bind fun t380 => (if t380 = true then ((unicodetextlaw38_awake.f).bind fun t381 => (some t381)) else (some false))) else (some false)))) hr ?_
      refine Ev.bind (f := fun k t376 => (if t376 = true then ((unicodetextref01_Equal.f k (X ++ Y) (X ++ Y)).bind fun t380 => (if t380 = true then ((unicodetextlaw38_awake.f).bind fun t381 => (some t381)) else (some false))) else (some false))) (equal01_ev X X (by omega)) ?_
      refine Ev.congr (f := fun k => (unicodetextref01_Equal.f k (X ++ Y) (X ++ Y)).bind fun t380 => (if t380 = true then ((unicodetextlaw38_awake.f).bind fun t381 => (some t381)) else (some false))) (fun k => by rw [if_pos (decide_eq_true rfl)]) ?_
      refine Ev.bind (f := fun _ t380 => (if t380 = true then ((unicodetextlaw38_awake.f).bind fun t381 => (some t381)) else (some false))) (equal01_ev (X ++ Y) (X ++ Y) (by rw [List.length_append]; omega)) ?_
      exact Ev.congr (f := fun _ => some true) (fun k => by rw [if_pos (decide_eq_true rfl)]; rfl) (Ev.now _)
end Go.Proofs.YtdgboklnhmfhoaaGreatDoor.G
