/- The plain law of IdentValid. No program in sight. -/
import Derived.Test.YtjfcmiocmcdjlaaGreatDoorAP2
import Derived.Test.YtjfcmiocmcdjlaaGreatDoorAG8
namespace Go.Proofs.YtjfcmiocmcdjlaaGreatDoor.G
open Go.RowKit Go.Proofs.YtjfcmiocmcdjlaaGreatDoorW.PrintWords Go.Proofs.YtjfcmiocmcdjlaaGreatDoorW.PrintLast Go.Proofs.YtjfcmiocmcdjlaaGreatDoorW.PrintMore
set_option linter.unusedVariables false
theorem valid_pure (l0 l1 l2 : List S32) (text : List Int) : ∃ k, unicodetextlaw39_IdentValid.f k l0 l1 l2 text = some true := by
  refine Ev.rounds ?_
  unfold unicodetextlaw39_IdentValid.f
  obtain ⟨r, er, hr⟩ := few_f l0 l1 l2 text
  rw [er]
  cases r with
  | false => exact Ev.congr (f := fun _ => some true) (fun k => by rw [Option.bind_some, if_neg (by simp)]; rfl) (Ev.now _)
  | true =>
    have F := hr rfl
    refine Ev.congr (f := fun k => (unicodetextref39_Valid.f k l0 l1 l2 text).bind fun t184 => (if (validS l0 l1 l2 text == t184) = true then ((unicodetextlaw39_alive.f).bind fun t185 => (some t185)) else (some false))) (fun k => by rw [Option.bind_some, if_pos rfl, F.valid, Option.bind_some]) ?_
    refine Ev.bind (f := fun _ t184 => (if (validS l0 l1 l2 text == t184) = true then ((unicodetextlaw39_alive.f).bind fun t185 => (some t185)) else (some false))) (valid39_ev F.a F.b F.c text (by have := F.t; omega)) ?_
    exact Ev.congr (f := fun _ => some true) (fun k => by rw [if_pos (by simp)]; rfl) (Ev.now _)
end Go.Proofs.YtjfcmiocmcdjlaaGreatDoor.G
