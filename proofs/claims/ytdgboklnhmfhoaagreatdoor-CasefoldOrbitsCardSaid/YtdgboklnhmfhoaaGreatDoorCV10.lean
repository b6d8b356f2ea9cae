/- The specification of chapter 38 evaluated: Data, Fold answer as the program's. No program in sight. -/
import Derived.Test.YtdgboklnhmfhoaaGreatDoorCV7
import Derived.Test.YtdgboklnhmfhoaaGreatDoorCV8
namespace Go.Proofs.YtdgboklnhmfhoaaGreatDoor.G
open Go.RowKit Go.Proofs.YtdgboklnhmfhoaaGreatDoorW.PrintWords Go.Proofs.YtdgboklnhmfhoaaGreatDoorW.PrintLast Go.Proofs.YtdgboklnhmfhoaaGreatDoorW.PrintMore
set_option linter.unusedVariables false
theorem small_bulk {l : List S44} (h : smallP l) : bulkP l :=
  ⟨by have := h.1; omega, fun m hm => ⟨by have := (h.2 m hm).1; omega, by have := (h.2 m hm).2; omega⟩⟩
theorem bulk_small {l0 l1 l2 l3 : List S44} {l4 l5 : List S87} (p0 : smallP l0) (p1 : smallP l1) (p2 : smallP l2) (p3 : smallP l3) (h4 : l4.length ≤ 12) (h5 : l5.length ≤ 12) : Bulk l0 l1 l2 l3 l4 l5 :=
  ⟨small_bulk p0, small_bulk p1, small_bulk p2, small_bulk p3, by omega, by omega⟩
section
variable {l0 l1 l2 l3 : List S44} {l4 l5 : List S87}
theorem data38_ev (hb : Bulk l0 l1 l2 l3 l4 l5) : Ev (fun k => unicodetextref38_Data.f k l0 l1 l2 l3 l4 l5) (foldList l0 l1 l2 l3 l4 l5) := by
  refine Ev.bind (f := fun k t257 => (if t257 = 0 then (some l3) else (some ([] : List (S44))))) (check37_ev hb) ?_
  unfold foldList
  by_cases h : checkC l0 l1 l2 l3 l4 l5 = 0
  · rw [if_pos h, if_pos h]
    exact Ev.now _
  · rw [if_neg h, if_neg h]
    exact Ev.now _
theorem foldList_bulk (hb : Bulk l0 l1 l2 l3 l4 l5) : bulkP (foldList l0 l1 l2 l3 l4 l5) := by
  have h := foldList_sub l0 l1 l2 l3 l4 l5
  exact ⟨Nat.le_trans h.1 hb.b3.1, fun m hm => hb.b3.2 m (h.2 m hm)⟩
theorem foldList_plain : plainL (foldList l0 l1 l2 l3 l4 l5) := foldList_tags
theorem fold38_ev (hb : Bulk l0 l1 l2 l3 l4 l5) (p3 : smallP l3) (text : List Int) (ht : text.length ≤ 100000) :
    Ev (fun k => unicodetextref38_Fold.f k l0 l1 l2 l3 l4 l5 text) (foldT (foldList l0 l1 l2 l3 l4 l5) text) := by
  have hT := foldT_length (l0 := l0) (l1 := l1) (l2 := l2) (l4 := l4) (l5 := l5) p3 text
  refine Ev.bind (f := fun k t259 => ((unicodetextref11_Apply.f k t259 emptyS text).bind fun t262 => (some t262))) (data38_ev hb) ?_
  exact Ev.bind (f := fun _ t => some t) (apply_ev _ (foldList_bulk hb) (foldList_chk l0 l1 l2 l3 l4 l5) foldList_plain text (by omega) (by omega)) (Ev.now _)
end
end Go.Proofs.YtdgboklnhmfhoaaGreatDoor.G
