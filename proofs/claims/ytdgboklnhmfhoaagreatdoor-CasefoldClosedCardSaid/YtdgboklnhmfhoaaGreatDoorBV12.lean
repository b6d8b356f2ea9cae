/- The specification's Closed evaluated: it answers as the program's. No program in sight. -/
import Derived.Test.YtdgboklnhmfhoaaGreatDoorBG16
import Derived.Test.YtdgboklnhmfhoaaGreatDoorBV10
namespace Go.Proofs.YtdgboklnhmfhoaaGreatDoor.G
open Go.RowKit Go.Proofs.YtdgboklnhmfhoaaGreatDoorW.PrintWords Go.Proofs.YtdgboklnhmfhoaaGreatDoorW.PrintLast Go.Proofs.YtdgboklnhmfhoaaGreatDoorW.PrintMore
set_option linter.unusedVariables false
section
variable {l0 l1 l2 l3 : List S44} {l4 l5 : List S87}
/-- Closed. -/
theorem closed38_l0 (FL : List S44) (hb : bulkP FL) (hc : chkM FL = 0) (hp : plainL FL) (d : Nat) : ∀ i : Nat, i ≤ FL.length → FL.length - i = d →
    Ev (fun k => unicodetextref38_Closed.l0 k FL i) (!((FL.drop i).any fun m => m.f1.any (hasF FL))) := by
  have hl := hb.1
  induction d with
  | zero =>
    intro i hi hd
    have e : FL.drop i = [] := List.drop_eq_nil_of_le (by omega)
    rw [e]
    exact Ev.step (f := fun _ => some true) (fun k => by rw [unicodetextref38_Closed.l0, if_neg (by omega)]) (Ev.now _)
  | succ d ih =>
    intro i hi hd
    have h1 : i < FL.length := by omega
    have hn := ih (i + 1) (by omega) (by omega)
    have ht : (FL[i].f2).toList = ([] : List UInt8) := by rw [hp FL[i] (List.getElem_mem h1), emptyS, ByteArray.toList_eq]
    have hlm := (hb.2 FL[i] (List.getElem_mem h1)).1
    rw [List.drop_eq_getElem_cons h1, List.any_cons]
    have inner : ∀ (e j : Nat), j ≤ FL[i].f1.length → FL[i].f1.length - j = e →
        Ev (fun k => unicodetextref38_Closed.l1 k FL i j) (!((FL[i].f1.drop j).any (hasF FL) || (FL.drop (i + 1)).any fun m => m.f1.any (hasF FL))) := by
      intro e
      induction e with
      | zero =>
        intro j hj he
        have e0 : FL[i].f1.drop j = [] := List.drop_eq_nil_of_le (by omega)
        rw [e0, List.any_nil, Bool.false_or]
        refine Ev.step (f := fun k => unicodetextref38_Closed.j2 k FL i j false) (fun k => by rw [unicodetextref38_Closed.l1, if_pos (by omega), if_pos (by omega), rdT_get h1, if_pos ht, decide_eq_false (by omega)]) ?_
        exact Ev.step (f := fun k => unicodetextref38_Closed.l0 k FL ((i + 1 : Nat) : Int)) (fun k => by rw [unicodetextref38_Closed.j2, if_neg (by simp), w64n (by omega)]) hn
      | succ e ihj =>
        intro j hj he
        have hj1 : j < FL[i].f1.length := by omega
        have hnj := ihj (j + 1) (by omega) (by omega)
        rw [List.drop_eq_getElem_cons hj1, List.any_cons]
        refine Ev.step (f := fun k => unicodetextref38_Closed.j2 k FL i j true) (fun k => by rw [unicodetextref38_Closed.l1, if_pos (by omega), if_pos (by omega), rdT_get h1, if_pos ht, decide_eq_true (by omega)]) ?_
        refine Ev.step (f := fun k => (unicodetextref11_Get.f k FL FL[i].f1[j] emptyS).bind fun bt339 => (if bt339.2 = true then (some false) else (unicodetextref38_Closed.l1 k FL i ((j + 1 : Nat) : Int)))) (fun k => by
          rw [unicodetextref38_Closed.j2, if_pos rfl, if_pos (by omega), if_pos (by omega), if_pos (by omega), rdT_get h1, if_pos (by omega), rd_get hj1, w64n (by omega)]
          rfl) ?_
        refine Ev.bind (f := fun k bt339 => (if bt339.2 = true then (some false) else (unicodetextref38_Closed.l1 k FL i ((j + 1 : Nat) : Int)))) (get11_ev FL hb hc hp FL[i].f1[j]) ?_
        unfold findP
        cases hf : hasF FL FL[i].f1[j] with
        | true =>
          rw [Bool.true_or, Bool.true_or]
          exact Ev.congr (f := fun _ => some false) (fun k => by rw [if_pos rfl, if_pos rfl]) (Ev.now _)
        | false =>
          rw [Bool.false_or]
          exact Ev.congr (f := fun k => unicodetextref38_Closed.l1 k FL i ((j + 1 : Nat) : Int)) (fun k => by rw [if_neg (by simp)]) hnj
    exact Ev.step (f := fun k => unicodetextref38_Closed.l1 k FL i ((0 : Nat) : Int)) (fun k => by rw [unicodetextref38_Closed.l0, if_pos (by omega)]; rfl) (inner FL[i].f1.length 0 (Nat.zero_le _) rfl)
theorem closed38_ev (hb : Bulk l0 l1 l2 l3 l4 l5) : Ev (fun k => unicodetextref38_Closed.f k l0 l1 l2 l3 l4 l5) (closedB (foldList l0 l1 l2 l3 l4 l5)) := by
  refine Ev.bind (f := fun k t332 => (unicodetextref38_Closed.l0 k t332 0)) (data38_ev hb) ?_
  exact closed38_l0 _ (foldList_bulk hb) (foldList_chk l0 l1 l2 l3 l4 l5) foldList_plain _ 0 (Nat.zero_le _) rfl
end
end Go.Proofs.YtdgboklnhmfhoaaGreatDoor.G
