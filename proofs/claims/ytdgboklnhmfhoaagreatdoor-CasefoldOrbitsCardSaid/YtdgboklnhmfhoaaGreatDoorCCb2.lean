/- The helpers of the specification's combine: place, Has, keeps; what their calls answer, in plain words. -/
import Derived.Test.YtdgboklnhmfhoaaGreatDoorCG3
import Derived.Test.YtdgboklnhmfhoaaGreatDoorCG5
import Derived.Test.YtdgboklnhmfhoaaGreatDoorCG6
import Derived.Test.YtdgboklnhmfhoaaGreatDoorCCb
import Derived.Test.YtdgboklnhmfhoaaGreatDoorCV4
namespace Go.Proofs.YtdgboklnhmfhoaaGreatDoor.G
open Go.RowKit Go.Proofs.YtdgboklnhmfhoaaGreatDoorW.PrintWords Go.Proofs.YtdgboklnhmfhoaaGreatDoorW.PrintLast Go.Proofs.YtdgboklnhmfhoaaGreatDoorW.PrintMore
set_option linter.unusedVariables false
theorem place_done (l : List Int) (n : Int) (hl : l.length ≤ 1000000) (d : Nat) : ∀ (i : Nat) (out : List Int), i ≤ l.length → l.length - i = d → out.length + d ≤ 3000000 →
    Ev (fun k => unicodetextref02_place.l0 k l n out true i) (out ++ l.drop i) := by
  induction d with
  | zero =>
    intro i out hi hd ho
    have e : l.drop i = [] := List.drop_eq_nil_of_le (by omega)
    rw [e, List.append_nil]
    exact Ev.step (f := fun _ => some out) (fun k => by rw [unicodetextref02_place.l0, if_neg (by omega), if_pos rfl]) (Ev.now _)
  | succ d ih =>
    intro i out hi hd ho
    have h1 : i < l.length := by omega
    rw [List.drop_eq_getElem_cons h1, ← List.singleton_append, ← List.append_assoc]
    refine Ev.step (f := fun k => unicodetextref02_place.j1 k l n out true i false) (fun k => by rw [unicodetextref02_place.l0, if_pos (by omega), if_pos rfl]) ?_
    refine Ev.step (f := fun k => unicodetextref02_place.l0 k l n (out ++ [l[i]]) true ((i + 1 : Nat) : Int)) (fun k => ?_) (ih (i + 1) (out ++ [l[i]]) (by omega) (by omega) (by simp; omega))
    rw [unicodetextref02_place.j1, if_neg (by simp), if_pos (by omega), if_pos (by omega), if_pos (by omega), rd_get h1, w64n (by omega)]
theorem place_l0 (l : List Int) (n : Int) (hl : l.length ≤ 1000000) (d : Nat) : ∀ (i : Nat), i ≤ l.length → l.length - i = d →
    Ev (fun k => unicodetextref02_place.l0 k l n (l.take i) false i) (l.take i ++ placeL (l.drop i) n) := by
  induction d with
  | zero =>
    intro i hi hd
    have e : l.drop i = [] := List.drop_eq_nil_of_le (by omega)
    rw [e, placeL]
    exact Ev.step (f := fun _ => some (l.take i ++ [n])) (fun k => by rw [unicodetextref02_place.l0, if_neg (by omega), if_neg (by simp), if_pos (by simp; omega)]) (Ev.now _)
  | succ d ih =>
    intro i hi hd
    have h1 : i < l.length := by omega
    have ht : (l.take i).length ≤ 1000000 := by simp; omega
    rw [List.drop_eq_getElem_cons h1, placeL]
    refine Ev.step (f := fun k => unicodetextref02_place.j1 k l n (l.take i) false i (decide (l[i] ≥ n))) (fun k => by rw [unicodetextref02_place.l0, if_pos (by omega), if_neg (by simp), if_pos (by omega), rd_get h1]) ?_
    by_cases h2 : n ≤ l[i]
    · rw [if_pos h2, decide_eq_true h2]
      by_cases h3 : n < l[i]
      · rw [if_pos h3]
        have e : l.take i ++ n :: l[i] :: l.drop (i + 1) = (l.take i ++ [n] ++ [l[i]]) ++ l.drop (i + 1) := by simp
        rw [e]
        refine Ev.step (f := fun k => unicodetextref02_place.l0 k l n (l.take i ++ [n] ++ [l[i]]) true ((i + 1 : Nat) : Int)) (fun k => ?_) (place_done l n hl d (i + 1) (l.take i ++ [n] ++ [l[i]]) (by omega) (by omega) (by have := ht; simp only [List.length_append, List.length_cons, List.length_nil]; omega))
        rw [unicodetextref02_place.j1, if_pos rfl, if_pos (by omega), if_pos (by omega), rd_get h1, if_pos h3, if_pos (by omega), Option.bind_some, if_pos (by simp; omega), w64n (by omega)]
      · rw [if_neg h3]
        have e : l.take i ++ l[i] :: l.drop (i + 1) = (l.take i ++ [l[i]]) ++ l.drop (i + 1) := by simp
        rw [e]
        refine Ev.step (f := fun k => unicodetextref02_place.l0 k l n (l.take i ++ [l[i]]) true ((i + 1 : Nat) : Int)) (fun k => ?_) (place_done l n hl d (i + 1) (l.take i ++ [l[i]]) (by omega) (by omega) (by have := ht; simp only [List.length_append, List.length_cons, List.length_nil]; omega))
        rw [unicodetextref02_place.j1, if_pos rfl, if_pos (by omega), if_pos (by omega), rd_get h1, if_neg h3, if_pos (by omega), w64n (by omega)]
    · rw [if_neg h2, decide_eq_false h2]
      have e : l.take i ++ l[i] :: placeL (l.drop (i + 1)) n = l.take (i + 1) ++ placeL (l.drop (i + 1)) n := by rw [List.take_succ_eq_append_getElem h1, List.append_assoc]; rfl
      rw [e]
      refine Ev.step (f := fun k => unicodetextref02_place.l0 k l n (l.take (i + 1)) false ((i + 1 : Nat) : Int)) (fun k => ?_) (ih (i + 1) (by omega) (by omega))
      rw [unicodetextref02_place.j1, if_neg (by simp), if_pos (by omega), if_pos (by omega), if_pos (by omega), rd_get h1, w64n (by omega), ← List.take_succ_eq_append_getElem h1]
theorem place_ev (l : List Int) (n : Int) (hl : l.length ≤ 1000000) : Ev (fun k => unicodetextref02_place.f k l n) (placeL l n) := place_l0 l n hl l.length 0 (Nat.zero_le _) rfl
theorem rdR_get {l : List S87} {i : Nat} (h : i < l.length) : rd_T87 l (i : Int) = l[i] := by
  show l.getD i z87 = _
  rw [List.getD_eq_getElem?_getD, List.getElem?_eq_getElem h]; rfl
theorem has_l0 (l : List S87) (c : Int) (hl : l.length ≤ 1000000) (d : Nat) : ∀ (i : Nat), i ≤ l.length → l.length - i = d → Ev (fun k => unicodetextref02_Has.l0 k c i l) (hasR (l.drop i) c) := by
  induction d with
  | zero =>
    intro i hi hd
    have e : l.drop i = [] := List.drop_eq_nil_of_le (by omega)
    rw [e]
    exact Ev.step (f := fun _ => some false) (fun k => by rw [unicodetextref02_Has.l0, if_neg (by omega)]) (Ev.now _)
  | succ d ih =>
    intro i hi hd
    have h1 : i < l.length := by omega
    have hn := ih (i + 1) (by omega) (by omega)
    have hst : hasR (l.drop i) c = ((!badCode c && (decide (l[i].f0 ≤ c) && decide (c ≤ l[i].f1))) || hasR (l.drop (i + 1)) c) := by
      rw [List.drop_eq_getElem_cons h1]; rfl
    rw [hst]
    cases hb : badCode c
    · by_cases h2 : l[i].f0 ≤ c
      · by_cases h3 : c ≤ l[i].f1
        · rw [decide_eq_true h2, decide_eq_true h3]
          exact Ev.step (f := fun _ => some true) (fun k => by rw [unicodetextref02_Has.l0, if_pos (by omega), valid01, hb, Option.bind_some, if_pos (show (!false) = true from rfl), if_pos (by omega), rdR_get h1, if_pos h2, if_pos h3]) (Ev.now _)
        · rw [decide_eq_false h3]
          refine Ev.step (f := fun k => unicodetextref02_Has.l0 k c ((i + 1 : Nat) : Int) l) (fun k => by rw [unicodetextref02_Has.l0, if_pos (by omega), valid01, hb, Option.bind_some, if_pos (show (!false) = true from rfl), if_pos (by omega), rdR_get h1, if_pos h2, if_neg h3, w64n (by omega)]) (by simpa using hn)
      · rw [decide_eq_false h2]
        refine Ev.step (f := fun k => unicodetextref02_Has.l0 k c ((i + 1 : Nat) : Int) l) (fun k => by rw [unicodetextref02_Has.l0, if_pos (by omega), valid01, hb, Option.bind_some, if_pos (show (!false) = true from rfl), if_pos (by omega), rdR_get h1, if_neg h2, w64n (by omega)]) (by simpa using hn)
    · refine Ev.step (f := fun k => unicodetextref02_Has.l0 k c ((i + 1 : Nat) : Int) l) (fun k => by rw [unicodetextref02_Has.l0, if_pos (by omega), valid01, hb, Option.bind_some, if_neg (by simp), w64n (by omega)]) (by simpa using hn)
theorem has_ev (l : List S87) (c : Int) (hl : l.length ≤ 1000000) : Ev (fun k => unicodetextref02_Has.f k l c) (hasR l c) := has_l0 l c hl l.length 0 (Nat.zero_le _) rfl
theorem keeps_f (op : Int) (x y : Bool) : unicodetextref02_keeps.f op x y = some (keepsB op x y) := by
  unfold unicodetextref02_keeps.f keepsB
  by_cases h1 : op = 1
  · rw [if_pos h1, if_pos h1]; cases x <;> rfl
  · rw [if_neg h1, if_neg h1]
    by_cases h2 : op = 2
    · rw [if_pos h2, if_pos h2]; cases x <;> rfl
    · rw [if_neg h2, if_neg h2]; cases x <;> rfl
theorem place122 (A : Option Addr) (c : Nat) (l : List Int) (n : Int) (w : World) (hr : Kd.C (Kd.int .i64) w A l.length l) (hc : l.length ≤ c) (hl : l.length ≤ 1000000) :
    Calls Tryz.prog 122 #[.slice A l.length c, .int .i64 n] w fun e w' => ∃ v0_ : Value, e = .returned (v0_) ∧ Kd.R (Kd.int .i64) 3 w' w.heap.size (fun _ => True) v0_ (placeL l n) ∧ Below w.heap.size w w' := by
  obtain ⟨k, hk⟩ := (place_ev l n hl).rounds
  exact unicodetextref02_place.calls k A c l n _ w hr hc hk
end Go.Proofs.YtdgboklnhmfhoaaGreatDoor.G
