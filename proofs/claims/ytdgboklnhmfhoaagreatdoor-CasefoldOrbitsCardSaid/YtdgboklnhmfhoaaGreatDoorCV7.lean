/- The specification's check of a case's data evaluated: it answers as the program's. No program in sight. -/
import Derived.Test.YtdgboklnhmfhoaaGreatDoorCG14
import Derived.Test.YtdgboklnhmfhoaaGreatDoorCV6
namespace Go.Proofs.YtdgboklnhmfhoaaGreatDoor.G
open Go.RowKit Go.Proofs.YtdgboklnhmfhoaaGreatDoorW.PrintWords Go.Proofs.YtdgboklnhmfhoaaGreatDoorW.PrintLast Go.Proofs.YtdgboklnhmfhoaaGreatDoorW.PrintMore
set_option linter.unusedVariables false
theorem make02_ev (l : List S87) (hl : l.length ≤ 100000) : Ev (fun k => unicodetextref02_Make.f k l) (makeL l) := by
  have h := combine_ev l [] 1 hl (by simp)
  rw [comb_make] at h
  exact Ev.bind (f := fun _ t => some t) h (Ev.now _)
theorem r87_beq (x y : S87) : ((!(x.f0 == y.f0) || (!(x.f1 == y.f1))) = true) ↔ x ≠ y := by
  obtain ⟨a, b⟩ := x
  obtain ⟨c, d⟩ := y
  simp
  constructor
  · rintro (h | h) h1
    · exact fun _ => absurd h1 h
    · exact h
  · intro h
    by_cases h1 : a = c
    · exact .inr (h h1)
    · exact .inl h1
theorem same02_l0 (a b : List S87) (hl : a.length = b.length) (hs : a.length ≤ 1000000) (d : Nat) : ∀ i : Nat, i ≤ a.length → a.length - i = d → a.take i = b.take i → Ev (fun k => unicodetextref02_Same.l0 k i a b) (decide (a = b)) := by
  induction d with
  | zero =>
    intro i hi hd he
    refine Ev.step (f := fun _ => some (decide (a = b))) (fun k => ?_) (Ev.now _)
    rw [unicodetextref02_Same.l0, if_neg (by omega)]
    rw [List.take_of_length_le (by omega), List.take_of_length_le (by omega)] at he
    simp [he]
  | succ d ih =>
    intro i hi hd he
    have h1 : i < a.length := by omega
    have h2 : i < b.length := by omega
    by_cases heq : a[i] = b[i]
    · refine Ev.step (f := fun k => unicodetextref02_Same.l0 k ((i + 1 : Nat) : Int) a b) (fun k => ?_) (ih (i + 1) (by omega) (by omega) (by rw [List.take_succ_eq_append_getElem h1, List.take_succ_eq_append_getElem h2, he, heq]))
      rw [unicodetextref02_Same.l0, if_pos (by omega), if_pos (by omega), if_pos (by omega), rdR_get h1, rdR_get h2, if_neg (fun h => (r87_beq _ _).1 h heq), w64n (by omega)]
    · refine Ev.step (f := fun _ => some (decide (a = b))) (fun k => ?_) (Ev.now _)
      rw [unicodetextref02_Same.l0, if_pos (by omega), if_pos (by omega), if_pos (by omega), rdR_get h1, rdR_get h2, if_pos ((r87_beq _ _).2 heq)]
      have : ¬ a = b := fun h => by subst h; exact heq rfl
      simp [this]
theorem same02_ev (a b : List S87) (hs : a.length ≤ 1000000) : Ev (fun k => unicodetextref02_Same.f k a b) (decide (a = b)) := by
  by_cases hl : a.length = b.length
  · exact Ev.congr (f := fun k => unicodetextref02_Same.l0 k ((0 : Nat) : Int) a b) (fun k => by rw [unicodetextref02_Same.f, if_pos (by omega)]; rfl) (same02_l0 a b hl hs a.length 0 (Nat.zero_le _) rfl rfl)
  · have : ¬ a = b := fun h => hl (by rw [h])
    exact Ev.congr (f := fun _ => some (decide (a = b))) (fun k => by rw [unicodetextref02_Same.f, if_neg (by omega)]; simp [this]) (Ev.now _)
theorem valid02_ev (l : List S87) (hl : l.length ≤ 100000) : Ev (fun k => unicodetextref02_Valid.f k l) (validR l) := by
  have e : decide (l = makeL l) = validR l := by
    unfold validR
    by_cases h : makeL l = l
    · rw [decide_eq_true h, decide_eq_true h.symm]
    · rw [decide_eq_false h, decide_eq_false (fun q => h q.symm)]
  have h := same02_ev l (makeL l) (by omega)
  rw [e] at h
  refine Ev.bind (f := fun k t191 => ((unicodetextref02_Same.f k l t191).bind fun t194 => (some t194))) (make02_ev l hl) ?_
  exact Ev.bind (f := fun _ t => some t) h (Ev.now _)
/-- Check. -/
def tagP (s : ByteArray) (l : List S44) : Bool := l.any fun m => decide (0 < m.f2.size) && !(m.f2.toList == s.toList)
theorem tagP_0 (l : List S44) : tagP finalS l = l.any (tagBad 0) := by
  have e : (fun m : S44 => decide (0 < m.f2.size) && !(m.f2.toList == finalS.toList)) = tagBad 0 := by
    funext m
    simp [tagBad]
  rw [tagP, e]
theorem tagP_s (l : List S44) {k : Nat} (hk : 0 < k) : tagP ⟨#[]⟩ l = l.any (tagBad k) := by
  have e : (fun m : S44 => decide (0 < m.f2.size) && !(m.f2.toList == (⟨#[]⟩ : ByteArray).toList)) = tagBad k := by
    funext m
    unfold tagBad
    rw [decide_eq_true hk, Bool.true_or, Bool.and_true]
    by_cases h : 0 < m.f2.size
    · have hn : (m.f2.toList == (⟨#[]⟩ : ByteArray).toList) = false := by
        refine beq_eq_false_iff_ne.2 (fun q => ?_)
        have q2 := toList_inj.1 q
        rw [q2] at h
        exact absurd h (by decide)
      rw [hn, Bool.not_false, Bool.and_true]
    · rw [decide_eq_false h, Bool.false_and]
  rw [tagP, e]
/-- Data of which no list is endless. -/
structure Bulk (l0 l1 l2 l3 : List S44) (l4 l5 : List S87) : Prop where
  b0 : bulkP l0
  b1 : bulkP l1
  b2 : bulkP l2
  b3 : bulkP l3
  h4 : l4.length ≤ 100000
  h5 : l5.length ≤ 100000
theorem check37_j1 {l0 l1 l2 l3 : List S44} {l4 l5 : List S87} (hb : Bulk l0 l1 l2 l3 l4 l5) (b : Bool) :
    Ev (fun k => unicodetextref37_Check.j1 k b l0 l1 l2 l3 l4 l5) (if b then 6 else if validR l4 && validR l5 then 0 else 11) := by
  cases b with
  | true => exact Ev.step (f := fun _ => some 6) (fun k => by rw [unicodetextref37_Check.j1, if_pos rfl]) (Ev.now _)
  | false =>
    refine Ev.step (f := fun k => (unicodetextref02_Valid.f k l4).bind fun t254 => (if t254 = true then ((unicodetextref02_Valid.f k l5).bind fun t255 => (if t255 = true then (some 0) else (some 11))) else (some 11))) (fun k => by rw [unicodetextref37_Check.j1, if_neg (by simp)]) ?_
    refine Ev.bind (f := fun k t254 => (if t254 = true then ((unicodetextref02_Valid.f k l5).bind fun t255 => (if t255 = true then (some 0) else (some 11))) else (some 11))) (valid02_ev l4 hb.h4) ?_
    cases validR l4 with
    | false => exact Ev.congr (f := fun _ => some 11) (fun k => by rw [if_neg (by simp)]) (Ev.now _)
    | true =>
      refine Ev.congr (f := fun k => (unicodetextref02_Valid.f k l5).bind fun t255 => (if t255 = true then (some 0) else (some 11))) (fun k => by rw [if_pos rfl]) ?_
      refine Ev.bind (f := fun k t255 => (if t255 = true then (some 0) else (some 11))) (valid02_ev l5 hb.h5) ?_
      cases validR l5 with
      | false => exact Ev.congr (f := fun _ => some 11) (fun k => by rw [if_neg (by simp)]) (Ev.now _)
      | true => exact Ev.congr (f := fun _ => some 0) (fun k => by rw [if_pos rfl]) (Ev.now _)
theorem tags_any (l0 l1 l2 l3 : List S44) : (List.range 4).any (fun k => (four l0 l1 l2 l3 k).any (tagBad k)) = (tagP finalS l0 || (tagP ⟨#[]⟩ l1 || (tagP ⟨#[]⟩ l2 || tagP ⟨#[]⟩ l3))) := by
  have e : List.range 4 = [0, 1, 2, 3] := by decide
  rw [e, tagP_0, tagP_s l1 (k := 1) (by omega), tagP_s l2 (k := 2) (by omega), tagP_s l3 (k := 3) (by omega)]
  simp [List.any_cons, four]
theorem check37_end {l0 l1 l2 l3 : List S44} {l4 l5 : List S87} (hb : Bulk l0 l1 l2 l3 l4 l5) :
    Ev (fun k => unicodetextref37_Check.l0 k [l0, l1, l2, l3] 4 l0 l1 l2 l3 l4 l5) (if (List.range 4).any (fun k => (four l0 l1 l2 l3 k).any (tagBad k)) then 6 else if validR l4 && validR l5 then 0 else 11) := by
  rw [tags_any]
  refine Ev.step (f := fun k => ((unicodetextref37_tagged.f k l0 (⟨#[102, 105, 110, 97, 108]⟩ : ByteArray)).bind fun t250 => (if t250 = true then (unicodetextref37_Check.j1 k true l0 l1 l2 l3 l4 l5) else ((unicodetextref37_tagged.f k l1 (⟨#[]⟩ : ByteArray)).bind fun t251 => (if t251 = true then (unicodetextref37_Check.j1 k true l0 l1 l2 l3 l4 l5) else ((unicodetextref37_tagged.f k l2 (⟨#[]⟩ : ByteArray)).bind fun t252 => (if t252 = true then (unicodetextref37_Check.j1 k true l0 l1 l2 l3 l4 l5) else ((unicodetextref37_tagged.f k l3 (⟨#[]⟩ : ByteArray)).bind fun t253 => (unicodetextref37_Check.j1 k t253 l0 l1 l2 l3 l4 l5))))))))) (fun k => by rw [unicodetextref37_Check.l0, if_neg (by simp)]) ?_
  refine Ev.bind (f := fun k t250 => (if t250 = true then (unicodetextref37_Check.j1 k true l0 l1 l2 l3 l4 l5) else ((unicodetextref37_tagged.f k l1 (⟨#[]⟩ : ByteArray)).bind fun t251 => (if t251 = true then (unicodetextref37_Check.j1 k true l0 l1 l2 l3 l4 l5) else ((unicodetextref37_tagged.f k l2 (⟨#[]⟩ : ByteArray)).bind fun t252 => (if t252 = true then (unicodetextref37_Check.j1 k true l0 l1 l2 l3 l4 l5) else ((unicodetextref37_tagged.f k l3 (⟨#[]⟩ : ByteArray)).bind fun t253 => (unicodetextref37_Check.j1 k t253 l0 l1 l2 l3 l4 l5)))))))) (tagged_ev l0 hb.b0.1 finalS) ?_
  have e0 : (l0.any fun m => decide (0 < m.f2.size) && !(m.f2.toList == finalS.toList)) = tagP finalS l0 := rfl
  rw [e0]
  cases tagP finalS l0 with
  | true => exact Ev.congr (f := fun k => unicodetextref37_Check.j1 k true l0 l1 l2 l3 l4 l5) (fun k => by rw [if_pos rfl]) (check37_j1 hb true)
  | false =>
    refine Ev.congr (f := fun k => ((unicodetextref37_tagged.f k l1 (⟨#[]⟩ : ByteArray)).bind fun t251 => (if t251 = true then (unicodetextref37_Check.j1 k true l0 l1 l2 l3 l4 l5) else ((unicodetextref37_tagged.f k l2 (⟨#[]⟩ : ByteArray)).bind fun t252 => (if t252 = true then (unicodetextref37_Check.j1 k true l0 l1 l2 l3 l4 l5) else ((unicodetextref37_tagged.f k l3 (⟨#[]⟩ : ByteArray)).bind fun t253 => (unicodetextref37_Check.j1 k t253 l0 l1 l2 l3 l4 l5))))))) (fun k => by rw [if_neg (by simp)]) ?_
    refine Ev.bind (f := fun k t251 => (if t251 = true then (unicodetextref37_Check.j1 k true l0 l1 l2 l3 l4 l5) else ((unicodetextref37_tagged.f k l2 (⟨#[]⟩ : ByteArray)).bind fun t252 => (if t252 = true then (unicodetextref37_Check.j1 k true l0 l1 l2 l3 l4 l5) else ((unicodetextref37_tagged.f k l3 (⟨#[]⟩ : ByteArray)).bind fun t253 => (unicodetextref37_Check.j1 k t253 l0 l1 l2 l3 l4 l5)))))) (tagged_ev l1 hb.b1.1 ⟨#[]⟩) ?_
    have e1 : (l1.any fun m => decide (0 < m.f2.size) && !(m.f2.toList == (⟨#[]⟩ : ByteArray).toList)) = tagP ⟨#[]⟩ l1 := rfl
    rw [e1]
    cases tagP ⟨#[]⟩ l1 with
    | true => exact Ev.congr (f := fun k => unicodetextref37_Check.j1 k true l0 l1 l2 l3 l4 l5) (fun k => by rw [if_pos rfl]) (check37_j1 hb true)
    | false =>
      refine Ev.congr (f := fun k => ((unicodetextref37_tagged.f k l2 (⟨#[]⟩ : ByteArray)).bind fun t252 => (if t252 = true then (unicodetextref37_Check.j1 k true l0 l1 l2 l3 l4 l5) else ((unicodetextref37_tagged.f k l3 (⟨#[]⟩ : ByteArray)).bind fun t253 => (unicodetextref37_Check.j1 k t253 l0 l1 l2 l3 l4 l5))))) (fun k => by rw [if_neg (by simp)]) ?_
      refine Ev.bind (f := fun k t252 => (if t252 = true then (unicodetextref37_Check.j1 k true l0 l1 l2 l3 l4 l5) else ((unicodetextref37_tagged.f k l3 (⟨#[]⟩ : ByteArray)).bind fun t253 => (unicodetextref37_Check.j1 k t253 l0 l1 l2 l3 l4 l5)))) (tagged_ev l2 hb.b2.1 ⟨#[]⟩) ?_
      have e2 : (l2.any fun m => decide (0 < m.f2.size) && !(m.f2.toList == (⟨#[]⟩ : ByteArray).toList)) = tagP ⟨#[]⟩ l2 := rfl
      rw [e2]
      cases tagP ⟨#[]⟩ l2 with
      | true => exact Ev.congr (f := fun k => unicodetextref37_Check.j1 k true l0 l1 l2 l3 l4 l5) (fun k => by rw [if_pos rfl]) (check37_j1 hb true)
      | false =>
        refine Ev.congr (f := fun k => ((unicodetextref37_tagged.f k l3 (⟨#[]⟩ : ByteArray)).bind fun t253 => (unicodetextref37_Check.j1 k t253 l0 l1 l2 l3 l4 l5))) (fun k => by rw [if_neg (by simp)]) ?_
        refine Ev.bind (f := fun k t253 => (unicodetextref37_Check.j1 k t253 l0 l1 l2 l3 l4 l5)) (tagged_ev l3 hb.b3.1 ⟨#[]⟩) ?_
        have e3 : (l3.any fun m => decide (0 < m.f2.size) && !(m.f2.toList == (⟨#[]⟩ : ByteArray).toList)) = tagP ⟨#[]⟩ l3 := rfl
        rw [e3]
        exact check37_j1 hb (tagP ⟨#[]⟩ l3)
theorem check37_step {l0 l1 l2 l3 : List S44} {l4 l5 : List S87} (i : Nat) (hi : i < 4) (l : List S44) (hl : rd_L4 [l0, l1, l2, l3] (i : Int) = l) (hb : bulkP l) {r : Int}
    (hn : chkM l = 0 → Ev (fun k => unicodetextref37_Check.l0 k [l0, l1, l2, l3] ((i + 1 : Nat) : Int) l0 l1 l2 l3 l4 l5) r) (hr : chkM l ≠ 0 → r = chkM l) :
    Ev (fun k => unicodetextref37_Check.l0 k [l0, l1, l2, l3] (i : Int) l0 l1 l2 l3 l4 l5) r := by
  refine Ev.step (f := fun k => (unicodetextref11_Check.f k l).bind fun t249 => (if t249 = 0 then (unicodetextref37_Check.l0 k [l0, l1, l2, l3] ((i + 1 : Nat) : Int) l0 l1 l2 l3 l4 l5) else (some t249))) (fun k => by
    rw [unicodetextref37_Check.l0, if_pos (by simp; omega), if_pos (by omega), hl, w64n (by omega)]) ?_
  refine Ev.bind (f := fun k t249 => (if t249 = 0 then (unicodetextref37_Check.l0 k [l0, l1, l2, l3] ((i + 1 : Nat) : Int) l0 l1 l2 l3 l4 l5) else (some t249))) (check11_ev l hb) ?_
  by_cases h : chkM l = 0
  · exact Ev.congr (f := fun k => unicodetextref37_Check.l0 k [l0, l1, l2, l3] ((i + 1 : Nat) : Int) l0 l1 l2 l3 l4 l5) (fun k => by rw [if_pos h]) (hn h)
  · rw [hr h]
    exact Ev.congr (f := fun k => some (chkM l)) (fun k => by rw [if_neg h]) (Ev.now _)
theorem check37_ev {l0 l1 l2 l3 : List S44} {l4 l5 : List S87} (hb : Bulk l0 l1 l2 l3 l4 l5) :
    Ev (fun k => unicodetextref37_Check.f k l0 l1 l2 l3 l4 l5) (checkC l0 l1 l2 l3 l4 l5) := by
  refine Ev.congr (f := fun k => unicodetextref37_Check.l0 k [l0, l1, l2, l3] ((0 : Nat) : Int) l0 l1 l2 l3 l4 l5) (fun k => rfl) ?_
  have first : ∀ i, i < 4 → (∀ j, j < i → chkM (four l0 l1 l2 l3 j) = 0) → chkM (four l0 l1 l2 l3 i) ≠ 0 → checkC l0 l1 l2 l3 l4 l5 = chkM (four l0 l1 l2 l3 i) := by
    intro i hi h1 h2
    have h3 := firstErr_at (f := fun k => chkM (four l0 l1 l2 l3 k)) hi h1 h2
    have h2' : firstErr (fun k => chkM (four l0 l1 l2 l3 k)) ≠ 0 := by rw [h3]; exact h2
    rw [checkC, if_pos h2', h3]
  refine check37_step 0 (by omega) l0 rfl hb.b0 (fun z0 => ?_) (fun h => first 0 (by omega) (fun j hj => by omega) h)
  refine check37_step 1 (by omega) l1 rfl hb.b1 (fun z1 => ?_) (fun h => first 1 (by omega) (fun j hj => by
    rcases (by omega : j = 0) with rfl
    exact z0) h)
  refine check37_step 2 (by omega) l2 rfl hb.b2 (fun z2 => ?_) (fun h => first 2 (by omega) (fun j hj => by
    rcases (by omega : j = 0 ∨ j = 1) with rfl | rfl
    · exact z0
    · exact z1) h)
  refine check37_step 3 (by omega) l3 rfl hb.b3 (fun z3 => ?_) (fun h => first 3 (by omega) (fun j hj => by
    rcases (by omega : j = 0 ∨ j = 1 ∨ j = 2) with rfl | rfl | rfl
    · exact z0
    · exact z1
    · exact z2) h)
  have hz : firstErr (fun k => chkM (four l0 l1 l2 l3 k)) = 0 := firstErr_zero (fun j hj => by
    rcases (by omega : j = 0 ∨ j = 1 ∨ j = 2 ∨ j = 3) with rfl | rfl | rfl | rfl
    · exact z0
    · exact z1
    · exact z2
    · exact z3)
  rw [checkC, if_neg (by rw [hz]; simp)]
  exact check37_end hb
end Go.Proofs.YtdgboklnhmfhoaaGreatDoor.G
