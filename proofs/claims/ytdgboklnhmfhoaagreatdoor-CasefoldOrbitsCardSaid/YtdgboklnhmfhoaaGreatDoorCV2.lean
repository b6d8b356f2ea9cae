/- The helpers of the laws in plain words: Equal, Small, few. No program in sight. -/
import Derived.Test.YtdgboklnhmfhoaaGreatDoorCG2
import Derived.Test.YtdgboklnhmfhoaaGreatDoorCG4
import Derived.Test.YtdgboklnhmfhoaaGreatDoorCG6
import Derived.Test.YtdgboklnhmfhoaaGreatDoorCG11
namespace Go.Proofs.YtdgboklnhmfhoaaGreatDoor.G
open Go.RowKit Go.Proofs.YtdgboklnhmfhoaaGreatDoorW.PrintWords Go.Proofs.YtdgboklnhmfhoaaGreatDoorW.PrintLast Go.Proofs.YtdgboklnhmfhoaaGreatDoorW.PrintMore
set_option linter.unusedVariables false
theorem w64n {i : Nat} (h : i < 9223372036854775807) : wrap64 ((i : Int) + 1) = ((i + 1 : Nat) : Int) := by unfold wrap64; omega
theorem rd_get {l : List Int} {i : Nat} (h : i < l.length) : rd l (i : Int) = l[i] := by
  show l.getD i 0 = _
  rw [List.getD_eq_getElem?_getD, List.getElem?_eq_getElem h]; rfl
/-- Compare answers 0 at equal sequences and nowhere else. -/
theorem compare_l0 (a b : List Int) (ha : a.length ≤ 9223372036854775807) (d : Nat) : ∀ (i : Nat), i ≤ a.length → i ≤ b.length → a.length - i = d → a.take i = b.take i →
    ∃ c, Ev (fun k => unicodetextref01_Compare.l0 k a b i) c ∧ (c = 0 ↔ a = b) := by
  induction d with
  | zero =>
    intro i hi hi2 hd he
    have hia : i = a.length := by omega
    have e1 : ¬ ((i : Int) < (a.length : Int)) := by omega
    by_cases hl : (a.length : Int) < (b.length : Int)
    · refine ⟨-1, Ev.step (f := fun k => unicodetextref01_Compare.j1 k a b i false) (fun k => by rw [unicodetextref01_Compare.l0, if_neg e1]) (Ev.step (f := fun _ => some (-1)) (fun k => by rw [unicodetextref01_Compare.j1, if_neg (by simp), if_pos hl]) (Ev.now _)), ?_⟩
      refine ⟨fun h => by omega, fun h => by rw [h] at hl; omega⟩
    · have hlb : a.length = b.length := by omega
      refine ⟨0, Ev.step (f := fun k => unicodetextref01_Compare.j1 k a b i false) (fun k => by rw [unicodetextref01_Compare.l0, if_neg e1]) (Ev.step (f := fun _ => some 0) (fun k => by rw [unicodetextref01_Compare.j1, if_neg (by simp), if_neg hl, if_neg (by omega)]) (Ev.now _)), ?_⟩
      refine ⟨fun _ => ?_, fun _ => rfl⟩
      rw [List.take_of_length_le (by omega), List.take_of_length_le (by omega)] at he
      exact he
  | succ d ih =>
    intro i hi hi2 hd he
    have h1 : i < a.length := by omega
    have e1 : (i : Int) < (a.length : Int) := by omega
    by_cases h2 : i < b.length
    · have e2 : (i : Int) < (b.length : Int) := by omega
      have hne : ∀ {x y : Int}, x ≠ y → x = a[i] → y = b[i] → ¬ a = b := fun hxy hx hy h => by subst h; exact hxy (hx.trans hy.symm)
      by_cases hlt : a[i] < b[i]
      · refine ⟨-1, Ev.step (f := fun k => unicodetextref01_Compare.j1 k a b i true) (fun k => by rw [unicodetextref01_Compare.l0, if_pos e1, decide_eq_true e2]) (Ev.step (f := fun _ => some (-1)) (fun k => by rw [unicodetextref01_Compare.j1, if_pos rfl, if_pos (by omega), if_pos e1, if_pos e2, rd_get h1, rd_get h2, if_pos hlt]) (Ev.now _)), ?_⟩
        exact ⟨fun h => by omega, fun h => absurd h (hne (by omega) rfl rfl)⟩
      · by_cases hgt : a[i] > b[i]
        · refine ⟨1, Ev.step (f := fun k => unicodetextref01_Compare.j1 k a b i true) (fun k => by rw [unicodetextref01_Compare.l0, if_pos e1, decide_eq_true e2]) (Ev.step (f := fun _ => some 1) (fun k => by rw [unicodetextref01_Compare.j1, if_pos rfl, if_pos (by omega), if_pos e1, if_pos e2, rd_get h1, rd_get h2, if_neg hlt, if_pos hgt]) (Ev.now _)), ?_⟩
          exact ⟨fun h => by omega, fun h => absurd h (hne (by omega) rfl rfl)⟩
        · have heq : a[i] = b[i] := by omega
          obtain ⟨c, hc, hce⟩ := ih (i + 1) (by omega) (by omega) (by omega) (by rw [List.take_succ_eq_append_getElem h1, List.take_succ_eq_append_getElem h2, he, heq])
          refine ⟨c, Ev.step (f := fun k => unicodetextref01_Compare.j1 k a b i true) (fun k => by rw [unicodetextref01_Compare.l0, if_pos e1, decide_eq_true e2]) (Ev.step (f := fun k => unicodetextref01_Compare.l0 k a b ((i + 1 : Nat) : Int)) (fun k => by rw [unicodetextref01_Compare.j1, if_pos rfl, if_pos (by omega), if_pos e1, if_pos e2, rd_get h1, rd_get h2, if_neg hlt, if_neg hgt, w64n (by omega)]) hc), hce⟩
    · have e2 : ¬ ((i : Int) < (b.length : Int)) := by omega
      refine ⟨1, Ev.step (f := fun k => unicodetextref01_Compare.j1 k a b i false) (fun k => by rw [unicodetextref01_Compare.l0, if_pos e1, decide_eq_false e2]) (Ev.step (f := fun _ => some 1) (fun k => by rw [unicodetextref01_Compare.j1, if_neg (by simp), if_neg (by omega), if_pos (by omega)]) (Ev.now _)), ?_⟩
      exact ⟨fun h => by omega, fun h => by rw [h] at h1; omega⟩
theorem equal01_ev (a b : List Int) (ha : a.length ≤ 9223372036854775807) : Ev (fun k => unicodetextref01_Equal.f k a b) (decide (a = b)) := by
  obtain ⟨c, hc, hce⟩ := compare_l0 a b ha a.length 0 (Nat.zero_le _) (Nat.zero_le _) rfl rfl
  have : (c == 0) = decide (a = b) := by
    by_cases h : a = b
    · simp [h, hce.2 h]
    · have : ¬ c = 0 := fun h0 => h (hce.1 h0)
      simp [h, this]
  rw [← this]
  exact Ev.bind (f := fun _ t => some (t == 0)) hc (Ev.now _)
/-- What is small has few elements, and short sequences. -/
def smallP (l : List S44) : Prop := l.length ≤ 20 ∧ ∀ m ∈ l, m.f1.length ≤ 65 ∧ m.f2.size ≤ 40
theorem rdT_get {l : List S44} {i : Nat} (h : i < l.length) : rd_T44 l (i : Int) = l[i] := by
  show l.getD i z44 = _
  rw [List.getD_eq_getElem?_getD, List.getElem?_eq_getElem h]; rfl
theorem small_l0 (l : List S44) (d : Nat) : ∀ (i : Nat), i ≤ l.length → i ≤ 30 → 30 - i = d → (∀ m ∈ l.take i, m.f1.length ≤ 65 ∧ m.f2.size ≤ 40) →
    ∃ b, Ev (fun k => unicodetextref11_Small.l0 k l i) b ∧ (b = true → smallP l) := by
  have hend : ∀ i : Nat, (i = l.length ∨ i = 30) → i ≤ l.length → (∀ m ∈ l.take i, m.f1.length ≤ 65 ∧ m.f2.size ≤ 40) → ∃ b, Ev (fun k => unicodetextref11_Small.l0 k l i) b ∧ (b = true → smallP l) := by
    intro i hi hle hm
    refine ⟨decide ((l.length : Int) ≤ 20), ?_, fun h => ?_⟩
    · refine Ev.step (f := fun k => unicodetextref11_Small.j1 k l i false) (fun k => ?_) (Ev.step (f := fun _ => some (decide ((l.length : Int) ≤ 20))) (fun k => by rw [unicodetextref11_Small.j1, if_neg (by simp)]) (Ev.now _))
      rw [unicodetextref11_Small.l0]
      by_cases h1 : (i : Int) < (l.length : Int)
      · rw [if_pos h1, decide_eq_false (by omega)]
      · rw [if_neg h1]
    · have hl : (l.length : Int) ≤ 20 := of_decide_eq_true h
      refine ⟨by omega, fun m hmem => hm m ?_⟩
      rw [List.take_of_length_le (by omega)]
      exact hmem
  induction d with
  | zero =>
    intro i hi h30 hd hm
    exact hend i (.inr (by omega)) hi hm
  | succ d ih =>
    intro i hi h30 hd hm
    by_cases h1 : i < l.length
    · have e0 : ∀ k, unicodetextref11_Small.l0 (k + 1) l i = unicodetextref11_Small.j1 k l i true := fun k => by
        rw [unicodetextref11_Small.l0, if_pos (by omega), decide_eq_true (by omega)]
      by_cases h2 : ((l[i].f1.length : Nat) : Int) > 65
      · exact ⟨false, Ev.step e0 (Ev.step (f := fun _ => some false) (fun k => by rw [unicodetextref11_Small.j1, if_pos rfl, if_pos (by omega), if_pos (by omega), rdT_get h1, if_pos h2]) (Ev.now _)), fun h => by cases h⟩
      · by_cases h3 : ((l[i].f2.size : Nat) : Int) > 40
        · exact ⟨false, Ev.step e0 (Ev.step (f := fun _ => some false) (fun k => by rw [unicodetextref11_Small.j1, if_pos rfl, if_pos (by omega), if_pos (by omega), rdT_get h1, if_neg h2, if_pos h3]) (Ev.now _)), fun h => by cases h⟩
        · obtain ⟨b, hb, hp⟩ := ih (i + 1) (by omega) (by omega) (by omega) (fun m hmem => by
            rw [List.take_succ_eq_append_getElem h1, List.mem_append] at hmem
            rcases hmem with hmem | hmem
            · exact hm m hmem
            · obtain rfl := List.mem_singleton.1 hmem
              exact ⟨by omega, by omega⟩)
          exact ⟨b, Ev.step e0 (Ev.step (f := fun k => unicodetextref11_Small.l0 k l ((i + 1 : Nat) : Int)) (fun k => by rw [unicodetextref11_Small.j1, if_pos rfl, if_pos (by omega), if_pos (by omega), rdT_get h1, if_neg h2, if_neg h3, w64n (by omega)]) hb), hp⟩
    · exact hend i (.inl (by omega)) hi hm
theorem small11_ev (l : List S44) : ∃ b, Ev (fun k => unicodetextref11_Small.f k l) b ∧ (b = true → smallP l) := small_l0 l 30 0 (Nat.zero_le _) (Nat.zero_le _) rfl (fun m hm => by simp at hm)
/-- few. -/
theorem few_ev (l0 l1 l2 l3 : List S44) (l4 l5 : List S87) (a b : List Int) :
    ∃ r, Ev (fun k => unicodetextlaw38_few.f k l0 l1 l2 l3 l4 l5 a b) r ∧ (r = true → smallP l0 ∧ smallP l1 ∧ smallP l2 ∧ smallP l3 ∧ l4.length ≤ 12 ∧ l5.length ≤ 12 ∧ a.length ≤ 30 ∧ b.length ≤ 30) := by
  obtain ⟨b0, e0, p0⟩ := small11_ev l0
  obtain ⟨b1, e1, p1⟩ := small11_ev l1
  obtain ⟨b2, e2, p2⟩ := small11_ev l2
  obtain ⟨b3, e3, p3⟩ := small11_ev l3
  have hs : ∃ r, Ev (fun k => unicodetextref38_Small.f k l0 l1 l2 l3 l4 l5) r ∧ (r = true → smallP l0 ∧ smallP l1 ∧ smallP l2 ∧ smallP l3 ∧ l4.length ≤ 12 ∧ l5.length ≤ 12) := by
    cases b0 with
    | false => exact ⟨false, Ev.bind e0 (Ev.now _), fun h => by cases h⟩
    | true =>
      cases b1 with
      | false => exact ⟨false, Ev.bind e0 (Ev.bind e1 (Ev.now _)), fun h => by cases h⟩
      | true =>
        cases b2 with
        | false => exact ⟨false, Ev.bind e0 (Ev.bind e1 (Ev.bind e2 (Ev.now _))), fun h => by cases h⟩
        | true =>
          cases b3 with
          | false => exact ⟨false, Ev.bind e0 (Ev.bind e1 (Ev.bind e2 (Ev.bind e3 (Ev.now _)))), fun h => by cases h⟩
          | true =>
            by_cases h4 : (l4.length : Int) ≤ 12
            · refine ⟨decide ((l5.length : Int) ≤ 12), Ev.bind e0 (Ev.bind e1 (Ev.bind e2 (Ev.bind e3 (Ev.congr (f := fun _ => some (decide ((l5.length : Int) ≤ 12))) (fun k => by rw [if_pos rfl, if_pos h4]) (Ev.now _))))), fun h => ?_⟩
              have h5 : (l5.length : Int) ≤ 12 := of_decide_eq_true h
              exact ⟨p0 rfl, p1 rfl, p2 rfl, p3 rfl, by omega, by omega⟩
            · exact ⟨false, Ev.bind e0 (Ev.bind e1 (Ev.bind e2 (Ev.bind e3 (Ev.congr (f := fun _ => some false) (fun k => by rw [if_pos rfl, if_neg h4]) (Ev.now _))))), fun h => by cases h⟩
  obtain ⟨r, er, hr⟩ := hs
  cases r with
  | false => exact ⟨false, Ev.bind er (Ev.now _), fun h => by cases h⟩
  | true =>
    obtain ⟨q0, q1, q2, q3, q4, q5⟩ := hr rfl
    by_cases ha : (a.length : Int) ≤ 30
    · refine ⟨decide ((b.length : Int) ≤ 30), Ev.bind er (Ev.congr (f := fun _ => some (decide ((b.length : Int) ≤ 30))) (fun k => by rw [if_pos rfl, if_pos ha]) (Ev.now _)), fun h => ?_⟩
      have hb : (b.length : Int) ≤ 30 := of_decide_eq_true h
      exact ⟨q0, q1, q2, q3, q4, q5, by omega, by omega⟩
    · exact ⟨false, Ev.bind er (Ev.congr (f := fun _ => some false) (fun k => by rw [if_pos rfl, if_neg ha]) (Ev.now _)), fun h => by cases h⟩
end Go.Proofs.YtdgboklnhmfhoaaGreatDoor.G
