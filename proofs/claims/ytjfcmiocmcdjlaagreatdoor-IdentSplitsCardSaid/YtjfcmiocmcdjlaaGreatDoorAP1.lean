/- Identifiers in plain words: the longest one, the split of a text. No program in sight. -/
import Derived.Test.YtjfcmiocmcdjlaaGreatDoorAIt10
import Derived.Test.YtjfcmiocmcdjlaaGreatDoorAG2
namespace Go.Proofs.YtjfcmiocmcdjlaaGreatDoor.G
open Go.RowKit Go.Proofs.YtjfcmiocmcdjlaaGreatDoorW.PrintWords Go.Proofs.YtjfcmiocmcdjlaaGreatDoorW.PrintLast Go.Proofs.YtjfcmiocmcdjlaaGreatDoorW.PrintMore
set_option linter.unusedVariables false
theorem w64n {i : Nat} (h : i < 9223372036854775807) : wrap64 ((i : Int) + 1) = ((i + 1 : Nat) : Int) := by unfold wrap64; omega
theorem rd_get {l : List Int} {i : Nat} (h : i < l.length) : rd l (i : Int) = l[i] := by
  show l.getD i 0 = _
  rw [List.getD_eq_getElem?_getD, List.getElem?_eq_getElem h]; rfl
theorem lngGo_ge (sol ins : Int → Bool) : ∀ (t : List Int) (i n : Nat), n ≤ i → n ≤ lngGo sol ins t i n
  | [], i, n, h => Nat.le_refl _
  | c :: t, i, n, h => by
    rw [lngGo]
    split
    · have := lngGo_ge sol ins t (i + 1) (i + 1) (Nat.le_refl _); omega
    · split
      · exact Nat.le_refl _
      · exact lngGo_ge sol ins t (i + 1) n (by omega)
theorem lngGo_or (sol ins : Int → Bool) : ∀ (t : List Int) (i n : Nat), n ≤ i → lngGo sol ins t i n = n ∨ i < lngGo sol ins t i n
  | [], i, n, h => Or.inl rfl
  | c :: t, i, n, h => by
    rw [lngGo]
    split
    · have := lngGo_ge sol ins t (i + 1) (i + 1) (Nat.le_refl _); right; omega
    · split
      · exact Or.inl rfl
      · rcases lngGo_or sol ins t (i + 1) n (by omega) with h1 | h1
        · exact Or.inl h1
        · right; omega
theorem lngGo_take (sol ins : Int → Bool) : ∀ (t : List Int) (i n j : Nat), n ≤ i → lngGo sol ins t i n ≤ i + j → lngGo sol ins (t.take j) i n = lngGo sol ins t i n
  | [], i, n, j, h, hj => by rw [List.take_nil]
  | c :: t, i, n, 0, h, hj => by
    rw [List.take_zero, lngGo]
    rcases lngGo_or sol ins (c :: t) i n h with h1 | h1
    · exact h1.symm
    · omega
  | c :: t, i, n, j + 1, h, hj => by
    rw [List.take_succ_cons, lngGo, lngGo]
    rw [lngGo] at hj
    split
    · next hs => rw [if_pos hs] at hj; exact lngGo_take sol ins t (i + 1) (i + 1) j (Nat.le_refl _) (by omega)
    · next hs =>
      rw [if_neg hs] at hj
      split
      · rfl
      · next hi => rw [if_neg hi] at hj; exact lngGo_take sol ins t (i + 1) n j (by omega) (by omega)
theorem lngL_take (beg sol ins : Int → Bool) (t : List Int) (m : Nat) (h : lngL beg sol ins t ≤ m) : lngL beg sol ins (t.take m) = lngL beg sol ins t := by
  match t, m with
  | [], m => rw [List.take_nil]
  | c :: t, 0 => rw [List.take_zero]; show 0 = _; omega
  | c :: t, m + 1 =>
    rw [List.take_succ_cons, lngL, lngL]
    rw [lngL] at h
    split
    · next hb => rw [if_pos hb] at h; exact lngGo_take sol ins t 1 1 m (Nat.le_refl _) (by omega)
    · rfl
theorem lngL_beg (beg sol ins : Int → Bool) (t : List Int) (h : lngL beg sol ins t = 0) (hl : 0 < t.length) : beg (t.getD 0 0) = false := by
  match t with
  | [] => simp at hl
  | c :: t =>
    rw [lngL] at h
    show beg c = false
    cases hb : beg c
    · rfl
    · rw [if_pos hb] at h
      have := lngGo_ge sol ins t 1 1 (Nat.le_refl _)
      omega
variable (l0 l1 l2 : List S32)
/-- Whether the part of a text from lo to hi is an identifier. -/
def partV (text : List Int) (lo hi : Nat) : Bool := validS l0 l1 l2 ((text.take hi).drop lo)
theorem part_eq (text : List Int) (lo hi : Nat) : (text.take hi).drop lo = (text.drop lo).take (hi - lo) := List.drop_take
/-- What a split owes from a place on. -/
inductive Good (text : List Int) : Nat → List S32 → Prop
  | nil {a : Nat} (h : ∀ p, a ≤ p → p < text.length → begS l0 (text.getD p 0) = false) : Good text a []
  | cons {a s e : Nat} {r : S32} {L : List S32} (h0 : r.f0 = s) (h1 : r.f1 = e) (h2 : a ≤ s) (h3 : s < e) (h4 : e ≤ text.length) (h5 : partV l0 l1 l2 text s e = true)
      (h6 : ∀ p, a ≤ p → p < s → begS l0 (text.getD p 0) = false) (h7 : ∀ hi, e < hi → hi ≤ text.length → partV l0 l1 l2 text s hi = false) (h8 : Good text e L) : Good text a (r :: L)
theorem getD_drop (t : List Int) (a : Nat) : (t.drop a).getD 0 0 = t.getD a 0 := by
  rw [List.getD_eq_getElem?_getD, List.getD_eq_getElem?_getD, List.getElem?_drop, Nat.add_zero]
theorem Good.back {text : List Int} {a : Nat} {L : List S32} (ha : begS l0 (text.getD a 0) = false) (h : Good l0 l1 l2 text (a + 1) L) : Good l0 l1 l2 text a L := by
  cases h with
  | nil h =>
    refine .nil fun p hp hl => ?_
    rcases Nat.lt_or_ge a p with h1 | h1
    · exact h p h1 hl
    · obtain rfl : p = a := by omega
      exact ha
  | cons h0 h1 h2 h3 h4 h5 h6 h7 h8 =>
    refine .cons h0 h1 (by omega) h3 h4 h5 (fun p hp hl => ?_) h7 h8
    rcases Nat.lt_or_ge a p with h1 | h1
    · exact h6 p h1 hl
    · obtain rfl : p = a := by omega
      exact ha
theorem part_long (text : List Int) (s : Nat) (hs : s ≤ text.length) (hi : Nat) (h1 : s + lngS l0 l1 l2 (text.drop s) ≤ hi) (h2 : hi ≤ text.length) : partV l0 l1 l2 text s hi = (decide (s < hi) && decide (s + lngS l0 l1 l2 (text.drop s) = hi)) := by
  unfold partV
  rw [part_eq, validS]
  have hl : ((text.drop s).take (hi - s)).length = hi - s := by rw [List.length_take, List.length_drop]; omega
  have e : lngS l0 l1 l2 ((text.drop s).take (hi - s)) = lngS l0 l1 l2 (text.drop s) := lngL_take _ _ _ _ _ (by show lngS l0 l1 l2 _ ≤ _; omega)
  rw [hl, e]
  have a1 : decide (0 < hi - s) = decide (s < hi) := decide_eq_decide.2 (by omega)
  have a2 : decide (lngS l0 l1 l2 (text.drop s) = hi - s) = decide (s + lngS l0 l1 l2 (text.drop s) = hi) := decide_eq_decide.2 (by omega)
  rw [a1, a2]
theorem split_good (text : List Int) : ∀ (d a : Nat), text.length - a ≤ d → Good l0 l1 l2 text a (splitGo (lngS l0 l1 l2) text d a)
  | 0, a, h => .nil fun p hp hl => by omega
  | d + 1, a, h => by
    rw [splitGo]
    by_cases hl : a < text.length
    · rw [if_pos hl]
      have hle : lngS l0 l1 l2 (text.drop a) ≤ text.length - a := by have := lngL_le (begS l0) (solS l0 l1) (insS l0 l1 l2) (text.drop a); rw [List.length_drop] at this; exact this
      by_cases hn : 0 < lngS l0 l1 l2 (text.drop a)
      · rw [if_pos hn]
        refine .cons rfl rfl (Nat.le_refl _) (by omega) (by omega) ?_ (fun p h1 h2 => by omega) (fun hi h1 h2 => ?_) (split_good text d _ (by omega))
        · rw [part_long l0 l1 l2 text a (by omega) _ (Nat.le_refl _) (by omega)]
          rw [decide_eq_true (by omega), decide_eq_true rfl]; rfl
        · rw [part_long l0 l1 l2 text a (by omega) hi (by omega) h2]
          rw [decide_eq_false (p := a + lngS l0 l1 l2 (text.drop a) = hi) (by omega), Bool.and_false]
      · rw [if_neg hn]
        refine Good.back l0 l1 l2 ?_ (split_good text d _ (by omega))
        have := lngL_beg (begS l0) (solS l0 l1) (insS l0 l1 l2) (text.drop a) (by show lngS l0 l1 l2 _ = 0; omega) (by rw [List.length_drop]; omega)
        rw [getD_drop] at this
        exact this
    · rw [if_neg hl]
      exact .nil fun p hp hl' => by omega
theorem splitS_good (text : List Int) : Good l0 l1 l2 text 0 (splitS l0 l1 l2 text) := split_good l0 l1 l2 text _ 0 (by omega)
theorem splitS_length (text : List Int) : (splitS l0 l1 l2 text).length ≤ text.length := by have := splitGo_length (lngS l0 l1 l2) text text.length 0; unfold splitS; omega
variable {l0 l1 l2}
/-- The sets and the text are small. -/
structure Few (l0 l1 l2 : List S32) (text : List Int) : Prop where
  a : l0.length ≤ 12
  b : l1.length ≤ 12
  c : l2.length ≤ 12
  t : text.length ≤ 40
theorem few_f (l0 l1 l2 : List S32) (text : List Int) : ∃ r, unicodetextlaw39_few.f l0 l1 l2 text = some r ∧ (r = true → Few l0 l1 l2 text) := by
  unfold unicodetextlaw39_few.f unicodetextref39_Small.f unicodetextref02_Small.f
  simp only [Option.bind_some]
  by_cases h0 : (l0.length : Int) ≤ 12
  · rw [decide_eq_true h0, if_pos rfl]
    by_cases h1 : (l1.length : Int) ≤ 12
    · rw [decide_eq_true h1, if_pos rfl]
      by_cases h2 : (l2.length : Int) ≤ 12
      · rw [decide_eq_true h2, Option.bind_some, if_pos rfl]
        by_cases h3 : (text.length : Int) ≤ 40
        · rw [decide_eq_true h3]
          exact ⟨_, rfl, fun _ => ⟨by omega, by omega, by omega, by omega⟩⟩
        · rw [decide_eq_false h3]
          exact ⟨_, rfl, fun h => by cases h⟩
      · rw [decide_eq_false h2]
        exact ⟨_, rfl, fun h => by cases h⟩
    · rw [decide_eq_false h1]
      exact ⟨_, rfl, fun h => by cases h⟩
  · rw [decide_eq_false h0]
    exact ⟨_, rfl, fun h => by cases h⟩
theorem Few.valid {text : List Int} (h : Few l0 l1 l2 text) (t : List Int) : ident_Valid.f l0 l1 l2 t = some (validS l0 l1 l2 t) := by
  unfold ident_Valid.f
  rw [if_pos ⟨by have := h.a; omega, by have := h.b; omega, by have := h.c; omega⟩]
theorem Few.split {text : List Int} (h : Few l0 l1 l2 text) : ident_Split.f l0 l1 l2 text = some (splitS l0 l1 l2 text) := by
  unfold ident_Split.f
  rw [if_pos ⟨by have := h.a; omega, by have := h.b; omega, by have := h.c; omega, by have := h.t; omega⟩]
end Go.Proofs.YtjfcmiocmcdjlaaGreatDoor.G
