/- The specification's check of mappings in plain words: it answers as the program's. No program in sight. -/
import Derived.Test.YtdgboklnhmfhoaaGreatDoorCG9
import Derived.Test.YtdgboklnhmfhoaaGreatDoorCHfold
import Derived.Test.YtdgboklnhmfhoaaGreatDoorCV2
namespace Go.Proofs.YtdgboklnhmfhoaaGreatDoor.G
open Go.RowKit Go.Proofs.YtdgboklnhmfhoaaGreatDoorW.PrintWords Go.Proofs.YtdgboklnhmfhoaaGreatDoorW.PrintLast Go.Proofs.YtdgboklnhmfhoaaGreatDoorW.PrintMore
set_option linter.unusedVariables false
theorem valid01 (c : Int) : unicodetextref01_Valid.f c = some (!badCode c) := by
  unfold unicodetextref01_Valid.f badCode
  by_cases h1 : 0 ≤ c
  · rw [if_pos h1, decide_eq_true h1]; simp
  · rw [if_neg h1, decide_eq_false h1]; rfl
theorem codes_l0 (f0 : Int) (f1 : List Int) (f2 : ByteArray) (hl : f1.length ≤ 1000000) (d : Nat) : ∀ i : Nat, i ≤ f1.length → f1.length - i = d →
    Ev (fun k => unicodetextref11_codes.l0 k i f0 f1 f2) (!(f1.drop i).any badCode && !badCode f0) := by
  induction d with
  | zero =>
    intro i hi hd
    have e : f1.drop i = [] := List.drop_eq_nil_of_le (by omega)
    refine Ev.step (f := fun _ => some (!(f1.drop i).any badCode && !badCode f0)) (fun k => ?_) (Ev.now _)
    rw [unicodetextref11_codes.l0, if_neg (by omega), valid01, e]
    simp
  | succ d ih =>
    intro i hi hd
    have h1 : i < f1.length := by omega
    rw [List.drop_eq_getElem_cons h1, List.any_cons]
    cases hb : badCode f1[i]
    · refine Ev.step (f := fun k => unicodetextref11_codes.l0 k ((i + 1 : Nat) : Int) f0 f1 f2) (fun k => ?_) (by simpa using ih (i + 1) (by omega) (by omega))
      rw [unicodetextref11_codes.l0, if_pos (by omega), if_pos (by omega), rd_get h1, valid01, hb, w64n (by omega)]
      rfl
    · refine Ev.step (f := fun _ => some false) (fun k => ?_) (by simpa using Ev.now false)
      rw [unicodetextref11_codes.l0, if_pos (by omega), if_pos (by omega), rd_get h1, valid01, hb]
      rfl
theorem codes_ev (m : S44) (hl : m.f1.length ≤ 1000000) : Ev (fun k => unicodetextref11_codes.f k m.f0 m.f1 m.f2) (!badMap m) := by
  have h := codes_l0 m.f0 m.f1 m.f2 hl m.f1.length 0 (Nat.zero_le _) rfl
  have e : (!(m.f1.drop 0).any badCode && !badCode m.f0) = !badMap m := by
    simp only [List.drop_zero, badMap, okCodes, List.any_cons, List.any_nil, Bool.or_false, Bool.not_not]
    cases m.f1.any badCode <;> cases badCode m.f0 <;> rfl
  rw [e] at h
  exact h
theorem name_step (k : Nat) (s : ByteArray) (i : Nat) (h : i < s.size) : unicodetextref11_Name.l0 (k + 1) s i = if goodRune (bt s i) = true then unicodetextref11_Name.l0 k s (wrap64 ((i : Int) + 1)) else some false := by
  rw [unicodetextref11_Name.l0, if_pos (by omega), if_pos (by omega)]
  generalize bt s i = c
  unfold goodRune
  simp only [decide_eq_true_eq]
  repeat' split
  all_goals first | rfl | (exfalso; omega)
theorem bt_get (s : ByteArray) (i : Nat) (h : i < s.size) (h2 : i < s.data.toList.length) : bt s i = ((s.data.toList[i]).toNat : Int) := by
  unfold bt
  rw [dif_pos (by simpa using h)]
  simp [ByteArray.getElem_eq_getElem_data]
theorem name_l0 (s : ByteArray) (hl : s.size ≤ 1000000) (d : Nat) : ∀ i : Nat, i ≤ s.size → s.size - i = d →
    Ev (fun k => unicodetextref11_Name.l0 k s i) (!(s.data.toList.drop i).any badByte && (decide (1 ≤ s.size) && decide (s.size ≤ 32))) := by
  have hsz : s.data.toList.length = s.size := by rw [Array.length_toList]; rfl
  induction d with
  | zero =>
    intro i hi hd
    have e : s.data.toList.drop i = [] := List.drop_eq_nil_of_le (by omega)
    refine Ev.step (f := fun _ => some (!(s.data.toList.drop i).any badByte && (decide (1 ≤ s.size) && decide (s.size ≤ 32)))) (fun k => ?_) (Ev.now _)
    rw [unicodetextref11_Name.l0, if_neg (by omega), e]
    by_cases h1 : 1 ≤ s.size
    · rw [if_pos (by omega), decide_eq_true h1]
      by_cases h2 : s.size ≤ 32
      · rw [decide_eq_true h2, decide_eq_true (by omega)]; rfl
      · rw [decide_eq_false h2, decide_eq_false (by omega)]; rfl
    · rw [if_neg (by omega), decide_eq_false h1]; rfl
  | succ d ih =>
    intro i hi hd
    have h1 : i < s.size := by omega
    have h2 : i < s.data.toList.length := by omega
    rw [List.drop_eq_getElem_cons h2, List.any_cons]
    have hg : goodRune (bt s i) = !badByte (s.data.toList[i]) := by rw [bt_get s i h1 h2, badByte, Bool.not_not]
    cases hb : badByte (s.data.toList[i])
    · refine Ev.step (f := fun k => unicodetextref11_Name.l0 k s ((i + 1 : Nat) : Int)) (fun k => ?_) (by simpa using ih (i + 1) (by omega) (by omega))
      rw [name_step k s i h1, hg, hb, w64n (by omega)]
      rfl
    · refine Ev.step (f := fun _ => some false) (fun k => ?_) (by simpa using Ev.now false)
      rw [name_step k s i h1, hg, hb]
      rfl
theorem name_ev (s : ByteArray) (hl : s.size ≤ 1000000) : Ev (fun k => unicodetextref11_Name.f k s) (decide (1 ≤ s.size) && okName s) := by
  have h := name_l0 s hl s.size 0 (Nat.zero_le _) rfl
  have e : (!(s.data.toList.drop 0).any badByte && (decide (1 ≤ s.size) && decide (s.size ≤ 32))) = (decide (1 ≤ s.size) && okName s) := by
    simp only [List.drop_zero, okName, anyBad]
    cases s.data.toList.any badByte <;> cases decide (1 ≤ s.size) <;> cases decide (s.size ≤ 32) <;> rfl
  rw [e] at h
  exact h
theorem toList_inj {a b : ByteArray} : a.toList = b.toList ↔ a = b := by
  constructor
  · intro h
    rw [ByteArray.toList_eq, ByteArray.toList_eq] at h
    obtain ⟨⟨a⟩⟩ := a
    obtain ⟨⟨b⟩⟩ := b
    simp at h
    rw [h]
  · intro h; rw [h]
theorem key_eq {m n : S44} : (m.f0 = n.f0 ∧ m.f2 = n.f2) ↔ keyM m = keyM n := by simp [keyM]
theorem twice_l0 (l : List S44) (hl : l.length ≤ 1000000) (d : Nat) : ∀ i : Nat, i ≤ l.length → l.length - i = d → Ev (fun k => unicodetextref11_twice.l0 k l i) (dupFrom ((l.take i).map keyM) (l.drop i)) := by
  induction d with
  | zero =>
    intro i hi hd
    have e : l.drop i = [] := List.drop_eq_nil_of_le (by omega)
    rw [e]
    exact Ev.step (f := fun _ => some false) (fun k => by rw [unicodetextref11_twice.l0, if_neg (by omega)]) (Ev.now _)
  | succ d ih =>
    intro i hi hd
    have h1 : i < l.length := by omega
    have hnext := ih (i + 1) (by omega) (by omega)
    rw [List.drop_eq_getElem_cons h1, dupFrom]
    have e1 : (l.take i).map keyM ++ [keyM l[i]] = (l.take (i + 1)).map keyM := by rw [List.take_succ_eq_append_getElem h1, List.map_append]; rfl
    rw [e1]
    generalize dupFrom ((l.take (i + 1)).map keyM) (l.drop (i + 1)) = rest at hnext
    have inner : ∀ e j : Nat, j ≤ i → i - j = e → Ev (fun k => unicodetextref11_twice.l1 k l i j) (inKeys (keyM l[i]) (((l.take i).map keyM).drop j) || rest) := by
      intro e
      induction e with
      | zero =>
        intro j hj he
        have e0 : ((l.take i).map keyM).drop j = [] := List.drop_eq_nil_of_le (by simp; omega)
        rw [e0]
        refine Ev.step (f := fun k => unicodetextref11_twice.l0 k l ((i + 1 : Nat) : Int)) (fun k => by rw [unicodetextref11_twice.l1, if_neg (by omega), w64n (by omega)]) ?_
        simpa [inKeys] using hnext
      | succ e ihj =>
        intro j hj he
        have hj1 : j < l.length := by omega
        have hjl : j < ((l.take i).map keyM).length := by simp; omega
        have ek : ((l.take i).map keyM)[j] = keyM l[j] := by simp
        rw [List.drop_eq_getElem_cons hjl, ek]
        by_cases hk : keyM l[i] = keyM l[j]
        · have hk' := key_eq.2 hk
          refine Ev.step (f := fun _ => some true) (fun k => ?_) (by simpa [inKeys, hk] using Ev.now true)
          rw [unicodetextref11_twice.l1, if_pos (by omega), if_pos (by omega), if_pos (by omega), if_pos (by omega), if_pos (by omega), rdT_get h1, rdT_get hj1, if_pos hk'.1, if_pos (toList_inj.2 hk'.2)]
        · refine Ev.step (f := fun k => unicodetextref11_twice.l1 k l i ((j + 1 : Nat) : Int)) (fun k => ?_) ?_
          · rw [unicodetextref11_twice.l1, if_pos (by omega), if_pos (by omega), if_pos (by omega), if_pos (by omega), if_pos (by omega), rdT_get h1, rdT_get hj1, w64n (by omega)]
            by_cases h0 : l[i].f0 = l[j].f0
            · rw [if_pos h0, if_neg (fun h2 => hk (key_eq.1 ⟨h0, toList_inj.1 h2⟩))]
            · rw [if_neg h0]
          · have hne : decide (keyM l[j] = keyM l[i]) = false := by simp; exact fun h => hk h.symm
            have := ihj (j + 1) (by omega) (by omega)
            simpa [inKeys, hne] using this
    have := inner i 0 (Nat.zero_le _) rfl
    rw [List.drop_zero] at this
    exact Ev.step (f := fun k => unicodetextref11_twice.l1 k l i ((0 : Nat) : Int)) (fun k => by rw [unicodetextref11_twice.l0, if_pos (by omega)]; rfl) this
theorem twice_ev (l : List S44) (hl : l.length ≤ 1000000) : Ev (fun k => unicodetextref11_twice.f k l) (dupFrom [] l) := by
  have h := twice_l0 l hl l.length 0 (Nat.zero_le _) rfl
  rw [List.take_zero, List.map_nil, List.drop_zero] at h
  exact h
/-- What the check reads is of a size. -/
def bulkP (l : List S44) : Prop := l.length ≤ 1000000 ∧ ∀ m ∈ l, m.f1.length ≤ 1000000 ∧ m.f2.size ≤ 1000000
theorem uns_l2 (l : List S44) (hb : bulkP l) (d : Nat) : ∀ i : Nat, i ≤ l.length → l.length - i = d → Ev (fun k => unicodetextref11_unsorted.l2 k l i) (if (l.drop i).any badTag then 6 else if dupFrom [] l then 5 else 0) := by
  induction d with
  | zero =>
    intro i hi hd
    have e : l.drop i = [] := List.drop_eq_nil_of_le (by omega)
    rw [e]
    refine Ev.step (f := fun k => (unicodetextref11_twice.f k l).bind fun t132 => (if t132 = true then (some 5) else (some 0))) (fun k => by rw [unicodetextref11_unsorted.l2, if_neg (by omega)]) ?_
    refine Ev.bind (f := fun _ t132 => (if t132 = true then (some 5) else (some 0))) (twice_ev l hb.1) ?_
    cases dupFrom [] l <;> exact Ev.now _
  | succ d ih =>
    intro i hi hd
    have h1 : i < l.length := by omega
    have hm := hb.2 l[i] (List.getElem_mem h1)
    have hn := ih (i + 1) (by omega) (by omega)
    rw [List.drop_eq_getElem_cons h1, List.any_cons]
    by_cases h0 : l[i].f2.toList = []
    · have hz : badTag l[i] = false := by
        rw [badTag]
        have : l[i].f2.size = 0 := by
          rw [ByteArray.toList_eq] at h0
          have := congrArg List.length h0
          simpa using this
        simp [this]
      rw [hz]
      refine Ev.step (f := fun k => unicodetextref11_unsorted.l2 k l ((i + 1 : Nat) : Int)) (fun k => ?_) (by simpa using hn)
      rw [unicodetextref11_unsorted.l2, if_pos (by omega), if_pos (by omega), rdT_get h1, if_pos h0, w64n (by have := hb.1; omega)]
    · have hp : 1 ≤ l[i].f2.size := by
        rcases Nat.eq_zero_or_pos l[i].f2.size with h | h
        · exact absurd (by rw [ByteArray.toList_eq]; exact List.length_eq_zero_iff.1 (by simpa using h)) h0
        · exact h
      have hbt : badTag l[i] = !okName l[i].f2 := by rw [badTag, decide_eq_true (by omega), Bool.true_and]
      have hnm := name_ev l[i].f2 hm.2
      rw [decide_eq_true hp, Bool.true_and] at hnm
      refine Ev.step (f := fun k => (unicodetextref11_Name.f k l[i].f2).bind fun t131 => (if t131 = true then (unicodetextref11_unsorted.l2 k l ((i + 1 : Nat) : Int)) else (some 6))) (fun k => ?_) (Ev.bind (f := fun k t131 => (if t131 = true then (unicodetextref11_unsorted.l2 k l ((i + 1 : Nat) : Int)) else (some 6))) hnm ?_)
      · rw [unicodetextref11_unsorted.l2, if_pos (by omega), if_pos (by omega), rdT_get h1, if_neg h0, w64n (by have := hb.1; omega)]
      · rw [hbt]
        cases okName l[i].f2
        · exact Ev.now _
        · simpa using hn
theorem uns_l1 (l : List S44) (hb : bulkP l) (d : Nat) : ∀ i : Nat, i ≤ l.length → l.length - i = d → Ev (fun k => unicodetextref11_unsorted.l1 k l i) (if (l.drop i).any longMap then 2 else if l.any badTag then 6 else if dupFrom [] l then 5 else 0) := by
  induction d with
  | zero =>
    intro i hi hd
    have e : l.drop i = [] := List.drop_eq_nil_of_le (by omega)
    rw [e]
    have h := uns_l2 l hb l.length 0 (Nat.zero_le _) rfl
    exact Ev.step (f := fun k => unicodetextref11_unsorted.l2 k l ((0 : Nat) : Int)) (fun k => by rw [unicodetextref11_unsorted.l1, if_neg (by omega)]; rfl) h
  | succ d ih =>
    intro i hi hd
    have h1 : i < l.length := by omega
    have hn := ih (i + 1) (by omega) (by omega)
    rw [List.drop_eq_getElem_cons h1, List.any_cons]
    by_cases h0 : ((l[i].f1.length : Nat) : Int) > 64
    · have hz : longMap l[i] = true := by rw [longMap]; exact decide_eq_true (by omega)
      rw [hz]
      exact Ev.step (f := fun _ => some 2) (fun k => by rw [unicodetextref11_unsorted.l1, if_pos (by omega), if_pos (by omega), rdT_get h1, if_pos h0]) (Ev.now _)
    · have hz : longMap l[i] = false := by rw [longMap]; exact decide_eq_false (by omega)
      rw [hz]
      refine Ev.step (f := fun k => unicodetextref11_unsorted.l1 k l ((i + 1 : Nat) : Int)) (fun k => ?_) (by simpa using hn)
      rw [unicodetextref11_unsorted.l1, if_pos (by omega), if_pos (by omega), rdT_get h1, if_neg h0, w64n (by have := hb.1; omega)]
theorem uns_l0 (l : List S44) (hb : bulkP l) (d : Nat) : ∀ i : Nat, i ≤ l.length → l.length - i = d → Ev (fun k => unicodetextref11_unsorted.l0 k l i) (if (l.drop i).any badMap then 1 else if l.any longMap then 2 else if l.any badTag then 6 else if dupFrom [] l then 5 else 0) := by
  induction d with
  | zero =>
    intro i hi hd
    have e : l.drop i = [] := List.drop_eq_nil_of_le (by omega)
    rw [e]
    have h := uns_l1 l hb l.length 0 (Nat.zero_le _) rfl
    exact Ev.step (f := fun k => unicodetextref11_unsorted.l1 k l ((0 : Nat) : Int)) (fun k => by rw [unicodetextref11_unsorted.l0, if_neg (by omega)]; rfl) h
  | succ d ih =>
    intro i hi hd
    have h1 : i < l.length := by omega
    have hm := hb.2 l[i] (List.getElem_mem h1)
    have hn := ih (i + 1) (by omega) (by omega)
    rw [List.drop_eq_getElem_cons h1, List.any_cons]
    refine Ev.step (f := fun k => (unicodetextref11_codes.f k l[i].f0 l[i].f1 l[i].f2).bind fun t127 => (if t127 = true then (unicodetextref11_unsorted.l0 k l ((i + 1 : Nat) : Int)) else (some 1))) (fun k => ?_) (Ev.bind (f := fun k t127 => (if t127 = true then (unicodetextref11_unsorted.l0 k l ((i + 1 : Nat) : Int)) else (some 1))) (codes_ev l[i] hm.1) ?_)
    · rw [unicodetextref11_unsorted.l0, if_pos (by omega), if_pos (by omega), rdT_get h1, w64n (by have := hb.1; omega)]
    · cases badMap l[i]
      · simpa using hn
      · exact Ev.now _
theorem unsorted_ev (l : List S44) (hb : bulkP l) : Ev (fun k => unicodetextref11_unsorted.f k l) (chk56 l) := uns_l0 l hb l.length 0 (Nat.zero_le _) rfl
theorem bytesLess_cmp : ∀ x y : List UInt8, (0 ≤ Lib.compareBytes y x) ↔ (x = y ∨ Op.bytesLess x y = true) := by
  intro x
  induction x with
  | nil =>
    intro y
    cases y with
    | nil => simp [Lib.compareBytes]
    | cons b y => simp [Lib.compareBytes, Op.bytesLess]
  | cons a x ih =>
    intro y
    cases y with
    | nil => simp [Lib.compareBytes, Op.bytesLess]
    | cons b y =>
      rw [Lib.compareBytes, Op.bytesLess]
      by_cases h1 : b < a
      · rw [if_pos h1]
        have h2 : ¬ a < b := by simp [UInt8.lt_iff_toNat_lt] at h1 ⊢; omega
        have h3 : ¬ a = b := by rintro rfl; exact absurd h1 (by simp)
        simp [h2, h3]
      · rw [if_neg h1]
        by_cases h2 : a < b
        · rw [if_pos h2]
          simp [h2]
        · rw [if_neg h2]
          have h3 : a = b := by
            apply UInt8.toNat_inj.1
            simp [UInt8.lt_iff_toNat_lt] at h1 h2
            omega
          subst h3
          rw [ih y]
          simp [h2]
/-- Of two different keys, the one is before the other if the order says so. -/
theorem before_ord (m n : S44) (hk : keyM m ≠ keyM n) : unicodetextref11_before.f m.f0 m.f1 m.f2 n.f0 n.f1 n.f2 = some (decide (0 ≤ ordM n.f0 n.f2 m.f0 m.f2)) := by
  unfold unicodetextref11_before.f ordM orI Lib.compareInt
  by_cases h1 : m.f0 < n.f0
  · rw [if_pos h1, if_neg (show ¬ n.f0 < m.f0 by omega), if_pos (show n.f0 > m.f0 by omega)]
    rfl
  · rw [if_neg h1]
    by_cases h2 : m.f0 = n.f0
    · rw [if_pos h2, if_neg (show ¬ n.f0 < m.f0 by omega), if_neg (show ¬ n.f0 > m.f0 by omega), if_neg (by simp)]
      have hne : m.f2.data.toList ≠ n.f2.data.toList := fun e => hk (key_eq.1 ⟨h2, toList_inj.1 (by rw [ByteArray.toList_eq, ByteArray.toList_eq]; exact e)⟩)
      have h := bytesLess_cmp m.f2.data.toList n.f2.data.toList
      rw [ByteArray.toList_eq, ByteArray.toList_eq]
      cases hb : Op.bytesLess m.f2.data.toList n.f2.data.toList
      · rw [decide_eq_false (fun q => by rcases h.1 q with q | q; exact hne q; rw [hb] at q; cases q)]
      · rw [decide_eq_true (h.2 (.inr hb))]
    · rw [if_neg h2, if_pos (show n.f0 < m.f0 by omega)]
      rfl
theorem check_l0 (l : List S44) (hb : bulkP l) (hnd : (l.map keyM).Nodup) (d : Nat) : ∀ i : Nat, 1 ≤ i → l.length - i = d → (∀ j, j < i → j < l.length → (decide (j = 0) || decide (0 ≤ ordAt l j)) = true) →
    Ev (fun k => unicodetextref11_Check.l0 k l i) (if sortedM l then 0 else 4) := by
  induction d with
  | zero =>
    intro i hi hd hs
    have hz : sortedM l = true := by
      unfold sortedM
      rw [List.all_eq_true]
      intro j hj
      exact hs j (by have := List.mem_range.1 hj; omega) (List.mem_range.1 hj)
    rw [hz]
    exact Ev.step (f := fun _ => some 0) (fun k => by rw [unicodetextref11_Check.l0, if_neg (by omega)]) (Ev.now _)
  | succ d ih =>
    intro i hi hd hs
    have h1 : i < l.length := by omega
    have h2 : i - 1 < l.length := by omega
    have hlen := hb.1
    have hw : wrap64 ((i : Int) - 1) = ((i - 1 : Nat) : Int) := by unfold wrap64; omega
    have hne : keyM l[i - 1] ≠ keyM l[i] := by
      intro e
      rw [List.nodup_iff_pairwise_ne, List.pairwise_iff_getElem] at hnd
      have := hnd (i - 1) i (by simpa using h2) (by simpa using h1) (by omega)
      simp at this
      exact this e
    have ho : ordAt l i = ordM l[i].f0 l[i].f2 l[i - 1].f0 l[i - 1].f2 := by
      unfold ordAt
      have e : ((i : Int) - 1) = ((i - 1 : Nat) : Int) := by omega
      rw [e, rdT_get h1, rdT_get h2]
    have hstep : ∀ k, unicodetextref11_Check.l0 (k + 1) l i = if decide (0 ≤ ordAt l i) = true then unicodetextref11_Check.l0 k l ((i + 1 : Nat) : Int) else some 4 := fun k => by
      rw [unicodetextref11_Check.l0, if_pos (by omega), hw, if_pos (by omega), if_pos (by omega), if_pos (by omega), rdT_get h1, rdT_get h2, before_ord _ _ hne, w64n (by omega), ho]
      rfl
    cases hd0 : decide (0 ≤ ordAt l i)
    · have hz : sortedM l = false := by
        unfold sortedM
        rw [List.all_eq_false]
        refine ⟨i, List.mem_range.2 h1, ?_⟩
        rw [hd0, decide_eq_false (by omega)]
        simp
      rw [hz]
      exact Ev.step (f := fun _ => some 4) (fun k => by rw [hstep, hd0]; rfl) (Ev.now _)
    · refine Ev.step (f := fun k => unicodetextref11_Check.l0 k l ((i + 1 : Nat) : Int)) (fun k => by rw [hstep, hd0]; rfl) (ih (i + 1) (by omega) (by omega) (fun j hj hjl => ?_))
      rcases Nat.lt_or_ge j i with h | h
      · exact hs j h hjl
      · obtain rfl : j = i := by omega
        rw [hd0]
        simp
theorem check11_ev (l : List S44) (hb : bulkP l) : Ev (fun k => unicodetextref11_Check.f k l) (chkM l) := by
  refine Ev.bind (f := fun k t135 => (if t135 = 0 then (unicodetextref11_Check.l0 k l 1) else (some t135))) (unsorted_ev l hb) ?_
  unfold chkM
  by_cases h0 : chk56 l = 0
  · rw [if_neg (by omega)]
    have hnd : (l.map keyM).Nodup := by
      unfold chk56 at h0
      repeat (split at h0; · cases h0)
      next h4 => exact (nodup_of_dup l [] (by simpa using h4)).1
    refine Ev.congr (f := fun k => unicodetextref11_Check.l0 k l ((1 : Nat) : Int)) (fun k => by rw [if_pos h0]; rfl) (check_l0 l hb hnd (l.length - 1) 1 (Nat.le_refl _) rfl (fun j hj _ => ?_))
    have : j = 0 := by omega
    subst this
    rfl
  · rw [if_pos h0]
    exact Ev.congr (f := fun _ => some (chk56 l)) (fun k => by rw [if_neg h0]) (Ev.now _)
end Go.Proofs.YtdgboklnhmfhoaaGreatDoor.G
