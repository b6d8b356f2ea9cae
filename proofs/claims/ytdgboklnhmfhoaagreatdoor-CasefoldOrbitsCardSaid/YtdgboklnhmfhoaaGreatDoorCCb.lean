/- The specification's union, meet and difference of sets, by cuts: what comes out is canonical, and has the members that it should. No program in sight. -/
import Derived.Test.YtdgboklnhmfhoaaGreatDoorCHmake
import Derived.Test.YtdgboklnhmfhoaaGreatDoorCT3
namespace Go.Proofs.YtdgboklnhmfhoaaGreatDoor.G
open Go.RowKit Go.Proofs.YtdgboklnhmfhoaaGreatDoorW.PrintWords Go.Proofs.YtdgboklnhmfhoaaGreatDoorW.PrintLast Go.Proofs.YtdgboklnhmfhoaaGreatDoorW.PrintMore
open UcSets (mem canonFrom)
set_option linter.unusedVariables false
def placeL : List Int → Int → List Int
  | [], n => [n]
  | x :: t, n => if n ≤ x then (if n < x then n :: x :: t else x :: t) else x :: placeL t n
theorem placeL_mem (l : List Int) (n x : Int) : x ∈ placeL l n ↔ x ∈ l ∨ x = n := by
  induction l with
  | nil => simp [placeL]
  | cons y t ih =>
    rw [placeL]
    split
    · next h =>
      split
      · simp; constructor
        · rintro (h | h | h) <;> simp [h]
        · rintro ((h | h) | h) <;> simp [h]
      · next h2 =>
        have : n = y := by omega
        subst this
        simp
        exact fun h => .inl h
    · rw [List.mem_cons, ih, List.mem_cons]
      constructor
      · rintro (h | h | h) <;> simp [h]
      · rintro ((h | h) | h) <;> simp [h]
theorem placeL_sorted {l : List Int} (h : l.Pairwise (fun a b => a < b)) (n : Int) : (placeL l n).Pairwise (fun a b => a < b) := by
  induction l with
  | nil => simp [placeL]
  | cons y t ih =>
    rw [placeL]
    rw [List.pairwise_cons] at h
    split
    · next h1 =>
      split
      · next h2 =>
        rw [List.pairwise_cons]
        refine ⟨fun a ha => ?_, List.pairwise_cons.2 h⟩
        rcases List.mem_cons.1 ha with rfl | ha
        · exact h2
        · have := h.1 a ha; omega
      · exact List.pairwise_cons.2 h
    · next h1 =>
      rw [List.pairwise_cons]
      refine ⟨fun a ha => ?_, ih h.2⟩
      rcases (placeL_mem t n a).1 ha with ha | rfl
      · exact h.1 a ha
      · omega
theorem placeL_length (l : List Int) (n : Int) : (placeL l n).length ≤ l.length + 1 := by
  induction l with
  | nil => simp [placeL]
  | cons y t ih =>
    rw [placeL]
    split
    · split <;> simp
    · simp only [List.length_cons]; omega
def cutLo (l : List Int) (r : S87) : List Int := if badCode r.f0 then l else placeL l r.f0
def cutStep (l : List Int) (r : S87) : List Int := if 0 ≤ r.f1 ∧ r.f1 < 1114111 then placeL (cutLo l r) (r.f1 + 1) else cutLo l r
def cutsL (l : List Int) (rs : List S87) : List Int := placeL (rs.foldl cutStep l) 0
def CutsOk (l : List Int) : Prop := l.Pairwise (fun a b => a < b) ∧ ∀ x ∈ l, 0 ≤ x ∧ x ≤ 1114111
theorem place_ok {l : List Int} (h : CutsOk l) {n : Int} (hn : 0 ≤ n ∧ n ≤ 1114111) : CutsOk (placeL l n) :=
  ⟨placeL_sorted h.1 n, fun x hx => by rcases (placeL_mem l n x).1 hx with hx | rfl; exact h.2 x hx; exact hn⟩
theorem good_iff {c : Int} : badCode c = false ↔ 0 ≤ c ∧ c ≤ 1114111 := by simp [badCode]
theorem cutLo_ok {l : List Int} (h : CutsOk l) (r : S87) : CutsOk (cutLo l r) := by
  unfold cutLo
  cases hb : badCode r.f0
  · exact place_ok h (good_iff.1 hb)
  · exact h
theorem cutStep_ok {l : List Int} (h : CutsOk l) (r : S87) : CutsOk (cutStep l r) := by
  unfold cutStep
  split
  · next h1 => exact place_ok (cutLo_ok h r) (by omega)
  · exact cutLo_ok h r
theorem cutStep_sub {l : List Int} {r : S87} {x : Int} (h : x ∈ l) : x ∈ cutStep l r := by
  have h1 : x ∈ cutLo l r := by
    unfold cutLo
    split
    · exact h
    · exact (placeL_mem _ _ _).2 (.inl h)
  unfold cutStep
  split
  · exact (placeL_mem _ _ _).2 (.inl h1)
  · exact h1
theorem cutStep_lo {l : List Int} {r : S87} (h : 0 ≤ r.f0 ∧ r.f0 ≤ 1114111) : r.f0 ∈ cutStep l r := by
  have h1 : r.f0 ∈ cutLo l r := by
    unfold cutLo
    rw [good_iff.2 h]
    exact (placeL_mem _ _ _).2 (.inr rfl)
  unfold cutStep
  split
  · exact (placeL_mem _ _ _).2 (.inl h1)
  · exact h1
theorem cutStep_hi {l : List Int} {r : S87} (h : 0 ≤ r.f1 ∧ r.f1 < 1114111) : r.f1 + 1 ∈ cutStep l r := by
  unfold cutStep
  rw [if_pos h]
  exact (placeL_mem _ _ _).2 (.inr rfl)
theorem cutFold_ok {rs : List S87} : ∀ {l : List Int}, CutsOk l → CutsOk (rs.foldl cutStep l) := by
  induction rs with
  | nil => exact fun h => h
  | cons r t ih => exact fun h => ih (cutStep_ok h r)
theorem cutFold_sub {rs : List S87} : ∀ {l : List Int} {x : Int}, x ∈ l → x ∈ rs.foldl cutStep l := by
  induction rs with
  | nil => exact fun h => h
  | cons r t ih => exact fun h => ih (cutStep_sub h)
theorem cutFold_bounds {rs : List S87} : ∀ {l : List Int} {r : S87}, r ∈ rs → ((0 ≤ r.f0 ∧ r.f0 ≤ 1114111) → r.f0 ∈ rs.foldl cutStep l) ∧ ((0 ≤ r.f1 ∧ r.f1 < 1114111) → r.f1 + 1 ∈ rs.foldl cutStep l) := by
  induction rs with
  | nil => intro l r h; cases h
  | cons q t ih =>
    intro l r h
    rcases List.mem_cons.1 h with rfl | h
    · rw [List.foldl_cons]
      exact ⟨fun h1 => cutFold_sub (cutStep_lo h1), fun h1 => cutFold_sub (cutStep_hi h1)⟩
    · exact ih h
theorem cutsL_ok {l : List Int} (h : CutsOk l) (rs : List S87) : CutsOk (cutsL l rs) := place_ok (cutFold_ok h) (by omega)
theorem cutsL_sub {l : List Int} {rs : List S87} {x : Int} (h : x ∈ l) : x ∈ cutsL l rs := (placeL_mem _ _ _).2 (.inl (cutFold_sub h))
theorem cutsL_zero (l : List Int) (rs : List S87) : (0 : Int) ∈ cutsL l rs := (placeL_mem _ _ _).2 (.inr rfl)
theorem cutsL_bounds {l : List Int} {rs : List S87} {r : S87} (h : r ∈ rs) : ((0 ≤ r.f0 ∧ r.f0 ≤ 1114111) → r.f0 ∈ cutsL l rs) ∧ ((0 ≤ r.f1 ∧ r.f1 < 1114111) → r.f1 + 1 ∈ cutsL l rs) :=
  ⟨fun h1 => (placeL_mem _ _ _).2 (.inl ((cutFold_bounds h).1 h1)), fun h1 => (placeL_mem _ _ _).2 (.inl ((cutFold_bounds h).2 h1))⟩
theorem cutFold_length (rs : List S87) : ∀ l : List Int, (rs.foldl cutStep l).length ≤ l.length + 2 * rs.length := by
  induction rs with
  | nil => intro l; simp
  | cons r t ih =>
    intro l
    have h1 : (cutLo l r).length ≤ l.length + 1 := by
      unfold cutLo
      split
      · omega
      · exact placeL_length _ _
    have h2 : (cutStep l r).length ≤ l.length + 2 := by
      unfold cutStep
      split
      · have := placeL_length (cutLo l r) (r.f1 + 1); omega
      · omega
    have := ih (cutStep l r)
    simp only [List.foldl_cons, List.length_cons]
    omega
theorem cutsL_length (l : List Int) (rs : List S87) : (cutsL l rs).length ≤ l.length + 2 * rs.length + 1 := by
  have h1 := cutFold_length rs l
  have h2 := placeL_length (rs.foldl cutStep l) 0
  unfold cutsL
  omega
/-- The specification's Has. -/
def hasR (rs : List S87) (c : Int) : Bool := rs.any fun r => !badCode c && (decide (r.f0 ≤ c) && decide (c ≤ r.f1))
theorem hasR_iff {rs : List S87} {c : Int} : hasR rs c = true ↔ (0 ≤ c ∧ c ≤ 1114111) ∧ mem (rs.map toP) c := by
  unfold hasR mem
  rw [List.any_eq_true]
  constructor
  · rintro ⟨r, hr, h⟩
    simp only [Bool.and_eq_true, Bool.not_eq_true', decide_eq_true_eq] at h
    exact ⟨good_iff.1 h.1, toP r, List.mem_map.2 ⟨r, hr, rfl⟩, h.2⟩
  · rintro ⟨hc, p, hp, h⟩
    obtain ⟨r, hr, rfl⟩ := List.mem_map.1 hp
    refine ⟨r, hr, ?_⟩
    rw [good_iff.2 hc]
    simp only [Bool.not_false, Bool.true_and, Bool.and_eq_true, decide_eq_true_eq]
    exact h
/-- Between two cuts nothing turns. -/
theorem hasR_const {cuts : List Int} {rs : List S87} (hb : ∀ r ∈ rs, ((0 ≤ r.f0 ∧ r.f0 ≤ 1114111) → r.f0 ∈ cuts) ∧ ((0 ≤ r.f1 ∧ r.f1 < 1114111) → r.f1 + 1 ∈ cuts)) {c x : Int} (hc : 0 ≤ c) (hx : x ≤ 1114111) (hcx : c ≤ x) (hd : ∀ d ∈ cuts, c < d → x < d) :
    hasR rs x = hasR rs c := by
  have key : ∀ r ∈ rs, (!badCode x && (decide (r.f0 ≤ x) && decide (x ≤ r.f1))) = (!badCode c && (decide (r.f0 ≤ c) && decide (c ≤ r.f1))) := by
    intro r hr
    rw [good_iff.2 ⟨by omega, hx⟩, good_iff.2 ⟨hc, by omega⟩]
    have e1 : decide (r.f0 ≤ x) = decide (r.f0 ≤ c) := by
      by_cases h : r.f0 ≤ c
      · rw [decide_eq_true h, decide_eq_true (by omega)]
      · rw [decide_eq_false h, decide_eq_false]
        intro h2
        have := hd _ ((hb r hr).1 (by omega)) (by omega)
        omega
    have e2 : decide (x ≤ r.f1) = decide (c ≤ r.f1) := by
      by_cases h : x ≤ r.f1
      · rw [decide_eq_true h, decide_eq_true (by omega)]
      · rw [decide_eq_false h, decide_eq_false]
        intro h2
        have := hd _ ((hb r hr).2 (by omega)) (by omega)
        omega
    rw [e1, e2]
  unfold hasR
  rw [Bool.eq_iff_iff, List.any_eq_true, List.any_eq_true]
  constructor
  · rintro ⟨r, hr, h⟩; exact ⟨r, hr, by rw [← key r hr]; exact h⟩
  · rintro ⟨r, hr, h⟩; exact ⟨r, hr, by rw [key r hr]; exact h⟩
/-- The ranges between the cuts at which inn holds, joined. -/
def joinG (inn : Int → Bool) : Option Int → List Int → List (Int × Int)
  | none, [] => []
  | some lo, [] => [(lo, 1114111)]
  | none, c :: t => if inn c then joinG inn (some c) t else joinG inn none t
  | some lo, c :: t => if inn c then joinG inn (some lo) t else (lo, c - 1) :: joinG inn none t
theorem joinG_canon (inn : Int → Bool) (cuts : List Int) : ∀ (o : Option Int) (m : Int), CutsOk cuts → (∀ lo, o = some lo → m ≤ lo ∧ lo ≤ 1114111 ∧ ∀ c ∈ cuts, lo < c) → (o = none → ∀ c ∈ cuts, m ≤ c) → canonFrom m (joinG inn o cuts) := by
  induction cuts with
  | nil =>
    intro o m h h1 h2
    cases o with
    | none => exact trivial
    | some lo => have := h1 lo rfl; exact ⟨this.1, this.2.1, Int.le_refl _, trivial⟩
  | cons c t ih =>
    intro o m h h1 h2
    have hs := List.pairwise_cons.1 h.1
    have ht : CutsOk t := ⟨hs.2, fun x hx => h.2 x (List.mem_cons_of_mem _ hx)⟩
    have hc := h.2 c List.mem_cons_self
    cases o with
    | none =>
      rw [joinG]
      split
      · exact ih (some c) m ht (fun lo e => by cases e; exact ⟨h2 rfl c List.mem_cons_self, hc.2, fun d hd => hs.1 d hd⟩) (fun e => by cases e)
      · exact ih none m ht (fun lo e => by cases e) (fun _ d hd => h2 rfl d (List.mem_cons_of_mem _ hd))
    | some lo =>
      have hl := h1 lo rfl
      have hlc := hl.2.2 c List.mem_cons_self
      rw [joinG]
      split
      · exact ih (some lo) m ht (fun l e => by cases e; exact ⟨hl.1, hl.2.1, fun d hd => hl.2.2 d (List.mem_cons_of_mem _ hd)⟩) (fun e => by cases e)
      · refine ⟨hl.1, by show lo ≤ c - 1; omega, by show c - 1 ≤ 1114111; omega, ih none _ ht (fun l e => by cases e) (fun _ d hd => ?_)⟩
        have := hs.1 d hd
        show c - 1 + 2 ≤ d
        omega
theorem joinG_mem (inn K : Int → Bool) (cuts : List Int) : ∀ (o : Option Int), cuts.Pairwise (fun a b => a < b) → (∀ lo, o = some lo → ∀ d ∈ cuts, lo < d) →
    ∀ x : Int, x ≤ 1114111 → (∀ c ∈ cuts, c ≤ x → (∀ d ∈ cuts, c < d → x < d) → K x = inn c) →
      (mem (joinG inn o cuts) x ↔ (∃ lo, o = some lo ∧ lo ≤ x ∧ ∀ d ∈ cuts, x < d) ∨ ((∃ c ∈ cuts, c ≤ x) ∧ K x = true)) := by
  induction cuts with
  | nil =>
    intro o _ _ x hx _
    cases o with
    | none => simp [joinG, mem]
    | some lo => simp [joinG, mem]; omega
  | cons c t ih =>
    intro o hs ho x hx hk
    have hp := List.pairwise_cons.1 hs
    have hkt : ∀ c' ∈ t, c' ≤ x → (∀ d ∈ t, c' < d → x < d) → K x = inn c' := fun c' hc' h1 h2 =>
      hk c' (List.mem_cons_of_mem _ hc') h1 (fun d hd hlt => by
        rcases List.mem_cons.1 hd with rfl | hd
        · have := hp.1 c' hc'; omega
        · exact h2 d hd hlt)
    have hkc : c ≤ x → (∀ d ∈ t, x < d) → K x = inn c := fun h1 h2 => hk c List.mem_cons_self h1 (fun d hd hlt => by
      rcases List.mem_cons.1 hd with rfl | hd
      · omega
      · exact h2 d hd)
    have hex : (∃ c' ∈ c :: t, c' ≤ x) ↔ c ≤ x := ⟨fun ⟨c', h1, h2⟩ => by
      rcases List.mem_cons.1 h1 with rfl | h1
      · exact h2
      · have := hp.1 c' h1; omega, fun h => ⟨c, List.mem_cons_self, h⟩⟩
    have hdec : (∀ d ∈ t, x < d) ∨ (∃ c' ∈ t, c' ≤ x) := by
      by_cases h : ∃ c' ∈ t, c' ≤ x
      · exact .inr h
      · refine .inl (fun d hd => ?_)
        rcases Int.lt_or_le x d with h1 | h1
        · exact h1
        · exact absurd ⟨d, hd, h1⟩ h
    have hcx : (∃ c' ∈ t, c' ≤ x) → c ≤ x := fun ⟨c', h1, h2⟩ => by have := hp.1 c' h1; omega
    have hall : (∀ d ∈ c :: t, x < d) ↔ x < c := ⟨fun h => h c List.mem_cons_self, fun h d hd => by
      rcases List.mem_cons.1 hd with rfl | hd
      · exact h
      · have := hp.1 d hd; omega⟩
    rw [hex, hall]
    cases o with
    | none =>
      rw [joinG]
      split
      · next hi =>
        rw [ih (some c) hp.2 (fun lo e d hd => by cases e; exact hp.1 d hd) x hx hkt]
        constructor
        · rintro (⟨lo, e, h1, h2⟩ | ⟨h1, h2⟩)
          · cases e; exact .inr ⟨h1, by rw [hkc h1 h2]; exact hi⟩
          · exact .inr ⟨hcx h1, h2⟩
        · rintro (⟨lo, e, _⟩ | ⟨h1, h2⟩)
          · cases e
          · rcases hdec with h | h
            · exact .inl ⟨c, rfl, h1, h⟩
            · exact .inr ⟨h, h2⟩
      · next hi =>
        rw [ih none hp.2 (fun lo e => by cases e) x hx hkt]
        constructor
        · rintro (⟨lo, e, _⟩ | ⟨h1, h2⟩)
          · cases e
          · exact .inr ⟨hcx h1, h2⟩
        · rintro (⟨lo, e, _⟩ | ⟨h1, h2⟩)
          · cases e
          · rcases hdec with h | h
            · rw [hkc h1 h] at h2; exact absurd h2 hi
            · exact .inr ⟨h, h2⟩
    | some lo =>
      have hlc := ho lo rfl c List.mem_cons_self
      rw [joinG]
      split
      · next hi =>
        rw [ih (some lo) hp.2 (fun l e d hd => by cases e; exact ho lo rfl d (List.mem_cons_of_mem _ hd)) x hx hkt]
        constructor
        · rintro (⟨l, e, h1, h2⟩ | ⟨h1, h2⟩)
          · cases e
            rcases Int.lt_or_le x c with h3 | h3
            · exact .inl ⟨lo, rfl, h1, h3⟩
            · exact .inr ⟨h3, by rw [hkc h3 h2]; exact hi⟩
          · exact .inr ⟨hcx h1, h2⟩
        · rintro (⟨l, e, h1, h2⟩ | ⟨h1, h2⟩)
          · cases e
            exact .inl ⟨lo, rfl, h1, fun d hd => by have := hp.1 d hd; omega⟩
          · rcases hdec with h | h
            · exact .inl ⟨lo, rfl, by omega, h⟩
            · exact .inr ⟨h, h2⟩
      · next hi =>
        rw [UcSets.mem_cons, ih none hp.2 (fun l e => by cases e) x hx hkt]
        constructor
        · rintro (⟨h1, h2⟩ | ⟨l, e, _⟩ | ⟨h1, h2⟩)
          · exact .inl ⟨lo, rfl, h1, by have : x ≤ c - 1 := h2; omega⟩
          · cases e
          · exact .inr ⟨hcx h1, h2⟩
        · rintro (⟨l, e, h1, h2⟩ | ⟨h1, h2⟩)
          · cases e
            exact .inl ⟨h1, by show x ≤ c - 1; omega⟩
          · rcases hdec with h | h
            · rw [hkc h1 h] at h2; exact absurd h2 hi
            · exact .inr (.inr ⟨h, h2⟩)
def keepsB (op : Int) (x y : Bool) : Bool := if op = 1 then x || y else if op = 2 then x && y else x && !y
def cutsAB (a b : List S87) : List Int := cutsL (cutsL [] a) b
def innAB (op : Int) (a b : List S87) (c : Int) : Bool := keepsB op (hasR a c) (hasR b c)
def hiAt (cuts : List Int) (i : Nat) : Int := if i + 1 < cuts.length then cuts.getD (i + 1) 0 - 1 else 1114111
def stepC (inn : Int → Bool) (cuts : List Int) (s : List S87 × Bool) (i : Nat) : List S87 × Bool :=
  (if inn (cuts.getD i 0) && s.2 then s.1.dropLast ++ [⟨(lastR s.1).f0, hiAt cuts i⟩] else if inn (cuts.getD i 0) && !s.2 then s.1 ++ [⟨cuts.getD i 0, hiAt cuts i⟩] else s.1, inn (cuts.getD i 0))
def stC (inn : Int → Bool) (cuts : List Int) : Nat → List S87 × Bool
  | 0 => ([], false)
  | i + 1 => stepC inn cuts (stC inn cuts i) i
def combL (a b : List S87) (op : Int) : List S87 := (stC (innAB op a b) (cutsAB a b) (cutsAB a b).length).1
theorem stC_inv (inn : Int → Bool) (cuts : List Int) : ∀ i : Nat, i ≤ cuts.length →
    ((stC inn cuts i).2 = false ∧ joinG inn none cuts = (stC inn cuts i).1.map toP ++ joinG inn none (cuts.drop i)) ∨
    ((stC inn cuts i).2 = true ∧ 0 < i ∧ ∃ pre lo, (stC inn cuts i).1 = pre ++ [⟨lo, hiAt cuts (i - 1)⟩] ∧ joinG inn none cuts = pre.map toP ++ joinG inn (some lo) (cuts.drop i)) := by
  intro i
  induction i with
  | zero => intro _; exact .inl ⟨rfl, rfl⟩
  | succ i ih =>
    intro hi
    have h1 : i < cuts.length := by omega
    have hg : cuts.getD i 0 = cuts[i] := by rw [List.getD_eq_getElem?_getD, List.getElem?_eq_getElem h1]; rfl
    have hd : cuts.drop i = cuts[i] :: cuts.drop (i + 1) := List.drop_eq_getElem_cons h1
    have hprev : 0 < i → hiAt cuts (i - 1) = cuts[i] - 1 := fun h0 => by
      unfold hiAt
      have e : i - 1 + 1 = i := by omega
      rw [e, if_pos h1, hg]
    rcases ih (by omega) with ⟨h2, h3⟩ | ⟨h2, h0, pre, lo, h3, h4⟩
    · rw [hd, joinG] at h3
      cases hv : inn cuts[i]
      · refine .inl ⟨?_, ?_⟩
        · rw [stC, stepC, hg, hv]
        · rw [hv] at h3
          rw [stC, stepC, hg, hv, h3]
          rfl
      · refine .inr ⟨?_, Nat.succ_pos i, (stC inn cuts i).1, cuts[i], ?_, ?_⟩
        · rw [stC, stepC, hg, hv]
        · rw [stC, stepC, hg, hv, h2]
          rfl
        · rw [hv] at h3
          exact h3
    · rw [hd, joinG] at h4
      cases hv : inn cuts[i]
      · refine .inl ⟨?_, ?_⟩
        · rw [stC, stepC, hg, hv]
        · rw [hv] at h4
          rw [stC, stepC, hg, hv, h4, h3, hprev h0]
          simp [toP]
      · refine .inr ⟨?_, Nat.succ_pos i, pre, lo, ?_, ?_⟩
        · rw [stC, stepC, hg, hv]
        · rw [stC, stepC, hg, hv, h2, h3, lastR_snoc]
          simp
        · rw [hv] at h4
          exact h4
theorem comb_join (a b : List S87) (op : Int) : (combL a b op).map toP = joinG (innAB op a b) none (cutsAB a b) := by
  rcases stC_inv (innAB op a b) (cutsAB a b) _ (Nat.le_refl _) with ⟨_, h⟩ | ⟨_, h0, pre, lo, h1, h2⟩
  · rw [h, List.drop_length, joinG, List.append_nil]; rfl
  · have e : hiAt (cutsAB a b) ((cutsAB a b).length - 1) = 1114111 := by
      unfold hiAt
      rw [if_neg (by omega)]
    rw [h2, List.drop_length, joinG]
    unfold combL
    rw [h1, e]
    simp [toP]
theorem cutsAB_ok (a b : List S87) : CutsOk (cutsAB a b) := cutsL_ok (cutsL_ok ⟨List.Pairwise.nil, fun x h => by cases h⟩ a) b
theorem comb_canon (a b : List S87) (op : Int) : canonFrom 0 ((combL a b op).map toP) := by
  rw [comb_join]
  exact joinG_canon _ _ none 0 (cutsAB_ok a b) (fun lo e => by cases e) (fun _ c hc => ((cutsAB_ok a b).2 c hc).1)
theorem comb_mem (a b : List S87) (op : Int) (x : Int) : mem ((combL a b op).map toP) x ↔ (0 ≤ x ∧ x ≤ 1114111) ∧ innAB op a b x = true := by
  have hba : ∀ r ∈ a, ((0 ≤ r.f0 ∧ r.f0 ≤ 1114111) → r.f0 ∈ cutsAB a b) ∧ ((0 ≤ r.f1 ∧ r.f1 < 1114111) → r.f1 + 1 ∈ cutsAB a b) := fun r hr =>
    ⟨fun h => cutsL_sub ((cutsL_bounds hr).1 h), fun h => cutsL_sub ((cutsL_bounds hr).2 h)⟩
  have hbb : ∀ r ∈ b, ((0 ≤ r.f0 ∧ r.f0 ≤ 1114111) → r.f0 ∈ cutsAB a b) ∧ ((0 ≤ r.f1 ∧ r.f1 < 1114111) → r.f1 + 1 ∈ cutsAB a b) := fun r hr => cutsL_bounds hr
  have hcz : (0 : Int) ∈ cutsAB a b := cutsL_zero _ _
  by_cases hx : 0 ≤ x ∧ x ≤ 1114111
  · rw [comb_join, joinG_mem (innAB op a b) (innAB op a b) (cutsAB a b) none (cutsAB_ok a b).1 (fun lo e => by cases e) x hx.2 (fun c hc hcx hd => by
      have h0 := ((cutsAB_ok a b).2 c hc).1
      unfold innAB
      rw [hasR_const hba h0 hx.2 hcx hd, hasR_const hbb h0 hx.2 hcx hd])]
    constructor
    · rintro (⟨lo, e, _⟩ | ⟨_, h⟩)
      · cases e
      · exact ⟨hx, h⟩
    · rintro ⟨_, h⟩
      exact .inr ⟨⟨0, hcz, hx.1⟩, h⟩
  · constructor
    · intro h
      exact absurd (UcSets.canon_low (comb_canon a b op) h) hx
    · rintro ⟨h, _⟩
      exact absurd h hx
/-- The specification's Make is the program's. -/
theorem comb_make (l : List S87) : combL l [] 1 = makeL l := by
  apply toP_inj
  refine UcSets.canon_ext (comb_canon l [] 1) (makeL_canon l) (fun c => ?_)
  rw [comb_mem, makeL_mem]
  have e : innAB 1 l [] c = hasR l c := by
    unfold innAB keepsB
    rw [if_pos rfl]
    simp [hasR]
  rw [e, hasR_iff]
  constructor
  · rintro ⟨h1, _, h2⟩; exact ⟨h1.1, h1.2, h2⟩
  · rintro ⟨h1, h2, h3⟩; exact ⟨⟨h1, h2⟩, ⟨h1, h2⟩, h3⟩
end Go.Proofs.YtdgboklnhmfhoaaGreatDoor.G
