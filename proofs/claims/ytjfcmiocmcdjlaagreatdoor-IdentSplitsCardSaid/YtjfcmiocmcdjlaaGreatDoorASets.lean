/-! Canonical lists of ranges: what two such lists with the same members are. -/
namespace UcSets
abbrev Rg := Int × Int
def mem (l : List Rg) (c : Int) : Prop := ∃ r ∈ l, r.1 ≤ c ∧ c ≤ r.2
def canonFrom (m : Int) : List Rg → Prop
  | [] => True
  | r :: t => m ≤ r.1 ∧ r.1 ≤ r.2 ∧ r.2 ≤ 1114111 ∧ canonFrom (r.2 + 2) t
theorem mem_nil (c : Int) : ¬ mem [] c := by rintro ⟨r, h, _⟩; cases h
theorem mem_cons (r : Rg) (t : List Rg) (c : Int) : mem (r :: t) c ↔ (r.1 ≤ c ∧ c ≤ r.2) ∨ mem t c := by
  unfold mem; simp
theorem canon_low {m : Int} {l : List Rg} (h : canonFrom m l) {c : Int} (hc : mem l c) : m ≤ c ∧ c ≤ 1114111 := by
  induction l generalizing m with
  | nil => exact absurd hc (mem_nil c)
  | cons r t ih =>
    obtain ⟨h1, h2, h3, h4⟩ := h
    rcases (mem_cons r t c).1 hc with hc | hc
    · omega
    · have := ih h4 hc; omega
theorem canon_ext {m : Int} {a b : List Rg} (ha : canonFrom m a) (hb : canonFrom m b) (h : ∀ c, mem a c ↔ mem b c) : a = b := by
  induction a generalizing b m with
  | nil =>
    cases b with
    | nil => rfl
    | cons s u => exact absurd ((h s.1).2 ((mem_cons s u _).2 (.inl ⟨Int.le_refl _, hb.2.1⟩))) (mem_nil _)
  | cons r t ih =>
    cases b with
    | nil => exact absurd ((h r.1).1 ((mem_cons r t _).2 (.inl ⟨Int.le_refl _, ha.2.1⟩))) (mem_nil _)
    | cons s u =>
      obtain ⟨a1, a2, a3, a4⟩ := ha
      obtain ⟨b1, b2, b3, b4⟩ := hb
      have e1 : r.1 = s.1 := by
        have x1 := (h r.1).1 ((mem_cons r t _).2 (.inl ⟨Int.le_refl _, a2⟩))
        have x2 := (h s.1).2 ((mem_cons s u _).2 (.inl ⟨Int.le_refl _, b2⟩))
        rcases (mem_cons _ _ _).1 x1 with x1 | x1
        · rcases (mem_cons _ _ _).1 x2 with x2 | x2
          · omega
          · have := canon_low a4 x2; omega
        · have := canon_low b4 x1
          rcases (mem_cons _ _ _).1 x2 with x2 | x2
          · omega
          · have := canon_low a4 x2; omega
      have e2 : r.2 = s.2 := by
        rcases Int.lt_trichotomy r.2 s.2 with hl | hl | hl
        · have x := (h (r.2 + 1)).2 ((mem_cons s u _).2 (.inl ⟨by omega, by omega⟩))
          rcases (mem_cons _ _ _).1 x with x | x
          · omega
          · have := canon_low a4 x; omega
        · exact hl
        · have x := (h (s.2 + 1)).1 ((mem_cons r t _).2 (.inl ⟨by omega, by omega⟩))
          rcases (mem_cons _ _ _).1 x with x | x
          · omega
          · have := canon_low b4 x; omega
      have e : r = s := Prod.ext e1 e2
      subst e
      rw [ih a4 b4 (fun c => ?_)]
      constructor
      · intro hc
        have hm := canon_low a4 hc
        rcases (mem_cons _ _ _).1 ((h c).1 ((mem_cons _ _ _).2 (.inr hc))) with x | x
        · omega
        · exact x
      · intro hc
        have hm := canon_low b4 hc
        rcases (mem_cons _ _ _).1 ((h c).2 ((mem_cons _ _ _).2 (.inr hc))) with x | x
        · omega
        · exact x
/-- What a sorted list of ranges comes to. -/
def mg (cur : Rg) : List Rg → List Rg
  | [] => [cur]
  | r :: t => if r.1 ≤ cur.2 + 1 then mg (cur.1, max cur.2 r.2) t else cur :: mg r t
def merge : List Rg → List Rg
  | [] => []
  | r :: t => mg r t
def Asc : List Rg → Prop
  | [] => True
  | r :: t => r.1 ≤ r.2 ∧ (∀ q ∈ t, r.1 ≤ q.1) ∧ Asc t
theorem mg_mem (t : List Rg) : ∀ (cur : Rg) (c : Int), cur.1 ≤ cur.2 → (∀ q ∈ t, cur.1 ≤ q.1) → Asc t → (mem (mg cur t) c ↔ (cur.1 ≤ c ∧ c ≤ cur.2) ∨ mem t c) := by
  induction t with
  | nil => intro cur c _ _ _; rw [mg, mem_cons]
  | cons r t ih =>
    intro cur c h0 h hA
    have hr := h r List.mem_cons_self
    obtain ⟨hA1, hA2, hA3⟩ := hA
    rw [mg]
    split
    · next hle =>
      rw [ih (cur.1, max cur.2 r.2) c (by show cur.1 ≤ max cur.2 r.2; omega) (fun q hq => h q (List.mem_cons_of_mem _ hq)) hA3, mem_cons]
      show (cur.1 ≤ c ∧ c ≤ max cur.2 r.2) ∨ _ ↔ _
      constructor
      · rintro (x | x)
        · by_cases hc : c ≤ cur.2
          · exact .inl ⟨x.1, hc⟩
          · exact .inr (.inl (by omega))
        · exact .inr (.inr x)
      · rintro (x | x | x)
        · exact .inl (by omega)
        · exact .inl (by omega)
        · exact .inr x
    · rw [mem_cons, mem_cons, ih r c hA1 hA2 hA3]
theorem mg_canon (t : List Rg) : ∀ (m : Int) (cur : Rg), m ≤ cur.1 → cur.1 ≤ cur.2 → cur.2 ≤ 1114111 → (∀ q ∈ t, cur.1 ≤ q.1) → Asc t → (∀ q ∈ t, q.2 ≤ 1114111) → canonFrom m (mg cur t) := by
  induction t with
  | nil => intro m cur h1 h2 h3 _ _ _; exact ⟨h1, h2, h3, trivial⟩
  | cons r t ih =>
    intro m cur h1 h2 h3 h4 hA hM
    have hr := h4 r List.mem_cons_self
    have hm := hM r List.mem_cons_self
    obtain ⟨hA1, hA2, hA3⟩ := hA
    rw [mg]
    split
    · exact ih m (cur.1, max cur.2 r.2) h1 (by show cur.1 ≤ max cur.2 r.2; omega) (by show max cur.2 r.2 ≤ _; omega) (fun q hq => h4 q (List.mem_cons_of_mem _ hq)) hA3 (fun q hq => hM q (List.mem_cons_of_mem _ hq))
    · exact ⟨h1, h2, h3, ih _ r (by omega) hA1 hm hA2 hA3 (fun q hq => hM q (List.mem_cons_of_mem _ hq))⟩
theorem merge_mem {l : List Rg} (h : Asc l) (c : Int) : mem (merge l) c ↔ mem l c := by
  cases l with
  | nil => rfl
  | cons r t => rw [merge, mg_mem t r c h.1 h.2.1 h.2.2, mem_cons]
theorem merge_canon {l : List Rg} (h : Asc l) (h0 : ∀ q ∈ l, 0 ≤ q.1) (hM : ∀ q ∈ l, q.2 ≤ 1114111) : canonFrom 0 (merge l) := by
  cases l with
  | nil => trivial
  | cons r t => exact mg_canon t 0 r (h0 r List.mem_cons_self) h.1 (hM r List.mem_cons_self) h.2.1 h.2.2 (fun q hq => hM q (List.mem_cons_of_mem _ hq))
end UcSets
