/- A set's finder, and cpset.Has: whether a set's ranges hold a code point. -/
import Derived.Test.YtjfcmiocmcdjlaaGreatDoorAIt3
namespace Go.Proofs.YtjfcmiocmcdjlaaGreatDoor.G
open Go.RowKit Go.Proofs.YtjfcmiocmcdjlaaGreatDoorW.PrintWords Go.Proofs.YtjfcmiocmcdjlaaGreatDoorW.PrintLast Go.Proofs.YtjfcmiocmcdjlaaGreatDoorW.PrintMore
set_option linter.unusedVariables false
theorem canon_pairs : ∀ {l : List (Int × Int)} {m : Int}, UcSets.canonFrom m l → l.Pairwise (fun a b => a.2 < b.1) ∧ ∀ r ∈ l, m ≤ r.1 ∧ r.1 ≤ r.2
  | [], _, _ => ⟨List.Pairwise.nil, fun r h => by cases h⟩
  | r :: t, m, ⟨h1, h2, _, h4⟩ => by
    obtain ⟨p, q⟩ := canon_pairs h4
    refine ⟨List.pairwise_cons.2 ⟨fun b hb => by have := (q b hb).1; omega, p⟩, fun b hb => ?_⟩
    rcases List.mem_cons.1 hb with rfl | hb
    · exact ⟨h1, h2⟩
    · have := q b hb
      exact ⟨by omega, this.2⟩
theorem make_get {l : List S32} {i j : Nat} (hij : i < j) (hj : j < (makeL l).length) : ((makeL l).getD i z32).f1 < ((makeL l).getD j z32).f0 ∧ ((makeL l).getD j z32).f0 ≤ ((makeL l).getD j z32).f1 := by
  obtain ⟨p, q⟩ := canon_pairs (makeL_canon l)
  rw [List.pairwise_map] at p
  have hi : i < (makeL l).length := by omega
  rw [List.getD_eq_getElem?_getD, List.getD_eq_getElem?_getD, List.getElem?_eq_getElem hi, List.getElem?_eq_getElem hj]
  exact ⟨List.pairwise_iff_getElem.1 p i j hi hj hij, (q _ (List.mem_map_of_mem (List.getElem_mem hj))).2⟩
theorem make_sorted (l : List S32) : ∀ i j, i < j → j < (makeL l).length → ((makeL l).getD i z32).f1 < ((makeL l).getD j z32).f1 := fun i j hij hj => by
  have := make_get hij hj
  omega
theorem search_has (l : List S32) (x : Int) (k : Nat) (hlo : ∀ j, j < k → ((makeL l).getD j z32).f1 < x) (hhi : ∀ j, k ≤ j → j < (makeL l).length → x ≤ ((makeL l).getD j z32).f1) :
    (decide (k < (makeL l).length) && decide (((makeL l).getD k z32).f0 ≤ x)) = hasR l x := by
  have key : (k < (makeL l).length ∧ ((makeL l).getD k z32).f0 ≤ x) ↔ hasR l x = true := by
    rw [hasR_iff]
    have hm := makeL_mem l x
    rw [← and_assoc] at hm
    rw [← hm]
    constructor
    · rintro ⟨h1, h2⟩
      have h3 := hhi k (Nat.le_refl _) h1
      rw [List.getD_eq_getElem?_getD, List.getElem?_eq_getElem h1] at h2 h3
      exact ⟨toP (makeL l)[k], List.mem_map_of_mem (List.getElem_mem h1), h2, h3⟩
    · rintro ⟨r, hr, h1, h2⟩
      obtain ⟨s, hs, rfl⟩ := List.mem_map.1 hr
      obtain ⟨j, hj, rfl⟩ := List.getElem_of_mem hs
      have e : (makeL l).getD j z32 = (makeL l)[j] := by rw [List.getD_eq_getElem?_getD, List.getElem?_eq_getElem hj]; rfl
      have h1' : ((makeL l).getD j z32).f0 ≤ x := by rw [e]; exact h1
      have h2' : x ≤ ((makeL l).getD j z32).f1 := by rw [e]; exact h2
      rcases Nat.lt_trichotomy j k with h | h | h
      · have := hlo j h; omega
      · subst h
        exact ⟨hj, h1'⟩
      · have h3 := hhi k (Nat.le_refl _) (by omega)
        have h4 := (make_get h hj).1
        omega
  cases hb : hasR l x with
  | true =>
    obtain ⟨h1, h2⟩ := key.2 hb
    rw [decide_eq_true h1, decide_eq_true h2]; rfl
  | false =>
    rw [Bool.eq_false_iff]
    intro h
    rw [Bool.and_eq_true, decide_eq_true_eq, decide_eq_true_eq] at h
    rw [key.1 h] at hb
    cases hb
theorem found37 {W : World} {v : Value} {l : List S32} (h : Finds W v l) (hl : l.length ≤ 1000000000) (x : Int) :
    ∃ b, v = .func (.func 37) #[] #[.pointer (some ⟨b, 0, none⟩)] ∧ Calls Tryz.prog 37 #[.int .i64 x, .pointer (some ⟨b, 0, none⟩)] W fun e w' => e = .returned (.bool (hasR l x)) ∧ Below W.heap.size W w' := by
  obtain ⟨b, A, c, e, hb, hc, hC, hle⟩ := h
  refine ⟨b, e, (find37 b A c (makeL l) x W hb hc hC hle (Nat.le_trans (makeL_length l) hl) (make_sorted l)).mono ?_⟩
  rintro e w' ⟨k, rfl, _, hlo, hhi, hB⟩
  exact ⟨by rw [search_has l x k hlo hhi], hB⟩
theorem ranges36 (s : Value) (w : World) (hs : ∃ A n c, s = .slice A n c) : Calls Tryz.prog 36 #[.agg #[s]] w fun e w' => e = .returned (.func (.func 47) #[] #[.pointer (some ⟨w.heap.size, 0, none⟩)]) ∧ w' = w.alloc (.cells #[s] 24) := by
  obtain ⟨A, n, c, rfl⟩ := hs
  have hu24 := Tryz.underlying24
  go_enter Tryz.func36, Tryz.ntmps36
  go_wp2_with fail
  go_ret
  exact ⟨rfl, rfl⟩
theorem finder24 (A : Option Addr) (c : Nat) (l : List S32) (w : World) (hr : Kd.C k32 w A l.length l) (hc : l.length ≤ c) (hl : l.length ≤ 1000000000) :
    Calls Tryz.prog 24 #[.agg #[.slice A l.length c]] w fun e w' => ∃ v, e = .returned v ∧ Finds w' v l ∧ Below w.heap.size w w' := by
  have hu24 := Tryz.underlying24
  have hB2 : Below w.heap.size w ((w.alloc (.cells #[.slice A l.length c] 24)).alloc (.cells #[.slice A l.length c] 24)) := ((Below.refl _ w).alloc (Nat.le_refl _) _).alloc (by simp) _
  have hC2 := Kd.C_below hr hB2
  have hm2 : ((w.alloc (.cells #[.slice A l.length c] 24)).alloc (.cells #[.slice A l.length c] 24)).cell? ⟨w.heap.size + 1, 0, none⟩ = some (.slice A l.length c) := by simp
  have hs2 : ((w.alloc (.cells #[.slice A l.length c] 24)).alloc (.cells #[.slice A l.length c] 24)).heap.size = w.heap.size + 2 := by simp
  go_enter Tryz.func24, Tryz.ntmps24
  go_wp2_with (first
    | (go_at_call 36; refine (ranges36 _ _ ⟨_, _, _, rfl⟩).mono ?_; rintro e w' ⟨rfl, rfl⟩)
    | (go_at_call 20
       refine (callsIn_wide.1 (collect20 10 (by omega) (makeL l) (Nat.le_trans (makeL_length l) hl) 47 #[.pointer (some ⟨w.heap.size + 1, 0, none⟩)] (enters_of Tryz.func47 (by kernel_rfl) rfl) _
         (iter47 8 _ (by omega) (w.heap.size + 1) A c l _ (by omega) hm2 hC2 hc hl))).mono ?_
       rintro e W3 ⟨v, rfl, hown, hB3⟩
       obtain ⟨A1, c1, rfl⟩ := Kd.R_slice (R32_of_own hown)))
  go_ret
  obtain ⟨hC3, hc3⟩ := own_C hown
  have hB4 := (hB2.trans (hB3.mono (by omega))).alloc (by have := hB3.size; omega) (.cells #[.slice A1 (makeL l).length c1] 22)
  exact ⟨_, rfl, ⟨W3.heap.size, A1, c1, rfl, by simp, by simp, Kd.C_alloc hC3 _, hc3⟩, hB4⟩
theorem has12 (A : Option Addr) (c : Nat) (l : List S32) (x : Int) (w : World) (hr : Kd.C k32 w A l.length l) (hc : l.length ≤ c) (hl : l.length ≤ 1000000000) :
    Calls Tryz.prog 12 #[.agg #[.slice A l.length c], .int .i64 x] w fun e w' => e = .returned (.bool (hasR l x)) ∧ Below w.heap.size w w' := by
  have hu24 := Tryz.underlying24
  have hB1 : Below w.heap.size w (w.alloc (.cells #[.slice A l.length c] 24)) := (Below.refl _ w).alloc (Nat.le_refl _) _
  have hC1 := Kd.C_below hr hB1
  go_enter Tryz.func12, Tryz.ntmps12
  go_wp2_with (first
    | (go_at_call 24; refine (finder24 A c l _ hC1 hc hl).mono ?_; rintro e W2 ⟨v, rfl, hF, hB2⟩; obtain ⟨b, rfl, hfc⟩ := found37 hF hl x)
    | (go_at_call 37; refine hfc.mono ?_; rintro e W3 ⟨rfl, hB3⟩))
  go_ret
  exact ⟨rfl, hB1.trans ((hB2.mono hB1.size).trans (hB3.mono (by have := hB1.size; have := hB2.size; omega)))⟩
def cpset_Has.f (l : List S32) (x : Int) : Option Bool := if l.length ≤ 1000000000 then some (hasR l x) else none
theorem cpset_Has.calls (A0_0 : Option Addr) (c0_0 : Nat) (l0_0 : List (S32)) (a1 : Int) (r : Bool) (w : World) (hr0_0 : Kd.C k32 w A0_0 l0_0.length l0_0) (hc0_0 : l0_0.length ≤ c0_0) (h : cpset_Has.f l0_0 a1 = some r) :
    Calls Tryz.prog 12 #[.agg #[.slice A0_0 l0_0.length c0_0], .int .i64 a1] w fun e w' => e = .returned (.bool r) ∧ Below w.heap.size w w' := by
  unfold cpset_Has.f at h
  split at h
  · next hl =>
    injection h with h
    subst h
    exact has12 A0_0 c0_0 l0_0 a1 w hr0_0 hc0_0 hl
  · cases h
end Go.Proofs.YtjfcmiocmcdjlaaGreatDoor.G
