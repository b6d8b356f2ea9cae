/- ident.Split: what its call answers. -/
import Derived.Test.YtjfcmiocmcdjlaaGreatDoorAIt9
namespace Go.Proofs.YtjfcmiocmcdjlaaGreatDoor.G
open Go.RowKit Go.Proofs.YtjfcmiocmcdjlaaGreatDoorW.PrintWords Go.Proofs.YtjfcmiocmcdjlaaGreatDoorW.PrintLast Go.Proofs.YtjfcmiocmcdjlaaGreatDoorW.PrintMore
set_option linter.unusedVariables false
theorem splitGo_length (lng : List Int → Nat) (text : List Int) : ∀ (d a : Nat), (splitGo lng text d a).length ≤ text.length - a
  | 0, a => Nat.zero_le _
  | d + 1, a => by
    rw [splitGo]
    split
    · split
      · have := splitGo_length lng text d (a + lng (text.drop a))
        simp only [List.length_cons]; omega
      · have := splitGo_length lng text d (a + 1)
        omega
    · exact Nat.zero_le _
theorem ranges22 (q0 q1 q2 T : Value) (w : World) (hT : ∃ A n c, T = .slice A n c) (hq0 : ∃ A n c, q0 = .slice A n c) (hq1 : ∃ A n c, q1 = .slice A n c) (hq2 : ∃ A n c, q2 = .slice A n c) :
    Calls Tryz.prog 22 #[.agg #[q0, q1, q2], T] w fun e w' => e = .returned (.func (.func 32) #[] #[.pointer (some ⟨w.heap.size + 1, 0, none⟩), .pointer (some ⟨w.heap.size, 0, none⟩)]) ∧ w'.heap[w.heap.size]? = some (.cells #[q0, q1, q2] 53 (0, 0)) ∧ w'.heap[w.heap.size + 1]? = some (.cells #[T] 27 (0, 0)) ∧ Below w.heap.size w w' := by
  obtain ⟨A, n, c, rfl⟩ := hT
  obtain ⟨A0, n0, c0, rfl⟩ := hq0
  obtain ⟨A1, n1, c1, rfl⟩ := hq1
  obtain ⟨A2, n2, c2, rfl⟩ := hq2
  have hu53 := Tryz.underlying53
  go_enter Tryz.func22, Tryz.ntmps22
  go_wp2_with fail
  go_ret
  refine ⟨rfl, (Below.heap_alloc _ _ _ (by simp)).trans (World.alloc_heap_new w _), ?_, ((Below.refl _ w).alloc (Nat.le_refl _) _).alloc (by simp) _⟩
  have := World.alloc_heap_new (w.alloc (.cells #[.slice A0 n0 c0, .slice A1 n1 c1, .slice A2 n2 c2] 53)) (.cells #[.slice A n c] 27)
  simpa using this
def splitS (l0 l1 l2 : List S32) (text : List Int) : List S32 := splitGo (lngS l0 l1 l2) text text.length 0
theorem split10 (A : Option Addr) (c : Nat) (l0 : List S32) (A' : Option Addr) (c' : Nat) (l1 : List S32) (A'' : Option Addr) (c'' : Nat) (l2 : List S32) (T : Option Addr) (ct : Nat) (text : List Int) (w : World)
    (hr : Kd.C k32 w A l0.length l0) (hc : l0.length ≤ c) (hl : l0.length ≤ 1000000) (hr' : Kd.C k32 w A' l1.length l1) (hc' : l1.length ≤ c') (hm : l1.length ≤ 1000000)
    (hr'' : Kd.C k32 w A'' l2.length l2) (hc'' : l2.length ≤ c'') (hn : l2.length ≤ 1000000) (hT : Kd.C (Kd.int .i64) w T text.length text) (hct : text.length ≤ ct) (htl : text.length ≤ 1000000000) :
    Calls Tryz.prog 10 #[.agg #[.slice A l0.length c, .slice A' l1.length c', .slice A'' l2.length c''], .slice T text.length ct] w fun e w' => ∃ v, e = .returned v ∧ w'.ownsRow w.heap.size 32 2 v (splitS l0 l1 l2 text).length (cellsR (splitS l0 l1 l2 text)) ∧ Below w.heap.size w w' := by
  have hu26 := Tryz.underlying26
  have hu53 := Tryz.underlying53
  have hmax := hT.2.1
  have hB1 : Below w.heap.size w (w.alloc (.cells #[.slice A l0.length c, .slice A' l1.length c', .slice A'' l2.length c''] 26)) := (Below.refl _ w).alloc (Nat.le_refl _) _
  have hof := of21 A c l0 A' c' l1 A'' c'' l2 _ (Kd.C_below hr hB1) hc hl (Kd.C_below hr' hB1) hc' hm (Kd.C_below hr'' hB1) hc'' hn
  have hT1 := Kd.C_below hT hB1
  have b1 := orL_length l0 []
  have b2 := orL_length l0 l1
  have b3 := orL_length (orL l0 l1) l2
  simp only [List.length_nil] at b1
  have hsl := splitGo_length (lngS l0 l1 l2) text text.length 0
  have hs1 := hB1.size
  go_enter Tryz.func10, Tryz.ntmps10
  go_wp2_with (first
    | (go_at_call 21; refine hof.mono ?_; rintro e W2 ⟨A1, c1, A2, c2, A3, c3, rfl, ⟨C1, le1⟩, ⟨C2, le2⟩, ⟨C3, le3⟩, hB2⟩)
    | (go_at_call 22; refine (ranges22 _ _ _ _ _ ⟨_, _, _, rfl⟩ ⟨_, _, _, rfl⟩ ⟨_, _, _, rfl⟩ ⟨_, _, _, rfl⟩).mono ?_; rintro e W3 ⟨rfl, hbr, hbt, hB3⟩
       have hs2 := hB2.size
       have hR2 : RulesC W2 A1 c1 (orL l0 []) A2 c2 (orL l0 l1) A3 c3 (orL (orL l0 l1) l2) := ⟨C1, le1, by omega, C2, le2, by omega, C3, le3, by omega⟩
       have hT2 := Kd.C_below hT1 hB2
       have hs3 := hB3.size
       have hcol := collect20 10 (by omega) (splitS l0 l1 l2 text) (by show (splitGo _ _ _ _).length ≤ _; omega) 32 #[.pointer (some ⟨W2.heap.size + 1, 0, none⟩), .pointer (some ⟨W2.heap.size, 0, none⟩)] (enters_of Tryz.func32 (by kernel_rfl) rfl) W3
         (by
          have hit := iter32 8 W3.heap.size (by omega) (W2.heap.size + 1) W2.heap.size A1 c1 (orL l0 []) A2 c2 (orL l0 l1) A3 c3 (orL (orL l0 l1) l2) T ct text W3 (hR2.below hB3) (Kd.C_below hT2 hB3) hct rfl hbt hbr
          rw [or_beg, or_sol, or_ins] at hit
          exact hit)
       clear hof hbt hbr hR2 hT2)
    | (go_at_call 20
       refine (callsIn_wide.1 hcol).mono ?_
       rintro e W4 ⟨v, rfl, hown, hB4⟩
       obtain ⟨A4, c4, rfl⟩ := Kd.R_slice (R32_of_own hown)))
  go_ret
  exact ⟨_, rfl, own_weaken hown (by omega), hB1.trans ((hB2.mono (by omega)).trans ((hB3.mono (by omega)).trans (hB4.mono (by omega))))⟩
def ident_Split.f (l0_0 : List S32) (l0_1 : List S32) (l0_2 : List S32) (l1 : List Int) : Option (List S32) :=
  if l0_0.length ≤ 1000000 ∧ l0_1.length ≤ 1000000 ∧ l0_2.length ≤ 1000000 ∧ l1.length ≤ 1000000000 then some (splitS l0_0 l0_1 l0_2 l1) else none
theorem ident_Split.calls (A0_0 : Option Addr) (c0_0 : Nat) (l0_0 : List (S32)) (A0_1 : Option Addr) (c0_1 : Nat) (l0_1 : List (S32)) (A0_2 : Option Addr) (c0_2 : Nat) (l0_2 : List (S32)) (A1 : Option Addr) (c1 : Nat) (l1 : List (Int)) (r : List (S32)) (w : World) (hr0_0 : Kd.C k32 w A0_0 l0_0.length l0_0) (hc0_0 : l0_0.length ≤ c0_0) (hr0_1 : Kd.C k32 w A0_1 l0_1.length l0_1) (hc0_1 : l0_1.length ≤ c0_1) (hr0_2 : Kd.C k32 w A0_2 l0_2.length l0_2) (hc0_2 : l0_2.length ≤ c0_2) (hr1 : Kd.C (Kd.int .i64) w A1 l1.length l1) (hc1 : l1.length ≤ c1) (h : ident_Split.f l0_0 l0_1 l0_2 l1 = some r) :
    Calls Tryz.prog 10 #[.agg #[.slice A0_0 l0_0.length c0_0, .slice A0_1 l0_1.length c0_1, .slice A0_2 l0_2.length c0_2], .slice A1 l1.length c1] w fun e w' => ∃ v0_ : Value, e = .returned (v0_) ∧ Kd.R k32 32 w' w.heap.size (fun _ => True) v0_ r ∧ Below w.heap.size w w' := by
  unfold ident_Split.f at h
  split at h
  · next hl =>
    injection h with h
    subst h
    refine (split10 A0_0 c0_0 l0_0 A0_1 c0_1 l0_1 A0_2 c0_2 l0_2 A1 c1 l1 w hr0_0 hc0_0 hl.1 hr0_1 hc0_1 hl.2.1 hr0_2 hc0_2 hl.2.2.1 hr1 hc1 hl.2.2.2).mono ?_
    rintro e w' ⟨v, rfl, hown, hB⟩
    exact ⟨v, rfl, R32_of_own hown, hB⟩
  · cases h
end Go.Proofs.YtjfcmiocmcdjlaaGreatDoor.G
