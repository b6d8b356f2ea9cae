/- casefold.Form (level 1) and ident.prepared at no data, of a low text: the same text. -/
import Derived.Test.YtjfcmiocmcdjlaaGreatDoorANo15
namespace Go.Proofs.YtjfcmiocmcdjlaaGreatDoor.G
open Go.RowKit Go.Proofs.YtjfcmiocmcdjlaaGreatDoorW.PrintWords Go.Proofs.YtjfcmiocmcdjlaaGreatDoorW.PrintLast Go.Proofs.YtjfcmiocmcdjlaaGreatDoorW.PrintMore
open Go.Uc
set_option linter.unusedVariables false
set_option maxRecDepth 100000 in
set_option maxHeartbeats 4000000 in
theorem form43 (A : Option Addr) (c : Nat) (text : List Int) (w : World) (hC : Kd.C (Kd.int .i64) w A text.length text) (hc : text.length ≤ c) (hl : text.length ≤ 1000000000) (hlow : ∀ x ∈ text, x < 4352) :
    Calls Tryz.prog 43 #[noN, noC, .slice A text.length c, .int .i64 1] w (SameT text w) := by
  have hu45 := Tryz.underlying45
  have hu47 := Tryz.underlying47
  have Hl := Lib.hid hl
  have Hlow := Lib.hid hlow
  have hB1 := NoB.new_below w
  have hs1 : (w.alloc (.cells #[.slice none 0 0, .slice none 0 0, .slice none 0 0] 45)).heap.size = w.heap.size + 1 := by simp
  have m2 := NoCB.new (w.alloc (.cells #[.slice none 0 0, .slice none 0 0, .slice none 0 0] 45))
  rw [hs1] at m2
  have hBx : Below (w.alloc (.cells #[.slice none 0 0, .slice none 0 0, .slice none 0 0] 45)).heap.size (w.alloc (.cells #[.slice none 0 0, .slice none 0 0, .slice none 0 0] 45)) ((w.alloc (.cells #[.slice none 0 0, .slice none 0 0, .slice none 0 0] 45)).alloc (.cells #[.slice none 0 0, .slice none 0 0, .slice none 0 0, .slice none 0 0, .slice none 0 0, .slice none 0 0] 47)) := (Below.refl _ _).alloc (Nat.le_refl _) _
  have n2 := (NoB.new w).below hBx
  have hBw2 := hB1.trans (hBx.mono hB1.size)
  have hC2 := Kd.C_below hC hBw2
  have hdr : ∀ W : World, Below W.heap.size W W.drew := fun W => pw_below_drewN (Below.refl _ _) 1
  have n4 := n2.below (hdr _)
  have m4 := m2.below (hdr _)
  have hC4 := Kd.C_below hC2 (hdr _)
  have hBw4 := hBw2.trans ((hdr _).mono hBw2.size)
  clear hl hlow n2 m2 hBx hBw2 hC2 hB1 hs1 hC
  unfold noN noC
  go_enter Tryz.func43, Tryz.ntmps43
  go_wp2_with fail
  refine start_ (n := 10) (S := fun w' => NoB w' w.heap.size ∧ NoCB w' (w.heap.size + 1)) (ds := []) #[false, false, false, false, false, false, false, false, false, false] (by kernel_rfl) rfl rfl ⟨n4, m4⟩ (fun hHeld => ?_)
  clear hdr
  generalize hwd : World.drew _ = wd at hC4 n4 m4 hBw4 hHeld ⊢
  refine take_ (i := 0) (N := some 22) (v := ?_) (a' := ?_) #[true, false, false, false, false, false, false, false, false, false] rfl rfl (by kernel_rfl) (fun _ _ _ h => h) (Or.inl ⟨by rfl, ?_⟩) hHeld ?_ ?_
  rotate_left
  · rintro w' ⟨s0, s1⟩
    have y0 := s0.c0
    have y1 := s0.c1
    have y2 := s0.c2
    have z0 := s1.at 0 (by omega)
    have z1 := s1.at 1 (by omega)
    have z2 := s1.at 2 (by omega)
    have z3 := s1.at 3 (by omega)
    have z4 := s1.at 4 (by omega)
    have z5 := s1.at 5 (by omega)
    go_simp
    with_reducible rfl
  rotate_left
  · simp only [Act.put, List.setIfInBounds_toArray, List.set_cons_zero, List.set_cons_succ]
    rfl
  refine pure_ (i := 1) (N := some 23) (v := ?_) (a' := ?_) #[true, true, false, false, false, false, false, false, false, false] rfl rfl (by kernel_rfl) (fun _ _ _ h => h) (Or.inl ⟨by rfl, ?_⟩) ?_ ?_
  rotate_left
  · intro w'
    go_simp
    with_reducible rfl
  rotate_left
  · simp only [Act.put, List.setIfInBounds_toArray, List.set_cons_zero, List.set_cons_succ]
    rfl
  refine take_ (i := 2) (N := some 24) (v := ?_) (a' := ?_) #[true, true, true, false, false, false, false, false, false, false] rfl rfl (by kernel_rfl) (fun _ _ _ h => h) (Or.inl ⟨by rfl, ?_⟩) hHeld ?_ ?_
  rotate_left
  · rintro w' ⟨s0, s1⟩
    have y0 := s0.c0
    have y1 := s0.c1
    have y2 := s0.c2
    have z0 := s1.at 0 (by omega)
    have z1 := s1.at 1 (by omega)
    have z2 := s1.at 2 (by omega)
    have z3 := s1.at 3 (by omega)
    have z4 := s1.at 4 (by omega)
    have z5 := s1.at 5 (by omega)
    go_simp
    with_reducible rfl
  rotate_left
  · simp only [Act.put, List.setIfInBounds_toArray, List.set_cons_zero, List.set_cons_succ]
    rfl
  refine take_ (i := 3) (N := some 25) (v := ?_) (a' := ?_) #[true, true, true, true, false, false, false, false, false, false] rfl rfl (by kernel_rfl) (fun _ _ _ h => h) (Or.inl ⟨by rfl, ?_⟩) hHeld ?_ ?_
  rotate_left
  · rintro w' ⟨s0, s1⟩
    have y0 := s0.c0
    have y1 := s0.c1
    have y2 := s0.c2
    have z0 := s1.at 0 (by omega)
    have z1 := s1.at 1 (by omega)
    have z2 := s1.at 2 (by omega)
    have z3 := s1.at 3 (by omega)
    have z4 := s1.at 4 (by omega)
    have z5 := s1.at 5 (by omega)
    go_simp
    with_reducible rfl
  rotate_left
  · simp only [Act.put, List.setIfInBounds_toArray, List.set_cons_zero, List.set_cons_succ]
    rfl
  refine pure_ (i := 4) (N := some 26) (v := ?_) (a' := ?_) #[true, true, true, true, true, false, false, false, false, false] rfl rfl (by kernel_rfl) (fun _ _ _ h => h) (Or.inl ⟨by rfl, ?_⟩) ?_ ?_
  rotate_left
  · intro w'
    go_simp
    with_reducible rfl
  rotate_left
  · simp only [Act.put, List.setIfInBounds_toArray, List.set_cons_zero, List.set_cons_succ]
    rfl
  refine pure_ (i := 5) (N := some 27) (v := ?_) (a' := ?_) #[true, true, true, true, true, true, false, false, false, false] rfl rfl (by kernel_rfl) (fun _ _ _ h => h) (Or.inl ⟨by rfl, ?_⟩) ?_ ?_
  rotate_left
  · intro w'
    go_simp
    with_reducible rfl
  rotate_left
  · simp only [Act.put, List.setIfInBounds_toArray, List.set_cons_zero, List.set_cons_succ]
    rfl
  refine one_ (i := 6) (N := some 28) #[true, true, true, true, true, true, true, false, false, false] rfl rfl (by kernel_rfl) (by decide) (fun K hK => ?_)
  refine goes_ Tryz.func44 (by kernel_rfl) rfl #[noN, .int .i64 2, .slice A text.length c] (by rfl) rfl rfl (by (try simp only [List.map_toArray, List.map_cons, List.map_nil]); first | done | rfl) ?_
  refine (form44 2 (Or.inr rfl) A c text wd hC4 hc Hl.out Hlow.out).mono ?_
  rintro e w5 ⟨v5, rfl, hR5, hB5⟩
  obtain ⟨VA5, Vc5, rfl⟩ := Kd.R_slice hR5
  refine ⟨_, rfl, ?_⟩
  obtain ⟨_, hV5, hC5⟩ := Kd.R_reads' hR5
  have n5 := n4.below hB5
  have m5 := m4.below hB5
  have hBw5 := hBw4.trans (hB5.mono hBw4.size)
  refine hK.out _ _ ⟨n5, m5⟩ (fun hHeld5 => ?_)
  clear hK K
  refine norm_ (a' := ?_) ?_ ?_
  rotate_left
  · show Act.put _ (some 28) _ = _
    simp only [Act.put, List.setIfInBounds_toArray, List.set_cons_zero, List.set_cons_succ]
    rfl
  refine one_ (i := 7) (N := some 29) #[true, true, true, true, true, true, true, true, false, false] rfl rfl (by kernel_rfl) (by decide) (fun K hK => ?_)
  refine goes_ Tryz.func50 (by kernel_rfl) rfl #[noC, .slice VA5 text.length Vc5] (by rfl) rfl rfl (by (try simp only [List.map_toArray, List.map_cons, List.map_nil]); first | done | rfl) ?_
  refine (fold50 VA5 Vc5 text w5 hC5 hV5 Hl.out).mono ?_
  rintro e w6 ⟨v6, rfl, hR6, hB6⟩
  obtain ⟨VA6, Vc6, rfl⟩ := Kd.R_slice hR6
  refine ⟨_, rfl, ?_⟩
  obtain ⟨_, hV6, hC6⟩ := Kd.R_reads' hR6
  have n6 := n5.below hB6
  have m6 := m5.below hB6
  have hBw6 := hBw5.trans (hB6.mono hBw5.size)
  refine hK.out _ _ ⟨n6, m6⟩ (fun hHeld6 => ?_)
  clear hK K
  refine norm_ (a' := ?_) ?_ ?_
  rotate_left
  · show Act.put _ (some 29) _ = _
    simp only [Act.put, List.setIfInBounds_toArray, List.set_cons_zero, List.set_cons_succ]
    rfl
  refine one_ (i := 8) (N := some 30) #[true, true, true, true, true, true, true, true, true, false] rfl rfl (by kernel_rfl) (by decide) (fun K hK => ?_)
  refine goes_ Tryz.func44 (by kernel_rfl) rfl #[noN, .int .i64 2, .slice VA6 text.length Vc6] (by rfl) rfl rfl (by (try simp only [List.map_toArray, List.map_cons, List.map_nil]); first | done | rfl) ?_
  refine (form44 2 (Or.inr rfl) VA6 Vc6 text w6 hC6 hV6 Hl.out Hlow.out).mono ?_
  rintro e w7 ⟨v7, rfl, hR7, hB7⟩
  obtain ⟨VA7, Vc7, rfl⟩ := Kd.R_slice hR7
  refine ⟨_, rfl, ?_⟩
  obtain ⟨_, hV7, hC7⟩ := Kd.R_reads' hR7
  have n7 := n6.below hB7
  have m7 := m6.below hB7
  have hBw7 := hBw6.trans (hB7.mono hBw6.size)
  refine hK.out _ _ ⟨n7, m7⟩ (fun hHeld7 => ?_)
  clear hK K
  refine norm_ (a' := ?_) ?_ ?_
  rotate_left
  · show Act.put _ (some 30) _ = _
    simp only [Act.put, List.setIfInBounds_toArray, List.set_cons_zero, List.set_cons_succ]
    rfl
  refine pure_ (i := 9) (N := some 8) (v := ?_) (a' := ?_) #[true, true, true, true, true, true, true, true, true, true] rfl rfl (by kernel_rfl) (fun _ _ _ h => h) (Or.inl ⟨by rfl, ?_⟩) ?_ ?_
  rotate_left
  · intro w'
    go_simp
    with_reducible rfl
  rotate_left
  · simp only [Act.put, List.setIfInBounds_toArray, List.set_cons_zero, List.set_cons_succ]
    rfl
  refine done_ (by kernel_rfl) ?_
  go_wp2_with fail
  go_ret
  exact ⟨_, rfl, R_lower hBw6.size hR7, hBw7⟩
end Go.Proofs.YtjfcmiocmcdjlaaGreatDoor.G
