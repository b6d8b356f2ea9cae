/- cpset.Or and the rules of identifiers. -/
import Derived.Test.YtjfcmiocmcdjlaaGreatDoorAPor
namespace Go.Proofs.YtjfcmiocmcdjlaaGreatDoor.G
open Go.RowKit Go.Proofs.YtjfcmiocmcdjlaaGreatDoorW.PrintWords Go.Proofs.YtjfcmiocmcdjlaaGreatDoorW.PrintLast Go.Proofs.YtjfcmiocmcdjlaaGreatDoorW.PrintMore
set_option linter.unusedVariables false
theorem cell_at {W : World} {b i : Nat} {cs : Array Value} {t : TypeId} {v : Value} (h : W.heap[b]? = some (.cells cs t (0, 0))) (hv : cs[i]? = some v) : W.cell? ⟨b, i, none⟩ = some v := by simp [World.cell?, h, hv]
theorem or31 (A : Option Addr) (c : Nat) (l : List S32) (A' : Option Addr) (c' : Nat) (m : List S32) (w : World) (hr : Kd.C k32 w A l.length l) (hc : l.length ≤ c) (hl : l.length ≤ 100000000) (hr' : Kd.C k32 w A' m.length m) (hc' : m.length ≤ c') (hm : m.length ≤ 100000000) :
    Calls Tryz.prog 31 #[.agg #[.slice A l.length c], .agg #[.slice A' m.length c']] w fun e w' => ∃ v, e = .returned (.agg #[v]) ∧ w'.ownsRow w.heap.size 32 2 v (orL l m).length (cellsR (orL l m)) ∧ Below w.heap.size w w' := by
  have hu24 := Tryz.underlying24
  have hB3 : Below w.heap.size w (((w.alloc (.cells #[.slice A l.length c] 24)).alloc (.cells #[.slice A' m.length c'] 24)).alloc (.cells #[.slice none 0 0] 24)) := (((Below.refl _ w).alloc (Nat.le_refl _) _).alloc (by simp) _).alloc (by simp; omega) _
  have hs3 : (((w.alloc (.cells #[.slice A l.length c] 24)).alloc (.cells #[.slice A' m.length c'] 24)).alloc (.cells #[.slice none 0 0] 24)).heap.size = w.heap.size + 3 := by simp
  have ho3 : (((w.alloc (.cells #[.slice A l.length c] 24)).alloc (.cells #[.slice A' m.length c'] 24)).alloc (.cells #[.slice none 0 0] 24)).heap[w.heap.size + 1 + 1]? = some (.cells #[.slice none 0 0] 24 (0, 0)) := by
    have := World.alloc_heap_new ((w.alloc (.cells #[.slice A l.length c] 24)).alloc (.cells #[.slice A' m.length c'] 24)) (.cells #[.slice none 0 0] 24)
    simpa using this
  have hcall := combine45 A c l A' c' m _ (Kd.C_below hr hB3) hc hl (Kd.C_below hr' hB3) hc' hm
  go_enter Tryz.func31, Tryz.ntmps31
  go_wp2_with (first
    | (go_at_call 45
       refine hcall.mono ?_
       rintro e W2 ⟨v, rfl, hown, hB⟩
       obtain ⟨A2, c2, rfl⟩ := Kd.R_slice (R32_of_own hown)
       have ho2 : W2.heap[w.heap.size + 1 + 1]? = some (.cells #[.slice none 0 0] 24 (0, 0)) := (hB.block _ (by omega)).trans ho3
       have hc2 : W2.cell? ⟨w.heap.size + 1 + 1, 0, none⟩ = some (.slice none 0 0) := (by simp [World.cell?, ho2])
       have hf2 : W2.frozen? ⟨w.heap.size + 1 + 1, 0, none⟩ = false := (by simp [World.frozen?, ho2])))
  have hbox : (W2.setCell ⟨w.heap.size + 1 + 1, 0, none⟩ (.slice A2 (orL l m).length c2)).heap[w.heap.size + 1 + 1]? = some (.cells #[.slice A2 (orL l m).length c2] 24 (0, 0)) := Boxed.set _ ho2
  have hcell : (W2.setCell ⟨w.heap.size + 1 + 1, 0, none⟩ (.slice A2 (orL l m).length c2)).cell? ⟨w.heap.size + 1 + 1, 0, none⟩ = some (.slice A2 (orL l m).length c2) := by simp [World.cell?, hbox]
  have hownX := own_weaken (hown.kept (grownBy_setCell' W2 (w.heap.size + 1 + 1) (.slice A2 (orL l m).length c2)) (.inr (fun e => own_not hown ho2 (fun cur e => by cases e) e.symm))) (show w.heap.size ≤ _ by omega)
  have hBX : Below w.heap.size w (W2.setCell ⟨w.heap.size + 1 + 1, 0, none⟩ (.slice A2 (orL l m).length c2)) := (hB3.trans (hB.mono (by omega))).setCell (p := ⟨w.heap.size + 1 + 1, 0, none⟩) (by show w.heap.size ≤ w.heap.size + 1 + 1; omega) _
  exact bodyPost_ret (v := .agg #[.slice A2 (orL l m).length c2]) (by simp [results, Tryz.results31, go_sem, hcell]) rfl ⟨_, rfl, hownX, hBX⟩
set_option maxRecDepth 100000 in
set_option maxHeartbeats 1000000 in
theorem of21 (A : Option Addr) (c : Nat) (l : List S32) (A' : Option Addr) (c' : Nat) (m : List S32) (A'' : Option Addr) (c'' : Nat) (n : List S32) (w : World) (hr : Kd.C k32 w A l.length l) (hc : l.length ≤ c) (hl : l.length ≤ 1000000) (hr' : Kd.C k32 w A' m.length m) (hc' : m.length ≤ c') (hm : m.length ≤ 1000000)
    (hr'' : Kd.C k32 w A'' n.length n) (hc'' : n.length ≤ c'') (hn : n.length ≤ 1000000) :
    Calls Tryz.prog 21 #[.agg #[.slice A l.length c, .slice A' m.length c', .slice A'' n.length c'']] w fun e w' => ∃ A1 c1 A2 c2 A3 c3, e = .returned (.agg #[.slice A1 (orL l []).length c1, .slice A2 (orL l m).length c2, .slice A3 (orL (orL l m) n).length c3]) ∧
      (Kd.C k32 w' A1 (orL l []).length (orL l []) ∧ (orL l []).length ≤ c1) ∧ (Kd.C k32 w' A2 (orL l m).length (orL l m) ∧ (orL l m).length ≤ c2) ∧ (Kd.C k32 w' A3 (orL (orL l m) n).length (orL (orL l m) n) ∧ (orL (orL l m) n).length ≤ c3) ∧ Below w.heap.size w w' := by
  have hu24 := Tryz.underlying24
  have hu26 := Tryz.underlying26
  have hu53 := Tryz.underlying53
  have hB2 : Below w.heap.size w ((w.alloc (.cells #[.slice A l.length c, .slice A' m.length c', .slice A'' n.length c''] 26)).alloc (.cells #[.slice none 0 0, .slice none 0 0, .slice none 0 0] 53)) := ((Below.refl _ w).alloc (Nat.le_refl _) _).alloc (by simp) _
  have hcall := or31 A c l A' c' m _ (Kd.C_below hr hB2) hc (by omega) (Kd.C_below hr' hB2) hc' (by omega)
  go_enter Tryz.func21, Tryz.ntmps21
  go_wp2_with (first | (go_at_call 31; refine hcall.mono ?_; rintro e W2 ⟨v, rfl, hown, hB⟩; obtain ⟨A2, c2, rfl⟩ := Kd.R_slice (R32_of_own hown)))
  have hb26a : ((w.alloc (.cells #[.slice A l.length c, .slice A' m.length c', .slice A'' n.length c''] 26)).alloc (.cells #[.slice none 0 0, .slice none 0 0, .slice none 0 0] 53)).heap[w.heap.size]? = some (.cells #[.slice A l.length c, .slice A' m.length c', .slice A'' n.length c''] 26 (0, 0)) :=
    (Below.heap_alloc _ _ _ (by simp)).trans (World.alloc_heap_new w _)
  have hb53a : ((w.alloc (.cells #[.slice A l.length c, .slice A' m.length c', .slice A'' n.length c''] 26)).alloc (.cells #[.slice none 0 0, .slice none 0 0, .slice none 0 0] 53)).heap[w.heap.size + 1]? = some (.cells #[.slice none 0 0, .slice none 0 0, .slice none 0 0] 53 (0, 0)) := by
    have := World.alloc_heap_new (w.alloc (.cells #[.slice A l.length c, .slice A' m.length c', .slice A'' n.length c''] 26)) (.cells #[.slice none 0 0, .slice none 0 0, .slice none 0 0] 53)
    simpa using this
  have hsa : ((w.alloc (.cells #[.slice A l.length c, .slice A' m.length c', .slice A'' n.length c''] 26)).alloc (.cells #[.slice none 0 0, .slice none 0 0, .slice none 0 0] 53)).heap.size = w.heap.size + 2 := by simp
  clear hcall
  generalize (w.alloc (.cells #[.slice A l.length c, .slice A' m.length c', .slice A'' n.length c''] 26)).alloc (.cells #[.slice none 0 0, .slice none 0 0, .slice none 0 0] 53) = Wa at hB2 hB hown hb26a hb53a hsa
  have hsz2 := hB.size
  have hBd : Below W2.heap.size W2 (W2.alloc (.cells #[.slice A2 (orL l m).length c2] 24)).drew := pw_below_drewN ((Below.refl _ W2).alloc (Nat.le_refl _) _) 1
  have hb3 : (W2.alloc (.cells #[.slice A2 (orL l m).length c2] 24)).drew.heap[W2.heap.size]? = some (.cells #[.slice A2 (orL l m).length c2] 24 (0, 0)) := World.alloc_heap_new W2 _
  have hown3 := own_below hown hBd
  have hBw : Below w.heap.size w (W2.alloc (.cells #[.slice A2 (orL l m).length c2] 24)).drew := hB2.trans ((hB.mono (by omega)).trans (hBd.mono (by omega)))
  have hb26 := (hBd.block w.heap.size (by omega)).trans ((hB.block _ (by omega)).trans hb26a)
  have hb53 := (hBd.block (w.heap.size + 1) (by omega)).trans ((hB.block _ (by omega)).trans hb53a)
  have hb3lt : W2.heap.size < (W2.alloc (.cells #[.slice A2 (orL l m).length c2] 24)).drew.heap.size := (Array.getElem?_eq_some_iff.1 hb3).1
  refine start_ (n := 11) (S := fun w' => w'.cell? ⟨w.heap.size, 0, none⟩ = some (.slice A l.length c) ∧ w'.cell? ⟨w.heap.size, 2, none⟩ = some (.slice A'' n.length c'') ∧ w'.cell? ⟨W2.heap.size, 0, none⟩ = some (.slice A2 (orL l m).length c2)) (ds := [10]) #[false, false, false, false, false, false, false, false, false, false, false] (by kernel_rfl) rfl rfl ⟨cell_at hb26 rfl, cell_at hb26 rfl, cell_at hb3 rfl⟩ (fun hHeld => ?_)
  generalize (W2.alloc (.cells #[.slice A2 (orL l m).length c2] 24)).drew = W3 at hBd hb3 hown3 hBw hb26 hb53 hb3lt hHeld ⊢
  refine pure_ (i := 0) (N := some 9) (v := ?_) (a' := ?_) #[true, false, false, false, false, false, false, false, false, false, false] rfl rfl (by kernel_rfl) (fun _ _ _ h => h) (Or.inl ⟨by rfl, ?_⟩) ?_ ?_
  rotate_left
  · intro w'
    go_simp
    with_reducible rfl
  rotate_left
  · simp only [Act.put, List.setIfInBounds_toArray, List.set_cons_zero, List.set_cons_succ]
    rfl
  refine pure_ (i := 2) (N := some 11) (v := ?_) (a' := ?_) #[true, false, true, false, false, false, false, false, false, false, false] rfl rfl (by kernel_rfl) (fun _ _ _ h => h) (Or.inl ⟨by rfl, ?_⟩) ?_ ?_
  rotate_left
  · intro w'
    go_simp
    with_reducible rfl
  rotate_left
  · simp only [Act.put, List.setIfInBounds_toArray, List.set_cons_zero, List.set_cons_succ]
    rfl
  refine pure_ (i := 6) (N := some 15) (v := ?_) (a' := ?_) #[true, false, true, false, false, false, true, false, false, false, false] rfl rfl (by kernel_rfl) (fun _ _ _ h => h) (Or.inl ⟨by rfl, ?_⟩) ?_ ?_
  rotate_left
  · intro w'
    go_simp
    with_reducible rfl
  rotate_left
  · simp only [Act.put, List.setIfInBounds_toArray, List.set_cons_zero, List.set_cons_succ]
    rfl
  refine take_ (i := 1) (N := some 10) (v := ?_) (a' := ?_) #[true, true, true, false, false, false, true, false, false, false, false] rfl rfl (by kernel_rfl) (fun _ _ _ h => h) (Or.inl ⟨by rfl, ?_⟩) hHeld ?_ ?_
  rotate_left
  · rintro w' ⟨s0, s1, s2⟩
    go_simp
    with_reducible rfl
  rotate_left
  · simp only [Act.put, List.setIfInBounds_toArray, List.set_cons_zero, List.set_cons_succ]
    rfl
  refine take_ (i := 4) (N := some 13) (v := ?_) (a' := ?_) #[true, true, true, false, true, false, true, false, false, false, false] rfl rfl (by kernel_rfl) (fun _ _ _ h => h) (Or.inl ⟨by rfl, ?_⟩) hHeld ?_ ?_
  rotate_left
  · rintro w' ⟨s0, s1, s2⟩
    go_simp
    with_reducible rfl
  rotate_left
  · simp only [Act.put, List.setIfInBounds_toArray, List.set_cons_zero, List.set_cons_succ]
    rfl
  refine take_ (i := 5) (N := some 14) (v := ?_) (a' := ?_) #[true, true, true, false, true, true, true, false, false, false, false] rfl rfl (by kernel_rfl) (fun _ _ _ h => h) (Or.inl ⟨by rfl, ?_⟩) hHeld ?_ ?_
  rotate_left
  · rintro w' ⟨s0, s1, s2⟩
    go_simp
    with_reducible rfl
  rotate_left
  · simp only [Act.put, List.setIfInBounds_toArray, List.set_cons_zero, List.set_cons_succ]
    rfl
  refine take_ (i := 7) (N := some 16) (v := ?_) (a' := ?_) #[true, true, true, false, true, true, true, true, false, false, false] rfl rfl (by kernel_rfl) (fun _ _ _ h => h) (Or.inl ⟨by rfl, ?_⟩) hHeld ?_ ?_
  rotate_left
  · rintro w' ⟨s0, s1, s2⟩
    go_simp
    with_reducible rfl
  rotate_left
  · simp only [Act.put, List.setIfInBounds_toArray, List.set_cons_zero, List.set_cons_succ]
    rfl
  refine one_ (i := 3) (N := some 12) #[true, true, true, true, true, true, true, true, false, false, false] rfl rfl (by kernel_rfl) (by decide) (fun K hK => ?_)
  refine goes_ Tryz.func31 (by kernel_rfl) rfl #[.agg #[.slice A l.length c], .agg #[.slice none 0 0]] (by rfl) rfl rfl (by (try simp only [List.map_toArray, List.map_cons, List.map_nil]); first | done | rfl) ?_
  refine (or31 A c l none 0 [] _ (Kd.C_below hr hBw) hc (by omega) (Kd.C_nil _ _) (Nat.le_refl _) (by simp)).mono ?_
  rintro e W4 ⟨v1, rfl, hown1, hB4⟩
  refine ⟨_, rfl, ?_⟩
  obtain ⟨A1, c1, rfl⟩ := Kd.R_slice (R32_of_own hown1)
  have hb34 := (hB4.block _ hb3lt).trans hb3
  have hb264 := (hB4.block _ (Array.getElem?_eq_some_iff.1 hb26).1).trans hb26
  have hb534 := (hB4.block _ (Array.getElem?_eq_some_iff.1 hb53).1).trans hb53
  have hown34 := own_below hown3 hB4
  have hBw4 := hBw.trans (hB4.mono hBw.size)
  refine hK.out _ _ ⟨by simp [World.cell?, hb264], by simp [World.cell?, hb264], by simp [World.cell?, hb34]⟩ (fun hHeld => ?_)
  clear hK K
  refine norm_ (a' := ?_) ?_ ?_
  rotate_left
  · show Act.put _ (some 12) _ = _
    simp only [Act.put, List.setIfInBounds_toArray, List.set_cons_zero, List.set_cons_succ]
    rfl
  refine one_ (i := 8) (N := some 17) #[true, true, true, true, true, true, true, true, true, false, false] rfl rfl (by kernel_rfl) (by decide) (fun K hK => ?_)
  obtain ⟨hC2, hcc2⟩ := own_C hown34
  have hol := orL_length l m
  refine goes_ Tryz.func31 (by kernel_rfl) rfl #[.agg #[.slice A2 (orL l m).length c2], .agg #[.slice A'' n.length c'']] (by rfl) rfl rfl (by (try simp only [List.map_toArray, List.map_cons, List.map_nil]); first | done | rfl) ?_
  refine (or31 A2 c2 (orL l m) A'' c'' n _ hC2 hcc2 (by omega) (Kd.C_below hr'' hBw4) hc'' (by omega)).mono ?_
  rintro e W5 ⟨v3, rfl, hown5, hB5⟩
  refine ⟨_, rfl, ?_⟩
  obtain ⟨A3, c3, rfl⟩ := Kd.R_slice (R32_of_own hown5)
  have hb35 := (hB5.block _ (Array.getElem?_eq_some_iff.1 hb34).1).trans hb34
  have hb265 := (hB5.block _ (Array.getElem?_eq_some_iff.1 hb264).1).trans hb264
  have hb535 := (hB5.block _ (Array.getElem?_eq_some_iff.1 hb534).1).trans hb534
  have hown15 := own_below hown1 hB5
  have hown35 := own_below hown34 hB5
  have hBw5 := hBw4.trans (hB5.mono hBw4.size)
  refine hK.out _ _ ⟨by simp [World.cell?, hb265], by simp [World.cell?, hb265], by simp [World.cell?, hb35]⟩ (fun hHeld => ?_)
  clear hK K
  refine norm_ (a' := ?_) ?_ ?_
  rotate_left
  · show Act.put _ (some 17) _ = _
    simp only [Act.put, List.setIfInBounds_toArray, List.set_cons_zero, List.set_cons_succ]
    rfl
  refine pure_ (i := 9) (N := some 18) (v := ?_) (a' := ?_) #[true, true, true, true, true, true, true, true, true, true, false] rfl rfl (by kernel_rfl) (fun _ _ _ h => h) (Or.inl ⟨by rfl, ?_⟩) ?_ ?_
  rotate_left
  · intro w'
    go_simp
    with_reducible rfl
  rotate_left
  · simp only [Act.put, List.setIfInBounds_toArray, List.set_cons_zero, List.set_cons_succ]
    rfl
  refine last_ (i := 10) (N := none) #[true, true, true, true, true, true, true, true, true, true, true] rfl rfl (by kernel_rfl) (by decide) (fun K hK => ?_)
  have q0 : W5.cell? ⟨w.heap.size + 1, 0, none⟩ = some (.slice none 0 0) := by simp [World.cell?, hb535]
  have q1 : W5.cell? ⟨w.heap.size + 1, 1, none⟩ = some (.slice none 0 0) := by simp [World.cell?, hb535]
  have q2 : W5.cell? ⟨w.heap.size + 1, 2, none⟩ = some (.slice none 0 0) := by simp [World.cell?, hb535]
  have qf0 : W5.frozen? ⟨w.heap.size + 1, 0, none⟩ = false := by simp [World.frozen?, hb535]
  have qf1 : W5.frozen? ⟨w.heap.size + 1, 1, none⟩ = false := by simp [World.frozen?, hb535]
  have qf2 : W5.frozen? ⟨w.heap.size + 1, 2, none⟩ = false := by simp [World.frozen?, hb535]
  refine skip_ (w1 := ?_) (by rfl) rfl ?_ ?_
  rotate_left
  · go_simp
    rfl
  refine hK.out _ _ ?_
  clear hK K
  refine done_ (by kernel_rfl) ?_
  go_wp2_with fail
  have hs1 : w.heap.size ≤ w.heap.size + 1 := by omega
  have e3 := blk_set (blk_set (blk_set hb535 0 (.slice A1 (orL l []).length c1)) 1 (.slice A2 (orL l m).length c2)) 2 (.slice A3 (orL (orL l m) n).length c3)
  have keep : ∀ {base : Nat} {v : Value} {k : Nat} {ys : List Value}, W5.ownsRow base 32 2 v k ys → (((W5.setCell ⟨w.heap.size + 1, 0, none⟩ (.slice A1 (orL l []).length c1)).setCell ⟨w.heap.size + 1, 1, none⟩ (.slice A2 (orL l m).length c2)).setCell ⟨w.heap.size + 1, 2, none⟩ (.slice A3 (orL (orL l m) n).length c3)).ownsRow base 32 2 v k ys := fun h => by
    have hne := own_not h hb535 (fun cur e => by cases e)
    exact own_setCell (own_setCell (own_setCell h hne _) hne _) hne _
  have hBX : Below w.heap.size w (((W5.setCell ⟨w.heap.size + 1, 0, none⟩ (.slice A1 (orL l []).length c1)).setCell ⟨w.heap.size + 1, 1, none⟩ (.slice A2 (orL l m).length c2)).setCell ⟨w.heap.size + 1, 2, none⟩ (.slice A3 (orL (orL l m) n).length c3)) :=
    ((hBw5.setCell (p := ⟨w.heap.size + 1, 0, none⟩) hs1 _).setCell (p := ⟨w.heap.size + 1, 1, none⟩) hs1 _).setCell (p := ⟨w.heap.size + 1, 2, none⟩) hs1 _
  have r1 := keep hown15
  have r2 := keep hown35
  have r3 := keep hown5
  clear keep
  generalize ((W5.setCell ⟨w.heap.size + 1, 0, none⟩ (.slice A1 (orL l []).length c1)).setCell ⟨w.heap.size + 1, 1, none⟩ (.slice A2 (orL l m).length c2)).setCell ⟨w.heap.size + 1, 2, none⟩ (.slice A3 (orL (orL l m) n).length c3) = X at e3 r1 r2 r3 hBX ⊢
  have x0 : X.cell? ⟨w.heap.size + 1, 0, none⟩ = some (.slice A1 (orL l []).length c1) := cell_at e3 rfl
  have x1 : X.cell? ⟨w.heap.size + 1, 1, none⟩ = some (.slice A2 (orL l m).length c2) := cell_at e3 rfl
  have x2 : X.cell? ⟨w.heap.size + 1, 2, none⟩ = some (.slice A3 (orL (orL l m) n).length c3) := cell_at e3 rfl
  exact bodyPost_ret (v := .agg #[.slice A1 (orL l []).length c1, .slice A2 (orL l m).length c2, .slice A3 (orL (orL l m) n).length c3]) (by simp [results, Tryz.results21, go_sem, x0, x1, x2]) rfl ⟨_, _, _, _, _, _, rfl, own_C r1, own_C r2, own_C r3, hBX⟩
end Go.Proofs.YtjfcmiocmcdjlaaGreatDoor.G
