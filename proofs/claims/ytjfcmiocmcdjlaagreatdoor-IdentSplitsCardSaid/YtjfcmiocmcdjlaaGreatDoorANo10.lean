/- ordering.Sort at no classes: the same text. -/
import Derived.Test.YtjfcmiocmcdjlaaGreatDoorANo9
namespace Go.Proofs.YtjfcmiocmcdjlaaGreatDoor.G
open Go.RowKit Go.Shelf Go.Proofs.YtjfcmiocmcdjlaaGreatDoorW.PrintWords Go.Proofs.YtjfcmiocmcdjlaaGreatDoorW.PrintLast Go.Proofs.YtjfcmiocmcdjlaaGreatDoorW.PrintMore
attribute [local go_sem] Oper.semAt_some
set_option linter.unusedVariables false
theorem add_flat (b o j : Nat) : (⟨b, o, none⟩ : Addr).add j = ⟨b, o + j, none⟩ := by simp [Addr.add]
theorem cell_spot {w : World} {a : Addr} {v : Value} (h : w.cell? a = some v) : a.spot = none := by
  unfold World.cell? at h
  split at h
  · split at h
    · cases h
    · next h1 => simpa using h1
  · cases h
/-- slices.Clone at a row of integers. -/
theorem clone51 (A : Option Addr) (c : Nat) (xs : List Int) (w : World) (h1 : Kd.C (Kd.int .i64) w A xs.length xs) (hl : xs.length ≤ 17592186044416) :
    Calls Tryz.prog 51 #[.slice A xs.length c] w fun e w' => ∃ v', e = .returned v' ∧ Kd.R (Kd.int .i64) 3 w' w.heap.size (fun _ => True) v' xs ∧ Below w.heap.size w w' := by
  cases A with
  | none =>
    have h0 : xs.length = 0 := by
      rcases Nat.eq_zero_or_pos xs.length with h | h
      · exact h
      · obtain ⟨ad, e, _⟩ := h1.2.2 h
        cases e
    have hx : xs = [] := List.length_eq_zero_iff.1 h0
    subst hx
    refine (Tryz.slices_Clone_int_nil _ c w).mono ?_
    rintro e w' ⟨rfl, rfl⟩
    exact ⟨_, rfl, Kd.R_nil _ _ _ _ _, Below.refl _ _⟩
  | some ad =>
    rcases Nat.eq_zero_or_pos xs.length with h0 | h0
    · have hx : xs = [] := List.length_eq_zero_iff.1 h0
      subst hx
      refine (Tryz.slices_Clone_int_zero ad c w).mono ?_
      rintro e w' ⟨v', rfl, ho, _, hb⟩
      exact ⟨_, rfl, Kd.R_of_own ho (fun _ _ => trivial), hb⟩
    · have k1 : ∀ j, j < xs.length → w.cell? (ad.add j) = some (.int .i64 (xs.getD j 0)) := fun j hj => by
        obtain ⟨_, e, h⟩ := C_int_cell h1 hj
        cases e; exact h
      have s1 : ad.spot = none := cell_spot (a := ad) (by simpa [Addr.add] using k1 0 h0)
      obtain ⟨b1, o1, t1⟩ := ad
      simp only at s1
      subst s1
      refine (Tryz.slices_Clone_int b1 o1 xs.length c xs w (Nat.le_refl _) (by omega) (fun j hj => by rw [← add_flat]; exact k1 j hj)).mono ?_
      rintro e w' ⟨v', rfl, ho, _, hb⟩
      rw [List.take_length] at ho
      exact ⟨_, rfl, Kd.R_of_own ho (fun _ _ => trivial), hb⟩
theorem own3_not {W : World} {base : Nat} {v : Value} {k : Nat} {ys : List Value} (h : W.ownsRow base 3 1 v k ys) {j : Nat} {o : Obj} (hj : W.heap[j]? = some o) (hno : ∀ cur, o ≠ .cells cur 3 (0, 0)) : some j ≠ v.ownBlock := by
  rcases h.2 with ⟨rfl, _⟩ | ⟨g, cap, cur, rfl, _, hg, _⟩
  · simp [Value.ownBlock]
  · intro e
    have e' : j = g := by simpa [Value.ownBlock] using e
    subst e'
    rw [hg] at hj
    cases hj
    exact hno cur rfl
theorem R_lower {b1 b2 : Nat} {w : World} {ok : Nat → Prop} {v : Value} {xs : List Int} (hb : b1 ≤ b2) (h : Kd.R (Kd.int .i64) 3 w b2 ok v xs) : Kd.R (Kd.int .i64) 3 w b1 ok v xs := by
  have ho := Kd.own_of_R h
  refine Kd.R_of_own ⟨ho.1, ?_⟩ h.1
  rcases ho.2 with h0 | ⟨g, cap, cur, e, hg, h1⟩
  · exact .inl h0
  · exact .inr ⟨g, cap, cur, e, Nat.le_trans hb hg, h1⟩
theorem own_low {W : World} {b1 b2 e size n : Nat} {v : Value} {ys : List Value} (hb : b1 ≤ b2) (ho : W.ownsRow b2 e size v n ys) : W.ownsRow b1 e size v n ys := by
  refine ⟨ho.1, ?_⟩
  rcases ho.2 with h0 | ⟨g, cap, cur, e, hg, h1⟩
  · exact .inl h0
  · exact .inr ⟨g, cap, cur, e, Nat.le_trans hb hg, h1⟩
set_option maxRecDepth 100000 in
set_option maxHeartbeats 4000000 in
theorem sort71 (A : Option Addr) (c : Nat) (text : List Int) (w : World) (hC : Kd.C (Kd.int .i64) w A text.length text) (hc : text.length ≤ c) (hl : text.length ≤ 17592186044416) :
    Calls Tryz.prog 71 #[.slice none 0 0, .slice A text.length c] w fun e w' => ∃ v, e = .returned v ∧ Kd.R (Kd.int .i64) 3 w' w.heap.size (fun _ => True) v text ∧ Below w.heap.size w w' := by
  refine callsIn_wide.1 (?_ : CallsIn Fence.wide 10 Tryz.prog 71 _ w _)
  refine callsIn_of_wp_marks Tryz.func71 rfl trivial ?_ rfl
  simp only [Tryz.ntmps71, List.size_toArray, List.length_cons, List.length_nil, Nat.reduceAdd, Nat.reduceSub, Array.replicate_succ, Array.replicate_zero, List.push_toArray, List.append_toArray, List.nil_append, List.cons_append]
  gi_wp2_with (first
    | (refine ⟨trivial, ?_⟩; refine (callsIn_wide.2 (finder99 _)).mono ?_; rintro e w1 ⟨rfl, hb1, hB1⟩
       have hs1 := hB1.size
       have hl1 := (Array.getElem?_eq_some_iff.1 hb1).1
       have hW2 : Below w1.heap.size w1 (w1.alloc (.cells #[.func (.func 122) #[] #[.pointer (some ⟨w.heap.size, 0, none⟩)]] 132)) := (Below.refl _ _).alloc (Nat.le_refl _) _
       have hx2 := World.alloc_heap_new w1 (.cells #[.func (.func 122) #[] #[.pointer (some ⟨w.heap.size, 0, none⟩)]] 132)
       have hC2 := Kd.C_below (Kd.C_below hC hB1) hW2
       have hBw := hB1.alloc hs1 (.cells #[.func (.func 122) #[] #[.pointer (some ⟨w.heap.size, 0, none⟩)]] 132)
       have hb2 := (hW2.block _ hl1).trans hb1
       have hz2 : (w1.alloc (.cells #[.func (.func 122) #[] #[.pointer (some ⟨w.heap.size, 0, none⟩)]] 132)).heap.size = w1.heap.size + 1 := by simp)
    | (refine ⟨trivial, ?_⟩; refine (callsIn_wide.2 (clone51 A c text _ hC2 hl)).mono ?_; rintro e w3 ⟨v, rfl, hR, hB3⟩
       obtain ⟨VA, Vc, rfl⟩ := Kd.R_slice hR
       rw [hz2] at hB3
       have hx3 := (hB3.block w1.heap.size (by omega)).trans hx2
       have hb3 := (hB3.block w.heap.size (by omega)).trans hb2
       have hC3 := Kd.C_below hC2 (hz2 ▸ hB3)
       have hs3 := hB3.size
       have hBw3 := hBw.trans (hB3.mono (by omega))
       have hW4 : Below w3.heap.size w3 (w3.alloc (.cells #[.slice VA text.length Vc] 27)) := (Below.refl _ _).alloc (Nat.le_refl _) _
       have hx4 := (hW4.block w1.heap.size (by omega)).trans hx3
       have hb4 := (hW4.block w.heap.size (by omega)).trans hb3
       have hx4c : (w3.alloc (.cells #[.slice VA text.length Vc] 27)).cell? ⟨w1.heap.size, 0, none⟩ = some (.func (.func 122) #[] #[.pointer (some ⟨w.heap.size, 0, none⟩)]) := cell_at hx4 rfl
       have hv4 := World.alloc_heap_new w3 (.cells #[.slice VA text.length Vc] 27)
       have hC4 := Kd.C_below hC3 hW4
       have hR4 := Kd.R_below hR hW4
       have hBw4 := hBw3.alloc hBw3.size (.cells #[.slice VA text.length Vc] 27)
       have hz4 : (w3.alloc (.cells #[.slice VA text.length Vc] 27)).heap.size = w3.heap.size + 1 := by simp)
    | (refine ⟨trivial, ?_⟩; refine (callsIn_wide.2 (runs100 _ _ _ ⟨_, _, rfl⟩ ⟨_, _, _, rfl⟩)).mono ?_; rintro e w5 ⟨rfl, hbf, hbt, hB5⟩
       rw [hz4] at hbf hbt hB5
       have hb5 := (hB5.block w.heap.size (by omega)).trans hb4
       have hv5 := (hB5.block w3.heap.size (by omega)).trans hv4
       have hC5 := Kd.C_below hC4 (hz4 ▸ hB5)
       have hR5 := Kd.R_below hR4 (hz4 ▸ hB5)
       have hBw5 := hBw4.trans (hB5.mono (by omega))
       have hs5 := hB5.size
       have hbfl := (Array.getElem?_eq_some_iff.1 hbf).1
       have hbtl := (Array.getElem?_eq_some_iff.1 hbt).1))
  have hit := iter124 9 w5.heap.size (by omega) (w3.heap.size + 1 + 1) (w3.heap.size + 1) w.heap.size A c text w5 hC5 hc hbt hbf hb5
  have ho5 := own_low (show w.heap.size ≤ _ by omega) (Kd.own_of_R hR5)
  refine wpIn_rangeFunc_B (n0 := w5.heap.size) rfl (by omega) (gf := 124) (lb := #[.pointer (some ⟨w3.heap.size + 1 + 1, 0, none⟩), .pointer (some ⟨w3.heap.size + 1, 0, none⟩)]) rfl trivial (enters_of Tryz.func124 (by kernel_rfl) rfl) hit (Nat.le_refl _) (Below.refl _ _) (fun _ => rfl)
    (fun b0 pre W => Below w.heap.size w W ∧ W.heap[w3.heap.size]? = some (.cells #[.slice VA text.length Vc] 27 (0, 0)) ∧ W.ownsRow w.heap.size 3 1 (.slice VA text.length Vc) text.length (encs (Value.int .i64) text))
    ?hI ?hIo ?h0 (fun x a' W => True) ?hAx ?assign ?body ?done
  case hI =>
    rintro b0 s X B ⟨hB, hv, hrow⟩ hAB
    exact ⟨hB.trans (hAB.mono hB.size), (hAB.block _ (Array.getElem?_eq_some_iff.1 hv).1).trans hv, pw_own_below hrow hAB⟩
  case hIo =>
    rintro b0 s X l o o' ⟨hB, hv, hrow⟩ hl ho hoc
    have hg := grownBy_putObj' X l o'
    refine ⟨hB.grown hg hB.size (fun k e => by cases e; omega), (World.putObj_heap_other (by omega)).trans hv, hrow.kept hg (.inr (fun e => ?_))⟩
    exact own3_not (o := o) hrow ho (fun cur e => by subst e; simp [Obj.isCells] at hoc) e.symm
  case h0 => exact fun b0 hb => ⟨hBw5, hv5, ho5⟩
  case hAx => exact fun _ _ _ _ _ _ _ _ _ => trivial
  case assign =>
    intro l x W K hK
    rw [zip7]
    simp only [List.setIfInBounds_toArray, List.set_cons_succ, List.set_cons_zero]
    gi_wp2
    exact hK _ _ ((Below.refl _ W).alloc (Nat.le_refl _) _) trivial
  case body =>
    rintro l b0 pre x a' W _ _ _ _ hpre
    have := prefix_len hpre
    simp at this
  case done =>
    rintro D b0 W hD ⟨hB, hv, hrow⟩ hK
    have hc : W.cell? ⟨w3.heap.size, 0, none⟩ = some (.slice VA text.length Vc) := cell_at hv rfl
    gi_wp2
    refine ⟨by simp, .inl ⟨_, _, rfl, run_takeDeferred hK, ?_⟩⟩
    have hg := grownBy_putObj' W D (.deferred none)
    have hfin : Kd.R (Kd.int .i64) 3 (W.putObj D (.deferred none)) w.heap.size (fun _ => True) (.slice VA text.length Vc) text := Kd.R_of_own (hrow.kept hg (.inr (fun e => own3_not hrow hK (fun cur e => by cases e) e.symm))) (fun _ _ => trivial)
    exact ⟨.slice VA text.length Vc, results_tmp (t := 4) rfl _ _ _, _, rfl, hfin, hB.grown hg hB.size (fun k e => by cases e; omega)⟩
end Go.Proofs.YtjfcmiocmcdjlaaGreatDoor.G
