/- casefold: foldings, folding, Fold, Closed, Orbit walked; what they answer. -/
import Derived.Test.YtdgboklnhmfhoaaGreatDoorCHcase
import Derived.Test.YtdgboklnhmfhoaaGreatDoorCShelf
import Derived.Sort.OwnSortedInts
namespace Go.Proofs.YtdgboklnhmfhoaaGreatDoor.G
open Go.RowKit Go.Proofs.YtdgboklnhmfhoaaGreatDoorW.PrintWords Go.Proofs.YtdgboklnhmfhoaaGreatDoorW.PrintLast Go.Proofs.YtdgboklnhmfhoaaGreatDoorW.PrintMore
open Go.Uc
set_option linter.unusedVariables false
/-- Block b is a map of these foldings, in this order; their sequences lie in the world w0. -/
def FoldsTo (w0 w : World) (b : Nat) (FL : List S44) : Prop :=
  ∃ vs : List (Int × Value), Go.Uc.MapAt w b (Value.int .i64) vs ∧ vs.length = FL.length ∧ ∀ (i : Nat) (p : Int × Value) (m : S44), vs[i]? = some p → FL[i]? = some m → p.1 = m.f0 ∧ ∃ A c, p.2 = .slice A m.f1.length c ∧ m.f1.length ≤ c ∧ Kd.C (Kd.int .i64) w0 A m.f1.length m.f1
theorem FoldsTo.below {w0 w w1 : World} {b : Nat} {FL : List S44} (h : FoldsTo w0 w b FL) (hb : Below w.heap.size w w1) : FoldsTo w0 w1 b FL := by
  obtain ⟨vs, h1, h2, h3⟩ := h
  exact ⟨vs, h1.below hb, h2, h3⟩
theorem FoldsTo.grown {w0 w w1 : World} {b : Nat} {FL : List S44} (h : FoldsTo w0 w b FL) {row : Option Nat} (hg : w.grownBy w1 row) (hne : some b ≠ row) : FoldsTo w0 w1 b FL := by
  obtain ⟨vs, h1, h2, h3⟩ := h
  exact ⟨vs, h1.grown hg hne, h2, h3⟩
theorem FoldsTo.made (w0 w : World) : FoldsTo w0 (w.alloc (.map #[] 0)) w.heap.size [] := ⟨[], Go.Uc.MapAt.made _ _, rfl, fun i p m hp => by simp at hp⟩
theorem FoldsTo.ne {w0 w : World} {b : Nat} {FL : List S44} (h : FoldsTo w0 w b FL) {base e size : Nat} {v : Value} {n : Nat} {xs : List Value} (ho : w.ownsRow base e size v n xs) : some b ≠ v.ownBlock := by
  obtain ⟨vs, h1, _⟩ := h
  rcases ho.2 with ⟨rfl, _⟩ | ⟨g, cap, cur, rfl, hb, hg, _⟩
  · simp [Value.ownBlock]
  · intro e
    simp [Value.ownBlock] at e
    subst e
    rw [h1.1] at hg
    cases hg
theorem foldsKeys {vs : List (Int × Value)} {FL : List S44} (hl : vs.length = FL.length) (h : ∀ (i : Nat) (p : Int × Value) (m : S44), vs[i]? = some p → FL[i]? = some m → p.1 = m.f0) : vs.map (·.1) = FL.map (·.f0) := by
  apply List.ext_getElem?
  intro i
  rw [List.getElem?_map, List.getElem?_map]
  rcases Nat.lt_or_ge i FL.length with hi | hi
  · have e1 : vs[i]? = some vs[i] := List.getElem?_eq_getElem (by omega)
    have e2 : FL[i]? = some FL[i] := List.getElem?_eq_getElem hi
    rw [e1, e2, Option.map_some, Option.map_some, h i _ _ e1 e2]
  · rw [List.getElem?_eq_none (by omega), List.getElem?_eq_none (by omega)]; rfl
theorem nodup_of_dup : ∀ (l : List S44) (seen : List (Int × ByteArray)), dupFrom seen l = false → (l.map keyM).Nodup ∧ ∀ m ∈ l, keyM m ∉ seen := by
  intro l
  induction l with
  | nil => intro seen _; exact ⟨List.nodup_nil, fun m hm => by cases hm⟩
  | cons m t ih =>
    intro seen h
    rw [dupFrom, Bool.or_eq_false_iff] at h
    obtain ⟨h1, h2⟩ := ih _ h.2
    have hm : keyM m ∉ seen := by
      intro hc
      have : inKeys (keyM m) seen = true := by
        simp only [inKeys, List.any_eq_true, decide_eq_true_eq]
        exact ⟨_, hc, rfl⟩
      rw [this] at h
      cases h.1
    refine ⟨?_, fun q hq => ?_⟩
    · rw [List.map_cons, List.nodup_cons]
      refine ⟨fun hc => ?_, h1⟩
      obtain ⟨q, hq, e⟩ := List.mem_map.1 hc
      exact h2 q hq (by rw [e]; simp)
    · rcases List.mem_cons.1 hq with rfl | hq
      · exact hm
      · intro hc
        exact h2 q hq (List.mem_append_left _ hc)
/-- The foldings of the data. -/
def foldList (l0 l1 l2 l3 : List S44) (l4 l5 : List S87) : List S44 := if checkC l0 l1 l2 l3 l4 l5 = 0 then l3 else []
theorem checkC_ok {l0 l1 l2 l3 : List S44} {l4 l5 : List S87} (h : checkC l0 l1 l2 l3 l4 l5 = 0) : (∀ k, k < 4 → chkM (four l0 l1 l2 l3 k) = 0) ∧ (∀ k, k < 4 → (four l0 l1 l2 l3 k).any (tagBad k) = false) ∧ validR l4 = true ∧ validR l5 = true := by
  unfold checkC at h
  split at h
  · next h1 => exact absurd h h1
  · next h1 =>
    have h1' : firstErr (fun k => chkM (four l0 l1 l2 l3 k)) = 0 := by omega
    split at h
    · cases h
    · next h2 =>
      split at h
      · next h3 =>
        simp only [Bool.and_eq_true] at h3
        refine ⟨fun k hk => ?_, fun k hk => ?_, h3.1, h3.2⟩
        · unfold firstErr at h1'
          have : k = 0 ∨ k = 1 ∨ k = 2 ∨ k = 3 := by omega
          split at h1'
          · omega
          · next a0 =>
            split at h1'
            · omega
            · next a1 =>
              split at h1'
              · omega
              · next a2 =>
                rcases this with rfl | rfl | rfl | rfl
                · simpa using a0
                · simpa using a1
                · simpa using a2
                · exact h1'
        · rw [Bool.not_eq_true, List.any_eq_false] at h2
          simpa using h2 k (List.mem_range.2 hk)
      · cases h
theorem foldList_tags {l0 l1 l2 l3 : List S44} {l4 l5 : List S87} : ∀ m ∈ foldList l0 l1 l2 l3 l4 l5, m.f2 = ⟨#[]⟩ := by
  intro m hm
  unfold foldList at hm
  split at hm
  · next h =>
    have h2 := (checkC_ok h).2.1 3 (by omega)
    rw [List.any_eq_false] at h2
    have := h2 m hm
    simp [tagBad] at this
    rw [this]; rfl
  · cases hm
theorem foldList_nodup (l0 l1 l2 l3 : List S44) (l4 l5 : List S87) : ((foldList l0 l1 l2 l3 l4 l5).map (·.f0)).Nodup := by
  have ht := foldList_tags (l0 := l0) (l1 := l1) (l2 := l2) (l3 := l3) (l4 := l4) (l5 := l5)
  have hk : ((foldList l0 l1 l2 l3 l4 l5).map keyM).Nodup := by
    unfold foldList
    split
    · next h =>
      have h1 := (checkC_ok h).1 3 (by omega)
      have h1' : chkM l3 = 0 := h1
      unfold chkM at h1'
      split at h1'
      · next h2 => exact absurd h1' h2
      · next h2 =>
        have h3 : chk56 l3 = 0 := by omega
        unfold chk56 at h3
        repeat (split at h3; · cases h3)
        next h4 => exact (nodup_of_dup l3 [] (by simpa using h4)).1
    · exact List.nodup_nil
  have e : (foldList l0 l1 l2 l3 l4 l5).map keyM = ((foldList l0 l1 l2 l3 l4 l5).map (·.f0)).map (fun a => (a, (⟨#[]⟩ : ByteArray))) := by
    rw [List.map_map]
    apply List.map_congr_left
    intro m hm
    simp only [keyM, Function.comp, ht m hm]
  rw [e] at hk
  exact hk.of_map _ (fun a b h e => h (by rw [e]))
theorem zero28 (w : World) : (zeroValue 28).run Tryz.prog w = .ok (.slice none 0 0) w := by kernel_rfl
theorem key3 : KeyLaw Tryz.prog 3 (Value.int .i64) := int_law Tryz.underlying3
set_option maxRecDepth 100000 in
set_option maxHeartbeats 1000000 in
theorem foldings19 (A0_0 : Option Addr) (c0_0 : Nat) (l0_0 : List (S44)) (A0_1 : Option Addr) (c0_1 : Nat) (l0_1 : List (S44)) (A0_2 : Option Addr) (c0_2 : Nat) (l0_2 : List (S44)) (A0_3 : Option Addr) (c0_3 : Nat) (l0_3 : List (S44)) (A0_4 : Option Addr) (c0_4 : Nat) (l0_4 : List (S87)) (A0_5 : Option Addr) (c0_5 : Nat) (l0_5 : List (S87)) (w0 w : World) (hr0_0 : Kd.C k44 w0 A0_0 l0_0.length l0_0) (hc0_0 : l0_0.length ≤ c0_0) (hr0_1 : Kd.C k44 w0 A0_1 l0_1.length l0_1) (hc0_1 : l0_1.length ≤ c0_1) (hr0_2 : Kd.C k44 w0 A0_2 l0_2.length l0_2) (hc0_2 : l0_2.length ≤ c0_2) (hr0_3 : Kd.C k44 w0 A0_3 l0_3.length l0_3) (hc0_3 : l0_3.length ≤ c0_3) (hr0_4 : Kd.C k87 w0 A0_4 l0_4.length l0_4) (hc0_4 : l0_4.length ≤ c0_4) (hr0_5 : Kd.C k87 w0 A0_5 l0_5.length l0_5) (hc0_5 : l0_5.length ≤ c0_5) (hw : Below w0.heap.size w0 w) (h4 : l0_4.length < 4398046511104) (h5 : l0_5.length < 4398046511104) :
    Calls Tryz.prog 19 #[.agg #[.slice A0_0 l0_0.length c0_0, .slice A0_1 l0_1.length c0_1, .slice A0_2 l0_2.length c0_2, .slice A0_3 l0_3.length c0_3, .slice A0_4 l0_4.length c0_4, .slice A0_5 l0_5.length c0_5]] w fun e w' => ∃ b, e = .returned (.map (some b)) ∧ w.heap.size ≤ b ∧ FoldsTo w0 w' b (foldList l0_0 l0_1 l0_2 l0_3 l0_4 l0_5) ∧ Below w.heap.size w w' := by
  have hu27 := Tryz.underlying27
  have hu44 := Tryz.underlying44
  have hmm := @run_makeMap Tryz.prog
  obtain ⟨x, hx⟩ : ∃ x, x = checkC l0_0 l0_1 l0_2 l0_3 l0_4 l0_5 := ⟨_, rfl⟩
  have HX := Lib.hid hx
  have HND := Lib.hid (foldList_nodup l0_0 l0_1 l0_2 l0_3 l0_4 l0_5)
  have HTG := Lib.hid (foldList_tags (l0 := l0_0) (l1 := l0_1) (l2 := l0_2) (l3 := l0_3) (l4 := l0_4) (l5 := l0_5))
  have HFL : Hid (foldList l0_0 l0_1 l0_2 l0_3 l0_4 l0_5 = if x = 0 then l0_3 else []) := Lib.hid (by rw [foldList, hx])
  have hck := fun W => casemap_Check.calls A0_0 c0_0 l0_0 A0_1 c0_1 l0_1 A0_2 c0_2 l0_2 A0_3 c0_3 l0_3 A0_4 c0_4 l0_4 A0_5 c0_5 l0_5 x W
  have Hck := Lib.hid hck
  clear hx hck
  have hm := hr0_3.2.1
  have hq0 := Kd.C_below hr0_0 hw
  have hq1 := Kd.C_below hr0_1 hw
  have hq2 := Kd.C_below hr0_2 hw
  have hq3 := Kd.C_below hr0_3 hw
  have hq4 := Kd.C_below hr0_4 hw
  have hq5 := Kd.C_below hr0_5 hw
  by_cases h0 : x = 0
  · have hb : (x != 0) = false := by simp [h0]
    have H0 := Lib.hid h0
    clear h0
    go_enter Tryz.func19, Tryz.ntmps19
    go_wp2_with fail
    refine (Hck.out _ (Kd.C_alloc (Kd.C_alloc hq0 _) _) hc0_0 (Kd.C_alloc (Kd.C_alloc hq1 _) _) hc0_1 (Kd.C_alloc (Kd.C_alloc hq2 _) _) hc0_2 (Kd.C_alloc (Kd.C_alloc hq3 _) _) hc0_3 (Kd.C_alloc (Kd.C_alloc hq4 _) _) hc0_4 (Kd.C_alloc (Kd.C_alloc hq5 _) _) hc0_5 (by unfold casemap_Check.f; rw [if_pos ⟨h4, h5⟩, ← HX.out])).mono ?_
    rintro e w1 ⟨rfl, hb1⟩
    have hB0 : Below w.heap.size w w1 := by
      have h := ((Below.refl w.heap.size w).alloc (Nat.le_refl _) (.cells #[.slice A0_0 l0_0.length c0_0, .slice A0_1 l0_1.length c0_1, .slice A0_2 l0_2.length c0_2, .slice A0_3 l0_3.length c0_3, .slice A0_4 l0_4.length c0_4, .slice A0_5 l0_5.length c0_5] 27)).alloc (by simp) (.map #[] 0)
      exact h.trans (hb1.mono (by simp; omega))
    have k3 : w1.cell? ⟨w.heap.size, 3, none⟩ = some (.slice A0_3 l0_3.length c0_3) := by
      have h := hb1.block w.heap.size (by simp; omega)
      rw [Below.heap_alloc _ _ _ (by simp), heap_alloc_new] at h
      exact blk_cell h 3
    have hF0 : FoldsTo w0 w1 (w.heap.size + 1) [] := by
      have h := FoldsTo.made w0 (w.alloc (.cells #[.slice A0_0 l0_0.length c0_0, .slice A0_1 l0_1.length c0_1, .slice A0_2 l0_2.length c0_2, .slice A0_3 l0_3.length c0_3, .slice A0_4 l0_4.length c0_4, .slice A0_5 l0_5.length c0_5] 27))
      rw [show (w.alloc (.cells #[.slice A0_0 l0_0.length c0_0, .slice A0_1 l0_1.length c0_1, .slice A0_2 l0_2.length c0_2, .slice A0_3 l0_3.length c0_3, .slice A0_4 l0_4.length c0_4, .slice A0_5 l0_5.length c0_5] 27)).heap.size = w.heap.size + 1 from by simp] at h
      exact h.below hb1
    have HT3 : Hid (∀ m ∈ l0_3, m.f2 = ⟨#[]⟩) := Lib.hid (by have h := HTG.out; rw [HFL.out, if_pos H0.out] at h; exact h)
    have HN3 : Hid ((l0_3.map (·.f0)).Nodup) := Lib.hid (by have h := HND.out; rw [HFL.out, if_pos H0.out] at h; exact h)
    clear Hck
    go_wp2_with fail
    go_loopw [14] (fun i wr => ∃ k : Nat, k ≤ l0_3.length ∧ i = .int .i64 k ∧ FoldsTo w0 wr (w.heap.size + 1) (l0_3.take k) ∧ Below w.heap.size w wr) (fun i _ => l0_3.length - (intOf i).toNat)
    case atStart => exact ⟨0, Nat.zero_le _, rfl, hF0, hB0⟩
    case round =>
      clear hF0 hB0 k3
      obtain ⟨k, hk, rfl, hF, hB⟩ := hrel
      by_cases hlt : k < l0_3.length
      · obtain ⟨ad, A1, c1, rfl, h0, h1, h2, hc1, hC⟩ := at_T44 hr0_3 k (by omega) (by omega)
        have h0 := pw_cell_below (hw.trans (hB.mono hw.size)) h0
        have h1 := pw_cell_below (hw.trans (hB.mono hw.size)) h1
        have h2 := pw_cell_below (hw.trans (hB.mono hw.size)) h2
        have Hget : Hid (rd_T44 l0_3 k = l0_3[k]) := Lib.hid (by rw [rd_getD, List.getD_eq_getElem?_getD, List.getElem?_eq_getElem hlt]; rfl)
        obtain ⟨m, hm0⟩ : ∃ m, m = rd_T44 l0_3 k := ⟨_, rfl⟩
        rw [← hm0] at h0 h1 h2 hc1 hC
        have Hm0 : Hid (m = l0_3[k]) := Lib.hid (hm0.trans Hget.out)
        have htag : m.f2 = ⟨#[]⟩ := HT3.out m (by rw [Hm0.out]; exact List.getElem_mem hlt)
        rw [htag] at h2
        clear hm0 htag
        simp only [Int.toNat_natCast] at h0 h1 h2
        have hz1 : (ByteArray.mk #[]).toList = [] := by rw [ByteArray.toList_eq]
        have hsz := hB.size
        obtain ⟨vs, hM, hvl, hvp⟩ := hF
        have hnew : m.f0 ∉ vs.map (·.1) := by
          rw [foldsKeys hvl (fun i p m hp hm => (hvp i p m hp hm).1), Hm0.out]
          intro hc
          have hnd := HN3.out
          rw [← List.take_append_drop k l0_3, List.map_append, List.drop_eq_getElem_cons hlt, List.map_cons, List.nodup_append] at hnd
          exact hnd.2.2 _ hc _ List.mem_cons_self rfl
        have Hnew := Lib.hid hnew
        have Hvl := Lib.hid hvl
        have Hvp := Lib.hid hvp
        clear hnew hvl hvp
        go_wp2_with (first
          | (at_mapUpdate; refine wpList_mapUpdate_at rfl _ _ _ 45 rfl 3 28 key3 Tryz.underlying45 (w.heap.size + 1) vs rfl (hM.alloc _) m.f0 _ rfl rfl ?_; intro w3 hM3 hg3 hs3))
        go_roundw
        case rel =>
          have hBn : Below w.heap.size w w3 := (hB.alloc hsz _).grown hg3 (by simp; omega) (fun j hj => by cases hj; omega)
          refine ⟨k + 1, hlt, by go_num, ⟨vs ++ [(m.f0, .slice A1 m.f1.length c1)], ?_, ?_, ?_⟩, hBn⟩
          · rw [← upd_new _ Hnew.out]; exact hM3
          · rw [List.take_succ_eq_append_getElem hlt]; simp [Hvl.out]; omega
          · intro i p q hp hq
            have hk2 : (l0_3.take k).length = k := by simp; omega
            rcases Nat.lt_or_ge i k with hi | hi
            · rw [List.getElem?_append_left (by rw [Hvl.out, hk2]; exact hi)] at hp
              rw [List.take_succ_eq_append_getElem hlt, List.getElem?_append_left (by rw [hk2]; exact hi)] at hq
              obtain ⟨e1, A, c, e2, e3, e4⟩ := Hvp.out i p q hp hq
              exact ⟨e1, A, c, e2, e3, e4⟩
            · have hik : i = k := by
                have := (List.getElem?_eq_some_iff.1 hp).1
                simp [Hvl.out] at this
                omega
              subst hik
              rw [List.getElem?_append_right (by rw [Hvl.out, hk2]; exact Nat.le_refl _), Hvl.out, hk2] at hp
              rw [List.take_succ_eq_append_getElem hlt, List.getElem?_append_right (by rw [hk2]; exact Nat.le_refl _), hk2] at hq
              simp at hp hq
              rw [← hp, ← hq, ← Hm0.out]
              exact ⟨rfl, A1, c1, rfl, hc1, hC⟩
        case measure => simp [intOf]; omega
      · have hkl : k = l0_3.length := by omega
        have HF2 : Hid (FoldsTo w0 wr (w.heap.size + 1) l0_3) := Lib.hid (by rw [hkl, List.take_length] at hF; exact hF)
        clear hF hkl
        go_wp2_with fail
        go_ret
        exact ⟨_, rfl, by omega, by rw [HFL.out, if_pos H0.out]; exact HF2.out, hB⟩
  · have hb : (x != 0) = true := by simp [h0]
    have H0 := Lib.hid h0
    clear h0
    go_enter Tryz.func19, Tryz.ntmps19
    go_wp2_with fail
    refine (Hck.out _ (Kd.C_alloc (Kd.C_alloc hq0 _) _) hc0_0 (Kd.C_alloc (Kd.C_alloc hq1 _) _) hc0_1 (Kd.C_alloc (Kd.C_alloc hq2 _) _) hc0_2 (Kd.C_alloc (Kd.C_alloc hq3 _) _) hc0_3 (Kd.C_alloc (Kd.C_alloc hq4 _) _) hc0_4 (Kd.C_alloc (Kd.C_alloc hq5 _) _) hc0_5 (by unfold casemap_Check.f; rw [if_pos ⟨h4, h5⟩, ← HX.out])).mono ?_
    rintro e w1 ⟨rfl, hb1⟩
    have hB0 : Below w.heap.size w w1 := by
      have h := ((Below.refl w.heap.size w).alloc (Nat.le_refl _) (.cells #[.slice A0_0 l0_0.length c0_0, .slice A0_1 l0_1.length c0_1, .slice A0_2 l0_2.length c0_2, .slice A0_3 l0_3.length c0_3, .slice A0_4 l0_4.length c0_4, .slice A0_5 l0_5.length c0_5] 27)).alloc (by simp) (.map #[] 0)
      exact h.trans (hb1.mono (by simp; omega))
    have k3 : w1.cell? ⟨w.heap.size, 3, none⟩ = some (.slice A0_3 l0_3.length c0_3) := by
      have h := hb1.block w.heap.size (by simp; omega)
      rw [Below.heap_alloc _ _ _ (by simp), heap_alloc_new] at h
      exact blk_cell h 3
    have hF0 : FoldsTo w0 w1 (w.heap.size + 1) [] := by
      have h := FoldsTo.made w0 (w.alloc (.cells #[.slice A0_0 l0_0.length c0_0, .slice A0_1 l0_1.length c0_1, .slice A0_2 l0_2.length c0_2, .slice A0_3 l0_3.length c0_3, .slice A0_4 l0_4.length c0_4, .slice A0_5 l0_5.length c0_5] 27))
      rw [show (w.alloc (.cells #[.slice A0_0 l0_0.length c0_0, .slice A0_1 l0_1.length c0_1, .slice A0_2 l0_2.length c0_2, .slice A0_3 l0_3.length c0_3, .slice A0_4 l0_4.length c0_4, .slice A0_5 l0_5.length c0_5] 27)).heap.size = w.heap.size + 1 from by simp] at h
      exact h.below hb1
    clear Hck
    go_wp2_with fail
    go_ret
    exact ⟨_, rfl, by omega, by rw [HFL.out, if_neg H0.out]; exact hF0, hB0⟩
end Go.Proofs.YtdgboklnhmfhoaaGreatDoor.G
namespace Go.Proofs.YtdgboklnhmfhoaaGreatDoor.G
open Go.RowKit Go.Proofs.YtdgboklnhmfhoaaGreatDoorW.PrintWords Go.Proofs.YtdgboklnhmfhoaaGreatDoorW.PrintLast Go.Proofs.YtdgboklnhmfhoaaGreatDoorW.PrintMore
open Go.Uc
set_option linter.unusedVariables false
/-- What a code point turns into. -/
def fold1 (FL : List S44) (c : Int) : List Int :=
  match FL.find? (fun m => decide (m.f0 = c)) with
  | some m => m.f1
  | none => [c]
def hasF (FL : List S44) (c : Int) : Bool := FL.any (fun m => decide (m.f0 = c))
theorem lk_folds (w : World) (c : Int) : ∀ (vs : List (Int × Value)) (FL : List S44) (i : Nat), vs.length = FL.length → (∀ (i : Nat) (p : Int × Value) (m : S44), vs[i]? = some p → FL[i]? = some m → p.1 = m.f0 ∧ ∃ A c, p.2 = .slice A m.f1.length c ∧ m.f1.length ≤ c ∧ Kd.C (Kd.int .i64) w A m.f1.length m.f1) →
    (lk c vs i).isSome = hasF FL c ∧ (hasF FL c = true → ∃ A c', (lk c vs i).map (·.2) = some (.slice A (fold1 FL c).length c') ∧ (fold1 FL c).length ≤ c' ∧ Kd.C (Kd.int .i64) w A (fold1 FL c).length (fold1 FL c)) := by
  intro vs
  induction vs with
  | nil =>
    intro FL i hl h
    cases FL with
    | nil => exact ⟨rfl, fun h => by cases h⟩
    | cons _ _ => simp at hl
  | cons p t ih =>
    intro FL i hl h
    cases FL with
    | nil => simp at hl
    | cons m FL =>
      obtain ⟨e, A, c', e2, h3, h4⟩ := h 0 p m rfl rfl
      by_cases hc : c = p.1
      · have hd : decide (m.f0 = c) = true := by rw [hc, e]; simp
        rw [lk, if_pos hc]
        refine ⟨by simp [hasF, hd], fun _ => ?_⟩
        have hf : fold1 (m :: FL) c = m.f1 := by simp [fold1, List.find?, hd]
        rw [hf]
        exact ⟨A, c', by rw [Option.map_some, e2], h3, h4⟩
      · have hd : decide (m.f0 = c) = false := by rw [← e]; simp; exact fun h => hc h.symm
        have hf : fold1 (m :: FL) c = fold1 FL c := by simp [fold1, List.find?, hd]
        have hh : hasF (m :: FL) c = hasF FL c := by simp [hasF, hd]
        rw [lk, if_neg hc, hf, hh]
        exact ih FL (i + 1) (by simpa using hl) (fun j q n hq hn => h (j + 1) q n hq hn)
theorem get_folds {w : World} {vs : List (Int × Value)} {FL : List S44} (hl : vs.length = FL.length) (h : ∀ (i : Nat) (p : Int × Value) (m : S44), vs[i]? = some p → FL[i]? = some m → p.1 = m.f0 ∧ ∃ A c, p.2 = .slice A m.f1.length c ∧ m.f1.length ≤ c ∧ Kd.C (Kd.int .i64) w A m.f1.length m.f1) (c : Int) :
    (Go.Uc.get c vs).isSome = hasF FL c ∧ (hasF FL c = true → ∃ A c', Go.Uc.get c vs = some (.slice A (fold1 FL c).length c') ∧ (fold1 FL c).length ≤ c' ∧ Kd.C (Kd.int .i64) w A (fold1 FL c).length (fold1 FL c)) := by
  obtain ⟨h1, h2⟩ := lk_folds w c vs FL 0 hl h
  exact ⟨by unfold Go.Uc.get; rw [Option.isSome_map]; exact h1, h2⟩
theorem fold1_none {FL : List S44} {c : Int} (h : hasF FL c = false) : fold1 FL c = [c] := by
  have : FL.find? (fun m => decide (m.f0 = c)) = none := by
    rw [List.find?_eq_none]
    intro m hm
    rw [hasF, List.any_eq_false] at h
    exact h m hm
  simp [fold1, this]
theorem folding20 (b : Nat) (FL : List S44) (c : Int) (w0 w : World) (hF : FoldsTo w0 w b FL) (hw : Below w0.heap.size w0 w) :
    Calls Tryz.prog 20 #[.map (some b), .int .i64 c] w fun e w' => ∃ A c', e = .returned (.slice A (fold1 FL c).length c') ∧ (fold1 FL c).length ≤ c' ∧ Kd.C (Kd.int .i64) w' A (fold1 FL c).length (fold1 FL c) ∧ Below w.heap.size w w' := by
  obtain ⟨vs, hM, hl, hp⟩ := hF
  obtain ⟨h1, h2⟩ := get_folds hl hp c
  clear hl hp
  cases hb : hasF FL c
  · rw [hb] at h1
    have Hf := Lib.hid (fold1_none hb)
    have H1 := Lib.hid h1
    have H0 : Hid (get c vs = none) := Lib.hid (by simpa using h1)
    clear hb h1 h2
    go_enter Tryz.func20, Tryz.ntmps20
    go_wp2_with (first
      | (at_lookup; refine wpList_look2 rfl _ _ 45 rfl 3 28 key3 Tryz.underlying45 b vs rfl hM c rfl _ (zero28 _) _ (by rw [H0.out, Option.getD_none]) _ H1.out ?_))
    go_ret
    rw [Hf.out]
    exact ⟨_, _, rfl, Nat.le_refl _, C_int_one (blk_cell (heap_alloc_new _ _) 0), below_alloc (Below.refl _ _) _⟩
  · rw [hb] at h1
    obtain ⟨A, c', h3, h4, h5⟩ := h2 hb
    have h5 := Kd.C_below h5 hw
    have H1 := Lib.hid h1
    have H3 := Lib.hid h3
    have H5 := Lib.hid (And.intro h4 h5)
    clear hb h1 h2 h3 h4 h5
    go_enter Tryz.func20, Tryz.ntmps20
    go_wp2_with (first
      | (at_lookup; refine wpList_look2 rfl _ _ 45 rfl 3 28 key3 Tryz.underlying45 b vs rfl hM c rfl _ (zero28 _) _ (by rw [H3.out, Option.getD_some]) _ H1.out ?_))
    go_ret
    exact ⟨_, _, rfl, H5.out.1, H5.out.2, Below.refl _ _⟩
end Go.Proofs.YtdgboklnhmfhoaaGreatDoor.G
namespace Go.Proofs.YtdgboklnhmfhoaaGreatDoor.G
open Go.RowKit Go.Proofs.YtdgboklnhmfhoaaGreatDoorW.PrintWords Go.Proofs.YtdgboklnhmfhoaaGreatDoorW.PrintLast Go.Proofs.YtdgboklnhmfhoaaGreatDoorW.PrintMore
open Go.Uc
set_option linter.unusedVariables false
def foldT (FL : List S44) (l : List Int) : List Int := l.flatMap (fold1 FL)
theorem foldT_snoc (FL : List S44) (l : List Int) {k : Nat} (hk : k < l.length) : foldT FL (l.take (k + 1)) = foldT FL (l.take k) ++ fold1 FL (l.getD k 0) := by
  rw [List.take_succ_eq_append_getElem hk, foldT, List.flatMap_append]
  simp [foldT, List.getD_eq_getElem?_getD, List.getElem?_eq_getElem hk]
theorem foldT_take_le (FL : List S44) (l : List Int) (k : Nat) : (foldT FL (l.take k)).length ≤ (foldT FL l).length := by
  conv => rhs; rw [← List.take_append_drop k l]
  rw [foldT, foldT, List.flatMap_append, List.length_append]
  exact Nat.le_add_right _ _
def casefold_Fold.f (l0_0 : List (S44)) (l0_1 : List (S44)) (l0_2 : List (S44)) (l0_3 : List (S44)) (l0_4 : List (S87)) (l0_5 : List (S87)) (l1 : List (Int)) : Option (List (Int)) :=
  if l0_4.length < 4398046511104 ∧ l0_5.length < 4398046511104 ∧ (foldT (foldList l0_0 l0_1 l0_2 l0_3 l0_4 l0_5) l1).length ≤ 17592186044416 then some (foldT (foldList l0_0 l0_1 l0_2 l0_3 l0_4 l0_5) l1) else none
set_option maxRecDepth 100000 in
set_option maxHeartbeats 1000000 in
theorem casefold_Fold.calls (A0_0 : Option Addr) (c0_0 : Nat) (l0_0 : List (S44)) (A0_1 : Option Addr) (c0_1 : Nat) (l0_1 : List (S44)) (A0_2 : Option Addr) (c0_2 : Nat) (l0_2 : List (S44)) (A0_3 : Option Addr) (c0_3 : Nat) (l0_3 : List (S44)) (A0_4 : Option Addr) (c0_4 : Nat) (l0_4 : List (S87)) (A0_5 : Option Addr) (c0_5 : Nat) (l0_5 : List (S87)) (A1 : Option Addr) (c1 : Nat) (l1 : List (Int)) (r : List (Int)) (w : World) (hr0_0 : Kd.C k44 w A0_0 l0_0.length l0_0) (hc0_0 : l0_0.length ≤ c0_0) (hr0_1 : Kd.C k44 w A0_1 l0_1.length l0_1) (hc0_1 : l0_1.length ≤ c0_1) (hr0_2 : Kd.C k44 w A0_2 l0_2.length l0_2) (hc0_2 : l0_2.length ≤ c0_2) (hr0_3 : Kd.C k44 w A0_3 l0_3.length l0_3) (hc0_3 : l0_3.length ≤ c0_3) (hr0_4 : Kd.C k87 w A0_4 l0_4.length l0_4) (hc0_4 : l0_4.length ≤ c0_4) (hr0_5 : Kd.C k87 w A0_5 l0_5.length l0_5) (hc0_5 : l0_5.length ≤ c0_5) (hr1 : Kd.C (Kd.int .i64) w A1 l1.length l1) (hc1 : l1.length ≤ c1) (h : casefold_Fold.f l0_0 l0_1 l0_2 l0_3 l0_4 l0_5 l1 = some r) :
    Calls Tryz.prog 9 #[.agg #[.slice A0_0 l0_0.length c0_0, .slice A0_1 l0_1.length c0_1, .slice A0_2 l0_2.length c0_2, .slice A0_3 l0_3.length c0_3, .slice A0_4 l0_4.length c0_4, .slice A0_5 l0_5.length c0_5], .slice A1 l1.length c1] w fun e w' => ∃ v0_ : Value, e = .returned (v0_) ∧ Kd.R (Kd.int .i64) 3 w' w.heap.size (fun _ => True) v0_ r ∧ Below w.heap.size w w' := by
  unfold casefold_Fold.f at h
  split at h
  · next hb =>
    obtain ⟨h4, h5, hT⟩ := hb
    obtain ⟨FL, hFL⟩ : ∃ FL, FL = foldList l0_0 l0_1 l0_2 l0_3 l0_4 l0_5 := ⟨_, rfl⟩
    rw [← hFL] at h hT
    have HT := Lib.hid hT
    have HR : Hid (r = foldT FL l1) := Lib.hid (Option.some.inj h).symm
    have hck := fun W hw => foldings19 A0_0 c0_0 l0_0 A0_1 c0_1 l0_1 A0_2 c0_2 l0_2 A0_3 c0_3 l0_3 A0_4 c0_4 l0_4 A0_5 c0_5 l0_5 w W hr0_0 hc0_0 hr0_1 hc0_1 hr0_2 hc0_2 hr0_3 hc0_3 hr0_4 hc0_4 hr0_5 hc0_5 hw h4 h5
    rw [← hFL] at hck
    have Hck := Lib.hid hck
    have hu28 := Tryz.underlying28
    have hu27 := Tryz.underlying27
    have hm := hr1.2.1
    clear hck h hT hFL h4 h5
    go_enter Tryz.func9, Tryz.ntmps9
    go_wp2_with fail
    refine (Hck.out _ (below_alloc (Below.refl _ _) _)).mono ?_
    rintro e w1 ⟨b, rfl, hbm, hF, hb1⟩
    have hB0 : Below w.heap.size w w1 := (below_alloc (Below.refl _ _) _).trans (hb1.mono (by simp))
    clear Hck hb1
    go_wp2_with fail
    go_loopw [6, 13] (fun o i wr => ∃ k : Nat, k ≤ l1.length ∧ i = .int .i64 k ∧ Kd.R (Kd.int .i64) 3 wr w.heap.size (fun _ => True) o (foldT FL (l1.take k)) ∧ FoldsTo w wr b FL ∧ Below w.heap.size w wr) (fun _ i _ => l1.length - (intOf i).toNat)
    case atStart => exact ⟨0, Nat.zero_le _, rfl, Kd.R_nil _ _ _ _ _, hF, hB0⟩
    case round =>
      clear hF hB0
      obtain ⟨k, hk, rfl, hR, hF, hB⟩ := hrel
      by_cases hlt : k < l1.length
      · obtain ⟨ad, rfl, hcell⟩ := C_int_cell (Kd.C_below hr1 hB) hlt
        have Hsn := Lib.hid (foldT_snoc FL l1 hlt)
        have Hle := Lib.hid (foldT_take_le FL l1 (k + 1))
        obtain ⟨c, hc⟩ : ∃ c, c = l1.getD k 0 := ⟨_, rfl⟩
        rw [← hc] at hcell Hsn
        obtain ⟨O, hO⟩ : ∃ O, O = foldT FL (l1.take k) := ⟨_, rfl⟩
        rw [← hO] at hR Hsn
        clear hc hO
        have hFc := fun W h k => folding20 b FL c w W h k
        have HFc := Lib.hid hFc
        obtain ⟨V, hV⟩ : ∃ V, V = fold1 FL c := ⟨_, rfl⟩
        rw [← hV] at HFc Hsn
        clear hV hFc
        have hsz := hB.size
        obtain ⟨OA, Oc, rfl⟩ := Kd.R_slice hR
        have hL := Nat.le_trans Hle.out HT.out
        rw [Hsn.out, List.length_append] at hL
        have HL := Lib.hid hL
        clear hL
        go_wp2_with fail
        refine (HFc.out _ hF hB).mono ?_
        rintro e w3 ⟨A, c', rfl, hc', hC, hb3⟩
        have hB3 := hB.trans (hb3.mono hsz)
        have hR3 := Kd.R_below hR hb3
        have hF3 := hF.below hb3
        clear hR hF hb3
        go_wp2_with (first
          | ((with_reducible refine gate_builtin (b := .append) (xs := #[.tmp 17, .tmp 20]) rfl ?_); at_builtin; refine Kd.R_append_rows (Kd.int .i64) (w0 := w) w.heap.size rfl (.tmp 17) (.tmp 20) 28 3 (.int .i64 0) 8 rfl Tryz.underlying28 info3 rfl (by decide) (by omega) (.slice OA O.length Oc) O V _ _ _ (fun _ => True) (fun _ => False) rfl rfl hR3 hC (fun _ _ h => h) (fun _ h => h.elim) (fun _ _ => trivial) hB3 hB3.size (by have := HL.out; omega) ?_; intro v1 w4 hR4 hB4 hg4 hat4))
        have hF4 := hF3.grown hg4 (hF3.ne (Kd.own_of_R hR3))
        go_roundw
        case rel => exact ⟨k + 1, hlt, by go_num, by rw [Hsn.out]; exact hR4, hF4, hB4⟩
        case measure => simp [intOf]; omega
      · have hkl : k = l1.length := by omega
        subst hkl
        have Hr : Hid (foldT FL (l1.take l1.length) = r) := Lib.hid (by rw [List.take_length, HR.out])
        go_wp2_with fail
        go_ret
        exact ⟨_, rfl, by rw [← Hr.out]; exact hR, hB⟩
  · cases h
end Go.Proofs.YtdgboklnhmfhoaaGreatDoor.G
namespace Go.Proofs.YtdgboklnhmfhoaaGreatDoor.G
open Go.RowKit Go.Proofs.YtdgboklnhmfhoaaGreatDoorW.PrintWords Go.Proofs.YtdgboklnhmfhoaaGreatDoorW.PrintLast Go.Proofs.YtdgboklnhmfhoaaGreatDoorW.PrintMore
open Go.Uc
set_option linter.unusedVariables false
def iterDone (w : World) (r : Nat) : Nat := match w.heap[r]? with | some (.mapIter _ _ d _) => d.size | _ => 0
theorem iterDone_at {w : World} {r b n : Nat} {done : List Nat} (h : Go.Uc.IterAt w r b n done) : iterDone w r = done.length := by
  obtain ⟨c0, h1, _⟩ := h
  simp [iterDone, h1]
theorem done_le : ∀ {n : Nat} {done : List Nat}, done.Nodup → (∀ i ∈ done, i < n) → done.length ≤ n := by
  intro n
  induction n with
  | zero =>
    intro done _ h
    cases done with
    | nil => exact Nat.le_refl _
    | cons a t => exact absurd (h a List.mem_cons_self) (Nat.not_lt_zero _)
  | succ n ih =>
    intro done h1 h2
    have h := ih (done := done.erase n) (h1.erase n) (fun i hi => by
      have h3 := h1.mem_erase_iff.1 hi
      have h4 := h2 i h3.2
      omega)
    have h5 : (done.erase n).length = if n ∈ done then done.length - 1 else done.length := List.length_erase
    split at h5 <;> omega
theorem iter_le {w : World} {r b n : Nat} {done : List Nat} (h : Go.Uc.IterAt w r b n done) : done.length ≤ n := by
  obtain ⟨c0, _, _, h2, h3⟩ := h
  exact done_le h2 h3
def closedB (FL : List S44) : Bool := !(FL.any fun m => m.f1.any (hasF FL))
theorem closedB_no {FL : List S44} {i k : Nat} {m : S44} (hm : FL[i]? = some m) (hk : k < m.f1.length) (h : hasF FL (m.f1.getD k 0) = true) : closedB FL = false := by
  rw [closedB, Bool.not_eq_false', List.any_eq_true]
  refine ⟨m, List.mem_of_getElem? hm, List.any_eq_true.2 ⟨m.f1.getD k 0, ?_, h⟩⟩
  rw [List.getD_eq_getElem?_getD, List.getElem?_eq_getElem hk]
  exact List.getElem_mem hk
theorem closedB_yes {FL : List S44} {done : List Nat} (hd : ∀ i, i < FL.length → i ∈ done) (h : ∀ i ∈ done, ∀ m, FL[i]? = some m → m.f1.any (hasF FL) = false) : closedB FL = true := by
  rw [closedB, Bool.not_eq_true', List.any_eq_false]
  intro m hm
  obtain ⟨i, hi, rfl⟩ := List.getElem_of_mem hm
  simpa using h i (hd i hi) _ (List.getElem?_eq_getElem hi)
def casefold_Closed.f (l0_0 : List (S44)) (l0_1 : List (S44)) (l0_2 : List (S44)) (l0_3 : List (S44)) (l0_4 : List (S87)) (l0_5 : List (S87)) : Option (Bool) :=
  if l0_4.length < 4398046511104 ∧ l0_5.length < 4398046511104 then some (closedB (foldList l0_0 l0_1 l0_2 l0_3 l0_4 l0_5)) else none
set_option maxRecDepth 100000 in
set_option maxHeartbeats 1000000 in
theorem casefold_Closed.calls (A0_0 : Option Addr) (c0_0 : Nat) (l0_0 : List (S44)) (A0_1 : Option Addr) (c0_1 : Nat) (l0_1 : List (S44)) (A0_2 : Option Addr) (c0_2 : Nat) (l0_2 : List (S44)) (A0_3 : Option Addr) (c0_3 : Nat) (l0_3 : List (S44)) (A0_4 : Option Addr) (c0_4 : Nat) (l0_4 : List (S87)) (A0_5 : Option Addr) (c0_5 : Nat) (l0_5 : List (S87)) (r : Bool) (w : World) (hr0_0 : Kd.C k44 w A0_0 l0_0.length l0_0) (hc0_0 : l0_0.length ≤ c0_0) (hr0_1 : Kd.C k44 w A0_1 l0_1.length l0_1) (hc0_1 : l0_1.length ≤ c0_1) (hr0_2 : Kd.C k44 w A0_2 l0_2.length l0_2) (hc0_2 : l0_2.length ≤ c0_2) (hr0_3 : Kd.C k44 w A0_3 l0_3.length l0_3) (hc0_3 : l0_3.length ≤ c0_3) (hr0_4 : Kd.C k87 w A0_4 l0_4.length l0_4) (hc0_4 : l0_4.length ≤ c0_4) (hr0_5 : Kd.C k87 w A0_5 l0_5.length l0_5) (hc0_5 : l0_5.length ≤ c0_5) (h : casefold_Closed.f l0_0 l0_1 l0_2 l0_3 l0_4 l0_5 = some r) :
    Calls Tryz.prog 15 #[.agg #[.slice A0_0 l0_0.length c0_0, .slice A0_1 l0_1.length c0_1, .slice A0_2 l0_2.length c0_2, .slice A0_3 l0_3.length c0_3, .slice A0_4 l0_4.length c0_4, .slice A0_5 l0_5.length c0_5]] w fun e w' => e = .returned (.bool r) ∧ Below w.heap.size w w' := by
  unfold casefold_Closed.f at h
  split at h
  · next hb =>
    obtain ⟨h4, h5⟩ := hb
    obtain ⟨FL, hFL⟩ : ∃ FL, FL = foldList l0_0 l0_1 l0_2 l0_3 l0_4 l0_5 := ⟨_, rfl⟩
    rw [← hFL] at h
    have HR : Hid (r = closedB FL) := Lib.hid (Option.some.inj h).symm
    have hck := fun W hw => foldings19 A0_0 c0_0 l0_0 A0_1 c0_1 l0_1 A0_2 c0_2 l0_2 A0_3 c0_3 l0_3 A0_4 c0_4 l0_4 A0_5 c0_5 l0_5 w W hr0_0 hc0_0 hr0_1 hc0_1 hr0_2 hc0_2 hr0_3 hc0_3 hr0_4 hc0_4 hr0_5 hc0_5 hw h4 h5
    rw [← hFL] at hck
    have Hck := Lib.hid hck
    have hu28 := Tryz.underlying28
    have hu27 := Tryz.underlying27
    clear hck h hFL h4 h5
    go_enter Tryz.func15, Tryz.ntmps15
    go_wp2_with fail
    refine (Hck.out _ (below_alloc (Below.refl _ _) _)).mono ?_
    rintro e w1 ⟨b, rfl, hbm, hF, hb1⟩
    have hB0 : Below w.heap.size w w1 := (below_alloc (Below.refl _ _) _).trans (hb1.mono (by simp))
    clear Hck hb1
    obtain ⟨vs, hM, hvl, hvp⟩ := hF
    have Hvl := Lib.hid hvl
    have Hvp := Lib.hid hvp
    clear hvl hvp
    go_wp2_with (first
      | (at_range; refine wpList_range_at rfl _ 45 rfl 3 28 Tryz.underlying45 b vs rfl hM ?_; intro hI))
    have hM1 := hM.alloc (.mapIter (some b) vs.length #[] vs.length)
    have hB1 := below_alloc hB0 (.mapIter (some b) vs.length #[] vs.length)
    have hbr := hM.lt
    have hrw := hB0.size
    obtain ⟨rr, hrr⟩ : ∃ rr, rr = w1.heap.size := ⟨_, rfl⟩
    rw [← hrr] at hI hbr hrw ⊢
    generalize hw2 : w1.alloc (.mapIter (some b) vs.length #[] vs.length) = w2 at hI hM1 hB1 ⊢
    clear hw2 hM hB0 hrr
    go_frame
    go_loopw [5] (fun _ wr => ∃ done : List Nat, Go.Uc.IterAt wr rr b vs.length done ∧ Go.Uc.MapAt wr b (Value.int .i64) vs ∧ Below w.heap.size w wr ∧ ∀ i ∈ done, ∀ m, FL[i]? = some m → m.f1.any (hasF FL) = false) (fun _ wr => vs.length - iterDone wr rr)
    case atStart => exact ⟨[], hI, hM1, hB1, fun i hi => by cases hi⟩
    case round =>
      clear hI hM1 hB1
      obtain ⟨done, hI, hM, hB, hD⟩ := hrel
      have HD := Lib.hid hD
      have HI := Lib.hid hI
      clear hD
      go_wp2_with (first
        | (at_next; refine wpList_next_at rfl _ rfl b rr vs done rfl hM hI ?_ ?_))
      · intro hall
        have Hall := Lib.hid hall
        clear hall
        go_wp2_with fail
        go_ret
        refine ⟨?_, hB⟩
        rw [HR.out, closedB_yes (fun i hi => Hall.out i (by rw [Hvl.out]; exact hi)) HD.out]
        rfl
      · intro i pk pv w3 hp hnew hI3 hg3 hs3 hent
        have hil := (List.getElem?_eq_some_iff.1 hp).1
        have HV := Lib.hid Hvl.out
        obtain ⟨m, hm⟩ : ∃ m, FL[i]? = some m := ⟨_, List.getElem?_eq_getElem (by rw [← Hvl.out]; exact hil)⟩
        obtain ⟨hk0, A, c, hpe, hcl, hC⟩ := Hvp.out i (pk, pv) m hp hm
        simp only at hk0 hpe
        subst hk0 hpe
        have hB3 := hB.grown hg3 hB.size (fun j hj => by cases hj; exact hrw)
        have hM3 := hM.grown hg3 (fun e => by have := Option.some.inj e; omega)
        have hC3 := Kd.C_below hC hB3
        have Hi := Lib.hid hp
        have Hm := Lib.hid hm
        have Hnew := Lib.hid hnew
        have hmx := hC3.2.1
        clear hp hm hnew hg3 hC hM hI hB hil
        go_wp2_with fail
        go_loop [20] (fun i => ∃ k : Nat, k ≤ m.f1.length ∧ i = .int .i64 k ∧ (m.f1.take k).any (hasF FL) = false) (fun i => m.f1.length - (intOf i).toNat)
        case atStart => exact ⟨0, Nat.zero_le _, rfl, rfl⟩
        case round =>
          obtain ⟨k, hk, rfl, hno⟩ := hrel
          have Hno := Lib.hid hno
          clear hno
          by_cases hlt : k < m.f1.length
          · obtain ⟨ad, rfl, hcell⟩ := C_int_cell hC3 hlt
            have Hnx := Lib.hid (any_take_succ (hasF FL) m.f1 0 k hlt)
            obtain ⟨x, hx⟩ : ∃ x, x = m.f1.getD k 0 := ⟨_, rfl⟩
            have Hx := Lib.hid hx
            rw [← hx] at hcell Hnx
            clear hx
            obtain ⟨h1, h2⟩ := get_folds Hvl.out Hvp.out x
            cases hb : hasF FL x
            · rw [hb] at h1
              have H1 := Lib.hid h1
              have H0 : Hid (Go.Uc.get x vs = none) := Lib.hid (by simpa using h1)
              have Hb := Lib.hid hb
              clear hb h1 h2
              go_wp2_with (first
                | (at_lookup; refine wpList_look2 rfl _ _ 45 rfl 3 28 key3 Tryz.underlying45 b vs rfl hM3 x rfl _ (zero28 _) _ (by rw [H0.out, Option.getD_none]) _ H1.out ?_))
              go_round
              case rel => exact ⟨k + 1, hlt, by go_num, by rw [Hnx.out, Hno.out, Hb.out]; rfl⟩
              case measure => simp [intOf]; omega
            · rw [hb] at h1
              obtain ⟨A2, c2, h3, h4, h5⟩ := h2 hb
              have H1 := Lib.hid h1
              have H3 := Lib.hid h3
              have Hb := Lib.hid hb
              clear hb h1 h2 h3 h4 h5
              go_wp2_with (first
                | (at_lookup; refine wpList_look2 rfl _ _ 45 rfl 3 28 key3 Tryz.underlying45 b vs rfl hM3 x rfl _ (zero28 _) _ (by rw [H3.out, Option.getD_some]) _ H1.out ?_))
              go_ret
              refine ⟨?_, hB3⟩
              rw [HR.out, closedB_no Hm.out hlt (by rw [← Hx.out]; exact Hb.out)]
              rfl
          · have hkl : k = m.f1.length := by omega
            have Hall : Hid (m.f1.any (hasF FL) = false) := Lib.hid (by have h := Hno.out; rw [hkl, List.take_length] at h; exact h)
            go_wp2_with fail
            go_roundw
            case rel =>
              refine ⟨done ++ [i], hI3, hM3, hB3, fun j hj q hq => ?_⟩
              rcases List.mem_append.1 hj with hj | hj
              · exact HD.out j hj q hq
              · obtain rfl := List.mem_singleton.1 hj
                rw [Hm.out] at hq
                cases hq
                exact Hall.out
            case measure =>
              have h1 := iterDone_at HI.out
              have h2 := iterDone_at hI3
              have h3 := iter_le hI3
              rw [h1, h2]
              simp at h3 ⊢
              omega
  · cases h
end Go.Proofs.YtdgboklnhmfhoaaGreatDoor.G
namespace Go.Proofs.YtdgboklnhmfhoaaGreatDoor.G
open Go.RowKit Go.Proofs.YtdgboklnhmfhoaaGreatDoorW.PrintWords Go.Proofs.YtdgboklnhmfhoaaGreatDoorW.PrintLast Go.Proofs.YtdgboklnhmfhoaaGreatDoorW.PrintMore
open Go.Uc Go.Sort
set_option linter.unusedVariables false
def sortI (l : List Int) : List Int := l.mergeSort fun x y => decide (x ≤ y)
theorem sortI_perm (l : List Int) : (sortI l).Perm l := List.mergeSort_perm l _
theorem sortI_length (l : List Int) : (sortI l).length = l.length := (sortI_perm l).length_eq
theorem sortI_sorted (l : List Int) : (sortI l).Pairwise (fun a b => a ≤ b) := by
  have h := List.pairwise_mergeSort (le := fun x y : Int => decide (x ≤ y)) (by simp; omega) (by simp; omega) l
  exact h.imp (by simp)
theorem sorted_eq {l m : List Int} (h : l.Perm m) (h1 : l.Pairwise (fun a b => a ≤ b)) (h2 : m.Pairwise (fun a b => a ≤ b)) : l = m :=
  h.eq_of_pairwise (fun a b _ _ x y => by omega) h1 h2
theorem sortI_congr {l m : List Int} (h : l.Perm m) : sortI l = sortI m :=
  sorted_eq ((sortI_perm l).trans (h.trans (sortI_perm m).symm)) (sortI_sorted l) (sortI_sorted m)
theorem sortI_id {l : List Int} (h : l.Pairwise (fun a b => a ≤ b)) : sortI l = l := sorted_eq (sortI_perm l) (sortI_sorted l) h
/-- slices.Sort at a row of one's own. -/
theorem sort25 {base : Nat} {ok : Nat → Prop} {v : Value} {xs : List Int} {w : World} (h : Kd.R (Kd.int .i64) 3 w base ok v xs) (hl : xs.length < 4611686018427387904) :
    Calls Tryz.prog 25 #[v] w fun e w' => e = .returned (.tuple #[]) ∧ Kd.R (Kd.int .i64) 3 w' base ok v (sortI xs) ∧ w.grownBy w' v.ownBlock := by
  have ho := Kd.own_of_R h
  have hok := h.1
  rcases ho.2 with ⟨rfl, h0⟩ | ⟨g, cap, cur, rfl, hb, hg, hn, hcap, hsz, ht⟩
  · have hx : xs = [] := List.length_eq_zero_iff.1 h0
    subst hx
    refine (Tryz.slices_Sort_int_none none 0 w).mono ?_
    rintro e w' ⟨rfl, rfl⟩
    have e : sortI [] = [] := by simp [sortI]
    exact ⟨rfl, by rw [e]; exact h, ⟨rfl, rfl, rfl, Nat.le_refl _, fun _ _ _ => rfl⟩⟩
  · have ht' : cur.toList.take xs.length = xs.map (Value.int .i64) := by simpa [encs] using ht
    refine (Tryz.slices_Sort_int g 0 cap xs w (holds_of_blockI hg ht') (Array.getElem?_eq_some_iff.1 hg).1 hl).mono ?_
    rintro e w' ⟨rfl, n, os, rfl⟩
    refine ⟨rfl, Kd.R_of_own ?_ hok, grownBy_sortedI _⟩
    have := ownsRow_sortedI (n := n) (os := os) (ss := xs) (ts := sortI xs) (sortI_length xs) hb hg hn hcap hsz
    rw [sortI_length]
    exact this
theorem cell_spot {w : World} {a : Addr} {v : Value} (h : w.cell? a = some v) : a.spot = none := by
  by_cases hs : a.spot.isSome = true
  · unfold World.cell? at h
    rw [hs] at h
    cases hh : w.heap[a.block]? with
    | none => simp [hh] at h
    | some o => cases o <;> simp [hh] at h
  · simpa using hs
theorem add_flat (b o j : Nat) : (⟨b, o, none⟩ : Addr).add j = ⟨b, o + j, none⟩ := by
  unfold Addr.add
  split
  · next h => rw [h]; rfl
  · rfl
/-- slices.Equal at two rows of integers. -/
theorem equal24 (A B : Option Addr) (c d : Nat) (xs ys : List Int) (w : World) (h1 : Kd.C (Kd.int .i64) w A xs.length xs) (h2 : Kd.C (Kd.int .i64) w B ys.length ys) :
    Calls Tryz.prog 24 #[.slice A xs.length c, .slice B ys.length d] w fun e w' => e = .returned (.bool (decide (xs = ys))) ∧ ∃ q, w' = w.drewN q := by
  by_cases hl : xs.length = ys.length
  · by_cases h0 : xs.length = 0
    · have hx : xs = [] := List.length_eq_zero_iff.1 h0
      have hy : ys = [] := List.length_eq_zero_iff.1 (by omega)
      subst hx hy
      refine (Tryz.slices_Equal_int_empty A B c 0 d w (by omega)).mono ?_
      rintro e w' ⟨rfl, rfl⟩
      exact ⟨rfl, 0, rfl⟩
    · obtain ⟨ad, rfl, _⟩ := C_int_cell h1 (k := 0) (by omega)
      obtain ⟨bd, rfl, _⟩ := C_int_cell h2 (k := 0) (by omega)
      have k1 : ∀ j, j < xs.length → w.cell? (ad.add j) = some (.int .i64 (xs.getD j 0)) := fun j hj => by
        obtain ⟨_, e, h⟩ := C_int_cell h1 hj
        cases e; exact h
      have k2 : ∀ j, j < ys.length → w.cell? (bd.add j) = some (.int .i64 (ys.getD j 0)) := fun j hj => by
        obtain ⟨_, e, h⟩ := C_int_cell h2 hj
        cases e; exact h
      have s1 : ad.spot = none := cell_spot (a := ad) (by simpa [Addr.add] using k1 0 (by omega))
      have s2 : bd.spot = none := cell_spot (a := bd) (by simpa [Addr.add] using k2 0 (by omega))
      obtain ⟨b1, o1, t1⟩ := ad
      obtain ⟨b2, o2, t2⟩ := bd
      simp only at s1 s2
      subst s1 s2
      refine (Tryz.slices_Equal_int b1 o1 xs.length c b2 o2 ys.length d xs ys w (Nat.le_refl _) (Nat.le_refl _) h1.2.1 h2.2.1 (fun j hj => by rw [← add_flat]; exact k1 j hj) (fun j hj => by rw [← add_flat]; exact k2 j hj)).mono ?_
      rintro e w' ⟨rfl, q, rfl⟩
      refine ⟨?_, q, rfl⟩
      rw [List.take_length, List.take_length]
      congr 2
      by_cases he : xs = ys <;> simp [he]
  · refine (Tryz.slices_Equal_int_lens A B xs.length c ys.length d w hl).mono ?_
    rintro e w' ⟨rfl, rfl⟩
    refine ⟨?_, 0, rfl⟩
    have he : xs ≠ ys := fun e => hl (by rw [e])
    simp [he]
/-- The codes that turn into own. -/
def fromsAt (FL : List S44) (own : List Int) (i : Nat) : List Int := match FL[i]? with | some m => if m.f1 = own then [m.f0] else [] | none => []
def orbit0 (FL : List S44) (own : List Int) : List Int := if own.length = 1 ∧ hasF FL (own.getD 0 0) = false then [own.getD 0 0] else []
def orbitL (FL : List S44) (code : Int) : List Int :=
  sortI (orbit0 FL (fold1 FL code) ++ (List.range FL.length).flatMap (fromsAt FL (fold1 FL code)))
theorem fromsAt_le (FL : List S44) (own : List Int) (i : Nat) : (fromsAt FL own i).length ≤ 1 := by
  unfold fromsAt
  split
  · split <;> simp
  · simp
theorem froms_le (FL : List S44) (own : List Int) : ∀ done : List Nat, (done.flatMap (fromsAt FL own)).length ≤ done.length := by
  intro done
  induction done with
  | nil => simp
  | cons i t ih =>
    have := fromsAt_le FL own i
    simp only [List.flatMap_cons, List.length_append, List.length_cons]
    omega
theorem orbit0_le (FL : List S44) (own : List Int) : (orbit0 FL own).length ≤ 1 := by
  unfold orbit0
  split <;> simp
theorem orbit_done {FL : List S44} {code : Int} {done : List Nat} (h1 : done.Nodup) (h2 : ∀ i ∈ done, i < FL.length) (h3 : ∀ i, i < FL.length → i ∈ done) :
    sortI (orbit0 FL (fold1 FL code) ++ done.flatMap (fromsAt FL (fold1 FL code))) = orbitL FL code := by
  have hp : done.Perm (List.range FL.length) := (List.perm_ext_iff_of_nodup h1 List.nodup_range).2 (fun i => ⟨fun h => List.mem_range.2 (h2 i h), fun h => h3 i (List.mem_range.1 h)⟩)
  exact sortI_congr ((hp.flatMap_right _).append_left _)
end Go.Proofs.YtdgboklnhmfhoaaGreatDoor.G
namespace Go.Proofs.YtdgboklnhmfhoaaGreatDoor.G
open Go.RowKit Go.Proofs.YtdgboklnhmfhoaaGreatDoorW.PrintWords Go.Proofs.YtdgboklnhmfhoaaGreatDoorW.PrintLast Go.Proofs.YtdgboklnhmfhoaaGreatDoorW.PrintMore
open Go.Uc
set_option linter.unusedVariables false
theorem fromsAt_some {FL : List S44} {V : List Int} {i : Nat} {m : S44} (hm : FL[i]? = some m) : fromsAt FL V i = if m.f1 = V then [m.f0] else [] := by rw [fromsAt, hm]
theorem R_lower {b1 b2 : Nat} {w : World} {ok : Nat → Prop} {v : Value} {xs : List Int} (hb : b1 ≤ b2) (h : Kd.R (Kd.int .i64) 3 w b2 ok v xs) : Kd.R (Kd.int .i64) 3 w b1 ok v xs := by
  have ho := Kd.own_of_R h
  refine Kd.R_of_own ⟨ho.1, ?_⟩ h.1
  rcases ho.2 with h0 | ⟨g, cap, cur, e, hg, h1⟩
  · exact .inl h0
  · exact .inr ⟨g, cap, cur, e, Nat.le_trans hb hg, h1⟩
def casefold_Orbit.f (l0_0 : List (S44)) (l0_1 : List (S44)) (l0_2 : List (S44)) (l0_3 : List (S44)) (l0_4 : List (S87)) (l0_5 : List (S87)) (a1 : Int) : Option (List (Int)) :=
  if a1 < 0 ∨ 1114111 < a1 then some [] else
  if l0_4.length < 4398046511104 ∧ l0_5.length < 4398046511104 ∧ (foldList l0_0 l0_1 l0_2 l0_3 l0_4 l0_5).length < 4398046511104 then some (orbitL (foldList l0_0 l0_1 l0_2 l0_3 l0_4 l0_5) a1) else none
set_option maxRecDepth 100000 in
set_option maxHeartbeats 1000000 in
theorem casefold_Orbit.calls (A0_0 : Option Addr) (c0_0 : Nat) (l0_0 : List (S44)) (A0_1 : Option Addr) (c0_1 : Nat) (l0_1 : List (S44)) (A0_2 : Option Addr) (c0_2 : Nat) (l0_2 : List (S44)) (A0_3 : Option Addr) (c0_3 : Nat) (l0_3 : List (S44)) (A0_4 : Option Addr) (c0_4 : Nat) (l0_4 : List (S87)) (A0_5 : Option Addr) (c0_5 : Nat) (l0_5 : List (S87)) (a1 : Int) (r : List (Int)) (w : World) (hr0_0 : Kd.C k44 w A0_0 l0_0.length l0_0) (hc0_0 : l0_0.length ≤ c0_0) (hr0_1 : Kd.C k44 w A0_1 l0_1.length l0_1) (hc0_1 : l0_1.length ≤ c0_1) (hr0_2 : Kd.C k44 w A0_2 l0_2.length l0_2) (hc0_2 : l0_2.length ≤ c0_2) (hr0_3 : Kd.C k44 w A0_3 l0_3.length l0_3) (hc0_3 : l0_3.length ≤ c0_3) (hr0_4 : Kd.C k87 w A0_4 l0_4.length l0_4) (hc0_4 : l0_4.length ≤ c0_4) (hr0_5 : Kd.C k87 w A0_5 l0_5.length l0_5) (hc0_5 : l0_5.length ≤ c0_5) (h : casefold_Orbit.f l0_0 l0_1 l0_2 l0_3 l0_4 l0_5 a1 = some r) :
    Calls Tryz.prog 12 #[.agg #[.slice A0_0 l0_0.length c0_0, .slice A0_1 l0_1.length c0_1, .slice A0_2 l0_2.length c0_2, .slice A0_3 l0_3.length c0_3, .slice A0_4 l0_4.length c0_4, .slice A0_5 l0_5.length c0_5], .int .i64 a1] w fun e w' => ∃ v0_ : Value, e = .returned (v0_) ∧ Kd.R (Kd.int .i64) 3 w' w.heap.size (fun _ => True) v0_ r ∧ Below w.heap.size w w' := by
  unfold casefold_Orbit.f at h
  have hu28 := Tryz.underlying28
  have hu27 := Tryz.underlying27
  by_cases h0 : a1 < 0
  · rw [if_pos (.inl h0)] at h
    have HR : Hid (r = []) := Lib.hid (Option.some.inj h).symm
    clear h
    go_enter Tryz.func12, Tryz.ntmps12
    go_wp2_with fail
    go_ret
    refine ⟨_, rfl, ?_, below_alloc (Below.refl _ _) _⟩
    rw [HR.out]
    exact Kd.R_nil _ _ _ _ _
  · by_cases h1 : 1114111 < a1
    · rw [if_pos (.inr h1)] at h
      have HR : Hid (r = []) := Lib.hid (Option.some.inj h).symm
      clear h
      go_enter Tryz.func12, Tryz.ntmps12
      go_wp2_with fail
      go_ret
      refine ⟨_, rfl, ?_, below_alloc (Below.refl _ _) _⟩
      rw [HR.out]
      exact Kd.R_nil _ _ _ _ _
    · rw [if_neg (by omega)] at h
      split at h
      · next hb =>
        obtain ⟨h4, h5, hl3⟩ := hb
        obtain ⟨FL, hFL⟩ : ∃ FL, FL = foldList l0_0 l0_1 l0_2 l0_3 l0_4 l0_5 := ⟨_, rfl⟩
        rw [← hFL] at h hl3
        have HR : Hid (r = orbitL FL a1) := Lib.hid (Option.some.inj h).symm
        have HL := Lib.hid hl3
        have hck := fun W hw => foldings19 A0_0 c0_0 l0_0 A0_1 c0_1 l0_1 A0_2 c0_2 l0_2 A0_3 c0_3 l0_3 A0_4 c0_4 l0_4 A0_5 c0_5 l0_5 w W hr0_0 hc0_0 hr0_1 hc0_1 hr0_2 hc0_2 hr0_3 hc0_3 hr0_4 hc0_4 hr0_5 hc0_5 hw h4 h5
        rw [← hFL] at hck
        have Hck := Lib.hid hck
        clear hck h hFL h4 h5 hl3
        go_enter Tryz.func12, Tryz.ntmps12
        go_wp2_with fail
        refine (Hck.out _ (below_alloc (Below.refl _ _) _)).mono ?_
        rintro e w1 ⟨b, rfl, hbm, hF, hb1⟩
        have hB1 : Below w.heap.size w w1 := (below_alloc (Below.refl _ _) _).trans (hb1.mono (by simp))
        clear Hck hb1
        go_wp2_with fail
        refine (folding20 b FL a1 w w1 hF hB1).mono ?_
        rintro e w3 ⟨A, c, rfl, hcl, hV, hb3⟩
        have hB3 : Below w.heap.size w w3 := hB1.trans (hb3.mono hB1.size)
        obtain ⟨vs, hM, hvl, hvp⟩ := hF.below hb3
        have Hvl := Lib.hid hvl
        have Hvp := Lib.hid hvp
        obtain ⟨V, hVe⟩ : ∃ V, V = fold1 FL a1 := ⟨_, rfl⟩
        rw [← hVe] at hV hcl ⊢
        have HV := Lib.hid hVe
        have hmx := hV.2.1
        clear hF hb3 hvl hvp hB1 hVe
        by_cases hn : V.length = 1
        · obtain ⟨ad, rfl, hcell⟩ := C_int_cell hV (k := 0) (by omega)
          obtain ⟨y, hy⟩ : ∃ y, y = V.getD 0 0 := ⟨_, rfl⟩
          have Hy := Lib.hid hy
          rw [← hy] at hcell
          have hcell : w3.cell? ad = some (.int .i64 y) := by simpa [Addr.add] using hcell
          obtain ⟨h1, h2⟩ := get_folds Hvl.out Hvp.out y
          clear hy
          have Hn := Lib.hid hn
          have hnz : ((V.length : Nat) : Int) = 1 := by omega
          cases hb : hasF FL y
          · rw [hb] at h1
            have H1 := Lib.hid h1
            have H0 : Hid (Go.Uc.get y vs = none) := Lib.hid (by simpa using h1)
            have Ho : Hid (orbit0 FL V = [y]) := Lib.hid (by rw [orbit0, if_pos ⟨hn, by rw [← Hy.out]; exact hb⟩, ← Hy.out])
            clear hb h1 h2 hn
            go_wp2_with (first
                | (at_lookup; refine wpList_look2 rfl _ _ 45 rfl 3 28 key3 Tryz.underlying45 b vs rfl hM y rfl _ (zero28 _) _ (by rw [H0.out, Option.getD_none]) _ H1.out ?_)
                | ((with_reducible refine gate_builtin (b := .append) (xs := #[.tmp 36, .tmp 40]) rfl ?_); at_builtin; refine Kd.R_append_rows (Kd.int .i64) (w0 := w3) w3.heap.size rfl (.tmp 36) (.tmp 40) 28 3 (.int .i64 0) 8 rfl Tryz.underlying28 info3 rfl (by decide) (by omega) (.slice none 0 0) ([] : List Int) [y] _ _ _ (fun _ => True) (fun _ => False) rfl rfl (Kd.R_nil _ _ _ _ _) (C_int_one (blk_cell (heap_alloc_new _ _) 0)) (fun _ _ h => h) (fun _ h => h.elim) (fun _ _ => trivial) (below_alloc (Below.refl _ _) _) (below_alloc (Below.refl _ _) _).size (by decide) ?_; intro v1 w4 hR4 hb4 hg4 hat4)
                | (at_range; refine wpList_range_at rfl _ 45 rfl 3 28 Tryz.underlying45 b vs rfl (hM.below hb4) ?_; intro hI))
            have hR4 : Kd.R (Kd.int .i64) 3 w4 w3.heap.size (fun _ => True) v1 (orbit0 FL V) := by rw [Ho.out]; exact hR4
            obtain ⟨UA, Uc, rfl⟩ := Kd.R_slice hR4
            clear hg4 hat4 H0 H1 Ho hcell Hy Hn hnz hcl
            have hsz4 := hb4.size
            have hb1 := below_alloc hb4 (.mapIter (some b) vs.length #[] vs.length)
            have hR1 := Kd.R_alloc (Kd.R_bound hR4) (.mapIter (some b) vs.length #[] vs.length)
            obtain ⟨rr, hrr⟩ : ∃ rr, rr = w4.heap.size := ⟨_, rfl⟩
            have hR1 := Kd.R_mono (ok' := fun k => k ≠ rr) hR1 (fun k hk => by have := hk.2.2.1; omega)
            rw [← hrr] at hI hsz4 ⊢
            generalize hw2 : w4.alloc (.mapIter (some b) vs.length #[] vs.length) = w2 at hI hb1 hR1 ⊢
            clear hw2 hrr hR4 hb4
            go_frame
            go_loopw [7] (fun u wr => ∃ done : List Nat, Go.Uc.IterAt wr rr b vs.length done ∧ Below w3.heap.size w3 wr ∧ Kd.R (Kd.int .i64) 3 wr w3.heap.size (fun k => k ≠ rr) u (orbit0 FL V ++ done.flatMap (fromsAt FL V))) (fun _ wr => vs.length - iterDone wr rr)
            case atStart => exact ⟨[], hI, hb1, by simpa using hR1⟩
            case round =>
              clear hI hb1 hR1
              obtain ⟨done, hI, hb, hR⟩ := hrel
              obtain ⟨OA, Oc, rfl⟩ := Kd.R_slice hR
              obtain ⟨O, hO⟩ : ∃ O, O = orbit0 FL V ++ done.flatMap (fromsAt FL V) := ⟨_, rfl⟩
              rw [← hO] at hR ⊢
              have HO := Lib.hid hO
              have hOl : O.length < 4398046511106 := by
                have h1 := orbit0_le FL V
                have h2 := froms_le FL V done
                have h3 := iter_le hI
                have h4 := Hvl.out
                have h5 := HL.out
                rw [hO, List.length_append]
                omega
              have HOl := Lib.hid hOl
              have HI := Lib.hid hI
              have hMr := hM.below hb
              clear hO hOl
              go_wp2_with (first
                | (at_next; refine wpList_next_at rfl _ rfl b rr vs done rfl hMr hI ?_ ?_))
              · intro hall
                have Hall := Lib.hid hall
                clear hall
                go_wp2_with fail
                refine (sort25 hR (by have := HOl.out; omega)).mono ?_
                rintro e w6 ⟨rfl, hR6, hg6⟩
                go_wp2_with fail
                go_ret
                refine ⟨_, rfl, ?_, hB3.trans ((hb.grown hg6 hb.size (Kd.R_base hR)).mono hB3.size)⟩
                have he : sortI O = r := by
                  obtain ⟨_, _, _, hnd, hlt⟩ := HI.out
                  rw [HR.out, HO.out, HV.out]
                  exact orbit_done hnd (fun i hi => by have := hlt i hi; rw [Hvl.out] at this; exact this) (fun i hi => Hall.out i (by rw [Hvl.out]; exact hi))
                rw [← he]
                exact R_lower hB3.size (Kd.R_mono hR6 (fun _ _ => trivial))
              · intro i pk pv w5 hp hnew hI5 hg5 hs5 hent
                have hil := (List.getElem?_eq_some_iff.1 hp).1
                obtain ⟨m, hm⟩ : ∃ m, FL[i]? = some m := ⟨_, List.getElem?_eq_getElem (by rw [← Hvl.out]; exact hil)⟩
                obtain ⟨hk0, A3, c3, hpe, hcl, hC⟩ := Hvp.out i (pk, pv) m hp hm
                simp only at hk0 hpe
                subst hk0 hpe
                have hb5 := hb.grown hg5 hb.size (fun j hj => by cases hj; exact hsz4)
                have hR5 := Kd.R_grown hR hg5 (fun k hk e => hk (Option.some.inj e))
                have hC5 := Kd.C_below hC (hB3.trans (hb5.mono hB3.size))
                have Hm := Lib.hid hm
                clear hp hm hnew hg5 hC hMr hI hb hR hil
                go_wp2_with fail
                refine (equal24 _ _ _ _ _ _ _ hC5 (Kd.C_below hV hb5)).mono ?_
                rintro e w6 ⟨rfl, q, rfl⟩
                have hbq : Below w5.heap.size w5 (w5.drewN q) := pw_below_drewN (Below.refl _ _) q
                have hI6 := hI5.same (hbq.block rr hI5.lt)
                have hb6 : Below w3.heap.size w3 (w5.drewN q) := pw_below_drewN hb5 q
                have hR6 := Kd.R_below hR5 hbq
                clear hI5 hb5 hR5 hC5 hbq
                generalize w5.drewN q = w7 at hI6 hb6 hR6 ⊢
                have hmeas : ∀ w9 : World, Go.Uc.IterAt w9 rr b vs.length (done ++ [i]) → vs.length - iterDone w9 rr < vs.length - iterDone wr rr := fun w9 h9 => by
                  have h1 := iterDone_at HI.out
                  have h2 := iterDone_at h9
                  have h3 := iter_le h9
                  rw [h1, h2]
                  simp at h3 ⊢
                  omega
                by_cases he : m.f1 = V
                · have Hf : Hid (O ++ [m.f0] = orbit0 FL V ++ (done ++ [i]).flatMap (fromsAt FL V)) := Lib.hid (by rw [HO.out, List.flatMap_append, ← List.append_assoc]; simp [fromsAt_some Hm.out, he])
                  have Hd : decide (m.f1 = V) = true := by simp [he]
                  rw [Hd]
                  clear he Hd
                  have hfr : ∀ k, (w7.alloc (.cells #[.int .i64 m.f0] 3)).heap.size ≤ k → k ≠ rr := fun k hk => by
                    have h1 := hI6.lt
                    have h2 : (w7.alloc (.cells #[.int .i64 m.f0] 3)).heap.size = w7.heap.size + 1 := by simp
                    omega
                  go_wp2_with (first
                    | ((with_reducible refine gate_builtin (b := .append) (xs := #[.tmp 52, .tmp 54]) rfl ?_); at_builtin; refine Kd.R_append_rows (Kd.int .i64) (w0 := w3) w3.heap.size rfl (.tmp 52) (.tmp 54) 28 3 (.int .i64 0) 8 rfl Tryz.underlying28 info3 rfl (by decide) (by omega) (.slice OA O.length Oc) O [m.f0] _ _ _ (fun k => k ≠ rr) (fun _ => False) rfl rfl (Kd.R_alloc hR6 _) (C_int_one (blk_cell (heap_alloc_new _ _) 0)) (fun _ _ h => h) (fun _ h => h.elim) hfr (below_alloc hb6 _) (below_alloc hb6 _).size (by have := HOl.out; simp; omega) ?_; intro v1 w8 hR8 hb8 hg8 hat8))
                  have hok := hR6.1
                  have hI8 := hI6.same ((hg8.block rr (by have := hI6.lt; simp; omega) (fun e => hok rr e.symm rfl)).trans (Below.heap_alloc _ _ _ hI6.lt))
                  go_roundw
                  case rel => exact ⟨done ++ [i], hI8, hb8, by rw [← Hf.out]; exact hR8⟩
                  case measure => exact hmeas _ hI8
                · have Hf : Hid (O = orbit0 FL V ++ (done ++ [i]).flatMap (fromsAt FL V)) := Lib.hid (by rw [HO.out, List.flatMap_append, ← List.append_assoc]; simp [fromsAt_some Hm.out, he])
                  have Hd : decide (m.f1 = V) = false := by simp [he]
                  rw [Hd]
                  clear he Hd
                  go_wp2_with fail
                  go_roundw
                  case rel => exact ⟨done ++ [i], hI6, hb6, by rw [← Hf.out]; exact hR6⟩
                  case measure => exact hmeas _ hI6
          · rw [hb] at h1
            obtain ⟨A2, c2, h3, h4, h5⟩ := h2 hb
            have H1 := Lib.hid h1
            have H3 := Lib.hid h3
            have Ho : Hid (orbit0 FL V = []) := Lib.hid (by rw [orbit0, if_neg (by rw [← Hy.out, hb]; simp)])
            clear hb h1 h2 h3 h4 h5 hn
            go_wp2_with (first
                | (at_lookup; refine wpList_look2 rfl _ _ 45 rfl 3 28 key3 Tryz.underlying45 b vs rfl hM y rfl _ (zero28 _) _ (by rw [H3.out, Option.getD_some]) _ H1.out ?_)
                | (at_range; refine wpList_range_at rfl _ 45 rfl 3 28 Tryz.underlying45 b vs rfl (hM) ?_; intro hI))
            obtain ⟨w4, hw4⟩ : ∃ w4 : World, w4 = w3 := ⟨_, rfl⟩
            have hb4 : Below w3.heap.size w3 w4 := by rw [hw4]; exact Below.refl _ _
            rw [← hw4] at hI ⊢
            clear hw4
            have hR4 : Kd.R (Kd.int .i64) 3 w4 w3.heap.size (fun _ => True) (.slice none 0 0) (orbit0 FL V) := by rw [Ho.out]; exact Kd.R_nil _ _ _ _ _
            clear H3 H1 Ho hcell Hy Hn hnz hcl
            have hsz4 := hb4.size
            have hb1 := below_alloc hb4 (.mapIter (some b) vs.length #[] vs.length)
            have hR1 := Kd.R_alloc (Kd.R_bound hR4) (.mapIter (some b) vs.length #[] vs.length)
            obtain ⟨rr, hrr⟩ : ∃ rr, rr = w4.heap.size := ⟨_, rfl⟩
            have hR1 := Kd.R_mono (ok' := fun k => k ≠ rr) hR1 (fun k hk => by have := hk.2.2.1; omega)
            rw [← hrr] at hI hsz4 ⊢
            generalize hw2 : w4.alloc (.mapIter (some b) vs.length #[] vs.length) = w2 at hI hb1 hR1 ⊢
            clear hw2 hrr hR4 hb4
            go_frame
            go_loopw [7] (fun u wr => ∃ done : List Nat, Go.Uc.IterAt wr rr b vs.length done ∧ Below w3.heap.size w3 wr ∧ Kd.R (Kd.int .i64) 3 wr w3.heap.size (fun k => k ≠ rr) u (orbit0 FL V ++ done.flatMap (fromsAt FL V))) (fun _ wr => vs.length - iterDone wr rr)
            case atStart => exact ⟨[], hI, hb1, by simpa using hR1⟩
            case round =>
              clear hI hb1 hR1
              obtain ⟨done, hI, hb, hR⟩ := hrel
              obtain ⟨OA, Oc, rfl⟩ := Kd.R_slice hR
              obtain ⟨O, hO⟩ : ∃ O, O = orbit0 FL V ++ done.flatMap (fromsAt FL V) := ⟨_, rfl⟩
              rw [← hO] at hR ⊢
              have HO := Lib.hid hO
              have hOl : O.length < 4398046511106 := by
                have h1 := orbit0_le FL V
                have h2 := froms_le FL V done
                have h3 := iter_le hI
                have h4 := Hvl.out
                have h5 := HL.out
                rw [hO, List.length_append]
                omega
              have HOl := Lib.hid hOl
              have HI := Lib.hid hI
              have hMr := hM.below hb
              clear hO hOl
              go_wp2_with (first
                | (at_next; refine wpList_next_at rfl _ rfl b rr vs done rfl hMr hI ?_ ?_))
              · intro hall
                have Hall := Lib.hid hall
                clear hall
                go_wp2_with fail
                refine (sort25 hR (by have := HOl.out; omega)).mono ?_
                rintro e w6 ⟨rfl, hR6, hg6⟩
                go_wp2_with fail
                go_ret
                refine ⟨_, rfl, ?_, hB3.trans ((hb.grown hg6 hb.size (Kd.R_base hR)).mono hB3.size)⟩
                have he : sortI O = r := by
                  obtain ⟨_, _, _, hnd, hlt⟩ := HI.out
                  rw [HR.out, HO.out, HV.out]
                  exact orbit_done hnd (fun i hi => by have := hlt i hi; rw [Hvl.out] at this; exact this) (fun i hi => Hall.out i (by rw [Hvl.out]; exact hi))
                rw [← he]
                exact R_lower hB3.size (Kd.R_mono hR6 (fun _ _ => trivial))
              · intro i pk pv w5 hp hnew hI5 hg5 hs5 hent
                have hil := (List.getElem?_eq_some_iff.1 hp).1
                obtain ⟨m, hm⟩ : ∃ m, FL[i]? = some m := ⟨_, List.getElem?_eq_getElem (by rw [← Hvl.out]; exact hil)⟩
                obtain ⟨hk0, A3, c3, hpe, hcl, hC⟩ := Hvp.out i (pk, pv) m hp hm
                simp only at hk0 hpe
                subst hk0 hpe
                have hb5 := hb.grown hg5 hb.size (fun j hj => by cases hj; exact hsz4)
                have hR5 := Kd.R_grown hR hg5 (fun k hk e => hk (Option.some.inj e))
                have hC5 := Kd.C_below hC (hB3.trans (hb5.mono hB3.size))
                have Hm := Lib.hid hm
                clear hp hm hnew hg5 hC hMr hI hb hR hil
                go_wp2_with fail
                refine (equal24 _ _ _ _ _ _ _ hC5 (Kd.C_below hV hb5)).mono ?_
                rintro e w6 ⟨rfl, q, rfl⟩
                have hbq : Below w5.heap.size w5 (w5.drewN q) := pw_below_drewN (Below.refl _ _) q
                have hI6 := hI5.same (hbq.block rr hI5.lt)
                have hb6 : Below w3.heap.size w3 (w5.drewN q) := pw_below_drewN hb5 q
                have hR6 := Kd.R_below hR5 hbq
                clear hI5 hb5 hR5 hC5 hbq
                generalize w5.drewN q = w7 at hI6 hb6 hR6 ⊢
                have hmeas : ∀ w9 : World, Go.Uc.IterAt w9 rr b vs.length (done ++ [i]) → vs.length - iterDone w9 rr < vs.length - iterDone wr rr := fun w9 h9 => by
                  have h1 := iterDone_at HI.out
                  have h2 := iterDone_at h9
                  have h3 := iter_le h9
                  rw [h1, h2]
                  simp at h3 ⊢
                  omega
                by_cases he : m.f1 = V
                · have Hf : Hid (O ++ [m.f0] = orbit0 FL V ++ (done ++ [i]).flatMap (fromsAt FL V)) := Lib.hid (by rw [HO.out, List.flatMap_append, ← List.append_assoc]; simp [fromsAt_some Hm.out, he])
                  have Hd : decide (m.f1 = V) = true := by simp [he]
                  rw [Hd]
                  clear he Hd
                  have hfr : ∀ k, (w7.alloc (.cells #[.int .i64 m.f0] 3)).heap.size ≤ k → k ≠ rr := fun k hk => by
                    have h1 := hI6.lt
                    have h2 : (w7.alloc (.cells #[.int .i64 m.f0] 3)).heap.size = w7.heap.size + 1 := by simp
                    omega
                  go_wp2_with (first
                    | ((with_reducible refine gate_builtin (b := .append) (xs := #[.tmp 52, .tmp 54]) rfl ?_); at_builtin; refine Kd.R_append_rows (Kd.int .i64) (w0 := w3) w3.heap.size rfl (.tmp 52) (.tmp 54) 28 3 (.int .i64 0) 8 rfl Tryz.underlying28 info3 rfl (by decide) (by omega) (.slice OA O.length Oc) O [m.f0] _ _ _ (fun k => k ≠ rr) (fun _ => False) rfl rfl (Kd.R_alloc hR6 _) (C_int_one (blk_cell (heap_alloc_new _ _) 0)) (fun _ _ h => h) (fun _ h => h.elim) hfr (below_alloc hb6 _) (below_alloc hb6 _).size (by have := HOl.out; simp; omega) ?_; intro v1 w8 hR8 hb8 hg8 hat8))
                  have hok := hR6.1
                  have hI8 := hI6.same ((hg8.block rr (by have := hI6.lt; simp; omega) (fun e => hok rr e.symm rfl)).trans (Below.heap_alloc _ _ _ hI6.lt))
                  go_roundw
                  case rel => exact ⟨done ++ [i], hI8, hb8, by rw [← Hf.out]; exact hR8⟩
                  case measure => exact hmeas _ hI8
                · have Hf : Hid (O = orbit0 FL V ++ (done ++ [i]).flatMap (fromsAt FL V)) := Lib.hid (by rw [HO.out, List.flatMap_append, ← List.append_assoc]; simp [fromsAt_some Hm.out, he])
                  have Hd : decide (m.f1 = V) = false := by simp [he]
                  rw [Hd]
                  clear he Hd
                  go_wp2_with fail
                  go_roundw
                  case rel => exact ⟨done ++ [i], hI6, hb6, by rw [← Hf.out]; exact hR6⟩
                  case measure => exact hmeas _ hI6
        · have Ho : Hid (orbit0 FL V = []) := Lib.hid (by rw [orbit0, if_neg (by simp [hn])])
          have hnz : ¬ ((V.length : Nat) : Int) = 1 := by omega
          clear hn
          go_wp2_with (first | (at_range; refine wpList_range_at rfl _ 45 rfl 3 28 Tryz.underlying45 b vs rfl (hM) ?_; intro hI))
          obtain ⟨w4, hw4⟩ : ∃ w4 : World, w4 = w3 := ⟨_, rfl⟩
          have hb4 : Below w3.heap.size w3 w4 := by rw [hw4]; exact Below.refl _ _
          rw [← hw4] at hI ⊢
          clear hw4
          have hR4 : Kd.R (Kd.int .i64) 3 w4 w3.heap.size (fun _ => True) (.slice none 0 0) (orbit0 FL V) := by rw [Ho.out]; exact Kd.R_nil _ _ _ _ _
          have hnz2 : (((V.length : Nat) : Int) == 1) = false := by simpa using hnz
          rw [hnz2]
          clear Ho hnz hnz2 hcl
          have hsz4 := hb4.size
          have hb1 := below_alloc hb4 (.mapIter (some b) vs.length #[] vs.length)
          have hR1 := Kd.R_alloc (Kd.R_bound hR4) (.mapIter (some b) vs.length #[] vs.length)
          obtain ⟨rr, hrr⟩ : ∃ rr, rr = w4.heap.size := ⟨_, rfl⟩
          have hR1 := Kd.R_mono (ok' := fun k => k ≠ rr) hR1 (fun k hk => by have := hk.2.2.1; omega)
          rw [← hrr] at hI hsz4 ⊢
          generalize hw2 : w4.alloc (.mapIter (some b) vs.length #[] vs.length) = w2 at hI hb1 hR1 ⊢
          clear hw2 hrr hR4 hb4
          go_frame
          go_loopw [7] (fun u wr => ∃ done : List Nat, Go.Uc.IterAt wr rr b vs.length done ∧ Below w3.heap.size w3 wr ∧ Kd.R (Kd.int .i64) 3 wr w3.heap.size (fun k => k ≠ rr) u (orbit0 FL V ++ done.flatMap (fromsAt FL V))) (fun _ wr => vs.length - iterDone wr rr)
          case atStart => exact ⟨[], hI, hb1, by simpa using hR1⟩
          case round =>
            clear hI hb1 hR1
            obtain ⟨done, hI, hb, hR⟩ := hrel
            obtain ⟨OA, Oc, rfl⟩ := Kd.R_slice hR
            obtain ⟨O, hO⟩ : ∃ O, O = orbit0 FL V ++ done.flatMap (fromsAt FL V) := ⟨_, rfl⟩
            rw [← hO] at hR ⊢
            have HO := Lib.hid hO
            have hOl : O.length < 4398046511106 := by
              have h1 := orbit0_le FL V
              have h2 := froms_le FL V done
              have h3 := iter_le hI
              have h4 := Hvl.out
              have h5 := HL.out
              rw [hO, List.length_append]
              omega
            have HOl := Lib.hid hOl
            have HI := Lib.hid hI
            have hMr := hM.below hb
            clear hO hOl
            go_wp2_with (first
              | (at_next; refine wpList_next_at rfl _ rfl b rr vs done rfl hMr hI ?_ ?_))
            · intro hall
              have Hall := Lib.hid hall
              clear hall
              go_wp2_with fail
              refine (sort25 hR (by have := HOl.out; omega)).mono ?_
              rintro e w6 ⟨rfl, hR6, hg6⟩
              go_wp2_with fail
              go_ret
              refine ⟨_, rfl, ?_, hB3.trans ((hb.grown hg6 hb.size (Kd.R_base hR)).mono hB3.size)⟩
              have he : sortI O = r := by
                obtain ⟨_, _, _, hnd, hlt⟩ := HI.out
                rw [HR.out, HO.out, HV.out]
                exact orbit_done hnd (fun i hi => by have := hlt i hi; rw [Hvl.out] at this; exact this) (fun i hi => Hall.out i (by rw [Hvl.out]; exact hi))
              rw [← he]
              exact R_lower hB3.size (Kd.R_mono hR6 (fun _ _ => trivial))
            · intro i pk pv w5 hp hnew hI5 hg5 hs5 hent
              have hil := (List.getElem?_eq_some_iff.1 hp).1
              obtain ⟨m, hm⟩ : ∃ m, FL[i]? = some m := ⟨_, List.getElem?_eq_getElem (by rw [← Hvl.out]; exact hil)⟩
              obtain ⟨hk0, A3, c3, hpe, hcl, hC⟩ := Hvp.out i (pk, pv) m hp hm
              simp only at hk0 hpe
              subst hk0 hpe
              have hb5 := hb.grown hg5 hb.size (fun j hj => by cases hj; exact hsz4)
              have hR5 := Kd.R_grown hR hg5 (fun k hk e => hk (Option.some.inj e))
              have hC5 := Kd.C_below hC (hB3.trans (hb5.mono hB3.size))
              have Hm := Lib.hid hm
              clear hp hm hnew hg5 hC hMr hI hb hR hil
              go_wp2_with fail
              refine (equal24 _ _ _ _ _ _ _ hC5 (Kd.C_below hV hb5)).mono ?_
              rintro e w6 ⟨rfl, q, rfl⟩
              have hbq : Below w5.heap.size w5 (w5.drewN q) := pw_below_drewN (Below.refl _ _) q
              have hI6 := hI5.same (hbq.block rr hI5.lt)
              have hb6 : Below w3.heap.size w3 (w5.drewN q) := pw_below_drewN hb5 q
              have hR6 := Kd.R_below hR5 hbq
              clear hI5 hb5 hR5 hC5 hbq
              generalize w5.drewN q = w7 at hI6 hb6 hR6 ⊢
              have hmeas : ∀ w9 : World, Go.Uc.IterAt w9 rr b vs.length (done ++ [i]) → vs.length - iterDone w9 rr < vs.length - iterDone wr rr := fun w9 h9 => by
                have h1 := iterDone_at HI.out
                have h2 := iterDone_at h9
                have h3 := iter_le h9
                rw [h1, h2]
                simp at h3 ⊢
                omega
              by_cases he : m.f1 = V
              · have Hf : Hid (O ++ [m.f0] = orbit0 FL V ++ (done ++ [i]).flatMap (fromsAt FL V)) := Lib.hid (by rw [HO.out, List.flatMap_append, ← List.append_assoc]; simp [fromsAt_some Hm.out, he])
                have Hd : decide (m.f1 = V) = true := by simp [he]
                rw [Hd]
                clear he Hd
                have hfr : ∀ k, (w7.alloc (.cells #[.int .i64 m.f0] 3)).heap.size ≤ k → k ≠ rr := fun k hk => by
                  have h1 := hI6.lt
                  have h2 : (w7.alloc (.cells #[.int .i64 m.f0] 3)).heap.size = w7.heap.size + 1 := by simp
                  omega
                go_wp2_with (first
                  | ((with_reducible refine gate_builtin (b := .append) (xs := #[.tmp 52, .tmp 54]) rfl ?_); at_builtin; refine Kd.R_append_rows (Kd.int .i64) (w0 := w3) w3.heap.size rfl (.tmp 52) (.tmp 54) 28 3 (.int .i64 0) 8 rfl Tryz.underlying28 info3 rfl (by decide) (by omega) (.slice OA O.length Oc) O [m.f0] _ _ _ (fun k => k ≠ rr) (fun _ => False) rfl rfl (Kd.R_alloc hR6 _) (C_int_one (blk_cell (heap_alloc_new _ _) 0)) (fun _ _ h => h) (fun _ h => h.elim) hfr (below_alloc hb6 _) (below_alloc hb6 _).size (by have := HOl.out; simp; omega) ?_; intro v1 w8 hR8 hb8 hg8 hat8))
                have hok := hR6.1
                have hI8 := hI6.same ((hg8.block rr (by have := hI6.lt; simp; omega) (fun e => hok rr e.symm rfl)).trans (Below.heap_alloc _ _ _ hI6.lt))
                go_roundw
                case rel => exact ⟨done ++ [i], hI8, hb8, by rw [← Hf.out]; exact hR8⟩
                case measure => exact hmeas _ hI8
              · have Hf : Hid (O = orbit0 FL V ++ (done ++ [i]).flatMap (fromsAt FL V)) := Lib.hid (by rw [HO.out, List.flatMap_append, ← List.append_assoc]; simp [fromsAt_some Hm.out, he])
                have Hd : decide (m.f1 = V) = false := by simp [he]
                rw [Hd]
                clear he Hd
                go_wp2_with fail
                go_roundw
                case rel => exact ⟨done ++ [i], hI6, hb6, by rw [← Hf.out]; exact hR6⟩
                case measure => exact hmeas _ hI6
      · cases h
end Go.Proofs.YtdgboklnhmfhoaaGreatDoor.G
