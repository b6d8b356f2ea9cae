/- decompose.Text at no data, of a low text: the same text. -/
import Derived.Test.YtjfcmiocmcdjlaaGreatDoorANo10
namespace Go.Proofs.YtjfcmiocmcdjlaaGreatDoor.G
open Go.RowKit Go.Proofs.YtjfcmiocmcdjlaaGreatDoorW.PrintWords Go.Proofs.YtjfcmiocmcdjlaaGreatDoorW.PrintLast Go.Proofs.YtjfcmiocmcdjlaaGreatDoorW.PrintMore
open Go.Uc
set_option linter.unusedVariables false
theorem setCell_same {w : World} {b k : Nat} {cs : Array Value} {t : TypeId} {fr : Nat × Nat} {v : Value} (h : w.heap[b]? = some (.cells cs t fr)) (hv : cs[k]? = some v) : w.setCell ⟨b, k, none⟩ v = w := by
  have hk := (Array.getElem?_eq_some_iff.1 hv)
  have hcs : cs.setIfInBounds k v = cs := by
    apply Array.ext_getElem?
    intro i
    rw [Array.getElem?_setIfInBounds]
    split
    · next e => subst e; split
                · exact hv.symm
                · next h2 => exact absurd hk.1 h2
    · rfl
  have hh : w.heap.modify b (fun | .cells c elem frozen => .cells (if ((⟨b, k, none⟩ : Addr)).spot.isSome then c else c.setIfInBounds k v) elem frozen | o => o) = w.heap := by
    apply Array.ext_getElem?
    intro i
    rw [Array.getElem?_modify]
    split
    · next e =>
      subst e
      rw [h]
      simp [hcs]
    · rfl
  exact congrArg (fun h => ({ w with heap := h } : World)) hh
theorem NoB.set0 {w : World} {b : Nat} (h : NoB w b) : w.setCell ⟨b, 0, none⟩ (.slice none 0 0) = w := setCell_same h.is rfl
theorem NoB.set1 {w : World} {b : Nat} (h : NoB w b) : w.setCell ⟨b, 1, none⟩ (.slice none 0 0) = w := setCell_same h.is rfl
theorem NoB.set2 {w : World} {b : Nat} (h : NoB w b) : w.setCell ⟨b, 2, none⟩ (.slice none 0 0) = w := setCell_same h.is rfl
theorem NoB.frozen {w : World} {b : Nat} (h : NoB w b) (k : Nat) : w.frozen? ⟨b, k, none⟩ = false := by simp [World.frozen?, h.is]
theorem NoB.grown {w w' : World} {b : Nat} (h : NoB w b) {base : Nat} {v : Value} {n : Nat} {ys : List Value} (ho : w.ownsRow base 3 1 v n ys) (hg : w.grownBy w' v.ownBlock) : NoB w' b :=
  ⟨(hg.block _ h.lt (own3_not ho h.is (fun cur e => by cases e))).trans h.is⟩
theorem NoD.grown {w w' : World} {b : Nat} {q : Bool} {fnd : List (Int × Value)} (h : NoD w b q fnd) {base : Nat} {v : Value} {n : Nat} {ys : List Value} (ho : w.ownsRow base 3 1 v n ys) (hg : w.grownBy w' v.ownBlock) : NoD w' b q fnd := by
  obtain ⟨m0, m1, h1, h2, h3⟩ := h.is
  exact ⟨m0, m1, (hg.block _ (Array.getElem?_eq_some_iff.1 h1).1 (own3_not ho h1 (fun cur e => by cases e))).trans h1, h2.grown hg (own3_not ho h2.1 (fun cur e => by cases e)), h3.grown hg (own3_not ho h3.1 (fun cur e => by cases e))⟩
theorem take_snoc (l : List Int) {k : Nat} (hk : k < l.length) : l.take (k + 1) = l.take k ++ [l.getD k 0] := by
  rw [List.take_succ_eq_append_getElem hk, List.getD_eq_getElem?_getD, List.getElem?_eq_getElem hk]; rfl
set_option maxRecDepth 100000 in
set_option maxHeartbeats 4000000 in
theorem text61 (q : Bool) (A : Option Addr) (c : Nat) (text : List Int) (w : World) (hC : Kd.C (Kd.int .i64) w A text.length text) (hc : text.length ≤ c) (hl : text.length ≤ 1000000000) (hlow : ∀ x ∈ text, x < 4352) :
    Calls Tryz.prog 61 #[noN, .slice A text.length c, .bool q] w fun e w' => ∃ v, e = .returned v ∧ Kd.R (Kd.int .i64) 3 w' w.heap.size (fun _ => True) v text ∧ Below w.heap.size w w' := by
  have hu45 := Tryz.underlying45
  have hu27 := Tryz.underlying27
  have N0 := Lib.hid (NoB.new w)
  have HB0 := Lib.hid (NoB.new_below w)
  have Hlow : ∀ k, k < text.length → text.getD k 0 < 4352 := fun k hk => hlow _ (by rw [List.getD_eq_getElem?_getD, List.getElem?_eq_getElem hk]; exact List.getElem_mem hk)
  have Hlow := Lib.hid Hlow
  have Hl := Lib.hid hl
  have hmax := hC.2.1
  clear hlow hl
  unfold noN
  go_enter Tryz.func61, Tryz.ntmps61
  go_wp2_with (first
    | (go_at_call 68; refine (valid68 _).mono ?_; rintro e w1 ⟨rfl, hB⟩
       unfold noN
       have N1 := N0.out.below hB
       have HB1 := Lib.hid (HB0.out.trans (hB.mono HB0.out.size))
       have x0 := N1.c0; have x1 := N1.c1; have x2 := N1.c2
       have z0 := N1.set0; have z1 := N1.set1; have z2 := N1.set2
       have f0 := N1.frozen
       clear N0 HB0 hB)
    | (go_at_call 69; refine (load69 q _).mono ?_; rintro e w2 ⟨b, rfl, _, D, hB⟩
       have N2 := N1.below hB
       have hB2 := HB1.out.trans (hB.mono HB1.out.size)
       clear N1 HB1 hB x0 x1 x2 z0 z1 z2 f0))
  go_loopw [8, 19] (fun o i wr => ∃ k : Nat, k ≤ text.length ∧ i = .int .i64 k ∧ Kd.R (Kd.int .i64) 3 wr w.heap.size (fun _ => True) o (text.take k) ∧ NoD wr b q [] ∧ NoB wr w.heap.size ∧ Below w.heap.size w wr) (fun _ i _ => text.length - (intOf i).toNat)
  case atStart => exact ⟨0, Nat.zero_le _, rfl, Kd.R_nil _ _ _ _ _, D, N2, hB2⟩
  case round =>
    clear D N2 hB2
    obtain ⟨k, hk, rfl, hR, D, N2, hB⟩ := hrel
    have hsz := hB.size
    by_cases hlt : k < text.length
    · obtain ⟨ad, rfl, hcell⟩ := C_int_cell (Kd.C_below hC hB) hlt
      have Hsn := Lib.hid (take_snoc text hlt)
      have hx := Hlow.out k hlt
      obtain ⟨x, hxx⟩ : ∃ x, x = text.getD k 0 := ⟨_, rfl⟩
      rw [← hxx] at hcell Hsn hx
      have hOl : (text.take k).length = k := by rw [List.length_take]; omega
      obtain ⟨O, hO⟩ : ∃ O, O = text.take k := ⟨_, rfl⟩
      rw [← hO] at hR Hsn hOl
      clear hxx hO
      obtain ⟨OA, Oc, rfl⟩ := Kd.R_slice hR
      have hOb : O.length + [x].length ≤ 1000000000 := by have := Hl.out; simp; omega
      have HOb := Lib.hid hOb
      have HOl := Lib.hid hOl
      clear hOb hOl
      have hfu := fun W h => full70 b q [] x hx W h
      have Hfu := Lib.hid hfu
      clear hfu hx
      go_wp2_with (first
        | (go_at_call 70; refine (Hfu.out _ D).mono ?_; rintro e w3 ⟨g, rfl, hCg, hb3⟩
           have hB3 := hB.trans (hb3.mono hsz)
           have hR3 := Kd.R_below hR hb3
           have D3 := D.below hb3
           have N3 := N2.below hb3
           clear hR D N2 hb3 Hfu)
        | ((with_reducible refine gate_builtin (b := .append) (xs := #[.tmp 23, .tmp 26]) rfl ?_); at_builtin; refine Kd.R_append_rows (Kd.int .i64) (w0 := w) w.heap.size rfl (.tmp 23) (.tmp 26) 27 3 (.int .i64 0) 8 rfl Tryz.underlying27 info3 rfl (by decide) (by omega) (.slice OA O.length Oc) O [x] _ _ _ (fun _ => True) (fun _ => False) rfl rfl hR3 hCg (fun _ _ h => h) (fun _ h => h.elim) (fun _ _ => trivial) hB3 hB3.size (by have := HOb.out; omega) ?_; intro v1 w4 hR4 hB4 hg4 hat4))
      have D4 := D3.grown (Kd.own_of_R hR3) hg4
      have N4 := N3.grown (Kd.own_of_R hR3) hg4
      go_roundw
      case rel => exact ⟨k + 1, hlt, by go_num, by rw [Hsn.out]; exact hR4, D4, N4, hB4⟩
      case measure => simp [intOf]; omega
    · have hkl : k = text.length := by omega
      subst hkl
      rw [List.take_length] at hR
      obtain ⟨OA, Oc, rfl⟩ := Kd.R_slice hR
      obtain ⟨_, hOc, hCO⟩ := Kd.R_reads' hR
      have y0 := N2.c0
      have hso := sort71 OA Oc text wr hCO hOc (by have := Hl.out; omega)
      have Hso := Lib.hid hso
      clear hso
      go_wp2_with (first
        | (go_at_call 71; refine Hso.out.mono ?_; rintro e w3 ⟨v, rfl, hR3, hb3⟩
           obtain ⟨VA, Vc, rfl⟩ := Kd.R_slice hR3))
      go_ret
      exact ⟨_, rfl, R_lower hsz hR3, hB.trans (hb3.mono hsz)⟩
end Go.Proofs.YtjfcmiocmcdjlaaGreatDoor.G
