/- The specification's Cuts walked: the cuts of a set's ranges. -/
import Derived.Test.YtdgboklnhmfhoaaGreatDoorCCb2
import Derived.StillTailTactics
import Derived.IntWalk
import Derived.Deep.QuietTactic
import Derived.BigQuiet
namespace Go.Proofs.YtdgboklnhmfhoaaGreatDoor.G
open Go.RowKit Go.Proofs.YtdgboklnhmfhoaaGreatDoorW.PrintWords Go.Proofs.YtdgboklnhmfhoaaGreatDoorW.PrintLast Go.Proofs.YtdgboklnhmfhoaaGreatDoorW.PrintMore
set_option linter.unusedVariables false
theorem cutFold_snoc (rs : List S87) (l : List Int) {k : Nat} (h : k < rs.length) : (rs.take (k + 1)).foldl cutStep l = cutStep ((rs.take k).foldl cutStep l) (rd_T87 rs k) := by
  rw [List.take_succ_eq_append_getElem h, List.foldl_append, rdR_get h]
  rfl
theorem cutFold_take (rs : List S87) (l : List Int) (k : Nat) : ((rs.take k).foldl cutStep l).length ≤ l.length + 2 * rs.length := by
  have h1 := cutFold_length (rs.take k) l
  have h2 : (rs.take k).length ≤ rs.length := by simp; omega
  omega
set_option maxRecDepth 100000 in
set_option maxHeartbeats 2000000 in
theorem cuts99 (A0 : Option Addr) (c0 : Nat) (l0 : List Int) (A1 : Option Addr) (c1 : Nat) (rs : List S87) (w : World) (hr0 : Kd.C (Kd.int .i64) w A0 l0.length l0) (hc0 : l0.length ≤ c0) (hr1 : Kd.C k87 w A1 rs.length rs) (hc1 : rs.length ≤ c1) (hl : l0.length + 2 * rs.length ≤ 900000) :
    Calls Tryz.prog 99 #[.slice A0 l0.length c0, .agg #[.slice A1 rs.length c1]] w fun e w' => ∃ v0_ : Value, e = .returned (v0_) ∧ Kd.R (Kd.int .i64) 3 w' w.heap.size (fun _ => True) v0_ (cutsL l0 rs) ∧ Below w.heap.size w w' := by
  have hu25 := Tryz.underlying25
  have hu28 := Tryz.underlying28
  have hu23 := Tryz.underlying23
  have hu87 := Tryz.underlying87
  go_enter Tryz.func99, Tryz.ntmps99
  go_wp2_with fail
  have hk1 : (w.alloc (.cells #[.slice A1 rs.length c1] 25)).cell? ⟨w.heap.size, 0, none⟩ = some (.slice A1 rs.length c1) := blk_cell (heap_alloc_new _ _) 0
  have hB1 : Below w.heap.size w (w.alloc (.cells #[.slice A1 rs.length c1] 25)) := below_alloc (Below.refl _ _) _
  have hC1 := Kd.C_alloc hr0 (.cells #[.slice A1 rs.length c1] 25)
  have hR1 := Kd.C_alloc hr1 (.cells #[.slice A1 rs.length c1] 25)
  generalize w.alloc (.cells #[.slice A1 rs.length c1] 25) = w1 at hk1 hB1 hC1 hR1 ⊢
  clear hr0 hr1
  go_loopw [0, 5] (fun u i wr => ∃ k : Nat, k ≤ rs.length ∧ i = .int .i64 k ∧ Below w1.heap.size w1 wr ∧ ∃ (A : Option Addr) (c : Nat), u = .slice A ((rs.take k).foldl cutStep l0).length c ∧ ((rs.take k).foldl cutStep l0).length ≤ c ∧ Kd.C (Kd.int .i64) wr A ((rs.take k).foldl cutStep l0).length ((rs.take k).foldl cutStep l0)) (fun _ i _ => rs.length - (intOf i).toNat)
  case atStart => exact ⟨0, Nat.zero_le _, rfl, Below.refl _ _, A0, c0, rfl, hc0, hC1⟩
  case round =>
    clear hC1
    obtain ⟨k, hk, rfl, hb, A, c, rfl, hcc, hC⟩ := hrel
    have hkr := pw_cell_below hb hk1
    have hll := cutFold_take rs l0 k
    by_cases hlt : k < rs.length
    · obtain ⟨ad, rfl, h0, h1⟩ := at_T87 hR1 k (by omega) (by omega)
      have h0 := pw_cell_below hb h0
      have h1 := pw_cell_below hb h1
      have Hsn := Lib.hid (cutFold_snoc rs l0 hlt)
      obtain ⟨x, hx⟩ : ∃ x, x = rd_T87 rs k := ⟨_, rfl⟩
      rw [← hx] at h0 h1 Hsn
      obtain ⟨L, hL⟩ : ∃ L, L = (rs.take k).foldl cutStep l0 := ⟨_, rfl⟩
      rw [← hL] at hC hcc hll Hsn ⊢
      clear hx hL
      simp only [Int.toNat_natCast] at h0 h1
      have hR := Kd.C_below hR1 hb
      go_wp2_with fail
      go_quiet (fail)
      obtain ⟨W4, hW4⟩ : ∃ W4, W4 = wr.drewN nq := ⟨_, rfl⟩
      have hb4 : Below w1.heap.size w1 W4 := by rw [hW4]; exact pw_below_drewN hb _
      have hC4 : Kd.C (Kd.int .i64) W4 A L.length L := by rw [hW4]; exact Kd.C_drewN hC _
      rw [← hW4]
      clear hW4 h0 h1 hkr hR hb hC
      have Hvc := Lib.hid (fun W => unicodetextref01_Valid.calls x.f0 (!badCode x.f0) W (valid01 x.f0))
      go_wp2_with fail
      refine (Hvc.out _).mono ?_
      rintro e w5 ⟨rfl, hd5⟩
      have hb5 := hb4.trans (hd5.below.mono hb4.size)
      have hC5 := Kd.C_below hC4 hd5.below
      clear hb4 hC4 hd5 Hvc
      cases hbc : badCode x.f0
      · go_wp2_with fail
        refine (place122 A c L x.f0 _ hC5 hcc (by omega)).mono ?_
        rintro e w6 ⟨v6, rfl, hR6, hb6⟩
        obtain ⟨A5, c5, rfl⟩ := Kd.R_slice hR6
        have h6 := Kd.R_reads' hR6
        have hb5 := hb5.trans (hb6.mono hb5.size)
        have hLo : cutLo L x = placeL L x.f0 := by rw [cutLo, hbc]; rfl
        have hc5 := h6.2.1
        have hC5 := h6.2.2
        clear h6 hR6 hb6 hbc hcc
        obtain ⟨M, hM⟩ : ∃ M, M = cutLo L x := ⟨_, rfl⟩
        rw [← hLo, ← hM] at hC5 hc5
        rw [← hLo, ← hM]
        have hMl : M.length ≤ 900002 := by
          have h1 : (cutLo L x).length ≤ L.length + 1 := by
            unfold cutLo
            split
            · omega
            · exact placeL_length _ _
          rw [hM]
          omega
        have HM := Lib.hid hM
        clear hM hLo
        by_cases g0 : 0 ≤ x.f1
        · by_cases g1 : x.f1 < 1114111
          · have Hs : Hid (cutStep L x = placeL M (x.f1 + 1)) := Lib.hid (by rw [cutStep, if_pos ⟨g0, g1⟩, HM.out])
            have hw1 : IntKind.i64.wrap (x.f1 + 1) = x.f1 + 1 := IntWalk.i64_in _ (by omega)
            go_wp2_with fail
            refine (place122 A5 c5 M (x.f1 + 1) _ hC5 hc5 (by omega)).mono ?_
            rintro e w6 ⟨v6, rfl, hR6, hb6⟩
            obtain ⟨A6, c6, rfl⟩ := Kd.R_slice hR6
            have h6 := Kd.R_reads' hR6
            go_wp2_with fail
            go_roundw
            case rel => exact ⟨k + 1, hlt, by go_num, hb5.trans (hb6.mono hb5.size), A6, c6, by rw [Hsn.out, Hs.out], by rw [Hsn.out, Hs.out]; exact h6.2.1, by rw [Hsn.out, Hs.out]; exact h6.2.2⟩
            case measure => simp [intOf]; omega
          · have Hs : Hid (cutStep L x = M) := Lib.hid (by rw [cutStep, if_neg (fun h => g1 h.2), HM.out])
            go_wp2_with fail
            go_roundw
            case rel => exact ⟨k + 1, hlt, by go_num, hb5, A5, c5, by rw [Hsn.out, Hs.out], by rw [Hsn.out, Hs.out]; exact hc5, by rw [Hsn.out, Hs.out]; exact hC5⟩
            case measure => simp [intOf]; omega
        · have Hs : Hid (cutStep L x = M) := Lib.hid (by rw [cutStep, if_neg (fun h => g0 h.1), HM.out])
          go_wp2_with fail
          go_roundw
          case rel => exact ⟨k + 1, hlt, by go_num, hb5, A5, c5, by rw [Hsn.out, Hs.out], by rw [Hsn.out, Hs.out]; exact hc5, by rw [Hsn.out, Hs.out]; exact hC5⟩
          case measure => simp [intOf]; omega
      · have hLo : cutLo L x = L := by rw [cutLo, hbc]; rfl
        obtain ⟨A5, hA5⟩ : ∃ A5, A5 = A := ⟨_, rfl⟩
        obtain ⟨c5, hc5e⟩ : ∃ c5, c5 = c := ⟨_, rfl⟩
        have hc5 := hcc
        rw [← hc5e] at hc5 ⊢
        rw [← hA5] at hC5 ⊢
        clear hbc hA5 hc5e hcc
        obtain ⟨M, hM⟩ : ∃ M, M = cutLo L x := ⟨_, rfl⟩
        rw [← hLo, ← hM] at hC5 hc5
        rw [← hLo, ← hM]
        have hMl : M.length ≤ 900002 := by
          have h1 : (cutLo L x).length ≤ L.length + 1 := by
            unfold cutLo
            split
            · omega
            · exact placeL_length _ _
          rw [hM]
          omega
        have HM := Lib.hid hM
        clear hM hLo
        by_cases g0 : 0 ≤ x.f1
        · by_cases g1 : x.f1 < 1114111
          · have Hs : Hid (cutStep L x = placeL M (x.f1 + 1)) := Lib.hid (by rw [cutStep, if_pos ⟨g0, g1⟩, HM.out])
            have hw1 : IntKind.i64.wrap (x.f1 + 1) = x.f1 + 1 := IntWalk.i64_in _ (by omega)
            go_wp2_with fail
            refine (place122 A5 c5 M (x.f1 + 1) _ hC5 hc5 (by omega)).mono ?_
            rintro e w6 ⟨v6, rfl, hR6, hb6⟩
            obtain ⟨A6, c6, rfl⟩ := Kd.R_slice hR6
            have h6 := Kd.R_reads' hR6
            go_wp2_with fail
            go_roundw
            case rel => exact ⟨k + 1, hlt, by go_num, hb5.trans (hb6.mono hb5.size), A6, c6, by rw [Hsn.out, Hs.out], by rw [Hsn.out, Hs.out]; exact h6.2.1, by rw [Hsn.out, Hs.out]; exact h6.2.2⟩
            case measure => simp [intOf]; omega
          · have Hs : Hid (cutStep L x = M) := Lib.hid (by rw [cutStep, if_neg (fun h => g1 h.2), HM.out])
            go_wp2_with fail
            go_roundw
            case rel => exact ⟨k + 1, hlt, by go_num, hb5, A5, c5, by rw [Hsn.out, Hs.out], by rw [Hsn.out, Hs.out]; exact hc5, by rw [Hsn.out, Hs.out]; exact hC5⟩
            case measure => simp [intOf]; omega
        · have Hs : Hid (cutStep L x = M) := Lib.hid (by rw [cutStep, if_neg (fun h => g0 h.1), HM.out])
          go_wp2_with fail
          go_roundw
          case rel => exact ⟨k + 1, hlt, by go_num, hb5, A5, c5, by rw [Hsn.out, Hs.out], by rw [Hsn.out, Hs.out]; exact hc5, by rw [Hsn.out, Hs.out]; exact hC5⟩
          case measure => simp [intOf]; omega
    · obtain ⟨L, hL⟩ : ∃ L, L = (rs.take k).foldl cutStep l0 := ⟨_, rfl⟩
      rw [← hL] at hC hcc hll ⊢
      have Hf : Hid (placeL L 0 = cutsL l0 rs) := Lib.hid (by have hkl : k = rs.length := by omega
                                                              rw [hL, hkl, List.take_length]; rfl)
      have hL6 : L.length ≤ 1000000 := by omega
      have Hpl := Lib.hid (fun W h => place122 A c L 0 W h hcc hL6)
      clear hL hll hcc hL6
      go_wp2_with fail
      refine (Hpl.out _ hC).mono ?_
      rintro e w6 ⟨v6, rfl, hR6, hb6⟩
      obtain ⟨A5, c5, rfl⟩ := Kd.R_slice hR6
      go_wp2_with fail
      go_ret
      refine ⟨_, rfl, ?_, hB1.trans ((hb.trans (hb6.mono hb.size)).mono hB1.size)⟩
      rw [← Hf.out]
      exact R_lower (Nat.le_trans hB1.size hb.size) hR6
def unicodetextref02_Cuts.f (l0 : List Int) (l1_0 : List S87) : Option (List Int) := if l0.length + 2 * l1_0.length ≤ 900000 then some (cutsL l0 l1_0) else none
theorem unicodetextref02_Cuts.calls (A0 : Option Addr) (c0 : Nat) (l0 : List (Int)) (A1_0 : Option Addr) (c1_0 : Nat) (l1_0 : List (S87)) (r : List (Int)) (w : World) (hr0 : Kd.C (Kd.int .i64) w A0 l0.length l0) (hc0 : l0.length ≤ c0) (hr1_0 : Kd.C k87 w A1_0 l1_0.length l1_0) (hc1_0 : l1_0.length ≤ c1_0) (h : unicodetextref02_Cuts.f l0 l1_0 = some r) :
    Calls Tryz.prog 99 #[.slice A0 l0.length c0, .agg #[.slice A1_0 l1_0.length c1_0]] w fun e w' => ∃ v0_ : Value, e = .returned (v0_) ∧ Kd.R (Kd.int .i64) 3 w' w.heap.size (fun _ => True) v0_ r ∧ Below w.heap.size w w' := by
  unfold unicodetextref02_Cuts.f at h
  split at h
  · next hl =>
    obtain rfl := Option.some.inj h
    exact cuts99 A0 c0 l0 A1_0 c1_0 l1_0 w hr0 hc0 hr1_0 hc1_0 hl
  · cases h
end Go.Proofs.YtdgboklnhmfhoaaGreatDoor.G
