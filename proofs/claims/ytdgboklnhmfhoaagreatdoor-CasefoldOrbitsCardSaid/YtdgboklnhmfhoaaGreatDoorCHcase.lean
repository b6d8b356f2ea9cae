/- casemap.Check: the Go call returns what checkC says of the data, for sets of fewer than 2^42 ranges. -/
import Derived.Test.YtdgboklnhmfhoaaGreatDoorCHcheck
import Derived.Test.YtdgboklnhmfhoaaGreatDoorCV1
namespace Go.Proofs.YtdgboklnhmfhoaaGreatDoor.G
open Go.RowKit Go.Proofs.YtdgboklnhmfhoaaGreatDoorW.PrintWords Go.Proofs.YtdgboklnhmfhoaaGreatDoorW.PrintLast Go.Proofs.YtdgboklnhmfhoaaGreatDoorW.PrintMore
set_option linter.unusedVariables false
def four {α : Type} (a b c d : α) : Nat → α
  | 0 => a
  | 1 => b
  | 2 => c
  | _ => d
def finalS : ByteArray := ⟨#[102, 105, 110, 97, 108]⟩
def tagBad (i : Nat) (m : S44) : Bool := decide (0 < m.f2.size) && (decide (0 < i) || !(m.f2.toList == finalS.toList))
def firstErr (f : Nat → Int) : Int := if f 0 ≠ 0 then f 0 else if f 1 ≠ 0 then f 1 else if f 2 ≠ 0 then f 2 else f 3
def checkC (l0 l1 l2 l3 : List S44) (l4 l5 : List S87) : Int :=
  if firstErr (fun k => chkM (four l0 l1 l2 l3 k)) ≠ 0 then firstErr (fun k => chkM (four l0 l1 l2 l3 k))
  else if (List.range 4).any (fun k => (four l0 l1 l2 l3 k).any (tagBad k)) then 6
  else if validR l4 && validR l5 then 0 else 11
theorem firstErr_at {f : Nat → Int} {k : Nat} (hk : k < 4) (h : ∀ j, j < k → f j = 0) (hn : f k ≠ 0) : firstErr f = f k := by
  have : k = 0 ∨ k = 1 ∨ k = 2 ∨ k = 3 := by omega
  unfold firstErr
  rcases this with rfl | rfl | rfl | rfl
  · simp [hn]
  · simp [hn, h 0]
  · simp [hn, h 0, h 1]
  · simp [h 0, h 1, h 2]
theorem firstErr_zero {f : Nat → Int} (h : ∀ j, j < 4 → f j = 0) : firstErr f = 0 := by
  unfold firstErr
  simp [h]
set_option maxRecDepth 100000 in
set_option maxHeartbeats 2000000 in
theorem casemap29 (A0_0 : Option Addr) (c0_0 : Nat) (l0_0 : List (S44)) (A0_1 : Option Addr) (c0_1 : Nat) (l0_1 : List (S44)) (A0_2 : Option Addr) (c0_2 : Nat) (l0_2 : List (S44)) (A0_3 : Option Addr) (c0_3 : Nat) (l0_3 : List (S44)) (A0_4 : Option Addr) (c0_4 : Nat) (l0_4 : List (S87)) (A0_5 : Option Addr) (c0_5 : Nat) (l0_5 : List (S87)) (w : World) (hr0_0 : Kd.C k44 w A0_0 l0_0.length l0_0) (hc0_0 : l0_0.length ≤ c0_0) (hr0_1 : Kd.C k44 w A0_1 l0_1.length l0_1) (hc0_1 : l0_1.length ≤ c0_1) (hr0_2 : Kd.C k44 w A0_2 l0_2.length l0_2) (hc0_2 : l0_2.length ≤ c0_2) (hr0_3 : Kd.C k44 w A0_3 l0_3.length l0_3) (hc0_3 : l0_3.length ≤ c0_3) (hr0_4 : Kd.C k87 w A0_4 l0_4.length l0_4) (hc0_4 : l0_4.length ≤ c0_4) (hr0_5 : Kd.C k87 w A0_5 l0_5.length l0_5) (hc0_5 : l0_5.length ≤ c0_5) (h4 : l0_4.length < 4398046511104) (h5 : l0_5.length < 4398046511104) :
    Calls Tryz.prog 29 #[.agg #[.slice A0_0 l0_0.length c0_0, .slice A0_1 l0_1.length c0_1, .slice A0_2 l0_2.length c0_2, .slice A0_3 l0_3.length c0_3, .slice A0_4 l0_4.length c0_4, .slice A0_5 l0_5.length c0_5]] w fun e w' => e = .returned (.int .i64 (checkC l0_0 l0_1 l0_2 l0_3 l0_4 l0_5)) ∧ Below w.heap.size w w' := by
  have hu27 := Tryz.underlying27
  have hu44 := Tryz.underlying44
  have hu25 := Tryz.underlying25
  obtain ⟨L, hL⟩ : ∃ L, L = four l0_0 l0_1 l0_2 l0_3 := ⟨_, rfl⟩
  obtain ⟨AF, hA⟩ : ∃ L, L = four A0_0 A0_1 A0_2 A0_3 := ⟨_, rfl⟩
  obtain ⟨CF, hC⟩ : ∃ L, L = four c0_0 c0_1 c0_2 c0_3 := ⟨_, rfl⟩
  have HCs : Hid (∀ k, k < 4 → Kd.C k44 w (AF k) (L k).length (L k) ∧ (L k).length ≤ CF k) := Lib.hid (by
    intro k hk
    have : k = 0 ∨ k = 1 ∨ k = 2 ∨ k = 3 := by omega
    rw [hL, hA, hC]
    rcases this with rfl | rfl | rfl | rfl
    · exact ⟨hr0_0, hc0_0⟩
    · exact ⟨hr0_1, hc0_1⟩
    · exact ⟨hr0_2, hc0_2⟩
    · exact ⟨hr0_3, hc0_3⟩)
  have HG : Hid (∀ k, k < 4 → (#[Value.slice A0_0 l0_0.length c0_0, .slice A0_1 l0_1.length c0_1, .slice A0_2 l0_2.length c0_2, .slice A0_3 l0_3.length c0_3] : Array Value)[k]? = some (.slice (AF k) (L k).length (CF k))) := Lib.hid (by
    intro k hk
    have : k = 0 ∨ k = 1 ∨ k = 2 ∨ k = 3 := by omega
    rw [hL, hA, hC]
    rcases this with rfl | rfl | rfl | rfl <;> rfl)
  have HL := Lib.hid hL
  clear hL hA hC hr0_0 hc0_0 hr0_1 hc0_1 hr0_2 hc0_2 hr0_3 hc0_3
  go_enter Tryz.func29, Tryz.ntmps29
  go_wp2_with fail
  obtain ⟨W0, hW0⟩ : ∃ W0, W0 = (w.alloc (.cells #[.slice A0_0 l0_0.length c0_0, .slice A0_1 l0_1.length c0_1, .slice A0_2 l0_2.length c0_2, .slice A0_3 l0_3.length c0_3, .slice A0_4 l0_4.length c0_4, .slice A0_5 l0_5.length c0_5] 27)).alloc (.cells #[.slice A0_0 l0_0.length c0_0, .slice A0_1 l0_1.length c0_1, .slice A0_2 l0_2.length c0_2, .slice A0_3 l0_3.length c0_3] 22) := ⟨_, rfl⟩
  have hb0 : W0.heap[w.heap.size]? = some (.cells #[.slice A0_0 l0_0.length c0_0, .slice A0_1 l0_1.length c0_1, .slice A0_2 l0_2.length c0_2, .slice A0_3 l0_3.length c0_3, .slice A0_4 l0_4.length c0_4, .slice A0_5 l0_5.length c0_5] 27 (0, 0)) := by
    rw [hW0, Below.heap_alloc _ _ _ (by simp)]; exact heap_alloc_new _ _
  have hb1 : W0.heap[w.heap.size + 1]? = some (.cells #[.slice A0_0 l0_0.length c0_0, .slice A0_1 l0_1.length c0_1, .slice A0_2 l0_2.length c0_2, .slice A0_3 l0_3.length c0_3] 22 (0, 0)) := by
    have h := heap_alloc_new (w.alloc (.cells #[.slice A0_0 l0_0.length c0_0, .slice A0_1 l0_1.length c0_1, .slice A0_2 l0_2.length c0_2, .slice A0_3 l0_3.length c0_3, .slice A0_4 l0_4.length c0_4, .slice A0_5 l0_5.length c0_5] 27)) (.cells #[.slice A0_0 l0_0.length c0_0, .slice A0_1 l0_1.length c0_1, .slice A0_2 l0_2.length c0_2, .slice A0_3 l0_3.length c0_3] 22)
    rw [hW0]
    simpa using h
  have hBW : Below w.heap.size w W0 := by rw [hW0]; exact ((Below.refl _ _).alloc (Nat.le_refl _) _).alloc (by simp) _
  have hW0s : W0.heap.size = w.heap.size + 2 := by rw [hW0]; simp
  rw [← hW0]
  have Hb0 := Lib.hid hb0
  have Hb1 := Lib.hid hb1
  have HW0s := Lib.hid hW0s
  have hs0 : w.heap.size < W0.heap.size := by omega
  have hs1 : w.heap.size + 1 < W0.heap.size := by omega
  clear hW0 hb0 hb1 hW0s
  go_loopw [20] (fun i wr => ∃ k : Nat, k ≤ 4 ∧ i = .int .i64 k ∧ Hid (∀ j, j < k → chkM (L j) = 0) ∧ Below W0.heap.size W0 wr) (fun i _ => 4 - (intOf i).toNat)
  case atStart => exact ⟨0, Nat.zero_le _, rfl, Lib.hid (fun j hj => by omega), Below.refl _ _⟩
  case round =>
    obtain ⟨k, hk, rfl, HZ, hB⟩ := hrel
    have hsz := hB.size
    by_cases hlt : k < 4
    · have hcell : wr.cell? ⟨w.heap.size + 1, k, none⟩ = some (.slice (AF k) (L k).length (CF k)) := by
        rw [blk_cell ((hB.block _ hs1).trans Hb1.out) k]; exact HG.out k hlt
      have HCk := Lib.hid (HCs.out k hlt)
      have Hk := Lib.hid (rfl : chkM (L k) = chkM (L k))
      obtain ⟨x, hx⟩ : ∃ x, x = chkM (L k) := ⟨_, rfl⟩
      have HX := Lib.hid hx
      obtain ⟨Lk, hLk⟩ : ∃ y, y = L k := ⟨_, rfl⟩
      obtain ⟨Ak, hAk⟩ : ∃ y, y = AF k := ⟨_, rfl⟩
      obtain ⟨Ck, hCk⟩ : ∃ y, y = CF k := ⟨_, rfl⟩
      rw [← hLk] at hcell HCk hx
      rw [← hAk] at hcell HCk
      rw [← hCk] at hcell HCk
      have HXk := Lib.hid hx
      clear hLk hAk hCk hx Hk
      by_cases h0 : x = 0
      · have hb : (x != 0) = false := by simp [h0]
        have H0 := Lib.hid h0
        clear h0
        go_wp2_with fail
        refine (mapping_Check.calls Ak Ck Lk x _ (Kd.C_below HCk.out.1 (hBW.trans (hB.mono (by omega)))) HCk.out.2 (by rw [HXk.out]; rfl)).mono ?_
        rintro e w' ⟨rfl, hb2⟩
        go_wp2_with fail
        go_roundw
        case rel => exact ⟨k + 1, hlt, by go_num, Lib.hid (fun j hj => by
          rcases Nat.lt_or_ge j k with h | h
          · exact HZ.out j h
          · obtain rfl : j = k := by omega
            rw [← HX.out]; exact H0.out), hB.trans (hb2.mono hsz)⟩
        case measure => simp [intOf]; omega
      · have hb : (x != 0) = true := by simp [h0]
        have H0 := Lib.hid h0
        clear h0
        go_wp2_with fail
        refine (mapping_Check.calls Ak Ck Lk x _ (Kd.C_below HCk.out.1 (hBW.trans (hB.mono (by omega)))) HCk.out.2 (by rw [HXk.out]; rfl)).mono ?_
        rintro e w' ⟨rfl, hb2⟩
        go_wp2_with fail
        go_ret
        exact ⟨ret_i64 (by
          have he := firstErr_at (f := fun j => chkM (L j)) hlt HZ.out (by show chkM (L k) ≠ 0; rw [← HX.out]; exact H0.out)
          rw [checkC, ← HL.out, he, if_pos (by rw [← HX.out]; exact H0.out)]; exact HX.out), hBW.trans ((hB.trans (hb2.mono hsz)).mono (by omega))⟩
    · have HZ4 : Hid (firstErr (fun j => chkM (L j)) = 0) := Lib.hid (firstErr_zero (fun j hj => HZ.out j (by omega)))
      have hbx := (hB.block _ hs0).trans Hb0.out
      have k0 : wr.cell? ⟨w.heap.size, 0, none⟩ = some (.slice A0_0 l0_0.length c0_0) := blk_cell hbx 0
      have k1 : wr.cell? ⟨w.heap.size, 1, none⟩ = some (.slice A0_1 l0_1.length c0_1) := blk_cell hbx 1
      have k2 : wr.cell? ⟨w.heap.size, 2, none⟩ = some (.slice A0_2 l0_2.length c0_2) := blk_cell hbx 2
      have k3 : wr.cell? ⟨w.heap.size, 3, none⟩ = some (.slice A0_3 l0_3.length c0_3) := blk_cell hbx 3
      clear HZ hbx
      go_wp2_with fail
      obtain ⟨W1, hW1⟩ : ∃ W1, W1 = wr.alloc (.cells #[.slice A0_0 l0_0.length c0_0, .slice A0_1 l0_1.length c0_1, .slice A0_2 l0_2.length c0_2, .slice A0_3 l0_3.length c0_3] 22) := ⟨_, rfl⟩
      have hb1 : W1.heap[wr.heap.size]? = some (.cells #[.slice A0_0 l0_0.length c0_0, .slice A0_1 l0_1.length c0_1, .slice A0_2 l0_2.length c0_2, .slice A0_3 l0_3.length c0_3] 22 (0, 0)) := by rw [hW1]; exact heap_alloc_new _ _
      have hBW1 : Below w.heap.size w W1 := by rw [hW1]; exact (hBW.trans (hB.mono (by omega))).alloc (by omega) _
      have hb2 : W1.heap[w.heap.size]? = some (.cells #[.slice A0_0 l0_0.length c0_0, .slice A0_1 l0_1.length c0_1, .slice A0_2 l0_2.length c0_2, .slice A0_3 l0_3.length c0_3, .slice A0_4 l0_4.length c0_4, .slice A0_5 l0_5.length c0_5] 27 (0, 0)) := by
        rw [hW1, Below.heap_alloc _ _ _ (by omega)]; exact (hB.block _ hs0).trans Hb0.out
      have hs2 : wr.heap.size < W1.heap.size := by rw [hW1]; simp
      rw [← hW1]
      have Hb2 := Lib.hid hb1
      have Hb3 := Lib.hid hb2
      clear hW1 hb1 hb2 k0 k1 k2 k3 Hb0 Hb1 HW0s hB hBW hs1
      have hs3 : w.heap.size < W1.heap.size := by omega
      obtain ⟨bb, hbb⟩ : ∃ bb, bb = wr.heap.size := ⟨_, rfl⟩
      rw [← hbb] at Hb2 hs2 ⊢
      clear hbb hsz
      go_loopw [40] (fun i wr => ∃ k : Nat, k ≤ 4 ∧ i = .int .i64 k ∧ Hid (∀ j, j < k → (L j).any (tagBad j) = false) ∧ Below W1.heap.size W1 wr) (fun i _ => 4 - (intOf i).toNat)
      case atStart => exact ⟨0, Nat.zero_le _, rfl, Lib.hid (fun j hj => by omega), Below.refl _ _⟩
      case round =>
        clear hlt hk
        obtain ⟨k, hk, rfl, HT, hB⟩ := hrel
        have hsz := hB.size
        by_cases hlt : k < 4
        · have hcell : wr.cell? ⟨bb, k, none⟩ = some (.slice (AF k) (L k).length (CF k)) := by
            rw [blk_cell ((hB.block _ hs2).trans Hb2.out) k]; exact HG.out k hlt
          have HCk := Lib.hid (HCs.out k hlt)
          obtain ⟨Lk, hLk⟩ : ∃ y, y = L k := ⟨_, rfl⟩
          obtain ⟨Ak, hAk⟩ : ∃ y, y = AF k := ⟨_, rfl⟩
          obtain ⟨Ck, hCk⟩ : ∃ y, y = CF k := ⟨_, rfl⟩
          rw [← hLk, ← hAk, ← hCk] at hcell HCk
          have HLk := Lib.hid hLk
          clear hLk hAk hCk
          have hm := HCk.out.1.2.1
          obtain ⟨Wo, rfl⟩ : ∃ Wo : World, Wo = wr := ⟨_, rfl⟩
          go_wp2_with fail
          go_loopw [47] (fun i wr => ∃ m : Nat, m ≤ Lk.length ∧ i = .int .i64 m ∧ Hid ((Lk.take m).any (tagBad k) = false) ∧ Below Wo.heap.size Wo wr) (fun i _ => Lk.length - (intOf i).toNat)
          case atStart => exact ⟨0, Nat.zero_le _, rfl, Lib.hid rfl, Below.refl _ _⟩
          case round =>
            obtain ⟨m, hm2, rfl, HT2, hB2⟩ := hrel
            by_cases hlt2 : m < Lk.length
            · have hCm := Kd.C_below HCk.out.1 (hBW1.trans ((hB.trans (hB2.mono hsz)).mono (by omega)))
              obtain ⟨ad, A1, c1, rfl, h0, h1, h2, hc1, hC⟩ := at_T44 hCm m (by omega) (by omega)
              obtain ⟨x, hx⟩ : ∃ x, x = rd_T44 Lk m := ⟨_, rfl⟩
              rw [← hx] at h0 h1 h2 hc1 hC
              have Hx := Lib.hid hx
              clear hx hCm
              simp only [Int.toNat_natCast] at h0 h1 h2
              have hsz2 := hB2.size
              have HTs : Hid ((Lk.take (m + 1)).any (tagBad k) = tagBad k x) := Lib.hid (by rw [any_take_succ (tagBad k) Lk z44 m hlt2, HT2.out, ← rd_getD, ← Hx.out]; rfl)
              by_cases hz : x.f2.size = 0
              · have hz1 := bytes_empty hz
                have hz2 : (!x.f2.toList.isEmpty) = false := by rw [hz1]; rfl
                have Hz := Lib.hid hz
                clear hz
                go_wp2_with fail
                go_roundw
                case rel => exact ⟨m + 1, hlt2, by go_num, Lib.hid (by rw [HTs.out]; simp [tagBad, Hz.out]), hB2.alloc hsz2 _⟩
                case measure => simp [intOf]; omega
              · have hz1 := bytes_nonempty (s := x.f2) (by omega)
                have hz2 : (!x.f2.toList.isEmpty) = true := by rw [hz1]; rfl
                have Hz : Hid (0 < x.f2.size) := Lib.hid (by omega)
                clear hz
                by_cases hk0 : 0 < k
                · have hd : decide ((0 : Int) < (k : Int)) = true := by simpa using hk0
                  have HBad : Hid (tagBad k x = true) := Lib.hid (by simp [tagBad, Hz.out, hk0])
                  go_wp2_with fail
                  go_ret
                  exact ⟨ret_i64 (by
                    rw [checkC, ← HL.out, HZ4.out, if_neg (by simp), if_pos]
                    rw [List.any_eq_true]
                    exact ⟨k, List.mem_range.2 hlt, any_of_take (tagBad k) (L k) z44 m (by rw [← HLk.out]; exact hlt2) (by rw [← rd_getD, ← HLk.out, ← Hx.out]; exact HBad.out)⟩), hBW1.trans ((hB.trans ((hB2.alloc hsz2 _).mono hsz)).mono (by omega))⟩
                · have hd : decide ((0 : Int) < (k : Int)) = false := by simp; omega
                  have Hk0 : Hid (k = 0) := Lib.hid (by omega)
                  cases hf : (x.f2.toList == [102, 105, 110, 97, 108]) with
                  | true =>
                    have hf2 : (!(x.f2.toList == [102, 105, 110, 97, 108])) = false := by rw [hf]; rfl
                    have Hf := Lib.hid hf
                    go_wp2_with fail
                    go_roundw
                    case rel => exact ⟨m + 1, hlt2, by go_num, Lib.hid (by
                      rw [HTs.out, tagBad, show finalS.toList = [102, 105, 110, 97, 108] from by rw [ByteArray.toList_eq]; rfl, Hf.out, Hk0.out]; simp), hB2.alloc hsz2 _⟩
                    case measure => simp [intOf]; omega
                  | false =>
                    have hf2 : (!(x.f2.toList == [102, 105, 110, 97, 108])) = true := by rw [hf]; rfl
                    have Hf := Lib.hid hf
                    have HBad : Hid (tagBad k x = true) := Lib.hid (by rw [tagBad, show finalS.toList = [102, 105, 110, 97, 108] from by rw [ByteArray.toList_eq]; rfl, hf]; simp [Hz.out])
                    go_wp2_with fail
                    go_ret
                    exact ⟨ret_i64 (by
                      rw [checkC, ← HL.out, HZ4.out, if_neg (by simp), if_pos]
                      rw [List.any_eq_true]
                      exact ⟨k, List.mem_range.2 hlt, any_of_take (tagBad k) (L k) z44 m (by rw [← HLk.out]; exact hlt2) (by rw [← rd_getD, ← HLk.out, ← Hx.out]; exact HBad.out)⟩), hBW1.trans ((hB.trans ((hB2.alloc hsz2 _).mono hsz)).mono (by omega))⟩
            · have hml : m = Lk.length := by omega
              have HTk : Hid ((L k).any (tagBad k) = false) := Lib.hid (by rw [← HLk.out, ← List.take_length (l := Lk), ← hml]; exact HT2.out)
              clear hml
              go_wp2_with fail
              go_roundw
              case rel => exact ⟨k + 1, hlt, by go_num, Lib.hid (fun j hj => by
                rcases Nat.lt_or_ge j k with h | h
                · exact HT.out j h
                · obtain rfl : j = k := by omega
                  exact HTk.out), hB.trans (hB2.mono hsz)⟩
              case measure => simp [intOf]; omega
        · have HT4 : Hid ((List.range 4).any (fun j => (L j).any (tagBad j)) = false) := Lib.hid (by
            rw [List.any_eq_false]
            intro j hj
            rw [HT.out j (by have := List.mem_range.1 hj; omega)]; simp)
          have hbx := (hB.block _ hs3).trans Hb3.out
          have k4 : wr.cell? ⟨w.heap.size, 4, none⟩ = some (.slice A0_4 l0_4.length c0_4) := blk_cell hbx 4
          have k5 : wr.cell? ⟨w.heap.size, 5, none⟩ = some (.slice A0_5 l0_5.length c0_5) := blk_cell hbx 5
          have hBf := hBW1.trans (hB.mono (by omega))
          obtain ⟨ka, hka⟩ := (valid_ev l0_4 h4).rounds
          obtain ⟨kb, hkb⟩ := (valid_ev l0_5 h5).rounds
          have Hka := Lib.hid hka
          have Hkb := Lib.hid hkb
          clear HT hbx hka hkb
          cases hv4 : validR l0_4 with
          | true =>
            have H4 := Lib.hid hv4
            clear hv4
            cases hv5 : validR l0_5 with
            | true =>
              have H5 := Lib.hid hv5
              clear hv5
              go_wp2_with fail
              refine (cpset_Valid.calls ka _ _ l0_4 true _ (Kd.C_below hr0_4 hBf) hc0_4 (by rw [Hka.out, H4.out])).mono ?_
              rintro e w2 ⟨rfl, hb2⟩
              have hsz := hBf.size
              have k5' : w2.cell? ⟨w.heap.size, 5, none⟩ = some (.slice A0_5 l0_5.length c0_5) := hb2.cell (by have := hB.size; show w.heap.size < wr.heap.size; omega) |>.trans k5
              go_wp2_with fail
              refine (cpset_Valid.calls kb _ _ l0_5 true _ (Kd.C_below hr0_5 (hBf.trans (hb2.mono hsz))) hc0_5 (by rw [Hkb.out, H5.out])).mono ?_
              rintro e w3 ⟨rfl, hb3⟩
              go_wp2_with fail
              go_ret
              exact ⟨ret_i64 (by rw [checkC, ← HL.out, HZ4.out, if_neg (by simp), if_neg (by rw [HT4.out]; simp), H4.out, H5.out]; rfl), (hBf.trans (hb2.mono hsz)).trans (hb3.mono (by have := hb2.size; omega))⟩
            | false =>
              have H5 := Lib.hid hv5
              clear hv5
              go_wp2_with fail
              refine (cpset_Valid.calls ka _ _ l0_4 true _ (Kd.C_below hr0_4 hBf) hc0_4 (by rw [Hka.out, H4.out])).mono ?_
              rintro e w2 ⟨rfl, hb2⟩
              have hsz := hBf.size
              have k5' : w2.cell? ⟨w.heap.size, 5, none⟩ = some (.slice A0_5 l0_5.length c0_5) := hb2.cell (by have := hB.size; show w.heap.size < wr.heap.size; omega) |>.trans k5
              go_wp2_with fail
              refine (cpset_Valid.calls kb _ _ l0_5 false _ (Kd.C_below hr0_5 (hBf.trans (hb2.mono hsz))) hc0_5 (by rw [Hkb.out, H5.out])).mono ?_
              rintro e w3 ⟨rfl, hb3⟩
              go_wp2_with fail
              go_ret
              exact ⟨ret_i64 (by rw [checkC, ← HL.out, HZ4.out, if_neg (by simp), if_neg (by rw [HT4.out]; simp), H4.out, H5.out]; rfl), (hBf.trans (hb2.mono hsz)).trans (hb3.mono (by have := hb2.size; omega))⟩
          | false =>
            have H4 := Lib.hid hv4
            clear hv4
            go_wp2_with fail
            refine (cpset_Valid.calls ka _ _ l0_4 false _ (Kd.C_below hr0_4 hBf) hc0_4 (by rw [Hka.out, H4.out])).mono ?_
            rintro e w2 ⟨rfl, hb2⟩
            have hsz := hBf.size
            go_wp2_with fail
            go_ret
            exact ⟨ret_i64 (by rw [checkC, ← HL.out, HZ4.out, if_neg (by simp), if_neg (by rw [HT4.out]; simp), H4.out]; rfl), hBf.trans (hb2.mono hsz)⟩
def casemap_Check.f (l0_0 l0_1 l0_2 l0_3 : List S44) (l0_4 l0_5 : List S87) : Option Int :=
  if l0_4.length < 4398046511104 ∧ l0_5.length < 4398046511104 then some (checkC l0_0 l0_1 l0_2 l0_3 l0_4 l0_5) else none
theorem casemap_Check.calls (A0_0 : Option Addr) (c0_0 : Nat) (l0_0 : List (S44)) (A0_1 : Option Addr) (c0_1 : Nat) (l0_1 : List (S44)) (A0_2 : Option Addr) (c0_2 : Nat) (l0_2 : List (S44)) (A0_3 : Option Addr) (c0_3 : Nat) (l0_3 : List (S44)) (A0_4 : Option Addr) (c0_4 : Nat) (l0_4 : List (S87)) (A0_5 : Option Addr) (c0_5 : Nat) (l0_5 : List (S87)) (r : Int) (w : World) (hr0_0 : Kd.C k44 w A0_0 l0_0.length l0_0) (hc0_0 : l0_0.length ≤ c0_0) (hr0_1 : Kd.C k44 w A0_1 l0_1.length l0_1) (hc0_1 : l0_1.length ≤ c0_1) (hr0_2 : Kd.C k44 w A0_2 l0_2.length l0_2) (hc0_2 : l0_2.length ≤ c0_2) (hr0_3 : Kd.C k44 w A0_3 l0_3.length l0_3) (hc0_3 : l0_3.length ≤ c0_3) (hr0_4 : Kd.C k87 w A0_4 l0_4.length l0_4) (hc0_4 : l0_4.length ≤ c0_4) (hr0_5 : Kd.C k87 w A0_5 l0_5.length l0_5) (hc0_5 : l0_5.length ≤ c0_5) (h : casemap_Check.f l0_0 l0_1 l0_2 l0_3 l0_4 l0_5 = some r) :
    Calls Tryz.prog 29 #[.agg #[.slice A0_0 l0_0.length c0_0, .slice A0_1 l0_1.length c0_1, .slice A0_2 l0_2.length c0_2, .slice A0_3 l0_3.length c0_3, .slice A0_4 l0_4.length c0_4, .slice A0_5 l0_5.length c0_5]] w fun e w' => e = .returned (.int .i64 r) ∧ Below w.heap.size w w' := by
  unfold casemap_Check.f at h
  split at h
  · next hb =>
    injection h with h
    subst h
    exact casemap29 A0_0 c0_0 l0_0 A0_1 c0_1 l0_1 A0_2 c0_2 l0_2 A0_3 c0_3 l0_3 A0_4 c0_4 l0_4 A0_5 c0_5 l0_5 w hr0_0 hc0_0 hr0_1 hc0_1 hr0_2 hc0_2 hr0_3 hc0_3 hr0_4 hc0_4 hr0_5 hc0_5 hb.1 hb.2
  · cases h
end Go.Proofs.YtdgboklnhmfhoaaGreatDoor.G
