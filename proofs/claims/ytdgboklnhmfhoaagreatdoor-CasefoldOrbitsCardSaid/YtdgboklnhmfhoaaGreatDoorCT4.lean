import Derived.Test.YtdgboklnhmfhoaaGreatDoorCHu
import Derived.Test.YtdgboklnhmfhoaaGreatDoorCShelf
import Derived.StillTailTactics
import Derived.IntWalk
namespace Go.Proofs.YtdgboklnhmfhoaaGreatDoor.G
open Go.RowKit Go.Proofs.YtdgboklnhmfhoaaGreatDoorW.PrintWords Go.Proofs.YtdgboklnhmfhoaaGreatDoorW.PrintLast Go.Proofs.YtdgboklnhmfhoaaGreatDoorW.PrintMore
set_option linter.unusedVariables false
def orI (x y : Int) : Int := if x ≠ 0 then x else y
theorem or_two (x y : Int) : cmp_Or_int.f 4 [x, y] = some (orI x y) := by
  unfold orI
  by_cases hx : x = 0
  · by_cases hy : y = 0 <;> simp [cmp_Or_int.f, cmp_Or_int.l0, rd, wrap64, hx, hy]
  · simp [cmp_Or_int.f, cmp_Or_int.l0, rd, hx]
theorem C_int_two {w : World} {b : Nat} {x y : Int} (h : w.cell? ⟨b, 0, none⟩ = some (.int .i64 x)) (h' : w.cell? ⟨b, 1, none⟩ = some (.int .i64 y)) : Kd.C (Kd.int .i64) w (some ⟨b, 0, none⟩) [x, y].length [x, y] := by
  refine ⟨rfl, by simp, fun _ => ⟨_, rfl, fun j p hj => ?_⟩⟩
  have hj0 : j = 0 ∨ j = 1 := by have := (List.getElem?_eq_some_iff.1 hj).1; simp at this; omega
  rcases hj0 with rfl | rfl
  · refine ⟨[.int .i64 x], rfl, ?_, fun i u hu => ?_⟩
    · have : p = x := by simpa using hj.symm
      rw [this]; rfl
    · have hi : i = 0 := by have := (List.getElem?_eq_some_iff.1 hu).1; simp at this; omega
      subst hi
      have : u = .int .i64 x := by simpa using hu.symm
      rw [this]
      exact h
  · refine ⟨[.int .i64 y], rfl, ?_, fun i u hu => ?_⟩
    · have : p = y := by simpa using hj.symm
      rw [this]; rfl
    · have hi : i = 0 := by have := (List.getElem?_eq_some_iff.1 hu).1; simp at this; omega
      subst hi
      have : u = .int .i64 y := by simpa using hu.symm
      rw [this]
      exact h'
def ordM (f0 : Int) (f2 : ByteArray) (g0 : Int) (g2 : ByteArray) : Int := orI (Lib.compareInt f0 g0) (Lib.compareBytes f2.data.toList g2.data.toList)
set_option maxRecDepth 100000 in
set_option maxHeartbeats 1000000 in
theorem order58_calls (f0 : Int) (v1 : Value) (f2 : ByteArray) (g0 : Int) (u1 : Value) (g2 : ByteArray) (w : World) (h1 : v1.oneCell' = true) (h2 : u1.oneCell' = true) :
    Calls Tryz.prog 58 #[.agg #[.int .i64 f0, v1, .string f2], .agg #[.int .i64 g0, u1, .string g2]] w fun e w' => e = .returned (.int .i64 (ordM f0 f2 g0 g2)) ∧ Below w.heap.size w w' := by
  have hu44 := Tryz.underlying44
  go_enter Tryz.func58, Tryz.ntmps58
  go_wp2_with fail
  refine wp_region_still_tail 10 (by kernel_rfl) (by kernel_rfl) ?_
  simp only [List.take_succ_cons, List.take_zero, List.drop_succ_cons, List.drop_zero]
  change wpStill _ _ (((w.alloc (.cells #[.int .i64 f0, v1, .string f2] 44)).alloc (.cells #[.int .i64 g0, u1, .string g2] 44)).drew) (fun a' => wpList _ _ _ _ a' (((w.alloc (.cells #[.int .i64 f0, v1, .string f2] 44)).alloc (.cells #[.int .i64 g0, u1, .string g2] 44)).drew)) _ _
  repeat still_step
  still_call (Tryz.cmp_Compare_int _ _ _)
  repeat still_step
  still_call (Tryz.strings_Compare _ _ _)
  repeat still_step
  refine wpStill_nil ?_
  go_wp2_with fail
  obtain ⟨x, hx⟩ : ∃ x, x = Lib.compareInt f0 g0 := ⟨_, rfl⟩
  obtain ⟨y, hy⟩ : ∃ y, y = Lib.compareBytes f2.data.toList g2.data.toList := ⟨_, rfl⟩
  rw [← hx, ← hy]
  have Hx := Lib.hid hx
  have Hy := Lib.hid hy
  clear hx hy
  refine (cmp_Or_int.calls 4 _ _ [x, y] _ _ (C_int_two (by go_simp) (by go_simp)) (by simp) (or_two x y)).mono ?_
  rintro e w' ⟨rfl, ⟨n, rfl⟩⟩
  go_wp2_with fail
  go_ret
  exact ⟨ret_i64 (by rw [ordM, ← Hx.out, ← Hy.out]), by repeat (first | exact Below.refl _ _ | apply below_alloc | apply pw_below_drewN | apply below_drew1)⟩
def ordAt (l : List S44) (j : Nat) : Int := ordM (rd_T44 l j).f0 (rd_T44 l j).f2 (rd_T44 l ((j : Int) - 1)).f0 (rd_T44 l ((j : Int) - 1)).f2
def sortedM (l : List S44) : Bool := (List.range l.length).all fun j => decide (j = 0) || decide (0 ≤ ordAt l j)
theorem sorted_no {l : List S44} {k : Nat} (h : k < l.length) (h0 : 0 < k) (ho : ordAt l k < 0) : sortedM l = false := by
  rw [sortedM, Bool.eq_false_iff]
  intro hc
  have := List.all_eq_true.1 hc k (List.mem_range.2 h)
  simp at this
  omega
theorem sorted_yes {l : List S44} (h : ∀ j : Nat, 0 < j → j < l.length → 0 ≤ ordAt l j) : sortedM l = true := by
  rw [sortedM, List.all_eq_true]
  intro j hj
  have := List.mem_range.1 hj
  by_cases h0 : j = 0
  · simp [h0]
  · simp [h0, h j (by omega) this]
set_option maxRecDepth 100000 in
set_option maxHeartbeats 1000000 in
theorem sorted57_calls (A : Option Addr) (l : List S44) (c : Nat) (w : World) (hr : Kd.C k44 w A l.length l) (hc : l.length ≤ c) :
    Calls Tryz.prog 57 #[.slice A l.length c, .func (.func 58) #[] #[]] w fun e w' => e = .returned (.bool (sortedM l)) ∧ Below w.heap.size w w' := by
  have hm := hr.2.1
  have hu44 := Tryz.underlying44
  go_enter Tryz.func57, Tryz.ntmps57
  go_wp2_with fail
  go_loopw [5] (fun i wr => ∃ k : Int, -1 ≤ k ∧ k < l.length ∧ i = .int .i64 k ∧ Hid (∀ j : Nat, k < j → j < l.length → 0 ≤ ordAt l j) ∧ Below w.heap.size w wr) (fun i _ => (intOf i).toNat)
  case atStart => exact ⟨_, by omega, by omega, rfl, Lib.hid (fun j h1 h2 => by omega), Below.refl _ _⟩
  case round =>
    obtain ⟨k, hk1, hk2, rfl, HS, hB⟩ := hrel
    by_cases hlt : 0 < k
    · obtain ⟨n, rfl⟩ : ∃ n : Nat, k = n := ⟨k.toNat, by omega⟩
      have hC := Kd.C_below hr hB
      obtain ⟨ad, A1, c1, rfl, h0, h1, h2, hc1, hC1⟩ := at_T44 hC n (by omega) (by omega)
      obtain ⟨ad', A2, c2, e', g0, g1, g2, gc1, gC1⟩ := at_T44 hC ((n : Int) - 1) (by omega) (by omega)
      injection e' with e'
      subst e'
      have HO : Hid (ordAt l n = ordM (rd_T44 l n).f0 (rd_T44 l n).f2 (rd_T44 l ((n : Int) - 1)).f0 (rd_T44 l ((n : Int) - 1)).f2) := Lib.hid rfl
      obtain ⟨x, hx⟩ : ∃ x, x = rd_T44 l n := ⟨_, rfl⟩
      obtain ⟨y, hy⟩ : ∃ y, y = rd_T44 l ((n : Int) - 1) := ⟨_, rfl⟩
      rw [← hx] at h0 h1 h2 hc1 hC1 HO
      rw [← hy] at g0 g1 g2 gc1 gC1 HO
      clear hx hy hC
      simp only [Int.toNat_natCast] at h0 h1 h2
      have ht : ((n : Int) - 1).toNat = n - 1 := by omega
      rw [ht] at g0 g1 g2
      have hw : IntKind.i64.wrap ((n : Int) - 1) = (n : Int) - 1 := IntWalk.i64_in _ (by omega)
      have hnn : 0 ≤ (n : Int) - 1 := by omega
      have hn1 : 1 ≤ (n : Int) := by omega
      have hnl : (n : Int) - 1 < l.length := by omega
      go_wp2_with fail
      refine wp_region_still_tail 10 (by kernel_rfl) (by kernel_rfl) ?_
      simp only [List.take_succ_cons, List.take_zero, List.drop_succ_cons, List.drop_zero]
      change wpStill _ _ wr.drew (fun a' => wpList _ _ _ _ a' wr.drew) _ _
      repeat still_step
      refine wpStill_nil ?_
      clear ht hw
      cases ho : decide (ordM x.f0 x.f2 y.f0 y.f2 < 0) with
      | true =>
        have ho' : ordM x.f0 x.f2 y.f0 y.f2 < 0 := by simpa using ho
        clear ho
        go_wp2_with fail
        refine (order58_calls x.f0 _ x.f2 y.f0 _ y.f2 _ rfl rfl).mono ?_
        rintro e w' ⟨rfl, hb⟩
        go_wp2_with fail
        go_ret
        exact ⟨ret_bool (sorted_no (k := n) (by omega) (by omega) (by rw [HO.out]; exact ho')).symm, (below_drew1 hB).trans (hb.mono hB.size)⟩
      | false =>
        have ho' : ¬ ordM x.f0 x.f2 y.f0 y.f2 < 0 := by simpa using ho
        clear ho
        go_wp2_with fail
        refine (order58_calls x.f0 _ x.f2 y.f0 _ y.f2 _ rfl rfl).mono ?_
        rintro e w' ⟨rfl, hb⟩
        go_wp2_with fail
        go_roundw
        case rel => exact ⟨(n : Int) - 1, by omega, by omega, by go_num, Lib.hid (fun j h1 h2 => by
          rcases Nat.lt_or_ge n j with h | h
          · exact HS.out j (by omega) h2
          · obtain rfl : j = n := by omega
            rw [HO.out]; omega), (below_drew1 hB).trans (hb.mono hB.size)⟩
        case measure => simp [intOf]; omega
    · go_wp2_with fail
      go_ret
      exact ⟨ret_bool (sorted_yes (fun j h1 h2 => HS.out j (by omega) h2)).symm, hB⟩
end Go.Proofs.YtdgboklnhmfhoaaGreatDoor.G
