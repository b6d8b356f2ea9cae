/- The longest identifier at the beginning of a text; ident.Valid. -/
import Derived.Test.YtjfcmiocmcdjlaaGreatDoorAIt6
namespace Go.Proofs.YtjfcmiocmcdjlaaGreatDoor.G
open Go.RowKit Go.Proofs.YtjfcmiocmcdjlaaGreatDoorW.PrintWords Go.Proofs.YtjfcmiocmcdjlaaGreatDoorW.PrintLast Go.Proofs.YtjfcmiocmcdjlaaGreatDoorW.PrintMore
set_option linter.unusedVariables false
/-- The rules as a value. -/
def rulesV (A1 : Option Addr) (c1 : Nat) (L1 : List S32) (A2 : Option Addr) (c2 : Nat) (L2 : List S32) (A3 : Option Addr) (c3 : Nat) (L3 : List S32) : Value := .agg #[.slice A1 L1.length c1, .slice A2 L2.length c2, .slice A3 L3.length c3]
structure RulesC (W : World) (A1 : Option Addr) (c1 : Nat) (L1 : List S32) (A2 : Option Addr) (c2 : Nat) (L2 : List S32) (A3 : Option Addr) (c3 : Nat) (L3 : List S32) : Prop where
  C1 : Kd.C k32 W A1 L1.length L1
  l1 : L1.length ≤ c1
  b1 : L1.length ≤ 1000000000
  C2 : Kd.C k32 W A2 L2.length L2
  l2 : L2.length ≤ c2
  b2 : L2.length ≤ 1000000000
  C3 : Kd.C k32 W A3 L3.length L3
  l3 : L3.length ≤ c3
  b3 : L3.length ≤ 1000000000
section
variable {A1 : Option Addr} {c1 : Nat} {L1 : List S32} {A2 : Option Addr} {c2 : Nat} {L2 : List S32} {A3 : Option Addr} {c3 : Nat} {L3 : List S32}
theorem RulesC.below {W W' : World} (h : RulesC W A1 c1 L1 A2 c2 L2 A3 c3 L3) (hB : Below W.heap.size W W') : RulesC W' A1 c1 L1 A2 c2 L2 A3 c3 L3 :=
  ⟨Kd.C_below h.C1 hB, h.l1, h.b1, Kd.C_below h.C2 hB, h.l2, h.b2, Kd.C_below h.C3 hB, h.l3, h.b3⟩
theorem begins33 (x : Int) (w : World) (h : RulesC w A1 c1 L1 A2 c2 L2 A3 c3 L3) : Calls Tryz.prog 33 #[rulesV A1 c1 L1 A2 c2 L2 A3 c3 L3, .int .i64 x] w fun e w' => e = .returned (.bool (hasR L1 x)) ∧ Below w.heap.size w w' := by
  have hu24 := Tryz.underlying24
  have hu53 := Tryz.underlying53
  unfold rulesV
  have hB1 : Below w.heap.size w (w.alloc (.cells #[.slice A1 L1.length c1, .slice A2 L2.length c2, .slice A3 L3.length c3] 53)) := (Below.refl _ w).alloc (Nat.le_refl _) _
  have hcall := has12 A1 c1 L1 x _ (Kd.C_below h.C1 hB1) h.l1 h.b1
  go_enter Tryz.func33, Tryz.ntmps33
  go_wp2_with (first | (go_at_call 12; refine hcall.mono ?_; rintro e w' ⟨rfl, hB2⟩))
  go_ret
  exact ⟨rfl, hB1.trans (hB2.mono hB1.size)⟩
theorem solid34 (x : Int) (w : World) (h : RulesC w A1 c1 L1 A2 c2 L2 A3 c3 L3) : Calls Tryz.prog 34 #[rulesV A1 c1 L1 A2 c2 L2 A3 c3 L3, .int .i64 x] w fun e w' => e = .returned (.bool (hasR L2 x)) ∧ Below w.heap.size w w' := by
  have hu24 := Tryz.underlying24
  have hu53 := Tryz.underlying53
  unfold rulesV
  have hB1 : Below w.heap.size w (w.alloc (.cells #[.slice A1 L1.length c1, .slice A2 L2.length c2, .slice A3 L3.length c3] 53)) := (Below.refl _ w).alloc (Nat.le_refl _) _
  have hcall := has12 A2 c2 L2 x _ (Kd.C_below h.C2 hB1) h.l2 h.b2
  go_enter Tryz.func34, Tryz.ntmps34
  go_wp2_with (first | (go_at_call 12; refine hcall.mono ?_; rintro e w' ⟨rfl, hB2⟩))
  go_ret
  exact ⟨rfl, hB1.trans (hB2.mono hB1.size)⟩
theorem inside35 (x : Int) (w : World) (h : RulesC w A1 c1 L1 A2 c2 L2 A3 c3 L3) : Calls Tryz.prog 35 #[rulesV A1 c1 L1 A2 c2 L2 A3 c3 L3, .int .i64 x] w fun e w' => e = .returned (.bool (hasR L3 x)) ∧ Below w.heap.size w w' := by
  have hu24 := Tryz.underlying24
  have hu53 := Tryz.underlying53
  unfold rulesV
  have hB1 : Below w.heap.size w (w.alloc (.cells #[.slice A1 L1.length c1, .slice A2 L2.length c2, .slice A3 L3.length c3] 53)) := (Below.refl _ w).alloc (Nat.le_refl _) _
  have hcall := has12 A3 c3 L3 x _ (Kd.C_below h.C3 hB1) h.l3 h.b3
  go_enter Tryz.func35, Tryz.ntmps35
  go_wp2_with (first | (go_at_call 12; refine hcall.mono ?_; rintro e w' ⟨rfl, hB2⟩))
  go_ret
  exact ⟨rfl, hB1.trans (hB2.mono hB1.size)⟩
end
def lngGo (sol ins : Int → Bool) : List Int → Nat → Nat → Nat
  | [], _, n => n
  | c :: t, i, n => if sol c then lngGo sol ins t (i + 1) (i + 1) else if !ins c || decide (n < i) then n else lngGo sol ins t (i + 1) n
def lngL (beg sol ins : Int → Bool) : List Int → Nat
  | [] => 0
  | c :: t => if beg c then lngGo sol ins t 1 1 else 0
theorem lngL_cons (beg sol ins : Int → Bool) (text : List Int) (h : ¬ text.length = 0) : lngL beg sol ins text = if beg (text.getD 0 0) then lngGo sol ins (text.drop 1) 1 1 else 0 := by
  match text, h with
  | c :: t, _ => rfl
set_option maxRecDepth 100000 in
set_option maxHeartbeats 1000000 in
theorem longest23 (A1 : Option Addr) (c1 : Nat) (L1 : List S32) (A2 : Option Addr) (c2 : Nat) (L2 : List S32) (A3 : Option Addr) (c3 : Nat) (L3 : List S32) (T : Option Addr) (ct : Nat) (text : List Int) (w : World)
    (h : RulesC w A1 c1 L1 A2 c2 L2 A3 c3 L3) (hT : Kd.C (Kd.int .i64) w T text.length text) (hct : text.length ≤ ct) :
    Calls Tryz.prog 23 #[rulesV A1 c1 L1 A2 c2 L2 A3 c3 L3, .slice T text.length ct] w fun e w' => e = .returned (.int .i64 (lngL (hasR L1) (hasR L2) (hasR L3) text)) ∧ Below w.heap.size w w' ∧ w.heap.size < w'.heap.size := by
  have hu24 := Tryz.underlying24
  have hu53 := Tryz.underlying53
  have hmax := hT.2.1
  unfold rulesV
  go_enter Tryz.func23, Tryz.ntmps23
  go_wp2_with fail
  go_quiet (fail)
  have hB1 : Below w.heap.size w ((w.alloc (.cells #[.slice A1 L1.length c1, .slice A2 L2.length c2, .slice A3 L3.length c3] 53)).drewN nq) := pw_below_drewN ((Below.refl _ w).alloc (Nat.le_refl _) _) nq
  have hsz1 : w.heap.size < ((w.alloc (.cells #[.slice A1 L1.length c1, .slice A2 L2.length c2, .slice A3 L3.length c3] 53)).drewN nq).heap.size := by simp
  have h1 := h.below hB1
  have hT1 := Kd.C_below hT hB1
  clear h hT
  generalize (w.alloc (.cells #[.slice A1 L1.length c1, .slice A2 L2.length c2, .slice A3 L3.length c3] 53)).drewN nq = W1 at hB1 hsz1 h1 hT1 ⊢
  have hs1 := hB1.size
  by_cases hl : text.length = 0
  · have hz : text = [] := List.length_eq_zero_iff.1 hl
    have hz0 : ((text.length : Int) == 0) = true := by rw [hl]; rfl
    go_wp2_with fail
    go_ret
    exact ⟨by rw [hz]; rfl, hB1, hsz1⟩
  · have hl0 : 0 < text.length := by omega
    have hz0 : ((text.length : Int) == 0) = false := beq_eq_false_iff_ne.2 (by omega)
    obtain ⟨x, hxe⟩ : ∃ x, x = text.getD 0 0 := ⟨_, rfl⟩
    have hb := begins33 x W1 h1
    unfold rulesV at hb
    obtain ⟨ad, rfl, hx0⟩ := C_int_cell hT1 hl0
    rw [← hxe] at hx0
    have hx1 : W1.cell? ad = some (.int .i64 x) := by simpa [Addr.add] using hx0
    have HR := Lib.hid (lngL_cons (hasR L1) (hasR L2) (hasR L3) text hl)
    rw [← hxe] at HR
    clear hxe hx0
    obtain ⟨R, hR⟩ : ∃ R, R = lngL (hasR L1) (hasR L2) (hasR L3) text := ⟨_, rfl⟩
    rw [← hR] at HR
    cases hbx : hasR L1 x with
    | false =>
      rw [hbx] at hb
      go_wp2_with (first | (go_at_call 33; refine hb.mono ?_; rintro e W2 ⟨rfl, hB2⟩))
      go_ret
      exact ⟨by rw [← hR, HR.out, if_neg (by rw [hbx]; simp)]; rfl, hB1.trans (hB2.mono hB1.size), by have := hB2.size; omega⟩
    | true =>
      rw [hbx] at hb
      have hyes' := hbx
      go_wp2_with (first | (go_at_call 33; refine hb.mono ?_; rintro e W2 ⟨rfl, hB2⟩))
      have HR2 : Hid (lngGo (hasR L2) (hasR L3) (text.drop 1) 1 1 = R) := Lib.hid (by rw [HR.out, if_pos hyes'])
      have h2 := h1.below hB2
      have hT2 := Kd.C_below hT1 hB2
      have hBw := hB1.trans (hB2.mono hB1.size)
      have hsz2 : w.heap.size < W2.heap.size := by have := hB2.size; omega
      have HRR := Lib.hid hR
      clear hb h1 hT1 hB1 hB2 HR hx1 hyes' hR
      go_loopw [8, 9] (fun nv iv wr => ∃ k n : Nat, k ≤ text.length ∧ n ≤ k ∧ nv = .int .i64 n ∧ iv = .int .i64 k ∧ lngGo (hasR L2) (hasR L3) (text.drop k) k n = R ∧ Below W2.heap.size W2 wr) (fun _ iv _ => text.length - (intOf iv).toNat)
      case atStart => exact ⟨1, 1, by omega, by omega, rfl, rfl, HR2.out, Below.refl _ _⟩
      case round =>
        obtain ⟨k, n, hk, hnk, rfl, rfl, hgo, hB⟩ := hrel
        have Hgo := Lib.hid hgo
        clear hgo
        have h3 := h2.below hB
        have hT3 := Kd.C_below hT2 hB
        by_cases hlt : k < text.length
        · obtain ⟨ad', had', hy0⟩ := C_int_cell hT3 hlt
          obtain rfl : ad = ad' := Option.some.inj had'
          obtain ⟨y, hye⟩ : ∃ y, y = text.getD k 0 := ⟨_, rfl⟩
          rw [← hye] at hy0
          have Hye : Hid (text.drop k = y :: text.drop (k + 1)) := Lib.hid (by rw [List.drop_eq_getElem_cons hlt, hye, List.getD_eq_getElem?_getD, List.getElem?_eq_getElem hlt]; rfl)
          clear hye had'
          have hs := solid34 y wr h3
          unfold rulesV at hs
          go_wp2_with (first
            | (go_at_call 34; refine hs.mono ?_; rintro e W4 ⟨rfl, hB4⟩; clear hs; have hi := inside35 y W4 (h3.below hB4); unfold rulesV at hi)
            | (go_at_call 35; refine hi.mono ?_; rintro e W5 ⟨rfl, hB5⟩; clear hi))
          · next hsol =>
            go_roundw
            case rel => exact ⟨k + 1, k + 1, by omega, by omega, by go_num, by go_num, by
              have hg := Hgo.out
              rw [Hye.out, lngGo, if_pos hsol] at hg
              exact hg, hB.trans (hB4.mono hB.size)⟩
            case measure => simp [intOf]; omega
          · next hsol hins hlt2 =>
            go_ret
            have hg := Hgo.out
            rw [Hye.out, lngGo, if_neg (by rw [hsol]; simp), if_pos (by simp [hlt2])] at hg
            exact ⟨by rw [← HRR.out, ← hg]; rfl, hBw.trans ((hB.trans ((hB4.trans (hB5.mono hB4.size)).mono hB.size)).mono hBw.size), by have := hB.size; have := hB4.size; have := hB5.size; omega⟩
          · next hsol hins hlt2 =>
            go_roundw
            case rel => exact ⟨k + 1, n, by omega, by omega, rfl, by go_num, by
              have hg := Hgo.out
              rw [Hye.out, lngGo, if_neg (by rw [hsol]; simp), if_neg (by simp [hins]; omega)] at hg
              exact hg, hB.trans ((hB4.trans (hB5.mono hB4.size)).mono hB.size)⟩
            case measure => simp [intOf]; omega
          · next hsol hins =>
            go_ret
            have hg := Hgo.out
            rw [Hye.out, lngGo, if_neg (by rw [hsol]; simp), if_pos (by simp [hins])] at hg
            exact ⟨by rw [← HRR.out, ← hg]; rfl, hBw.trans ((hB.trans ((hB4.trans (hB5.mono hB4.size)).mono hB.size)).mono hBw.size), by have := hB.size; have := hB4.size; have := hB5.size; omega⟩
        · obtain rfl : k = text.length := by omega
          go_wp2_with fail
          go_ret
          have hg := Hgo.out
          rw [List.drop_length] at hg
          exact ⟨by rw [← HRR.out, ← hg]; rfl, hBw.trans (hB.mono hBw.size), by have := hB.size; omega⟩
end Go.Proofs.YtjfcmiocmcdjlaaGreatDoor.G
