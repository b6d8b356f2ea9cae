/- The chapter's examples: they hold. -/
import Derived.Test.YtjfcmiocmcdjlaaGreatDoorANo18
import Derived.Test.YtjfcmiocmcdjlaaGreatDoorAG4
namespace Go.Proofs.YtjfcmiocmcdjlaaGreatDoor.G
open Go.RowKit Go.Proofs.YtjfcmiocmcdjlaaGreatDoorW.PrintWords Go.Proofs.YtjfcmiocmcdjlaaGreatDoorW.PrintLast Go.Proofs.YtjfcmiocmcdjlaaGreatDoorW.PrintMore
open Go.Uc
set_option linter.unusedVariables false
theorem rowI (l : List Int) (hl : l.length ≤ 1000000000) (W : World) : Kd.C (Kd.int .i64) (W.alloc (.cells (l.map (Value.int .i64)).toArray 3)) (some ⟨W.heap.size, 0, none⟩) l.length l := by
  have hml : (1000000001 : Nat) ≤ maxLen := by decide
  have ho : (W.alloc (.cells (l.map (Value.int .i64)).toArray 3)).ownsRow W.heap.size 3 1 (.slice (some ⟨W.heap.size, 0, none⟩) l.length l.length) l.length (encs (Value.int .i64) l) :=
    ⟨by simp [encs], .inr ⟨W.heap.size, l.length, _, rfl, Nat.le_refl _, World.alloc_heap_new _ _, Nat.le_refl _, by omega, by simp, by rw [Nat.mul_one]; simp only [encs]; exact List.take_of_length_le (by simp)⟩⟩
  have hR : Kd.R (Kd.int .i64) 3 (W.alloc (.cells (l.map (Value.int .i64)).toArray 3)) W.heap.size (fun _ => True) (.slice (some ⟨W.heap.size, 0, none⟩) l.length l.length) l := Kd.R_of_own ho (fun _ _ => trivial)
  exact (Kd.R_reads' hR).2.2
theorem allocB (W : World) (o : Obj) : Below W.heap.size W (W.alloc o) := (Below.refl _ _).alloc (Nat.le_refl _) _
def exL : List S32 := [⟨0, 1⟩, ⟨3, 4⟩]
theorem split_ex : splitS sam0 [] sam2 [97, 45, 45, 98, 45] = exL := by kernel_rfl
theorem valid_ex1 : validS sam0 [] sam2 [97, 45, 45, 98] = false := by decide
theorem valid_ex2 : validS sam0 [] sam2 [97, 45, 98] = true := by decide
theorem valid_ex3 : validS sam0 [] sam2 [97, 45] = false := by decide
theorem wrong_ex : wrongF (begS sam0) (solS sam0 []) (insS sam0 [] sam2) [97, 45, 45, 98] = 2 := by decide
theorem same_ex : unicodetextref20_SameRanges.f 3 exL exL = some true := by kernel_rfl
theorem low_of {l : List Int} (h : l.all (fun x => decide (x < 4352)) = true) : ∀ x ∈ l, x < 4352 := fun x hx => by simpa using List.all_eq_true.1 h x hx
/-- What is kept: the split ranges, the first fault. -/
structure Kp (w W : World) (A1 : Option Addr) (c1 B3 : Nat) : Prop where
  b : Below w.heap.size w W
  c : Kd.C k32 W A1 exL.length exL
  f : W.heap[B3]? = some (.cells #[.int .i64 7, .int .i64 2] 39 (0, 0))
theorem Kp.below {w W W' : World} {A1 : Option Addr} {c1 B3 : Nat} (h : Kp w W A1 c1 B3) (hb : Below W.heap.size W W') : Kp w W' A1 c1 B3 :=
  ⟨h.b.trans (hb.mono h.b.size), Kd.C_below h.c hb, (hb.block _ (Array.getElem?_eq_some_iff.1 h.f).1).trans h.f⟩
structure Kq (w W : World) (A1 : Option Addr) (c1 B3 : Nat) (A4 : Option Addr) (B5 : Nat) : Prop where
  p : Kp w W A1 c1 B3
  c : Kd.C (Kd.int .i64) W A4 [(97 : Int), 45, 98].length [97, 45, 98]
  f : W.heap[B5]? = some (.cells #[.int .i64 0, .int .i64 0] 39 (0, 0))
theorem Kq.below {w W W' : World} {A1 : Option Addr} {c1 B3 : Nat} {A4 : Option Addr} {B5 : Nat} (h : Kq w W A1 c1 B3 A4 B5) (hb : Below W.heap.size W W') : Kq w W' A1 c1 B3 A4 B5 :=
  ⟨h.p.below hb, Kd.C_below h.c hb, (hb.block _ (Array.getElem?_eq_some_iff.1 h.f).1).trans h.f⟩
set_option maxRecDepth 100000 in
set_option maxHeartbeats 8000000 in
theorem alive9 (w : World) : Calls Tryz.prog 9 #[] w fun e w' => e = .returned (.bool true) ∧ Below w.heap.size w w' := by
  have hu32 := Tryz.underlying32
  have hu39 := Tryz.underlying39
  have hu45 := Tryz.underlying45
  have hu47 := Tryz.underlying47
  have hu26 := Tryz.underlying26
  have hu27 := Tryz.underlying27
  have hu22 := Tryz.underlying22
  go_enter Tryz.func9, Tryz.ntmps9
  go_wp2_with fail
  refine (sample17 _).mono ?_
  rintro e w1 ⟨b1, b2, rfl, s0, s2, hb1⟩
  go_wp2_with fail
  have hr1 := rowI [97, 45, 45, 98, 45] (by decide) w1
  refine (split10 (some ⟨b1, 0, none⟩) 1 sam0 none 0 [] (some ⟨b2, 0, none⟩) 1 sam2 _ 5 [97, 45, 45, 98, 45] _ (Kd.C_below s0 (allocB _ _)) (by decide) (by decide) (Kd.C_nil _ _) (by decide) (by decide) (Kd.C_below s2 (allocB _ _)) (by decide) (by decide) hr1 (by decide) (by decide)).mono ?_
  rintro e w2 ⟨v1, rfl, ho1, hb2⟩
  rw [split_ex] at ho1
  obtain ⟨A1, c1, rfl⟩ := Kd.R_slice (R32_of_own ho1)
  have hB2 : Below w.heap.size w w2 := hb1.trans (((allocB w1 _).trans (hb2.mono (by simp))).mono hb1.size)
  have hC2 := (own_C ho1).1
  have hc1 := (own_C ho1).2
  clear ho1 hb1 hb2 hr1 s0 s2
  go_wp2_with fail
  refine (sample17 _).mono ?_
  rintro e w3 ⟨b1, b2, rfl, s0, s2, hb3⟩
  go_wp2_with fail
  have hr := rowI [97, 45, 45, 98] (by decide) w3
  refine (prepare18 false (some ⟨b1, 0, none⟩) 1 sam0 none 0 [] (some ⟨b2, 0, none⟩) 1 sam2 _ _ [97, 45, 45, 98] _ (Kd.C_below s0 (allocB _ _)) (by decide) (by decide) (Kd.C_nil _ _) (by decide) (by decide) (Kd.C_below s2 (allocB _ _)) (by decide) (by decide) hr (by decide) (by decide) (low_of (by decide))).mono ?_
  rintro e w4 ⟨h4, hb4⟩
  rw [valid_ex1, wrong_ex, if_neg (by decide)] at h4
  subst h4
  have hb34 := hb3.trans (((allocB w3 _).trans (hb4.mono (by simp))).mono hb3.size)
  have hB4 := hB2.trans (hb34.mono hB2.size)
  have hC4 := Kd.C_below hC2 hb34
  clear hb3 hb4 hr s0 s2 hC2 hB2 hb34
  go_wp2_with fail
  have k0 : Kp w (w4.alloc (.cells #[.int .i64 7, .int .i64 2] 39)) A1 c1 w4.heap.size := ⟨hB4.alloc hB4.size _, Kd.C_below hC4 (allocB _ _), World.alloc_heap_new _ _⟩
  clear hB4 hC4
  refine (sample17 _).mono ?_
  rintro e w5 ⟨b1, b2, rfl, s0, s2, hb⟩
  have k1 := k0.below hb
  clear k0 hb
  go_wp2_with fail
  have hr := rowI [97, 45, 98] (by decide) w5
  refine (prepare18 true (some ⟨b1, 0, none⟩) 1 sam0 none 0 [] (some ⟨b2, 0, none⟩) 1 sam2 _ _ [97, 45, 98] _ (Kd.C_below s0 (allocB _ _)) (by decide) (by decide) (Kd.C_nil _ _) (by decide) (by decide) (Kd.C_below s2 (allocB _ _)) (by decide) (by decide) hr (by decide) (by decide) (low_of (by decide))).mono ?_
  rintro e w6 ⟨h6, hb⟩
  rw [valid_ex2, if_pos rfl] at h6
  obtain ⟨v4, rfl, hR4⟩ := h6
  obtain ⟨A4, c4, rfl⟩ := Kd.R_slice hR4
  have hC4 := (Kd.R_reads' hR4).2.2
  have hc4 := (Kd.R_reads' hR4).2.1
  have k2 := (k1.below (allocB w5 _)).below hb
  clear hR4 k1 hb hr s0 s2
  go_wp2_with fail
  have q0 : Kq w (w6.alloc (.cells #[.int .i64 0, .int .i64 0] 39)) A1 c1 w4.heap.size A4 w6.heap.size := ⟨k2.below (allocB _ _), Kd.C_below hC4 (allocB _ _), World.alloc_heap_new _ _⟩
  clear k2 hC4
  refine (sample17 _).mono ?_
  rintro e w7 ⟨b1, b2, rfl, s0, s2, hb⟩
  have q1 := q0.below hb
  clear q0 hb
  go_wp2_with fail
  have hr := rowI [97, 45, 98] (by decide) w7
  refine (valid11 (some ⟨b1, 0, none⟩) 1 sam0 none 0 [] (some ⟨b2, 0, none⟩) 1 sam2 _ _ [97, 45, 98] _ (Kd.C_below s0 (allocB _ _)) (by decide) (by decide) (Kd.C_nil _ _) (by decide) (by decide) (Kd.C_below s2 (allocB _ _)) (by decide) (by decide) hr (by decide)).mono ?_
  rintro e w8 ⟨rfl, hb⟩
  rw [valid_ex2]
  have q2 := (q1.below (allocB w7 _)).below hb
  clear hb hr s0 s2 q1
  go_wp2_with fail
  refine (sample17 _).mono ?_
  rintro e w9 ⟨b1, b2, rfl, s0, s2, hb⟩
  have q3 := q2.below hb
  clear q2 hb
  go_wp2_with fail
  have hr := rowI [97, 45] (by decide) w9
  refine (valid11 (some ⟨b1, 0, none⟩) 1 sam0 none 0 [] (some ⟨b2, 0, none⟩) 1 sam2 _ _ [97, 45] _ (Kd.C_below s0 (allocB _ _)) (by decide) (by decide) (Kd.C_nil _ _) (by decide) (by decide) (Kd.C_below s2 (allocB _ _)) (by decide) (by decide) hr (by decide)).mono ?_
  rintro e w10 ⟨rfl, hb⟩
  rw [valid_ex3]
  have q4 := (q3.below (allocB w9 _)).below hb
  clear hb hr s0 s2 q3
  go_wp2_with fail
  have hx : (w10.alloc (.cells #[.int .i64 0, .int .i64 1, .int .i64 3, .int .i64 4] 32)).ownsRow w10.heap.size 32 2 (.slice (some ⟨w10.heap.size, 0, none⟩) exL.length 2) exL.length (cellsR exL) :=
    ⟨rfl, .inr ⟨w10.heap.size, 2, _, rfl, Nat.le_refl _, World.alloc_heap_new _ _, by decide, by decide, rfl, rfl⟩⟩
  have q5 := q4.below (allocB w10 (.cells #[.int .i64 0, .int .i64 1, .int .i64 3, .int .i64 4] 32))
  refine (unicodetextref20_SameRanges.calls 3 A1 c1 exL (some ⟨w10.heap.size, 0, none⟩) 2 exL true _ q5.p.c hc1 (own_C hx).1 (by decide) same_ex).mono ?_
  rintro e w11 ⟨rfl, ⟨kd, rfl⟩⟩
  have q6 := q5.below (pw_below_drewN (Below.refl _ _) kd)
  generalize (w10.alloc (.cells #[.int .i64 0, .int .i64 1, .int .i64 3, .int .i64 4] 32)).drewN kd = w12 at q6 ⊢
  clear hx q5 q4
  have x0 := cell_at (i := 0) q6.p.f rfl
  have x1 := cell_at (i := 1) q6.p.f rfl
  go_wp2_with fail
  have hr := rowI [97, 45, 98] (by decide) w12
  have q7 := q6.below (allocB w12 (.cells ([97, 45, 98].map (Value.int .i64)).toArray 3))
  refine (equal19 A4 c4 (some ⟨w12.heap.size, 0, none⟩) 3 [97, 45, 98] _ q7.c hr).mono ?_
  rintro e w13 ⟨rfl, hb⟩
  have q8 := q7.below hb
  clear hr q6 q7 hb x0 x1
  have x0 := cell_at (i := 0) q8.f rfl
  have x1 := cell_at (i := 1) q8.f rfl
  have HB := Lib.hid q8.p.b
  clear q8
  go_wp2_with fail
  go_ret
  exact ⟨rfl, HB.out⟩
def unicodetextlaw39_alive.f : Option Bool := some true
theorem unicodetextlaw39_alive.calls (r : Bool) (w : World) (h : unicodetextlaw39_alive.f = some r) :
    Calls Tryz.prog 9 #[] w fun e w' => e = .returned (.bool r) ∧ Below w.heap.size w w' := by
  obtain rfl : true = r := Option.some.inj h
  exact alive9 w
end Go.Proofs.YtjfcmiocmcdjlaaGreatDoor.G
