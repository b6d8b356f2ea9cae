/- ident.Prepare at no data; the chapter's sets; equal texts. -/
import Derived.Test.YtjfcmiocmcdjlaaGreatDoorANo17
namespace Go.Proofs.YtjfcmiocmcdjlaaGreatDoor.G
open Go.RowKit Go.Proofs.YtjfcmiocmcdjlaaGreatDoorW.PrintWords Go.Proofs.YtjfcmiocmcdjlaaGreatDoorW.PrintLast Go.Proofs.YtjfcmiocmcdjlaaGreatDoorW.PrintMore
open Go.Uc
set_option linter.unusedVariables false
set_option maxHeartbeats 1000000 in
theorem compare29 (A : Option Addr) (c : Nat) (B : Option Addr) (d : Nat) (text : List Int) (w : World) (hA : Kd.C (Kd.int .i64) w A text.length text) (hB : Kd.C (Kd.int .i64) w B text.length text) :
    Calls Tryz.prog 29 #[.slice A text.length c, .slice B text.length d] w fun e w' => e = .returned (.int .i64 0) ∧ Below w.heap.size w w' := by
  have hmax := hA.2.1
  go_enter Tryz.func29, Tryz.ntmps29
  go_wp2_with fail
  go_loopw [5] (fun v wr => ∃ k : Nat, v = .int .i64 k ∧ k ≤ text.length ∧ Below w.heap.size w wr) (fun v _ => text.length - (intOf v).toNat)
  case atStart => exact ⟨0, rfl, Nat.zero_le _, Below.refl _ _⟩
  case round =>
    obtain ⟨k, rfl, hk, hBw⟩ := hrel
    by_cases hlt : k < text.length
    · obtain ⟨a, rfl, ha⟩ := C_int_cell (Kd.C_below hA hBw) hlt
      obtain ⟨b, rfl, hb⟩ := C_int_cell (Kd.C_below hB hBw) hlt
      generalize text.getD k 0 = x at ha hb
      go_wp2_with fail
      go_quiet (fail)
      go_wp2_with fail
      go_quiet (fail)
      go_wp2_with fail
      go_roundw
      case rel => exact ⟨k + 1, by go_num, by omega, pw_below_drewN hBw _⟩
      case measure => simp [intOf]; omega
    · obtain rfl : k = text.length := by omega
      go_wp2_with fail
      go_ret
      exact ⟨rfl, hBw⟩
theorem equal19 (A : Option Addr) (c : Nat) (B : Option Addr) (d : Nat) (text : List Int) (w : World) (hA : Kd.C (Kd.int .i64) w A text.length text) (hB : Kd.C (Kd.int .i64) w B text.length text) :
    Calls Tryz.prog 19 #[.slice A text.length c, .slice B text.length d] w fun e w' => e = .returned (.bool true) ∧ Below w.heap.size w w' := by
  have hc := compare29 A c B d text w hA hB
  go_enter Tryz.func19, Tryz.ntmps19
  go_wp2_with (first | (go_at_call 29; refine hc.mono ?_; rintro e w1 ⟨rfl, hB1⟩))
  go_ret
  exact ⟨rfl, hB1⟩
theorem one_own (x : S32) (W : World) : (W.alloc (.cells #[.int .i64 x.f0, .int .i64 x.f1] 32)).ownsRow W.heap.size 32 2 (.slice (some ⟨W.heap.size, 0, none⟩) [x].length 1) [x].length (cellsR [x]) :=
  ⟨rfl, .inr ⟨W.heap.size, 1, _, rfl, Nat.le_refl _, World.alloc_heap_new _ _, by simp, by decide, by simp, by simp [cellsR, encR]⟩⟩
theorem one_C (x : S32) (W : World) : Kd.C k32 (W.alloc (.cells #[.int .i64 x.f0, .int .i64 x.f1] 32)) (some ⟨W.heap.size, 0, none⟩) [x].length [x] := (own_C (one_own x W)).1
def sam0 : List S32 := [⟨97, 122⟩]
def sam2 : List S32 := [⟨45, 45⟩]
theorem sample17 (w : World) : Calls Tryz.prog 17 #[] w fun e w' => ∃ b1 b2, e = .returned (.agg #[.slice (some ⟨b1, 0, none⟩) 1 1, .slice none 0 0, .slice (some ⟨b2, 0, none⟩) 1 1]) ∧ Kd.C k32 w' (some ⟨b1, 0, none⟩) sam0.length sam0 ∧ Kd.C k32 w' (some ⟨b2, 0, none⟩) sam2.length sam2 ∧ Below w.heap.size w w' := by
  have hu32 := Tryz.underlying32
  have hu24 := Tryz.underlying24
  have hu26 := Tryz.underlying26
  have hu22 := Tryz.underlying22
  go_enter Tryz.func17, Tryz.ntmps17
  go_wp2_with fail
  generalize hA : (Obj.cells #[Value.slice (some ⟨w.heap.size + 1, 0, none⟩) 1 1, Value.slice none 0 0, Value.slice (some ⟨w.heap.size + 1 + 1, 0, none⟩) 1 1] 26) = oA
  have c0 := one_C ⟨97, 122⟩ (w.alloc oA)
  have c1 := Kd.C_below c0 ((Below.refl _ _).alloc (Nat.le_refl _) (.cells #[.int .i64 45, .int .i64 45] 32))
  have c2 := one_C ⟨45, 45⟩ ((w.alloc oA).alloc (.cells #[.int .i64 97, .int .i64 122] 32))
  have s1 : (w.alloc oA).heap.size = w.heap.size + 1 := by simp
  have s2 : ((w.alloc oA).alloc (.cells #[.int .i64 97, .int .i64 122] 32)).heap.size = w.heap.size + 1 + 1 := by simp
  rw [s1] at c1
  rw [s2] at c2
  have hB : Below w.heap.size w (((w.alloc oA).alloc (.cells #[.int .i64 97, .int .i64 122] 32)).alloc (.cells #[.int .i64 45, .int .i64 45] 32)) := (((Below.refl _ w).alloc (Nat.le_refl _) _).alloc (by omega) _).alloc (by omega) _
  have x0 : (((w.alloc oA).alloc (.cells #[.int .i64 97, .int .i64 122] 32)).alloc (.cells #[.int .i64 45, .int .i64 45] 32)).heap[w.heap.size]? = some oA := (Below.heap_alloc _ _ _ (by omega)).trans ((Below.heap_alloc _ _ _ (by omega)).trans (World.alloc_heap_new w oA))
  generalize (((w.alloc oA).alloc (.cells #[.int .i64 97, .int .i64 122] 32)).alloc (.cells #[.int .i64 45, .int .i64 45] 32)) = W at c1 c2 hB x0 ⊢
  subst hA
  have y0 := cell_at (i := 0) x0 rfl
  have y1 := cell_at (i := 1) x0 rfl
  have y2 := cell_at (i := 2) x0 rfl
  exact bodyPost_ret (v := .agg #[.slice (some ⟨w.heap.size + 1, 0, none⟩) 1 1, .slice none 0 0, .slice (some ⟨w.heap.size + 1 + 1, 0, none⟩) 1 1]) (by simp [results, Tryz.results17, go_sem, y0, y1, y2]) rfl ⟨_, _, rfl, c1, c2, hB⟩
set_option maxRecDepth 100000 in
set_option maxHeartbeats 4000000 in
theorem prepare18 (q : Bool) (A : Option Addr) (c : Nat) (l0 : List S32) (A' : Option Addr) (c' : Nat) (l1 : List S32) (A'' : Option Addr) (c'' : Nat) (l2 : List S32) (T : Option Addr) (ct : Nat) (text : List Int) (w : World)
    (hr : Kd.C k32 w A l0.length l0) (hc : l0.length ≤ c) (hl : l0.length ≤ 1000000) (hr' : Kd.C k32 w A' l1.length l1) (hc' : l1.length ≤ c') (hm : l1.length ≤ 1000000)
    (hr'' : Kd.C k32 w A'' l2.length l2) (hc'' : l2.length ≤ c'') (hn : l2.length ≤ 1000000) (hT : Kd.C (Kd.int .i64) w T text.length text) (hct : text.length ≤ ct) (htl : text.length ≤ 1000000000) (hlow : ∀ x ∈ text, x < 4352) :
    Calls Tryz.prog 18 #[noN, noC, .agg #[.slice A l0.length c, .slice A' l1.length c', .slice A'' l2.length c''], .slice T text.length ct, .bool false, .bool q] w fun e w' =>
      (if validS l0 l1 l2 text = true then ∃ v, e = .returned (.tuple #[v, .agg #[.int .i64 0, .int .i64 0]]) ∧ Kd.R (Kd.int .i64) 3 w' w.heap.size (fun _ => True) v text
        else e = .returned (.tuple #[.slice none 0 0, .agg #[.int .i64 7, .int .i64 (wrongF (begS l0) (solS l0 l1) (insS l0 l1 l2) text)]])) ∧ Below w.heap.size w w' := by
  have hu45 := Tryz.underlying45
  have hu47 := Tryz.underlying47
  have hu26 := Tryz.underlying26
  have hu39 := Tryz.underlying39
  have hu53 := Tryz.underlying53
  obtain ⟨oN, hoN⟩ : ∃ o : Obj, o = .cells #[.slice none 0 0, .slice none 0 0, .slice none 0 0] 45 := ⟨_, rfl⟩
  obtain ⟨oC, hoC⟩ : ∃ o : Obj, o = .cells #[.slice none 0 0, .slice none 0 0, .slice none 0 0, .slice none 0 0, .slice none 0 0, .slice none 0 0] 47 := ⟨_, rfl⟩
  obtain ⟨oI, hoI⟩ : ∃ o : Obj, o = .cells #[.slice A l0.length c, .slice A' l1.length c', .slice A'' l2.length c''] 26 := ⟨_, rfl⟩
  obtain ⟨oF, hoF⟩ : ∃ o : Obj, o = .cells #[.int .i64 0, .int .i64 0] 39 := ⟨_, rfl⟩
  obtain ⟨W4, hW4⟩ : ∃ W4, W4 = (((w.alloc oN).alloc oC).alloc oI).alloc oF := ⟨_, rfl⟩
  have s4 : W4.heap.size = w.heap.size + 1 + 1 + 1 + 1 := by rw [hW4]; simp
  have hB4 : Below w.heap.size w W4 := by rw [hW4]; exact ((((Below.refl _ w).alloc (Nat.le_refl _) _).alloc (by simp) _).alloc (by simp; omega) _).alloc (by simp <;> omega) _
  have xI : W4.heap[w.heap.size + 1 + 1]? = some oI := by
    rw [hW4]
    refine (Below.heap_alloc _ _ _ (by simp)).trans ?_
    have := World.alloc_heap_new ((w.alloc oN).alloc oC) oI
    simpa using this
  have xF : W4.heap[w.heap.size + 1 + 1 + 1]? = some oF := by
    rw [hW4]
    have := World.alloc_heap_new (((w.alloc oN).alloc oC).alloc oI) oF
    simpa using this
  have xN : NoB W4 w.heap.size := ⟨by rw [hW4, ← hoN]; exact (Below.heap_alloc _ _ _ (by simp; omega)).trans ((Below.heap_alloc _ _ _ (by simp; omega)).trans ((Below.heap_alloc _ _ _ (by simp)).trans (World.alloc_heap_new w oN)))⟩
  have xC : NoCB W4 (w.heap.size + 1) := ⟨by rw [hW4, ← hoC]; refine (Below.heap_alloc _ _ _ (by simp)).trans ((Below.heap_alloc _ _ _ (by simp)).trans ?_); have := World.alloc_heap_new (w.alloc oN) oC; simpa using this⟩
  have hp := Lib.hid (prepared27 q T ct text W4 (Kd.C_below hT hB4) hct htl hlow)
  have HC4 := Lib.hid (And.intro (Kd.C_below hr hB4) (And.intro (Kd.C_below hr' hB4) (Kd.C_below hr'' hB4)))
  have HB4 := Lib.hid hB4
  have HXI := Lib.hid xI
  have HXF := Lib.hid xF
  have HS4 := Lib.hid s4
  clear hB4 xI xF xN xC hr hr' hr'' hT hlow htl s4
  subst hW4
  subst hoI hoF hoN hoC
  unfold noN noC at *
  have b1 := orL_length l0 []
  have b2 := orL_length l0 l1
  have b3 := orL_length (orL l0 l1) l2
  simp only [List.length_nil] at b1
  have Hbd := Lib.hid (And.intro b1 (And.intro b2 b3))
  clear b1 b2 b3
  cases hv : validS l0 l1 l2 text
  · go_enter Tryz.func18, Tryz.ntmps18
    go_wp2_with (first
      | (go_at_call 27; refine hp.out.mono ?_; rintro e w5 ⟨v, rfl, hR, hb⟩; obtain ⟨VA, Vc, rfl⟩ := Kd.R_slice hR
         obtain ⟨_, hVc, hCV⟩ := Kd.R_reads' hR
         have XI5 := Lib.hid ((hb.block (w.heap.size + 1 + 1) (by rw [HS4.out]; omega)).trans HXI.out)
         have XF5 := Lib.hid ((hb.block (w.heap.size + 1 + 1 + 1) (by rw [HS4.out]; omega)).trans HXF.out)
         have x0 := cell_at (i := 0) XI5.out rfl; have x1 := cell_at (i := 1) XI5.out rfl; have x2 := cell_at (i := 2) XI5.out rfl
         have HB5 := Lib.hid (HB4.out.trans (hb.mono HB4.out.size))
         have HC5 := Lib.hid (And.intro (Kd.C_below HC4.out.1 hb) (And.intro (Kd.C_below HC4.out.2.1 hb) (Kd.C_below HC4.out.2.2 hb)))
         have hvl := valid11 A c l0 A' c' l1 A'' c'' l2 VA Vc text w5 HC5.out.1 hc hl HC5.out.2.1 hc' hm HC5.out.2.2 hc'' hn hCV hVc
         rw [hv] at hvl
         have Hvl := Lib.hid hvl
         have HR5 := Lib.hid hR
         have HCV5 := Lib.hid hCV
         clear hb hp HC4 HB4 HXI HXF hR hCV hvl)
      | (go_at_call 11; refine Hvl.out.mono ?_; rintro e w6 ⟨rfl, hb⟩
         have XI6 := Lib.hid ((hb.block _ (Array.getElem?_eq_some_iff.1 XI5.out).1).trans XI5.out)
         have XF6 := (hb.block _ (Array.getElem?_eq_some_iff.1 XF5.out).1).trans XF5.out
         have y0 := cell_at (i := 0) XI6.out rfl; have y1 := cell_at (i := 1) XI6.out rfl; have y2 := cell_at (i := 2) XI6.out rfl
         have HB6 := Lib.hid (HB5.out.trans (hb.mono HB5.out.size))
         have HC6 := Lib.hid (And.intro (Kd.C_below HC5.out.1 hb) (And.intro (Kd.C_below HC5.out.2.1 hb) (Kd.C_below HC5.out.2.2 hb)))
         have HCV6 := Lib.hid (Kd.C_below HCV5.out hb)
         have HR6 := Lib.hid (Kd.R_below HR5.out hb)
         have hof := Lib.hid (of21 A c l0 A' c' l1 A'' c'' l2 w6 HC6.out.1 hc hl HC6.out.2.1 hc' hm HC6.out.2.2 hc'' hn)
         have XF6 := Lib.hid XF6
         clear x0 x1 x2 hb Hvl HC5 HB5 XI5 XF5 HCV5 HR5)
      | (go_at_call 21; refine hof.out.mono ?_; rintro e w7 ⟨A1, c1, A2, c2, A3, c3, rfl, ⟨C1, le1⟩, ⟨C2, le2⟩, ⟨C3, le3⟩, hb⟩
         have hwr := wrong28 A1 c1 (orL l0 []) A2 c2 (orL l0 l1) A3 c3 (orL (orL l0 l1) l2) VA Vc text w7 ⟨C1, le1, by have := Hbd.out.1; omega, C2, le2, by have := Hbd.out.2.1; omega, C3, le3, by have := Hbd.out.2; omega⟩ (Kd.C_below HCV6.out hb) hVc
         unfold rulesV at hwr
         rw [or_beg, or_sol, or_ins] at hwr
         have Hwr := Lib.hid hwr
         have XF7 := Lib.hid ((hb.block _ (Array.getElem?_eq_some_iff.1 XF6.out).1).trans XF6.out)
         have HB7 := Lib.hid (HB6.out.trans (hb.mono HB6.out.size))
         clear hwr C1 C2 C3 hb hof HC6 HB6 XF6 XI6 HCV6 HR6 y0 y1 y2)
      | (go_at_call 28; refine Hwr.out.mono ?_; rintro e w8 ⟨rfl, hb⟩
         have XF8 := (hb.block _ (Array.getElem?_eq_some_iff.1 XF7.out).1).trans XF7.out
         have x0 := cell_at (i := 0) XF8 rfl; have x1 := cell_at (i := 1) XF8 rfl
         have f0 : ∀ k, w8.frozen? ⟨w.heap.size + 1 + 1 + 1, k, none⟩ = false := fun k => by simp [World.frozen?, XF8]
         have HB8 := Lib.hid (HB7.out.trans (hb.mono HB7.out.size))
         clear hb Hwr HB7 XF7))
    exact bodyPost_ret (v := .tuple #[.slice none 0 0, .agg #[.int .i64 7, .int .i64 (wrongF (begS l0) (solS l0 l1) (insS l0 l1 l2) text)]]) (by simp [results, Tryz.results18, go_sem, x0, x1, XF8]) rfl ⟨rfl, (HB8.out.setCell (p := ⟨w.heap.size + 1 + 1 + 1, 0, none⟩) (by simp; omega) _).setCell (p := ⟨w.heap.size + 1 + 1 + 1, 1, none⟩) (by simp; omega) _⟩
  · go_enter Tryz.func18, Tryz.ntmps18
    go_wp2_with (first
      | (go_at_call 27; refine hp.out.mono ?_; rintro e w5 ⟨v, rfl, hR, hb⟩; obtain ⟨VA, Vc, rfl⟩ := Kd.R_slice hR
         obtain ⟨_, hVc, hCV⟩ := Kd.R_reads' hR
         have XI5 := Lib.hid ((hb.block (w.heap.size + 1 + 1) (by rw [HS4.out]; omega)).trans HXI.out)
         have XF5 := Lib.hid ((hb.block (w.heap.size + 1 + 1 + 1) (by rw [HS4.out]; omega)).trans HXF.out)
         have x0 := cell_at (i := 0) XI5.out rfl; have x1 := cell_at (i := 1) XI5.out rfl; have x2 := cell_at (i := 2) XI5.out rfl
         have HB5 := Lib.hid (HB4.out.trans (hb.mono HB4.out.size))
         have HC5 := Lib.hid (And.intro (Kd.C_below HC4.out.1 hb) (And.intro (Kd.C_below HC4.out.2.1 hb) (Kd.C_below HC4.out.2.2 hb)))
         have hvl := valid11 A c l0 A' c' l1 A'' c'' l2 VA Vc text w5 HC5.out.1 hc hl HC5.out.2.1 hc' hm HC5.out.2.2 hc'' hn hCV hVc
         rw [hv] at hvl
         have Hvl := Lib.hid hvl
         have HR5 := Lib.hid hR
         have HCV5 := Lib.hid hCV
         clear hb hp HC4 HB4 HXI HXF hR hCV hvl)
      | (go_at_call 11; refine Hvl.out.mono ?_; rintro e w6 ⟨rfl, hb⟩
         have XI6 := Lib.hid ((hb.block _ (Array.getElem?_eq_some_iff.1 XI5.out).1).trans XI5.out)
         have XF6 := (hb.block _ (Array.getElem?_eq_some_iff.1 XF5.out).1).trans XF5.out
         have y0 := cell_at (i := 0) XI6.out rfl; have y1 := cell_at (i := 1) XI6.out rfl; have y2 := cell_at (i := 2) XI6.out rfl
         have HB6 := Lib.hid (HB5.out.trans (hb.mono HB5.out.size))
         have HC6 := Lib.hid (And.intro (Kd.C_below HC5.out.1 hb) (And.intro (Kd.C_below HC5.out.2.1 hb) (Kd.C_below HC5.out.2.2 hb)))
         have HCV6 := Lib.hid (Kd.C_below HCV5.out hb)
         have HR6 := Lib.hid (Kd.R_below HR5.out hb)
         have x4 := cell_at (i := 0) XF6 rfl; have x5 := cell_at (i := 1) XF6 rfl
         have f0 : ∀ k, w6.frozen? ⟨w.heap.size + 1 + 1 + 1, k, none⟩ = false := fun k => by simp [World.frozen?, XF6]
         have z0 := setCell_same (k := 0) (v := .int .i64 0) XF6 rfl; have z1 := setCell_same (k := 1) (v := .int .i64 0) XF6 rfl
         clear HC6 y0 y1 y2 XI6
         clear x0 x1 x2 hb Hvl HC5 HB5 XI5 XF5 HCV5 HR5))
    exact bodyPost_ret (v := .tuple #[.slice VA text.length Vc, .agg #[.int .i64 0, .int .i64 0]]) (by simp [results, Tryz.results18, go_sem, x4, x5]) rfl ⟨⟨_, rfl, R_lower (by rw [HS4.out]; omega) HR6.out⟩, HB6.out⟩
end Go.Proofs.YtjfcmiocmcdjlaaGreatDoor.G
