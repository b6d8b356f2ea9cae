/- compose.Text at no data, of a low text: the same text. -/
import Derived.Test.YtjfcmiocmcdjlaaGreatDoorANo11
import Derived.Scope
namespace Go.Proofs.YtjfcmiocmcdjlaaGreatDoor.G
open Go.RowKit Go.Proofs.YtjfcmiocmcdjlaaGreatDoorW.PrintWords Go.Proofs.YtjfcmiocmcdjlaaGreatDoorW.PrintLast Go.Proofs.YtjfcmiocmcdjlaaGreatDoorW.PrintMore
open Go.Uc
set_option linter.unusedVariables false
/-- An empty map. -/
def NoM (w : World) (b : Nat) : Prop := w.heap[b]? = some (.map #[] 0)
theorem comp73 (w : World) : Calls Tryz.prog 73 #[noN] w fun e w' => ∃ b, e = .returned (.map (some b)) ∧ NoM w' b ∧ Below w.heap.size w w' := by
  have hmm := @run_makeMap Tryz.prog
  have hu45 := Tryz.underlying45
  have hB0 := NoB.new_below w
  have x0 := (NoB.new w).c1
  unfold noN
  go_enter Tryz.func73, Tryz.ntmps73
  go_wp2_with (first | (refine wp_loop_once ?_))
  go_ret
  exact ⟨_, rfl, by unfold NoM; simpa using World.alloc_heap_new (w.alloc (.cells #[.slice none 0 0, .slice none 0 0, .slice none 0 0] 45)) (.map #[] 0), hB0.alloc hB0.size _⟩
theorem zeroV3 (w : World) : (zeroValue 3).run Tryz.prog w = .ok (.int .i64 0) w := by kernel_rfl
theorem chk107 (a b : Int) (w : World) : (Instr.checkKey true 10000 107 (.agg #[.int .i64 a, .int .i64 b])).run Tryz.prog w = .ok () w := by
  have u3 := Tryz.underlying3
  have a3 := Tryz.isAgg3
  have z3 := Tryz.sizeOf3
  rw [show (10000 : Nat) = 9999 + 1 from rfl, Instr.checkKey]
  simp only [Sem.run_bind, run_underlying Tryz.underlying107, Result.andThen_ok]
  simp only [Std.Legacy.Range.forIn_eq_forIn_range', Std.Legacy.Range.size, Nat.sub_zero, Nat.add_sub_cancel, Nat.div_one, List.range'_succ, List.range'_zero, List.forIn_cons, List.forIn_nil]
  have ci : ∀ (n : Int) (w : World), (Instr.checkKey true 9999 3 (.int .i64 n)).run Tryz.prog w = .ok () w := fun n w => by
    rw [show (9999 : Nat) = 9998 + 1 from rfl, Instr.checkKey]
    simp [Sem.run_bind, run_underlying u3]
  go_simp
theorem look102 (b : Nat) (x y : Int) (w : World) (h : NoM w b) : (Instr.lookup 102 (.map (some b)) (.agg #[.int .i64 x, .int .i64 y]) true).run Tryz.prog w = .ok (.tuple #[.int .i64 0, .bool false]) w := by
  have hc := chk107 x y w
  have hz := zeroV3 w
  have hg : (getObj b).run Tryz.prog w = .ok (.map #[] 0) w := by rw [NoM] at h; simp [getObj, Sem.run, h]
  have hu := run_underlying Tryz.underlying102 w
  have hu7 := run_underlying Tryz.underlying107 w
  simp [Instr.lookup, Sem.run_bind, hu, hg, hc, Instr.findKey, hu7, Instr.findNow, hz, go_sem]
theorem make0 (n : Nat) (hn : n ≤ 1000000000) (W : World) : (Instr.makeSlice 27 (.int .i64 0) (.int .i64 n)).run Tryz.prog W = .ok (.slice (some ⟨W.heap.size, 0, none⟩) 0 n) (W.alloc (.cells (madeCells #[.int .i64 0] n) 3)) := by
  obtain ⟨i0, hi, hz0, hz1, hz2⟩ := info_parts info3
  have h := run_make (P := Tryz.prog) W 27 3 i0 (.int .i64 0) Tryz.underlying27 hi hz0 .i64 .i64 0 n (by omega) (by omega) (by rw [hz2]; omega) (by omega)
  rw [hz1] at h
  simpa [Value.cells] using h
theorem own0 (n : Nat) (hn : n ≤ 1000000000) (W : World) (base : Nat) (hb : base ≤ W.heap.size) : (W.alloc (.cells (madeCells #[.int .i64 0] n) 3)).ownsRow base 3 1 (.slice (some ⟨W.heap.size, 0, none⟩) 0 n) 0 [] := by
  have hml : (1000000001 : Nat) ≤ maxLen := by decide
  exact ⟨rfl, .inr ⟨W.heap.size, n, _, rfl, hb, World.alloc_heap_new _ _, Nat.zero_le _, by omega, by simp [madeCells], by simp⟩⟩
theorem NoM.below {w w' : World} {b : Nat} (h : NoM w b) (hB : Below w.heap.size w w') : NoM w' b := (hB.block _ (Array.getElem?_eq_some_iff.1 h).1).trans h
theorem NoM.grown {w w' : World} {b : Nat} (h : NoM w b) {base : Nat} {v : Value} {n : Nat} {ys : List Value} (ho : w.ownsRow base 3 1 v n ys) (hg : w.grownBy w' v.ownBlock) : NoM w' b :=
  (hg.block _ (Array.getElem?_eq_some_iff.1 h).1 (own3_not ho h (fun cur e => by cases e))).trans h
theorem composeF_low {a b : Int} (ha : a < 4352) (hb : b < 4352) : composeF a b = (0, false) := by
  rw [composeF, kindF_low ha, kindF_low hb]; rfl
set_option maxRecDepth 100000 in
set_option maxHeartbeats 8000000 in
theorem text62 (A : Option Addr) (c : Nat) (text : List Int) (w : World) (hC : Kd.C (Kd.int .i64) w A text.length text) (hc : text.length ≤ c) (hl : text.length ≤ 1000000000) (hlow : ∀ x ∈ text, x < 4352) :
    Calls Tryz.prog 62 #[noN, .slice A text.length c] w fun e w' => ∃ v, e = .returned v ∧ Kd.R (Kd.int .i64) 3 w' w.heap.size (fun _ => True) v text ∧ Below w.heap.size w w' := by
  have hu45 := Tryz.underlying45
  have hu27 := Tryz.underlying27
  have N0 := Lib.hid (NoB.new w)
  have HB0 := Lib.hid (NoB.new_below w)
  have Hlow : ∀ k, k < text.length → text.getD k 0 < 4352 := fun k hk => hlow _ (by rw [List.getD_eq_getElem?_getD, List.getElem?_eq_getElem hk]; exact List.getElem_mem hk)
  have Hlow := Lib.hid Hlow
  have Hl := Lib.hid hl
  have hmax := hC.2.1
  have hmk := make0 text.length hl
  clear hlow hl
  unfold noN
  go_enter Tryz.func62, Tryz.ntmps62
  go_wp2_with (first
    | (go_at_call 72; refine (valid72 _).mono ?_; rintro e w1 ⟨rfl, hB⟩
       unfold noN
       have N1 := N0.out.below hB
       have HB1 := Lib.hid (HB0.out.trans (hB.mono HB0.out.size))
       have x0 := N1.c0; have x1 := N1.c1; have x2 := N1.c2
       have z0 := N1.set0; have z1 := N1.set1; have z2 := N1.set2
       have f0 := N1.frozen
       clear N0 HB0 hB)
    | (go_at_call 73; refine (comp73 _).mono ?_; rintro e w2 ⟨b, rfl, hM, hB⟩
       have N2 := N1.below hB
       have hB2 := HB1.out.trans (hB.mono HB1.out.size)
       clear N1 HB1 hB x0 x1 x2 z0 z1 z2 f0)
    | (refine wp_scope_straight ?_)
    | (refine wp_label ?_))
  go_loopw [6, 7, 8, 24] (fun o l cl i wr => ∃ k : Nat, k ≤ text.length ∧ i = .int .i64 k ∧ l = .int .i64 ((k : Int) - 1) ∧ cl = .int .i64 0 ∧ Kd.R (Kd.int .i64) 3 wr w.heap.size (fun _ => True) o (text.take k) ∧ NoM wr b ∧ NoB wr w.heap.size ∧ Below w.heap.size w wr) (fun _ _ _ i _ => text.length - (intOf i).toNat)
  case atStart =>
    have hBa : Below w2.heap.size w2 (w2.alloc (.cells (madeCells #[.int .i64 0] text.length) 3)) := (Below.refl _ _).alloc (Nat.le_refl _) _
    exact ⟨0, Nat.zero_le _, rfl, by go_num, rfl, Kd.R_of_own (own0 _ Hl.out w2 _ hB2.size) (fun _ _ => trivial), hM.below hBa, N2.below hBa, hB2.trans (hBa.mono hB2.size)⟩
  case round =>
    clear hM N2 hB2 hmk
    obtain ⟨k, hk, rfl, rfl, rfl, hR, hM, N2, hB⟩ := hrel
    have hsz := hB.size
    have y0 := N2.c0
    by_cases hlt : k < text.length
    · obtain ⟨ad, rfl, hcell⟩ := C_int_cell (Kd.C_below hC hB) hlt
      have Hsn := Lib.hid (take_snoc text hlt)
      have hx := Hlow.out k hlt
      have hO1 : ∀ j, j < k → (text.take k).getD j 0 = text.getD j 0 := fun j hj => by rw [List.getD_eq_getElem?_getD, List.getD_eq_getElem?_getD, List.getElem?_take, if_pos hj]
      have HO1 := Lib.hid hO1
      clear hO1
      obtain ⟨x, hxx⟩ : ∃ x, x = text.getD k 0 := ⟨_, rfl⟩
      rw [← hxx] at hcell Hsn hx
      have hOl : (text.take k).length = k := by rw [List.length_take]; omega
      obtain ⟨O, hO⟩ : ∃ O, O = text.take k := ⟨_, rfl⟩
      rw [← hO] at hR Hsn hOl HO1
      clear hxx hO
      subst hOl
      obtain ⟨OA, Oc, rfl⟩ := Kd.R_slice hR
      have hOb : O.length + [x].length ≤ 1000000000 := by have := Hl.out; simp; omega
      have HOb := Lib.hid hOb
      clear hOb
      by_cases hk0 : O.length = 0
      · have hneg : (O.length : Int) - 1 < 0 := by omega
        have Hk0 := Lib.hid hk0
        clear hk0
        go_wp2_with (first
          | (go_at_call 74; refine (class74 x _).mono ?_; rintro e w3 ⟨rfl, hb3⟩
             have hB3 := hB.trans (hb3.mono hsz)
             have hR3 := Kd.R_below hR hb3
             have M3 := hM.below hb3
             have N3 := N2.below hb3
             clear hR hM N2 hb3)
          | ((with_reducible refine gate_builtin (b := .append) (xs := #[.tmp 79, .tmp 81]) rfl ?_); at_builtin; refine Kd.R_append_rows (Kd.int .i64) (w0 := w) w.heap.size rfl (.tmp 79) (.tmp 81) 27 3 (.int .i64 0) 8 rfl Tryz.underlying27 info3 rfl (by decide) (by omega) (.slice OA O.length Oc) O [x] _ _ _ (fun _ => True) (fun _ => False) rfl rfl (Kd.R_below hR3 (below_alloc (Below.refl _ _) _)) (C_int_one (blk_cell (heap_alloc_new _ _) 0)) (fun _ _ h => h) (fun _ h => h.elim) (fun _ _ => trivial) (hB3.alloc hB3.size _) (by have := hB3.size; simp; omega) (by have := HOb.out; omega) ?_; intro v1 w5 hR5 hB5 hg5 hat5))
        have M5 := (M3.below (below_alloc (Below.refl _ _) _)).grown (Kd.own_of_R (Kd.R_below hR3 (below_alloc (Below.refl _ _) _))) hg5
        have N5 := (N3.below (below_alloc (Below.refl _ _) _)).grown (Kd.own_of_R (Kd.R_below hR3 (below_alloc (Below.refl _ _) _))) hg5
        go_roundw
        case rel => exact ⟨O.length + 1, hlt, by go_num, by go_num, rfl, by rw [Hsn.out]; exact hR5, M5, N5, hB5⟩
        case measure => simp [intOf]; omega
      · obtain ⟨oa, hoa, hyc⟩ := C_int_cell (Kd.R_reads' hR).2.2 (k := O.length - 1) (by omega)
        subst hoa
        rw [HO1.out _ (by omega)] at hyc
        have hy := Hlow.out (O.length - 1) (by omega)
        generalize text.getD (O.length - 1) 0 = y at hyc hy
        have hcf := composeF_low hy hx
        have hcc := fun W => compose75 y x W
        rw [hcf] at hcc
        have Hcc := Lib.hid hcc
        clear hcc hcf hx hy
        have hn1 : ((O.length : Int) - 1).toNat = O.length - 1 := by omega
        have hn2 : ¬ ((O.length : Int) - 1 < 0) := by omega
        have hn5 : decide ((O.length : Int) - 1 < 0) = false := decide_eq_false hn2
        have hn3 : (0 : Int) ≤ (O.length : Int) - 1 := by omega
        go_wp2_with (first
          | (go_at_call 74; refine (class74 x _).mono ?_; rintro e w3 ⟨rfl, hb3⟩
             have hB3 := hB.trans (hb3.mono hsz)
             have hR3 := Kd.R_below hR hb3
             have M3 := hM.below hb3
             have N3 := N2.below hb3
             have hyc3 := (hb3.cell (cell_lt hyc)).trans hyc
             clear hR hM N2 hb3 hyc)
          | (go_at_call 75; refine (Hcc.out _).mono ?_; rintro e w4 ⟨rfl, hb4⟩
             have hB4 := hB3.trans (hb4.mono hB3.size)
             have hR4 := Kd.R_below hR3 hb4
             have M4 := M3.below hb4
             have N4 := N3.below hb4
             have hlk := look102 b y x w4 M4
             have hyc4 := (hb4.cell (cell_lt hyc3)).trans hyc3
             clear hR3 M3 N3 hb4 hyc3 hB3)
          | ((with_reducible refine gate_builtin (b := .append) (xs := #[.tmp 79, .tmp 81]) rfl ?_); at_builtin; refine Kd.R_append_rows (Kd.int .i64) (w0 := w) w.heap.size rfl (.tmp 79) (.tmp 81) 27 3 (.int .i64 0) 8 rfl Tryz.underlying27 info3 rfl (by decide) (by omega) (.slice (some oa) O.length Oc) O [x] _ _ _ (fun _ => True) (fun _ => False) rfl rfl (Kd.R_below hR4 (below_alloc (Below.refl _ _) _)) (C_int_one (blk_cell (heap_alloc_new _ _) 0)) (fun _ _ h => h) (fun _ h => h.elim) (fun _ _ => trivial) (hB4.alloc hB4.size _) (by have := hB4.size; simp; omega) (by have := HOb.out; omega) ?_; intro v1 w5 hR5 hB5 hg5 hat5))
        have M5 := (M4.below (below_alloc (Below.refl _ _) _)).grown (Kd.own_of_R (Kd.R_below hR4 (below_alloc (Below.refl _ _) _))) hg5
        have N5 := (N4.below (below_alloc (Below.refl _ _) _)).grown (Kd.own_of_R (Kd.R_below hR4 (below_alloc (Below.refl _ _) _))) hg5
        go_roundw
        case rel => exact ⟨O.length + 1, hlt, by go_num, by go_num, rfl, by rw [Hsn.out]; exact hR5, M5, N5, hB5⟩
        case measure => simp [intOf]; omega
    · have hkl : k = text.length := by omega
      subst hkl
      rw [List.take_length] at hR
      obtain ⟨OA, Oc, rfl⟩ := Kd.R_slice hR
      go_wp2_with fail
      try simp only [Exit.noGoto, Exit.inBlock, Exit.then]
      go_ret
      exact ⟨_, rfl, hR, hB⟩
end Go.Proofs.YtjfcmiocmcdjlaaGreatDoor.G
