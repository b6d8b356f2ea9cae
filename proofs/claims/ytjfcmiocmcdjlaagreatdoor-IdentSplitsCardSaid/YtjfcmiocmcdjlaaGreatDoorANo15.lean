/- casefold.Fold at no data: the same text. -/
import Derived.Test.YtjfcmiocmcdjlaaGreatDoorANo14
namespace Go.Proofs.YtjfcmiocmcdjlaaGreatDoor.G
open Go.RowKit Go.Proofs.YtjfcmiocmcdjlaaGreatDoorW.PrintWords Go.Proofs.YtjfcmiocmcdjlaaGreatDoorW.PrintLast Go.Proofs.YtjfcmiocmcdjlaaGreatDoorW.PrintMore
open Go.Uc
set_option linter.unusedVariables false
theorem zero27 (w : World) : (zeroValue 27).run Tryz.prog w = .ok (.slice none 0 0) w := by kernel_rfl
set_option maxRecDepth 100000 in
theorem foldings59 (w : World) : Calls Tryz.prog 59 #[noC] w fun e w' => ∃ b, e = .returned (.map (some b)) ∧ Go.Uc.MapAt w' b (Value.int .i64) [] ∧ Below w.heap.size w w' := by
  have hmm := @run_makeMap Tryz.prog
  have hu47 := Tryz.underlying47
  have N0 := NoCB.new w
  have hB0 : Below w.heap.size w (w.alloc (.cells #[.slice none 0 0, .slice none 0 0, .slice none 0 0, .slice none 0 0, .slice none 0 0, .slice none 0 0] 47)) := (Below.refl _ w).alloc (Nat.le_refl _) _
  have hs0 : (w.alloc (.cells #[.slice none 0 0, .slice none 0 0, .slice none 0 0, .slice none 0 0, .slice none 0 0, .slice none 0 0] 47)).heap.size = w.heap.size + 1 := by simp
  have hB1 := hB0.alloc hB0.size (.map #[] 0)
  have N1 := N0.below ((Below.refl _ _).alloc (Nat.le_refl _) (.map #[] 0))
  have M1 := Go.Uc.MapAt.made (w.alloc (.cells #[.slice none 0 0, .slice none 0 0, .slice none 0 0, .slice none 0 0, .slice none 0 0, .slice none 0 0] 47)) (Value.int .i64)
  rw [hs0] at M1
  have HB1 := Lib.hid hB1
  have x0 := N1.at 0 (by omega); have x1 := N1.at 1 (by omega); have x2 := N1.at 2 (by omega); have x3 := N1.at 3 (by omega); have x4 := N1.at 4 (by omega); have x5 := N1.at 5 (by omega)
  clear hB0 hs0 hB1 N0
  unfold noC
  go_enter Tryz.func59, Tryz.ntmps59
  go_wp2_with (first
    | (go_at_call 67; refine (case67 _).mono ?_; rintro e w1 ⟨rfl, hb⟩
       have N2 := N1.below hb
       have M2 := M1.below hb
       have y3 := N2.at 3 (by omega)
       have HB2 := Lib.hid (HB1.out.trans (hb.mono HB1.out.size))
       clear x0 x1 x2 x3 x4 x5 N1 M1 hb HB1)
    | (refine wp_loop_once ?_))
  go_ret
  exact ⟨_, rfl, M2, HB2.out⟩
theorem folding60 (b : Nat) (c : Int) (w : World) (hM : Go.Uc.MapAt w b (Value.int .i64) []) :
    Calls Tryz.prog 60 #[.map (some b), .int .i64 c] w fun e w' => ∃ k, e = .returned (.slice (some ⟨k, 0, none⟩) 1 1) ∧ Kd.C (Kd.int .i64) w' (some ⟨k, 0, none⟩) [c].length [c] ∧ Below w.heap.size w w' := by
  go_enter Tryz.func60, Tryz.ntmps60
  go_wp2_with (first
    | (at_lookup; refine wpList_look2 rfl _ _ 85 rfl 3 27 key3 Tryz.underlying85 b [] rfl hM c rfl _ (zero27 _) (.slice none 0 0) (by rfl) false (by rfl) ?_))
  go_ret
  exact ⟨_, rfl, C_int_one (blk_cell (heap_alloc_new _ _) 0), below_alloc (Below.refl _ _) _⟩
set_option maxRecDepth 100000 in
set_option maxHeartbeats 4000000 in
theorem fold50 (A : Option Addr) (c : Nat) (text : List Int) (w : World) (hC : Kd.C (Kd.int .i64) w A text.length text) (hc : text.length ≤ c) (hl : text.length ≤ 1000000000) :
    Calls Tryz.prog 50 #[noC, .slice A text.length c] w (SameT text w) := by
  have hu47 := Tryz.underlying47
  have hu27 := Tryz.underlying27
  have hmax := hC.2.1
  have Hl := Lib.hid hl
  have HB0 : Hid (Below w.heap.size w (w.alloc (.cells #[.slice none 0 0, .slice none 0 0, .slice none 0 0, .slice none 0 0, .slice none 0 0, .slice none 0 0] 47))) := Lib.hid ((Below.refl _ w).alloc (Nat.le_refl _) _)
  clear hl
  unfold noC
  go_enter Tryz.func50, Tryz.ntmps50
  go_wp2_with (first
    | (go_at_call 59; refine (foldings59 _).mono ?_; rintro e w2 ⟨b, rfl, hM, hb⟩
       have hB2 := HB0.out.trans (hb.mono HB0.out.size)
       clear hb HB0))
  go_loopw [6, 13] (fun o i wr => ∃ k : Nat, k ≤ text.length ∧ i = .int .i64 k ∧ Kd.R (Kd.int .i64) 3 wr w.heap.size (fun _ => True) o (text.take k) ∧ Go.Uc.MapAt wr b (Value.int .i64) [] ∧ Below w.heap.size w wr) (fun _ i _ => text.length - (intOf i).toNat)
  case atStart => exact ⟨0, Nat.zero_le _, rfl, Kd.R_nil _ _ _ _ _, hM, hB2⟩
  case round =>
    clear hM hB2
    obtain ⟨k, hk, rfl, hR, hM, hB⟩ := hrel
    have hsz := hB.size
    by_cases hlt : k < text.length
    · obtain ⟨ad, rfl, hcell⟩ := C_int_cell (Kd.C_below hC hB) hlt
      have Hsn := Lib.hid (take_snoc text hlt)
      obtain ⟨x, hxx⟩ : ∃ x, x = text.getD k 0 := ⟨_, rfl⟩
      rw [← hxx] at hcell Hsn
      have hOl : (text.take k).length = k := by rw [List.length_take]; omega
      obtain ⟨O, hO⟩ : ∃ O, O = text.take k := ⟨_, rfl⟩
      rw [← hO] at hR Hsn hOl
      clear hxx hO
      obtain ⟨OA, Oc, rfl⟩ := Kd.R_slice hR
      have HOb : Hid (O.length + [x].length ≤ 1000000000) := Lib.hid (by have := Hl.out; simp; omega)
      clear hOl
      have Hfu := Lib.hid (fun W h => folding60 b x W h)
      go_wp2_with (first
        | (go_at_call 60; refine (Hfu.out _ hM).mono ?_; rintro e w3 ⟨g, rfl, hCg, hb3⟩
           have hB3 := hB.trans (hb3.mono hsz)
           have hR3 := Kd.R_below hR hb3
           have M3 := hM.below hb3
           clear hR hM hb3 Hfu)
        | ((with_reducible refine gate_builtin (b := .append) (xs := #[.tmp 17, .tmp 20]) rfl ?_); at_builtin; refine Kd.R_append_rows (Kd.int .i64) (w0 := w) w.heap.size rfl (.tmp 17) (.tmp 20) 27 3 (.int .i64 0) 8 rfl Tryz.underlying27 info3 rfl (by decide) (by omega) (.slice OA O.length Oc) O [x] _ _ _ (fun _ => True) (fun _ => False) rfl rfl hR3 hCg (fun _ _ h => h) (fun _ h => h.elim) (fun _ _ => trivial) hB3 hB3.size (by have := HOb.out; omega) ?_; intro v1 w4 hR4 hB4 hg4 hat4))
      have M4 := M3.grown hg4 (own3_not (Kd.own_of_R hR3) M3.1 (fun cur e => by cases e))
      go_roundw
      case rel => exact ⟨k + 1, hlt, by go_num, by rw [Hsn.out]; exact hR4, M4, hB4⟩
      case measure => simp [intOf]; omega
    · have hkl : k = text.length := by omega
      subst hkl
      rw [List.take_length] at hR
      obtain ⟨OA, Oc, rfl⟩ := Kd.R_slice hR
      go_wp2_with fail
      go_ret
      exact ⟨_, rfl, hR, hB⟩
end Go.Proofs.YtjfcmiocmcdjlaaGreatDoor.G
