/- normalize.Form at no data, of a low text: the same text (forms C and D). -/
import Derived.Test.YtjfcmiocmcdjlaaGreatDoorANo12
namespace Go.Proofs.YtjfcmiocmcdjlaaGreatDoor.G
open Go.RowKit Go.Proofs.YtjfcmiocmcdjlaaGreatDoorW.PrintWords Go.Proofs.YtjfcmiocmcdjlaaGreatDoorW.PrintLast Go.Proofs.YtjfcmiocmcdjlaaGreatDoorW.PrintMore
open Go.Uc
set_option linter.unusedVariables false
/-- What a call of a function on texts answers: a row of its own with the same text. -/
def SameT (text : List Int) (w : World) (e : Ending) (w' : World) : Prop := ∃ v, e = .returned v ∧ Kd.R (Kd.int .i64) 3 w' w.heap.size (fun _ => True) v text ∧ Below w.heap.size w w'
theorem plain52 (A : Option Addr) (c : Nat) (text : List Int) (w : World) (hC : Kd.C (Kd.int .i64) w A text.length text) (hc : text.length ≤ c) (hl : text.length ≤ 1000000000) (hlow : ∀ x ∈ text, x < 4352) :
    Calls Tryz.prog 52 #[noN, .slice A text.length c] w (SameT text w) := by
  have hu79 := Tryz.underlying79
  have hu45 := Tryz.underlying45
  have hB0 : Below w.heap.size w (w.alloc (.cells #[.slice none 0 0, .slice none 0 0, .slice none 0 0] 79)) := (Below.refl _ w).alloc (Nat.le_refl _) _
  have ht := text61 false A c text _ (Kd.C_below hC hB0) hc hl hlow
  have Ht := Lib.hid ht
  have HB0 := Lib.hid hB0
  clear ht hB0 hlow hl
  unfold noN at Ht ⊢
  go_enter Tryz.func52, Tryz.ntmps52
  go_wp2_with (first
    | (go_at_call 61; refine Ht.out.mono ?_; rintro e w1 ⟨v, rfl, hR, hB1⟩; obtain ⟨VA, Vc, rfl⟩ := Kd.R_slice hR))
  go_ret
  exact ⟨_, rfl, R_lower HB0.out.size hR, HB0.out.trans (hB1.mono HB0.out.size)⟩
theorem compose54 (A : Option Addr) (c : Nat) (text : List Int) (w : World) (hC : Kd.C (Kd.int .i64) w A text.length text) (hc : text.length ≤ c) (hl : text.length ≤ 1000000000) (hlow : ∀ x ∈ text, x < 4352) :
    Calls Tryz.prog 54 #[noN, .slice A text.length c] w (SameT text w) := by
  have hu79 := Tryz.underlying79
  have hu45 := Tryz.underlying45
  have hB0 : Below w.heap.size w (w.alloc (.cells #[.slice none 0 0, .slice none 0 0, .slice none 0 0] 79)) := (Below.refl _ w).alloc (Nat.le_refl _) _
  have ht := text62 A c text _ (Kd.C_below hC hB0) hc hl hlow
  have Ht := Lib.hid ht
  have HB0 := Lib.hid hB0
  clear ht hB0 hlow hl
  unfold noN at Ht ⊢
  go_enter Tryz.func54, Tryz.ntmps54
  go_wp2_with (first
    | (go_at_call 62; refine Ht.out.mono ?_; rintro e w1 ⟨v, rfl, hR, hB1⟩; obtain ⟨VA, Vc, rfl⟩ := Kd.R_slice hR))
  go_ret
  exact ⟨_, rfl, R_lower HB0.out.size hR, HB0.out.trans (hB1.mono HB0.out.size)⟩
set_option maxRecDepth 100000 in
set_option maxHeartbeats 4000000 in
theorem form44 (f : Int) (hf : f = 1 ∨ f = 2) (A : Option Addr) (c : Nat) (text : List Int) (w : World) (hC : Kd.C (Kd.int .i64) w A text.length text) (hc : text.length ≤ c) (hl : text.length ≤ 1000000000) (hlow : ∀ x ∈ text, x < 4352) :
    Calls Tryz.prog 44 #[noN, .int .i64 f, .slice A text.length c] w (SameT text w) := by
  have hu79 := Tryz.underlying79
  have hu45 := Tryz.underlying45
  have hBx : ∀ o1 o2, Below w.heap.size w ((w.alloc o1).alloc o2) := fun o1 o2 => ((Below.refl _ w).alloc (Nat.le_refl _) _).alloc (by simp) _
  have hB0 := hBx (.cells #[.slice none 0 0, .slice none 0 0, .slice none 0 0] 45) (.cells #[.slice none 0 0, .slice none 0 0, .slice none 0 0] 79)
  have ht := plain52 A c text _ (Kd.C_below hC hB0) hc hl hlow
  have Ht := Lib.hid ht
  have HB0 := Lib.hid hB0
  have Hlow := Lib.hid hlow
  have Hl := Lib.hid hl
  clear ht hB0 hlow hl hBx
  unfold noN at Ht ⊢
  rcases hf with rfl | rfl
  · go_enter Tryz.func44, Tryz.ntmps44
    go_wp2_with (first
      | (go_at_call 52; refine Ht.out.mono ?_; rintro e w1 ⟨v, rfl, hR, hB1⟩; obtain ⟨VA, Vc, rfl⟩ := Kd.R_slice hR
         obtain ⟨_, hVc, hCV⟩ := Kd.R_reads' hR
         have ht2 := compose54 VA Vc text _ hCV hVc Hl.out Hlow.out
         have Ht2 := Lib.hid ht2
         clear ht2 hR hCV
         unfold noN at Ht2)
      | (go_at_call 54; refine Ht2.out.mono ?_; rintro e w2 ⟨v2, rfl, hR2, hB2⟩; obtain ⟨VA2, Vc2, rfl⟩ := Kd.R_slice hR2))
    go_ret
    have hB3 := HB0.out.trans (hB1.mono HB0.out.size)
    exact ⟨_, rfl, R_lower hB3.size hR2, hB3.trans (hB2.mono hB3.size)⟩
  · go_enter Tryz.func44, Tryz.ntmps44
    go_wp2_with (first
      | (go_at_call 52; refine Ht.out.mono ?_; rintro e w1 ⟨v, rfl, hR, hB1⟩; obtain ⟨VA, Vc, rfl⟩ := Kd.R_slice hR
         obtain ⟨_, hVc, hCV⟩ := Kd.R_reads' hR
         have Ht2 := Lib.hid (clone51 VA Vc text _ hCV (by have := Hl.out; omega))
         clear hR hCV)
      | (go_at_call 51; refine Ht2.out.mono ?_; rintro e w2 ⟨v2, rfl, hR2, hB2⟩; obtain ⟨VA2, Vc2, rfl⟩ := Kd.R_slice hR2))
    go_ret
    have hB3 := HB0.out.trans (hB1.mono HB0.out.size)
    exact ⟨_, rfl, R_lower hB3.size hR2, hB3.trans (hB2.mono hB3.size)⟩
end Go.Proofs.YtjfcmiocmcdjlaaGreatDoor.G
