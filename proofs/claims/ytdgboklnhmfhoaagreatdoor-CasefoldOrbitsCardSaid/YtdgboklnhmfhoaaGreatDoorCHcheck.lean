/- mapping.Check: the Go call returns what chkM says of the mappings, whatever they are. No conditions. -/
import Derived.Test.YtdgboklnhmfhoaaGreatDoorCT3
import Derived.Test.YtdgboklnhmfhoaaGreatDoorCT4
namespace Go.Proofs.YtdgboklnhmfhoaaGreatDoor.G
open Go.RowKit Go.Proofs.YtdgboklnhmfhoaaGreatDoorW.PrintWords Go.Proofs.YtdgboklnhmfhoaaGreatDoorW.PrintLast Go.Proofs.YtdgboklnhmfhoaaGreatDoorW.PrintMore
def chkM (l : List S44) : Int := if chk56 l ≠ 0 then chk56 l else if sortedM l then 0 else 4
def mapping_Check.f (l0 : List S44) : Option Int := some (chkM l0)
set_option maxHeartbeats 1000000 in
theorem mapping_Check.calls (A0 : Option Addr) (c0 : Nat) (l0 : List (S44)) (r : Int) (w : World) (hr0 : Kd.C k44 w A0 l0.length l0) (hc0 : l0.length ≤ c0) (h : mapping_Check.f l0 = some r) :
    Calls Tryz.prog 37 #[.slice A0 l0.length c0] w fun e w' => e = .returned (.int .i64 r) ∧ Below w.heap.size w w' := by
  have Hr : Hid (r = chkM l0) := Lib.hid (by injection h with h; exact h.symm)
  clear h
  obtain ⟨x, hx⟩ : ∃ x, x = chk56 l0 := ⟨_, rfl⟩
  have HX := Lib.hid hx
  clear hx
  by_cases h0 : x = 0
  · have hb0 : (x != 0) = false := by simp [h0]
    have H0 := Lib.hid h0
    clear h0
    cases hs : sortedM l0 with
    | true =>
      have HS := Lib.hid hs
      clear hs
      go_enter Tryz.func37, Tryz.ntmps37
      go_wp2_with fail
      refine (check56_a _ l0 _ _ hr0 hc0).mono ?_
      rw [← HX.out]
      rintro e w' ⟨rfl, hb⟩
      go_wp2_with fail
      refine (sorted57_calls _ l0 _ _ (Kd.C_below hr0 hb) hc0).mono ?_
      rw [HS.out]
      rintro e w2 ⟨rfl, hb2⟩
      go_wp2_with fail
      go_ret
      exact ⟨ret_i64 (by rw [Hr.out, chkM, ← HX.out, H0.out, HS.out]; simp), hb.trans (hb2.mono hb.size)⟩
    | false =>
      have HS := Lib.hid hs
      clear hs
      go_enter Tryz.func37, Tryz.ntmps37
      go_wp2_with fail
      refine (check56_a _ l0 _ _ hr0 hc0).mono ?_
      rw [← HX.out]
      rintro e w' ⟨rfl, hb⟩
      go_wp2_with fail
      refine (sorted57_calls _ l0 _ _ (Kd.C_below hr0 hb) hc0).mono ?_
      rw [HS.out]
      rintro e w2 ⟨rfl, hb2⟩
      go_wp2_with fail
      go_ret
      exact ⟨ret_i64 (by rw [Hr.out, chkM, ← HX.out, H0.out, HS.out]; simp), hb.trans (hb2.mono hb.size)⟩
  · have hb0 : (x != 0) = true := by simp [h0]
    have H0 := Lib.hid h0
    clear h0
    go_enter Tryz.func37, Tryz.ntmps37
    go_wp2_with fail
    refine (check56_a _ l0 _ _ hr0 hc0).mono ?_
    rw [← HX.out]
    rintro e w' ⟨rfl, hb⟩
    go_wp2_with fail
    go_ret
    exact ⟨ret_i64 (by rw [Hr.out, chkM, ← HX.out, if_pos H0.out]), hb⟩
end Go.Proofs.YtdgboklnhmfhoaaGreatDoor.G
