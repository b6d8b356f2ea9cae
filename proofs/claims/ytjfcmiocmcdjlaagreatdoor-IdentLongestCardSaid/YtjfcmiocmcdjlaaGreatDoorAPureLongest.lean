/- The plain law of IdentLongest. No program in sight. -/
import Derived.Test.YtjfcmiocmcdjlaaGreatDoorAP1
import Derived.Test.YtjfcmiocmcdjlaaGreatDoorAG6
namespace Go.Proofs.YtjfcmiocmcdjlaaGreatDoor.G
open Go.RowKit Go.Proofs.YtjfcmiocmcdjlaaGreatDoorW.PrintWords Go.Proofs.YtjfcmiocmcdjlaaGreatDoorW.PrintLast Go.Proofs.YtjfcmiocmcdjlaaGreatDoorW.PrintMore
set_option linter.unusedVariables false
variable {l0 l1 l2 : List S32}
theorem longest_l1 {text : List Int} (F : Few l0 l1 l2 text) (S : List S32) (hS : S.length ≤ 100) (i s : Nat) (hi : i < S.length) (hr : (rd_T32 S (i : Int)).f0 = s) (hn : Ev (fun k => unicodetextlaw39_IdentLongest.l0 k text S ((i + 1 : Nat) : Int) l0 l1 l2) true) (d : Nat) :
    ∀ h : Nat, text.length + 1 - h = d → s ≤ h → (∀ hi', h ≤ hi' → hi' ≤ text.length → partV l0 l1 l2 text s hi' = false) → Ev (fun k => unicodetextlaw39_IdentLongest.l1 k text S i h l0 l1 l2) true := by
  induction d with
  | zero =>
    intro h hd hs hv
    refine Ev.step (f := fun k => unicodetextlaw39_IdentLongest.j2 k text S i h false l0 l1 l2) (fun k => by rw [unicodetextlaw39_IdentLongest.l1, if_pos (by omega), if_pos (by omega), hr, if_pos (by omega), decide_eq_false (by omega)]) ?_
    exact Ev.step (f := fun k => unicodetextlaw39_IdentLongest.l0 k text S ((i + 1 : Nat) : Int) l0 l1 l2) (fun k => by rw [unicodetextlaw39_IdentLongest.j2, if_neg (by simp), w64n (by omega)]) hn
  | succ d ih =>
    intro h hd hs hv
    refine Ev.step (f := fun k => unicodetextlaw39_IdentLongest.j2 k text S i h true l0 l1 l2) (fun k => by rw [unicodetextlaw39_IdentLongest.l1, if_pos (by omega), if_pos (by omega), hr, if_pos (by omega), decide_eq_true (by omega)]) ?_
    have hp := hv h (Nat.le_refl _) (by omega)
    refine Ev.step (f := fun k => unicodetextlaw39_IdentLongest.l1 k text S i ((h + 1 : Nat) : Int) l0 l1 l2) (fun k => ?_) (ih (h + 1) (by omega) (by omega) (fun hi' g1 g2 => hv hi' (by omega) g2))
    rw [unicodetextlaw39_IdentLongest.j2, if_pos rfl, if_pos (by omega), if_pos (by omega), hr, if_pos (by omega), if_pos (by omega), if_pos (by omega), F.valid, Option.bind_some, Int.toNat_natCast, Int.toNat_natCast, show validS l0 l1 l2 ((text.take h).drop s) = false from hp, if_neg (by simp), w64n (by have := F.t; omega)]
theorem longest_l0 {text : List Int} (F : Few l0 l1 l2 text) (S : List S32) (hS : S.length ≤ 100) (d : Nat) :
    ∀ i a : Nat, i ≤ S.length → S.length - i = d → Good l0 l1 l2 text a (S.drop i) → Ev (fun k => unicodetextlaw39_IdentLongest.l0 k text S i l0 l1 l2) true := by
  induction d with
  | zero =>
    intro i a hi hd hG
    exact Ev.step (f := fun _ => some true) (fun k => by rw [unicodetextlaw39_IdentLongest.l0, if_neg (by omega)]; rfl) (Ev.now _)
  | succ d ih =>
    intro i a hi hd hG
    have h1 : i < S.length := by omega
    have hr : rd_T32 S (i : Int) = S[i] := rdR_get h1
    rw [List.drop_eq_getElem_cons h1] at hG
    generalize S[i] = r at hG hr
    cases hG with
    | @cons _ s e _ _ g0 g1 g2 g3 g4 g5 g6 g7 g8 =>
      refine Ev.step (f := fun k => unicodetextlaw39_IdentLongest.l1 k text S i ((e + 1 : Nat) : Int) l0 l1 l2) (fun k => by rw [unicodetextlaw39_IdentLongest.l0, if_pos (by omega), if_pos (by omega), hr, g1, w64n (by have := F.t; omega)]) ?_
      exact longest_l1 F S hS i s h1 (by rw [hr]; exact g0) (ih (i + 1) e (by omega) (by omega) g8) _ (e + 1) rfl (by omega) (fun hi' q1 q2 => g7 hi' (by omega) q2)
theorem longest_pure (l0 l1 l2 : List S32) (text : List Int) : ∃ k, unicodetextlaw39_IdentLongest.f k l0 l1 l2 text = some true := by
  refine Ev.rounds ?_
  unfold unicodetextlaw39_IdentLongest.f
  obtain ⟨r, er, hr⟩ := few_f l0 l1 l2 text
  rw [er]
  cases r with
  | false => exact Ev.congr (f := fun _ => some true) (fun k => by rw [Option.bind_some, if_neg (by simp)]; rfl) (Ev.now _)
  | true =>
    have F := hr rfl
    refine Ev.congr (f := fun k => unicodetextlaw39_IdentLongest.l0 k text (splitS l0 l1 l2 text) 0 l0 l1 l2) (fun k => by rw [Option.bind_some, if_pos rfl, F.split, Option.bind_some]) ?_
    exact longest_l0 F _ (by have := splitS_length l0 l1 l2 text; have := F.t; omega) _ 0 0 (Nat.zero_le _) rfl (splitS_good l0 l1 l2 text)
end Go.Proofs.YtjfcmiocmcdjlaaGreatDoor.G
