/- The plain law of IdentRanges. No program in sight. -/
import Derived.Test.YtjfcmiocmcdjlaaGreatDoorAP1
import Derived.Test.YtjfcmiocmcdjlaaGreatDoorAG5
namespace Go.Proofs.YtjfcmiocmcdjlaaGreatDoor.G
open Go.RowKit Go.Proofs.YtjfcmiocmcdjlaaGreatDoorW.PrintWords Go.Proofs.YtjfcmiocmcdjlaaGreatDoorW.PrintLast Go.Proofs.YtjfcmiocmcdjlaaGreatDoorW.PrintMore
set_option linter.unusedVariables false
variable {l0 l1 l2 : List S32}
theorem ranges_l1 {text : List Int} (F : Few l0 l1 l2 text) (S : List S32) (i s e : Nat) (hs : s ≤ text.length) (hi : i < 1000000) (hn : Ev (fun k => unicodetextlaw39_IdentRanges.l0 k text S e ((i + 1 : Nat) : Int) l0 l1 l2) true) (d : Nat) :
    ∀ a : Nat, a ≤ s → s - a = d → (∀ p, a ≤ p → p < s → begS l0 (text.getD p 0) = false) → Ev (fun k => unicodetextlaw39_IdentRanges.l1 k text S a i s e l0 l1 l2) true := by
  induction d with
  | zero =>
    intro a ha hd hb
    exact Ev.step (f := fun k => unicodetextlaw39_IdentRanges.l0 k text S e ((i + 1 : Nat) : Int) l0 l1 l2) (fun k => by rw [unicodetextlaw39_IdentRanges.l1, if_neg (by omega), w64n (by omega)]) hn
  | succ d ih =>
    intro a ha hd hb
    have h1 : a < text.length := by omega
    have hh : cpset_Has.f l0 (rd text a) = some false := by
      unfold cpset_Has.f
      rw [if_pos (by have := F.a; omega), rd_get h1]
      have := hb a (Nat.le_refl _) (by omega)
      rw [List.getD_eq_getElem?_getD, List.getElem?_eq_getElem h1] at this
      exact congrArg some this
    exact Ev.step (f := fun k => unicodetextlaw39_IdentRanges.l1 k text S ((a + 1 : Nat) : Int) i s e l0 l1 l2) (fun k => by rw [unicodetextlaw39_IdentRanges.l1, if_pos (by omega), if_pos (by omega), if_pos (by omega), hh, Option.bind_some, if_neg (by simp), w64n (by have := F.t; omega)]) (ih (a + 1) (by omega) (by omega) (fun p h2 h3 => hb p (by omega) h3))
theorem ranges_l0 {text : List Int} (F : Few l0 l1 l2 text) (S : List S32) (hS : S.length ≤ 100) (d : Nat) :
    ∀ i a : Nat, i ≤ S.length → S.length - i = d → a ≤ text.length → Good l0 l1 l2 text a (S.drop i) → Ev (fun k => unicodetextlaw39_IdentRanges.l0 k text S a i l0 l1 l2) true := by
  induction d with
  | zero =>
    intro i a hi hd ha hG
    obtain rfl : i = S.length := by omega
    rw [List.drop_length] at hG
    cases hG with
    | nil hb =>
      refine Ev.step (f := fun k => unicodetextlaw39_IdentRanges.j1 k text S a (S.length : Nat) (text.length : Nat) (text.length : Nat) l0 l1 l2) (fun k => by rw [unicodetextlaw39_IdentRanges.l0, if_pos (by omega), if_neg (by omega)]) ?_
      refine Ev.step (f := fun k => unicodetextlaw39_IdentRanges.l1 k text S a (S.length : Nat) (text.length : Nat) (text.length : Nat) l0 l1 l2) (fun k => by rw [unicodetextlaw39_IdentRanges.j1]) ?_
      refine ranges_l1 F S S.length text.length text.length (Nat.le_refl _) (by omega) ?_ _ a ha rfl hb
      exact Ev.step (f := fun _ => some true) (fun k => by rw [unicodetextlaw39_IdentRanges.l0, if_neg (by omega)]; rfl) (Ev.now _)
  | succ d ih =>
    intro i a hi hd ha hG
    have h1 : i < S.length := by omega
    have hr : rd_T32 S (i : Int) = S[i] := rdR_get h1
    rw [List.drop_eq_getElem_cons h1] at hG
    generalize S[i] = r at hG hr
    cases hG with
    | @cons _ s e _ _ g0 g1 g2 g3 g4 g5 g6 g7 g8 =>
      refine Ev.step (f := fun k => unicodetextlaw39_IdentRanges.j1 k text S a i s e l0 l1 l2) (fun k => ?_) ?_
      · rw [unicodetextlaw39_IdentRanges.l0, if_pos (by omega), if_pos (by omega), if_pos (by omega), hr, g0, g1, if_neg (by omega), if_neg (by omega), if_neg (by omega), if_pos (by omega), if_pos (by omega), if_pos (by omega), F.valid, Option.bind_some, Int.toNat_natCast, Int.toNat_natCast, if_pos (show validS l0 l1 l2 ((text.take e).drop s) = true from g5)]
      · refine Ev.step (f := fun k => unicodetextlaw39_IdentRanges.l1 k text S a i s e l0 l1 l2) (fun k => by rw [unicodetextlaw39_IdentRanges.j1]) ?_
        exact ranges_l1 F S i s e (by omega) (by omega) (ih (i + 1) e (by omega) (by omega) g4 g8) _ a g2 rfl g6
theorem ranges_pure (l0 l1 l2 : List S32) (text : List Int) : ∃ k, unicodetextlaw39_IdentRanges.f k l0 l1 l2 text = some true := by
  refine Ev.rounds ?_
  unfold unicodetextlaw39_IdentRanges.f
  obtain ⟨r, er, hr⟩ := few_f l0 l1 l2 text
  rw [er]
  cases r with
  | false => exact Ev.congr (f := fun _ => some true) (fun k => by rw [Option.bind_some, if_neg (by simp)]; rfl) (Ev.now _)
  | true =>
    have F := hr rfl
    refine Ev.congr (f := fun k => unicodetextlaw39_IdentRanges.l0 k text (splitS l0 l1 l2 text) 0 0 l0 l1 l2) (fun k => by rw [Option.bind_some, if_pos rfl, F.split, Option.bind_some]) ?_
    exact ranges_l0 F _ (by have := splitS_length l0 l1 l2 text; have := F.t; omega) _ 0 0 (Nat.zero_le _) rfl (Nat.zero_le _) (splitS_good l0 l1 l2 text)
end Go.Proofs.YtjfcmiocmcdjlaaGreatDoor.G
