/- The specification's combine, Make and Valid evaluated: they answer as the program's sets. No program in sight. -/
import Derived.Test.YtdgboklnhmfhoaaGreatDoorCG13
import Derived.Test.YtdgboklnhmfhoaaGreatDoorCCuts
import Derived.Test.YtdgboklnhmfhoaaGreatDoorCV5
namespace Go.Proofs.YtdgboklnhmfhoaaGreatDoor.G
open Go.RowKit Go.Proofs.YtdgboklnhmfhoaaGreatDoorW.PrintWords Go.Proofs.YtdgboklnhmfhoaaGreatDoorW.PrintLast Go.Proofs.YtdgboklnhmfhoaaGreatDoorW.PrintMore
set_option linter.unusedVariables false
theorem stC_length (inn : Int → Bool) (cuts : List Int) : ∀ i, (stC inn cuts i).1.length ≤ i := by
  intro i
  induction i with
  | zero => exact Nat.le_refl _
  | succ i ih =>
    rw [stC, stepC]
    simp only
    split
    · simp; omega
    · split
      · simp; omega
      · omega
theorem stC_open (inn : Int → Bool) (cuts : List Int) {i : Nat} (hi : i ≤ cuts.length) (h : (stC inn cuts i).2 = true) : 0 < (stC inn cuts i).1.length := by
  rcases stC_inv inn cuts i hi with ⟨h2, _⟩ | ⟨_, _, pre, lo, h3, _⟩
  · rw [h] at h2; cases h2
  · rw [h3]; simp
theorem set_last (l : List S87) (h : 0 < l.length) (x : S87) : l.set (l.length - 1) x = l.dropLast ++ [x] := by
  rcases List.eq_nil_or_concat l with rfl | ⟨t, y, rfl⟩
  · simp at h
  · simp
theorem comb_l0 (a b : List S87) (op : Int) (ha : a.length ≤ 1000000) (hb : b.length ≤ 1000000) (cuts : List Int) (hc : CutsOk cuts) (hl : cuts.length ≤ 1000000) (d : Nat) : ∀ i : Nat, i ≤ cuts.length → cuts.length - i = d →
    Ev (fun k => unicodetextref02_combine.l0 k op cuts (stC (innAB op a b) cuts i).2 i a b (stC (innAB op a b) cuts i).1) (stC (innAB op a b) cuts cuts.length).1 := by
  induction d with
  | zero =>
    intro i hi hd
    obtain rfl : i = cuts.length := by omega
    exact Ev.step (f := fun _ => some (stC (innAB op a b) cuts cuts.length).1) (fun k => by rw [unicodetextref02_combine.l0, if_neg (by omega)]) (Ev.now _)
  | succ d ih =>
    intro i hi hd
    have h1 : i < cuts.length := by omega
    have hn := ih (i + 1) (by omega) (by omega)
    have hlen := stC_length (innAB op a b) cuts i
    have hop := stC_open (innAB op a b) cuts hi
    rw [stC, stepC] at hn
    generalize stC (innAB op a b) cuts i = st at hn hlen hop ⊢
    obtain ⟨out, open_⟩ := st
    simp only at hn hlen hop ⊢
    have hg : cuts.getD i 0 = cuts[i] := by rw [List.getD_eq_getElem?_getD, List.getElem?_eq_getElem h1]; rfl
    rw [hg] at hn
    have hw : wrap64 ((i : Int) + 1) = ((i + 1 : Nat) : Int) := w64n (by omega)
    refine Ev.step (f := fun k => unicodetextref02_combine.j1 k op cuts open_ i (hiAt cuts i) a b out) (fun k => ?_) ?_
    · rw [unicodetextref02_combine.l0, if_pos (by omega), hw]
      unfold hiAt
      by_cases h2 : i + 1 < cuts.length
      · have hv := hc.2 cuts[i + 1] (List.getElem_mem h2)
        have hg2 : cuts.getD (i + 1) 0 = cuts[i + 1] := by rw [List.getD_eq_getElem?_getD, List.getElem?_eq_getElem h2]; rfl
        have hw2 : wrap64 (cuts[i + 1] - 1) = cuts[i + 1] - 1 := by unfold wrap64; omega
        rw [if_pos (by omega), if_pos (by omega), rd_get h2, if_pos h2, hg2, hw2]
      · rw [if_neg (by omega), if_neg h2]
    · generalize hiAt cuts i = hi_ at hn ⊢
      have hHa := has_ev a cuts[i] ha
      have hHb := has_ev b cuts[i] hb
      refine Ev.step (f := fun k => (unicodetextref02_Has.f k a cuts[i]).bind fun t222 => ((unicodetextref02_Has.f k b cuts[i]).bind fun t224 => ((unicodetextref02_keeps.f op t222 t224).bind fun t225 => (if t225 = true then (unicodetextref02_combine.j2 k op cuts open_ i hi_ t225 open_ a b out) else (unicodetextref02_combine.j2 k op cuts open_ i hi_ t225 false a b out))))) (fun k => by rw [unicodetextref02_combine.j1, if_pos (by omega), if_pos (by omega), rd_get h1]) ?_
      refine Ev.bind (f := fun k t222 => ((unicodetextref02_Has.f k b cuts[i]).bind fun t224 => ((unicodetextref02_keeps.f op t222 t224).bind fun t225 => (if t225 = true then (unicodetextref02_combine.j2 k op cuts open_ i hi_ t225 open_ a b out) else (unicodetextref02_combine.j2 k op cuts open_ i hi_ t225 false a b out))))) hHa ?_
      refine Ev.bind (f := fun k t224 => ((unicodetextref02_keeps.f op (hasR a cuts[i]) t224).bind fun t225 => (if t225 = true then (unicodetextref02_combine.j2 k op cuts open_ i hi_ t225 open_ a b out) else (unicodetextref02_combine.j2 k op cuts open_ i hi_ t225 false a b out)))) hHb ?_
      have hin : innAB op a b cuts[i] = keepsB op (hasR a cuts[i]) (hasR b cuts[i]) := rfl
      refine Ev.congr (f := fun k => unicodetextref02_combine.j2 k op cuts open_ i hi_ (innAB op a b cuts[i]) (innAB op a b cuts[i] && open_) a b out) (fun k => ?_) ?_
      · rw [keeps_f, Option.bind_some, hin]
        cases keepsB op (hasR a cuts[i]) (hasR b cuts[i]) <;> rfl
      · generalize innAB op a b cuts[i] = v at hn ⊢
        cases v with
        | false =>
          refine Ev.step (f := fun k => unicodetextref02_combine.l0 k op cuts false ((i + 1 : Nat) : Int) a b out) (fun k => ?_) hn
          rw [unicodetextref02_combine.j2, if_neg (by simp), if_neg (by simp), hw]
        | true =>
          cases open_ with
          | false =>
            refine Ev.step (f := fun k => unicodetextref02_combine.l0 k op cuts true ((i + 1 : Nat) : Int) a b (out ++ [⟨cuts[i], hi_⟩])) (fun k => ?_) hn
            rw [unicodetextref02_combine.j2, if_neg (by simp), if_pos rfl, if_neg (by simp), if_pos (by omega), if_pos (by omega), if_pos (by omega), rd_get h1, hw]
          | true =>
            have hpos := hop rfl
            have hw3 : wrap64 ((out.length : Int) - 1) = ((out.length - 1 : Nat) : Int) := by unfold wrap64; omega
            have hrd : rd_T87 out ((out.length - 1 : Nat) : Int) = lastR out := rfl
            refine Ev.step (f := fun k => unicodetextref02_combine.l0 k op cuts true ((i + 1 : Nat) : Int) a b (out.dropLast ++ [⟨(lastR out).f0, hi_⟩])) (fun k => ?_) hn
            rw [unicodetextref02_combine.j2, if_pos (by rfl), hw3, if_pos (by omega), if_pos (by omega), Option.bind_some, if_pos rfl, if_pos rfl, hrd, hw, Int.toNat_natCast, set_last out hpos]
theorem combine_ev (a b : List S87) (op : Int) (ha : a.length ≤ 100000) (hb : b.length ≤ 100000) : Ev (fun k => unicodetextref02_combine.f k a b op) (combL a b op) := by
  have l1 := cutsL_length [] a
  have l2 := cutsL_length (cutsL [] a) b
  simp only [List.length_nil] at l1
  have e1 : unicodetextref02_Cuts.f [] a = some (cutsL [] a) := by rw [unicodetextref02_Cuts.f, if_pos (by simp only [List.length_nil]; omega)]
  have e2 : unicodetextref02_Cuts.f (cutsL [] a) b = some (cutsAB a b) := by rw [unicodetextref02_Cuts.f, if_pos (by omega)]; rfl
  refine Ev.congr (f := fun k => unicodetextref02_combine.l0 k op (cutsAB a b) false ((0 : Nat) : Int) a b []) (fun k => ?_) (comb_l0 a b op (by omega) (by omega) (cutsAB a b) (cutsAB_ok a b) (by unfold cutsAB; omega) _ 0 (Nat.zero_le _) rfl)
  rw [unicodetextref02_combine.f, e1, Option.bind_some, e2, Option.bind_some]
  rfl
end Go.Proofs.YtdgboklnhmfhoaaGreatDoor.G
