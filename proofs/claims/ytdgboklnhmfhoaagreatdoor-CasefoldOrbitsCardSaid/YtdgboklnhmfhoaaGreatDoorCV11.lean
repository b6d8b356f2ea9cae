/- The specification's orbits evaluated: they are the program's. No program in sight. -/
import Derived.Test.YtdgboklnhmfhoaaGreatDoorCG15
import Derived.Test.YtdgboklnhmfhoaaGreatDoorCV10
namespace Go.Proofs.YtdgboklnhmfhoaaGreatDoor.G
open Go.RowKit Go.Proofs.YtdgboklnhmfhoaaGreatDoorW.PrintWords Go.Proofs.YtdgboklnhmfhoaaGreatDoorW.PrintLast Go.Proofs.YtdgboklnhmfhoaaGreatDoorW.PrintMore
set_option linter.unusedVariables false
section
variable {l0 l1 l2 l3 : List S44} {l4 l5 : List S87}
theorem orb_l2 (T cs out : List Int) (i x : Int) (hl : out.length ≤ 1000000) {r : List Int}
    (hn : Ev (fun k => unicodetextref38_Orbit.l1 k T cs (placeL out x) (wrap64 (i + 1)) l0 l1 l2 l3 l4 l5) r) (d : Nat) : ∀ j : Nat, j ≤ out.length → out.length - j = d → placeL out x = out.take j ++ placeL (out.drop j) x →
    Ev (fun k => unicodetextref38_Orbit.l2 k T cs out i x j l0 l1 l2 l3 l4 l5) r := by
  induction d with
  | zero =>
    intro j hj hd hp
    have e : out.drop j = [] := List.drop_eq_nil_of_le (by omega)
    have e1 : out.take j = out := List.take_of_length_le (by omega)
    rw [e, e1, placeL] at hp
    rw [hp] at hn
    refine Ev.step (f := fun k => unicodetextref38_Orbit.l1 k T cs (out ++ [x]) (wrap64 (i + 1)) l0 l1 l2 l3 l4 l5) (fun k => ?_) hn
    rw [unicodetextref38_Orbit.l2, if_neg (by omega), if_pos (by omega), if_pos (by omega)]
    simp only [Int.toNat_natCast, e, e1, Option.bind_some, List.nil_append, List.append_nil, List.length_nil, List.length_append, List.length_cons]
    rw [if_pos (by omega), if_pos (by omega), if_pos (by omega)]
  | succ d ih =>
    intro j hj hd hp
    have h1 : j < out.length := by omega
    by_cases h2 : out[j] < x
    · refine Ev.step (f := fun k => unicodetextref38_Orbit.l2 k T cs out i x ((j + 1 : Nat) : Int) l0 l1 l2 l3 l4 l5) (fun k => ?_) (ih (j + 1) (by omega) (by omega) ?_)
      · rw [unicodetextref38_Orbit.l2, if_pos (by omega), if_pos (by omega), rd_get h1, if_pos h2, w64n (by omega)]
      · rw [hp, List.drop_eq_getElem_cons h1, placeL, if_neg (by omega), List.take_succ_eq_append_getElem h1, List.append_assoc]
        rfl
    · rw [List.drop_eq_getElem_cons h1, placeL, if_pos (by omega)] at hp
      by_cases h3 : out[j] = x
      · rw [if_neg (by omega), ← List.drop_eq_getElem_cons h1, List.take_append_drop] at hp
        rw [hp] at hn
        refine Ev.step (f := fun k => unicodetextref38_Orbit.l1 k T cs out (wrap64 (i + 1)) l0 l1 l2 l3 l4 l5) (fun k => ?_) hn
        rw [unicodetextref38_Orbit.l2, if_pos (by omega), if_pos (by omega), rd_get h1, if_neg h2, if_pos h3]
      · rw [if_pos (by omega), ← List.drop_eq_getElem_cons h1] at hp
        rw [hp] at hn
        refine Ev.step (f := fun k => unicodetextref38_Orbit.l1 k T cs (out.take j ++ x :: out.drop j) (wrap64 (i + 1)) l0 l1 l2 l3 l4 l5) (fun k => ?_) hn
        rw [unicodetextref38_Orbit.l2, if_pos (by omega), if_pos (by omega), rd_get h1, if_neg h2, if_neg h3, if_pos (by omega)]
        simp only [Int.toNat_natCast, Option.bind_some, List.nil_append, List.length_nil, List.length_append, List.length_cons, List.length_take, List.length_drop, List.append_assoc, List.singleton_append]
        rw [if_pos (by omega), if_pos (by omega), if_pos (by omega)]
theorem orb_l1 (hb : Bulk l0 l1 l2 l3 l4 l5) (p3 : smallP l3) (T cs : List Int) (hT : T.length ≤ 1000000) (hc : cs.length ≤ 1000000) (d : Nat) : ∀ i : Nat, i ≤ cs.length → cs.length - i = d →
    Ev (fun k => unicodetextref38_Orbit.l1 k T cs ((cs.take i).foldl (orbStep (foldList l0 l1 l2 l3 l4 l5) T) []) i l0 l1 l2 l3 l4 l5) (cs.foldl (orbStep (foldList l0 l1 l2 l3 l4 l5) T) []) := by
  induction d with
  | zero =>
    intro i hi hd
    have e1 : cs.take i = cs := List.take_of_length_le (by omega)
    rw [e1]
    exact Ev.step (f := fun _ => some (cs.foldl (orbStep (foldList l0 l1 l2 l3 l4 l5) T) [])) (fun k => by rw [unicodetextref38_Orbit.l1, if_neg (by omega)]) (Ev.now _)
  | succ d ih =>
    intro i hi hd
    have h1 : i < cs.length := by omega
    have hn := ih (i + 1) (by omega) (by omega)
    have e : (cs.take (i + 1)).foldl (orbStep (foldList l0 l1 l2 l3 l4 l5) T) [] = orbStep (foldList l0 l1 l2 l3 l4 l5) T ((cs.take i).foldl (orbStep (foldList l0 l1 l2 l3 l4 l5) T) []) cs[i] := by
      rw [List.take_succ_eq_append_getElem h1, List.foldl_append]; rfl
    rw [e] at hn
    have hol := orbFold_length (FL := foldList l0 l1 l2 l3 l4 l5) (target := T) (cs.take i) []
    rw [List.length_take, List.length_nil] at hol
    generalize (cs.take i).foldl (orbStep (foldList l0 l1 l2 l3 l4 l5) T) [] = out at hn hol ⊢
    have hf := fold38_ev hb p3 [cs[i]] (by simp)
    have hf1 : foldT (foldList l0 l1 l2 l3 l4 l5) [cs[i]] = fold1 (foldList l0 l1 l2 l3 l4 l5) cs[i] := by simp [foldT]
    rw [hf1] at hf
    have hfl := fold1_length (l0 := l0) (l1 := l1) (l2 := l2) (l4 := l4) (l5 := l5) p3 cs[i]
    unfold orbStep at hn
    cases hbc : badCode cs[i] with
    | true =>
      rw [if_pos hbc] at hn
      refine Ev.step (f := fun k => unicodetextref38_Orbit.j2 k T cs out i cs[i] true l0 l1 l2 l3 l4 l5) (fun k => ?_) ?_
      · rw [unicodetextref38_Orbit.l1, if_pos (by omega), if_pos (by omega), rd_get h1, valid01, hbc]
        rfl
      · refine Ev.step (f := fun k => unicodetextref38_Orbit.l1 k T cs out ((i + 1 : Nat) : Int) l0 l1 l2 l3 l4 l5) (fun k => ?_) hn
        rw [unicodetextref38_Orbit.j2, if_pos rfl, w64n (by omega)]
    | false =>
      rw [if_neg (by rw [hbc]; simp)] at hn
      refine Ev.step (f := fun k => (unicodetextref38_Fold.f k l0 l1 l2 l3 l4 l5 [cs[i]]).bind fun t291 => ((unicodetextref01_Equal.f k t291 T).bind fun t294 => (unicodetextref38_Orbit.j2 k T cs out i cs[i] (!t294) l0 l1 l2 l3 l4 l5))) (fun k => ?_) ?_
      · rw [unicodetextref38_Orbit.l1, if_pos (by omega), if_pos (by omega), rd_get h1, valid01, hbc]
        rfl
      · refine Ev.bind (f := fun k t291 => ((unicodetextref01_Equal.f k t291 T).bind fun t294 => (unicodetextref38_Orbit.j2 k T cs out i cs[i] (!t294) l0 l1 l2 l3 l4 l5))) hf ?_
        refine Ev.bind (f := fun k t294 => (unicodetextref38_Orbit.j2 k T cs out i cs[i] (!t294) l0 l1 l2 l3 l4 l5)) (equal01_ev _ _ (by omega)) ?_
        by_cases ht : fold1 (foldList l0 l1 l2 l3 l4 l5) cs[i] = T
        · rw [if_pos ht] at hn
          rw [decide_eq_true ht]
          refine Ev.step (f := fun k => unicodetextref38_Orbit.l2 k T cs out i cs[i] ((0 : Nat) : Int) l0 l1 l2 l3 l4 l5) (fun k => by rw [unicodetextref38_Orbit.j2, if_neg (by simp)]; rfl) ?_
          refine orb_l2 T cs out i cs[i] (by omega) ?_ out.length 0 (Nat.zero_le _) rfl (by simp)
          rw [w64n (by omega)]
          exact hn
        · rw [if_neg ht] at hn
          rw [decide_eq_false ht]
          refine Ev.step (f := fun k => unicodetextref38_Orbit.l1 k T cs out ((i + 1 : Nat) : Int) l0 l1 l2 l3 l4 l5) (fun k => ?_) hn
          rw [unicodetextref38_Orbit.j2, if_pos (by simp), w64n (by omega)]
theorem orb_l0 (FL : List S44) (hl : FL.length ≤ 1000000) (c : Int) (T : List Int) (hT : T.length ≤ 1000000) {r : List Int}
    (hn : Ev (fun k => unicodetextref38_Orbit.l1 k T (FL.map (·.f0) ++ T ++ [c]) [] 0 l0 l1 l2 l3 l4 l5) r) (d : Nat) : ∀ i : Nat, i ≤ FL.length → FL.length - i = d →
    Ev (fun k => unicodetextref38_Orbit.l0 k c FL T ((FL.take i).map (·.f0)) i l0 l1 l2 l3 l4 l5) r := by
  induction d with
  | zero =>
    intro i hi hd
    have e1 : FL.take i = FL := List.take_of_length_le (by omega)
    rw [e1]
    refine Ev.step (f := fun k => unicodetextref38_Orbit.l1 k T (FL.map (·.f0) ++ T ++ [c]) [] 0 l0 l1 l2 l3 l4 l5) (fun k => ?_) hn
    rw [unicodetextref38_Orbit.l0, if_neg (by omega), if_pos (by rw [List.length_map]; omega), Option.bind_some, if_pos (by rw [List.length_append, List.length_map]; omega)]
  | succ d ih =>
    intro i hi hd
    have h1 : i < FL.length := by omega
    have hn2 := ih (i + 1) (by omega) (by omega)
    rw [List.take_succ_eq_append_getElem h1, List.map_append] at hn2
    refine Ev.step (f := fun k => unicodetextref38_Orbit.l0 k c FL T ((FL.take i).map (·.f0) ++ [FL[i].f0]) ((i + 1 : Nat) : Int) l0 l1 l2 l3 l4 l5) (fun k => ?_) hn2
    rw [unicodetextref38_Orbit.l0, if_pos (by omega), if_pos (by omega), if_pos (by rw [List.length_map, List.length_take]; omega), rdT_get h1, w64n (by omega)]
theorem orbit38_ev (hb : Bulk l0 l1 l2 l3 l4 l5) (p3 : smallP l3) (c : Int) :
    Ev (fun k => unicodetextref38_Orbit.f k l0 l1 l2 l3 l4 l5 c) (if badCode c then [] else orbitL (foldList l0 l1 l2 l3 l4 l5) c) := by
  cases hc : badCode c with
  | true =>
    refine Ev.congr (f := fun _ => some []) (fun k => ?_) (Ev.now _)
    rw [unicodetextref38_Orbit.f, valid01, hc]
    rfl
  | false =>
    have hfl := fold1_length (l0 := l0) (l1 := l1) (l2 := l2) (l4 := l4) (l5 := l5) p3 c
    have hf := fold38_ev hb p3 [c] (by simp)
    have hf1 : foldT (foldList l0 l1 l2 l3 l4 l5) [c] = fold1 (foldList l0 l1 l2 l3 l4 l5) c := by simp [foldT]
    rw [hf1] at hf
    have hbl := (foldList_bulk hb).1
    rw [if_neg (by simp), ← orbRef_eq (foldList_nodup l0 l1 l2 l3 l4 l5) (chkM_good (foldList_chk l0 l1 l2 l3 l4 l5)) hc]
    refine Ev.congr (f := fun k => (unicodetextref38_Data.f k l0 l1 l2 l3 l4 l5).bind fun t267 => ((unicodetextref38_Fold.f k l0 l1 l2 l3 l4 l5 [c]).bind fun t273 => (unicodetextref38_Orbit.l0 k c t267 t273 ([] : List Int) 0 l0 l1 l2 l3 l4 l5))) (fun k => ?_) ?_
    · rw [unicodetextref38_Orbit.f, valid01, hc]
      rfl
    · refine Ev.bind (f := fun k t267 => ((unicodetextref38_Fold.f k l0 l1 l2 l3 l4 l5 [c]).bind fun t273 => (unicodetextref38_Orbit.l0 k c t267 t273 ([] : List Int) 0 l0 l1 l2 l3 l4 l5))) (data38_ev hb) ?_
      refine Ev.bind (f := fun k t273 => (unicodetextref38_Orbit.l0 k c (foldList l0 l1 l2 l3 l4 l5) t273 ([] : List Int) 0 l0 l1 l2 l3 l4 l5)) hf ?_
      refine orb_l0 (foldList l0 l1 l2 l3 l4 l5) hbl c _ (by omega) ?_ _ 0 (Nat.zero_le _) rfl
      have hcl : (cands (foldList l0 l1 l2 l3 l4 l5) c).length ≤ 1000000 := by
        have h20 := p3.1
        have hs := (foldList_sub l0 l1 l2 l3 l4 l5).1
        simp only [cands, List.length_append, List.length_map, List.length_cons, List.length_nil]
        omega
      exact orb_l1 hb p3 _ (cands (foldList l0 l1 l2 l3 l4 l5) c) (by omega) hcl _ 0 (Nat.zero_le _) rfl
end
end Go.Proofs.YtdgboklnhmfhoaaGreatDoor.G
