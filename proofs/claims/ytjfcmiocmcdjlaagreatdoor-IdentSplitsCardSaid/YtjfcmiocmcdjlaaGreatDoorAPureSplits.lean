/- The plain law of IdentSplits. No program in sight. -/
import Derived.Test.YtjfcmiocmcdjlaaGreatDoorAP2
import Derived.Test.YtjfcmiocmcdjlaaGreatDoorAG9
namespace Go.Proofs.YtjfcmiocmcdjlaaGreatDoor.G
open Go.RowKit Go.Proofs.YtjfcmiocmcdjlaaGreatDoorW.PrintWords Go.Proofs.YtjfcmiocmcdjlaaGreatDoorW.PrintLast Go.Proofs.YtjfcmiocmcdjlaaGreatDoorW.PrintMore
set_option linter.unusedVariables false
variable {l0 l1 l2 : List S32}
theorem lng_le (text : List Int) (a : Nat) : lngS l0 l1 l2 (text.drop a) ≤ text.length - a := by
  have := lngL_le (begS l0) (solS l0 l1) (insS l0 l1 l2) (text.drop a)
  rw [List.length_drop] at this
  exact this
theorem split39_l1 (h0 : l0.length ≤ 12) (h1 : l1.length ≤ 12) (h2 : l2.length ≤ 12) (text : List Int) (ht : text.length ≤ 40) (a : Nat) (ha : a < text.length) (out : List S32) (ho : out.length ≤ 100) (R : List S32)
    (hy : 0 < lngS l0 l1 l2 (text.drop a) → Ev (fun k => unicodetextref39_Split.l0 k text (out ++ [⟨(a : Int), ((a + lngS l0 l1 l2 (text.drop a) : Nat) : Int)⟩]) ((a + lngS l0 l1 l2 (text.drop a) : Nat) : Int) l0 l1 l2) R)
    (hn : lngS l0 l1 l2 (text.drop a) = 0 → Ev (fun k => unicodetextref39_Split.l0 k text out ((a + 1 : Nat) : Int) l0 l1 l2) R) (d : Nat) :
    ∀ e : Nat, a + lngS l0 l1 l2 (text.drop a) ≤ e → e ≤ text.length → e - (a + lngS l0 l1 l2 (text.drop a)) = d → Ev (fun k => unicodetextref39_Split.l1 k text out a e l0 l1 l2) R := by
  have hv := fun e => valid39_ev (l0 := l0) (l1 := l1) (l2 := l2) h0 h1 h2 ((text.take e).drop a) (by rw [List.length_drop, List.length_take]; omega)
  induction d with
  | zero =>
    intro e he hl hd
    obtain rfl : e = a + lngS l0 l1 l2 (text.drop a) := by omega
    by_cases hp : 0 < lngS l0 l1 l2 (text.drop a)
    · refine Ev.step (f := fun k => (unicodetextref39_Valid.f k l0 l1 l2 ((text.take (a + lngS l0 l1 l2 (text.drop a))).drop a)).bind fun t135 => (if t135 = true then (if out.length < 8796093022208 then (unicodetextref39_Split.l0 k text (out ++ [(⟨(a : Int), ((a + lngS l0 l1 l2 (text.drop a) : Nat) : Int)⟩ : S32)]) ((a + lngS l0 l1 l2 (text.drop a) : Nat) : Int) l0 l1 l2) else (none)) else (unicodetextref39_Split.l1 k text out a (wrap64 (((a + lngS l0 l1 l2 (text.drop a) : Nat) : Int) - 1)) l0 l1 l2))) (fun k => ?_) ?_
      · rw [unicodetextref39_Split.l1, if_pos (by omega), if_pos (by omega), if_pos (by omega), if_pos (by omega), Int.toNat_natCast, Int.toNat_natCast]
      · refine Ev.bind (f := fun k t135 => (if t135 = true then (if out.length < 8796093022208 then (unicodetextref39_Split.l0 k text (out ++ [(⟨(a : Int), ((a + lngS l0 l1 l2 (text.drop a) : Nat) : Int)⟩ : S32)]) ((a + lngS l0 l1 l2 (text.drop a) : Nat) : Int) l0 l1 l2) else (none)) else (unicodetextref39_Split.l1 k text out a (wrap64 (((a + lngS l0 l1 l2 (text.drop a) : Nat) : Int) - 1)) l0 l1 l2))) (hv _) ?_
        have hb : validS l0 l1 l2 ((text.take (a + lngS l0 l1 l2 (text.drop a))).drop a) = true := by
          have := part_long l0 l1 l2 text a (by omega) _ (Nat.le_refl _) hl
          rw [decide_eq_true (by omega), decide_eq_true rfl] at this
          exact this
        rw [hb]
        exact Ev.congr (f := fun k => unicodetextref39_Split.l0 k text (out ++ [⟨(a : Int), ((a + lngS l0 l1 l2 (text.drop a) : Nat) : Int)⟩]) ((a + lngS l0 l1 l2 (text.drop a) : Nat) : Int) l0 l1 l2) (fun k => by rw [if_pos rfl, if_pos (by omega)]) (hy hp)
    · exact Ev.step (f := fun k => unicodetextref39_Split.l0 k text out ((a + 1 : Nat) : Int) l0 l1 l2) (fun k => by rw [unicodetextref39_Split.l1, if_neg (by omega), w64n (by omega)]) (hn (by omega))
  | succ d ih =>
    intro e he hl hd
    refine Ev.step (f := fun k => (unicodetextref39_Valid.f k l0 l1 l2 ((text.take e).drop a)).bind fun t135 => (if t135 = true then (if out.length < 8796093022208 then (unicodetextref39_Split.l0 k text (out ++ [(⟨(a : Int), (e : Int)⟩ : S32)]) (e : Int) l0 l1 l2) else (none)) else (unicodetextref39_Split.l1 k text out a ((e - 1 : Nat) : Int) l0 l1 l2))) (fun k => ?_) ?_
    · rw [unicodetextref39_Split.l1, if_pos (by omega), if_pos (by omega), if_pos (by omega), if_pos (by omega), Int.toNat_natCast, Int.toNat_natCast, w64p (by omega) (by omega)]
    · refine Ev.bind (f := fun k t135 => (if t135 = true then (if out.length < 8796093022208 then (unicodetextref39_Split.l0 k text (out ++ [(⟨(a : Int), (e : Int)⟩ : S32)]) (e : Int) l0 l1 l2) else (none)) else (unicodetextref39_Split.l1 k text out a ((e - 1 : Nat) : Int) l0 l1 l2))) (hv e) ?_
      have hb : validS l0 l1 l2 ((text.take e).drop a) = false := by
        have := part_long l0 l1 l2 text a (by omega) e he hl
        rw [decide_eq_false (p := a + lngS l0 l1 l2 (text.drop a) = e) (by omega), Bool.and_false] at this
        exact this
      rw [hb]
      exact Ev.congr (f := fun k => unicodetextref39_Split.l1 k text out a ((e - 1 : Nat) : Int) l0 l1 l2) (fun k => by rw [if_neg (by simp)]) (ih (e - 1) (by omega) (by omega) (by omega))
theorem split39_l0 (h0 : l0.length ≤ 12) (h1 : l1.length ≤ 12) (h2 : l2.length ≤ 12) (text : List Int) (ht : text.length ≤ 40) : ∀ (d a : Nat), text.length - a ≤ d → a ≤ text.length → ∀ out : List S32, out.length ≤ a →
    Ev (fun k => unicodetextref39_Split.l0 k text out a l0 l1 l2) (out ++ splitGo (lngS l0 l1 l2) text d a)
  | 0, a, hd, ha, out, ho => by
    rw [splitGo, List.append_nil]
    exact Ev.step (f := fun _ => some out) (fun k => by rw [unicodetextref39_Split.l0, if_neg (by omega)]) (Ev.now _)
  | d + 1, a, hd, ha, out, ho => by
    rw [splitGo]
    by_cases hl : a < text.length
    · rw [if_pos hl]
      have hle := lng_le (l0 := l0) (l1 := l1) (l2 := l2) text a
      refine Ev.step (f := fun k => unicodetextref39_Split.l1 k text out a (text.length : Nat) l0 l1 l2) (fun k => by rw [unicodetextref39_Split.l0, if_pos (by omega)]) ?_
      refine split39_l1 h0 h1 h2 text ht a hl out (by omega) _ (fun hp => ?_) (fun hz => ?_) _ text.length (by omega) (Nat.le_refl _) rfl
      · rw [if_pos hp]
        have := split39_l0 h0 h1 h2 text ht d (a + lngS l0 l1 l2 (text.drop a)) (by omega) (by omega) (out ++ [⟨(a : Int), ((a + lngS l0 l1 l2 (text.drop a) : Nat) : Int)⟩]) (by simp; omega)
        rw [List.append_assoc, List.singleton_append] at this
        exact this
      · rw [if_neg (by omega)]
        exact split39_l0 h0 h1 h2 text ht d (a + 1) (by omega) (by omega) out (by omega)
    · rw [if_neg hl, List.append_nil]
      exact Ev.step (f := fun _ => some out) (fun k => by rw [unicodetextref39_Split.l0, if_neg (by omega)]) (Ev.now _)
theorem same_l0 (S : List S32) (hS : S.length ≤ 1000000) (d : Nat) : ∀ i : Nat, i ≤ S.length → S.length - i = d → Ev (fun k => unicodetextref20_SameRanges.l0 k S S i) true := by
  induction d with
  | zero =>
    intro i hi hd
    exact Ev.step (f := fun _ => some true) (fun k => by rw [unicodetextref20_SameRanges.l0, if_neg (by omega)]) (Ev.now _)
  | succ d ih =>
    intro i hi hd
    exact Ev.step (f := fun k => unicodetextref20_SameRanges.l0 k S S ((i + 1 : Nat) : Int)) (fun k => by rw [unicodetextref20_SameRanges.l0, if_pos (by omega), if_pos (by omega), if_pos (by omega), if_neg (by simp), w64n (by omega)]) (ih (i + 1) (by omega) (by omega))
theorem splits_pure (l0 l1 l2 : List S32) (text : List Int) : ∃ k, unicodetextlaw39_IdentSplits.f k l0 l1 l2 text = some true := by
  refine Ev.rounds ?_
  unfold unicodetextlaw39_IdentSplits.f
  obtain ⟨r, er, hr⟩ := few_f l0 l1 l2 text
  rw [er]
  cases r with
  | false => exact Ev.congr (f := fun _ => some true) (fun k => by rw [Option.bind_some, if_neg (by simp)]; rfl) (Ev.now _)
  | true =>
    have F := hr rfl
    have hs := split39_l0 F.a F.b F.c text F.t text.length 0 (by omega) (Nat.zero_le _) [] (Nat.zero_le _)
    rw [List.nil_append] at hs
    have hlen := splitS_length l0 l1 l2 text
    have ht := F.t
    refine Ev.congr (f := fun k => (unicodetextref39_Split.f k l0 l1 l2 text).bind fun t192 => ((unicodetextref20_SameRanges.f k (splitS l0 l1 l2 text) t192).bind fun t195 => (if t195 = true then ((unicodetextlaw39_alive.f).bind fun t196 => (some t196)) else (some false)))) (fun k => by rw [Option.bind_some, if_pos rfl, F.split, Option.bind_some]) ?_
    refine Ev.bind (f := fun k t192 => ((unicodetextref20_SameRanges.f k (splitS l0 l1 l2 text) t192).bind fun t195 => (if t195 = true then ((unicodetextlaw39_alive.f).bind fun t196 => (some t196)) else (some false)))) hs ?_
    refine Ev.bind (f := fun _ t195 => (if t195 = true then ((unicodetextlaw39_alive.f).bind fun t196 => (some t196)) else (some false))) (a := true) ?_ (Ev.congr (f := fun _ => some true) (fun k => by rw [if_pos rfl]; rfl) (Ev.now _))
    exact Ev.congr (f := fun k => unicodetextref20_SameRanges.l0 k (splitS l0 l1 l2 text) (splitS l0 l1 l2 text) ((0 : Nat) : Int)) (fun k => by show unicodetextref20_SameRanges.f k _ (splitS l0 l1 l2 text) = _; rw [unicodetextref20_SameRanges.f, if_pos rfl]; rfl) (same_l0 _ (by omega) _ 0 (Nat.zero_le _) rfl)
end Go.Proofs.YtjfcmiocmcdjlaaGreatDoor.G
