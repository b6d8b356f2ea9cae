/- The specification's Valid and Split in plain words: the same as the program's. -/
import Derived.Test.YtjfcmiocmcdjlaaGreatDoorAP1
import Derived.Test.YtjfcmiocmcdjlaaGreatDoorAG4
namespace Go.Proofs.YtjfcmiocmcdjlaaGreatDoor.G
open Go.RowKit Go.Proofs.YtjfcmiocmcdjlaaGreatDoorW.PrintWords Go.Proofs.YtjfcmiocmcdjlaaGreatDoorW.PrintLast Go.Proofs.YtjfcmiocmcdjlaaGreatDoorW.PrintMore
set_option linter.unusedVariables false
theorem valid01 (c : Int) : unicodetextref01_Valid.f c = some (!badCode c) := by
  unfold unicodetextref01_Valid.f badCode
  by_cases h1 : 0 ≤ c
  · rw [if_pos h1, decide_eq_true h1]; simp
  · rw [if_neg h1, decide_eq_false h1]; rfl
theorem has_l0 (l : List S32) (c : Int) (hl : l.length ≤ 1000000) (d : Nat) : ∀ (i : Nat), i ≤ l.length → l.length - i = d → Ev (fun k => unicodetextref02_Has.l0 k c i l) (hasR (l.drop i) c) := by
  induction d with
  | zero =>
    intro i hi hd
    have e : l.drop i = [] := List.drop_eq_nil_of_le (by omega)
    rw [e]
    exact Ev.step (f := fun _ => some false) (fun k => by rw [unicodetextref02_Has.l0, if_neg (by omega)]) (Ev.now _)
  | succ d ih =>
    intro i hi hd
    have h1 : i < l.length := by omega
    have hn := ih (i + 1) (by omega) (by omega)
    have hst : hasR (l.drop i) c = ((!badCode c && (decide (l[i].f0 ≤ c) && decide (c ≤ l[i].f1))) || hasR (l.drop (i + 1)) c) := by
      rw [List.drop_eq_getElem_cons h1]; rfl
    rw [hst]
    cases hb : badCode c
    · by_cases h2 : l[i].f0 ≤ c
      · by_cases h3 : c ≤ l[i].f1
        · rw [decide_eq_true h2, decide_eq_true h3]
          exact Ev.step (f := fun _ => some true) (fun k => by rw [unicodetextref02_Has.l0, if_pos (by omega), valid01, hb, Option.bind_some, if_pos (show (!false) = true from rfl), if_pos (by omega), rdR_get h1, if_pos h2, if_pos h3]) (Ev.now _)
        · rw [decide_eq_false h3]
          refine Ev.step (f := fun k => unicodetextref02_Has.l0 k c ((i + 1 : Nat) : Int) l) (fun k => by rw [unicodetextref02_Has.l0, if_pos (by omega), valid01, hb, Option.bind_some, if_pos (show (!false) = true from rfl), if_pos (by omega), rdR_get h1, if_pos h2, if_neg h3, w64n (by omega)]) (by simpa using hn)
      · rw [decide_eq_false h2]
        refine Ev.step (f := fun k => unicodetextref02_Has.l0 k c ((i + 1 : Nat) : Int) l) (fun k => by rw [unicodetextref02_Has.l0, if_pos (by omega), valid01, hb, Option.bind_some, if_pos (show (!false) = true from rfl), if_pos (by omega), rdR_get h1, if_neg h2, w64n (by omega)]) (by simpa using hn)
    · refine Ev.step (f := fun k => unicodetextref02_Has.l0 k c ((i + 1 : Nat) : Int) l) (fun k => by rw [unicodetextref02_Has.l0, if_pos (by omega), valid01, hb, Option.bind_some, if_neg (by simp), w64n (by omega)]) (by simpa using hn)
theorem has_ev (l : List S32) (c : Int) (hl : l.length ≤ 1000000) : Ev (fun k => unicodetextref02_Has.f k l c) (hasR l c) := has_l0 l c hl l.length 0 (Nat.zero_le _) rfl
variable {l0 l1 l2 : List S32}
/-- An element that is in Medial alone. -/
def medB (l0 l1 l2 : List S32) (c : Int) : Bool := insS l0 l1 l2 c && !solS l0 l1 c
def folB (l0 l1 l2 : List S32) (pm : Bool) (c : Int) : Bool := if medB l0 l1 l2 c then !pm else solS l0 l1 c
theorem medial_ev (h0 : l0.length ≤ 12) (h1 : l1.length ≤ 12) (h2 : l2.length ≤ 12) (c : Int) : Ev (fun k => unicodetextref39_medial.f k l0 l1 l2 c) (medB l0 l1 l2 c) := by
  unfold unicodetextref39_medial.f
  refine Ev.bind (f := fun k t113 => (if t113 = true then ((unicodetextref02_Has.f k l0 c).bind fun t114 => (if t114 = true then (some false) else ((unicodetextref02_Has.f k l1 c).bind fun t115 => (some (!t115))))) else (some false))) (has_ev l2 c (by omega)) ?_
  cases g2 : hasR l2 c
  · have e : medB l0 l1 l2 c = false := by unfold medB insS solS; rw [g2]; cases hasR l0 c <;> cases hasR l1 c <;> rfl
    rw [e]
    exact Ev.congr (f := fun _ => some false) (fun k => by rw [if_neg (by simp)]) (Ev.now _)
  · refine Ev.congr (f := fun k => (unicodetextref02_Has.f k l0 c).bind fun t114 => (if t114 = true then (some false) else ((unicodetextref02_Has.f k l1 c).bind fun t115 => (some (!t115))))) (fun k => by rw [if_pos rfl]) ?_
    refine Ev.bind (f := fun k t114 => (if t114 = true then (some false) else ((unicodetextref02_Has.f k l1 c).bind fun t115 => (some (!t115))))) (has_ev l0 c (by omega)) ?_
    cases g0 : hasR l0 c
    · refine Ev.congr (f := fun k => (unicodetextref02_Has.f k l1 c).bind fun t115 => (some (!t115))) (fun k => by rw [if_neg (by simp)]) ?_
      refine Ev.bind (f := fun k t115 => some (!t115)) (has_ev l1 c (by omega)) ?_
      have e : medB l0 l1 l2 c = !hasR l1 c := by unfold medB insS solS; rw [g2, g0]; cases hasR l1 c <;> rfl
      rw [e]
      exact Ev.now _
    · have e : medB l0 l1 l2 c = false := by unfold medB insS solS; rw [g2, g0]; rfl
      rw [e]
      exact Ev.congr (f := fun _ => some false) (fun k => by rw [if_pos rfl]) (Ev.now _)
theorem follows_ev (h0 : l0.length ≤ 12) (h1 : l1.length ≤ 12) (h2 : l2.length ≤ 12) (a c : Int) : Ev (fun k => unicodetextref39_follows.f k l0 l1 l2 a c) (folB l0 l1 l2 (medB l0 l1 l2 a) c) := by
  unfold unicodetextref39_follows.f
  refine Ev.bind (f := fun k t117 => (if t117 = true then ((unicodetextref39_medial.f k l0 l1 l2 a).bind fun t118 => (some (!t118))) else ((unicodetextref02_Has.f k l0 c).bind fun t119 => (if t119 = true then (some true) else ((unicodetextref02_Has.f k l1 c).bind fun t120 => (some t120)))))) (medial_ev h0 h1 h2 c) ?_
  cases g : medB l0 l1 l2 c
  · refine Ev.congr (f := fun k => (unicodetextref02_Has.f k l0 c).bind fun t119 => (if t119 = true then (some true) else ((unicodetextref02_Has.f k l1 c).bind fun t120 => (some t120)))) (fun k => by rw [if_neg (by simp)]) ?_
    refine Ev.bind (f := fun k t119 => (if t119 = true then (some true) else ((unicodetextref02_Has.f k l1 c).bind fun t120 => (some t120)))) (has_ev l0 c (by omega)) ?_
    cases g0 : hasR l0 c
    · refine Ev.congr (f := fun k => (unicodetextref02_Has.f k l1 c).bind fun t120 => (some t120)) (fun k => by rw [if_neg (by simp)]) ?_
      refine Ev.bind (f := fun k t120 => some t120) (has_ev l1 c (by omega)) ?_
      have e : folB l0 l1 l2 (medB l0 l1 l2 a) c = hasR l1 c := by unfold folB; rw [g, if_neg (by simp)]; unfold solS; rw [g0]; rfl
      rw [e]
      exact Ev.now _
    · have e : folB l0 l1 l2 (medB l0 l1 l2 a) c = true := by unfold folB; rw [g, if_neg (by simp)]; unfold solS; rw [g0]; rfl
      rw [e]
      exact Ev.congr (f := fun _ => some true) (fun k => by rw [if_pos rfl]) (Ev.now _)
  · refine Ev.congr (f := fun k => (unicodetextref39_medial.f k l0 l1 l2 a).bind fun t118 => (some (!t118))) (fun k => by rw [if_pos rfl]) ?_
    refine Ev.bind (f := fun k t118 => some (!t118)) (medial_ev h0 h1 h2 a) ?_
    have e : folB l0 l1 l2 (medB l0 l1 l2 a) c = !medB l0 l1 l2 a := by unfold folB; rw [g, if_pos rfl]
    rw [e]
    exact Ev.now _
/-- What the specification's wrong answers from a place on. -/
def wrongR (l0 l1 l2 : List S32) : Bool → List Int → Nat → Int
  | pm, [], i => if pm then (i : Int) else -1
  | pm, c :: t, i => if folB l0 l1 l2 pm c then wrongR l0 l1 l2 (medB l0 l1 l2 c) t (i + 1) else (i : Int)
theorem wrongR_lng : ∀ (t : List Int) (i n : Nat), n ≤ i → decide (wrongR l0 l1 l2 (decide (n < i)) t i < 0) = decide (lngGo (solS l0 l1) (insS l0 l1 l2) t i n = i + t.length)
  | [], i, n, h => by
    rw [wrongR, lngGo, List.length_nil, Nat.add_zero]
    by_cases hn : n < i
    · rw [decide_eq_true hn, if_pos rfl]
      exact decide_eq_decide.2 (by omega)
    · rw [decide_eq_false hn, if_neg (by simp)]
      exact decide_eq_decide.2 (by omega)
  | c :: t, i, n, h => by
    rw [wrongR, lngGo, List.length_cons]
    have ff : ¬ (false = true) := by simp
    cases hs : solS l0 l1 c
    · rw [if_neg ff]
      cases hi : insS l0 l1 l2 c
      · have hm : medB l0 l1 l2 c = false := by unfold medB; rw [hi]; rfl
        have hf : folB l0 l1 l2 (decide (n < i)) c = false := by unfold folB; rw [hm, if_neg ff, hs]
        rw [hf, if_neg ff, if_pos (show (!false || decide (n < i)) = true from rfl)]
        exact decide_eq_decide.2 (by omega)
      · have hm : medB l0 l1 l2 c = true := by unfold medB; rw [hi, hs]; rfl
        have hf : folB l0 l1 l2 (decide (n < i)) c = !decide (n < i) := by unfold folB; rw [hm, if_pos rfl]
        rw [hf]
        by_cases hn : n < i
        · rw [decide_eq_true hn, if_neg (show ¬ ((!true) = true) by simp), if_pos (show (!true || true) = true from rfl)]
          exact decide_eq_decide.2 (by omega)
        · rw [decide_eq_false hn, if_pos (show (!false) = true from rfl), if_neg (show ¬ ((!true || false) = true) by simp), hm]
          have := wrongR_lng t (i + 1) n (by omega)
          rw [decide_eq_true (show n < i + 1 by omega)] at this
          rw [this]
          exact decide_eq_decide.2 (by omega)
    · have hm : medB l0 l1 l2 c = false := by unfold medB; rw [hs]; simp
      have hf : folB l0 l1 l2 (decide (n < i)) c = true := by unfold folB; rw [hm, if_neg (by simp), hs]
      rw [hf, if_pos rfl, if_pos rfl, hm]
      have := wrongR_lng t (i + 1) (i + 1) (Nat.le_refl _)
      rw [decide_eq_false (show ¬ (i + 1 < i + 1) by omega)] at this
      rw [this]
      exact decide_eq_decide.2 (by omega)
theorem w64p {i : Nat} (h0 : 1 ≤ i) (h : i < 9223372036854775807) : wrap64 ((i : Int) - 1) = ((i - 1 : Nat) : Int) := by unfold wrap64; omega
theorem wrong_l0 (h0 : l0.length ≤ 12) (h1 : l1.length ≤ 12) (h2 : l2.length ≤ 12) (t : List Int) (ht : t.length ≤ 1000000) (d : Nat) :
    ∀ i : Nat, 1 ≤ i → i ≤ t.length → t.length - i = d → Ev (fun k => unicodetextref39_wrong.l0 k t i l0 l1 l2) (wrongR l0 l1 l2 (medB l0 l1 l2 (t.getD (i - 1) 0)) (t.drop i) i) := by
  induction d with
  | zero =>
    intro i hi hl hd
    obtain rfl : i = t.length := by omega
    rw [List.drop_length, wrongR]
    have hg : t.length - 1 < t.length := by omega
    refine Ev.step (f := fun k => (unicodetextref39_medial.f k l0 l1 l2 (t.getD (t.length - 1) 0)).bind fun t128 => (if t128 = true then (some (t.length : Int)) else (some (-1)))) (fun k => ?_) ?_
    · rw [unicodetextref39_wrong.l0, if_neg (by omega), w64p hi (by omega), if_pos (by omega), if_pos (by omega)]
      rfl
    · refine Ev.bind (f := fun k t128 => (if t128 = true then (some (t.length : Int)) else (some (-1)))) (medial_ev h0 h1 h2 _) ?_
      cases medB l0 l1 l2 (t.getD (t.length - 1) 0)
      · exact Ev.congr (f := fun _ => some (-1)) (fun k => by rw [if_neg (by simp)]) (Ev.now _)
      · exact Ev.congr (f := fun _ => some (t.length : Int)) (fun k => by rw [if_pos rfl]) (Ev.now _)
  | succ d ih =>
    intro i hi hl hd
    have hlt : i < t.length := by omega
    rw [List.drop_eq_getElem_cons hlt, wrongR]
    refine Ev.step (f := fun k => (unicodetextref39_follows.f k l0 l1 l2 (t.getD (i - 1) 0) t[i]).bind fun t126 => (if t126 = true then (unicodetextref39_wrong.l0 k t ((i + 1 : Nat) : Int) l0 l1 l2) else (some (i : Int)))) (fun k => ?_) ?_
    · rw [unicodetextref39_wrong.l0, if_pos (by omega), w64p hi (by omega), if_pos (by omega), if_pos (by omega), if_pos (by omega), rd_get hlt, w64n (by omega)]
      rfl
    · refine Ev.bind (f := fun k t126 => (if t126 = true then (unicodetextref39_wrong.l0 k t ((i + 1 : Nat) : Int) l0 l1 l2) else (some (i : Int)))) (follows_ev h0 h1 h2 _ _) ?_
      cases folB l0 l1 l2 (medB l0 l1 l2 (t.getD (i - 1) 0)) t[i]
      · rw [if_neg (by simp)]
        exact Ev.congr (f := fun _ => some (i : Int)) (fun k => by rw [if_neg (by simp)]) (Ev.now _)
      · rw [if_pos rfl]
        refine Ev.congr (f := fun k => unicodetextref39_wrong.l0 k t ((i + 1 : Nat) : Int) l0 l1 l2) (fun k => by rw [if_pos rfl]) ?_
        have := ih (i + 1) (by omega) (by omega) (by omega)
        rw [show t.getD (i + 1 - 1) 0 = t[i] from by rw [Nat.add_sub_cancel, List.getD_eq_getElem?_getD, List.getElem?_eq_getElem hlt]; rfl] at this
        exact this
/-- The specification's Valid is the program's. -/
theorem valid39_ev (h0 : l0.length ≤ 12) (h1 : l1.length ≤ 12) (h2 : l2.length ≤ 12) (t : List Int) (ht : t.length ≤ 1000000) : Ev (fun k => unicodetextref39_Valid.f k l0 l1 l2 t) (validS l0 l1 l2 t) := by
  unfold unicodetextref39_Valid.f
  have key : ∃ r : Int, Ev (fun k => unicodetextref39_wrong.f k l0 l1 l2 t) r ∧ decide (r < 0) = validS l0 l1 l2 t := by
    unfold unicodetextref39_wrong.f
    match t, ht with
    | [], ht => exact ⟨0, Ev.congr (f := fun k => unicodetextref39_wrong.j0 k [] true l0 l1 l2) (fun k => by rw [if_pos (by simp)]) (Ev.step (f := fun _ => some 0) (fun k => by rw [unicodetextref39_wrong.j0, if_pos rfl]) (Ev.now _)), rfl⟩
    | c :: t, ht =>
      have hne : ¬ (((c :: t).length : Int) = 0) := by simp only [List.length_cons]; omega
      have hpos : (0 : Int) < ((c :: t).length : Int) := by simp only [List.length_cons]; omega
      have e0 : rd (c :: t) 0 = c := rfl
      cases hb : hasR l0 c
      · refine ⟨0, Ev.congr (f := fun k => (unicodetextref02_Has.f k l0 c).bind fun t123 => (unicodetextref39_wrong.j0 k (c :: t) (!t123) l0 l1 l2)) (fun k => by rw [if_neg hne, if_pos hpos, e0]) (Ev.bind (f := fun k t123 => unicodetextref39_wrong.j0 k (c :: t) (!t123) l0 l1 l2) (has_ev l0 c (by omega)) ?_), ?_⟩
        · rw [hb]
          exact Ev.step (f := fun _ => some 0) (fun k => by rw [unicodetextref39_wrong.j0, if_pos (by rfl)]) (Ev.now _)
        · unfold validS lngS
          rw [lngL, show begS l0 c = false from hb]
          simp
      · have hm : medB l0 l1 l2 c = false := by unfold medB solS; rw [hb]; simp
        have hw := wrong_l0 h0 h1 h2 (c :: t) ht _ 1 (Nat.le_refl _) (by simp) rfl
        have e1 : (c :: t).getD (1 - 1) 0 = c := rfl
        rw [e1, hm] at hw
        refine ⟨wrongR l0 l1 l2 false (List.drop 1 (c :: t)) 1, Ev.congr (f := fun k => (unicodetextref02_Has.f k l0 c).bind fun t123 => (unicodetextref39_wrong.j0 k (c :: t) (!t123) l0 l1 l2)) (fun k => by rw [if_neg hne, if_pos hpos, e0]) (Ev.bind (f := fun k t123 => unicodetextref39_wrong.j0 k (c :: t) (!t123) l0 l1 l2) (has_ev l0 c (by omega)) ?_), ?_⟩
        · rw [hb]
          exact Ev.step (f := fun k => unicodetextref39_wrong.l0 k (c :: t) ((1 : Nat) : Int) l0 l1 l2) (fun k => by rw [unicodetextref39_wrong.j0, if_neg (by simp)]; rfl) hw
        · have := wrongR_lng (l0 := l0) (l1 := l1) (l2 := l2) t 1 1 (Nat.le_refl _)
          rw [decide_eq_false (show ¬ (1 < 1) by omega)] at this
          rw [show List.drop 1 (c :: t) = t from rfl, this]
          unfold validS lngS
          rw [lngL, show begS l0 c = true from hb, if_pos rfl, List.length_cons, decide_eq_true (show 0 < t.length + 1 by omega), Bool.true_and]
          exact decide_eq_decide.2 (by omega)
  obtain ⟨r, hr, he⟩ := key
  rw [← he]
  exact Ev.bind (f := fun k t130 => some (decide (t130 < 0))) hr (Ev.now _)
end Go.Proofs.YtjfcmiocmcdjlaaGreatDoor.G
