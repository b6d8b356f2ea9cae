/- The specification's lookups of mappings in plain words. No program in sight. -/
import Derived.Test.YtdgboklnhmfhoaaGreatDoorCG10
import Derived.Test.YtdgboklnhmfhoaaGreatDoorCV3
import Derived.Test.YtdgboklnhmfhoaaGreatDoorCV4
namespace Go.Proofs.YtdgboklnhmfhoaaGreatDoor.G
open Go.RowKit Go.Proofs.YtdgboklnhmfhoaaGreatDoorW.PrintWords Go.Proofs.YtdgboklnhmfhoaaGreatDoorW.PrintLast Go.Proofs.YtdgboklnhmfhoaaGreatDoorW.PrintMore
set_option linter.unusedVariables false
def emptyS : ByteArray := ⟨#[]⟩
/-- Where no mapping has a tag: what find answers. -/
def plainL (l : List S44) : Prop := ∀ m ∈ l, m.f2 = emptyS
def findP (l : List S44) (c : Int) : List Int × Bool := if hasF l c then (fold1 l c, true) else ([], false)
theorem findP_cons_eq {m : S44} {t : List S44} {c : Int} (h : m.f0 = c) : findP (m :: t) c = (m.f1, true) := by
  simp [findP, hasF, fold1, List.find?, h]
theorem findP_cons_ne {m : S44} {t : List S44} {c : Int} (h : ¬ m.f0 = c) : findP (m :: t) c = findP t c := by
  simp [findP, hasF, fold1, List.find?, h]
theorem find_l0 (l : List S44) (hb : bulkP l) (hp : plainL l) (c : Int) (d : Nat) : ∀ i : Nat, i ≤ l.length → l.length - i = d →
    Ev (fun k => unicodetextref11_find.l0 k l c emptyS i) (findP (l.drop i) c) := by
  induction d with
  | zero =>
    intro i hi hd
    have e : l.drop i = [] := List.drop_eq_nil_of_le (by omega)
    rw [e]
    exact Ev.step (f := fun _ => some ([], false)) (fun k => by rw [unicodetextref11_find.l0, if_neg (by omega)]) (Ev.now _)
  | succ d ih =>
    intro i hi hd
    have h1 : i < l.length := by omega
    have hm := hb.2 l[i] (List.getElem_mem h1)
    have ht := hp l[i] (List.getElem_mem h1)
    rw [List.drop_eq_getElem_cons h1]
    by_cases h0 : l[i].f0 = c
    · rw [findP_cons_eq h0]
      refine Ev.step (f := fun _ => some (l[i].f1, true)) (fun k => ?_) (Ev.now _)
      rw [unicodetextref11_find.l0, if_pos (by omega), if_pos (by omega), rdT_get h1, if_pos h0, if_pos (by rw [ht]), Option.bind_some, if_pos (by simp; omega)]
      rfl
    · rw [findP_cons_ne h0]
      refine Ev.step (f := fun k => unicodetextref11_find.l0 k l c emptyS ((i + 1 : Nat) : Int)) (fun k => ?_) (ih (i + 1) (by omega) (by omega))
      rw [unicodetextref11_find.l0, if_pos (by omega), if_pos (by omega), rdT_get h1, if_neg h0, w64n (by have := hb.1; omega)]
theorem find_ev (l : List S44) (hb : bulkP l) (hp : plainL l) (c : Int) : Ev (fun k => unicodetextref11_find.f k l c emptyS) (findP l c) := find_l0 l hb hp c l.length 0 (Nat.zero_le _) rfl
theorem valid11_ev (l : List S44) (hb : bulkP l) (hc : chkM l = 0) : Ev (fun k => unicodetextref11_valid.f k l) l := by
  refine Ev.bind (f := fun _ t139 => (if t139 = 0 then (some l) else (some ([] : List (S44))))) (check11_ev l hb) ?_
  exact Ev.congr (f := fun _ => some l) (fun k => by rw [if_pos hc]) (Ev.now _)
theorem foldT_succ (l : List S44) (text : List Int) {i : Nat} (h : i < text.length) : foldT l (text.take (i + 1)) = foldT l (text.take i) ++ fold1 l text[i] := by
  rw [List.take_succ_eq_append_getElem h, foldT, List.flatMap_append]
  simp [foldT]
theorem apply_l0 (l : List S44) (hb : bulkP l) (hp : plainL l) (text : List Int) (hT : (foldT l text).length ≤ 1000000000) (ht : text.length ≤ 1000000) (d : Nat) : ∀ i : Nat, i ≤ text.length → text.length - i = d →
    Ev (fun k => unicodetextref11_Apply.l0 k l emptyS text (foldT l (text.take i)) i) (foldT l text) := by
  induction d with
  | zero =>
    intro i hi hd
    have e : text.take i = text := List.take_of_length_le (by omega)
    rw [e]
    exact Ev.step (f := fun _ => some (foldT l text)) (fun k => by rw [unicodetextref11_Apply.l0, if_neg (by omega)]) (Ev.now _)
  | succ d ih =>
    intro i hi hd
    have h1 : i < text.length := by omega
    have hn := ih (i + 1) (by omega) (by omega)
    have hle := foldT_take_le l text (i + 1)
    rw [foldT_succ l text h1] at hn hle
    rw [List.length_append] at hle
    refine Ev.step (f := fun k => (unicodetextref11_find.f k l text[i] emptyS).bind fun bt153 => (if bt153.2 = true then (if (foldT l (text.take i)).length + bt153.1.length < 17592186044416 then (unicodetextref11_Apply.l0 k l emptyS text ((foldT l (text.take i)) ++ bt153.1) ((i + 1 : Nat) : Int)) else (none)) else (if (foldT l (text.take i)).length < 17592186044416 then (unicodetextref11_Apply.l0 k l emptyS text ((foldT l (text.take i)) ++ [text[i]]) ((i + 1 : Nat) : Int)) else (none)))) (fun k => by rw [unicodetextref11_Apply.l0, if_pos (by omega), if_pos (by omega), rd_get h1, w64n (by omega)]) ?_
    refine Ev.bind (f := fun k bt153 => (if bt153.2 = true then (if (foldT l (text.take i)).length + bt153.1.length < 17592186044416 then (unicodetextref11_Apply.l0 k l emptyS text ((foldT l (text.take i)) ++ bt153.1) ((i + 1 : Nat) : Int)) else (none)) else (if (foldT l (text.take i)).length < 17592186044416 then (unicodetextref11_Apply.l0 k l emptyS text ((foldT l (text.take i)) ++ [text[i]]) ((i + 1 : Nat) : Int)) else (none)))) (find_ev l hb hp text[i]) ?_
    unfold findP
    cases hf : hasF l text[i]
    · rw [fold1_none hf] at hn
      refine Ev.congr (f := fun k => unicodetextref11_Apply.l0 k l emptyS text ((foldT l (text.take i)) ++ [text[i]]) ((i + 1 : Nat) : Int)) (fun k => ?_) hn
      first
        | rw [if_neg (by simp), if_pos (by omega)]
        | rw [if_neg (by simp), if_neg (by simp), if_pos (by omega)]
    · refine Ev.congr (f := fun k => unicodetextref11_Apply.l0 k l emptyS text ((foldT l (text.take i)) ++ fold1 l text[i]) ((i + 1 : Nat) : Int)) (fun k => ?_) hn
      rw [if_pos rfl, if_pos rfl, if_pos (by simp only; omega)]
theorem apply_ev (l : List S44) (hb : bulkP l) (hc : chkM l = 0) (hp : plainL l) (text : List Int) (hT : (foldT l text).length ≤ 1000000000) (ht : text.length ≤ 1000000) :
    Ev (fun k => unicodetextref11_Apply.f k l emptyS text) (foldT l text) := by
  refine Ev.bind (f := fun k t149 => (unicodetextref11_Apply.l0 k t149 emptyS text ([] : List Int) 0)) (valid11_ev l hb hc) ?_
  exact apply_l0 l hb hp text hT ht text.length 0 (Nat.zero_le _) rfl
/-- tagged. -/
theorem tagged_l0 (l : List S44) (hb : l.length ≤ 1000000) (s : ByteArray) (d : Nat) : ∀ i : Nat, i ≤ l.length → l.length - i = d →
    Ev (fun k => unicodetextref37_tagged.l0 k l s i) ((l.drop i).any fun m => decide (0 < m.f2.size) && !(m.f2.toList == s.toList)) := by
  induction d with
  | zero =>
    intro i hi hd
    have e : l.drop i = [] := List.drop_eq_nil_of_le (by omega)
    rw [e]
    exact Ev.step (f := fun _ => some false) (fun k => by rw [unicodetextref37_tagged.l0, if_neg (by omega)]) (Ev.now _)
  | succ d ih =>
    intro i hi hd
    have h1 : i < l.length := by omega
    have hn := ih (i + 1) (by omega) (by omega)
    rw [List.drop_eq_getElem_cons h1, List.any_cons]
    have hsz : l[i].f2.toList.length = l[i].f2.size := by rw [ByteArray.toList_eq, Array.length_toList]; rfl
    by_cases h0 : l[i].f2.toList = []
    · have hz : decide (0 < l[i].f2.size) = false := decide_eq_false (by rw [h0] at hsz; simp at hsz; omega)
      rw [hz]
      refine Ev.step (f := fun k => unicodetextref37_tagged.l0 k l s ((i + 1 : Nat) : Int)) (fun k => ?_) (by simpa using hn)
      rw [unicodetextref37_tagged.l0, if_pos (by omega), if_pos (by omega), rdT_get h1, if_pos h0, w64n (by omega)]
    · have hz : decide (0 < l[i].f2.size) = true := decide_eq_true (by
        rcases Nat.eq_zero_or_pos l[i].f2.size with h | h
        · exact absurd (List.length_eq_zero_iff.1 (hsz.trans h)) h0
        · exact h)
      rw [hz]
      by_cases he : l[i].f2.toList = s.toList
      · refine Ev.step (f := fun k => unicodetextref37_tagged.l0 k l s ((i + 1 : Nat) : Int)) (fun k => ?_) (by simpa [he] using hn)
        rw [unicodetextref37_tagged.l0, if_pos (by omega), if_pos (by omega), rdT_get h1, if_neg h0, if_pos he, w64n (by omega)]
      · have hq : (l[i].f2.toList == s.toList) = false := beq_eq_false_iff_ne.2 he
        rw [hq]
        refine Ev.step (f := fun _ => some true) (fun k => ?_) (Ev.now true)
        rw [unicodetextref37_tagged.l0, if_pos (by omega), if_pos (by omega), rdT_get h1, if_neg h0, if_neg he]
theorem tagged_ev (l : List S44) (hb : l.length ≤ 1000000) (s : ByteArray) : Ev (fun k => unicodetextref37_tagged.f k l s) (l.any fun m => decide (0 < m.f2.size) && !(m.f2.toList == s.toList)) := tagged_l0 l hb s l.length 0 (Nat.zero_le _) rfl
end Go.Proofs.YtdgboklnhmfhoaaGreatDoor.G
