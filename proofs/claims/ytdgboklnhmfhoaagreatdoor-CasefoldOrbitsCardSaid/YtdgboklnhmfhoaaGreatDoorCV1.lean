/- cpset.Valid in plain words. -/
import Derived.Test.YtdgboklnhmfhoaaGreatDoorCG12
namespace Go.Proofs.YtdgboklnhmfhoaaGreatDoor.G
open Go.RowKit Go.Proofs.YtdgboklnhmfhoaaGreatDoorW.PrintWords Go.Proofs.YtdgboklnhmfhoaaGreatDoorW.PrintLast Go.Proofs.YtdgboklnhmfhoaaGreatDoorW.PrintMore
set_option linter.unusedVariables false
instance : DecidableEq S87 := fun a b => if h : a.f0 = b.f0 ∧ a.f1 = b.f1 then isTrue (by cases a; cases b; simp at h; simp [h]) else isFalse (by rintro rfl; exact h ⟨rfl, rfl⟩)
def validR (l : List S87) : Bool := decide (makeL l = l)
theorem w64 {i : Nat} (h : i < 9223372036854775807) : wrap64 ((i : Int) + 1) = ((i + 1 : Nat) : Int) := by unfold wrap64; omega
theorem valid_l0 (a b : List S87) (hl : a.length = b.length) (hs : a.length < 9223372036854775807) (d : Nat) : ∀ (i : Nat), i ≤ a.length → a.length - i = d → a.take i = b.take i →
    Ev (fun k => cpset_Valid.l0 k a (a.length : Int) i b) (decide (a = b)) := by
  induction d with
  | zero =>
    intro i hi hd he
    refine Ev.step (f := fun _ => some (decide (a = b))) (fun k => ?_) (Ev.now _)
    have : i = a.length := by omega
    rw [cpset_Valid.l0, if_neg (by omega)]
    rw [List.take_of_length_le (by omega), List.take_of_length_le (by omega)] at he
    rw [decide_eq_true he]
  | succ d ih =>
    intro i hi hd he
    have ha : i < a.length := by omega
    have hb : i < b.length := by omega
    have ea : rd_T87 a i = a[i] := by show a.getD i z87 = _; rw [List.getD_eq_getElem?_getD, List.getElem?_eq_getElem ha]; rfl
    have eb : rd_T87 b i = b[i] := by show b.getD i z87 = _; rw [List.getD_eq_getElem?_getD, List.getElem?_eq_getElem hb]; rfl
    by_cases h : a[i] = b[i]
    · refine Ev.step (f := fun k => cpset_Valid.l0 k a (a.length : Int) ((i + 1 : Nat) : Int) b) (fun k => ?_) (ih (i + 1) (by omega) (by omega) ?_)
      · rw [cpset_Valid.l0, if_pos (by omega), if_pos (by omega), if_pos (by omega), if_pos (by omega), ea, eb, h, if_neg (by simp), w64 (by omega)]
      · rw [List.take_succ_eq_append_getElem ha, List.take_succ_eq_append_getElem hb, he, h]
    · refine Ev.step (f := fun _ => some (decide (a = b))) (fun k => ?_) (Ev.now _)
      rw [cpset_Valid.l0, if_pos (by omega), if_pos (by omega), if_pos (by omega), if_pos (by omega), ea, eb, if_pos]
      · have : a ≠ b := by rintro rfl; exact h rfl
        rw [decide_eq_false this]
      · have : ¬ (a[i].f0 = b[i].f0 ∧ a[i].f1 = b[i].f1) := by
          intro hh
          apply h
          cases hx : a[i]
          cases hy : b[i]
          rw [hx, hy] at hh
          simp at hh
          rw [hh.1, hh.2]
        by_cases h0 : a[i].f0 = b[i].f0 <;> by_cases h1 : a[i].f1 = b[i].f1 <;> simp_all
theorem valid_ev (l : List S87) (h : l.length < 4398046511104) : Ev (fun k => cpset_Valid.f k l) (validR l) := by
  unfold cpset_Valid.f cpset_Make.f
  rw [if_pos h]
  simp only [Option.bind_some]
  by_cases hl : (makeL l).length = l.length
  · exact Ev.congr (fun k => if_pos (by omega)) (valid_l0 (makeL l) l hl (by omega) _ 0 (Nat.zero_le _) rfl rfl)
  · have : ¬ makeL l = l := fun e => hl (by rw [e])
    rw [validR, decide_eq_false this]
    exact Ev.congr (fun k => if_neg (by omega)) (Ev.now _)
end Go.Proofs.YtdgboklnhmfhoaaGreatDoor.G
