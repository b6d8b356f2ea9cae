/- Small lemmas for the walks by hand of this chapter; they speak of no function. -/
import Derived.Test.YtjfcmiocmcdjlaaGreatDoorAG2
import Derived.Lib.Hide
import Derived.Deep.LoopGhost
import Derived.Outline
namespace Go.Proofs.YtjfcmiocmcdjlaaGreatDoor.G
open Go.RowKit Go.Proofs.YtjfcmiocmcdjlaaGreatDoorW.PrintWords Go.Proofs.YtjfcmiocmcdjlaaGreatDoorW.PrintLast Go.Proofs.YtjfcmiocmcdjlaaGreatDoorW.PrintMore
theorem C_int_cell {w : World} {A : Option Addr} {l : List Int} (hr : Kd.C (Kd.int .i64) w A l.length l) {k : Nat} (hk : k < l.length) :
    ∃ ad, A = some ad ∧ w.cell? (ad.add k) = some (.int .i64 (l.getD k 0)) := by
  obtain ⟨ad, c, e, _, hK, hcell⟩ := Kd.C_get hr 0 k (by omega) (by omega)
  obtain rfl : c = [Value.int .i64 (l.getD k 0)] := by simpa [Kd.int, Kd.scalar] using hK
  have h : w.cell? (ad.add ((k : Int).toNat * 1 + 0)) = some (Value.int .i64 (l.getD k 0)) := hcell 0 _ rfl
  exact ⟨ad, e, by simpa using h⟩
theorem C_int_one {w : World} {b : Nat} {x : Int} (h : w.cell? ⟨b, 0, none⟩ = some (.int .i64 x)) : Kd.C (Kd.int .i64) w (some ⟨b, 0, none⟩) [x].length [x] := by
  refine ⟨rfl, by simp, fun _ => ⟨_, rfl, fun j p hj => ?_⟩⟩
  have hj0 : j = 0 := by have := (List.getElem?_eq_some_iff.1 hj).1; simp at this; omega
  subst hj0
  refine ⟨[.int .i64 x], rfl, ?_, fun i u hu => ?_⟩
  · have : p = x := by simpa using hj.symm
    rw [this]; rfl
  · have hi : i = 0 := by have := (List.getElem?_eq_some_iff.1 hu).1; simp at this; omega
    subst hi
    have : u = .int .i64 x := by simpa using hu.symm
    rw [this]
    exact h
def encR (x : S32) : List Value := [.int .i64 x.f0, .int .i64 x.f1]
def cellsR (l : List S32) : List Value := l.flatMap encR
theorem cellsR_length (l : List S32) : (cellsR l).length = l.length * 2 := by
  induction l with
  | nil => rfl
  | cons a t ih => simp [cellsR, encR] at ih ⊢; omega
theorem cellsR_snoc (l : List S32) (x : S32) : cellsR (l ++ [x]) = cellsR l ++ encR x := by simp [cellsR]
theorem cellsR_get (l : List S32) : ∀ t, (cellsR l)[t]? = (l[t / 2]?).bind fun x => (encR x)[t % 2]? := by
  induction l with
  | nil => intro t; simp [cellsR]
  | cons a l ih =>
    intro t
    have e : cellsR (a :: l) = Value.int .i64 a.f0 :: Value.int .i64 a.f1 :: cellsR l := rfl
    rw [e]
    match t with
    | 0 => rfl
    | 1 => rfl
    | t + 2 =>
      rw [List.getElem?_cons_succ, List.getElem?_cons_succ, ih]
      rw [show (t + 2) / 2 = t / 2 + 1 from by omega, show (t + 2) % 2 = t % 2 from by omega, List.getElem?_cons_succ]
/-- What the sort of ranges by their first numbers leaves. -/
def SortPost (base : Nat) (v : Value) (l : List S32) (w : World) (e : Ending) (w' : World) : Prop :=
  e = .returned (.tuple #[]) ∧ ∃ l' : List S32, l'.Perm l ∧ l'.Pairwise (fun a b => a.f0 ≤ b.f0) ∧ w'.ownsRow base 32 2 v l'.length (cellsR l') ∧ w.grownBy w' v.ownBlock
def SortSaid : Prop := ∀ (base : Nat) (v : Value) (l : List S32) (w : World), w.ownsRow base 32 2 v l.length (cellsR l) → l.length < 4611686018427387904 →
    Calls Tryz.prog 56 #[v, .func (.func 57) #[] #[]] w (SortPost base v l w)
end Go.Proofs.YtjfcmiocmcdjlaaGreatDoor.G
