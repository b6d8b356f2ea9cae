/- What a row says of an input, as the words' kinds read it; the input of the laws of chapter 38. -/
import Derived.Test.YtdgboklnhmfhoaaGreatDoorCG0
import Derived.Deep.Slices
import Derived.Deep.Strs
import Derived.WideShapes
import Derived.ProofKit
import Derived.OpenShut
namespace Go.Proofs.YtdgboklnhmfhoaaGreatDoor.G
open Go.RowKit Go.Proofs.YtdgboklnhmfhoaaGreatDoorW.PrintWords Go.Proofs.YtdgboklnhmfhoaaGreatDoorW.PrintLast Go.Proofs.YtdgboklnhmfhoaaGreatDoorW.PrintMore
open Go.WideShapes
set_option linter.unusedVariables false
section
variable {H : Type} {enc : TypeId × Value → H} {P : Program}
/-- What reads as data of type t reads as this kind does, and its value meets Q. -/
def Opens (enc : TypeId × Value → H) (P : Program) {α : Type} (d : Kd α) (t : TypeId) (Q : α → Prop) : Prop :=
  P.cellsOf t = d.sz ∧ ∀ (W : World) (fuel : Nat) (cs : List Value) (x : DataW H × List MemPlace), DataW.trod enc P W 0 (fun _ => true) true fuel t cs = some x → ∃ y : α, d.K W y cs ∧ Q y
theorem trod_fields {W : World} {fuel : Nat} {t : TypeId} {fs : Array Field} {cs : List Value} {x : DataW H × List MemPlace} (ht : P.underlying t = some (.struct fs)) (h : DataW.trod enc P W 0 (fun _ => true) true fuel t cs = some x) :
    cs.length = P.cellsOf t ∧ ∃ n, ∀ (i : Nat) (ty : TypeId) (off sz : Nat), (fs[i]?).map (fun f => (f.type, f.offset)) = some (ty, off) → P.cellsOf ty = sz → ∃ y, DataW.trod enc P W 0 (fun _ => true) true n ty ((cs.drop off).take sz) = some y := by
  obtain ⟨xs, n, _, _, hl, hs, hx⟩ := DataW.trod_struct ht h
  refine ⟨hl, n, fun i ty off sz hf hc => ?_⟩
  cases hfi : fs[i]? with
  | none => rw [hfi] at hf; cases hf
  | some f =>
    rw [hfi] at hf
    simp only [Option.map_some, Option.some.injEq, Prod.mk.injEq] at hf
    obtain ⟨rfl, rfl⟩ := hf
    have hi : i < xs.length := by rw [hs]; exact (Array.getElem?_eq_some_iff.1 hfi).1
    subst hc
    exact ⟨xs[i], (hx i f hfi).trans (List.getElem?_eq_getElem hi)⟩
theorem add_add_ (a : Addr) (m n : Nat) : (a.add m).add n = a.add (m + n) := by
  unfold Addr.add
  by_cases h1 : m = 0
  · subst h1; simp
  · by_cases h2 : n = 0
    · subst h2; simp
    · simp [h1, h2, Nat.add_assoc]
theorem opens_int {t : TypeId} (ht : P.underlying t = some (.int .i64)) (hc : P.cellsOf t = 1) : Opens enc P (Kd.int .i64) t (fun y => (Lit.int .i64 y).wf = true) := by
  refine ⟨hc, fun W fuel cs x h => ?_⟩
  obtain ⟨n, rfl, _, hw⟩ := DataW.trod_int ht h
  exact ⟨n, rfl, hw⟩
theorem opens_string {t : TypeId} (ht : P.underlying t = some .string) (hc : P.cellsOf t = 1) : Opens enc P Kd.string t (fun _ => True) := by
  refine ⟨hc, fun W fuel cs x h => ?_⟩
  obtain ⟨s, rfl, _⟩ := DataW.trod_string ht h
  exact ⟨s, rfl, trivial⟩
theorem list_of {β : Type} {R : Nat → β → Prop} : ∀ {n : Nat}, (∀ i, i < n → ∃ y, R i y) → ∃ xs : List β, xs.length = n ∧ ∀ (i : Nat) (y : β), xs[i]? = some y → R i y := by
  intro n
  induction n with
  | zero => exact fun _ => ⟨[], rfl, fun i y h => by simp at h⟩
  | succ n ih =>
    intro h
    obtain ⟨xs, hl, hx⟩ := ih (fun i hi => h i (by omega))
    obtain ⟨y, hy⟩ := h n (by omega)
    refine ⟨xs ++ [y], by simp [hl], fun i z hz => ?_⟩
    rcases Nat.lt_or_ge i xs.length with hi | hi
    · rw [List.getElem?_append_left hi] at hz
      exact hx i z hz
    · rw [List.getElem?_append_right hi] at hz
      have h0 : i - xs.length = 0 := by
        have := (List.getElem?_eq_some_iff.1 hz).1
        simp at this
        omega
      rw [h0] at hz
      obtain rfl : y = z := by simpa using hz
      have : i = n := by omega
      subst this
      exact hy
theorem cells_get {W : World} {b : Nat} {a : Addr} {n : Nat} {cs : List Value} (h : W.cells? b a n = some cs) : cs.length = n ∧ ∀ (i : Nat) (u : Value), cs[i]? = some u → W.cell? (a.add i) = some u := by
  unfold World.cells? at h
  split at h
  · have key : ∀ (l : List Nat) (ys : List Value), (l.mapM fun i => W.cell? (a.add i)) = some ys → ys.length = l.length ∧ ∀ (i : Nat) (u : Value), ys[i]? = some u → ∃ k, l[i]? = some k ∧ W.cell? (a.add k) = some u := by
      intro l
      induction l with
      | nil => intro ys h; simp at h; subst h; exact ⟨rfl, fun i u hu => by simp at hu⟩
      | cons k t ih =>
        intro ys h
        rw [List.mapM_cons] at h
        cases hk : W.cell? (a.add k) with
        | none => rw [hk] at h; cases h
        | some v =>
          rw [hk] at h
          cases ht : t.mapM fun i => W.cell? (a.add i) with
          | none => simp [ht] at h
          | some zs =>
            simp [ht] at h
            subst h
            obtain ⟨h1, h2⟩ := ih zs ht
            refine ⟨by simp [h1], fun i u hu => ?_⟩
            cases i with
            | zero => simp at hu; subst hu; exact ⟨k, rfl, hk⟩
            | succ i => simpa using h2 i u (by simpa using hu)
    obtain ⟨h1, h2⟩ := key _ _ h
    refine ⟨by simpa using h1, fun i u hu => ?_⟩
    obtain ⟨k, hk, hc⟩ := h2 i u hu
    have hi := (List.getElem?_eq_some_iff.1 hk).1
    rw [List.getElem?_range (by simpa using hi)] at hk
    cases hk
    exact hc
  · cases h
theorem opens_slice {α : Type} {d : Kd α} {t e : TypeId} {Q : α → Prop} (ht : P.underlying t = some (.slice e)) (hc : P.cellsOf t = 1) (h : Opens enc P d e Q) : Opens enc P (Kd.slice e d) t (fun xs => ∀ x ∈ xs, Q x) := by
  refine ⟨hc, fun W fuel cs x hx => ?_⟩
  rcases Go.Deep.open_slice ht hx with ⟨rfl, _⟩ | ⟨a, len, cap, m, n, D, Pl, rfl, _, hl, hm, hmm, _, hel⟩
  · exact ⟨[], ⟨none, 0, rfl, Nat.le_refl _, Kd.C_nil _ _⟩, fun x hx => by cases hx⟩
  · have hlm : len ≤ m := by rw [hmm]; split <;> omega
    obtain ⟨xs, hxl, hxs⟩ := list_of (n := len) (R := fun i y => ∃ cs', W.cells? 0 (a.add (i * P.cellsOf e)) (P.cellsOf e) = some cs' ∧ d.K W y cs' ∧ Q y) (fun i hi => by
      obtain ⟨cs', h1, h2⟩ := hel i (by omega)
      obtain ⟨y, hy, hq⟩ := h.2 W n cs' _ h2
      exact ⟨y, cs', h1, hy, hq⟩)
    refine ⟨xs, ⟨some a, cap, by rw [hxl], by omega, rfl, by rw [hxl]; have : cap ≤ 9223372036854775807 := hm; omega, fun _ => ⟨a, rfl, fun j p hj => ?_⟩⟩, fun y hy => ?_⟩
    · obtain ⟨cs', h1, h2, _⟩ := hxs j p hj
      obtain ⟨h3, h4⟩ := cells_get h1
      refine ⟨cs', h3.trans h.1, h2, fun i u hu => ?_⟩
      rw [← add_add_, ← h.1]
      exact h4 i u hu
    · obtain ⟨i, hi, rfl⟩ := List.getElem_of_mem hy
      obtain ⟨_, _, _, hq⟩ := hxs i _ (List.getElem?_eq_getElem hi)
      exact hq
end
end Go.Proofs.YtdgboklnhmfhoaaGreatDoor.G
namespace Go.Proofs.YtdgboklnhmfhoaaGreatDoor.G
open Go.RowKit Go.Proofs.YtdgboklnhmfhoaaGreatDoorW.PrintWords Go.Proofs.YtdgboklnhmfhoaaGreatDoorW.PrintLast Go.Proofs.YtdgboklnhmfhoaaGreatDoorW.PrintMore
open Go.WideShapes
set_option linter.unusedVariables false
section
variable {H : Type} {enc : TypeId × Value → H}
def wfI (y : Int) : Prop := (Lit.int .i64 y).wf = true
theorem cellsOf3 : Tryz.prog.cellsOf 3 = 1 := by kernel_rfl
theorem cellsOf9 : Tryz.prog.cellsOf 9 = 1 := by kernel_rfl
theorem cellsOf28 : Tryz.prog.cellsOf 28 = 1 := by kernel_rfl
theorem cellsOf23 : Tryz.prog.cellsOf 23 = 1 := by kernel_rfl
theorem cellsOf22 : Tryz.prog.cellsOf 22 = 1 := by kernel_rfl
theorem cellsOf25 : Tryz.prog.cellsOf 25 = 1 := by kernel_rfl
theorem cellsOf44 : Tryz.prog.cellsOf 44 = 3 := by kernel_rfl
theorem cellsOf87 : Tryz.prog.cellsOf 87 = 2 := by kernel_rfl
theorem cellsOf27 : Tryz.prog.cellsOf 27 = 6 := by kernel_rfl
theorem o3 : Opens enc Tryz.prog (Kd.int .i64) 3 wfI := opens_int Tryz.underlying3 cellsOf3
theorem o9 : Opens enc Tryz.prog Kd.string 9 (fun _ => True) := opens_string Tryz.underlying9 cellsOf9
theorem o28 : Opens enc Tryz.prog (Kd.slice 3 (Kd.int .i64)) 28 (fun xs => ∀ x ∈ xs, wfI x) := opens_slice Tryz.underlying28 cellsOf28 o3
def wf44 (m : S44) : Prop := wfI m.f0 ∧ ∀ c ∈ m.f1, wfI c
def wf87 (m : S87) : Prop := wfI m.f0 ∧ wfI m.f1
set_option maxRecDepth 100000 in
theorem o44 : Opens enc Tryz.prog k44 44 wf44 := by
  refine ⟨cellsOf44, fun W fuel cs x h => ?_⟩
  obtain ⟨hl, n, hf⟩ := trod_fields Tryz.underlying44 h
  rw [cellsOf44] at hl
  match cs, hl with
  | [a, b, c], _ =>
    obtain ⟨y0, h0⟩ := hf 0 3 0 1 rfl cellsOf3
    obtain ⟨y1, h1⟩ := hf 1 28 1 1 rfl cellsOf28
    obtain ⟨y2, h2⟩ := hf 2 9 2 1 rfl cellsOf9
    obtain ⟨f0, k0, q0⟩ := o3.2 W n _ _ h0
    obtain ⟨f1, k1, q1⟩ := o28.2 W n _ _ h1
    obtain ⟨f2, k2, _⟩ := o9.2 W n _ _ h2
    exact ⟨⟨f0, f1, f2⟩, ⟨[a], [b, c], rfl, k0, [b], [c], rfl, k1, k2⟩, q0, q1⟩
set_option maxRecDepth 100000 in
theorem o87 : Opens enc Tryz.prog k87 87 wf87 := by
  refine ⟨cellsOf87, fun W fuel cs x h => ?_⟩
  obtain ⟨hl, n, hf⟩ := trod_fields Tryz.underlying87 h
  rw [cellsOf87] at hl
  match cs, hl with
  | [a, b], _ =>
    obtain ⟨y0, h0⟩ := hf 0 3 0 1 rfl cellsOf3
    obtain ⟨y1, h1⟩ := hf 1 3 1 1 rfl cellsOf3
    obtain ⟨f0, k0, q0⟩ := o3.2 W n _ _ h0
    obtain ⟨f1, k1, q1⟩ := o3.2 W n _ _ h1
    exact ⟨⟨f0, f1⟩, ⟨[a], [b], rfl, k0, k1⟩, q0, q1⟩
theorem o22 : Opens enc Tryz.prog (Kd.slice 44 k44) 22 (fun xs => ∀ x ∈ xs, wf44 x) := opens_slice Tryz.underlying22 cellsOf22 o44
theorem o23 : Opens enc Tryz.prog (Kd.slice 87 k87) 23 (fun xs => ∀ x ∈ xs, wf87 x) := opens_slice Tryz.underlying23 cellsOf23 o87
set_option maxRecDepth 100000 in
theorem o25 : Opens enc Tryz.prog (Kd.slice 87 k87) 25 (fun xs => ∀ x ∈ xs, wf87 x) := by
  refine ⟨cellsOf25, fun W fuel cs x h => ?_⟩
  obtain ⟨hl, n, hf⟩ := trod_fields Tryz.underlying25 h
  rw [cellsOf25] at hl
  match cs, hl with
  | [a], _ =>
    obtain ⟨y0, h0⟩ := hf 0 23 0 1 rfl cellsOf23
    exact o23.2 W n _ _ h0
set_option maxRecDepth 100000 in
/-- A case's data, as the walks read it. -/
theorem open27 {W : World} {r : Reach} {b0 : Nat} {v : Value} {d : DataW H} {p : List MemPlace} (hv : Value.okWide Tryz.prog W r b0 27 v) (h : DataW.Trod enc Tryz.prog W 0 (fun _ => true) true 27 v d p) :
    ∃ (A0 : Option Addr) (c0 : Nat) (l0 : List S44) (A1 : Option Addr) (c1 : Nat) (l1 : List S44) (A2 : Option Addr) (c2 : Nat) (l2 : List S44) (A3 : Option Addr) (c3 : Nat) (l3 : List S44) (A4 : Option Addr) (c4 : Nat) (l4 : List S87) (A5 : Option Addr) (c5 : Nat) (l5 : List S87),
      v = .agg #[.slice A0 l0.length c0, .slice A1 l1.length c1, .slice A2 l2.length c2, .slice A3 l3.length c3, .slice A4 l4.length c4, .slice A5 l5.length c5] ∧
      (Kd.C k44 W A0 l0.length l0 ∧ l0.length ≤ c0) ∧ (Kd.C k44 W A1 l1.length l1 ∧ l1.length ≤ c1) ∧ (Kd.C k44 W A2 l2.length l2 ∧ l2.length ≤ c2) ∧ (Kd.C k44 W A3 l3.length l3 ∧ l3.length ≤ c3) ∧ (Kd.C k87 W A4 l4.length l4 ∧ l4.length ≤ c4) ∧ (Kd.C k87 W A5 l5.length l5 ∧ l5.length ≤ c5) ∧
      (∀ x ∈ l0, wf44 x) ∧ (∀ x ∈ l1, wf44 x) ∧ (∀ x ∈ l2, wf44 x) ∧ (∀ x ∈ l3, wf44 x) ∧ (∀ x ∈ l4, wf87 x) ∧ (∀ x ∈ l5, wf87 x) := by
  obtain ⟨cs, rfl, hs⟩ := okWide_struct Tryz.underlying27 hv
  obtain ⟨fuel, hf⟩ := h
  obtain ⟨cl⟩ := cs
  rw [cellsOf27] at hs
  match cl, hs with
  | [a0, a1, a2, a3, a4, a5], _ =>
    obtain ⟨_, n, hx⟩ := trod_fields Tryz.underlying27 hf
    obtain ⟨y0, h0⟩ := hx 0 22 0 1 rfl cellsOf22
    obtain ⟨y1, h1⟩ := hx 1 22 1 1 rfl cellsOf22
    obtain ⟨y2, h2⟩ := hx 2 22 2 1 rfl cellsOf22
    obtain ⟨y3, h3⟩ := hx 3 22 3 1 rfl cellsOf22
    obtain ⟨y4, h4⟩ := hx 4 25 4 1 rfl cellsOf25
    obtain ⟨y5, h5⟩ := hx 5 25 5 1 rfl cellsOf25
    obtain ⟨l0, ⟨A0, c0, e0, le0, C0⟩, q0⟩ := o22.2 W n _ _ h0
    obtain ⟨l1, ⟨A1, c1, e1, le1, C1⟩, q1⟩ := o22.2 W n _ _ h1
    obtain ⟨l2, ⟨A2, c2, e2, le2, C2⟩, q2⟩ := o22.2 W n _ _ h2
    obtain ⟨l3, ⟨A3, c3, e3, le3, C3⟩, q3⟩ := o22.2 W n _ _ h3
    obtain ⟨l4, ⟨A4, c4, e4, le4, C4⟩, q4⟩ := o25.2 W n _ _ h4
    obtain ⟨l5, ⟨A5, c5, e5, le5, C5⟩, q5⟩ := o25.2 W n _ _ h5
    have g0 : a0 = .slice A0 l0.length c0 := List.head_eq_of_cons_eq e0
    have g1 : a1 = .slice A1 l1.length c1 := List.head_eq_of_cons_eq e1
    have g2 : a2 = .slice A2 l2.length c2 := List.head_eq_of_cons_eq e2
    have g3 : a3 = .slice A3 l3.length c3 := List.head_eq_of_cons_eq e3
    have g4 : a4 = .slice A4 l4.length c4 := List.head_eq_of_cons_eq e4
    have g5 : a5 = .slice A5 l5.length c5 := List.head_eq_of_cons_eq e5
    clear e0 e1 e2 e3 e4 e5; subst g0 g1 g2 g3 g4 g5
    exact ⟨_, _, _, _, _, _, _, _, _, _, _, _, _, _, _, _, _, _, rfl, ⟨C0, le0⟩, ⟨C1, le1⟩, ⟨C2, le2⟩, ⟨C3, le3⟩, ⟨C4, le4⟩, ⟨C5, le5⟩, q0, q1, q2, q3, q4, q5⟩
end
end Go.Proofs.YtdgboklnhmfhoaaGreatDoor.G
