/- What a row says of an input, as the words' kinds read it; the input of the laws of chapter 39. -/
import Derived.Test.YtjfcmiocmcdjlaaGreatDoorAG0
import Derived.Deep.Slices
import Derived.Deep.Strs
import Derived.WideShapes
import Derived.ProofKit
import Derived.OpenShut
namespace Go.Proofs.YtjfcmiocmcdjlaaGreatDoor.G
open Go.RowKit Go.Proofs.YtjfcmiocmcdjlaaGreatDoorW.PrintWords Go.Proofs.YtjfcmiocmcdjlaaGreatDoorW.PrintLast Go.Proofs.YtjfcmiocmcdjlaaGreatDoorW.PrintMore
open Go.WideShapes
set_option linter.unusedVariables false
section
variable {H : Type} {enc : TypeId × Value → H} {P : Program}
/-- What reads as data of type t reads as this kind does, and its value meets Q. -/
def Opens (enc : TypeId × Value → H) (P : Program) {α : Type} (d : Kd α) (t : TypeId) (Q : α → Prop) : Prop :=
  P.cellsOf t = d.sz ∧ ∀ (W : World) (fuel : Nat) (cs : List Value) (x : DataW H × List MemPlace), DataW.trod enc P W 0 (fun _ => true) true fuel t cs = some x → ∃ y : α, d.K W y cs ∧ Q y
theorem trod_fields {W : World} {fuel : Nat} {t : TypeId} {fs : Array Field} {cs : List Value} {x : DataW H × List MemPlace} (ht : P.underlying t = some (.struct fs)) (h : DataW.trod enc P W 0 (fun _ => true) true fuel t cs = some x) :
    cs.length = P.cellsOf t ∧ ∃ n, ∀ (i : Nat) (ty : TypeId) (off sz : Nat), (fs[i]?).map (fun f => (f.type, f.offset)) = some (ty, off) → P.cellsOf ty = sz → ∃ y, DataW.trod enc P W 0 (fun _ => true) true n ty ((cs.drop off).take sz) = some y := by
  obtain ⟨xs, n, _, _, hl, hs, hx⟩ := DataW.trod_struct ht h
  refine ⟨hl, n, fun i ty off sz hf hc => ?_⟩
  cases hfi : fs[i]? with
  | none => rw [hfi] at hf; cases hf
  | some f =>
    rw [hfi] at hf
    simp only [Option.map_some, Option.some.injEq, Prod.mk.injEq] at hf
    obtain ⟨rfl, rfl⟩ := hf
    have hi : i < xs.length := by rw [hs]; exact (Array.getElem?_eq_some_iff.1 hfi).1
    subst hc
    exact ⟨xs[i], (hx i f hfi).trans (List.getElem?_eq_getElem hi)⟩
theorem add_add_ (a : Addr) (m n : Nat) : (a.add m).add n = a.add (m + n) := by
  unfold Addr.add
  by_cases h1 : m = 0
  · subst h1; simp
  · by_cases h2 : n = 0
    · subst h2; simp
    · simp [h1, h2, Nat.add_assoc]
theorem opens_int {t : TypeId} (ht : P.underlying t = some (.int .i64)) (hc : P.cellsOf t = 1) : Opens enc P (Kd.int .i64) t (fun y => (Lit.int .i64 y).wf = true) := by
  refine ⟨hc, fun W fuel cs x h => ?_⟩
  obtain ⟨n, rfl, _, hw⟩ := DataW.trod_int ht h
  exact ⟨n, rfl, hw⟩
theorem list_of {β : Type} {R : Nat → β → Prop} : ∀ {n : Nat}, (∀ i, i < n → ∃ y, R i y) → ∃ xs : List β, xs.length = n ∧ ∀ (i : Nat) (y : β), xs[i]? = some y → R i y := by
  intro n
  induction n with
  | zero => exact fun _ => ⟨[], rfl, fun i y h => by simp at h⟩
  | succ n ih =>
    intro h
    obtain ⟨xs, hl, hx⟩ := ih (fun i hi => h i (by omega))
    obtain ⟨y, hy⟩ := h n (by omega)
    refine ⟨xs ++ [y], by simp [hl], fun i z hz => ?_⟩
    rcases Nat.lt_or_ge i xs.length with hi | hi
    · rw [List.getElem?_append_left hi] at hz
      exact hx i z hz
    · rw [List.getElem?_append_right hi] at hz
      have h0 : i - xs.length = 0 := by
        have := (List.getElem?_eq_some_iff.1 hz).1
        simp at this
        omega
      rw [h0] at hz
      obtain rfl : y = z := by simpa using hz
      have : i = n := by omega
      subst this
      exact hy
theorem cells_get {W : World} {b : Nat} {a : Addr} {n : Nat} {cs : List Value} (h : W.cells? b a n = some cs) : cs.length = n ∧ ∀ (i : Nat) (u : Value), cs[i]? = some u → W.cell? (a.add i) = some u := by
  unfold World.cells? at h
  split at h
  · have key : ∀ (l : List Nat) (ys : List Value), (l.mapM fun i => W.cell? (a.add i)) = some ys → ys.length = l.length ∧ ∀ (i : Nat) (u : Value), ys[i]? = some u → ∃ k, l[i]? = some k ∧ W.cell? (a.add k) = some u := by
      intro l
      induction l with
      | nil => intro ys h; simp at h; subst h; exact ⟨rfl, fun i u hu => by simp at hu⟩
      | cons k t ih =>
        intro ys h
        rw [List.mapM_cons] at h
        cases hk : W.cell? (a.add k) with
        | none => rw [hk] at h; cases h
        | some v =>
          rw [hk] at h
          cases ht : t.mapM fun i => W.cell? (a.add i) with
          | none => simp [ht] at h
          | some zs =>
            simp [ht] at h
            subst h
            obtain ⟨h1, h2⟩ := ih zs ht
            refine ⟨by simp [h1], fun i u hu => ?_⟩
            cases i with
            | zero => simp at hu; subst hu; exact ⟨k, rfl, hk⟩
            | succ i => simpa using h2 i u (by simpa using hu)
    obtain ⟨h1, h2⟩ := key _ _ h
    refine ⟨by simpa using h1, fun i u hu => ?_⟩
    obtain ⟨k, hk, hc⟩ := h2 i u hu
    have hi := (List.getElem?_eq_some_iff.1 hk).1
    rw [List.getElem?_range (by simpa using hi)] at hk
    cases hk
    exact hc
  · cases h
theorem opens_slice {α : Type} {d : Kd α} {t e : TypeId} {Q : α → Prop} (ht : P.underlying t = some (.slice e)) (hc : P.cellsOf t = 1) (h : Opens enc P d e Q) : Opens enc P (Kd.slice e d) t (fun xs => ∀ x ∈ xs, Q x) := by
  refine ⟨hc, fun W fuel cs x hx => ?_⟩
  rcases Go.Deep.open_slice ht hx with ⟨rfl, _⟩ | ⟨a, len, cap, m, n, D, Pl, rfl, _, hl, hm, hmm, _, hel⟩
  · exact ⟨[], ⟨none, 0, rfl, Nat.le_refl _, Kd.C_nil _ _⟩, fun x hx => by cases hx⟩
  · have hlm : len ≤ m := by rw [hmm]; split <;> omega
    obtain ⟨xs, hxl, hxs⟩ := list_of (n := len) (R := fun i y => ∃ cs', W.cells? 0 (a.add (i * P.cellsOf e)) (P.cellsOf e) = some cs' ∧ d.K W y cs' ∧ Q y) (fun i hi => by
      obtain ⟨cs', h1, h2⟩ := hel i (by omega)
      obtain ⟨y, hy, hq⟩ := h.2 W n cs' _ h2
      exact ⟨y, cs', h1, hy, hq⟩)
    refine ⟨xs, ⟨some a, cap, by rw [hxl], by omega, rfl, by rw [hxl]; have : cap ≤ 9223372036854775807 := hm; omega, fun _ => ⟨a, rfl, fun j p hj => ?_⟩⟩, fun y hy => ?_⟩
    · obtain ⟨cs', h1, h2, _⟩ := hxs j p hj
      obtain ⟨h3, h4⟩ := cells_get h1
      refine ⟨cs', h3.trans h.1, h2, fun i u hu => ?_⟩
      rw [← add_add_, ← h.1]
      exact h4 i u hu
    · obtain ⟨i, hi, rfl⟩ := List.getElem_of_mem hy
      obtain ⟨_, _, _, hq⟩ := hxs i _ (List.getElem?_eq_getElem hi)
      exact hq
end
end Go.Proofs.YtjfcmiocmcdjlaaGreatDoor.G
namespace Go.Proofs.YtjfcmiocmcdjlaaGreatDoor.G
open Go.RowKit Go.Proofs.YtjfcmiocmcdjlaaGreatDoorW.PrintWords Go.Proofs.YtjfcmiocmcdjlaaGreatDoorW.PrintLast Go.Proofs.YtjfcmiocmcdjlaaGreatDoorW.PrintMore
open Go.WideShapes
set_option linter.unusedVariables false
section
variable {H : Type} {enc : TypeId × Value → H}
def wfI (y : Int) : Prop := (Lit.int .i64 y).wf = true
theorem cellsOf3 : Tryz.prog.cellsOf 3 = 1 := by kernel_rfl
theorem cellsOf27 : Tryz.prog.cellsOf 27 = 1 := by kernel_rfl
theorem cellsOf22 : Tryz.prog.cellsOf 22 = 1 := by kernel_rfl
theorem cellsOf24 : Tryz.prog.cellsOf 24 = 1 := by kernel_rfl
theorem cellsOf32 : Tryz.prog.cellsOf 32 = 2 := by kernel_rfl
theorem cellsOf26 : Tryz.prog.cellsOf 26 = 3 := by kernel_rfl
theorem o3 : Opens enc Tryz.prog (Kd.int .i64) 3 wfI := opens_int Tryz.underlying3 cellsOf3
theorem o27 : Opens enc Tryz.prog (Kd.slice 3 (Kd.int .i64)) 27 (fun xs => ∀ x ∈ xs, wfI x) := opens_slice Tryz.underlying27 cellsOf27 o3
def wf32 (m : S32) : Prop := wfI m.f0 ∧ wfI m.f1
set_option maxRecDepth 100000 in
theorem o32 : Opens enc Tryz.prog k32 32 wf32 := by
  refine ⟨cellsOf32, fun W fuel cs x h => ?_⟩
  obtain ⟨hl, n, hf⟩ := trod_fields Tryz.underlying32 h
  rw [cellsOf32] at hl
  match cs, hl with
  | [a, b], _ =>
    obtain ⟨y0, h0⟩ := hf 0 3 0 1 rfl cellsOf3
    obtain ⟨y1, h1⟩ := hf 1 3 1 1 rfl cellsOf3
    obtain ⟨f0, k0, q0⟩ := o3.2 W n _ _ h0
    obtain ⟨f1, k1, q1⟩ := o3.2 W n _ _ h1
    exact ⟨⟨f0, f1⟩, ⟨[a], [b], rfl, k0, k1⟩, q0, q1⟩
theorem o22 : Opens enc Tryz.prog (Kd.slice 32 k32) 22 (fun xs => ∀ x ∈ xs, wf32 x) := opens_slice Tryz.underlying22 cellsOf22 o32
set_option maxRecDepth 100000 in
theorem o24 : Opens enc Tryz.prog (Kd.slice 32 k32) 24 (fun xs => ∀ x ∈ xs, wf32 x) := by
  refine ⟨cellsOf24, fun W fuel cs x h => ?_⟩
  obtain ⟨hl, n, hf⟩ := trod_fields Tryz.underlying24 h
  rw [cellsOf24] at hl
  match cs, hl with
  | [a], _ =>
    obtain ⟨y0, h0⟩ := hf 0 22 0 1 rfl cellsOf22
    exact o22.2 W n _ _ h0
set_option maxRecDepth 100000 in
/-- The sets of identifiers, as the walks read them. -/
theorem open26 {W : World} {r : Reach} {b0 : Nat} {v : Value} {d : DataW H} {p : List MemPlace} (hv : Value.okWide Tryz.prog W r b0 26 v) (h : DataW.Trod enc Tryz.prog W 0 (fun _ => true) true 26 v d p) :
    ∃ (A0 : Option Addr) (c0 : Nat) (l0 : List S32) (A1 : Option Addr) (c1 : Nat) (l1 : List S32) (A2 : Option Addr) (c2 : Nat) (l2 : List S32),
      v = .agg #[.slice A0 l0.length c0, .slice A1 l1.length c1, .slice A2 l2.length c2] ∧
      (Kd.C k32 W A0 l0.length l0 ∧ l0.length ≤ c0) ∧ (Kd.C k32 W A1 l1.length l1 ∧ l1.length ≤ c1) ∧ (Kd.C k32 W A2 l2.length l2 ∧ l2.length ≤ c2) := by
  obtain ⟨cs, rfl, hs⟩ := okWide_struct Tryz.underlying26 hv
  obtain ⟨fuel, hf⟩ := h
  obtain ⟨cl⟩ := cs
  rw [cellsOf26] at hs
  match cl, hs with
  | [a0, a1, a2], _ =>
    obtain ⟨_, n, hx⟩ := trod_fields Tryz.underlying26 hf
    obtain ⟨y0, h0⟩ := hx 0 24 0 1 rfl cellsOf24
    obtain ⟨y1, h1⟩ := hx 1 24 1 1 rfl cellsOf24
    obtain ⟨y2, h2⟩ := hx 2 24 2 1 rfl cellsOf24
    obtain ⟨l0, ⟨A0, c0, e0, le0, C0⟩, q0⟩ := o24.2 W n _ _ h0
    obtain ⟨l1, ⟨A1, c1, e1, le1, C1⟩, q1⟩ := o24.2 W n _ _ h1
    obtain ⟨l2, ⟨A2, c2, e2, le2, C2⟩, q2⟩ := o24.2 W n _ _ h2
    have g0 : a0 = .slice A0 l0.length c0 := List.head_eq_of_cons_eq e0
    have g1 : a1 = .slice A1 l1.length c1 := List.head_eq_of_cons_eq e1
    have g2 : a2 = .slice A2 l2.length c2 := List.head_eq_of_cons_eq e2
    clear e0 e1 e2; subst g0 g1 g2
    exact ⟨_, _, _, _, _, _, _, _, _, rfl, ⟨C0, le0⟩, ⟨C1, le1⟩, ⟨C2, le2⟩⟩
set_option maxRecDepth 100000 in
/-- A slice of numbers, as the walks read it. -/
theorem open27 {W : World} {r : Reach} {b0 : Nat} {v : Value} {d : DataW H} {p : List MemPlace} (hv : Value.okWide Tryz.prog W r b0 27 v) (h : DataW.Trod enc Tryz.prog W 0 (fun _ => true) true 27 v d p) :
    ∃ (A : Option Addr) (c : Nat) (l : List Int), v = .slice A l.length c ∧ (Kd.C (Kd.int .i64) W A l.length l ∧ l.length ≤ c) ∧ ∀ x ∈ l, wfI x := by
  obtain ⟨a, n, c, rfl⟩ := okWide_slice Tryz.underlying27 hv
  obtain ⟨fuel, hf⟩ := h
  obtain ⟨l, ⟨A, c', e, le, C⟩, q⟩ := o27.2 W fuel _ _ hf
  have g : Value.slice a n c = .slice A l.length c' := List.head_eq_of_cons_eq e
  rw [g]
  exact ⟨A, c', l, rfl, ⟨C, le⟩, q⟩
end
end Go.Proofs.YtjfcmiocmcdjlaaGreatDoor.G
