/- The iterator over a set's ranges owes SeqB; a set's finder: what it captures. -/
import Derived.Test.YtjfcmiocmcdjlaaGreatDoorAIt1
import Derived.Test.YtjfcmiocmcdjlaaGreatDoorAG0
namespace Go.Proofs.YtjfcmiocmcdjlaaGreatDoor.G
open Go.RowKit Go.Shelf Go.Proofs.YtjfcmiocmcdjlaaGreatDoorW.PrintWords
attribute [local go_sem] Oper.semAt_some
set_option linter.unusedVariables false
theorem makeL_length (l : List S32) : (makeL l).length ≤ l.length := by
  have h1 := mergeL_len ((clipL l).mergeSort fun a b => decide (a.f0 ≤ b.f0)) (clipL l).length
  rw [List.take_of_length_le (by rw [List.length_mergeSort]; exact Nat.le_refl _)] at h1
  have h2 := clipL_len l l.length
  rw [List.take_length] at h2
  exact Nat.le_trans h1 h2
theorem rdR_get {l : List S32} {i : Nat} (h : i < l.length) : rd_T32 l (i : Int) = l[i] := by
  show l.getD i z32 = _
  rw [List.getD_eq_getElem?_getD, List.getElem?_eq_getElem h]; rfl
theorem make48 (A : Option Addr) (c : Nat) (l : List S32) (w : World) (hr : Kd.C k32 w A l.length l) (hc : l.length ≤ c) (hl : l.length ≤ 1000000000) :
    Calls Tryz.prog 48 #[.slice A l.length c] w fun e w' => ∃ v, e = .returned (.agg #[v]) ∧ w'.ownsRow w.heap.size 32 2 v (makeL l).length (cellsR (makeL l)) ∧ Below w.heap.size w w' := by
  refine (make59_a A l c w hr hc (by omega) sortR_calls).mono ?_
  rintro e w' ⟨v, rfl, l', hp, hpw, hown, hB⟩
  rw [makeL_unique hp hpw] at hown
  exact ⟨v, rfl, hown, hB⟩
/-- A row of one's own as it is read: its block. -/
theorem own_at {W : World} {base : Nat} {v : Value} {l : List S32} (h : W.ownsRow base 32 2 v l.length (cellsR l)) :
    (l = [] ∧ v = .slice none 0 0) ∨ ∃ g cap cur, v = .slice (some ⟨g, 0, none⟩) l.length cap ∧ base ≤ g ∧ W.heap[g]? = some (.cells cur 32 (0, 0)) := by
  rcases h.2 with ⟨rfl, h0⟩ | ⟨g, cap, cur, rfl, hb, hgb, _⟩
  · exact .inl ⟨List.length_eq_zero_iff.1 h0, rfl⟩
  · exact .inr ⟨g, cap, cur, rfl, hb, hgb⟩
theorem own_moved {W W' : World} {base g cap : Nat} {l : List S32} (h : W.ownsRow base 32 2 (.slice (some ⟨g, 0, none⟩) l.length cap) l.length (cellsR l)) (hg : W'.heap[g]? = W.heap[g]?) :
    W'.ownsRow base 32 2 (.slice (some ⟨g, 0, none⟩) l.length cap) l.length (cellsR l) := by
  refine ⟨h.1, ?_⟩
  rcases h.2 with ⟨h0, _⟩ | ⟨g', cap', cur, e, hb, hgb, hr⟩
  · cases h0
  · cases e
    exact .inr ⟨g, cap, cur, rfl, hb, hg.trans hgb, hr⟩
theorem own_C {W : World} {base : Nat} {A : Option Addr} {c : Nat} {l : List S32} (h : W.ownsRow base 32 2 (.slice A l.length c) l.length (cellsR l)) : Kd.C k32 W A l.length l ∧ l.length ≤ c := by
  have hr := Kd.R_reads' (R32_of_own h)
  exact ⟨hr.2.2, hr.2.1⟩
set_option maxRecDepth 100000 in
set_option maxHeartbeats 2000000 in
theorem iter47 (n n0 : Nat) (hn : 3 ≤ n) (Bm : Nat) (A : Option Addr) (c : Nat) (l : List S32) (w : World) (hBm : Bm < w.heap.size) (hm : w.cell? ⟨Bm, 0, none⟩ = some (.slice A l.length c)) (hr : Kd.C k32 w A l.length l) (hc : l.length ≤ c) (hl : l.length ≤ 1000000000) :
    SeqB Fence.wide n Tryz.prog 47 #[.pointer (some ⟨Bm, 0, none⟩)] encS n0 (makeL l) w := fun lp J W hW hJ hY h0 => by
  have hm' : W.cell? ⟨Bm, 0, none⟩ = some (.slice A l.length c) := (hW.cell (p := ⟨Bm, 0, none⟩) hBm).trans hm
  have hr' := Kd.C_below hr hW
  have hu32 := Tryz.underlying32
  have hfd24_0 : ∀ (q0 : Value) (W : World), (Instr.field 24 (.agg #[q0]) 0).run Tryz.prog W = .ok (q0) W := fun q0 W => by rfl

  have hu24 := Tryz.underlying24
  refine callsIn_of_wp Tryz.func47 rfl trivial ?_ rfl
  simp only [Tryz.ntmps47, List.size_toArray, List.length_cons, List.length_nil, Nat.reduceAdd, Nat.reduceSub, Array.replicate_succ, Array.replicate_zero, List.push_toArray, List.append_toArray, List.nil_append, List.cons_append]
  have hml : (makeL l).length ≤ 1000000000 := Nat.le_trans (makeL_length l) hl
  generalize hM : makeL l = M at hml hY ⊢
  gi_wp2_with (refine ⟨trivial, (fun h => by cases h), ?_⟩; refine (callsIn_wide.2 (make48 A c l _ hr' hc hl)).mono ?_; rintro e W1 ⟨v, rfl, hown, hB1⟩; rw [hM] at hown; obtain ⟨A1, c1, rfl⟩ := Kd.R_slice (R32_of_own hown))
  obtain ⟨b0, hb0, hltb, hkeep⟩ : ∃ b0, W.heap.size ≤ b0 ∧ (M ≠ [] → b0 < W1.heap.size) ∧ ∀ W2 : World, W2.heap[b0]? = W1.heap[b0]? → W2.ownsRow W.heap.size 32 2 (.slice A1 M.length c1) M.length (cellsR M) := by
    rcases own_at hown with ⟨e1, e2⟩ | ⟨g, cap, cur, e1, e2, e3⟩
    · exact ⟨W.heap.size, Nat.le_refl _, fun h => absurd e1 h, fun W2 _ => ⟨hown.1, .inl ⟨e2, by rw [e1]; rfl⟩⟩⟩
    · cases e1
      exact ⟨g, e2, fun _ => (Array.getElem?_eq_some_iff.1 e3).1, fun W2 h2 => own_moved hown h2⟩



  gi_loopw [10] (fun i wr => ∃ k : Nat, k ≤ M.length ∧ i = .int .i64 k ∧ J b0 (M.take k) wr ∧ wr.heap[b0]? = W1.heap[b0]? ∧ W1.heap.size ≤ wr.heap.size) (fun i _ => M.length - (intOf i).toNat)
  case atStart => exact ⟨0, Nat.zero_le _, rfl, hJ _ _ _ _ (h0 b0 hb0) hB1, rfl, Nat.le_refl _⟩
  case round =>
    obtain ⟨k, hk, rfl, hJs, hb, hsz⟩ := hrel
    by_cases hlt : k < M.length
    · obtain ⟨hC, hc1⟩ := own_C (hkeep wr hb)
      obtain ⟨ad, rfl, f0, f1⟩ := at_T32 hC k (by omega) (by omega)
      have hx : M.take k ++ [rd_T32 M k] = M.take (k + 1) := by rw [List.take_succ_eq_append_getElem hlt, rdR_get hlt]
      generalize rd_T32 M (k : Int) = x at f0 f1 hx
      simp only [Int.toNat_natCast] at f0 f1
      have hbs : b0 < wr.heap.size := Nat.lt_of_lt_of_le (hltb (fun e => by rw [e] at hlt; exact absurd hlt (Nat.not_lt_zero _))) hsz
      have hJ2 := hJ _ _ _ _ hJs ((Below.refl wr.heap.size wr).alloc (Nat.le_refl _) (.cells #[.int .i64 x.f0, .int .i64 x.f1] 32))
      obtain ⟨fn, tmps, assign, body, hy, hR⟩ := hY b0 _ x _ hJ2 (by simp; omega) (by rw [hx]; exact List.take_prefix _ _)
      dsimp only [encS] at hy
      gi_wp2
      refine ⟨(fun h => by cases h), ?_⟩
      refine hR.mono ?_
      rintro e W3 ⟨rfl, hJ3, hB3, hk3⟩
      gi_wp2
      go_roundw
      case rel => exact ⟨k + 1, by omega, by simp, by rw [← hx]; exact hJ3, hk3.trans ((Below.heap_alloc _ _ _ hbs).trans hb), by have := hB3.size; simp at this; omega⟩
      case measure => simp [intOf]; omega
    · obtain rfl : k = M.length := by omega
      gi_wp2
      go_end0
      rw [List.take_length] at hJs
      exact ⟨⟨_, rfl⟩, b0, hJs⟩
end Go.Proofs.YtjfcmiocmcdjlaaGreatDoor.G
