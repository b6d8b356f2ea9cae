/- The runs of a text at no classes: none. -/
import Derived.Test.YtjfcmiocmcdjlaaGreatDoorANo8
namespace Go.Proofs.YtjfcmiocmcdjlaaGreatDoor.G
open Go.RowKit Go.Shelf Go.Proofs.YtjfcmiocmcdjlaaGreatDoorW.PrintWords Go.Proofs.YtjfcmiocmcdjlaaGreatDoorW.PrintLast Go.Proofs.YtjfcmiocmcdjlaaGreatDoorW.PrintMore
attribute [local go_sem] Oper.semAt_some
set_option linter.unusedVariables false
theorem cell_lt {w : World} {a : Addr} {v : Value} (h : w.cell? a = some v) : a.block < w.heap.size := by
  unfold World.cell? at h
  split at h
  · next h1 => exact (Array.getElem?_eq_some_iff.1 h1).1
  · cases h
set_option maxRecDepth 100000 in
set_option maxHeartbeats 4000000 in
theorem iter124 (n n0 : Nat) (hn : 3 ≤ n) (Bt Bf bb : Nat) (T : Option Addr) (ct : Nat) (text : List Int) (w : World) (hT : Kd.C (Kd.int .i64) w T text.length text) (hct : text.length ≤ ct)
    (hBt : w.heap[Bt]? = some (.cells #[.slice T text.length ct] 27 (0, 0))) (hBf : w.heap[Bf]? = some (.cells #[.func (.func 122) #[] #[.pointer (some ⟨bb, 0, none⟩)]] 132 (0, 0))) (hbb : w.heap[bb]? = some (.cells #[.slice none 0 0] 42 (0, 0))) :
    SeqB Fence.wide n Tryz.prog 124 #[.pointer (some ⟨Bt, 0, none⟩), .pointer (some ⟨Bf, 0, none⟩)] encS n0 [] w := fun lp J W hW hJ hY h0 => by
  have hmax := hT.2.1
  refine callsIn_of_wp Tryz.func124 rfl trivial ?_ rfl
  simp only [Tryz.ntmps124, List.size_toArray, List.length_cons, List.length_nil, Nat.reduceAdd, Nat.reduceSub, Array.replicate_succ, Array.replicate_zero, List.push_toArray, List.append_toArray, List.nil_append, List.cons_append]
  have hBtl := (Array.getElem?_eq_some_iff.1 hBt).1
  have hBfl := (Array.getElem?_eq_some_iff.1 hBf).1
  have hbbl := (Array.getElem?_eq_some_iff.1 hbb).1
  clear hY
  gi_wp2
  gi_loopw [4] (fun v wr => ∃ (a : Nat), v = .int .i64 a ∧ a ≤ text.length ∧ J W.heap.size [] wr ∧ Below w.heap.size w wr) (fun v _ => text.length - (intOf v).toNat)
  case atStart => exact ⟨0, rfl, Nat.zero_le _, h0 _ (Nat.le_refl _), hW⟩
  case round =>
    obtain ⟨a, rfl, ha, hJs, hB⟩ := hrel
    have hdr : Below wr.heap.size wr wr.drew := pw_below_drewN (Below.refl _ _) 1
    have hbt := (hB.block _ hBtl).trans hBt
    have hct0 : wr.cell? ⟨Bt, 0, none⟩ = some (.slice T text.length ct) := cell_at hbt rfl
    by_cases hlt : a < text.length
    · have hJ4 := hJ _ _ _ _ hJs hdr
      have hB4 := hB.trans (hdr.mono hB.size)
      have hbt4 := (hB4.block _ hBtl).trans hBt
      have hbf4 := (hB4.block _ hBfl).trans hBf
      have hbb4 := (hB4.block _ hbbl).trans hbb
      obtain ⟨ad, rfl, hx4⟩ := C_int_cell (Kd.C_below hT hB4) hlt
      generalize text.getD a 0 = x at hx4
      have hai : (a : Int) < (text.length : Int) := by omega
      gi_wp2
      refine wpIn_loop_once ?_
      gi_wp2
      refine wpIn_wide.2 ?_
      refine start_ (n := 13) (S := fun w' => w'.cell? ⟨Bt, 0, none⟩ = some (.slice (some ad) text.length ct) ∧ w'.cell? ⟨Bf, 0, none⟩ = some (.func (.func 122) #[] #[.pointer (some ⟨bb, 0, none⟩)]) ∧ w'.cell? (ad.add a) = some (.int .i64 x)) (ds := []) #[false, false, false, false, false, false, false, false, false, false, false, false, false] (by kernel_rfl) rfl rfl ⟨cell_at hbt4 rfl, cell_at hbf4 rfl, hx4⟩ (fun hHeld => ?_)
      clear hdr hJs hB hbt hct0
      generalize wr.drew = wd at hx4 hbt4 hbf4 hbb4 hB4 hJ4 hHeld ⊢
      refine pure_ (i := 0) (N := some 13) (v := ?_) (a' := ?_) #[true, false, false, false, false, false, false, false, false, false, false, false, false] rfl rfl (by kernel_rfl) (fun _ _ _ h => h) (Or.inl ⟨by rfl, ?_⟩) ?_ ?_
      rotate_left
      · intro w'
        go_simp
        with_reducible rfl
      rotate_left
      · simp only [Act.put, List.setIfInBounds_toArray, List.set_cons_zero, List.set_cons_succ]
        rfl
      refine take_ (i := 1) (N := some 14) (v := ?_) (a' := ?_) #[true, true, false, false, false, false, false, false, false, false, false, false, false] rfl rfl (by kernel_rfl) (fun _ _ _ h => h) (Or.inl ⟨by rfl, ?_⟩) hHeld ?_ ?_
      rotate_left
      · rintro w' ⟨s0, s1, s2⟩
        go_simp
        with_reducible rfl
      rotate_left
      · simp only [Act.put, List.setIfInBounds_toArray, List.set_cons_zero, List.set_cons_succ]
        rfl
      refine pure_ (i := 2) (N := some 15) (v := ?_) (a' := ?_) #[true, true, true, false, false, false, false, false, false, false, false, false, false] rfl rfl (by kernel_rfl) (fun _ _ _ h => h) (Or.inl ⟨by rfl, ?_⟩) ?_ ?_
      rotate_left
      · intro w'
        go_simp
        with_reducible rfl
      rotate_left
      · simp only [Act.put, List.setIfInBounds_toArray, List.set_cons_zero, List.set_cons_succ]
        rfl
      refine pure_ (i := 3) (N := some 16) (v := ?_) (a' := ?_) #[true, true, true, true, false, false, false, false, false, false, false, false, false] rfl rfl (by kernel_rfl) (fun _ _ _ h => h) (Or.inl ⟨by rfl, ?_⟩) ?_ ?_
      rotate_left
      · intro w'
        go_simp
        with_reducible rfl
      rotate_left
      · simp only [Act.put, List.setIfInBounds_toArray, List.set_cons_zero, List.set_cons_succ]
        rfl
      refine pure_ (i := 4) (N := some 17) (v := ?_) (a' := ?_) #[true, true, true, true, true, false, false, false, false, false, false, false, false] rfl rfl (by kernel_rfl) (fun _ _ _ h => h) (Or.inl ⟨by rfl, ?_⟩) ?_ ?_
      rotate_left
      · intro w'
        go_simp
        with_reducible rfl
      rotate_left
      · simp only [Act.put, List.setIfInBounds_toArray, List.set_cons_zero, List.set_cons_succ]
        rfl
      refine take_ (i := 5) (N := some 18) (v := ?_) (a' := ?_) #[true, true, true, true, true, true, false, false, false, false, false, false, false] rfl rfl (by kernel_rfl) (fun _ _ _ h => h) (Or.inl ⟨by rfl, ?_⟩) hHeld ?_ ?_
      rotate_left
      · rintro w' ⟨s0, s1, s2⟩
        go_simp
        with_reducible rfl
      rotate_left
      · simp only [Act.put, List.setIfInBounds_toArray, List.set_cons_zero, List.set_cons_succ]
        rfl
      refine take_ (i := 6) (N := some 19) (v := ?_) (a' := ?_) #[true, true, true, true, true, true, true, false, false, false, false, false, false] rfl rfl (by kernel_rfl) (fun _ _ _ h => h) (Or.inl ⟨by rfl, ?_⟩) hHeld ?_ ?_
      rotate_left
      · rintro w' ⟨s0, s1, s2⟩
        go_simp
        with_reducible rfl
      rotate_left
      · simp only [Act.put, List.setIfInBounds_toArray, List.set_cons_zero, List.set_cons_succ]
        rfl
      refine pure_ (i := 7) (N := some 20) (v := ?_) (a' := ?_) #[true, true, true, true, true, true, true, true, false, false, false, false, false] rfl rfl (by kernel_rfl) (fun _ _ _ h => h) (Or.inl ⟨by rfl, ?_⟩) ?_ ?_
      rotate_left
      · intro w'
        go_simp
        with_reducible rfl
      rotate_left
      · simp only [Act.put, List.setIfInBounds_toArray, List.set_cons_zero, List.set_cons_succ]
        rfl
      refine pure_ (i := 8) (N := some 21) (v := ?_) (a' := ?_) #[true, true, true, true, true, true, true, true, true, false, false, false, false] rfl rfl (by kernel_rfl) (fun _ _ _ h => h) (Or.inl ⟨by rfl, ?_⟩) ?_ ?_
      rotate_left
      · intro w'
        go_simp
        with_reducible rfl
      rotate_left
      · simp only [Act.put, List.setIfInBounds_toArray, List.set_cons_zero, List.set_cons_succ]
        rfl
      refine take_ (i := 9) (N := some 22) (v := ?_) (a' := ?_) #[true, true, true, true, true, true, true, true, true, true, false, false, false] rfl rfl (by kernel_rfl) (fun _ _ _ h => h) (Or.inl ⟨by rfl, ?_⟩) hHeld ?_ ?_
      rotate_left
      · rintro w' ⟨s0, s1, s2⟩
        go_simp
        with_reducible rfl
      rotate_left
      · simp only [Act.put, List.setIfInBounds_toArray, List.set_cons_zero, List.set_cons_succ]
        rfl
      refine one_ (i := 10) (N := some 23) #[true, true, true, true, true, true, true, true, true, true, true, false, false] rfl rfl (by kernel_rfl) (by decide) (fun K hK => ?_)
      refine call_ 122 #[.int .i64 x, .pointer (some ⟨bb, 0, none⟩)] (by rfl) rfl (by have he := enters_ Tryz.func122 (by kernel_rfl) rfl #[.int .i64 x, .pointer (some ⟨bb, 0, none⟩)] wd; simp [execOp, resolve, Deferred.ofValue, invoke, Act.eval, go_sem] at he ⊢) ?_
      refine (class122 bb x wd hbb4).mono ?_
      rintro e w5 ⟨rfl, hB5⟩
      refine ⟨_, rfl, ?_⟩
      have hbt5 := (hB5.block _ (Array.getElem?_eq_some_iff.1 hbt4).1).trans hbt4
      have hbf5 := (hB5.block _ (Array.getElem?_eq_some_iff.1 hbf4).1).trans hbf4
      have hx5 : w5.cell? (ad.add a) = some (.int .i64 x) := (hB5.cell (cell_lt hx4)).trans hx4
      refine hK.out _ _ ⟨cell_at hbt5 rfl, cell_at hbf5 rfl, hx5⟩ (fun hHeld5 => ?_)
      clear hK K
      refine norm_ (a' := ?_) ?_ ?_
      rotate_left
      · show Act.put _ (some 23) _ = _
        simp only [Act.put, List.setIfInBounds_toArray, List.set_cons_zero, List.set_cons_succ]
        rfl
      refine pure_ (i := 11) (N := some 24) (v := ?_) (a' := ?_) #[true, true, true, true, true, true, true, true, true, true, true, true, false] rfl rfl (by kernel_rfl) (fun _ _ _ h => h) (Or.inl ⟨by rfl, ?_⟩) ?_ ?_
      rotate_left
      · intro w'
        go_simp
        with_reducible rfl
      rotate_left
      · simp only [Act.put, List.setIfInBounds_toArray, List.set_cons_zero, List.set_cons_succ]
        rfl
      refine pure_ (i := 12) (N := some 25) (v := ?_) (a' := ?_) #[true, true, true, true, true, true, true, true, true, true, true, true, true] rfl rfl (by kernel_rfl) (fun _ _ _ h => h) (Or.inl ⟨by rfl, ?_⟩) ?_ ?_
      rotate_left
      · intro w'
        go_simp
        with_reducible rfl
      rotate_left
      · simp only [Act.put, List.setIfInBounds_toArray, List.set_cons_zero, List.set_cons_succ]
        rfl
      refine done_ (by kernel_rfl) ?_
      have hJ5 := hJ _ _ _ _ hJ4 hB5
      have hB5w := hB4.trans (hB5.mono hB4.size)
      clear hJ4 hbt4 hbf4 hbb4 hB4 hB5 hbt5 hbf5 hx4 hx5
      gi_wp2
      refine ⟨(fun f h => by cases h), ?_⟩
      gi_wp2
      go_roundw
      case rel => exact ⟨a + 1, by go_num, by omega, hJ5, hB5w⟩
      case measure => simp [intOf]; omega
    · obtain rfl : a = text.length := by omega
      gi_wp2
      go_end0
      exact ⟨⟨_, rfl⟩, _, hJs⟩
end Go.Proofs.YtjfcmiocmcdjlaaGreatDoor.G
