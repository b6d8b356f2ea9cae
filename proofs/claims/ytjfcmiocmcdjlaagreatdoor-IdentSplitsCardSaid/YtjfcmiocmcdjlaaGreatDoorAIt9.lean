/- ident.Split: the iterator over a text's identifiers owes SeqB. -/
import Derived.Test.YtjfcmiocmcdjlaaGreatDoorAIt8
namespace Go.Proofs.YtjfcmiocmcdjlaaGreatDoor.G
open Go.RowKit Go.Shelf Go.Proofs.YtjfcmiocmcdjlaaGreatDoorW.PrintWords Go.Proofs.YtjfcmiocmcdjlaaGreatDoorW.PrintLast Go.Proofs.YtjfcmiocmcdjlaaGreatDoorW.PrintMore
attribute [local go_sem] Oper.semAt_some
set_option linter.unusedVariables false
/-- The identifiers of a text from a place on (d: rounds enough). -/
def splitGo (lng : List Int → Nat) (text : List Int) : Nat → Nat → List S32
  | 0, _ => []
  | d + 1, a => if a < text.length then (if 0 < lng (text.drop a) then ⟨(a : Int), ((a + lng (text.drop a) : Nat) : Int)⟩ :: splitGo lng text d (a + lng (text.drop a)) else splitGo lng text d (a + 1)) else []
theorem lngGo_le (sol ins : Int → Bool) : ∀ (t : List Int) (i n : Nat), n ≤ i → lngGo sol ins t i n ≤ i + t.length
  | [], i, n, h => by simpa [lngGo] using h
  | c :: t, i, n, h => by
    rw [lngGo]
    split
    · have := lngGo_le sol ins t (i + 1) (i + 1) (Nat.le_refl _)
      simp only [List.length_cons]; omega
    · split
      · simp only [List.length_cons]; omega
      · have := lngGo_le sol ins t (i + 1) n (by omega)
        simp only [List.length_cons]; omega
theorem lngL_le (beg sol ins : Int → Bool) (t : List Int) : lngL beg sol ins t ≤ t.length := by
  match t with
  | [] => simp [lngL]
  | c :: t =>
    rw [lngL]
    split
    · have := lngGo_le sol ins t 1 1 (Nat.le_refl _)
      simp only [List.length_cons]; omega
    · omega
theorem splitGo_more (lng : List Int → Nat) (text : List Int) : ∀ (d d' a : Nat), text.length - a ≤ d → text.length - a ≤ d' → splitGo lng text d a = splitGo lng text d' a
  | 0, 0, a, _, _ => rfl
  | 0, d' + 1, a, h, _ => by rw [splitGo, splitGo, if_neg (by omega)]
  | d + 1, 0, a, _, h => by rw [splitGo, splitGo, if_neg (by omega)]
  | d + 1, d' + 1, a, h, h' => by
    rw [splitGo, splitGo]
    by_cases hl : a < text.length
    · rw [if_pos hl, if_pos hl]
      by_cases hn : 0 < lng (text.drop a)
      · rw [if_pos hn, if_pos hn, splitGo_more lng text d d' _ (by omega) (by omega)]
      · rw [if_neg hn, if_neg hn, splitGo_more lng text d d' _ (by omega) (by omega)]
    · rw [if_neg hl, if_neg hl]
theorem splitGo_end (lng : List Int → Nat) (text : List Int) (d : Nat) : splitGo lng text d text.length = [] := by
  cases d with
  | zero => rfl
  | succ d => rw [splitGo, if_neg (Nat.lt_irrefl _)]
set_option maxRecDepth 100000 in
set_option maxHeartbeats 2000000 in
theorem iter32 (n n0 : Nat) (hn : 3 ≤ n) (Bt Br : Nat) (A1 : Option Addr) (c1 : Nat) (L1 : List S32) (A2 : Option Addr) (c2 : Nat) (L2 : List S32) (A3 : Option Addr) (c3 : Nat) (L3 : List S32) (T : Option Addr) (ct : Nat) (text : List Int) (w : World)
    (h : RulesC w A1 c1 L1 A2 c2 L2 A3 c3 L3) (hT : Kd.C (Kd.int .i64) w T text.length text) (hct : text.length ≤ ct) (hn0 : n0 = w.heap.size)
    (hBt : w.heap[Bt]? = some (.cells #[.slice T text.length ct] 27 (0, 0))) (hBr : w.heap[Br]? = some (.cells #[.slice A1 L1.length c1, .slice A2 L2.length c2, .slice A3 L3.length c3] 53 (0, 0))) :
    SeqB Fence.wide n Tryz.prog 32 #[.pointer (some ⟨Bt, 0, none⟩), .pointer (some ⟨Br, 0, none⟩)] encS n0 (splitGo (lngL (hasR L1) (hasR L2) (hasR L3)) text text.length 0) w := fun lp J W hW hJ hY h0 => by
  have hmax := hT.2.1
  have hu53 := Tryz.underlying53
  refine callsIn_of_wp Tryz.func32 rfl trivial ?_ rfl
  simp only [Tryz.ntmps32, List.size_toArray, List.length_cons, List.length_nil, Nat.reduceAdd, Nat.reduceSub, Array.replicate_succ, Array.replicate_zero, List.push_toArray, List.append_toArray, List.nil_append, List.cons_append]
  obtain ⟨lng, hlngdef⟩ : ∃ lng, lng = lngL (hasR L1) (hasR L2) (hasR L3) := ⟨_, rfl⟩
  rw [← hlngdef] at hY ⊢
  obtain ⟨XS, hXS⟩ : ∃ XS, XS = splitGo lng text text.length 0 := ⟨_, rfl⟩
  rw [← hXS] at hY ⊢
  have HXS := Lib.hid hXS
  have Hlng := Lib.hid hlngdef
  clear hXS hlngdef
  have hBtl := (Array.getElem?_eq_some_iff.1 hBt).1
  have hBrl := (Array.getElem?_eq_some_iff.1 hBr).1
  have hWs := hW.size
  gi_wp2
  gi_loopw [4] (fun v wr => ∃ (a : Nat) (pre : List S32), v = .int .i64 a ∧ a ≤ text.length ∧ pre ++ splitGo lng text text.length a = XS ∧ J W.heap.size pre wr ∧ Below w.heap.size w wr ∧ W.heap.size ≤ wr.heap.size) (fun v _ => text.length - (intOf v).toNat)
  case atStart => exact ⟨0, [], rfl, Nat.zero_le _, by rw [HXS.out]; rfl, h0 _ (Nat.le_refl _), hW, Nat.le_refl _⟩
  case round =>
    obtain ⟨a, pre, rfl, ha, hpre, hJs, hB, hsz⟩ := hrel
    have Hpre := Lib.hid hpre
    clear hpre
    have hbt := (hB.block _ hBtl).trans hBt
    have hbr := (hB.block _ hBrl).trans hBr
    have hct0 : wr.cell? ⟨Bt, 0, none⟩ = some (.slice T text.length ct) := cell_at hbt rfl
    by_cases hlt : a < text.length
    · have hT3 := Kd.C_below hT hB
      obtain ⟨ad, rfl, _⟩ := C_int_cell hT3 hlt
      have h3 := h.below hB
      have hdr : Below wr.heap.size wr wr.drew := pw_below_drewN (Below.refl _ _) 1
      have hbt2 := (hdr.block _ (Array.getElem?_eq_some_iff.1 hbt).1).trans hbt
      have hbr2 := (hdr.block _ (Array.getElem?_eq_some_iff.1 hbr).1).trans hbr
      have h4 := h3.below hdr
      have hT4 := Kd.C_below hT3 hdr
      have hJ4 := hJ _ _ _ _ hJs hdr
      have hB4 := hB.trans (hdr.mono hB.size)
      have hai : (a : Int) < (text.length : Int) := by omega
      have hact : (a : Int) ≤ (ct : Int) := by omega
      gi_wp2
      refine wpIn_wide.2 ?_
      refine start_ (n := 6) (S := fun w' => w'.cell? ⟨Bt, 0, none⟩ = some (.slice (some ad) text.length ct) ∧ w'.cell? ⟨Br, 0, none⟩ = some (.slice A1 L1.length c1) ∧ w'.cell? ⟨Br, 1, none⟩ = some (.slice A2 L2.length c2) ∧ w'.cell? ⟨Br, 2, none⟩ = some (.slice A3 L3.length c3)) (ds := []) #[false, false, false, false, false, false] (by kernel_rfl) rfl rfl ⟨cell_at hbt2 rfl, cell_at hbr2 rfl, cell_at hbr2 rfl, cell_at hbr2 rfl⟩ (fun hHeld => ?_)
      clear hJs hB h3 hT3 hct0 hbt hbr
      have hsz4 : W.heap.size ≤ wr.drew.heap.size := Nat.le_trans hsz hdr.size
      clear hdr hsz
      generalize wr.drew = wd at hbt2 hbr2 h4 hT4 hJ4 hB4 hsz4 hHeld ⊢
      refine take_ (i := 0) (N := some 10) (v := ?_) (a' := ?_) #[true, false, false, false, false, false] rfl rfl (by kernel_rfl) (fun _ _ _ h => h) (Or.inl ⟨by rfl, ?_⟩) hHeld ?_ ?_
      rotate_left
      · rintro w' ⟨s0, s1, s2, s3⟩
        go_simp
        with_reducible rfl
      rotate_left
      · simp only [Act.put, List.setIfInBounds_toArray, List.set_cons_zero, List.set_cons_succ]
        rfl
      refine take_ (i := 1) (N := some 11) (v := ?_) (a' := ?_) #[true, true, false, false, false, false] rfl rfl (by kernel_rfl) (fun _ _ _ h => h) (Or.inl ⟨by rfl, ?_⟩) hHeld ?_ ?_
      rotate_left
      · rintro w' ⟨s0, s1, s2, s3⟩
        go_simp
        with_reducible rfl
      rotate_left
      · simp only [Act.put, List.setIfInBounds_toArray, List.set_cons_zero, List.set_cons_succ]
        rfl
      refine pure_ (i := 2) (N := some 12) (v := ?_) (a' := ?_) #[true, true, true, false, false, false] rfl rfl (by kernel_rfl) (fun _ _ _ h => h) (Or.inl ⟨by rfl, ?_⟩) ?_ ?_
      rotate_left
      · intro w'
        go_simp
        with_reducible rfl
      rotate_left
      · simp only [Act.put, List.setIfInBounds_toArray, List.set_cons_zero, List.set_cons_succ]
        rfl
      refine pure_ (i := 3) (N := some 13) (v := ?_) (a' := ?_) #[true, true, true, true, false, false] rfl rfl (by kernel_rfl) (fun _ _ _ h => h) (Or.inl ⟨by rfl, ?_⟩) ?_ ?_
      rotate_left
      · intro w'
        go_simp
        with_reducible rfl
      rotate_left
      · simp only [Act.put, List.setIfInBounds_toArray, List.set_cons_zero, List.set_cons_succ]
        rfl
      refine one_ (i := 4) (N := some 14) #[true, true, true, true, true, false] rfl rfl (by kernel_rfl) (by decide) (fun K hK => ?_)
      obtain ⟨d, hdd⟩ : ∃ d, d = text.drop a := ⟨_, rfl⟩
      have hdl : d.length = text.length - a := by rw [hdd, List.length_drop]
      have hTd := Kd.C_drop hT4 (Nat.le_of_lt hlt) hct
      rw [if_neg (by omega), ← hdd] at hTd
      have hlong := longest23 A1 c1 L1 A2 c2 L2 A3 c3 L3 (some (ad.add (a * 1))) (ct - a) d wd h4 hTd (by omega)
      rw [← Hlng.out, hdl, Nat.mul_one, ← if_neg (show ¬ ct = a by omega) (c := ct = a) (t := some ad) (e := some (ad.add a))] at hlong
      refine goes_ Tryz.func23 (by kernel_rfl) rfl #[rulesV A1 c1 L1 A2 c2 L2 A3 c3 L3, .slice (if ct = a then some ad else some (ad.add a)) (text.length - a) (ct - a)] (by rfl) rfl rfl (by (try simp only [List.map_toArray, List.map_cons, List.map_nil]); first | done | rfl) ?_
      refine hlong.mono ?_
      rintro e w5 ⟨rfl, hB5, hlt5⟩
      refine ⟨_, rfl, ?_⟩
      have hbt5 := (hB5.block _ (Array.getElem?_eq_some_iff.1 hbt2).1).trans hbt2
      have hbr5 := (hB5.block _ (Array.getElem?_eq_some_iff.1 hbr2).1).trans hbr2
      refine hK.out _ _ ⟨cell_at hbt5 rfl, cell_at hbr5 rfl, cell_at hbr5 rfl, cell_at hbr5 rfl⟩ (fun hHeld5 => ?_)
      clear hK K
      refine norm_ (a' := ?_) ?_ ?_
      rotate_left
      · show Act.put _ (some 14) _ = _
        simp only [Act.put, List.setIfInBounds_toArray, List.set_cons_zero, List.set_cons_succ]
        rfl
      have hl1 : lng d ≤ d.length := by rw [Hlng.out]; exact lngL_le _ _ _ _
      have hstep : splitGo lng text text.length a = if 0 < lng d then ⟨(a : Int), ((a + lng d : Nat) : Int)⟩ :: splitGo lng text text.length (a + lng d) else splitGo lng text text.length (a + 1) := by
        rw [splitGo_more lng text text.length ((text.length - 1) + 1) a (by omega) (by omega), splitGo, if_pos hlt, ← hdd]
        split
        · rw [splitGo_more lng text (text.length - 1) text.length _ (by omega) (by omega)]
        · rw [splitGo_more lng text (text.length - 1) text.length _ (by omega) (by omega)]
      have Hstep := Lib.hid hstep
      clear hstep
      generalize lng d = g at hl1 Hstep ⊢
      refine pure_ (i := 5) (N := some 5) (v := ?_) (a' := ?_) #[true, true, true, true, true, true] rfl rfl (by kernel_rfl) (fun _ _ _ h => h) (Or.inl ⟨by rfl, ?_⟩) ?_ ?_
      rotate_left
      · intro w'
        go_simp
        with_reducible rfl
      rotate_left
      · simp only [Act.put, List.setIfInBounds_toArray, List.set_cons_zero, List.set_cons_succ]
        rfl
      refine done_ (by kernel_rfl) ?_
      have hJ5 := hJ _ _ _ _ hJ4 hB5
      have hB5w := hB4.trans (hB5.mono hB4.size)
      have hsz5 : W.heap.size < w5.heap.size := by omega
      clear hJ4 hlong h4 hTd hHeld hbt2 hbr2 hT4 hB5 hHeld5 hB4 hsz4 hlt5
      by_cases hg : 0 < g
      · have hgi : (g : Int) > 0 := by omega
        have hst := Hstep.out
        rw [if_pos hg] at hst
        obtain ⟨x, hx⟩ : ∃ x : S32, x = ⟨(a : Int), ((a + g : Nat) : Int)⟩ := ⟨_, rfl⟩
        rw [← hx] at hst
        have hx0 : encS x = #[.agg #[.int .i64 (a : Int), .int .i64 ((a : Int) + (g : Int))]] := by rw [hx]; rfl
        have hpx : pre ++ [x] ++ splitGo lng text text.length (a + g) = XS := by rw [← Hpre.out, hst]; simp
        have Hpx := Lib.hid hpx
        clear hst hx hpx Hstep Hpre
        obtain ⟨fn, tmps, assign, body, hy, hR⟩ := hY W.heap.size pre x w5 hJ5 hsz5 (by rw [← Hpx.out]; exact List.prefix_append _ _)
        rw [hx0] at hy
        gi_wp2
        refine ⟨(fun h => by cases h), ?_⟩
        refine hR.mono ?_
        rintro e W3 ⟨rfl, hJ3, hB3, _⟩
        have hB3w := hB5w.trans (hn0 ▸ hB3)
        have hs3 := hB3.size
        gi_wp2
        go_roundw
        case rel => exact ⟨a + g, pre ++ [x], by go_num, by omega, Hpx.out, hJ3, hB3w, by omega⟩
        case measure => simp [intOf]; omega
      · have hg0 : g = 0 := by omega
        subst hg0
        have hst := Hstep.out
        rw [if_neg (by omega)] at hst
        rw [hst] at Hpre
        clear hst Hstep
        gi_wp2
        refine ⟨(fun f h => by cases h), ?_⟩
        gi_wp2
        go_roundw
        case rel => exact ⟨a + 1, pre, by go_num, by omega, Hpre.out, hJ5, hB5w, by omega⟩
        case measure => simp [intOf]; omega
    · obtain rfl : a = text.length := by omega
      gi_wp2
      go_end0
      have hp := Hpre.out
      rw [splitGo_end, List.append_nil] at hp
      exact ⟨⟨_, rfl⟩, _, hp ▸ hJs⟩
end Go.Proofs.YtjfcmiocmcdjlaaGreatDoor.G
