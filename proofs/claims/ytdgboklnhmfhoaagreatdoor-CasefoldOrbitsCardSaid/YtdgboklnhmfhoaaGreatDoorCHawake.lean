/- The example of chapter 38: awake answers true. -/
import Derived.Test.YtdgboklnhmfhoaaGreatDoorCG4
import Derived.Test.YtdgboklnhmfhoaaGreatDoorCG6
import Derived.Test.YtdgboklnhmfhoaaGreatDoorCG17
import Derived.Test.YtdgboklnhmfhoaaGreatDoorCHfold
namespace Go.Proofs.YtdgboklnhmfhoaaGreatDoor.G
open Go.RowKit Go.Proofs.YtdgboklnhmfhoaaGreatDoorW.PrintWords Go.Proofs.YtdgboklnhmfhoaaGreatDoorW.PrintLast Go.Proofs.YtdgboklnhmfhoaaGreatDoorW.PrintMore
open Go.Uc
set_option linter.unusedVariables false
def FL3 : List S44 := [⟨75, [107], ⟨#[]⟩⟩, ⟨223, [115, 115], ⟨#[]⟩⟩, ⟨8490, [107], ⟨#[]⟩⟩]
theorem chk3 : checkC [] [] [] FL3 [] [] = 0 := by decide +kernel
theorem foldList3 : foldList [] [] [] FL3 [] [] = FL3 := by rw [foldList, chk3]; rfl
theorem orbit3 : casefold_Orbit.f [] [] [] FL3 [] [] 75 = some [75, 107, 8490] := by
  rw [casefold_Orbit.f, if_neg (by decide), foldList3, if_pos (by decide)]
  have h1 : fold1 FL3 75 = [107] := by decide +kernel
  rw [orbitL, h1]
  have h2 : orbit0 FL3 [107] ++ (List.range FL3.length).flatMap (fromsAt FL3 [107]) = [107, 75, 8490] := by decide +kernel
  rw [h2, sortI_congr (m := [75, 107, 8490]) (by decide), sortI_id (by decide)]
theorem fold3 : casefold_Fold.f [] [] [] FL3 [] [] [8490, 223, 65] = some [107, 115, 115, 65] := by
  have h : foldT FL3 [8490, 223, 65] = [107, 115, 115, 65] := by decide +kernel
  rw [casefold_Fold.f, foldList3, h, if_pos (by decide)]
theorem closed3 : casefold_Closed.f [] [] [] FL3 [] [] = some true := by
  have h : closedB FL3 = true := by decide +kernel
  rw [casefold_Closed.f, foldList3, h, if_pos (by decide)]
theorem form3 (c : Int) (hc : fold1 FL3 c = [107]) : casefold_Form.f [] [] [] [] [] [] FL3 [] [] [c] 0 = some [107] := by
  have h : foldT FL3 [c] = [107] := by simp [foldT, hc]
  rw [casefold_Form.f, if_pos rfl, casefold_Fold.f, foldList3, h, if_pos (by decide)]
theorem match3 : casefold_Match.f 10 [] [] [] [] [] [] FL3 [] [] [75] [8490] 0 = some true := by
  rw [casefold_Match.f, form3 75 (by decide +kernel), form3 8490 (by decide +kernel)]
  decide +kernel
theorem match3' : casefold_Match.f 10 [] [] [] [] [] [] FL3 [] [] [75] [8490] 3 = some false := by
  have h : ∀ c, casefold_Form.f [] [] [] [] [] [] FL3 [] [] [c] 3 = some [c] := fun c => by
    rw [casefold_Form.f, if_neg (by decide), if_neg (by decide), if_pos (by simp)]
  rw [casefold_Match.f, h, h]
  decide +kernel
theorem alloc5 (w : World) (o1 o2 o3 o4 o5 : Obj) :
    (((((w.alloc o1).alloc o2).alloc o3).alloc o4).alloc o5).heap[w.heap.size]? = some o1 ∧ (((((w.alloc o1).alloc o2).alloc o3).alloc o4).alloc o5).heap[w.heap.size + 1]? = some o2 ∧
    (((((w.alloc o1).alloc o2).alloc o3).alloc o4).alloc o5).heap[w.heap.size + 1 + 1]? = some o3 ∧ (((((w.alloc o1).alloc o2).alloc o3).alloc o4).alloc o5).heap[w.heap.size + 1 + 1 + 1]? = some o4 := by
  have s1 : (w.alloc o1).heap.size = w.heap.size + 1 := by simp
  have s2 : ((w.alloc o1).alloc o2).heap.size = w.heap.size + 1 + 1 := by simp
  have s3 : (((w.alloc o1).alloc o2).alloc o3).heap.size = w.heap.size + 1 + 1 + 1 := by simp
  have s4 : ((((w.alloc o1).alloc o2).alloc o3).alloc o4).heap.size = w.heap.size + 1 + 1 + 1 + 1 := by simp
  refine ⟨?_, ?_, ?_, ?_⟩
  · rw [Below.heap_alloc _ _ _ (by omega), Below.heap_alloc _ _ _ (by omega), Below.heap_alloc _ _ _ (by omega), Below.heap_alloc _ _ _ (by omega), heap_alloc_new]
  · rw [Below.heap_alloc _ _ _ (by omega), Below.heap_alloc _ _ _ (by omega), Below.heap_alloc _ _ _ (by omega), ← s1, heap_alloc_new]
  · rw [Below.heap_alloc _ _ _ (by omega), Below.heap_alloc _ _ _ (by omega), ← s2, heap_alloc_new]
  · rw [Below.heap_alloc _ _ _ (by omega), ← s3, heap_alloc_new]
/-- The world that the example's data makes. -/
def W3 (w : World) : World :=
  (((((w.alloc (Obj.cells #[Value.int IntKind.i64 107] 3)).alloc
                  (Obj.cells #[Value.int IntKind.i64 115, Value.int IntKind.i64 115] 3)).alloc
              (Obj.cells #[Value.int IntKind.i64 107] 3)).alloc
          (Obj.cells
            #[Value.int IntKind.i64 75, Value.slice (some { block := w.heap.size, off := 0 }) 1 1,
              Value.string { data := #[] }, Value.int IntKind.i64 223,
              Value.slice (some { block := w.heap.size + 1, off := 0 }) 2 2, Value.string { data := #[] },
              Value.int IntKind.i64 8490, Value.slice (some { block := w.heap.size + 1 + 1, off := 0 }) 1 1,
              Value.string { data := #[] }]
            44)).alloc
      (Obj.cells
        #[Value.slice none 0 0, Value.slice none 0 0, Value.slice none 0 0,
          Value.slice (some { block := w.heap.size + 1 + 1 + 1, off := 0 }) 3 3, Value.slice none 0 0,
          Value.slice none 0 0]
        27))
theorem C_blk_ints {w : World} {b : Nat} {xs : List Int} {e : TypeId} {fr : Nat × Nat} (h : w.heap[b]? = some (.cells (xs.map (Value.int .i64)).toArray e fr)) (hl : xs.length ≤ 9223372036854775807) : Kd.C (Kd.int .i64) w (some ⟨b, 0, none⟩) xs.length xs := by
  refine ⟨rfl, hl, fun _ => ⟨_, rfl, fun j p hj => ⟨[.int .i64 p], rfl, rfl, fun i u hu => ?_⟩⟩⟩
  have hi : i = 0 := by have := (List.getElem?_eq_some_iff.1 hu).1; simp at this; omega
  subst hi
  obtain rfl : Value.int .i64 p = u := by simpa using hu
  have e2 : ({ block := b, off := 0, spot := none } : Addr).add (j * (Kd.int .i64).sz + 0) = ⟨b, j, none⟩ := by
    have : (Kd.int .i64).sz = 1 := rfl
    rw [this, add_flat]
    simp
  rw [e2]
  simp [World.cell?, h, hj]
theorem W3_below (w : World) : Below w.heap.size w (W3 w) := by
  unfold W3
  repeat apply below_alloc
  exact Below.refl _ _
theorem W3_blk (w : World) : (W3 w).heap[w.heap.size + 1 + 1 + 1 + 1]? = some (.cells #[Value.slice none 0 0, Value.slice none 0 0, Value.slice none 0 0,
          Value.slice (some { block := w.heap.size + 1 + 1 + 1, off := 0 }) 3 3, Value.slice none 0 0,
          Value.slice none 0 0] 27 (0, 0)) := by
  unfold W3
  have h := heap_alloc_new (((((w.alloc (Obj.cells #[Value.int IntKind.i64 107] 3)).alloc
                  (Obj.cells #[Value.int IntKind.i64 115, Value.int IntKind.i64 115] 3)).alloc
              (Obj.cells #[Value.int IntKind.i64 107] 3)).alloc
          (Obj.cells
            #[Value.int IntKind.i64 75, Value.slice (some { block := w.heap.size, off := 0 }) 1 1,
              Value.string { data := #[] }, Value.int IntKind.i64 223,
              Value.slice (some { block := w.heap.size + 1, off := 0 }) 2 2, Value.string { data := #[] },
              Value.int IntKind.i64 8490, Value.slice (some { block := w.heap.size + 1 + 1, off := 0 }) 1 1,
              Value.string { data := #[] }]
            44))) (Obj.cells
        #[Value.slice none 0 0, Value.slice none 0 0, Value.slice none 0 0,
          Value.slice (some { block := w.heap.size + 1 + 1 + 1, off := 0 }) 3 3, Value.slice none 0 0,
          Value.slice none 0 0]
        27)
  simpa using h
theorem W3_C (w : World) : Kd.C k44 (W3 w) (some ⟨w.heap.size + 1 + 1 + 1, 0, none⟩) FL3.length FL3 := by
  obtain ⟨g0, g1, g2, g3⟩ := alloc5 w (Obj.cells #[Value.int IntKind.i64 107] 3) (Obj.cells #[Value.int IntKind.i64 115, Value.int IntKind.i64 115] 3) (Obj.cells #[Value.int IntKind.i64 107] 3) (Obj.cells
            #[Value.int IntKind.i64 75, Value.slice (some { block := w.heap.size, off := 0 }) 1 1,
              Value.string { data := #[] }, Value.int IntKind.i64 223,
              Value.slice (some { block := w.heap.size + 1, off := 0 }) 2 2, Value.string { data := #[] },
              Value.int IntKind.i64 8490, Value.slice (some { block := w.heap.size + 1 + 1, off := 0 }) 1 1,
              Value.string { data := #[] }]
            44) (Obj.cells
        #[Value.slice none 0 0, Value.slice none 0 0, Value.slice none 0 0,
          Value.slice (some { block := w.heap.size + 1 + 1 + 1, off := 0 }) 3 3, Value.slice none 0 0,
          Value.slice none 0 0]
        27)
  change (W3 w).heap[w.heap.size]? = _ at g0
  change (W3 w).heap[w.heap.size + 1]? = _ at g1
  change (W3 w).heap[w.heap.size + 1 + 1]? = _ at g2
  change (W3 w).heap[w.heap.size + 1 + 1 + 1]? = _ at g3
  have hsz : k44.sz = 3 := rfl
  have c0 := C_blk_ints (xs := [107]) g0 (by decide)
  have c1 := C_blk_ints (xs := [115, 115]) g1 (by decide)
  have c2 := C_blk_ints (xs := [107]) g2 (by decide)
  refine ⟨rfl, by decide, fun _ => ⟨_, rfl, fun j p hj => ?_⟩⟩
  have hcell : ∀ j i : Nat, (W3 w).cell? (({ block := w.heap.size + 1 + 1 + 1, off := 0, spot := none } : Addr).add (j * k44.sz + i)) = _ := fun j i => (congrArg (W3 w).cell? (add_flat _ 0 (j * k44.sz + i))).trans (blk_cell g3 _)
  have hl := (List.getElem?_eq_some_iff.1 hj).1
  match j, hl with
  | 0, _ =>
    obtain rfl : (⟨75, [107], ⟨#[]⟩⟩ : S44) = p := by simpa [FL3] using hj
    refine ⟨_, rfl, k44_mk (W3 w) ⟨75, [107], ⟨#[]⟩⟩ (A1 := some ⟨w.heap.size, 0, none⟩) (c1 := 1) (by decide) c0, fun i u hu => ?_⟩
    have hi := (List.getElem?_eq_some_iff.1 hu).1
    rw [hcell, hsz]
    match i, hi with
    | 0, _ => exact hu
    | 1, _ => exact hu
    | 2, _ => exact hu
  | 1, _ =>
    obtain rfl : (⟨223, [115, 115], ⟨#[]⟩⟩ : S44) = p := by simpa [FL3] using hj
    refine ⟨_, rfl, k44_mk (W3 w) ⟨223, [115, 115], ⟨#[]⟩⟩ (A1 := some ⟨w.heap.size + 1, 0, none⟩) (c1 := 2) (by decide) c1, fun i u hu => ?_⟩
    have hi := (List.getElem?_eq_some_iff.1 hu).1
    rw [hcell, hsz]
    match i, hi with
    | 0, _ => exact hu
    | 1, _ => exact hu
    | 2, _ => exact hu
  | 2, _ =>
    obtain rfl : (⟨8490, [107], ⟨#[]⟩⟩ : S44) = p := by simpa [FL3] using hj
    refine ⟨_, rfl, k44_mk (W3 w) ⟨8490, [107], ⟨#[]⟩⟩ (A1 := some ⟨w.heap.size + 1 + 1, 0, none⟩) (c1 := 1) (by decide) c2, fun i u hu => ?_⟩
    have hi := (List.getElem?_eq_some_iff.1 hu).1
    rw [hcell, hsz]
    match i, hi with
    | 0, _ => exact hu
    | 1, _ => exact hu
    | 2, _ => exact hu
theorem new2 (w : World) (o1 o2 : Obj) : ((w.alloc o1).alloc o2).heap[w.heap.size + 1]? = some o2 := by
  have s1 : (w.alloc o1).heap.size = w.heap.size + 1 := by simp
  rw [← s1, heap_alloc_new]
def unicodetextlaw38_awake.f : Option Bool := some true
set_option maxRecDepth 100000 in
set_option maxHeartbeats 1000000 in
theorem unicodetextlaw38_awake.calls  (r : Bool) (w : World)  (h : unicodetextlaw38_awake.f  = some r) :
    Calls Tryz.prog 8 #[] w fun e w' => e = .returned (.bool r) ∧ Below w.heap.size w w' := by
  obtain rfl : true = r := Option.some.inj h
  have hu27 := Tryz.underlying27
  have hu41 := Tryz.underlying41
  clear h
  go_enter Tryz.func8, Tryz.ntmps8
  go_wp2_with fail
  change Calls _ _ _ (W3 w) _
  have hblk := W3_blk w
  have hC := W3_C w
  have hB := W3_below w
  generalize W3 w = W0 at hblk hC hB ⊢
  generalize w.heap.size + 1 + 1 + 1 + 1 = bk at hblk ⊢
  generalize w.heap.size + 1 + 1 + 1 = B at hblk hC ⊢
  have n1 := Lib.hid (Kd.C_nil k44)
  have n2 := Lib.hid (Kd.C_nil k87)
  have n3 := Lib.hid (Kd.C_nil k154)
  have hbl := (Array.getElem?_eq_some_iff.1 hblk).1
  refine (casefold_Orbit.calls none 0 [] none 0 [] none 0 [] (some ⟨B, 0, none⟩) 3 FL3 none 0 [] none 0 [] 75 _ W0 (n1.out _) (Nat.le_refl _) (n1.out _) (Nat.le_refl _) (n1.out _) (Nat.le_refl _) hC (by decide) (n2.out _) (Nat.le_refl _) (n2.out _) (Nat.le_refl _) orbit3).mono ?_
  rintro e w1 ⟨v, rfl, hR, hb1⟩
  obtain ⟨VA, Vc, rfl⟩ := Kd.R_slice hR
  have hk1 := (hb1.block bk hbl).trans hblk
  have hC1 := Kd.C_below hC hb1
  have hB1 := hB.trans (hb1.mono hB.size)
  have hV := Kd.R_reads' hR
  clear hR hC hB
  go_wp2_with fail
  refine (unicodetextref01_Equal.calls 20 VA Vc [75, 107, 8490] _ 3 [75, 107, 8490] true _ (Kd.C_alloc hV.2.2 _) hV.2.1 (C_blk_ints (heap_alloc_new _ _) (by decide)) (Nat.le_refl _) (by decide +kernel)).mono ?_
  rintro e w2 ⟨rfl, hd⟩
  have hb2 := (below_alloc (Below.refl _ w1) _).trans (hd.below.mono (by simp))
  have hC2 := Kd.C_below hC1 hb2
  have hB2 := hB1.trans (hb2.mono hB1.size)
  have hk2 := (hb2.block bk (Array.getElem?_eq_some_iff.1 hk1).1).trans hk1
  clear hC1 hk1 hd hV
  clear hblk
  have q0 : w2.cell? ⟨bk, 0, none⟩ = some (.slice none 0 0) := blk_cell hk2 0
  have q1 : w2.cell? ⟨bk, 1, none⟩ = some (.slice none 0 0) := blk_cell hk2 1
  have q2 : w2.cell? ⟨bk, 2, none⟩ = some (.slice none 0 0) := blk_cell hk2 2
  have q3 : w2.cell? ⟨bk, 3, none⟩ = some (.slice (some ⟨B, 0, none⟩) 3 3) := blk_cell hk2 3
  have q4 : w2.cell? ⟨bk, 4, none⟩ = some (.slice none 0 0) := blk_cell hk2 4
  have q5 : w2.cell? ⟨bk, 5, none⟩ = some (.slice none 0 0) := blk_cell hk2 5
  go_wp2_with fail
  refine (casefold_Fold.calls none 0 [] none 0 [] none 0 [] (some ⟨B, 0, none⟩) 3 FL3 none 0 [] none 0 [] _ 3 [8490, 223, 65] _ _ (n1.out _) (Nat.le_refl _) (n1.out _) (Nat.le_refl _) (n1.out _) (Nat.le_refl _) (Kd.C_alloc hC2 _) (by decide) (n2.out _) (Nat.le_refl _) (n2.out _) (Nat.le_refl _) (C_blk_ints (heap_alloc_new _ _) (by decide)) (Nat.le_refl _) fold3).mono ?_
  rintro e w3 ⟨v, rfl, hR, hb3⟩
  obtain ⟨UA, Uc, rfl⟩ := Kd.R_slice hR
  have hV := Kd.R_reads' hR
  have hb3 := (below_alloc (Below.refl _ w2) _).trans (hb3.mono (by simp))
  have hC3 := Kd.C_below hC2 hb3
  have hB3 := hB2.trans (hb3.mono hB2.size)
  have hk3 := (hb3.block bk (Array.getElem?_eq_some_iff.1 hk2).1).trans hk2
  clear hC2 hk2 hR q0 q1 q2 q3 q4 q5
  go_wp2_with fail
  refine (unicodetextref01_Equal.calls 20 UA Uc [107, 115, 115, 65] _ 4 [107, 115, 115, 65] true _ (Kd.C_alloc hV.2.2 _) hV.2.1 (C_blk_ints (heap_alloc_new _ _) (by decide)) (Nat.le_refl _) (by decide +kernel)).mono ?_
  rintro e w4 ⟨rfl, hd⟩
  have hb4 := (below_alloc (Below.refl _ w3) _).trans (hd.below.mono (by simp))
  have hC4 := Kd.C_below hC3 hb4
  have hB4 := hB3.trans (hb4.mono hB3.size)
  have hk4 := (hb4.block bk (Array.getElem?_eq_some_iff.1 hk3).1).trans hk3
  clear hC3 hk3 hd hV
  have q0 : w4.cell? ⟨bk, 0, none⟩ = some (.slice none 0 0) := blk_cell hk4 0
  have q1 : w4.cell? ⟨bk, 1, none⟩ = some (.slice none 0 0) := blk_cell hk4 1
  have q2 : w4.cell? ⟨bk, 2, none⟩ = some (.slice none 0 0) := blk_cell hk4 2
  have q3 : w4.cell? ⟨bk, 3, none⟩ = some (.slice (some ⟨B, 0, none⟩) 3 3) := blk_cell hk4 3
  have q4 : w4.cell? ⟨bk, 4, none⟩ = some (.slice none 0 0) := blk_cell hk4 4
  have q5 : w4.cell? ⟨bk, 5, none⟩ = some (.slice none 0 0) := blk_cell hk4 5
  go_wp2_with fail
  refine (casefold_Closed.calls none 0 [] none 0 [] none 0 [] (some ⟨B, 0, none⟩) 3 FL3 none 0 [] none 0 [] _ _ (n1.out _) (Nat.le_refl _) (n1.out _) (Nat.le_refl _) (n1.out _) (Nat.le_refl _) hC4 (by decide) (n2.out _) (Nat.le_refl _) (n2.out _) (Nat.le_refl _) closed3).mono ?_
  rintro e w5 ⟨rfl, hb5⟩
  have hC5 := Kd.C_below hC4 hb5
  have hB5 := hB4.trans (hb5.mono hB4.size)
  have hk5 := (hb5.block bk (Array.getElem?_eq_some_iff.1 hk4).1).trans hk4
  clear hC4 hk4 q0 q1 q2 q3 q4 q5
  have q0 : w5.cell? ⟨bk, 0, none⟩ = some (.slice none 0 0) := blk_cell hk5 0
  have q1 : w5.cell? ⟨bk, 1, none⟩ = some (.slice none 0 0) := blk_cell hk5 1
  have q2 : w5.cell? ⟨bk, 2, none⟩ = some (.slice none 0 0) := blk_cell hk5 2
  have q3 : w5.cell? ⟨bk, 3, none⟩ = some (.slice (some ⟨B, 0, none⟩) 3 3) := blk_cell hk5 3
  have q4 : w5.cell? ⟨bk, 4, none⟩ = some (.slice none 0 0) := blk_cell hk5 4
  have q5 : w5.cell? ⟨bk, 5, none⟩ = some (.slice none 0 0) := blk_cell hk5 5
  go_wp2_with fail
  refine (casefold_Match.calls 10 none 0 [] none 0 [] none 0 [] none 0 [] none 0 [] none 0 [] (some ⟨B, 0, none⟩) 3 FL3 none 0 [] none 0 [] _ 1 [75] _ 1 [8490] 0 _ _ (n3.out _) (Nat.le_refl _) (n1.out _) (Nat.le_refl _) (n2.out _) (Nat.le_refl _) (n1.out _) (Nat.le_refl _) (n1.out _) (Nat.le_refl _) (n1.out _) (Nat.le_refl _) (Kd.C_alloc (Kd.C_alloc hC5 _) _) (by decide) (n2.out _) (Nat.le_refl _) (n2.out _) (Nat.le_refl _) (Kd.C_alloc (C_blk_ints (heap_alloc_new _ _) (by decide)) _) (Nat.le_refl _) (C_blk_ints (xs := [8490]) (new2 _ _ _) (by decide)) (Nat.le_refl _) match3).mono ?_
  rintro e w6 ⟨rfl, hb6⟩
  have hb6 := (below_alloc (below_alloc (Below.refl _ w5) _) _).trans (hb6.mono (by simp; omega))
  have hC6 := Kd.C_below hC5 hb6
  have hB6 := hB5.trans (hb6.mono hB5.size)
  have hk6 := (hb6.block bk (Array.getElem?_eq_some_iff.1 hk5).1).trans hk5
  clear hC5 hk5 q0 q1 q2 q3 q4 q5
  have q0 : w6.cell? ⟨bk, 0, none⟩ = some (.slice none 0 0) := blk_cell hk6 0
  have q1 : w6.cell? ⟨bk, 1, none⟩ = some (.slice none 0 0) := blk_cell hk6 1
  have q2 : w6.cell? ⟨bk, 2, none⟩ = some (.slice none 0 0) := blk_cell hk6 2
  have q3 : w6.cell? ⟨bk, 3, none⟩ = some (.slice (some ⟨B, 0, none⟩) 3 3) := blk_cell hk6 3
  have q4 : w6.cell? ⟨bk, 4, none⟩ = some (.slice none 0 0) := blk_cell hk6 4
  have q5 : w6.cell? ⟨bk, 5, none⟩ = some (.slice none 0 0) := blk_cell hk6 5
  go_wp2_with fail
  refine (casefold_Match.calls 10 none 0 [] none 0 [] none 0 [] none 0 [] none 0 [] none 0 [] (some ⟨B, 0, none⟩) 3 FL3 none 0 [] none 0 [] _ 1 [75] _ 1 [8490] 3 _ _ (n3.out _) (Nat.le_refl _) (n1.out _) (Nat.le_refl _) (n2.out _) (Nat.le_refl _) (n1.out _) (Nat.le_refl _) (n1.out _) (Nat.le_refl _) (n1.out _) (Nat.le_refl _) (Kd.C_alloc (Kd.C_alloc hC6 _) _) (by decide) (n2.out _) (Nat.le_refl _) (n2.out _) (Nat.le_refl _) (Kd.C_alloc (C_blk_ints (heap_alloc_new _ _) (by decide)) _) (Nat.le_refl _) (C_blk_ints (xs := [8490]) (new2 _ _ _) (by decide)) (Nat.le_refl _) match3').mono ?_
  rintro e w7 ⟨rfl, hb7⟩
  have hb7 := (below_alloc (below_alloc (Below.refl _ w6) _) _).trans (hb7.mono (by simp; omega))
  have hB7 := hB6.trans (hb7.mono hB6.size)
  clear q0 q1 q2 q3 q4 q5
  go_wp2_with fail
  go_ret
  exact ⟨rfl, hB7⟩
end Go.Proofs.YtdgboklnhmfhoaaGreatDoor.G
