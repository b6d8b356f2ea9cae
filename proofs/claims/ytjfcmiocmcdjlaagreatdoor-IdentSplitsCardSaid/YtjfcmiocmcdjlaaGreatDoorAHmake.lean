/- cpset.Make: sorting, merging walked; what it makes. -/
import Derived.Test.YtjfcmiocmcdjlaaGreatDoorAHu
import Derived.Test.YtjfcmiocmcdjlaaGreatDoorAShelf
import Derived.Test.YtjfcmiocmcdjlaaGreatDoorAShelf2
import Derived.Shelf.SlSortCmp.WholeK
import Derived.Shelf.SlSortCmp.NoneTotal
import Derived.Laws.OwnMore
import Derived.OwnWalk
import Derived.StillTailTactics
import Derived.IntWalk
import Derived.Deep.QuietTactic
import Derived.BigQuiet
import Derived.Deep.DeepMust
import Derived.Test.YtjfcmiocmcdjlaaGreatDoorASets
namespace Go.Proofs.YtjfcmiocmcdjlaaGreatDoor.G
open Go.Shelf Go.RowKit Go.Lib Go.Sort
open Go.Proofs.YtjfcmiocmcdjlaaGreatDoorW.PrintWords
set_option linter.unusedVariables false
instance : Inhabited S32 := ⟨z32⟩
def cmpR (x y : S32) : Int := Lib.compareInt x.f0 y.f0
set_option maxHeartbeats 1000000 in
theorem closure57 (x y : S32) (W : World) : Calls Tryz.prog 57 #[.agg #[.int .i64 x.f0, .int .i64 x.f1], .agg #[.int .i64 y.f0, .int .i64 y.f1]] W fun e w' => e = .returned (.int .i64 (cmpR x y)) ∧ ∃ q os', w' = grow (W.drewN q) os' := by
  have hu32 := Tryz.underlying32
  unfold cmpR
  have hcon := fun W' => Tryz.cmp_Compare_int x.f0 y.f0 W'
  generalize Lib.compareInt x.f0 y.f0 = r at hcon ⊢
  go_enter Tryz.func57, Tryz.ntmps57
  go_wp2_with (go_at_call 58; refine (hcon _).mono ?_; rintro e w' ⟨rfl, rfl⟩)
  go_ret
  exact ⟨rfl, 0, _, by rw [alloc_eq_grow, alloc_eq_grow, grow_grow]; rfl⟩
theorem ltR (x y : S32) : ltOf cmpR x y = decide (x.f0 < y.f0) := by
  unfold ltOf cmpR Lib.compareInt
  by_cases h1 : x.f0 < y.f0
  · simp [h1]
  · by_cases h2 : y.f0 < x.f0 <;> simp [h1, h2]
theorem swoR : SWO (ltOf cmpR) where
  irrefl x := by rw [ltR]; simp
  trans x y z h1 h2 := by rw [ltR] at *; simp at *; omega
  ntrans x y z h1 h2 := by rw [ltR] at *; simp at *; omega
theorem isAgg32 (w : World) : (isAgg 32).run Tryz.prog w = .ok true w := by kernel_rfl
theorem sizeOf32 (w : World) : (Go.sizeOf 32).run Tryz.prog w = .ok 2 w := by kernel_rfl
theorem sort56 (blk off cap : Nat) (d : Array S32) (w : World) (hH : HoldsK encR 2 w blk off d) (hblk : blk < w.heap.size) (hsz : d.size < 4611686018427387904) :
    Calls Tryz.prog 56 #[.slice (some ⟨blk, off, none⟩) d.size cap, .func (.func 57) #[] #[]] w fun e w' => e = .returned (.tuple #[]) ∧ ∃ d' n os, PermIn 0 d.size d d' ∧ SortedIn (ltOf cmpR) 0 d.size d' ∧ w' = sortWorldK encR 2 w blk off n d' os := by
  have eg : ∀ args w, (callFunc 57 args).run Tryz.prog w = .ok (.enter 57 args) w := enters_of Tryz.func57 (by kernel_rfl) rfl
  exact AnyQ.slices_SortFunc Tryz.sortRange 2 isAgg32 sizeOf32 encR (fun _ => rfl) (fun x v hv => by simp [encR] at hv; rcases hv with rfl | rfl <;> rfl) cmpR swoR 57 #[] blk off cap d w eg (fun _ _ _ _ x y => closure57 x y _) hH hblk hsz
theorem flatK_cells (l : List S32) : flatK encR 2 l.toArray = (cellsR l).toArray := by
  apply Array.ext (by simp [cellsR_length])
  intro t h1 h2
  have h1' : t < l.length * 2 := by simpa using h1
  have h3 := get_flatK encR 2 l.toArray t (by simpa using h1')
  rw [getElem!_pos (flatK encR 2 l.toArray) t h1] at h3
  rw [h3]
  have h4 := cellsR_get l t
  have hd : t / 2 < l.length := by omega
  have h5 : t < (cellsR l).length := by rw [cellsR_length]; exact h1'
  rw [List.getElem?_eq_getElem h5, List.getElem?_eq_getElem hd, Option.bind_some] at h4
  have h6 : (encR l[t / 2])[t % 2]! = (cellsR l)[t] := by
    rw [List.getElem!_eq_getElem?_getD, ← h4]; rfl
  rw [getElem!_pos l.toArray (t / 2) (by simpa using hd)]
  simpa using h6
theorem holds_of_own {w : World} {g : Nat} {cur : Array Value} {e : TypeId} {xs : List Value} (hb : w.heap[g]? = some (.cells cur e (0, 0))) (ht : cur.toList.take xs.length = xs) : Holds id w g 0 xs.toArray := by
  intro j hj
  have hj' : j < xs.length := by simpa using hj
  refine ⟨?_, by simp [World.frozen?, hb]⟩
  have h1 : (cur.toList.take xs.length)[j]? = xs[j]? := by rw [ht]
  rw [List.getElem?_take_of_lt hj'] at h1
  simp only [World.cell?, hb, Nat.zero_add]
  simp only [Option.isSome_none, Bool.false_eq_true, if_false]
  rw [← Array.getElem?_toList, h1]
  simp [hj']
theorem heap_sortedV {w : World} {g n : Nat} {os : Array Obj} {cur : Array Value} {e : TypeId} {fr : Nat × Nat} (d : Array Value) (hb : w.heap[g]? = some (.cells cur e fr)) :
    (grow (putRow id (Sort.ahead w n) g 0 d) os).heap[g]? = some (.cells (putCells id 0 d cur) e fr) := by
  have hg : g < w.heap.size := (Array.getElem?_eq_some_iff.1 hb).1
  rw [heap_grow_old _ _ (by simpa using hg)]
  simp [putRow, mapBlock, Sort.ahead, Array.getElem?_modify, hb, onCells]
theorem grownBy_sortedV {w : World} {g n : Nat} {os : Array Obj} (d : Array Value) : w.grownBy (grow (putRow id (Sort.ahead w n) g 0 d) os) (some g) := by
  refine ⟨rfl, rfl, rfl, by simp, fun k hk hne => ?_⟩
  rw [heap_grow_old _ _ (by simpa using hk)]
  have : g ≠ k := fun e => hne (by rw [e])
  simp [putRow, mapBlock, Sort.ahead, Array.getElem?_modify, this]
theorem take_putCellsV (cur : Array Value) (ts : List Value) (h : ts.length ≤ cur.size) : (putCells id 0 ts.toArray cur).toList.take ts.length = ts := by
  apply List.ext_getElem?
  intro j
  by_cases hj : j < ts.length
  · rw [List.getElem?_take_of_lt hj, Array.getElem?_toList]
    simp [putCells, hj, show j < cur.size by omega]
  · rw [List.getElem?_take_eq_none (by omega), List.getElem?_eq_none (by omega)]
theorem sortR_calls_ (base : Nat) (v : Value) (l : List S32) (w : World) (h : w.ownsRow base 32 2 v l.length (cellsR l)) (hsz : l.length < 4611686018427387904) :
    Calls Tryz.prog 56 #[v, .func (.func 57) #[] #[]] w (SortPost base v l w) := by
  rcases h.2 with ⟨rfl, h0⟩ | ⟨g, cap, cur, rfl, hg, hb, hn, hcap, hcs, htake⟩
  · have hl : l = [] := List.eq_nil_of_length_eq_zero h0
    subst hl
    refine (AnyF.slices_SortFunc_none Tryz.sortRange none 0 _ w).mono ?_
    rintro e w' ⟨rfl, rfl⟩
    refine ⟨rfl, [], List.Perm.refl _, List.Pairwise.nil, h, ⟨rfl, rfl, rfl, Nat.le_refl _, fun _ _ _ => rfl⟩⟩
  · have hlen := cellsR_length l
    have hH : HoldsK encR 2 w g 0 l.toArray := by
      unfold HoldsK
      rw [flatK_cells]
      exact holds_of_own hb (by rw [hlen]; exact htake)
    have hcon := sort56 g 0 cap l.toArray w hH (Array.getElem?_eq_some_iff.1 hb).1 (by simpa using hsz)
    rw [show l.toArray.size = l.length from by simp] at hcon
    refine hcon.mono ?_
    rintro e w' ⟨rfl, d', n, os, hp, hs, rfl⟩
    have hds : d'.size = l.length := by simpa using hp.1
    have hperm : d'.toList.Perm l := by
      have h2 := hp.2.2
      rw [← hds] at h2
      have e1 : d'.extract 0 d'.size = d' := by simp
      have e2 : l.toArray.extract 0 d'.size = l.toArray := by rw [hds]; simp
      rw [e1, e2] at h2
      simpa using h2
    refine ⟨rfl, d'.toList, hperm, ?_, ?_, ?_⟩
    · rw [List.pairwise_iff_getElem]
      intro i j hi hj hij
      have hi' : i < d'.size := by simpa using hi
      have hj' : j < d'.size := by simpa using hj
      have h3 := hs i j (Nat.zero_le _) hij (by rw [← hds]; exact hj')
      rw [ltR, getElem!_pos d' j hj', getElem!_pos d' i hi'] at h3
      simp at h3 ⊢
      exact h3
    · have hd' : d' = d'.toList.toArray := by simp
      unfold sortWorldK putRowK
      rw [hd', flatK_cells]
      have hl2 : (cellsR d'.toList).length = l.length * 2 := by rw [cellsR_length]; simp [hds]
      refine ⟨by simp [cellsR_length], .inr ⟨g, cap, _, by simp [hds], hg, heap_sortedV _ hb, by simp [hds]; exact hn, hcap, by simp [putCells, hcs], ?_⟩⟩
      have h4 := take_putCellsV cur (cellsR d'.toList) (by rw [hl2, hcs]; omega)
      rw [show d'.toList.toArray.toList.length * 2 = (cellsR d'.toList).length from by rw [cellsR_length]]
      simpa using h4
    · exact grownBy_sortedV _
theorem sortR_calls : SortSaid := fun base v l w h hsz => sortR_calls_ base v l w h hsz
end Go.Proofs.YtjfcmiocmcdjlaaGreatDoor.G
namespace Go.Proofs.YtjfcmiocmcdjlaaGreatDoor.G
open Go.RowKit Go.Proofs.YtjfcmiocmcdjlaaGreatDoorW.PrintWords Go.Proofs.YtjfcmiocmcdjlaaGreatDoorW.PrintLast Go.Proofs.YtjfcmiocmcdjlaaGreatDoorW.PrintMore
set_option linter.unusedVariables false
def clipR (x : S32) : S32 := ⟨mx x.f0 0, mn x.f1 1114111⟩
def clipL (l : List S32) : List S32 := (l.map clipR).filter fun x => decide (x.f0 ≤ x.f1)
theorem clipL_yes (l : List S32) (k : Nat) (h : k < l.length) (hc : (clipR (rd_T32 l k)).f0 ≤ (clipR (rd_T32 l k)).f1) : clipL (l.take (k + 1)) = clipL (l.take k) ++ [clipR (rd_T32 l k)] := by
  have e : rd_T32 l k = l[k] := by show l.getD k z32 = _; rw [List.getD_eq_getElem?_getD, List.getElem?_eq_getElem h]; rfl
  rw [e] at hc ⊢
  rw [clipL, List.take_succ_eq_append_getElem h, List.map_append, List.filter_append]
  simp [clipL, hc]
theorem clipL_no (l : List S32) (k : Nat) (h : k < l.length) (hc : ¬ (clipR (rd_T32 l k)).f0 ≤ (clipR (rd_T32 l k)).f1) : clipL (l.take (k + 1)) = clipL (l.take k) := by
  have e : rd_T32 l k = l[k] := by show l.getD k z32 = _; rw [List.getD_eq_getElem?_getD, List.getElem?_eq_getElem h]; rfl
  rw [e] at hc
  rw [clipL, List.take_succ_eq_append_getElem h, List.map_append, List.filter_append]
  simp [clipL, hc]
theorem clipL_len (l : List S32) (k : Nat) : (clipL (l.take k)).length ≤ k := by
  unfold clipL
  refine Nat.le_trans (List.length_filter_le _ _) ?_
  simp
  omega
def lastR (out : List S32) : S32 := out.getD (out.length - 1) z32
def stepR (out : List S32) (r : S32) : List S32 :=
  if out.length = 0 then [r] else if r.f0 ≤ (lastR out).f1 + 1 then out.dropLast ++ [⟨(lastR out).f0, mx (lastR out).f1 r.f1⟩] else out ++ [r]
def mergeL (l : List S32) : List S32 := l.foldl stepR []
theorem mergeL_snoc (l : List S32) (k : Nat) (h : k < l.length) : mergeL (l.take (k + 1)) = stepR (mergeL (l.take k)) (l.getD k z32) := by
  rw [List.take_succ_eq_append_getElem h, mergeL, List.foldl_append, List.getD_eq_getElem?_getD, List.getElem?_eq_getElem h]; rfl
def InB (x : S32) : Prop := 0 ≤ x.f0 ∧ x.f0 ≤ x.f1 ∧ x.f1 ≤ 1114111
theorem lastR_mem {out : List S32} (h : out.length ≠ 0) : lastR out ∈ out := by
  have hl : out.length - 1 < out.length := by omega
  rw [lastR, List.getD_eq_getElem?_getD, List.getElem?_eq_getElem hl]
  exact List.getElem_mem hl
theorem stepR_in {out : List S32} {r : S32} (h : ∀ x ∈ out, InB x) (hr : InB r) : ∀ x ∈ stepR out r, InB x := by
  intro x hx
  unfold stepR at hx
  split at hx
  · rw [List.mem_singleton] at hx; rw [hx]; exact hr
  · next h0 =>
    split at hx
    · rcases List.mem_append.1 hx with hx | hx
      · exact h x (List.dropLast_subset _ hx)
      · rw [List.mem_singleton] at hx
        have := h _ (lastR_mem h0)
        obtain ⟨a1, a2, a3⟩ := this
        obtain ⟨b1, b2, b3⟩ := hr
        rw [hx]
        unfold InB mx
        simp only
        split <;> omega
    · rcases List.mem_append.1 hx with hx | hx
      · exact h x hx
      · rw [List.mem_singleton] at hx; rw [hx]; exact hr
theorem mergeL_in {l : List S32} (h : ∀ x ∈ l, InB x) : ∀ x ∈ mergeL l, InB x := by
  unfold mergeL
  have : ∀ (l out : List S32), (∀ x ∈ l, InB x) → (∀ x ∈ out, InB x) → ∀ x ∈ l.foldl stepR out, InB x := by
    intro l
    induction l with
    | nil => intro out _ h2; exact h2
    | cons r t ih => intro out h1 h2; exact ih _ (fun x hx => h1 x (List.mem_cons_of_mem _ hx)) (stepR_in h2 (h1 r List.mem_cons_self))
  exact this l [] h (fun x hx => by cases hx)
theorem clipL_in (l : List S32) : ∀ x ∈ clipL l, InB x := by
  intro x hx
  unfold clipL at hx
  rw [List.mem_filter, List.mem_map] at hx
  obtain ⟨⟨y, _, rfl⟩, h2⟩ := hx
  have h3 : (clipR y).f0 ≤ (clipR y).f1 := by simpa using h2
  revert h3
  unfold InB clipR mx mn
  simp only
  split <;> split <;> omega
theorem stepR_len (out : List S32) (r : S32) : (stepR out r).length ≤ out.length + 1 := by
  unfold stepR
  split
  · simp
  · split
    · simp; try omega
    · simp
theorem mergeL_len (l : List S32) (k : Nat) : (mergeL (l.take k)).length ≤ k := by
  have : ∀ (l out : List S32), (l.foldl stepR out).length ≤ out.length + l.length := by
    intro l
    induction l with
    | nil => intro out; simp
    | cons r t ih => intro out; have := ih (stepR out r); have := stepR_len out r; simp at *; omega
  have h := this (l.take k) []
  simp at h
  unfold mergeL
  omega
theorem own_slice {w : World} {base : Nat} {e : TypeId} {size n : Nat} {v : Value} {xs : List Value} (h : w.ownsRow base e size v n xs) : ∃ A c, v = .slice A n c ∧ (0 < n → ∃ g, A = some ⟨g, 0, none⟩) := by
  rcases h.2 with ⟨rfl, h0⟩ | ⟨g, cap, cur, rfl, _⟩
  · exact ⟨none, 0, by rw [h0], fun h => by omega⟩
  · exact ⟨_, cap, rfl, fun _ => ⟨g, rfl⟩⟩
theorem cellsR_lo (l : List S32) (k : Nat) (h : k < l.length) : (cellsR l)[k * 2]? = some (.int .i64 (l.getD k z32).f0) := by
  rw [cellsR_get, show k * 2 / 2 = k from by omega, show k * 2 % 2 = 0 from by omega, List.getD_eq_getElem?_getD, List.getElem?_eq_getElem h]; rfl
theorem cellsR_hi (l : List S32) (k : Nat) (h : k < l.length) : (cellsR l)[k * 2 + 1]? = some (.int .i64 (l.getD k z32).f1) := by
  rw [cellsR_get, show (k * 2 + 1) / 2 = k from by omega, show (k * 2 + 1) % 2 = 1 from by omega, List.getD_eq_getElem?_getD, List.getElem?_eq_getElem h]; rfl
theorem cellsR_setlast (out : List S32) (h : out.length ≠ 0) (m : Int) : (cellsR out).set ((out.length - 1) * 2 + 1) (.int .i64 m) = cellsR (out.dropLast ++ [⟨(lastR out).f0, m⟩]) := by
  have hne : out ≠ [] := fun e => h (by rw [e]; rfl)
  have e := List.dropLast_concat_getLast hne
  have el : lastR out = out.getLast hne := by
    rw [lastR, List.getD_eq_getElem?_getD, ← List.getLast?_eq_getElem?, List.getLast?_eq_some_getLast hne]; rfl
  rw [el]
  generalize out.getLast hne = y at e
  generalize hd : out.dropLast = d at e
  rw [← e, cellsR_snoc, cellsR_snoc]
  have hl : (d ++ [y]).length - 1 = d.length := by simp
  rw [hl, List.set_append_right _ _ (by rw [cellsR_length]; omega), cellsR_length]
  rw [show d.length * 2 + 1 - d.length * 2 = 1 from by omega]
  rfl
theorem stepR_append {O : List S32} {x : S32} (h : O.length = 0 ∨ ¬ x.f0 ≤ (lastR O).f1 + 1) : stepR O x = O ++ [x] := by
  unfold stepR
  split
  · next h0 => rw [List.eq_nil_of_length_eq_zero h0]; rfl
  · next h0 =>
    rcases h with h | h
    · exact absurd h h0
    · rw [if_neg h]
theorem ne_after {W : World} {base n e size : Nat} {v u v1 : Value} {xs : List Value} (h : W.ownsRow base e size v n xs) (hne : v.ownBlock = none ∨ v.ownBlock ≠ u.ownBlock) (hat : v1.ownBlock = u.ownBlock ∨ ∃ b, v1.ownBlock = some b ∧ W.heap.size ≤ b) : v.ownBlock = none ∨ v.ownBlock ≠ v1.ownBlock := by
  cases hv : v.ownBlock with
  | none => exact .inl rfl
  | some k =>
    right
    have hk := (h.lt k hv).2
    rcases hne with h1 | h1
    · rw [hv] at h1; cases h1
    · rcases hat with h2 | ⟨b, h2, h3⟩
      · rw [h2, ← hv]; exact h1
      · rw [h2]; intro e; injection e with e; omega
theorem info32' : (Tryz.prog.info? 32).map (fun i => (i.zero, i.size, i.bytes)) = some (some (.agg #[.int .i64 0, .int .i64 0]), 2, 16) := by kernel_rfl
theorem run_mx (ats : Array TypeId) (ty : TypeId) (x y : Int) (w : World) : (Builtin.max_ ats ty #[.int .i64 x, .int .i64 y]).run Tryz.prog w = .ok (.int .i64 (mx x y)) w := run_max_int2 w ats ty .i64 .i64 x y
theorem run_mn (ats : Array TypeId) (ty : TypeId) (x y : Int) (w : World) : (Builtin.min_ ats ty #[.int .i64 x, .int .i64 y]).run Tryz.prog w = .ok (.int .i64 (mn x y)) w := run_min_int2 w ats ty .i64 .i64 x y
/-- The ranges that Make leaves: out of what is cut to code points, in the order of some sort by Lo. -/
def MakePost (w : World) (l : List S32) (v : Value) (w' : World) : Prop :=
  ∃ l' : List S32, l'.Perm (clipL l) ∧ l'.Pairwise (fun a b => a.f0 ≤ b.f0) ∧ w'.ownsRow w.heap.size 32 2 v (mergeL l').length (cellsR (mergeL l')) ∧ Below w.heap.size w w'
set_option maxRecDepth 100000 in
set_option maxHeartbeats 2000000 in
theorem make59_a (A : Option Addr) (l : List S32) (c : Nat) (w : World) (hr : Kd.C k32 w A l.length l) (hc : l.length ≤ c) (hbig : l.length < 4398046511104) (hsort : SortSaid) :
    Calls Tryz.prog 48 #[.slice A l.length c] w fun e w' => ∃ v0_ : Value, e = .returned (.agg #[v0_]) ∧ MakePost w l v0_ w' := by
  have hu32 := Tryz.underlying32
  have hu24 := Tryz.underlying24
  have hmx := run_mx
  have hmn := run_mn
  go_enter Tryz.func48, Tryz.ntmps48
  go_wp2_with fail
  obtain ⟨W0, hW0⟩ : ∃ W0, W0 = w.alloc (.cells #[.slice none 0 0] 24) := ⟨_, rfl⟩
  have hr0 : Kd.C k32 W0 A l.length l := by rw [hW0]; exact Kd.C_alloc hr _
  have hBW : Below w.heap.size w W0 := by rw [hW0]; exact (Below.refl _ _).alloc (Nat.le_refl _) _
  have hres : W0.heap[w.heap.size]? = some (.cells #[.slice none 0 0] 24 (0, 0)) := by rw [hW0]; exact heap_alloc_new _ _
  have hW0s : W0.heap.size = w.heap.size + 1 := by rw [hW0]; simp
  rw [← hW0]
  clear hW0 hr
  go_loopw [3, 12] (fun v i wr => ∃ k : Nat, k ≤ l.length ∧ i = .int .i64 k ∧ wr.ownsRow W0.heap.size 32 2 v (clipL (l.take k)).length (cellsR (clipL (l.take k))) ∧ Below W0.heap.size W0 wr) (fun _ i _ => l.length - (intOf i).toNat)
  case atStart => exact ⟨0, Nat.zero_le _, rfl, World.ownsRow_nil _ _ _ _, Below.refl _ _⟩
  case round =>
    obtain ⟨k, hk, rfl, hown, hB⟩ := hrel
    by_cases hlt : k < l.length
    · obtain ⟨ad, rfl, h0, h1⟩ := at_T32 (Kd.C_below hr0 hB) k (by omega) (by omega)
      have Hy := Lib.hid (clipL_yes l k hlt)
      have Hn := Lib.hid (clipL_no l k hlt)
      have hlen := clipL_len l k
      obtain ⟨x, hx⟩ : ∃ x, x = rd_T32 l k := ⟨_, rfl⟩
      rw [← hx] at h0 h1 Hy Hn
      clear hx
      simp only [Int.toNat_natCast] at h0 h1
      obtain ⟨L, hL⟩ : ∃ L, L = clipL (l.take k) := ⟨_, rfl⟩
      rw [← hL] at hown Hy Hn hlen
      clear hL
      have hsz := hB.size
      by_cases hc : mx x.f0 0 ≤ mn x.f1 1114111
      · go_wp2_with (first
          | (at_builtin; refine print_append_cells (w0 := W0) W0.heap.size rfl _ _ 22 32 _ 2 16 rfl Tryz.underlying22 info32' rfl (by omega) (by omega) _ L.length (cellsR L) (encR (clipR x)) rfl (by first | rfl | simp [Act.eval]) rfl (by simp [encR, Value.oneCell']) (hown.alloc _) (hB.alloc hsz _) (by simp; omega) (by omega) ?_; intro v1 w1 hown1 hB1 hg1 hat1))
        go_roundw
        case rel => exact ⟨k + 1, hlt, by go_num, by rw [Hy.out hc, cellsR_snoc, List.length_append]; exact hown1, hB1⟩
        case measure => simp [intOf]; omega
      · go_wp2_with fail
        go_roundw
        case rel => exact ⟨k + 1, hlt, by go_num, by rw [Hn.out hc]; exact hown.alloc _, hB.alloc hsz _⟩
        case measure => simp [intOf]; omega
    · have hkl : k = l.length := by omega
      have hown2 := hown
      rw [hkl, List.take_length] at hown2
      clear hown
      have hlen := clipL_len l l.length
      rw [List.take_length] at hlen
      obtain ⟨C, hC⟩ : ∃ C, C = clipL l := ⟨_, rfl⟩
      have HIn : Hid (∀ x ∈ C, InB x) := Lib.hid (by rw [hC]; exact clipL_in l)
      rw [← hC] at hown2 hlen
      have HC := Lib.hid hC
      clear hC
      have hsz := hB.size
      have hbase := own_base hown2
      go_wp2_with fail
      refine (hsort W0.heap.size _ C _ hown2 (by omega)).mono ?_
      rintro e w1 ⟨rfl, l', hp, hpw, hownV, hg⟩
      have hB1 := hB.grown hg hsz (fun j hj => hbase j hj)
      have hlen' : l'.length ≤ l.length := by rw [hp.length_eq]; exact hlen
      have HIn' : Hid (∀ x ∈ l', InB x) := Lib.hid (fun x hx => HIn.out x (hp.mem_iff.1 hx))
      have HP : Hid (l'.Perm C ∧ l'.Pairwise (fun a b => a.f0 ≤ b.f0)) := Lib.hid ⟨hp, hpw⟩
      clear hp hpw hown2 hbase hg hB hsz hlen
      obtain ⟨VA, Vc, rfl, hVA⟩ := own_slice hownV
      go_wp2_with fail
      obtain ⟨W1, rfl⟩ : ∃ W1 : World, W1 = w1 := ⟨_, rfl⟩
      clear hlt hk hkl
      go_loopw [6, 38] (fun u i wr => ∃ k : Nat, k ≤ l'.length ∧ i = .int .i64 k ∧ wr.ownsRow W0.heap.size 32 2 u (mergeL (l'.take k)).length (cellsR (mergeL (l'.take k))) ∧ wr.ownsRow W0.heap.size 32 2 (.slice VA l'.length Vc) l'.length (cellsR l') ∧
          ((Value.slice VA l'.length Vc).ownBlock = none ∨ (Value.slice VA l'.length Vc).ownBlock ≠ u.ownBlock) ∧ Below W0.heap.size W0 wr) (fun _ i _ => l'.length - (intOf i).toNat)
      case atStart => exact ⟨0, Nat.zero_le _, rfl, World.ownsRow_nil _ _ _ _, hownV, by cases h : (Value.slice VA l'.length Vc).ownBlock <;> simp [Value.ownBlock], hB1⟩
      case round =>
        clear hownV hB1
        obtain ⟨k, hk, rfl, hown, hownV, hne, hB⟩ := hrel
        by_cases hlt : k < l'.length
        · obtain ⟨g, rfl⟩ := hVA (by omega)
          have h0 := hownV.cellAt (k * 2) (by omega)
          rw [cellsR_lo l' k hlt] at h0
          have h1 := hownV.cellAt (k * 2 + 1) (by omega)
          rw [cellsR_hi l' k hlt] at h1
          have Hstep := Lib.hid (mergeL_snoc l' k hlt)
          have HInO : Hid (∀ x ∈ mergeL (l'.take k), InB x) := Lib.hid (mergeL_in (fun x hx => HIn'.out x (List.take_subset _ _ hx)))
          have hlen2 := mergeL_len l' k
          obtain ⟨x, hx⟩ : ∃ x, x = l'.getD k z32 := ⟨_, rfl⟩
          have HxI : Hid (InB x) := Lib.hid (by
            rw [hx, List.getD_eq_getElem?_getD, List.getElem?_eq_getElem hlt]
            exact HIn'.out _ (List.getElem_mem hlt))
          rw [← hx] at h0 h1 Hstep
          clear hx
          obtain ⟨O, hO⟩ : ∃ O, O = mergeL (l'.take k) := ⟨_, rfl⟩
          rw [← hO] at hown Hstep HInO hlen2
          clear hO
          have hsz := hB.size
          obtain ⟨uA, uc, rfl, huA⟩ := own_slice hown
          by_cases hz : O.length = 0
          · have hd0 : decide (0 < O.length) = false := by simp [hz]
            have hd1 : decide ((0 : Int) < (O.length : Int)) = false := by simp [hz]
            have Hz := Lib.hid hz
            go_wp2_with fail
            obtain ⟨W3, hW3⟩ : ∃ W3, W3 = wr.alloc (.cells #[.int .i64 x.f0, .int .i64 x.f1] 32) := ⟨_, rfl⟩
            have hown3 : W3.ownsRow W0.heap.size 32 2 (.slice uA O.length uc) O.length (cellsR O) := by rw [hW3]; exact hown.alloc _
            have hownV3 : W3.ownsRow W0.heap.size 32 2 (.slice (some ⟨g, 0, none⟩) l'.length Vc) l'.length (cellsR l') := by rw [hW3]; exact hownV.alloc _
            have hB3 : Below W0.heap.size W0 W3 := by rw [hW3]; exact hB.alloc hsz _
            have c0 : W3.cell? ⟨wr.heap.size, 0, none⟩ = some (.int .i64 x.f0) := by rw [hW3]; go_simp
            have c1 : W3.cell? ⟨wr.heap.size, 1, none⟩ = some (.int .i64 x.f1) := by rw [hW3]; go_simp
            rw [← hW3]
            clear hW3 hown hownV hB h0 h1 hsz
            go_quiet (fail)
            obtain ⟨W4, hW4⟩ : ∃ W4, W4 = W3.drewN nq := ⟨_, rfl⟩
            have hown4 : W4.ownsRow W0.heap.size 32 2 (.slice uA O.length uc) O.length (cellsR O) := by rw [hW4]; exact hown3
            have hownV4 : W4.ownsRow W0.heap.size 32 2 (.slice (some ⟨g, 0, none⟩) l'.length Vc) l'.length (cellsR l') := by rw [hW4]; exact hownV3
            have hB4 : Below W0.heap.size W0 W4 := by rw [hW4]; exact pw_below_drewN hB3 _
            have d0 : W4.cell? ⟨wr.heap.size, 0, none⟩ = some (.int .i64 x.f0) := by rw [hW4]; exact c0
            have d1 : W4.cell? ⟨wr.heap.size, 1, none⟩ = some (.int .i64 x.f1) := by rw [hW4]; exact c1
            rw [← hW4]
            clear hW4 hown3 hownV3 hB3 c0 c1
            have hsz := hB4.size
            go_wp2_with (first
              | (at_builtin; go_must (refine print_append_cells (w0 := W0) W0.heap.size rfl _ _ 22 32 _ 2 16 rfl Tryz.underlying22 info32' rfl (by omega) (by omega) (.slice uA O.length uc) O.length (cellsR O) (encR x) rfl rfl rfl (by simp [encR, Value.oneCell']) hown4 hB4 hsz (by omega) ?_); intro v1 w2 hown1 hB1 hg1 hat1))
            go_roundw
            case rel => exact ⟨k + 1, hlt, by go_num, by rw [Hstep.out, stepR_append (.inl Hz.out), cellsR_snoc, List.length_append]; exact hown1, hownV4.kept hg1 hne, ne_after hownV4 hne hat1, hB1⟩
            case measure => simp [intOf]; omega
          · obtain ⟨g', rfl⟩ := huA (by omega)
            obtain ⟨y, hy⟩ : ∃ y, y = O.getD (O.length - 1) z32 := ⟨_, rfl⟩
            have HY : Hid (lastR O = y) := Lib.hid hy.symm
            have hyI : InB y := by rw [hy]; exact HInO.out _ (lastR_mem hz)
            obtain ⟨hy1, hy2, hy3⟩ := hyI
            have hO1 : 0 < O.length := by omega
            have hO2 : decide ((0 : Int) < (O.length : Int)) = true := by simpa using hO1
            have hw1 : IntKind.i64.wrap ((O.length : Int) - 1) = (O.length : Int) - 1 := IntWalk.i64_in _ (by omega)
            have hw2 : IntKind.i64.wrap (y.f1 + 1) = y.f1 + 1 := IntWalk.i64_in _ (by omega)
            have hw3 : ((O.length : Int) - 1).toNat = O.length - 1 := by omega
            have hw4 : 0 ≤ (O.length : Int) - 1 := by omega
            have hw5 : 1 ≤ (O.length : Int) := by omega
            have hw6 : (O.length : Int) - 1 < (O.length : Int) := by omega
            have Hz := Lib.hid hz
            clear hz
            go_wp2_with fail
            obtain ⟨W3, hW3⟩ : ∃ W3, W3 = wr.alloc (.cells #[.int .i64 x.f0, .int .i64 x.f1] 32) := ⟨_, rfl⟩
            have hown3 : W3.ownsRow W0.heap.size 32 2 (.slice (some ⟨g', 0, none⟩) O.length uc) O.length (cellsR O) := by rw [hW3]; exact hown.alloc _
            have hownV3 : W3.ownsRow W0.heap.size 32 2 (.slice (some ⟨g, 0, none⟩) l'.length Vc) l'.length (cellsR l') := by rw [hW3]; exact hownV.alloc _
            have hB3 : Below W0.heap.size W0 W3 := by rw [hW3]; exact hB.alloc hsz _
            have c0 : W3.cell? ⟨wr.heap.size, 0, none⟩ = some (.int .i64 x.f0) := by rw [hW3]; go_simp
            have c1 : W3.cell? ⟨wr.heap.size, 1, none⟩ = some (.int .i64 x.f1) := by rw [hW3]; go_simp
            have e0 := hown3.cellAt ((O.length - 1) * 2) (by omega)
            rw [cellsR_lo O _ (by omega)] at e0
            have e1 := hown3.cellAt ((O.length - 1) * 2 + 1) (by omega)
            rw [cellsR_hi O _ (by omega)] at e1
            rw [← hy] at e0 e1
            rw [← hW3]
            clear hW3 hown hownV hB h0 h1 hsz
            clear hy
            by_cases hle : x.f0 ≤ y.f1 + 1
            · go_quiet (fail)
              obtain ⟨W4, hW4⟩ : ∃ W4, W4 = W3.drewN nq := ⟨_, rfl⟩
              have hown4 : W4.ownsRow W0.heap.size 32 2 (.slice (some ⟨g', 0, none⟩) O.length uc) O.length (cellsR O) := by rw [hW4]; exact hown3
              have hownV4 : W4.ownsRow W0.heap.size 32 2 (.slice (some ⟨g, 0, none⟩) l'.length Vc) l'.length (cellsR l') := by rw [hW4]; exact hownV3
              have hB4 : Below W0.heap.size W0 W4 := by rw [hW4]; exact pw_below_drewN hB3 _
              have d0 : W4.cell? ⟨wr.heap.size, 0, none⟩ = some (.int .i64 x.f0) := by rw [hW4]; exact c0
              have d1 : W4.cell? ⟨wr.heap.size, 1, none⟩ = some (.int .i64 x.f1) := by rw [hW4]; exact c1
              have f1 : W4.cell? ⟨g', (O.length - 1) * 2 + 1, none⟩ = some (.int .i64 y.f1) := by rw [hW4]; exact e1
              rw [← hW4]
              clear hW4 hown3 hownV3 hB3 c0 c1 e0 e1
              have hsz := hB4.size
              have Hle := Lib.hid hle
              clear hle
              have fz := hown4.frozenAt ((O.length - 1) * 2 + 1)
              go_wp2_with fail
              refine wp_region_still_tail 14 (by kernel_rfl) (by kernel_rfl) ?_
              simp only [List.take_succ_cons, List.take_zero, List.drop_succ_cons, List.drop_zero]
              change wpStill _ _ W4.drew (fun a' => wpList _ _ _ _ a' W4.drew) _ _
              repeat still_step
              refine wpStill_nil ?_
              clear hw1 hw2 hw3
              obtain ⟨W5, hW5⟩ : ∃ W5, W5 = W4.drew := ⟨_, rfl⟩
              have hown5 : W5.ownsRow W0.heap.size 32 2 (.slice (some ⟨g', 0, none⟩) O.length uc) O.length (cellsR O) := by rw [hW5]; exact own_drew hown4
              have hownV5 : W5.ownsRow W0.heap.size 32 2 (.slice (some ⟨g, 0, none⟩) l'.length Vc) l'.length (cellsR l') := by rw [hW5]; exact own_drew hownV4
              have hB5 : Below W0.heap.size W0 W5 := by rw [hW5]; exact hB4.drew
              have f5 : W5.cell? ⟨g', (O.length - 1) * 2 + 1, none⟩ = some (.int .i64 y.f1) := by rw [hW5]; exact f1
              have fz5 : W5.frozen? ⟨g', (O.length - 1) * 2 + 1, none⟩ = false := by rw [hW5]; exact fz
              rw [← hW5]
              clear hW5 hown4 hownV4 hB4 f1 fz d0 d1 hsz
              have hset := hown5.stored ((O.length - 1) * 2 + 1) (.int .i64 (mx y.f1 x.f1))
              rw [cellsR_setlast O Hz.out, HY.out] at hset
              have hset1 := hset.1
              have hset2 := hset.2
              have hlenO : O.length = (O.dropLast ++ [(⟨y.f0, mx y.f1 x.f1⟩ : S32)]).length := by simp; omega
              rw [show ∀ c, (W5.setCell ⟨g', (O.length - 1) * 2 + 1, none⟩ (.int .i64 (mx y.f1 x.f1))).ownsRow W0.heap.size 32 2 (.slice (some ⟨g', 0, none⟩) O.length uc) O.length c = (W5.setCell ⟨g', (O.length - 1) * 2 + 1, none⟩ (.int .i64 (mx y.f1 x.f1))).ownsRow W0.heap.size 32 2 (.slice (some ⟨g', 0, none⟩) O.length uc) (O.dropLast ++ [(⟨y.f0, mx y.f1 x.f1⟩ : S32)]).length c from fun c => by rw [← hlenO]] at hset1
              have HL := Lib.hid hlenO
              have HS1 := Lib.hid hset1
              have HS2 := Lib.hid hset2
              clear hset hset1 hset2 hlenO
              go_wp2_with fail
              have hVne : (Value.slice (some ⟨g, 0, none⟩) l'.length Vc).ownBlock = none ∨ (Value.slice (some ⟨g, 0, none⟩) l'.length Vc).ownBlock ≠ some g' := hne
              go_roundw
              case rel => exact ⟨k + 1, hlt, by go_num, by rw [Hstep.out, stepR, if_neg Hz.out, HY.out, if_pos Hle.out]; exact HS1.out, hownV5.kept HS2.out hVne, hne, hB5.grown HS2.out hB5.size (fun j hj => (hown5.lt j hj).1)⟩
              case measure => simp [intOf]; omega
            · go_quiet (fail)
              obtain ⟨W4, hW4⟩ : ∃ W4, W4 = W3.drewN nq := ⟨_, rfl⟩
              have hown4 : W4.ownsRow W0.heap.size 32 2 (.slice (some ⟨g', 0, none⟩) O.length uc) O.length (cellsR O) := by rw [hW4]; exact hown3
              have hownV4 : W4.ownsRow W0.heap.size 32 2 (.slice (some ⟨g, 0, none⟩) l'.length Vc) l'.length (cellsR l') := by rw [hW4]; exact hownV3
              have hB4 : Below W0.heap.size W0 W4 := by rw [hW4]; exact pw_below_drewN hB3 _
              have d0 : W4.cell? ⟨wr.heap.size, 0, none⟩ = some (.int .i64 x.f0) := by rw [hW4]; exact c0
              have d1 : W4.cell? ⟨wr.heap.size, 1, none⟩ = some (.int .i64 x.f1) := by rw [hW4]; exact c1
              have f1 : W4.cell? ⟨g', (O.length - 1) * 2 + 1, none⟩ = some (.int .i64 y.f1) := by rw [hW4]; exact e1
              rw [← hW4]
              clear hW4 hown3 hownV3 hB3 c0 c1 e0 e1
              have hsz := hB4.size
              have Hle := Lib.hid hle
              clear hle hw1 hw2 hw3 f1
              go_wp2_with (first
                | (at_builtin; go_must (refine print_append_cells (w0 := W0) W0.heap.size rfl _ _ 22 32 _ 2 16 rfl Tryz.underlying22 info32' rfl (by omega) (by omega) (.slice (some ⟨g', 0, none⟩) O.length uc) O.length (cellsR O) (encR x) rfl rfl rfl (by simp [encR, Value.oneCell']) hown4 hB4 hsz (by omega) ?_); intro v1 w2 hown1 hB1 hg1 hat1))
              go_roundw
              case rel => exact ⟨k + 1, hlt, by go_num, by rw [Hstep.out, stepR_append (.inr (by rw [HY.out]; exact Hle.out)), cellsR_snoc, List.length_append]; exact hown1, hownV4.kept hg1 hne, ne_after hownV4 hne hat1, hB1⟩
              case measure => simp [intOf]; omega
        · have hkl : k = l'.length := by omega
          have hown2 := hown
          rw [hkl, List.take_length] at hown2
          have HO : Hid (wr.ownsRow W0.heap.size 32 2 _ (mergeL l').length (cellsR (mergeL l'))) := Lib.hid hown2
          have hsz := hB.size
          obtain ⟨UA, Uc, rfl, _⟩ := own_slice hown
          have HM : Hid ((mergeL (l'.take k)).length = (mergeL l').length) := Lib.hid (by rw [hkl, List.take_length])
          clear hown hownV hne hown2 hkl
          have hrb := (hB.block w.heap.size (by omega)).trans hres
          have hrc : wr.cell? ⟨w.heap.size, 0, none⟩ = some (.slice none 0 0) := blk_cell hrb 0
          have hrf : wr.frozen? ⟨w.heap.size, 0, none⟩ = false := blk_frozen hrb 0
          go_wp2_with fail
          have hown := HO.out
          have hne2 : some w.heap.size ≠ (Value.slice UA (mergeL (l'.take k)).length Uc).ownBlock := fun e => by have := (hown.lt _ e.symm).1; omega
          have hown3 := own_weaken (own_setCell (p := ⟨w.heap.size, 0, none⟩) hown hne2 (.slice UA (mergeL (l'.take k)).length Uc)) (show w.heap.size ≤ W0.heap.size by omega)
          have hBf : Below w.heap.size w (wr.setCell ⟨w.heap.size, 0, none⟩ (.slice UA (mergeL (l'.take k)).length Uc)) := (hBW.trans (hB.mono (by omega))).setCell (Nat.le_refl _) _
          have hcell : (wr.setCell ⟨w.heap.size, 0, none⟩ (.slice UA (mergeL (l'.take k)).length Uc)).cell? ⟨w.heap.size, 0, none⟩ = some (.slice UA (mergeL (l'.take k)).length Uc) := blk_cell (blk_set hrb 0 _) 0
          exact bodyPost_ret (v := .agg #[.slice UA (mergeL (l'.take k)).length Uc]) (by simp [results, Tryz.results48, go_sem, hcell]) rfl ⟨_, rfl, l', by have h := HP.out.1; rw [HC.out] at h; exact h, HP.out.2, hown3, hBf⟩
end Go.Proofs.YtjfcmiocmcdjlaaGreatDoor.G
namespace Go.Proofs.YtjfcmiocmcdjlaaGreatDoor.G
open Go.RowKit Go.Proofs.YtjfcmiocmcdjlaaGreatDoorW.PrintWords Go.Proofs.YtjfcmiocmcdjlaaGreatDoorW.PrintLast Go.Proofs.YtjfcmiocmcdjlaaGreatDoorW.PrintMore
set_option linter.unusedVariables false
def toP (x : S32) : Int × Int := (x.f0, x.f1)
theorem toP_inj {a b : List S32} (h : a.map toP = b.map toP) : a = b := by
  refine (List.map_inj_right (f := toP) ?_).1 h
  rintro ⟨a0, a1⟩ ⟨b0, b1⟩ h
  simp only [toP, Prod.mk.injEq] at h
  rw [h.1, h.2]
theorem lastR_snoc (d : List S32) (c : S32) : lastR (d ++ [c]) = c := by
  rw [lastR, List.getD_eq_getElem?_getD]; simp
theorem mx_max (a b : Int) : mx a b = max a b := by unfold mx; split <;> omega
theorem fold_mg (t : List S32) : ∀ (d : List S32) (c : S32), ((t.foldl stepR (d ++ [c])).map toP) = d.map toP ++ UcSets.mg (toP c) (t.map toP) := by
  induction t with
  | nil => intro d c; simp [UcSets.mg]
  | cons r t ih =>
    intro d c
    rw [List.foldl_cons, List.map_cons, UcSets.mg]
    have hl : (d ++ [c]).length ≠ 0 := by simp
    have hst : stepR (d ++ [c]) r = if r.f0 ≤ c.f1 + 1 then (d ++ [c]).dropLast ++ [⟨c.f0, mx c.f1 r.f1⟩] else d ++ [c] ++ [r] := by
      rw [stepR, if_neg hl, lastR_snoc]
    rw [hst]
    by_cases h : r.f0 ≤ c.f1 + 1
    · rw [if_pos h, if_pos (show (toP r).1 ≤ (toP c).2 + 1 from h), List.dropLast_concat, ih]
      simp [toP, mx_max]
    · rw [if_neg h, if_neg (show ¬ (toP r).1 ≤ (toP c).2 + 1 from h), ih]
      simp
theorem mergeL_eq (l : List S32) : (mergeL l).map toP = UcSets.merge (l.map toP) := by
  cases l with
  | nil => rfl
  | cons r t =>
    have h := fold_mg t [] r
    simpa [mergeL, UcSets.merge, stepR] using h
theorem asc_of {l : List S32} (h : l.Pairwise (fun a b => a.f0 ≤ b.f0)) (hi : ∀ x ∈ l, InB x) : UcSets.Asc (l.map toP) := by
  induction l with
  | nil => trivial
  | cons r t ih =>
    rw [List.pairwise_cons] at h
    refine ⟨(hi r List.mem_cons_self).2.1, fun q hq => ?_, ih h.2 (fun x hx => hi x (List.mem_cons_of_mem _ hx))⟩
    obtain ⟨y, hy, rfl⟩ := List.mem_map.1 hq
    exact h.1 y hy
theorem mem_perm {a b : List S32} (h : a.Perm b) (c : Int) : UcSets.mem (a.map toP) c ↔ UcSets.mem (b.map toP) c := by
  unfold UcSets.mem
  constructor
  · rintro ⟨r, hr, hc⟩; exact ⟨r, (h.map toP).mem_iff.1 hr, hc⟩
  · rintro ⟨r, hr, hc⟩; exact ⟨r, (h.map toP).mem_iff.2 hr, hc⟩
theorem canon_mergeL {l : List S32} (h : l.Pairwise (fun a b => a.f0 ≤ b.f0)) (hi : ∀ x ∈ l, InB x) : UcSets.canonFrom 0 ((mergeL l).map toP) := by
  rw [mergeL_eq]
  refine UcSets.merge_canon (asc_of h hi) ?_ ?_
  · intro q hq; obtain ⟨y, hy, rfl⟩ := List.mem_map.1 hq; exact (hi y hy).1
  · intro q hq; obtain ⟨y, hy, rfl⟩ := List.mem_map.1 hq; exact (hi y hy).2.2
theorem mem_mergeL {l : List S32} (h : l.Pairwise (fun a b => a.f0 ≤ b.f0)) (hi : ∀ x ∈ l, InB x) (c : Int) : UcSets.mem ((mergeL l).map toP) c ↔ UcSets.mem (l.map toP) c := by
  rw [mergeL_eq]; exact UcSets.merge_mem (asc_of h hi) c
/-- What cpset.Make makes of ranges. -/
def makeL (l : List S32) : List S32 := mergeL ((clipL l).mergeSort fun a b => decide (a.f0 ≤ b.f0))
theorem sort_pairwise (l : List S32) : (l.mergeSort fun a b => decide (a.f0 ≤ b.f0)).Pairwise (fun a b => a.f0 ≤ b.f0) := by
  have h := List.pairwise_mergeSort (le := fun a b : S32 => decide (a.f0 ≤ b.f0)) (fun a b c h1 h2 => by simp at *; omega) (fun a b => by simp; omega) l
  exact h.imp (fun h => by simpa using h)
theorem makeL_unique {l l' : List S32} (hp : l'.Perm (clipL l)) (h : l'.Pairwise (fun a b => a.f0 ≤ b.f0)) : mergeL l' = makeL l := by
  have hi' : ∀ x ∈ l', InB x := fun x hx => clipL_in l x (hp.mem_iff.1 hx)
  have hp2 := List.mergeSort_perm (clipL l) (fun a b => decide (a.f0 ≤ b.f0))
  have hi2 : ∀ x ∈ (clipL l).mergeSort (fun a b => decide (a.f0 ≤ b.f0)), InB x := fun x hx => clipL_in l x (hp2.mem_iff.1 hx)
  apply toP_inj
  refine UcSets.canon_ext (canon_mergeL h hi') (canon_mergeL (sort_pairwise _) hi2) (fun c => ?_)
  rw [mem_mergeL h hi', makeL, mem_mergeL (sort_pairwise _) hi2, mem_perm hp, mem_perm hp2]
theorem makeL_canon (l : List S32) : UcSets.canonFrom 0 ((makeL l).map toP) := by
  have hp2 := List.mergeSort_perm (clipL l) (fun a b => decide (a.f0 ≤ b.f0))
  exact canon_mergeL (sort_pairwise _) (fun x hx => clipL_in l x (hp2.mem_iff.1 hx))
theorem makeL_mem (l : List S32) (c : Int) : UcSets.mem ((makeL l).map toP) c ↔ 0 ≤ c ∧ c ≤ 1114111 ∧ UcSets.mem (l.map toP) c := by
  have hp2 := List.mergeSort_perm (clipL l) (fun a b => decide (a.f0 ≤ b.f0))
  rw [makeL, mem_mergeL (sort_pairwise _) (fun x hx => clipL_in l x (hp2.mem_iff.1 hx)), mem_perm hp2]
  unfold UcSets.mem clipL
  constructor
  · rintro ⟨r, hr, h1, h2⟩
    obtain ⟨y, hy, rfl⟩ := List.mem_map.1 hr
    obtain ⟨z, hz, rfl⟩ := List.mem_map.1 (List.mem_filter.1 hy).1
    simp only [toP, clipR, mx, mn] at h1 h2
    refine ⟨by split at h1 <;> omega, by split at h2 <;> omega, toP z, List.mem_map_of_mem hz, ?_, ?_⟩
    · simp only [toP]; split at h1 <;> omega
    · simp only [toP]; split at h2 <;> omega
  · rintro ⟨h0, hM, r, hr, h1, h2⟩
    obtain ⟨z, hz, rfl⟩ := List.mem_map.1 hr
    simp only [toP] at h1 h2
    refine ⟨toP (clipR z), List.mem_map_of_mem (List.mem_filter.2 ⟨List.mem_map_of_mem hz, ?_⟩), ?_, ?_⟩
    · refine decide_eq_true ?_
      show (clipR z).f0 ≤ (clipR z).f1
      simp only [clipR, mx, mn]; split <;> split <;> omega
    · simp only [toP, clipR, mx]; split <;> omega
    · simp only [toP, clipR, mn]; split <;> omega
theorem R32_of_own {w : World} {base : Nat} {v : Value} {l : List S32} (h : w.ownsRow base 32 2 v l.length (cellsR l)) : Kd.R k32 32 w base (fun _ => True) v l := by
  refine ⟨fun _ _ => trivial, cellsR l, h, cellsR_length l, fun j p hj => ?_⟩
  have hlt := (List.getElem?_eq_some_iff.1 hj).1
  have e : ((cellsR l).drop (j * 2)).take 2 = encR p := by
    apply List.ext_getElem?
    intro i
    by_cases hi : i < 2
    · rw [List.getElem?_take_of_lt hi, List.getElem?_drop, cellsR_get, show (j * 2 + i) / 2 = j from by omega, show (j * 2 + i) % 2 = i from by omega, hj]; rfl
    · rw [List.getElem?_take_eq_none (by omega), List.getElem?_eq_none (by simp [encR]; omega)]
  show k32.M w base _ p (((cellsR l).drop (j * 2)).take 2)
  rw [e]
  exact k32_mkM w base _ p
end Go.Proofs.YtjfcmiocmcdjlaaGreatDoor.G
