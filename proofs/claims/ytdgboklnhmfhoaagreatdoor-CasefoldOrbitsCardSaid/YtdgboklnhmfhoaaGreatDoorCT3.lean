/- mapping.Check: codes, isName, check walked. -/
import Derived.Test.YtdgboklnhmfhoaaGreatDoorCHu
import Derived.Laws.RangeAny
import Derived.Test.YtdgboklnhmfhoaaGreatDoorCMap
namespace Go.Proofs.YtdgboklnhmfhoaaGreatDoor.G
open Go.RowKit Go.Proofs.YtdgboklnhmfhoaaGreatDoorW.PrintWords Go.Proofs.YtdgboklnhmfhoaaGreatDoorW.PrintLast Go.Proofs.YtdgboklnhmfhoaaGreatDoorW.PrintMore
set_option linter.unusedVariables false
def badCode (c : Int) : Bool := !(decide (0 ≤ c) && decide (c ≤ 1114111))
set_option maxHeartbeats 400000 in
theorem codes1_calls (c : Int) (w : World) : Calls Tryz.prog 93 #[.int .i64 c] w fun e w' => e = .returned (.bool (badCode c)) ∧ w' = w := by
  by_cases h0 : 0 ≤ c
  · by_cases h1 : c ≤ 1114111
    · go_enter Tryz.func93, Tryz.ntmps93
      go_wp2
      go_ret
      exact ⟨by simp [badCode, h0, h1], rfl⟩
    · go_enter Tryz.func93, Tryz.ntmps93
      go_wp2
      go_ret
      exact ⟨by simp [badCode, h0, h1], rfl⟩
  · go_enter Tryz.func93, Tryz.ntmps93
    go_wp2
    go_ret
    exact ⟨by simp [badCode, h0], rfl⟩
set_option maxHeartbeats 400000 in
theorem idx111_calls (A : Option Addr) (l : List Int) (c : Nat) (w : World) (hr : Kd.C (Kd.int .i64) w A l.length l) (hc : l.length ≤ c) :
    Calls Tryz.prog 111 #[.slice A l.length c, .func (.func 93) #[] #[]] w fun e w' => ∃ r : Int, e = .returned (.int .i64 r) ∧ decide (0 ≤ r) = l.any badCode ∧ w' = w := by
  have hm := hr.2.1
  go_enter Tryz.func111, Tryz.ntmps111
  go_wp2
  go_loop [8] (fun i => ∃ k : Nat, k ≤ l.length ∧ (l.take k).any badCode = false ∧ i = .int .i64 k) (fun i => l.length - (intOf i).toNat)
  case atStart => exact ⟨0, Nat.zero_le _, rfl, rfl⟩
  case round =>
    obtain ⟨k, hk, hno, rfl⟩ := hrel
    have Hno := Lib.hid hno
    clear hno
    by_cases hlt : k < l.length
    · obtain ⟨ad, rfl, hce⟩ := C_int_cell hr hlt
      clear hr
      obtain ⟨x, hx⟩ : ∃ x, x = l.getD k 0 := ⟨_, rfl⟩
      rw [← hx] at hce
      have Hx := Lib.hid hx
      clear hx
      go_wp2_with (first | (go_at_call 93; refine (codes1_calls _ _).mono ?_; rintro e w' ⟨rfl, rfl⟩))
      · have hb : badCode x = true := by assumption
        go_ret
        exact ⟨k, rfl, by rw [any_of_take badCode l 0 k hlt (Hx.out ▸ hb)]; simp, rfl⟩
      · have hb : badCode x = false := by assumption
        go_round
        case rel => exact ⟨k + 1, hlt, by rw [any_take_succ badCode l 0 k hlt, Hno.out, ← Hx.out, hb]; rfl, by go_num⟩
        case measure => simp [intOf]; omega
    · go_wp2
      go_ret
      have hkl : k = l.length := by omega
      exact ⟨-1, rfl, by rw [← List.take_length (l := l), ← hkl, Hno.out]; rfl, rfl⟩
set_option maxHeartbeats 400000 in
theorem has92_calls (A : Option Addr) (l : List Int) (c : Nat) (w : World) (hr : Kd.C (Kd.int .i64) w A l.length l) (hc : l.length ≤ c) :
    Calls Tryz.prog 92 #[.slice A l.length c, .func (.func 93) #[] #[]] w fun e w' => e = .returned (.bool (l.any badCode)) ∧ w' = w := by
  go_enter Tryz.func92, Tryz.ntmps92
  go_wp2_with (first | (go_at_call 111; refine (idx111_calls _ l _ _ hr hc).mono ?_; rintro e w' ⟨r, rfl, hd, rfl⟩))
  go_ret
  exact ⟨by rw [← hd]; rfl, rfl⟩
def okCodes (l : List Int) : Bool := !l.any badCode
set_option maxHeartbeats 400000 in
theorem codes72_calls (A : Option Addr) (l : List Int) (n c : Nat) (w : World) (hn : l.length = n) (hr : Kd.C (Kd.int .i64) w A l.length l) (hc : l.length ≤ c) :
    Calls Tryz.prog 72 #[.slice A n c] w fun e w' => e = .returned (.bool (okCodes l)) ∧ w' = w := by
  subst hn
  go_enter Tryz.func72, Tryz.ntmps72
  go_wp2_with (first | (go_at_call 92; refine (has92_calls _ l _ _ hr hc).mono ?_; rintro e w' ⟨rfl, rfl⟩))
  go_ret
  exact ⟨rfl, rfl⟩
end Go.Proofs.YtdgboklnhmfhoaaGreatDoor.G
namespace Go.Proofs.YtdgboklnhmfhoaaGreatDoor.G
open Go.RowKit Go.Proofs.YtdgboklnhmfhoaaGreatDoorW.PrintWords Go.Proofs.YtdgboklnhmfhoaaGreatDoorW.PrintLast Go.Proofs.YtdgboklnhmfhoaaGreatDoorW.PrintMore
set_option linter.unusedVariables false
def goodRune (c : Int) : Bool := decide (65 ≤ c ∧ c ≤ 90 ∨ 97 ≤ c ∧ c ≤ 122 ∨ 48 ≤ c ∧ c ≤ 57 ∨ c = 95)
set_option maxHeartbeats 400000 in
theorem name1_calls (c : Int) (w : World) (b : Bool) (hb : (!goodRune c) = b) : Calls Tryz.prog 96 #[.int .i32 c] w fun e w' => e = .returned (.bool b) ∧ w' = w := by
  have Hb := Lib.hid hb
  clear hb
  have h : c < 48 ∨ (48 ≤ c ∧ c ≤ 57) ∨ (57 < c ∧ c < 65) ∨ (65 ≤ c ∧ c ≤ 90) ∨ (90 < c ∧ c < 95) ∨ c = 95 ∨ c = 96 ∨ (97 ≤ c ∧ c ≤ 122) ∨ 122 < c := by omega
  rcases h with h | ⟨h1, h2⟩ | ⟨h1, h2⟩ | ⟨h1, h2⟩ | ⟨h1, h2⟩ | rfl | rfl | ⟨h1, h2⟩ | h
  all_goals
    go_enter Tryz.func96, Tryz.ntmps96
    go_wp2
    go_ret
    exact ⟨ret_bool (by rw [← Hb.out]; first | (simp [goodRune]; done) | (rw [Bool.eq_iff_iff]; simp [goodRune]; omega)), rfl⟩
def badByte (b : UInt8) : Bool := !goodRune (b.toNat : Int)
def anyBad (s : ByteArray) : Bool := s.data.toList.any badByte
set_option maxHeartbeats 800000 in
theorem idx136_calls (s : ByteArray) (w : World) (hs : s.size ≤ 9223372036854775807) :
    Calls Tryz.prog 136 #[.string s, .func (.func 96) #[] #[], .bool true] w fun e w' => ∃ r : Int, e = .returned (.int .i64 r) ∧ decide (0 ≤ r) = anyBad s ∧ Below w.heap.size w w' := by
  go_enter Tryz.func136, Tryz.ntmps136
  go_wp2
  go_loopw [8] (fun _ wr => ∃ k : Nat, k ≤ s.size ∧ (s.data.toList.take k).any badByte = false ∧ wr = w.iter s k) (fun _ wr => s.size - wr.iterPos w.heap.size)
  case atStart => exact ⟨0, Nat.zero_le _, rfl, rfl⟩
  case round =>
    obtain ⟨k, hk, hno, rfl⟩ := hrel
    have Hno := Lib.hid hno
    clear hno
    by_cases hlt : k < s.size
    · have hnx := fun ty => run_next_any (P := Tryz.prog) w s k ty hlt
      have hld : k < s.data.toList.length := by simpa using hlt
      by_cases hb : badByte (s[k]'hlt) = true
      · obtain ⟨c, hc⟩ : ∃ c, c = (Utf8.decode s k).1 := ⟨_, rfl⟩
        have hbad : (!goodRune (c : Int)) = true := by
          rw [hc]
          by_cases h128 : (s[k]'hlt).toNat < 128
          · rw [decode_ascii s k hlt h128]; exact hb
          · have := (decode_high s k hlt (by omega)).1
            simp [goodRune]; omega
        have Hbad := Lib.hid hbad
        rw [← hc] at hnx
        clear hbad hc
        go_wp2_with (first | (go_at_call 96; refine (name1_calls _ _ true Hbad.out).mono ?_; rintro e w' ⟨rfl, rfl⟩))
        go_ret
        exact ⟨k, rfl, by unfold anyBad; rw [any_of_take badByte s.data.toList 0 k hld (by rw [bytes_getD s k hlt]; exact hb)]; simp, (Below.refl _ _).alloc (Nat.le_refl _) _⟩
      · have hb' : badByte (s[k]'hlt) = false := by simpa using hb
        have h128 : (s[k]'hlt).toNat < 128 := by
          rcases Nat.lt_or_ge (s[k]'hlt).toNat 128 with h | h
          · exact h
          · exfalso
            revert hb'
            simp [badByte, goodRune]
            omega
        rw [decode_ascii s k hlt h128] at hnx
        have hgood : (!goodRune (((s[k]'hlt).toNat : Nat) : Int)) = false := hb'
        obtain ⟨c, hc⟩ : ∃ c, c = (s[k]'hlt).toNat := ⟨_, rfl⟩
        rw [← hc] at hgood hnx
        have Hgood := Lib.hid hgood
        clear hgood hc h128 hb
        have Hb := Lib.hid hb'
        clear hb'
        go_wp2_with (first | (go_at_call 96; refine (name1_calls _ _ false Hgood.out).mono ?_; rintro e w' ⟨rfl, rfl⟩))
        go_roundw
        case rel => exact ⟨k + 1, hlt, by rw [any_take_succ badByte s.data.toList 0 k hld, Hno.out, bytes_getD s k hlt, Hb.out]; rfl, rfl⟩
        case measure => simp; omega
    · have hnx := fun ty => run_next_end (P := Tryz.prog) w s k ty hlt
      go_wp2
      go_ret
      have hkl : k = s.data.toList.length := by simp; omega
      exact ⟨-1, rfl, by unfold anyBad; rw [← List.take_length (l := s.data.toList), ← hkl, Hno.out]; rfl, (Below.refl _ _).alloc (Nat.le_refl _) _⟩
set_option maxHeartbeats 400000 in
theorem idx112_calls (s : ByteArray) (w : World) (hs : s.size ≤ 9223372036854775807) :
    Calls Tryz.prog 112 #[.string s, .func (.func 96) #[] #[]] w fun e w' => ∃ r : Int, e = .returned (.int .i64 r) ∧ decide (0 ≤ r) = anyBad s ∧ Below w.heap.size w w' := by
  go_enter Tryz.func112, Tryz.ntmps112
  go_wp2_with (first | (go_at_call 136; refine (idx136_calls s _ hs).mono ?_; rintro e w' ⟨r, rfl, hd, hb⟩))
  go_ret
  exact ⟨r, rfl, hd, hb⟩
set_option maxHeartbeats 400000 in
theorem has95_calls (s : ByteArray) (w : World) (hs : s.size ≤ 9223372036854775807) :
    Calls Tryz.prog 95 #[.string s, .func (.func 96) #[] #[]] w fun e w' => e = .returned (.bool (anyBad s)) ∧ Below w.heap.size w w' := by
  go_enter Tryz.func95, Tryz.ntmps95
  go_wp2_with (first | (go_at_call 112; refine (idx112_calls s _ hs).mono ?_; rintro e w' ⟨r, rfl, hd, hb⟩))
  go_ret
  exact ⟨by rw [← hd]; rfl, hb⟩
def okName (s : ByteArray) : Bool := decide (s.size ≤ 32) && !anyBad s
theorem bytes_nonempty {s : ByteArray} (hne : 0 < s.size) : s.toList.isEmpty = false := by
  rw [ByteArray.toList_eq]
  cases h : s.data.toList with
  | nil => have : s.data.toList.length = 0 := by rw [h]; rfl
           have h2 : s.data.toList.length = s.size := by simp
           omega
  | cons a b => rfl
theorem bytes_empty {s : ByteArray} (hne : s.size = 0) : s.toList = [] := by
  rw [ByteArray.toList_eq]
  have h2 : s.data.toList.length = s.size := by simp
  exact List.eq_nil_of_length_eq_zero (by omega)
set_option maxHeartbeats 400000 in
/-- isName at a text that isn't empty. -/
theorem isName_calls (s : ByteArray) (w : World) (hne : 0 < s.size) :
    Calls Tryz.prog 73 #[.string s] w fun e w' => e = .returned (.bool (okName s)) ∧ Below w.heap.size w w' := by
  have h0 := bytes_nonempty hne
  have h1 : (!s.toList.isEmpty) = true := by rw [h0]; rfl
  by_cases h32 : s.size ≤ 32
  · go_enter Tryz.func73, Tryz.ntmps73
    go_wp2_with (first | (go_at_call 95; refine (has95_calls s _ (by omega)).mono ?_; rintro e w' ⟨rfl, hb⟩))
    go_ret
    exact ⟨ret_bool (by simp [okName, h32]), hb⟩
  · go_enter Tryz.func73, Tryz.ntmps73
    go_wp2_with fail
    go_ret
    exact ⟨ret_bool (by simp [okName, h32]), Below.refl _ _⟩
end Go.Proofs.YtdgboklnhmfhoaaGreatDoor.G
namespace Go.Proofs.YtdgboklnhmfhoaaGreatDoor.G
open Go.RowKit Go.Proofs.YtdgboklnhmfhoaaGreatDoorW.PrintWords Go.Proofs.YtdgboklnhmfhoaaGreatDoorW.PrintLast Go.Proofs.YtdgboklnhmfhoaaGreatDoorW.PrintMore
set_option linter.unusedVariables false
def badMap (m : S44) : Bool := !okCodes [m.f0] || !okCodes m.f1
def longMap (m : S44) : Bool := decide (64 < m.f1.length)
def badTag (m : S44) : Bool := decide (0 < m.f2.size) && !okName m.f2
def keyM (m : S44) : Int × ByteArray := (m.f0, m.f2)
def inKeys (q : Int × ByteArray) (seen : List (Int × ByteArray)) : Bool := seen.any fun p => decide (p = q)
def dupFrom : List (Int × ByteArray) → List S44 → Bool
  | _, [] => false
  | seen, m :: t => inKeys (keyM m) seen || dupFrom (seen ++ [keyM m]) t
def chk56 (l : List S44) : Int := if l.any badMap then 1 else if l.any longMap then 2 else if l.any badTag then 6 else if dupFrom [] l then 5 else 0
theorem rd_getD (l : List S44) (k : Nat) : rd_T44 l k = l.getD k z44 := rfl
theorem dup_step (l : List S44) (k : Nat) (h : k < l.length) (seen : List (Int × ByteArray)) : dupFrom seen (l.drop k) = (inKeys (keyM (rd_T44 l k)) seen || dupFrom (seen ++ [keyM (rd_T44 l k)]) (l.drop (k + 1))) := by
  rw [List.drop_eq_getElem_cons h, dupFrom, rd_getD, List.getD_eq_getElem?_getD, List.getElem?_eq_getElem h, Option.getD_some]
open Go.Uc
set_option maxRecDepth 100000 in
theorem key102 : KeyLaw Tryz.prog 102 keyIS := is_law Tryz.underlying102 (by decide) (by decide) (fun _ _ _ => by rfl) (fun _ _ _ => by rfl) Tryz.underlying3 Tryz.underlying9 (by kernel_rfl)
theorem zero4 (w : World) : (zeroValue 4).run Tryz.prog w = .ok (.bool false) w := by kernel_rfl
def mapL (l : List S44) : List ((Int × ByteArray) × Value) := l.map fun m => (keyM m, Value.bool true)
theorem get_mapL (q : Int × ByteArray) (l : List S44) : (get q (mapL l)).getD (.bool false) = .bool (inKeys q (l.map keyM)) := by
  cases h : get q (mapL l) with
  | none =>
    have := get_none.1 h
    have e : inKeys q (l.map keyM) = false := by
      rw [Bool.eq_false_iff]
      intro hc
      apply this
      simp only [inKeys, List.any_eq_true, decide_eq_true_eq] at hc
      obtain ⟨p, hp, rfl⟩ := hc
      simpa [mapL] using hp
    rw [e]; rfl
  | some v =>
    have := get_some h
    simp only [mapL, List.mem_map] at this
    obtain ⟨m, hm, he⟩ := this
    injection he with h1 h2
    have e : inKeys q (l.map keyM) = true := by
      simp only [inKeys, List.any_eq_true, decide_eq_true_eq]
      exact ⟨_, List.mem_map_of_mem hm, h1⟩
    rw [e, ← h2]; rfl
theorem notin_mapL {q : Int × ByteArray} {l : List S44} (h : inKeys q (l.map keyM) = false) : q ∉ (mapL l).map (·.1) := by
  intro hc
  rw [Bool.eq_false_iff] at h
  apply h
  simp only [mapL, List.map_map, List.mem_map] at hc
  obtain ⟨m, hm, rfl⟩ := hc
  simp only [inKeys, List.any_eq_true, decide_eq_true_eq]
  exact ⟨_, List.mem_map_of_mem hm, rfl⟩
theorem mapL_snoc (l : List S44) (k : Nat) (h : k < l.length) : mapL (l.take (k + 1)) = mapL (l.take k) ++ [(keyM (rd_T44 l k), .bool true)] := by
  rw [List.take_succ_eq_append_getElem h, mapL, List.map_append, rd_getD, List.getD_eq_getElem?_getD, List.getElem?_eq_getElem h]; rfl
theorem keys_snoc (l : List S44) (k : Nat) (h : k < l.length) : (l.take (k + 1)).map keyM = (l.take k).map keyM ++ [keyM (rd_T44 l k)] := by
  rw [List.take_succ_eq_append_getElem h, List.map_append, rd_getD, List.getD_eq_getElem?_getD, List.getElem?_eq_getElem h]; rfl
set_option maxRecDepth 100000 in
set_option maxHeartbeats 1000000 in
theorem check56_a (A : Option Addr) (l : List S44) (c : Nat) (w : World) (hr : Kd.C k44 w A l.length l) (hc : l.length ≤ c) :
    Calls Tryz.prog 56 #[.slice A l.length c] w fun e w' => e = .returned (.int .i64 (chk56 l)) ∧ Below w.heap.size w w' := by
  have hm := hr.2.1
  have hu44 := Tryz.underlying44
  go_enter Tryz.func56, Tryz.ntmps56
  go_wp2
  go_loopw [15] (fun i wr => ∃ k : Nat, k ≤ l.length ∧ (l.take k).any badMap = false ∧ i = .int .i64 k ∧ Below w.heap.size w wr) (fun i _ => l.length - (intOf i).toNat)
  case atStart => exact ⟨0, Nat.zero_le _, rfl, rfl, Below.refl _ _⟩
  case round =>
    obtain ⟨k, hk, hno, rfl, hB⟩ := hrel
    have Hno := Lib.hid hno
    clear hno
    by_cases hlt : k < l.length
    · obtain ⟨ad, A1, c1, rfl, h0, h1, h2, hc1, hC⟩ := at_T44 (Kd.C_below hr hB) k (by omega) (by omega)
      obtain ⟨x, hx⟩ : ∃ x, x = rd_T44 l k := ⟨_, rfl⟩
      rw [← hx] at h0 h1 h2 hc1 hC
      have Hx := Lib.hid hx
      clear hx
      simp only [Int.toNat_natCast] at h0 h1 h2
      cases hb0 : okCodes [x.f0] with
      | false =>
        have HB0 := Lib.hid hb0
        clear hb0
        go_wp2_with fail
        refine (codes72_calls _ [x.f0] _ _ _ rfl (C_int_one (by simp)) (by simp)).mono ?_
        rintro e w' ⟨rfl, rfl⟩
        have e0 := HB0.out
        go_wp2_with fail
        go_ret
        exact ⟨ret_i64 (by rw [chk56, if_pos (any_of_take badMap l z44 k hlt (by rw [← rd_getD, ← Hx.out, badMap, e0]; rfl))]), (hB.alloc hB.size _).alloc (by have := hB.size; simp; omega) _⟩
      | true =>
        have HB0 := Lib.hid hb0
        clear hb0
        go_wp2_with fail
        refine (codes72_calls _ [x.f0] _ _ _ rfl (C_int_one (by simp)) (by simp)).mono ?_
        rintro e w' ⟨rfl, rfl⟩
        have e0 := HB0.out
        go_wp2_with fail
        refine (codes72_calls _ x.f1 _ _ _ rfl (Kd.C_alloc (Kd.C_alloc hC _) _) hc1).mono ?_
        rintro e w' ⟨rfl, rfl⟩
        cases hb1 : okCodes x.f1 with
        | false =>
          go_wp2_with fail
          go_ret
          exact ⟨ret_i64 (by rw [chk56, if_pos (any_of_take badMap l z44 k hlt (by rw [← rd_getD, ← Hx.out, badMap, e0, hb1]; rfl))]), (hB.alloc hB.size _).alloc (by have := hB.size; simp; omega) _⟩
        | true =>
          go_wp2_with fail
          go_roundw
          case rel => exact ⟨k + 1, hlt, by rw [any_take_succ badMap l z44 k hlt, Hno.out, ← rd_getD, ← Hx.out, badMap, e0, hb1]; rfl, by go_num, (hB.alloc hB.size _).alloc (by have := hB.size; simp; omega) _⟩
          case measure => simp [intOf]; omega
    · have hkl : k = l.length := by omega
      have HN1 : Hid (l.any badMap = false) := Lib.hid (by rw [← List.take_length (l := l), ← hkl]; exact Hno.out)
      clear Hno hkl
      go_wp2_with fail
      obtain ⟨W1, rfl⟩ : ∃ W1 : World, W1 = wr := ⟨_, rfl⟩
      have hB1 := hB
      clear hB
      go_loopw [33] (fun i wr => ∃ k : Nat, k ≤ l.length ∧ (l.take k).any longMap = false ∧ i = .int .i64 k ∧ Below w.heap.size w wr) (fun i _ => l.length - (intOf i).toNat)
      case atStart => exact ⟨0, Nat.zero_le _, rfl, rfl, hB1⟩
      case round =>
        clear hB1 hlt hk
        obtain ⟨k, hk, hno, rfl, hB⟩ := hrel
        have Hno := Lib.hid hno
        clear hno
        by_cases hlt : k < l.length
        · obtain ⟨ad, A1, c1, rfl, h0, h1, h2, hc1, hC⟩ := at_T44 (Kd.C_below hr hB) k (by omega) (by omega)
          obtain ⟨x, hx⟩ : ∃ x, x = rd_T44 l k := ⟨_, rfl⟩
          rw [← hx] at h0 h1 h2 hc1 hC
          have Hx := Lib.hid hx
          clear hx
          simp only [Int.toNat_natCast] at h0 h1 h2
          by_cases h64 : 64 < x.f1.length
          · go_wp2_with fail
            go_ret
            exact ⟨ret_i64 (by rw [chk56, HN1.out, if_neg (by simp), if_pos (any_of_take longMap l z44 k hlt (by rw [← rd_getD, ← Hx.out]; simp [longMap, h64]))]), hB.alloc hB.size _⟩
          · go_wp2_with fail
            go_roundw
            case rel => exact ⟨k + 1, hlt, by rw [any_take_succ longMap l z44 k hlt, Hno.out, ← rd_getD, ← Hx.out]; simp [longMap, h64], by go_num, hB.alloc hB.size _⟩
            case measure => simp [intOf]; omega
        · have hkl : k = l.length := by omega
          have HN2 : Hid (l.any longMap = false) := Lib.hid (by rw [← List.take_length (l := l), ← hkl]; exact Hno.out)
          clear Hno hkl
          go_wp2_with fail
          obtain ⟨W2, rfl⟩ : ∃ W2 : World, W2 = wr := ⟨_, rfl⟩
          have hB1 := hB
          clear hB
          go_loopw [44] (fun i wr => ∃ k : Nat, k ≤ l.length ∧ (l.take k).any badTag = false ∧ i = .int .i64 k ∧ Below w.heap.size w wr) (fun i _ => l.length - (intOf i).toNat)
          case atStart => exact ⟨0, Nat.zero_le _, rfl, rfl, hB1⟩
          case round =>
            clear hB1 hlt hk
            obtain ⟨k, hk, hno, rfl, hB⟩ := hrel
            have Hno := Lib.hid hno
            clear hno
            by_cases hlt : k < l.length
            · obtain ⟨ad, A1, c1, rfl, h0, h1, h2, hc1, hC⟩ := at_T44 (Kd.C_below hr hB) k (by omega) (by omega)
              obtain ⟨x, hx⟩ : ∃ x, x = rd_T44 l k := ⟨_, rfl⟩
              rw [← hx] at h0 h1 h2 hc1 hC
              have Hx := Lib.hid hx
              clear hx
              simp only [Int.toNat_natCast] at h0 h1 h2
              by_cases hz : x.f2.size = 0
              · have hz1 := bytes_empty hz
                have hz2 : (!x.f2.toList.isEmpty) = false := by rw [hz1]; rfl
                have Hz := Lib.hid hz
                clear hz
                go_wp2_with fail
                go_roundw
                case rel => exact ⟨k + 1, hlt, by rw [any_take_succ badTag l z44 k hlt, Hno.out, ← rd_getD, ← Hx.out]; simp [badTag, Hz.out], by go_num, hB.alloc hB.size _⟩
                case measure => simp [intOf]; omega
              · have hz1 := bytes_nonempty (s := x.f2) (by omega)
                have hz2 : (!x.f2.toList.isEmpty) = true := by rw [hz1]; rfl
                cases ho : okName x.f2 with
                | false =>
                  have Ho := Lib.hid ho
                  clear ho
                  go_wp2_with fail
                  refine (isName_calls x.f2 _ (by omega)).mono ?_
                  rintro e w' ⟨rfl, hb⟩
                  have ho := Ho.out
                  go_wp2_with fail
                  go_ret
                  exact ⟨ret_i64 (by rw [chk56, HN1.out, if_neg (by simp), HN2.out, if_neg (by simp), if_pos (any_of_take badTag l z44 k hlt (by rw [← rd_getD, ← Hx.out, badTag, ho]; simp; omega))]), (hB.alloc hB.size _).trans (hb.mono (by have := hB.size; simp; omega))⟩
                | true =>
                  have Ho := Lib.hid ho
                  clear ho
                  go_wp2_with fail
                  refine (isName_calls x.f2 _ (by omega)).mono ?_
                  rintro e w' ⟨rfl, hb⟩
                  have ho := Ho.out
                  go_wp2_with fail
                  go_roundw
                  case rel => exact ⟨k + 1, hlt, by rw [any_take_succ badTag l z44 k hlt, Hno.out, ← rd_getD, ← Hx.out, badTag, ho]; simp, by go_num, (hB.alloc hB.size _).trans (hb.mono (by have := hB.size; simp; omega))⟩
                  case measure => simp [intOf]; omega
            · have hkl : k = l.length := by omega
              have HN3 : Hid (l.any badTag = false) := Lib.hid (by rw [← List.take_length (l := l), ← hkl]; exact Hno.out)
              clear Hno hkl
              have hmm := @run_makeMap Tryz.prog
              go_wp2_with fail
              obtain ⟨W3, rfl⟩ : ∃ W3 : World, W3 = wr := ⟨_, rfl⟩
              have hB1 := hB
              clear hB
              go_loopw [61] (fun i wr => ∃ k : Nat, k ≤ l.length ∧ i = .int .i64 k ∧ MapAt wr W3.heap.size keyIS (mapL (l.take k)) ∧ Hid (dupFrom [] l = dupFrom ((l.take k).map keyM) (l.drop k)) ∧ Below w.heap.size w wr) (fun i _ => l.length - (intOf i).toNat)
              case atStart => exact ⟨0, Nat.zero_le _, rfl, MapAt.made _ _, Lib.hid rfl, hB1.alloc hB1.size _⟩
              case round =>
                clear hlt hk
                obtain ⟨k, hk, rfl, hM, HD, hB⟩ := hrel
                by_cases hlt : k < l.length
                · obtain ⟨ad, A1, c1, rfl, h0, h1, h2, hc1, hC⟩ := at_T44 (Kd.C_below hr hB) k (by omega) (by omega)
                  have Hd := Lib.hid (dup_step l k hlt ((l.take k).map keyM))
                  have Hs1 := Lib.hid (mapL_snoc l k hlt)
                  have Hs2 := Lib.hid (keys_snoc l k hlt)
                  obtain ⟨x, hx⟩ : ∃ x, x = rd_T44 l k := ⟨_, rfl⟩
                  rw [← hx] at h0 h1 h2 hc1 hC Hd Hs1 Hs2
                  clear hx
                  simp only [Int.toNat_natCast] at h0 h1 h2
                  obtain ⟨L, hL⟩ : ∃ L, L = l.take k := ⟨_, rfl⟩
                  rw [← hL] at hM HD Hd Hs1 Hs2
                  have HL := Lib.hid hL
                  clear hL
                  have hsz := hB1.size
                  have hsz2 := hB.size
                  have hMl := hM.lt
                  cases hin : inKeys (keyM x) (L.map keyM) with
                  | true =>
                    have Hin := Lib.hid hin
                    clear hin
                    go_wp2_with (first
                      | (at_lookup; refine wpList_look1 rfl _ _ 100 rfl 102 4 key102 Tryz.underlying100 W3.heap.size (mapL L) rfl ((hM.alloc _).alloc _) (keyM x) rfl (.bool false) (zero4 _) (.bool true) (by rw [get_mapL, Hin.out]) ?_))
                    go_ret
                    exact ⟨ret_i64 (by rw [chk56, HN1.out, if_neg (by simp), HN2.out, if_neg (by simp), HN3.out, if_neg (by simp), HD.out, Hd.out, Hin.out]; rfl), (hB.alloc hB.size _).alloc (by simp; omega) _⟩
                  | false =>
                    have Hin := Lib.hid hin
                    clear hin
                    go_wp2_with (first
                      | (at_lookup; refine wpList_look1 rfl _ _ 100 rfl 102 4 key102 Tryz.underlying100 W3.heap.size (mapL L) rfl ((hM.alloc _).alloc _) (keyM x) rfl (.bool false) (zero4 _) (.bool false) (by rw [get_mapL, Hin.out]) ?_)
                      | (at_mapUpdate; refine wpList_mapUpdate_at rfl _ _ _ 100 rfl 102 4 key102 Tryz.underlying100 W3.heap.size (mapL L) rfl ((hM.alloc _).alloc _) (keyM x) _ rfl rfl ?_; intro w3 hM3 hg3 hs3))
                    go_roundw
                    case rel => exact ⟨k + 1, hlt, by go_num, by rw [Hs1.out, ← upd_new _ (notin_mapL Hin.out)]; exact hM3, Lib.hid (by rw [HD.out, Hd.out, Hin.out, Hs2.out]; rfl), (((hB.alloc hB.size _).alloc (by simp; omega) _).grown hg3 (by simp; omega) (fun j hj => by cases hj; exact hsz))⟩
                    case measure => simp [intOf]; omega
                · have hkl : k = l.length := by omega
                  have HD2 : Hid (dupFrom [] l = false) := Lib.hid (by rw [HD.out, hkl, List.drop_length]; rfl)
                  clear HD
                  go_wp2_with fail
                  go_ret
                  exact ⟨ret_i64 (by rw [chk56, HN1.out, if_neg (by simp), HN2.out, if_neg (by simp), HN3.out, if_neg (by simp), HD2.out, if_neg (by simp)]), hB⟩
end Go.Proofs.YtdgboklnhmfhoaaGreatDoor.G
