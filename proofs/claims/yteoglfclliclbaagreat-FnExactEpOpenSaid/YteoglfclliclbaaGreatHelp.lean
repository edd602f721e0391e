/-
  Contracts of the laws' own helpers: copies, comparisons, marks. Conditions: none beside those that each theorem names.
-/
import Derived.Test.YteoglfclliclbaaGreatBase
namespace Go.Proofs.YteoglfclliclbaaGreat
open Go.RowKit
theorem beq_t {l k : List UInt8} (h : l = k) : (l == k) = true := by simpa using h
theorem beq_f {l k : List UInt8} (h : l ≠ k) : (l == k) = false := by simpa using h
theorem beq_zt {l k : List Int} (h : l = k) : (l == k) = true := by simpa using h
theorem beq_zf {l k : List Int} (h : l ≠ k) : (l == k) = false := by simpa using h
theorem inf_u8 : (Tryz.prog.info? 5).map (fun i => (i.zero, i.size, i.bytes)) = some (some (.int .u8 0), 1, 1) := by kernel_rfl
theorem inf_int : (Tryz.prog.info? 3).map (fun i => (i.zero, i.size, i.bytes)) = some (some (.int .i64 0), 1, 8) := by kernel_rfl

set_option maxHeartbeats 400000 in
theorem laws_toByteS (a : Option Addr) (n c : Nat) (l : List UInt8) (w : World) (hrd : Rd w a n c (bys l)) (hn : n ≤ 1048576) :
    Calls Tryz.prog 26 #[.slice a n c] w fun e w' => ∃ a' c', e = .returned (.slice a' n c') ∧ Ow w.heap.size w' 5 a' n c' (bys l) ∧ w.grownBy w' none := by
  obtain ⟨i0, hi, hz0, hz1, hz2⟩ := info_parts inf_u8
  go_enter Tryz.func26, Tryz.ntmps26
  go_wp2_with (refine wpList_mk rfl (.tmp 6) (.tmp 6) 22 rfl 5 i0 (.int .u8 0) 1 Tryz.underlying22 hi hz0 hz1 hz2 rfl n .i64 .i64 rfl rfl (by unfold maxLen; omega) (by omega) ?_; intro w1 hown1 hg1)
  go_loopw [4] (fun i wr => ∃ k : Nat, k ≤ n ∧ i = .int .i64 k ∧ Ow w.heap.size wr 5 (some ⟨w.heap.size, 0, none⟩) n n (bys (l.take k) ++ List.replicate (n - k) (.int .u8 0)) ∧ w.grownBy wr none) (fun i _ => n - (intOf i).toNat)
  case atStart => exact ⟨0, by omega, rfl, by simpa [bys] using hown1, hg1⟩
  case round =>
    obtain ⟨k, hk, rfl, hown, hg⟩ := hrel
    by_cases hlt : k < n
    · obtain ⟨b, off, x, rfl, hx, hsrc⟩ := (hrd.keep0 hg).byte k hlt
      obtain ⟨hfz, u, hcl, _⟩ := hown.at k hlt
      go_wp2
      go_roundw
      case rel =>
        refine ⟨k + 1, by omega, by go_num, ?_, gb_set hg (.inl (Nat.le_refl _)) _⟩
        have := hown.set k (.int .u8 (x.toNat : Int))
        rwa [fill_set _ _ _ _ _ hlt (by have := hrd.blen; simp [bys_len]; omega), show bys (l.take k) ++ [.int .u8 (x.toNat : Int)] = bys (l.take (k + 1)) by rw [take_succ_some hx.out, bys_app]; rfl] at this
      case measure => simp [intOf]; omega
    · obtain rfl : n = k := by omega
      go_wp2
      go_ret
      refine ⟨_, _, rfl, ?_, hg⟩
      rw [Nat.sub_self, List.take_of_length_le (by have := hrd.blen; omega)] at hown
      simpa using hown
set_option maxHeartbeats 400000 in
theorem laws_eqByteS (a b : Option Addr) (n c m d : Nat) (l k : List UInt8) (w : World) (ha : Rd w a n c (bys l)) (hb : Rd w b m d (bys k)) (hn : n ≤ 1073741824) (hm : m ≤ 1073741824) :
    Calls Tryz.prog 11 #[.slice a n c, .slice b m d] w fun e w' => e = .returned (.bool (l == k)) ∧ Qt w w' := by
  by_cases hnm : n = m
  · subst hnm
    go_enter Tryz.func11, Tryz.ntmps11
    go_wp2
    go_loopw [5] (fun i wr => ∃ j : Nat, j ≤ n ∧ i = .int .i64 j ∧ Qt w wr ∧ l.take j = k.take j) (fun i _ => n - (intOf i).toNat)
    case atStart => exact ⟨0, by omega, rfl, Qt.refl w, rfl⟩
    case round =>
      obtain ⟨j, hj, rfl, hq, hpre⟩ := hrel
      have Hp := Lib.hid hpre
      clear hpre
      by_cases hlt : j < n
      · obtain ⟨b1, o1, x, rfl, hx, h1⟩ := (ha.qt hq).byte j hlt
        obtain ⟨b2, o2, y, rfl, hy, h2⟩ := (hb.qt hq).byte j hlt
        by_cases he : x = y
        · subst he
          go_wp2
          go_quiet (fail)
          go_wp2
          go_roundw
          case rel => exact ⟨j + 1, by omega, by go_num, hq.drewN _, by rw [take_succ_some hx.out, take_succ_some hy.out, Hp.out]⟩
          case measure => simp [intOf]; omega
        · have hne := u8_neq he
          go_wp2
          go_quiet (fail)
          go_wp2
          go_ret
          refine ⟨?_, hq.drewN _⟩
          rw [beq_f (fun e => he (by have h1 := hx.out; have h2 := hy.out; rw [e, h2] at h1; exact (Option.some.inj h1).symm))]
          rfl
      · obtain rfl : j = n := by omega
        go_wp2
        go_ret
        refine ⟨?_, hq⟩
        have h := Hp.out
        rw [List.take_of_length_le (by have := ha.blen; omega), List.take_of_length_le (by have := hb.blen; omega)] at h
        rw [beq_t h]
        rfl
  · have hne : (n != m) = true := by simpa using hnm
    go_enter Tryz.func11, Tryz.ntmps11
    go_wp2
    go_ret
    refine ⟨?_, Qt.refl w⟩
    rw [beq_f (fun e => hnm (by have := ha.blen; have := hb.blen; subst e; omega))]
    rfl
/-- marks -/
def markB (k n : Nat) : List UInt8 := (List.range n).map fun i => UInt8.ofNat (k + i)
def markZ (k n : Nat) : List Int := (List.range n).map fun i => ((k + i : Nat) : Int)
theorem markB_len (k n : Nat) : (markB k n).length = n := by simp [markB]
theorem markZ_len (k n : Nat) : (markZ k n).length = n := by simp [markZ]
theorem markB_succ (k n : Nat) : markB k (n + 1) = markB k n ++ [UInt8.ofNat (k + n)] := by simp [markB, List.range_succ]
theorem markZ_succ (k n : Nat) : markZ k (n + 1) = markZ k n ++ [((k + n : Nat) : Int)] := by simp [markZ, List.range_succ]
theorem mark_set {l : List Value} {m : List Value} {j : Nat} (u : Value) (hm : m.length = j) (hj : j < l.length) : (m ++ l.drop j).set j u = m ++ [u] ++ l.drop (j + 1) := by
  rw [List.set_append_right _ _ (by omega), hm, Nat.sub_self, List.drop_eq_getElem_cons hj, List.set_cons_zero, List.append_assoc]
  rfl
theorem mod_u8 (k j : Nat) : ((k : Int) + (j : Int)) % 256 = ((UInt8.ofNat (k + j)).toNat : Int) := by
  rw [UInt8.toNat_ofNat']
  omega
theorem markB_at (k n j : Nat) (h : j < n) : (markB k n)[j]? = some (UInt8.ofNat (k + j)) := by simp [markB, h]
theorem markZ_at (k n j : Nat) (h : j < n) : (markZ k n)[j]? = some (((k + j : Nat) : Int)) := by simp [markZ, h]

set_option maxHeartbeats 400000 in
theorem laws_markByteS (B : Nat) (a : Option Addr) (n c k : Nat) (xs : List Value) (w : World) (ho : Ow B w 5 a n c xs) (hk : k + n ≤ 1073741824) :
    Calls Tryz.prog 15 #[.slice a n c, .int .i64 k] w fun e w' => e = .returned (.int .i64 ((k + n : Nat) : Int)) ∧ Ow B w' 5 a n c (bys (markB k n)) ∧ w.grownBy w' (a.map (·.block)) := by
  have hl := ho.len
  go_enter Tryz.func15, Tryz.ntmps15
  go_wp2
  go_loopw [1, 5] (fun kk i wr => ∃ j : Nat, j ≤ n ∧ i = .int .i64 j ∧ kk = .int .i64 ((k + j : Nat) : Int) ∧ Ow B wr 5 a n c (bys (markB k j) ++ xs.drop j) ∧ w.grownBy wr (a.map (·.block))) (fun _ i _ => n - (intOf i).toNat)
  case atStart => exact ⟨0, by omega, rfl, rfl, by simpa [bys, markB] using ho, gb_reflr w _⟩
  case round =>
    obtain ⟨j, hj, rfl, rfl, hown, hg⟩ := hrel
    have Hl := Lib.hid hl
    clear hl
    by_cases hlt : j < n
    · obtain ⟨g, rfl⟩ := hown.head (by omega)
      obtain ⟨hfz, u, hcl, _⟩ := hown.at j hlt
      go_wp2
      refine ⟨⟨j + 1, by omega, by go_num, by congr 1, ?_, gb_set (p := ⟨g, j, none⟩) hg (.inr rfl) _⟩, by simp [intOf]; omega⟩
      have := hown.set j (.int .u8 (((k : Int) + (j : Int)) % 256))
      rwa [mark_set _ (by rw [bys_len, markB_len]) (by have := Hl.out; omega), mod_u8, show bys (markB k j) ++ [.int .u8 ((UInt8.ofNat (k + j)).toNat : Int)] = bys (markB k (j + 1)) by rw [markB_succ, bys_app]; rfl, ← mod_u8] at this
    · obtain rfl : j = n := by omega
      go_wp2
      go_ret
      refine ⟨by congr 2, ?_, hg⟩
      rw [List.drop_of_length_le (by have := Hl.out; omega), List.append_nil] at hown
      exact hown
set_option maxHeartbeats 400000 in
theorem laws_heldByteS (a : Option Addr) (n c k : Nat) (w : World) (ho : Rd w a n c (bys (markB k n))) (hk : k + n ≤ 1073741824) :
    Calls Tryz.prog 17 #[.slice a n c, .int .i64 k] w fun e w' => e = .returned (.int .i64 ((k + n : Nat) : Int)) ∧ Qt w w' := by
  go_enter Tryz.func17, Tryz.ntmps17
  go_wp2
  go_loopw [1, 5] (fun kk i wr => ∃ j : Nat, j ≤ n ∧ i = .int .i64 j ∧ kk = .int .i64 ((k + j : Nat) : Int) ∧ Qt w wr) (fun _ i _ => n - (intOf i).toNat)
  case atStart => exact ⟨0, by omega, rfl, rfl, Qt.refl w⟩
  case round =>
    obtain ⟨j, hj, rfl, rfl, hq⟩ := hrel
    by_cases hlt : j < n
    · obtain ⟨b, off, x, rfl, hx, hcl⟩ := (ho.qt hq).byte j hlt
      obtain rfl : x = UInt8.ofNat (k + j) := by have := hx.out; rw [markB_at k n j hlt] at this; exact (Option.some.inj this).symm
      rw [← mod_u8] at hcl
      go_wp2
      refine ⟨⟨j + 1, by omega, by go_num, by congr 1, hq⟩, by simp [intOf]; omega⟩
    · obtain rfl : j = n := by omega
      go_wp2
      go_ret
      exact ⟨by congr 2, hq⟩
theorem laws_szByteS (a : Option Addr) (n c : Nat) (left : Nat) (w : World) (hl : left ≤ 1048576) (hn : n ≤ 9223372036854775807) :
    Calls Tryz.prog 18 #[.slice a n c, .int .i64 left] w fun e w' => (n ≤ left → e = .returned (.int .i64 ((left - n : Nat) : Int))) ∧ (left < n → e = .returned (.int .i64 (-1))) ∧ w = w' := by
  by_cases h : n ≤ left
  · go_enter Tryz.func18, Tryz.ntmps18
    go_wp2
    go_ret
    refine ⟨fun _ => ?_, fun h2 => by omega, rfl⟩
    congr 2
    simp
    omega
  · go_enter Tryz.func18, Tryz.ntmps18
    go_wp2
    go_ret
    exact ⟨fun h2 => by omega, fun _ => rfl, rfl⟩
set_option maxHeartbeats 400000 in
theorem laws_toIntS (a : Option Addr) (n c : Nat) (l : List Int) (w : World) (hrd : Rd w a n c (ins l)) (hn : n ≤ 1048576) :
    Calls Tryz.prog 48 #[.slice a n c] w fun e w' => ∃ a' c', e = .returned (.slice a' n c') ∧ Ow w.heap.size w' 3 a' n c' (ins l) ∧ w.grownBy w' none := by
  obtain ⟨i0, hi, hz0, hz1, hz2⟩ := info_parts inf_int
  go_enter Tryz.func48, Tryz.ntmps48
  go_wp2_with (refine wpList_mk rfl (.tmp 6) (.tmp 6) 23 rfl 3 i0 (.int .i64 0) 8 Tryz.underlying23 hi hz0 hz1 hz2 rfl n .i64 .i64 rfl rfl (by unfold maxLen; omega) (by omega) ?_; intro w1 hown1 hg1)
  go_loopw [4] (fun i wr => ∃ k : Nat, k ≤ n ∧ i = .int .i64 k ∧ Ow w.heap.size wr 3 (some ⟨w.heap.size, 0, none⟩) n n (ins (l.take k) ++ List.replicate (n - k) (.int .i64 0)) ∧ w.grownBy wr none) (fun i _ => n - (intOf i).toNat)
  case atStart => exact ⟨0, by omega, rfl, by simpa [ins] using hown1, hg1⟩
  case round =>
    obtain ⟨k, hk, rfl, hown, hg⟩ := hrel
    by_cases hlt : k < n
    · obtain ⟨b, off, x, rfl, hx, hsrc⟩ := (hrd.keep0 hg).int k hlt
      obtain ⟨hfz, u, hcl, _⟩ := hown.at k hlt
      go_wp2
      go_roundw
      case rel =>
        refine ⟨k + 1, by omega, by go_num, ?_, gb_set hg (.inl (Nat.le_refl _)) _⟩
        have := hown.set k (.int .i64 x)
        rwa [fill_set _ _ _ _ _ hlt (by have := hrd.ilen; simp [ins_len]; omega), show ins (l.take k) ++ [.int .i64 x] = ins (l.take (k + 1)) by rw [take_succ_some hx.out, ins_app]; rfl] at this
      case measure => simp [intOf]; omega
    · obtain rfl : n = k := by omega
      go_wp2
      go_ret
      refine ⟨_, _, rfl, ?_, hg⟩
      rw [Nat.sub_self, List.take_of_length_le (by have := hrd.ilen; omega)] at hown
      simpa using hown
set_option maxHeartbeats 400000 in
theorem laws_eqIntS (a b : Option Addr) (n c m d : Nat) (l k : List Int) (w : World) (ha : Rd w a n c (ins l)) (hb : Rd w b m d (ins k)) (hn : n ≤ 1073741824) (hm : m ≤ 1073741824) :
    Calls Tryz.prog 62 #[.slice a n c, .slice b m d] w fun e w' => e = .returned (.bool (l == k)) ∧ Qt w w' := by
  by_cases hnm : n = m
  · subst hnm
    go_enter Tryz.func62, Tryz.ntmps62
    go_wp2
    go_loopw [5] (fun i wr => ∃ j : Nat, j ≤ n ∧ i = .int .i64 j ∧ Qt w wr ∧ l.take j = k.take j) (fun i _ => n - (intOf i).toNat)
    case atStart => exact ⟨0, by omega, rfl, Qt.refl w, rfl⟩
    case round =>
      obtain ⟨j, hj, rfl, hq, hpre⟩ := hrel
      have Hp := Lib.hid hpre
      clear hpre
      by_cases hlt : j < n
      · obtain ⟨b1, o1, x, rfl, hx, h1⟩ := (ha.qt hq).int j hlt
        obtain ⟨b2, o2, y, rfl, hy, h2⟩ := (hb.qt hq).int j hlt
        by_cases he : x = y
        · subst he
          go_wp2
          go_quiet (fail)
          go_wp2
          go_roundw
          case rel => exact ⟨j + 1, by omega, by go_num, hq.drewN _, by rw [take_succ_some hx.out, take_succ_some hy.out, Hp.out]⟩
          case measure => simp [intOf]; omega
        · have hne := show (x != y) = true by simpa using he
          go_wp2
          go_quiet (fail)
          go_wp2
          go_ret
          refine ⟨?_, hq.drewN _⟩
          rw [beq_zf (fun e => he (by have h1 := hx.out; have h2 := hy.out; rw [e, h2] at h1; exact (Option.some.inj h1).symm))]
          rfl
      · obtain rfl : j = n := by omega
        go_wp2
        go_ret
        refine ⟨?_, hq⟩
        have h := Hp.out
        rw [List.take_of_length_le (by have := ha.ilen; omega), List.take_of_length_le (by have := hb.ilen; omega)] at h
        rw [beq_zt h]
        rfl
  · have hne : (n != m) = true := by simpa using hnm
    go_enter Tryz.func62, Tryz.ntmps62
    go_wp2
    go_ret
    refine ⟨?_, Qt.refl w⟩
    rw [beq_zf (fun e => hnm (by have := ha.ilen; have := hb.ilen; subst e; omega))]
    rfl
set_option maxHeartbeats 400000 in
theorem laws_markIntS (B : Nat) (a : Option Addr) (n c k : Nat) (xs : List Value) (w : World) (ho : Ow B w 3 a n c xs) (hk : k + n ≤ 1073741824) :
    Calls Tryz.prog 63 #[.slice a n c, .int .i64 k] w fun e w' => e = .returned (.int .i64 ((k + n : Nat) : Int)) ∧ Ow B w' 3 a n c (ins (markZ k n)) ∧ w.grownBy w' (a.map (·.block)) := by
  have hl := ho.len
  go_enter Tryz.func63, Tryz.ntmps63
  go_wp2
  go_loopw [1, 5] (fun kk i wr => ∃ j : Nat, j ≤ n ∧ i = .int .i64 j ∧ kk = .int .i64 ((k + j : Nat) : Int) ∧ Ow B wr 3 a n c (ins (markZ k j) ++ xs.drop j) ∧ w.grownBy wr (a.map (·.block))) (fun _ i _ => n - (intOf i).toNat)
  case atStart => exact ⟨0, by omega, rfl, rfl, by simpa [ins, markZ] using ho, gb_reflr w _⟩
  case round =>
    obtain ⟨j, hj, rfl, rfl, hown, hg⟩ := hrel
    have Hl := Lib.hid hl
    clear hl
    by_cases hlt : j < n
    · obtain ⟨g, rfl⟩ := hown.head (by omega)
      obtain ⟨hfz, u, hcl, _⟩ := hown.at j hlt
      go_wp2
      refine ⟨⟨j + 1, by omega, by go_num, by congr 1, ?_, gb_set (p := ⟨g, j, none⟩) hg (.inr rfl) _⟩, by simp [intOf]; omega⟩
      have := hown.set j (.int .i64 ((k : Int) + (j : Int)))
      rwa [mark_set _ (by rw [ins_len, markZ_len]) (by have := Hl.out; omega), show ins (markZ k j) ++ [.int .i64 ((k : Int) + (j : Int))] = ins (markZ k (j + 1)) by rw [markZ_succ, ins_app]; rfl] at this
    · obtain rfl : j = n := by omega
      go_wp2
      go_ret
      refine ⟨by congr 2, ?_, hg⟩
      rw [List.drop_of_length_le (by have := Hl.out; omega), List.append_nil] at hown
      exact hown
set_option maxHeartbeats 400000 in
theorem laws_heldIntS (a : Option Addr) (n c k : Nat) (w : World) (ho : Rd w a n c (ins (markZ k n))) (hk : k + n ≤ 1073741824) :
    Calls Tryz.prog 64 #[.slice a n c, .int .i64 k] w fun e w' => e = .returned (.int .i64 ((k + n : Nat) : Int)) ∧ Qt w w' := by
  go_enter Tryz.func64, Tryz.ntmps64
  go_wp2
  go_loopw [1, 5] (fun kk i wr => ∃ j : Nat, j ≤ n ∧ i = .int .i64 j ∧ kk = .int .i64 ((k + j : Nat) : Int) ∧ Qt w wr) (fun _ i _ => n - (intOf i).toNat)
  case atStart => exact ⟨0, by omega, rfl, rfl, Qt.refl w⟩
  case round =>
    obtain ⟨j, hj, rfl, rfl, hq⟩ := hrel
    by_cases hlt : j < n
    · obtain ⟨b, off, x, rfl, hx, hcl⟩ := (ho.qt hq).int j hlt
      obtain rfl : x = ((k + j : Nat) : Int) := by have := hx.out; rw [markZ_at k n j hlt] at this; exact (Option.some.inj this).symm
      rw [show ((k + j : Nat) : Int) = (k : Int) + (j : Int) by omega] at hcl
      go_wp2
      refine ⟨⟨j + 1, by omega, by go_num, by congr 1, hq⟩, by simp [intOf]; omega⟩
    · obtain rfl : j = n := by omega
      go_wp2
      go_ret
      exact ⟨by congr 2, hq⟩
theorem laws_szIntS (a : Option Addr) (n c : Nat) (left : Nat) (w : World) (hl : left ≤ 1048576) (hn : n ≤ 9223372036854775807) :
    Calls Tryz.prog 36 #[.slice a n c, .int .i64 left] w fun e w' => (n ≤ left → e = .returned (.int .i64 ((left - n : Nat) : Int))) ∧ (left < n → e = .returned (.int .i64 (-1))) ∧ w = w' := by
  by_cases h : n ≤ left
  · go_enter Tryz.func36, Tryz.ntmps36
    go_wp2
    go_ret
    refine ⟨fun _ => ?_, fun h2 => by omega, rfl⟩
    congr 2
    simp
    omega
  · go_enter Tryz.func36, Tryz.ntmps36
    go_wp2
    go_ret
    exact ⟨fun h2 => by omega, fun _ => rfl, rfl⟩
end Go.Proofs.YteoglfclliclbaaGreat
