/-
  Contracts of the laws' own helpers: copies, comparisons, marks. Conditions: none beside those that each theorem names.
-/
import Derived.Test.YtgdhciebmcpkaaaBase
namespace Go.Proofs.Ytgdhciebmcpkaaa
open Go.RowKit
theorem beq_t {l k : List UInt8} (h : l = k) : (l == k) = true := by simpa using h
theorem beq_f {l k : List UInt8} (h : l ≠ k) : (l == k) = false := by simpa using h
theorem inf_u8 : (Try.prog.info? 5).map (fun i => (i.zero, i.size, i.bytes)) = some (some (.int .u8 0), 1, 1) := by kernel_rfl
theorem inf_int : (Try.prog.info? 3).map (fun i => (i.zero, i.size, i.bytes)) = some (some (.int .i64 0), 1, 8) := by kernel_rfl

set_option maxHeartbeats 400000 in
theorem laws_toByteS (a : Option Addr) (n c : Nat) (l : List UInt8) (w : World) (hrd : Rd w a n c (bys l)) (hn : n ≤ 1048576) :
    Calls Try.prog 11 #[.slice a n c] w fun e w' => ∃ a' c', e = .returned (.slice a' n c') ∧ Ow w.heap.size w' 5 a' n c' (bys l) ∧ w.grownBy w' none := by
  obtain ⟨i0, hi, hz0, hz1, hz2⟩ := info_parts inf_u8
  go_enter Try.func11, Try.ntmps11
  go_wp2_with (refine wpList_mk rfl (.tmp 6) (.tmp 6) 23 rfl 5 i0 (.int .u8 0) 1 Try.underlying23 hi hz0 hz1 hz2 rfl n .i64 .i64 rfl rfl (by unfold maxLen; omega) (by omega) ?_; intro w1 hown1 hg1)
  go_loopw [4] (fun i wr => ∃ k : Nat, k ≤ n ∧ i = .int .i64 k ∧ Ow w.heap.size wr 5 (some ⟨w.heap.size, 0, none⟩) n n (bys (l.take k) ++ List.replicate (n - k) (.int .u8 0)) ∧ w.grownBy wr none) (fun i _ => n - (intOf i).toNat)
  case atStart => exact ⟨0, by omega, rfl, by simpa [bys] using hown1, hg1⟩
  case round =>
    obtain ⟨k, hk, rfl, hown, hg⟩ := hrel
    by_cases hlt : k < n
    · obtain ⟨b, off, x, rfl, hx, hsrc⟩ := (hrd.keep0 hg).byte k hlt
      obtain ⟨hfz, u, hcl, _⟩ := hown.at k hlt
      go_wp2
      go_roundw
      case rel =>
        refine ⟨k + 1, by omega, by go_num, ?_, gb_set hg (.inl (Nat.le_refl _)) _⟩
        have := hown.set k (.int .u8 (x.toNat : Int))
        rwa [fill_set _ _ _ _ _ hlt (by have := hrd.blen; simp [bys_len]; omega), show bys (l.take k) ++ [.int .u8 (x.toNat : Int)] = bys (l.take (k + 1)) by rw [take_succ_some hx.out, bys_app]; rfl] at this
      case measure => simp [intOf]; omega
    · obtain rfl : n = k := by omega
      go_wp2
      go_ret
      refine ⟨_, _, rfl, ?_, hg⟩
      rw [Nat.sub_self, List.take_of_length_le (by have := hrd.blen; omega)] at hown
      simpa using hown
set_option maxHeartbeats 400000 in
theorem laws_eqByteS (a b : Option Addr) (n c m d : Nat) (l k : List UInt8) (w : World) (ha : Rd w a n c (bys l)) (hb : Rd w b m d (bys k)) (hn : n ≤ 1073741824) (hm : m ≤ 1073741824) :
    Calls Try.prog 13 #[.slice a n c, .slice b m d] w fun e w' => e = .returned (.bool (l == k)) ∧ Qt w w' := by
  by_cases hnm : n = m
  · subst hnm
    go_enter Try.func13, Try.ntmps13
    go_wp2
    go_loopw [5] (fun i wr => ∃ j : Nat, j ≤ n ∧ i = .int .i64 j ∧ Qt w wr ∧ l.take j = k.take j) (fun i _ => n - (intOf i).toNat)
    case atStart => exact ⟨0, by omega, rfl, Qt.refl w, rfl⟩
    case round =>
      obtain ⟨j, hj, rfl, hq, hpre⟩ := hrel
      have Hp := Lib.hid hpre
      clear hpre
      by_cases hlt : j < n
      · obtain ⟨b1, o1, x, rfl, hx, h1⟩ := (ha.qt hq).byte j hlt
        obtain ⟨b2, o2, y, rfl, hy, h2⟩ := (hb.qt hq).byte j hlt
        by_cases he : x = y
        · subst he
          go_wp2
          go_quiet (fail)
          go_wp2
          go_roundw
          case rel => exact ⟨j + 1, by omega, by go_num, hq.drewN _, by rw [take_succ_some hx.out, take_succ_some hy.out, Hp.out]⟩
          case measure => simp [intOf]; omega
        · have hne := u8_neq he
          go_wp2
          go_quiet (fail)
          go_wp2
          go_ret
          refine ⟨?_, hq.drewN _⟩
          rw [beq_f (fun e => he (by have h1 := hx.out; have h2 := hy.out; rw [e, h2] at h1; exact (Option.some.inj h1).symm))]
          rfl
      · obtain rfl : j = n := by omega
        go_wp2
        go_ret
        refine ⟨?_, hq⟩
        have h := Hp.out
        rw [List.take_of_length_le (by have := ha.blen; omega), List.take_of_length_le (by have := hb.blen; omega)] at h
        rw [beq_t h]
        rfl
  · have hne : (n != m) = true := by simpa using hnm
    go_enter Try.func13, Try.ntmps13
    go_wp2
    go_ret
    refine ⟨?_, Qt.refl w⟩
    rw [beq_f (fun e => hnm (by have := ha.blen; have := hb.blen; subst e; omega))]
    rfl
end Go.Proofs.Ytgdhciebmcpkaaa
