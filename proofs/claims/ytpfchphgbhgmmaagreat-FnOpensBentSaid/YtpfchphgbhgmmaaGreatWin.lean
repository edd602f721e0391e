/-
  Contracts of the functions on windows. Conditions: none beside those that each theorem names.
-/
import Derived.Test.YtpfchphgbhgmmaaGreatWinP
namespace Go.Proofs.YtpfchphgbhgmmaaGreat
open Go.RowKit
theorem WinR.len {w : World} {v : Value} {f : WinM} {m : Nat} (_h : WinR w v f) (hl : f.bits.length = m) : f.bits.length = m := hl
theorem impl_hasBit (v : Value) (f : WinM) (n : Int) (w : World) (h : WinR w v f) (hl : areW f.bits 32 = true) (h0 : 0 ≤ n) (hn : n ≤ 281474976710656) :
    Calls Tryz.prog 42 #[v, .int .i64 n] w fun e w' => e = .returned (.bool (winBit f.bits n.toNat)) ∧ w.grownBy w' none := by
  obtain ⟨n, rfl⟩ := Int.eq_ofNat_of_zero_le h0
  rw [Int.toNat_natCast]
  obtain ⟨a1, n1, c1, rfl, h1⟩ := h
  have Hl := Lib.hid hl
  have hi : n % 1024 / 32 < n1 := by have := (areW_of hl).1; have := h1.ilen; omega
  clear hl
  obtain ⟨b, off, x, rfl, hx, hc⟩ := (h1.keep0 (gb_alloc (gb_refl w) (.cells #[.int .i64 f.top, .slice a1 n1 c1] 26))).int _ hi
  go_enter Tryz.func42, Tryz.ntmps42
  go_wp2
  go_ret
  exact ⟨ret_b (winBit_at Hl.out hx.out).symm, gb_alloc (gb_refl _) _⟩
theorem spec_l8Bit (v : Value) (f : WinM) (n : Int) (w : World) (h : WinR w v f) (hl : areW f.bits 32 = true) (h0 : 0 ≤ n) (hn : n ≤ 281474976710656) :
    Calls Tryz.prog 72 #[v, .int .i64 n] w fun e w' => e = .returned (.bool (winBit f.bits n.toNat)) ∧ w.grownBy w' none := by
  obtain ⟨n, rfl⟩ := Int.eq_ofNat_of_zero_le h0
  rw [Int.toNat_natCast]
  obtain ⟨a1, n1, c1, rfl, h1⟩ := h
  have Hl := Lib.hid hl
  have hi : n % 1024 / 32 < n1 := by have := (areW_of hl).1; have := h1.ilen; omega
  clear hl
  obtain ⟨b, off, x, rfl, hx, hc⟩ := (h1.keep0 (gb_alloc (gb_refl w) (.cells #[.int .i64 f.top, .slice a1 n1 c1] 26))).int _ hi
  go_enter Tryz.func72, Tryz.ntmps72
  go_wp2
  go_ret
  exact ⟨ret_b (winBit_at Hl.out hx.out).symm, gb_alloc (gb_refl _) _⟩
set_option maxHeartbeats 400000 in
theorem impl_areWords (a : Option Addr) (n c m : Nat) (l : List Int) (w : World) (h : Rd w a n c (ins l)) (hn : n ≤ 1073741824) :
    Calls Tryz.prog 67 #[.slice a n c, .int .i64 m] w fun e w' => e = .returned (.bool (areW l m)) ∧ w = w' := by
  go_enter Tryz.func67, Tryz.ntmps67
  go_wp2
  go_loop [9] (fun i => ∃ j : Nat, j ≤ n ∧ i = .int .i64 j ∧ ∀ x ∈ l.take j, inB x 0 4294967295 = true) (fun i => n - (intOf i).toNat)
  case atStart => exact ⟨0, by omega, rfl, by simp⟩
  case round =>
    obtain ⟨j, hj, rfl, hpre⟩ := hrel
    have Hp := Lib.hid hpre
    clear hpre
    by_cases hlt : j < n
    · obtain ⟨b, off, x, rfl, hx, hc⟩ := h.int j hlt
      by_cases hw : inB x 0 4294967295 = true
      · go_wp2_with (go_at_call 34; refine (impl_within _ _ _ _).mono ?_; rintro e w' ⟨rfl, rfl⟩)
        go_round
        case rel => exact ⟨j + 1, by omega, by go_num, by rw [take_succ_some hx.out]; intro y hy; rcases List.mem_append.1 hy with h1 | h1; exact Hp.out y h1; rw [List.mem_singleton.1 h1]; exact hw⟩
        case measure => simp [intOf]; omega
      · have hw' : inB x 0 4294967295 = false := by simpa using hw
        go_wp2_with (go_at_call 34; refine (impl_within _ _ _ _).mono ?_; rintro e w' ⟨rfl, rfl⟩)
        go_ret
        refine ⟨ret_b ?_, rfl⟩
        have hm : x ∈ l := List.mem_of_getElem? hx.out
        simp only [areW]
        rw [show l.all (fun x => inB x 0 4294967295) = false by rw [List.all_eq_false]; exact ⟨x, hm, by rw [hw']; simp⟩]
        rfl
    · obtain rfl : j = n := by omega
      go_wp2
      go_ret
      refine ⟨ret_b ?_, rfl⟩
      have hl := h.ilen
      have hp := Hp.out
      rw [List.take_of_length_le (by omega)] at hp
      simp only [areW]
      rw [show l.all (fun x => inB x 0 4294967295) = true by rw [List.all_eq_true]; exact hp, hl, Bool.eq_iff_iff]
      simp
      omega
theorem winOk_f1 {f : WinM} (h : ¬ inB f.top (-1) 281474976710655 = true) : winOk f = false := by simp [winOk, h]
theorem winOk_f2 {f : WinM} (h : ¬ areW f.bits 32 = true) : winOk f = false := by simp [winOk, h]
theorem winOk_f3 {f : WinM} (h : ¬ noneAbove f = true) : winOk f = false := by simp [winOk, h]
theorem winOk_t {f : WinM} (h1 : inB f.top (-1) 281474976710655 = true) (h2 : areW f.bits 32 = true) (h3 : noneAbove f = true) : winOk f = topBit f := by simp [winOk, h1, h2, h3]
set_option maxRecDepth 100000 in
set_option maxHeartbeats 1000000 in
theorem impl_WinOk (v : Value) (f : WinM) (w : World) (h : WinR w v f) (hn : f.bits.length ≤ 1073741824) :
    Calls Tryz.prog 41 #[v] w fun e w' => e = .returned (.bool (winOk f)) ∧ w.grownBy w' none := by
  obtain ⟨a1, n1, c1, rfl, h1⟩ := h
  have hl := h1.ilen
  have hn1 : n1 ≤ 1073741824 := by omega
  clear hl hn
  have B0 := bx1 w #[.int .i64 f.top, .slice a1 n1 c1] 26
  have g0 := gb_alloc (gb_refl w) (.cells #[.int .i64 f.top, .slice a1 n1 c1] 26)
  by_cases hA : inB f.top (-1) 281474976710655 = true
  · by_cases hB : areW f.bits 32 = true
    · have hb := inB_iff.1 hA
      have hbl := hb.1
      have hbu := hb.2
      clear hb
      go_enter Tryz.func41, Tryz.ntmps41
      go_wp2_with (first | (go_at_call 34; refine (impl_within _ _ _ _).mono ?_; rintro e w' ⟨rfl, rfl⟩) | (go_at_call 67; refine (impl_areWords _ _ _ 32 f.bits _ (h1.keep0 g0) hn1).mono ?_; rintro e w' ⟨rfl, rfl⟩))
      go_loopw [3] (fun i wr => ∃ k : Nat, i = .int .i64 k ∧ f.top < k ∧ k ≤ 281474976710656 ∧ w.grownBy wr none ∧ Bx wr w.heap.size 26 #[.int .i64 f.top, .slice a1 n1 c1] ∧ ∀ m : Nat, f.top < m → m < k → m < 1024 → winBit f.bits m = false) (fun i _ => 1024 - (intOf i).toNat)
      case atStart =>
        exact ⟨(f.top + 1).toNat, by congr 1; omega, by omega, by omega, g0, B0, fun m h1 h2 => by omega⟩
      case round =>
        obtain ⟨k, rfl, hk1, hk2, hg, hbx, hpre⟩ := hrel
        have Hp := Lib.hid hpre
        clear hpre B0
        have hcp := fun o => hbx.cell o
        by_cases hlt : k < 1024
        · by_cases hbit : winBit f.bits k = true
          · go_wp2_with fail
            refine (impl_hasBit _ f k _ ⟨_, _, _, rfl, h1.keep0 hg⟩ hB (by omega) (by omega)).mono ?_
            rintro e w2 ⟨rfl, g2⟩
            rw [Int.toNat_natCast]
            go_wp2
            go_ret
            refine ⟨ret_b ?_, gb_trans hg g2⟩
            rw [winOk_f3]
            intro h9
            have := noneAbove_iff.1 h9 k hlt hk1
            rw [hbit] at this
            cases this
          · have hbf : winBit f.bits k = false := by simpa using hbit
            go_wp2_with fail
            refine (impl_hasBit _ f k _ ⟨_, _, _, rfl, h1.keep0 hg⟩ hB (by omega) (by omega)).mono ?_
            rintro e w2 ⟨rfl, g2⟩
            rw [Int.toNat_natCast]
            go_wp2
            go_roundw
            case rel => exact ⟨k + 1, by go_num, by omega, by omega, gb_trans hg g2, hbx.keep0 g2, fun m h1 h2 h3 => by
              by_cases e : m = k
              · rw [e]; exact hbf
              · exact Hp.out m h1 (by omega) h3⟩
            case measure => simp [intOf]; omega
        · have h3 : Hid (noneAbove f = true) := noneAbove_iff.2 (fun m h1 h2 => Hp.out m h2 (by omega) h1)
          by_cases ht : f.top = -1
          · have ht' : (f.top == -1) = true := by simpa using ht
            clear ht
            go_wp2
            go_ret
            refine ⟨ret_b ?_, hg⟩
            rw [winOk_t hA hB h3.out, topBit, ht']
            rfl
          · have ht' : (f.top == -1) = false := by simpa using ht
            have ht0 : 0 ≤ f.top := by omega
            clear ht
            go_wp2_with fail
            refine (impl_hasBit _ f f.top _ ⟨_, _, _, rfl, h1.keep0 hg⟩ hB ht0 (by omega)).mono ?_
            rintro e w2 ⟨rfl, g2⟩
            go_wp2
            go_ret
            refine ⟨ret_b ?_, gb_trans hg g2⟩
            rw [winOk_t hA hB h3.out, topBit, ht']
            rfl
    · have hB' : areW f.bits 32 = false := by simpa using hB
      rw [winOk_f2 hB]
      go_enter Tryz.func41, Tryz.ntmps41
      go_wp2_with (first | (go_at_call 34; refine (impl_within _ _ _ _).mono ?_; rintro e w' ⟨rfl, rfl⟩) | (go_at_call 67; refine (impl_areWords _ _ _ 32 f.bits _ (h1.keep0 g0) hn1).mono ?_; rintro e w' ⟨rfl, rfl⟩))
      go_ret
      exact ⟨rfl, g0⟩
  · have hA' : inB f.top (-1) 281474976710655 = false := by simpa using hA
    rw [winOk_f1 hA]
    go_enter Tryz.func41, Tryz.ntmps41
    go_wp2_with (go_at_call 34; refine (impl_within _ _ _ _).mono ?_; rintro e w' ⟨rfl, rfl⟩)
    go_ret
    exact ⟨rfl, g0⟩
theorem winOk_f4 {f : WinM} (h : ¬ topBit f = true) : winOk f = false := by simp [winOk, h]
theorem winOk_t4 {f : WinM} (h1 : inB f.top (-1) 281474976710655 = true) (h2 : areW f.bits 32 = true) (h3 : noneAbove f = true) (h4 : topBit f = true) : winOk f = true := by simp [winOk, h1, h2, h3, h4]
theorem areW_intro {l : List Int} {n : Nat} (h1 : l.length = n) (h2 : ∀ x ∈ l, inB x 0 4294967295 = true) : areW l n = true := by
  simp only [areW, Bool.and_eq_true, List.all_eq_true, beq_iff_eq]
  exact ⟨h2, h1⟩
set_option maxRecDepth 100000 in
set_option maxHeartbeats 1000000 in
theorem spec_WinOk (v : Value) (f : WinM) (w : World) (h : WinR w v f) :
    Calls Tryz.prog 60 #[v] w fun e w' => e = .returned (.bool (winOk f)) ∧ w.grownBy w' none := by
  obtain ⟨a1, n1, c1, rfl, h1⟩ := h
  have Hl := Lib.hid h1.ilen
  have B0 := bx1 w #[.int .i64 f.top, .slice a1 n1 c1] 26
  have g0 := gb_alloc (gb_refl w) (.cells #[.int .i64 f.top, .slice a1 n1 c1] 26)
  by_cases hA : inB f.top (-1) 281474976710655 = true
  · by_cases hL : n1 = 32
    · subst hL
      have hb := inB_iff.1 hA
      have hbl := hb.1
      have hbu := hb.2
      clear hb
      go_enter Tryz.func60, Tryz.ntmps60
      go_wp2_with (go_at_call 59; refine (spec_l1In _ _ _ _).mono ?_; rintro e w' ⟨rfl, rfl⟩)
      go_loopw [3] (fun i wr => ∃ k : Nat, i = .int .i64 k ∧ k ≤ 32 ∧ w.grownBy wr none ∧ Bx wr w.heap.size 26 #[.int .i64 f.top, .slice a1 32 c1] ∧ ∀ x ∈ f.bits.take k, inB x 0 4294967295 = true) (fun i _ => 32 - (intOf i).toNat)
      case atStart => exact ⟨0, rfl, by omega, g0, B0, by simp⟩
      case round =>
        obtain ⟨k, rfl, hk, hg, hbx, hpre⟩ := hrel
        have Hp := Lib.hid hpre
        clear hpre B0
        have hcp := fun o => hbx.cell o
        by_cases hlt : k < 32
        · obtain ⟨b, off, x, rfl, hx, hc⟩ := (h1.keep0 hg).int k hlt
          by_cases hw : inB x 0 4294967295 = true
          · go_wp2_with (go_at_call 59; refine (spec_l1In _ _ _ _).mono ?_; rintro e w' ⟨rfl, rfl⟩)
            go_roundw
            case rel => exact ⟨k + 1, by go_num, by omega, hg, hbx, by rw [take_succ_some hx.out]; intro y hy; rcases List.mem_append.1 hy with h1 | h1; exact Hp.out y h1; rw [List.mem_singleton.1 h1]; exact hw⟩
            case measure => simp [intOf]; omega
          · have hw' : inB x 0 4294967295 = false := by simpa using hw
            go_wp2_with (go_at_call 59; refine (spec_l1In _ _ _ _).mono ?_; rintro e w' ⟨rfl, rfl⟩)
            go_ret
            refine ⟨ret_b ?_, hg⟩
            rw [winOk_f2]
            intro h9
            have := (areW_of h9).2 x (List.mem_of_getElem? hx.out)
            exact hw (inB_iff.2 this)
        · obtain rfl : k = 32 := by omega
          have hB : areW f.bits 32 = true := areW_intro Hl.out (by have := Hp.out; rwa [List.take_of_length_le (by have := Hl.out; omega)] at this)
          clear Hp
          by_cases ht : f.top = -1
          · have hT : Hid (topBit f = true) := by simp [Hid, topBit, ht]
            have ht1 : decide (0 ≤ f.top) = false := by simp [ht]
            have ht2 : f.top < 0 := by omega
            clear ht
            go_wp2
            go_loopw [4] (fun i wr => ∃ k : Nat, i = .int .i64 k ∧ f.top < k ∧ k ≤ 281474976710656 ∧ w.grownBy wr none ∧ Bx wr w.heap.size 26 #[.int .i64 f.top, .slice a1 32 c1] ∧ ∀ m : Nat, f.top < m → m < k → m < 1024 → winBit f.bits m = false) (fun i _ => 1024 - (intOf i).toNat)
            case atStart => exact ⟨(f.top + 1).toNat, by congr 1; omega, by omega, by omega, hg, hbx, fun m h1 h2 => by omega⟩
            case round =>
              obtain ⟨k2, rfl, hk1, hk2, hg3, hbx3, hpre⟩ := hrel
              have Hp := Lib.hid hpre
              clear hpre hcp
              have hcp := fun o => hbx3.cell o
              by_cases hlt2 : k2 < 1024
              · by_cases hbit : winBit f.bits k2 = true
                · go_wp2_with fail
                  refine (spec_l8Bit _ f k2 _ ⟨_, _, _, rfl, h1.keep0 hg3⟩ hB (by omega) (by omega)).mono ?_
                  rintro e w5 ⟨rfl, g5⟩
                  rw [Int.toNat_natCast]
                  go_wp2
                  go_ret
                  refine ⟨ret_b ?_, gb_trans hg3 g5⟩
                  rw [winOk_f3]
                  intro h9
                  have := noneAbove_iff.1 h9 k2 hlt2 hk1
                  rw [hbit] at this
                  cases this
                · have hbf : winBit f.bits k2 = false := by simpa using hbit
                  go_wp2_with fail
                  refine (spec_l8Bit _ f k2 _ ⟨_, _, _, rfl, h1.keep0 hg3⟩ hB (by omega) (by omega)).mono ?_
                  rintro e w5 ⟨rfl, g5⟩
                  rw [Int.toNat_natCast]
                  go_wp2
                  have R := (⟨k2 + 1, by go_num, by omega, by omega, gb_trans hg3 g5, hbx3.keep0 g5, fun m h1 h2 h3 => by
                    by_cases e : m = k2
                    · rw [e]; exact hbf
                    · exact Hp.out m h1 (by omega) h3⟩ : ∃ k : Nat, Value.int .i64 ((k2 : Int) + 1) = .int .i64 k ∧ f.top < k ∧ k ≤ 281474976710656 ∧ w.grownBy w5 none ∧ Bx w5 w.heap.size 26 #[.int .i64 f.top, .slice a1 32 c1] ∧ ∀ m : Nat, f.top < m → m < k → m < 1024 → winBit f.bits m = false)
                  refine ⟨?_, by simp [intOf]; omega⟩
                  repeat apply Exists.intro
                  exact ⟨R, rfl⟩
              · have h3 : Hid (noneAbove f = true) := noneAbove_iff.2 (fun m h1 h2 => Hp.out m h2 (by omega) h1)
                go_wp2
                go_ret
                refine ⟨ret_b ?_, hg3⟩
                rw [winOk_t4 hA hB h3.out hT.out]
          · have ht0 : 0 ≤ f.top := by omega
            have ht' : (f.top == -1) = false := by simpa using ht
            clear ht
            by_cases htb : winBit f.bits f.top.toNat = true
            · have hT : Hid (topBit f = true) := by simp [Hid, topBit, htb]
              go_wp2_with fail
              refine (spec_l8Bit _ f f.top _ ⟨_, _, _, rfl, h1.keep0 hg⟩ hB ht0 (by omega)).mono ?_
              rintro e w2 ⟨rfl, g2⟩
              have hbx2 := hbx.keep0 g2
              have hgg := gb_trans hg g2
              clear hcp
              have hcp := fun o => hbx2.cell o
              go_wp2
              go_loopw [4] (fun i wr => ∃ k : Nat, i = .int .i64 k ∧ f.top < k ∧ k ≤ 281474976710656 ∧ w.grownBy wr none ∧ Bx wr w.heap.size 26 #[.int .i64 f.top, .slice a1 32 c1] ∧ ∀ m : Nat, f.top < m → m < k → m < 1024 → winBit f.bits m = false) (fun i _ => 1024 - (intOf i).toNat)
              case atStart => exact ⟨(f.top + 1).toNat, by congr 1; omega, by omega, by omega, hgg, hbx2, fun m h1 h2 => by omega⟩
              case round =>
                obtain ⟨k2, rfl, hk1, hk2, hg3, hbx3, hpre⟩ := hrel
                have Hp := Lib.hid hpre
                clear hpre hcp
                have hcp := fun o => hbx3.cell o
                by_cases hlt2 : k2 < 1024
                · by_cases hbit : winBit f.bits k2 = true
                  · go_wp2_with fail
                    refine (spec_l8Bit _ f k2 _ ⟨_, _, _, rfl, h1.keep0 hg3⟩ hB (by omega) (by omega)).mono ?_
                    rintro e w5 ⟨rfl, g5⟩
                    rw [Int.toNat_natCast]
                    go_wp2
                    go_ret
                    refine ⟨ret_b ?_, gb_trans hg3 g5⟩
                    rw [winOk_f3]
                    intro h9
                    have := noneAbove_iff.1 h9 k2 hlt2 hk1
                    rw [hbit] at this
                    cases this
                  · have hbf : winBit f.bits k2 = false := by simpa using hbit
                    go_wp2_with fail
                    refine (spec_l8Bit _ f k2 _ ⟨_, _, _, rfl, h1.keep0 hg3⟩ hB (by omega) (by omega)).mono ?_
                    rintro e w5 ⟨rfl, g5⟩
                    rw [Int.toNat_natCast]
                    go_wp2
                    go_roundw
                    case rel => exact ⟨k2 + 1, by go_num, by omega, by omega, gb_trans hg3 g5, hbx3.keep0 g5, fun m h1 h2 h3 => by
                      by_cases e : m = k2
                      · rw [e]; exact hbf
                      · exact Hp.out m h1 (by omega) h3⟩
                    case measure => simp [intOf]; omega
                · have h3 : Hid (noneAbove f = true) := noneAbove_iff.2 (fun m h1 h2 => Hp.out m h2 (by omega) h1)
                  go_wp2
                  go_ret
                  refine ⟨ret_b ?_, hg3⟩
                  rw [winOk_t4 hA hB h3.out hT.out]
            · have htf : winBit f.bits f.top.toNat = false := by simpa using htb
              go_wp2_with fail
              refine (spec_l8Bit _ f f.top _ ⟨_, _, _, rfl, h1.keep0 hg⟩ hB ht0 (by omega)).mono ?_
              rintro e w2 ⟨rfl, g2⟩
              go_wp2
              go_ret
              refine ⟨ret_b ?_, gb_trans hg g2⟩
              rw [winOk_f4]
              simp [topBit, ht', htf]
    · have hL' : ((n1 : Int) != 32) = true := by rw [bne_iff_ne]; omega
      go_enter Tryz.func60, Tryz.ntmps60
      go_wp2
      go_ret
      refine ⟨ret_b ?_, g0⟩
      rw [winOk_f2]
      intro h9
      have := (areW_of h9).1
      have := Hl.out
      omega
  · have hA' : inB f.top (-1) 281474976710655 = false := by simpa using hA
    rw [winOk_f1 hA]
    by_cases hL : n1 = 32
    · subst hL
      go_enter Tryz.func60, Tryz.ntmps60
      go_wp2_with (go_at_call 59; refine (spec_l1In _ _ _ _).mono ?_; rintro e w' ⟨rfl, rfl⟩)
      go_ret
      exact ⟨rfl, g0⟩
    · have hL' : ((n1 : Int) != 32) = true := by rw [bne_iff_ne]; omega
      go_enter Tryz.func60, Tryz.ntmps60
      go_wp2
      go_ret
      exact ⟨rfl, g0⟩
theorem winOk_bd {f : WinM} (h : winOk f = true) : -1 ≤ f.top ∧ f.top ≤ 281474976710655 ∧ areW f.bits 32 = true := by
  simp only [winOk, Bool.and_eq_true] at h
  have := inB_iff.1 h.1.1.1
  exact ⟨this.1, this.2, h.1.1.2⟩
def least (top : Int) : Int := if top < 1024 then 0 else top - 1023
def winHas (f : WinM) (n : Int) : Bool := winOk f && inB n (least f.top) f.top && winBit f.bits n.toNat
def winMay (f : WinM) (n : Int) : Bool := winOk f && inB n 0 281474976710655 && (decide (f.top < n) || (decide (least f.top ≤ n) && !winBit f.bits n.toNat))
theorem max_least (top : Int) (h : -1 ≤ top) : max 0 (top - 1024 + 1) = least top := by unfold least; split <;> omega
set_option maxRecDepth 100000 in
set_option maxHeartbeats 1000000 in
theorem impl_WinHas (v : Value) (f : WinM) (n : Int) (w : World) (h : WinR w v f) (hn : f.bits.length ≤ 1073741824) :
    Calls Tryz.prog 16 #[v, .int .i64 n] w fun e w' => e = .returned (.bool (winHas f n)) ∧ w.grownBy w' none := by
  obtain ⟨a1, n1, c1, rfl, h1⟩ := h
  have B0 := bx1 w #[.int .i64 f.top, .slice a1 n1 c1] 26
  have g0 := gb_alloc (gb_refl w) (.cells #[.int .i64 f.top, .slice a1 n1 c1] 26)
  go_enter Tryz.func16, Tryz.ntmps16
  go_wp2_with fail
  refine (impl_WinOk _ f _ ⟨_, _, _, rfl, h1.keep0 g0⟩ hn).mono ?_
  rintro e w1 ⟨rfl, g1⟩
  replace B0 := B0.keep0 g1
  have G1 := gb_trans g0 g1
  clear g0 g1
  have hcp := fun o => B0.cell o
  by_cases hok : winOk f = true
  · obtain ⟨hb1, hb2, hb3⟩ := winOk_bd hok
    by_cases hd : 0 < f.top - 1024 + 1
    · have hle : Hid (least f.top = f.top - 1024 + 1) := by simp only [Hid, least]; rw [if_neg (by omega)]; omega
      by_cases hin : inB n (f.top - 1024 + 1) f.top = true
      · have hi := inB_iff.1 hin
        have h0 : 0 ≤ n := by have := hi.1; omega
        clear hi
        go_wp2_with fail
        refine (impl_within _ _ _ _).mono ?_
        rintro e w' ⟨rfl, rfl⟩
        go_wp2_with fail
        refine (impl_hasBit _ f n _ ⟨_, _, _, rfl, h1.keep0 G1⟩ hb3 h0 (by have := (inB_iff.1 hin).2; omega)).mono ?_
        rintro e w2 ⟨rfl, g2⟩
        go_wp2
        go_ret
        refine ⟨ret_b ?_, gb_trans G1 g2⟩
        simp [winHas, hok, hin, hle.out]
      · have hf : inB n (f.top - 1024 + 1) f.top = false := by simpa using hin
        go_wp2_with fail
        refine (impl_within _ _ _ _).mono ?_
        rintro e w' ⟨rfl, rfl⟩
        go_wp2
        go_ret
        refine ⟨ret_b ?_, G1⟩
        simp [winHas, hf, hle.out]
    · have hle : Hid (least f.top = 0) := by simp only [Hid, least]; rw [if_pos (by omega)]
      by_cases hin : inB n (0) f.top = true
      · have hi := inB_iff.1 hin
        have h0 : 0 ≤ n := by have := hi.1; omega
        clear hi
        go_wp2_with fail
        refine (impl_within _ _ _ _).mono ?_
        rintro e w' ⟨rfl, rfl⟩
        go_wp2_with fail
        refine (impl_hasBit _ f n _ ⟨_, _, _, rfl, h1.keep0 G1⟩ hb3 h0 (by have := (inB_iff.1 hin).2; omega)).mono ?_
        rintro e w2 ⟨rfl, g2⟩
        go_wp2
        go_ret
        refine ⟨ret_b ?_, gb_trans G1 g2⟩
        simp [winHas, hok, hin, hle.out]
      · have hf : inB n (0) f.top = false := by simpa using hin
        go_wp2_with fail
        refine (impl_within _ _ _ _).mono ?_
        rintro e w' ⟨rfl, rfl⟩
        go_wp2
        go_ret
        refine ⟨ret_b ?_, G1⟩
        simp [winHas, hf, hle.out]
  · have hf : winOk f = false := by simpa using hok
    go_wp2
    go_ret
    refine ⟨ret_b ?_, G1⟩
    simp [winHas, hf]
theorem spec_l8Least (x : Int) (w : World) (h1 : -1 ≤ x) (h2 : x ≤ 281474976710655) : Calls Tryz.prog 71 #[.int .i64 x] w fun e w' => e = .returned (.int .i64 (least x)) ∧ w = w' := by
  by_cases h : x < 1024
  · rw [show least x = 0 by simp [least, h]]
    go_enter Tryz.func71, Tryz.ntmps71
    go_wp2
    go_ret
    exact ⟨rfl, rfl⟩
  · rw [show least x = x - 1024 + 1 by simp only [least]; rw [if_neg h]; omega]
    go_enter Tryz.func71, Tryz.ntmps71
    go_wp2
    go_ret
    exact ⟨rfl, rfl⟩
set_option maxRecDepth 100000 in
set_option maxHeartbeats 1000000 in
theorem impl_WinMay (v : Value) (f : WinM) (n : Int) (w : World) (h : WinR w v f) (hn : f.bits.length ≤ 1073741824) :
    Calls Tryz.prog 65 #[v, .int .i64 n] w fun e w' => e = .returned (.bool (winMay f n)) ∧ w.grownBy w' none := by
  obtain ⟨a1, n1, c1, rfl, h1⟩ := h
  have B0 := bx1 w #[.int .i64 f.top, .slice a1 n1 c1] 26
  have g0 := gb_alloc (gb_refl w) (.cells #[.int .i64 f.top, .slice a1 n1 c1] 26)
  go_enter Tryz.func65, Tryz.ntmps65
  go_wp2_with fail
  refine (impl_WinOk _ f _ ⟨_, _, _, rfl, h1.keep0 g0⟩ hn).mono ?_
  rintro e w1 ⟨rfl, g1⟩
  replace B0 := B0.keep0 g1
  have G1 := gb_trans g0 g1
  clear g0 g1
  have hcp := fun o => B0.cell o
  by_cases hok : winOk f = true
  · obtain ⟨hb1, hb2, hb3⟩ := winOk_bd hok
    by_cases hin : inB n 0 281474976710655 = true
    · have hi := inB_iff.1 hin
      have h0 := hi.1
      have h01 := hi.2
      clear hi
      go_wp2_with fail
      refine (impl_within _ _ _ _).mono ?_
      rintro e w' ⟨rfl, rfl⟩
      by_cases d1 : f.top < n
      · go_wp2
        go_ret
        refine ⟨ret_b ?_, G1⟩
        simp [winMay, hok, hin, d1]
      · have E1 : Hid (decide (f.top < n) = false) := by simp [Hid]; omega
        by_cases d2 : f.top - 1024 + 1 ≤ n
        · have hle : Hid (least f.top ≤ n) := by simp only [Hid, least]; split <;> omega
          go_wp2_with fail
          refine (impl_hasBit _ f n _ ⟨_, _, _, rfl, h1.keep0 G1⟩ hb3 h0 (by omega)).mono ?_
          rintro e w2 ⟨rfl, g2⟩
          go_wp2
          go_ret
          refine ⟨ret_b ?_, gb_trans G1 g2⟩
          rw [winMay, hok, hin, E1.out, decide_eq_true hle.out]
          rfl
        · have hle : Hid (¬ least f.top ≤ n) := by simp only [Hid, least]; split <;> omega
          go_wp2
          go_ret
          refine ⟨ret_b ?_, G1⟩
          rw [winMay, E1.out, decide_eq_false (by have := hle.out; omega), hok, hin]
          rfl
    · have hf : inB n 0 281474976710655 = false := by simpa using hin
      go_wp2_with fail
      refine (impl_within _ _ _ _).mono ?_
      rintro e w' ⟨rfl, rfl⟩
      go_wp2
      go_ret
      refine ⟨ret_b ?_, G1⟩
      simp [winMay, hf]
  · have hf : winOk f = false := by simpa using hok
    go_wp2
    go_ret
    refine ⟨ret_b ?_, G1⟩
    simp [winMay, hf]
set_option maxRecDepth 100000 in
set_option maxHeartbeats 1000000 in
theorem spec_WinMay (v : Value) (f : WinM) (n : Int) (w : World) (h : WinR w v f) :
    Calls Tryz.prog 45 #[v, .int .i64 n] w fun e w' => e = .returned (.bool (winMay f n)) ∧ w.grownBy w' none := by
  obtain ⟨a1, n1, c1, rfl, h1⟩ := h
  have B0 := bx1 w #[.int .i64 f.top, .slice a1 n1 c1] 26
  have g0 := gb_alloc (gb_refl w) (.cells #[.int .i64 f.top, .slice a1 n1 c1] 26)
  go_enter Tryz.func45, Tryz.ntmps45
  go_wp2_with fail
  refine (spec_WinOk _ f _ ⟨_, _, _, rfl, h1.keep0 g0⟩).mono ?_
  rintro e w1 ⟨rfl, g1⟩
  replace B0 := B0.keep0 g1
  have G1 := gb_trans g0 g1
  clear g0 g1
  have hcp := fun o => B0.cell o
  by_cases hok : winOk f = true
  · obtain ⟨hb1, hb2, hb3⟩ := winOk_bd hok
    by_cases hin : inB n 0 281474976710655 = true
    · have hi := inB_iff.1 hin
      have h0 := hi.1
      have h01 := hi.2
      clear hi
      go_wp2_with fail
      refine (spec_l1In _ _ _ _).mono ?_
      rintro e w' ⟨rfl, rfl⟩
      by_cases d1 : f.top < n
      · go_wp2
        go_ret
        refine ⟨ret_b ?_, G1⟩
        simp [winMay, hok, hin, d1]
      · have E1 : Hid (decide (f.top < n) = false) := by simp [Hid]; omega
        by_cases d2 : f.top - 1024 + 1 ≤ n
        · have hle : Hid (least f.top ≤ n) := by simp only [Hid, least]; split <;> omega
          have hl3 := hle.out
          go_wp2_with fail
          refine (spec_l8Least _ _ hb1 hb2).mono ?_
          rintro e w' ⟨rfl, rfl⟩
          go_wp2_with fail
          refine (spec_l8Bit _ f n _ ⟨_, _, _, rfl, h1.keep0 G1⟩ hb3 h0 (by omega)).mono ?_
          rintro e w2 ⟨rfl, g2⟩
          go_wp2
          go_ret
          refine ⟨ret_b ?_, gb_trans G1 g2⟩
          rw [winMay, hok, hin, E1.out, decide_eq_true hle.out]
          rfl
        · have hle : Hid (¬ least f.top ≤ n) := by simp only [Hid, least]; split <;> omega
          have hl3 := hle.out
          go_wp2_with fail
          refine (spec_l8Least _ _ hb1 hb2).mono ?_
          rintro e w' ⟨rfl, rfl⟩
          go_wp2
          go_ret
          refine ⟨ret_b ?_, G1⟩
          rw [winMay, E1.out, decide_eq_false (by have := hle.out; omega), hok, hin]
          rfl
    · have hf : inB n 0 281474976710655 = false := by simpa using hin
      go_wp2_with fail
      refine (spec_l1In _ _ _ _).mono ?_
      rintro e w' ⟨rfl, rfl⟩
      go_wp2
      go_ret
      refine ⟨ret_b ?_, G1⟩
      simp [winMay, hf]
  · have hf : winOk f = false := by simpa using hok
    go_wp2
    go_ret
    refine ⟨ret_b ?_, G1⟩
    simp [winMay, hf]
end Go.Proofs.YtpfchphgbhgmmaaGreat
