/-
  Contracts of the keys of a session, of cookies' jars and of nonces. Conditions: none beside those that each theorem names.
-/
import Derived.Test.YtfjbfgonkimboaaKdf
import Derived.Deep.RegionHeld3
import Derived.Lib.SlBytesConst
namespace Go.Proofs.Ytfjbfgonkimboaa
open Go.RowKit
theorem rd_const (w : World) (e : TypeId) (C : Array Value) (s : List UInt8) (fr : Nat × Nat) (n g : Nat) (hg : g = w.heap.size) (hC : C.toList = bys s) (hn : C.size = n) : Rd (w.alloc (.cells C e fr)) (some ⟨g, 0, none⟩) n n (bys s) := by
  subst hg
  refine ⟨by rw [← hC]; simpa using hn, Nat.le_refl _, fun j hj => ⟨w.heap.size, 0, rfl, ?_⟩⟩
  rw [cell_of_row _ w.heap.size (0 + j) _ e fr (heap_alloc_new w _), Nat.zero_add, ← hC]
  simp
set_option maxRecDepth 1000000 in
theorem impl_FinishKey (a : Option Addr) (n c : Nat) (l : List UInt8) (w : World) (r : Rd w a n c (bys l)) : Calls Try.prog 93 #[.slice a n c] w (RetB w (finM l)) := by
  have L := Lib.hid r.blen
  cases hp : inB (n : Int) 1 32
  · rw [finM, if_neg (by rw [L.out]; intro h; rw [inB_t (by omega) (by omega)] at hp; cases hp)]
    go_enter Try.func93, Try.ntmps93
    go_wp2_with (go_at_call 117; refine (impl_PskOk _ _ _ _).mono ?_; rw [hp]; rintro e w' ⟨rfl, rfl⟩)
    go_ret
    exact ⟨_, _, _, rfl, Ow.nil _ _ _, (gb_refl _)⟩
  · have hq := inB_iff.1 hp
    rw [finM, if_pos (by rw [L.out]; omega)]
    have g0 := gb_alloc (gb_refl w) (.cells #[.int .u8 114, .int .u8 111, .int .u8 97, .int .u8 109] 5 (4, 5))
    have R0 : Rd (w.alloc (.cells #[.int .u8 114, .int .u8 111, .int .u8 97, .int .u8 109] 5 (4, 5))) (some ⟨w.heap.size, 0, none⟩) 4 4 (bys lRoam) := rd_const w _ #[.int .u8 114, .int .u8 111, .int .u8 97, .int .u8 109] lRoam (4, 5) 4 _ rfl rfl rfl
    have HL := hmacM_le lRoam l
    have cs := Lib.run_convert_bytes_const (P := Try.prog) w 22 5 #[.int .u8 114, .int .u8 111, .int .u8 97, .int .u8 109] 4 4 Try.underlying22 Try.underlying5
    have D := Lib.hid (show ∀ (a : Option Addr) (n c : Nat) (k : List UInt8) (w : World), Rd w a n c (bys k) → n ≤ 1048576 → Calls Try.prog 118 #[.slice a n c, .string { data := #[102, 105, 110, 105, 115, 104] }] w (RetB w (derM k lFin)) from fun a n c k w r h => impl_Derive a n c k lFin w r h (by decide))
    go_enter Try.func93, Try.ntmps93
    go_wp2_with (first
      | (go_at_call 117; refine (impl_PskOk _ _ _ _).mono ?_; rw [hp]; rintro e w' ⟨rfl, rfl⟩)
      | (go_at_call 119; refine (impl_Extract _ _ _ lRoam a n c l _ R0 (r.keep0 g0) (by omega) (by omega)).mono ?_; rintro e w2 ⟨a2, n2, c2, rfl, o2, g2⟩)
      | (go_at_call 118; (with_reducible refine (D.out a2 n2 c2 _ w2 o2.rd (by have := o2.blen; omega)).mono ?_); rintro e w4 ⟨a4, n4, c4, rfl, o4, g4⟩))
    go_ret
    exact retB o4 (gb_trans g0 g2).size (gb_trans (gb_trans g0 g2) g4) rfl
set_option maxRecDepth 1000000 in
theorem spec_FinishKey (a : Option Addr) (n c : Nat) (l : List UInt8) (w : World) (r : Rd w a n c (bys l)) : Calls Try.prog 90 #[.slice a n c] w (RetB w (finM l)) := by
  have L := Lib.hid r.blen
  cases hp : inB (n : Int) 1 32
  · rw [finM, if_neg (by rw [L.out]; intro h; rw [inB_t (by omega) (by omega)] at hp; cases hp)]
    go_enter Try.func90, Try.ntmps90
    go_wp2_with (go_at_call 114; refine (spec_PskOk _ _ _ _).mono ?_; rw [hp]; rintro e w' ⟨rfl, rfl⟩)
    go_ret
    exact ⟨_, _, _, rfl, new_own _ _, gb_alloc (gb_refl _) _⟩
  · have hq := inB_iff.1 hp
    rw [finM, if_pos (by rw [L.out]; omega)]
    have g0 := gb_alloc (gb_refl w) (.cells #[.int .u8 114, .int .u8 111, .int .u8 97, .int .u8 109] 5 (4, 5))
    have R0 : Rd (w.alloc (.cells #[.int .u8 114, .int .u8 111, .int .u8 97, .int .u8 109] 5 (4, 5))) (some ⟨w.heap.size, 0, none⟩) 4 4 (bys lRoam) := rd_const w _ #[.int .u8 114, .int .u8 111, .int .u8 97, .int .u8 109] lRoam (4, 5) 4 _ rfl rfl rfl
    have HL := hmacM_le lRoam l
    have cs := Lib.run_convert_bytes_const (P := Try.prog) w 22 5 #[.int .u8 114, .int .u8 111, .int .u8 97, .int .u8 109] 4 4 Try.underlying22 Try.underlying5
    have D := Lib.hid (show ∀ (a : Option Addr) (n c : Nat) (k : List UInt8) (w : World), Rd w a n c (bys k) → n ≤ 1048576 → Calls Try.prog 115 #[.slice a n c, .string { data := #[102, 105, 110, 105, 115, 104] }] w (RetB w (derM k lFin)) from fun a n c k w r h => spec_Derive a n c k lFin w r h (by decide))
    go_enter Try.func90, Try.ntmps90
    go_wp2_with (first
      | (go_at_call 114; refine (spec_PskOk _ _ _ _).mono ?_; rw [hp]; rintro e w' ⟨rfl, rfl⟩)
      | (go_at_call 116; refine (spec_Extract _ _ _ lRoam a n c l _ R0 (r.keep0 g0) (by omega) (by omega)).mono ?_; rintro e w2 ⟨a2, n2, c2, rfl, o2, g2⟩)
      | (go_at_call 115; (with_reducible refine (D.out a2 n2 c2 _ w2 o2.rd (by have := o2.blen; omega)).mono ?_); rintro e w4 ⟨a4, n4, c4, rfl, o4, g4⟩))
    go_ret
    exact retB o4 (gb_trans g0 g2).size (gb_trans (gb_trans g0 g2) g4) rfl
theorem rootM_no {psk cn sn : List UInt8} (h : rootOk psk.length cn.length sn.length = false) : rootM psk cn sn = [] := by simp [rootM, h]
theorem rootOk_f0 {p c s : Nat} (h : inB (p : Int) 1 32 = false) : rootOk p c s = false := by
  cases hx : rootOk p c s with
  | false => rfl
  | true =>
    simp [rootOk] at hx
    rw [inB_t (by omega) (by omega)] at h
    cases h
theorem rootOk_f1 {p c s : Nat} (h : ((c : Int) == 12) = false) : rootOk p c s = false := by
  cases hx : rootOk p c s with
  | false => rfl
  | true =>
    simp [rootOk] at hx
    simp at h
    omega
theorem rootOk_f2 {p c s : Nat} (h : ((s : Int) == 12) = false) : rootOk p c s = false := by
  cases hx : rootOk p c s with
  | false => rfl
  | true =>
    simp [rootOk] at hx
    simp at h
    omega
theorem rootOk_t {p c s : Nat} (h : inB (p : Int) 1 32 = true) (h1 : ((c : Int) == 12) = true) (h2 : ((s : Int) == 12) = true) : rootOk p c s = true := by
  have := inB_iff.1 h
  simp at h1 h2
  simp [rootOk]
  omega
end Go.Proofs.Ytfjbfgonkimboaa
