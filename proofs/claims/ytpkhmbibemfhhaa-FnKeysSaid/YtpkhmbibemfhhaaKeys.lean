/-
  Contracts of the keys of a session, of cookies' jars and of nonces. Conditions: none beside those that each theorem names.
-/
import Derived.Test.YtpkhmbibemfhhaaKdf
import Derived.Deep.RegionHeld3
import Derived.Lib.SlBytesConst
namespace Go.Proofs.Ytpkhmbibemfhhaa
open Go.RowKit
theorem rd_const (w : World) (e : TypeId) (C : Array Value) (s : List UInt8) (fr : Nat × Nat) (n g : Nat) (hg : g = w.heap.size) (hC : C.toList = bys s) (hn : C.size = n) : Rd (w.alloc (.cells C e fr)) (some ⟨g, 0, none⟩) n n (bys s) := by
  subst hg
  refine ⟨by rw [← hC]; simpa using hn, Nat.le_refl _, fun j hj => ⟨w.heap.size, 0, rfl, ?_⟩⟩
  rw [cell_of_row _ w.heap.size (0 + j) _ e fr (heap_alloc_new w _), Nat.zero_add, ← hC]
  simp
theorem impl_FirstKey (a : Option Addr) (n c : Nat) (l : List UInt8) (w : World) (r : Rd w a n c (bys l)) : Calls Try.prog 36 #[.slice a n c] w (RetB w (firstM l)) := by
  by_cases h : n = 32
  · subst h
    rw [firstM, if_pos r.blen]
    have C : Calls Try.prog 39 #[.slice a 32 c, .string { data := #[101, 112, 111, 99, 104] }] w (RetB w (derM l lEp)) := impl_Derive a 32 c l lEp w r (by omega) (by decide)
    go_enter Try.func36, Try.ntmps36
    go_wp2_with (go_at_call 39; refine C.mono ?_; clear C; rintro e w4 ⟨a4, n4, c4, rfl, o4, g4⟩)
    go_ret
    exact ⟨_, _, _, rfl, o4, g4⟩
  · have i : ((n : Int) != 32) = true := by simp; omega
    rw [firstM, if_neg (by rw [r.blen]; exact h)]
    go_enter Try.func36, Try.ntmps36
    go_wp2
    go_ret
    exact ⟨_, _, _, rfl, Ow.nil _ _ _, (gb_refl _)⟩
theorem spec_FirstKey (a : Option Addr) (n c : Nat) (l : List UInt8) (w : World) (r : Rd w a n c (bys l)) : Calls Try.prog 89 #[.slice a n c] w (RetB w (firstM l)) := by
  by_cases h : n = 32
  · subst h
    rw [firstM, if_pos r.blen]
    have C : Calls Try.prog 113 #[.slice a 32 c, .string { data := #[101, 112, 111, 99, 104] }] w (RetB w (derM l lEp)) := spec_Derive a 32 c l lEp w r (by omega) (by decide)
    go_enter Try.func89, Try.ntmps89
    go_wp2_with (go_at_call 113; refine C.mono ?_; clear C; rintro e w4 ⟨a4, n4, c4, rfl, o4, g4⟩)
    go_ret
    exact ⟨_, _, _, rfl, o4, g4⟩
  · have i : ((n : Int) != 32) = true := by simp; omega
    rw [firstM, if_neg (by rw [r.blen]; exact h)]
    go_enter Try.func89, Try.ntmps89
    go_wp2
    go_ret
    exact ⟨_, _, _, rfl, new_own _ _, gb_alloc (gb_refl _) _⟩
theorem rootM_no {psk cn sn : List UInt8} (h : rootOk psk.length cn.length sn.length = false) : rootM psk cn sn = [] := by simp [rootM, h]
theorem rootOk_f0 {p c s : Nat} (h : inB (p : Int) 1 32 = false) : rootOk p c s = false := by
  cases hx : rootOk p c s with
  | false => rfl
  | true =>
    simp [rootOk] at hx
    rw [inB_t (by omega) (by omega)] at h
    cases h
theorem rootOk_f1 {p c s : Nat} (h : ((c : Int) == 12) = false) : rootOk p c s = false := by
  cases hx : rootOk p c s with
  | false => rfl
  | true =>
    simp [rootOk] at hx
    simp at h
    omega
theorem rootOk_f2 {p c s : Nat} (h : ((s : Int) == 12) = false) : rootOk p c s = false := by
  cases hx : rootOk p c s with
  | false => rfl
  | true =>
    simp [rootOk] at hx
    simp at h
    omega
theorem rootOk_t {p c s : Nat} (h : inB (p : Int) 1 32 = true) (h1 : ((c : Int) == 12) = true) (h2 : ((s : Int) == 12) = true) : rootOk p c s = true := by
  have := inB_iff.1 h
  simp at h1 h2
  simp [rootOk]
  omega
set_option maxRecDepth 1000000 in
set_option maxHeartbeats 1000000 in
theorem impl_RootKey (a : Option Addr) (n c : Nat) (l : List UInt8) (a1 : Option Addr) (n1 c1 : Nat) (l1 : List UInt8) (a2 : Option Addr) (n2 c2 : Nat) (l2 : List UInt8) (w : World) (r : Rd w a n c (bys l)) (r1 : Rd w a1 n1 c1 (bys l1)) (r2 : Rd w a2 n2 c2 (bys l2)) :
    Calls Try.prog 37 #[.slice a n c, .slice a1 n1 c1, .slice a2 n2 c2] w (RetB w (rootM l l1 l2)) := by
  have L := Lib.hid r.blen
  have L1 := Lib.hid r1.blen
  have L2 := Lib.hid r2.blen
  cases hp : inB (n : Int) 1 32
  · rw [rootM_no (by rw [L.out]; exact rootOk_f0 hp)]
    go_enter Try.func37, Try.ntmps37
    go_wp2_with (go_at_call 38; refine (impl_PskOk _ _ _ _).mono ?_; rw [hp]; rintro e w' ⟨rfl, rfl⟩)
    go_ret
    exact ⟨_, _, _, rfl, Ow.nil _ _ _, (gb_refl _)⟩
  cases h1 : ((n1 : Int) == 12)
  · have h1' : ((n1 : Int) != 12) = true := by simpa using h1
    rw [rootM_no (by rw [L1.out]; exact rootOk_f1 h1)]
    go_enter Try.func37, Try.ntmps37
    go_wp2_with (first | (go_at_call 38; refine (impl_PskOk _ _ _ _).mono ?_; rw [hp]; rintro e w' ⟨rfl, rfl⟩) | (go_at_call 66; refine (impl_isNonce _ _ _ _).mono ?_; rintro e w' ⟨rfl, rfl⟩))
    go_ret
    exact ⟨_, _, _, rfl, Ow.nil _ _ _, (gb_refl _)⟩
  cases h2 : ((n2 : Int) == 12)
  · have h1' : ((n1 : Int) != 12) = false := by simpa using h1
    have h2' : ((n2 : Int) != 12) = true := by simpa using h2
    rw [rootM_no (by rw [L2.out]; exact rootOk_f2 h2)]
    go_enter Try.func37, Try.ntmps37
    go_wp2_with (first | (go_at_call 38; refine (impl_PskOk _ _ _ _).mono ?_; rw [hp]; rintro e w' ⟨rfl, rfl⟩) | (go_at_call 66; refine (impl_isNonce _ _ _ _).mono ?_; rintro e w' ⟨rfl, rfl⟩))
    go_ret
    exact ⟨_, _, _, rfl, Ow.nil _ _ _, (gb_refl _)⟩
  have h1' : ((n1 : Int) != 12) = false := by simpa using h1
  have h2' : ((n2 : Int) != 12) = false := by simpa using h2
  rw [rootM, if_pos (by rw [L.out, L1.out, L2.out]; exact rootOk_t hp h1 h2)]
  have hq := inB_iff.1 hp
  have z1 : n1 ≤ 12 := by have := beq_iff_eq.1 h1; omega
  have z2 : n2 ≤ 12 := by have := beq_iff_eq.1 h2; omega
  have g0 := gb_alloc (gb_refl w) (.cells #[] 5)
  go_enter Try.func37, Try.ntmps37
  go_wp2_with (first
    | (go_at_call 38; refine (impl_PskOk _ _ _ _).mono ?_; rw [hp]; rintro e w' ⟨rfl, rfl⟩)
    | (go_at_call 66; refine (impl_isNonce _ _ _ _).mono ?_; rintro e w' ⟨rfl, rfl⟩)
    | (go_at_call 67; refine Calls.mono (impl_joined _ _ _ [⟨a1, n1, c1, l1⟩, ⟨a2, n2, c2, l2⟩] _ (Rd.ofBxV (cs := #[.slice a1 n1 c1, .slice a2 n2 c2]) (t := 22) (Bx.new _ _ _) rfl rfl) (ok_cons (r1.keep0 (gb_alloc (gb_refl _) _)) (ok_cons (r2.keep0 (gb_alloc (gb_refl _) _)) ok_nil)) (by omega) (by have := L1.out; have := L2.out; simp [cat]; omega)) ?_; rintro e w3 ⟨a3, n3, c3, rfl, o3, g3⟩; have R3 : Rd w3 a3 n3 c3 (bys (l1 ++ l2)) := (by simpa [cat] using o3.rd); have G3 := gb_trans (gb_alloc (gb_refl w) (.cells #[.slice a1 n1 c1, .slice a2 n2 c2] 22)) g3)
    | (refine wpList_appB rfl (.tmp 21) (.tmp 22) rfl w.heap.size _ _ _ [] rfl (new_own _ _) a1 n1 c1 l1 rfl (r1.keep0 g0) (by have := L1.out; simp; omega) (by simp) ?_; intro a5 n5 c5 w5 o5 g5; have G5 := gb_app g0 (new_own _ _) (Nat.le_refl _) g5; rw [List.nil_append] at o5)
    | (refine wpList_appB rfl (.tmp 23) (.tmp 24) rfl w.heap.size _ _ _ l1 rfl o5 a2 n2 c2 l2 rfl (r2.keep0 G5) (by have := L1.out; have := L2.out; omega) G5.size ?_; intro a3 n3 c3 w3 o3 g3; have G3 := gb_app G5 o5 (Nat.le_refl _) g3; have R3 := o3.rd)
    | (go_at_call 92; refine (impl_Extract _ _ _ (l1 ++ l2) a n c l _ R3 (r.keep0 G3) (by have h9 := R3.blen; have := L1.out; have := L2.out; rw [List.length_append] at h9; omega) (by omega)).mono ?_; rintro e w4 ⟨a4, n4, c4, rfl, o4, g4⟩))
  go_ret
  exact retB o4 G3.size (gb_trans G3 g4) rfl
set_option maxRecDepth 1000000 in
set_option maxHeartbeats 1000000 in
theorem spec_RootKey (a : Option Addr) (n c : Nat) (l : List UInt8) (a1 : Option Addr) (n1 c1 : Nat) (l1 : List UInt8) (a2 : Option Addr) (n2 c2 : Nat) (l2 : List UInt8) (w : World) (r : Rd w a n c (bys l)) (r1 : Rd w a1 n1 c1 (bys l1)) (r2 : Rd w a2 n2 c2 (bys l2)) :
    Calls Try.prog 90 #[.slice a n c, .slice a1 n1 c1, .slice a2 n2 c2] w (RetB w (rootM l l1 l2)) := by
  have L := Lib.hid r.blen
  have L1 := Lib.hid r1.blen
  have L2 := Lib.hid r2.blen
  cases hp : inB (n : Int) 1 32
  · rw [rootM_no (by rw [L.out]; exact rootOk_f0 hp)]
    go_enter Try.func90, Try.ntmps90
    go_wp2_with (go_at_call 114; refine (spec_PskOk _ _ _ _).mono ?_; rw [hp]; rintro e w' ⟨rfl, rfl⟩)
    go_ret
    exact ⟨_, _, _, rfl, new_own _ _, gb_alloc (gb_refl _) _⟩
  cases h1 : ((n1 : Int) == 12)
  · have h1' : ((n1 : Int) != 12) = true := by simpa using h1
    rw [rootM_no (by rw [L1.out]; exact rootOk_f1 h1)]
    go_enter Try.func90, Try.ntmps90
    go_wp2_with (first | (go_at_call 114; refine (spec_PskOk _ _ _ _).mono ?_; rw [hp]; rintro e w' ⟨rfl, rfl⟩) | (go_at_call 66; refine (impl_isNonce _ _ _ _).mono ?_; rintro e w' ⟨rfl, rfl⟩))
    go_ret
    exact ⟨_, _, _, rfl, new_own _ _, gb_alloc (gb_refl _) _⟩
  cases h2 : ((n2 : Int) == 12)
  · have h1' : ((n1 : Int) != 12) = false := by simpa using h1
    have h2' : ((n2 : Int) != 12) = true := by simpa using h2
    rw [rootM_no (by rw [L2.out]; exact rootOk_f2 h2)]
    go_enter Try.func90, Try.ntmps90
    go_wp2_with (first | (go_at_call 114; refine (spec_PskOk _ _ _ _).mono ?_; rw [hp]; rintro e w' ⟨rfl, rfl⟩) | (go_at_call 66; refine (impl_isNonce _ _ _ _).mono ?_; rintro e w' ⟨rfl, rfl⟩))
    go_ret
    exact ⟨_, _, _, rfl, new_own _ _, gb_alloc (gb_refl _) _⟩
  have h1' : ((n1 : Int) != 12) = false := by simpa using h1
  have h2' : ((n2 : Int) != 12) = false := by simpa using h2
  rw [rootM, if_pos (by rw [L.out, L1.out, L2.out]; exact rootOk_t hp h1 h2)]
  have hq := inB_iff.1 hp
  have z1 : n1 ≤ 12 := by have := beq_iff_eq.1 h1; omega
  have z2 : n2 ≤ 12 := by have := beq_iff_eq.1 h2; omega
  have g0 := gb_alloc (gb_refl w) (.cells #[] 5)
  go_enter Try.func90, Try.ntmps90
  go_wp2_with (first
    | (go_at_call 114; refine (spec_PskOk _ _ _ _).mono ?_; rw [hp]; rintro e w' ⟨rfl, rfl⟩)
    | (go_at_call 66; refine (impl_isNonce _ _ _ _).mono ?_; rintro e w' ⟨rfl, rfl⟩)
    | (go_at_call 67; refine Calls.mono (impl_joined _ _ _ [⟨a1, n1, c1, l1⟩, ⟨a2, n2, c2, l2⟩] _ (Rd.ofBxV (cs := #[.slice a1 n1 c1, .slice a2 n2 c2]) (t := 22) (Bx.new _ _ _) rfl rfl) (ok_cons (r1.keep0 (gb_alloc (gb_refl _) _)) (ok_cons (r2.keep0 (gb_alloc (gb_refl _) _)) ok_nil)) (by omega) (by have := L1.out; have := L2.out; simp [cat]; omega)) ?_; rintro e w3 ⟨a3, n3, c3, rfl, o3, g3⟩; have R3 : Rd w3 a3 n3 c3 (bys (l1 ++ l2)) := (by simpa [cat] using o3.rd); have G3 := gb_trans (gb_alloc (gb_refl w) (.cells #[.slice a1 n1 c1, .slice a2 n2 c2] 22)) g3)
    | (refine wpList_appB rfl (.tmp 21) (.tmp 22) rfl w.heap.size _ _ _ [] rfl (new_own _ _) a1 n1 c1 l1 rfl (r1.keep0 g0) (by have := L1.out; simp; omega) (by simp) ?_; intro a5 n5 c5 w5 o5 g5; have G5 := gb_app g0 (new_own _ _) (Nat.le_refl _) g5; rw [List.nil_append] at o5)
    | (refine wpList_appB rfl (.tmp 23) (.tmp 24) rfl w.heap.size _ _ _ l1 rfl o5 a2 n2 c2 l2 rfl (r2.keep0 G5) (by have := L1.out; have := L2.out; omega) G5.size ?_; intro a3 n3 c3 w3 o3 g3; have G3 := gb_app G5 o5 (Nat.le_refl _) g3; have R3 := o3.rd)
    | (go_at_call 115; refine (spec_Extract _ _ _ (l1 ++ l2) a n c l _ R3 (r.keep0 G3) (by have h9 := R3.blen; have := L1.out; have := L2.out; rw [List.length_append] at h9; omega) (by omega)).mono ?_; rintro e w4 ⟨a4, n4, c4, rfl, o4, g4⟩))
  go_ret
  exact retB o4 G3.size (gb_trans G3 g4) rfl
end Go.Proofs.Ytpkhmbibemfhhaa
