/-
  Contracts of the stream of bytes that hides a text. Conditions: none beside those that each theorem names.
-/
import Derived.Test.YtpfchphgbhgmmaaGreatMac
import Derived.Deep.RegionHeld3
namespace Go.Proofs.YtpfchphgbhgmmaaGreat
open Go.RowKit
def blkM (key head : List UInt8) (i : Nat) : List UInt8 := hmacM key ([115] ++ head ++ be i 4)
theorem blkM_len {key head : List UInt8} (i : Nat) (h : key.length ≤ 1048576) (h2 : head.length ≤ 100) : (blkM key head i).length = 32 := hmacM_len h (by simp [be_len]; omega)
def strL (key head : List UInt8) : Nat → List UInt8
  | 0 => []
  | j + 1 => strL key head j ++ blkM key head j
theorem strL_len {key head : List UInt8} (h : key.length ≤ 1048576) (h2 : head.length ≤ 100) : ∀ j, (strL key head j).length = 32 * j
  | 0 => rfl
  | j + 1 => by
    rw [strL, List.length_append, strL_len h h2 j, blkM_len j h h2]
    omega
def strM (key head : List UInt8) (n : Nat) : List UInt8 := (strL key head 7).take n
theorem strL_take {key head : List UInt8} (h : key.length ≤ 1048576) (h2 : head.length ≤ 100) {n j : Nat} (hn : n ≤ 32 * j) : ∀ k, (strL key head (j + k)).take n = (strL key head j).take n
  | 0 => rfl
  | k + 1 => by
    rw [← Nat.add_assoc, strL, List.take_append_of_le_length (by rw [strL_len h h2]; omega), strL_take h h2 hn k]
theorem strM_eq {key head : List UInt8} (h : key.length ≤ 1048576) (h2 : head.length ≤ 100) {n j : Nat} (hn : n ≤ 32 * j) (hj : j ≤ 7) : (strL key head j).take n = strM key head n := by
  have := strL_take h h2 hn (7 - j)
  rw [show j + (7 - j) = 7 by omega] at this
  exact this.symm
theorem strM_len {key head : List UInt8} (h : key.length ≤ 1048576) (h2 : head.length ≤ 100) {n : Nat} (hn : n ≤ 200) : (strM key head n).length = n := by
  rw [strM, List.length_take, strL_len h h2]
  omega
set_option maxRecDepth 1000000 in
set_option maxHeartbeats 1000000 in
theorem impl_BlockOf (a : Option Addr) (n c : Nat) (l : List UInt8) (b : Option Addr) (m d : Nat) (k : List UInt8) (i : Nat) (w : World) (r1 : Rd w a n c (bys l)) (r2 : Rd w b m d (bys k)) (hn : n ≤ 1048576) (hm : m ≤ 100) (hi : i ≤ 6) : Calls Tryz.prog 90 #[.slice a n c, .slice b m d, .int .i64 (i : Int)] w (RetB w (blkM l k i)) := by
  have L1 := Lib.hid r1.blen
  have L2 := Lib.hid r2.blen
  have hI : inB (i : Int) 0 6 = true := inB_t (by omega) (by omega)
  have i1 : ¬ ((100 : Int) < (m : Int)) := by omega
  have g0 := gb_alloc (gb_refl w) (.cells #[.int .u8 115] 5)
  have o0 := new_ownB w #[.int .u8 115] [115] rfl (by simp)
  go_enter Tryz.func90, Tryz.ntmps90
  go_wp2_with (first
    | (go_at_call 34; refine (impl_within _ _ _ _).mono ?_; rw [hI]; rintro e w' ⟨rfl, rfl⟩)
    | (go_at_call 64; refine Calls.mono (impl_joined _ _ _ [⟨some ⟨w.heap.size, 0, none⟩, 1, 1, [115]⟩, ⟨b, m, d, k⟩] _ (Rd.ofBxV (cs := #[.slice (some ⟨w.heap.size, 0, none⟩) 1 1, .slice b m d]) (t := 22) (Bx.newk _ _ _ _ (by simp)) rfl rfl) (ok_cons (o0.rd.keep0 (gb_alloc (gb_refl _) _)) (ok_cons (r2.keep0 (gb_alloc g0 _)) ok_nil)) (by omega) (by have := L2.out; simp [cat]; omega)) ?_; rintro e w3 ⟨a3, n3, c3, rfl, o3, g3⟩; have R3 : Rd w3 a3 n3 c3 (bys ([115] ++ k)) := (by simpa [cat] using o3.rd); have G3 := gb_trans (gb_alloc g0 (.cells #[.slice (some ⟨w.heap.size, 0, none⟩) 1 1, .slice b m d] 22)) g3)
    | (refine wpList_appB rfl (.tmp 17) (.tmp 18) rfl w.heap.size _ _ _ [115] rfl o0 b m d k rfl (r2.keep0 g0) (by have := L2.out; simp; omega) (by simp) ?_; intro a3 n3 c3 w3 o3 g3; have G3 := gb_app g0 o0 (Nat.le_refl _) g3; have R3 := o3.rd)
    | (go_at_call 80; refine (impl_PutN a3 n3 c3 ([115] ++ k) (i : Int) 4 w3 R3 (by have h9 := R3.blen; have := L2.out; simp at h9; omega) (by omega) (by omega) (by omega) (by omega)).mono ?_; rintro e w4 ⟨a4, n4, c4, rfl, o4, g4⟩; have G4 := gb_trans G3 g4)
    | (go_at_call 81; refine (impl_Hmac a n c l _ _ _ _ _ (r1.keep0 G4) o4.rd (by omega) (by have h9 := o4.blen; have := L2.out; simp [be_len] at h9; omega)).mono ?_; rintro e w5 ⟨a5, n5, c5, rfl, o5, g5⟩))
  go_ret
  exact retB o5 G4.size (gb_trans G4 g5) rfl
set_option maxRecDepth 1000000 in
set_option maxHeartbeats 1000000 in
theorem spec_BlockOf (a : Option Addr) (n c : Nat) (l : List UInt8) (b : Option Addr) (m d : Nat) (k : List UInt8) (i : Nat) (w : World) (r1 : Rd w a n c (bys l)) (r2 : Rd w b m d (bys k)) (hn : n ≤ 1048576) (hm : m ≤ 100) (hi : i ≤ 6) : Calls Tryz.prog 94 #[.slice a n c, .slice b m d, .int .i64 (i : Int)] w (RetB w (blkM l k i)) := by
  have L1 := Lib.hid r1.blen
  have L2 := Lib.hid r2.blen
  have hI : inB (i : Int) 0 6 = true := inB_t (by omega) (by omega)
  have i1 : ¬ ((100 : Int) < (m : Int)) := by omega
  have g0 := gb_alloc (gb_refl w) (.cells #[.int .u8 115] 5)
  have o0 := new_ownB w #[.int .u8 115] [115] rfl (by simp)
  go_enter Tryz.func94, Tryz.ntmps94
  go_wp2_with (first
    | (go_at_call 59; refine (spec_l1In _ _ _ _).mono ?_; rw [hI]; rintro e w' ⟨rfl, rfl⟩)
    | (go_at_call 64; refine Calls.mono (impl_joined _ _ _ [⟨some ⟨w.heap.size, 0, none⟩, 1, 1, [115]⟩, ⟨b, m, d, k⟩] _ (Rd.ofBxV (cs := #[.slice (some ⟨w.heap.size, 0, none⟩) 1 1, .slice b m d]) (t := 22) (Bx.newk _ _ _ _ (by simp)) rfl rfl) (ok_cons (o0.rd.keep0 (gb_alloc (gb_refl _) _)) (ok_cons (r2.keep0 (gb_alloc g0 _)) ok_nil)) (by omega) (by have := L2.out; simp [cat]; omega)) ?_; rintro e w3 ⟨a3, n3, c3, rfl, o3, g3⟩; have R3 : Rd w3 a3 n3 c3 (bys ([115] ++ k)) := (by simpa [cat] using o3.rd); have G3 := gb_trans (gb_alloc g0 (.cells #[.slice (some ⟨w.heap.size, 0, none⟩) 1 1, .slice b m d] 22)) g3)
    | (refine wpList_appB rfl (.tmp 17) (.tmp 18) rfl w.heap.size _ _ _ [115] rfl o0 b m d k rfl (r2.keep0 g0) (by have := L2.out; simp; omega) (by simp) ?_; intro a3 n3 c3 w3 o3 g3; have G3 := gb_app g0 o0 (Nat.le_refl _) g3; have R3 := o3.rd)
    | (go_at_call 61; refine (spec_PutN a3 n3 c3 ([115] ++ k) (i : Int) 4 w3 R3 (by have h9 := R3.blen; have := L2.out; simp at h9; omega) (by omega) (by omega) (by omega) (by omega)).mono ?_; rintro e w4 ⟨a4, n4, c4, rfl, o4, g4⟩; have G4 := gb_trans G3 g4)
    | (go_at_call 83; refine (spec_Hmac a n c l _ _ _ _ _ (r1.keep0 G4) o4.rd (by omega) (by have h9 := o4.blen; have := L2.out; simp [be_len] at h9; omega)).mono ?_; rintro e w5 ⟨a5, n5, c5, rfl, o5, g5⟩))
  go_ret
  exact retB o5 G4.size (gb_trans G4 g5) rfl
set_option maxRecDepth 1000000 in
set_option maxHeartbeats 1000000 in
theorem impl_Stream (a : Option Addr) (n c : Nat) (l : List UInt8) (b : Option Addr) (m d : Nat) (k : List UInt8) (N : Nat) (w : World) (r1 : Rd w a n c (bys l)) (r2 : Rd w b m d (bys k)) (hn : n ≤ 1048576) (hm : m ≤ 100) (hN : N ≤ 200) : Calls Tryz.prog 79 #[.slice a n c, .slice b m d, .int .i64 (N : Int)] w (RetB w (strM l k N)) := by
  have L1 := Lib.hid r1.blen
  have L2 := Lib.hid r2.blen
  have K1 := Lib.hid (show l.length ≤ 1048576 by rw [L1.out]; exact hn)
  have K2 := Lib.hid (show k.length ≤ 100 by rw [L2.out]; exact hm)
  have hI : inB (N : Int) 0 200 = true := inB_t (by omega) (by omega)
  have i1 : ¬ ((100 : Int) < (m : Int)) := by omega
  have i2 : ¬ ((1048576 : Int) < (n : Int)) := by omega
  have R1 := Lib.hid r1
  have R2 := Lib.hid r2
  go_enter Tryz.func79, Tryz.ntmps79
  go_wp2_with (go_at_call 34; refine (impl_within _ _ _ _).mono ?_; rw [hI]; rintro e w' ⟨rfl, rfl⟩)
  go_loopw [7, 8] (fun v i9 wr => ∃ (j M D : Nat) (q : Option Addr), M = 32 * j ∧ M < N + 32 ∧ i9 = .int .i64 (j : Int) ∧ v = .slice q M D ∧ Ow w.heap.size wr 5 q M D (bys (strL l k j)) ∧ w.grownBy wr none) (fun v _ _ => 500 - lenOf v)
  case atStart => exact ⟨0, 0, _, _, rfl, by omega, rfl, rfl, new_own _ _, gb_alloc (gb_refl _) _⟩
  case round =>
    obtain ⟨j, M, D, q, hM, hb, rfl, rfl, ho, hg⟩ := hrel
    have HM := Lib.hid hM
    clear hM
    by_cases hlt : M < N
    · have hj : j ≤ 6 := by have := HM.out; omega
      have C := impl_BlockOf a n c l b m d k j wr (R1.out.keep0 hg) (R2.out.keep0 hg) hn hm hj
      have BL := Lib.hid (blkM_len (key := l) (head := k) j K1.out K2.out)
      go_wp2_with (first
        | (go_at_call 90; refine C.mono ?_; clear C; rintro e w2 ⟨a2, n2, c2, rfl, o2, g2⟩; have G2 := gb_trans hg g2)
        | (refine wpList_appB rfl (.tmp 29) (.tmp 33) rfl w.heap.size q M D _ rfl (ho.keep0 g2) a2 n2 c2 _ rfl o2.rd (by have h9 := ho.blen; rw [h9, BL.out]; omega) G2.size ?_; intro a3 n3 c3 w3 o3 g3; have G3 := gb_app G2 (ho.keep0 g2) (Nat.le_refl _) g3))
      obtain rfl : n3 = M + 32 := by have h9 := o3.blen; rw [List.length_append, ho.blen, BL.out] at h9; omega
      refine ⟨⟨j + 1, M + 32, _, _, by have := HM.out; omega, by omega, by go_num, rfl, o3, G3⟩, by simp [lenOf]; omega⟩
    · have E := Lib.hid (strM_eq (n := N) (j := j) K1.out K2.out (by have := HM.out; omega) (by have := HM.out; omega))
      have hNM : N ≤ M := by omega
      go_wp2_with (first
        | (refine wpList_slB rfl (.tmp 35) none (some (.tmp 36)) rfl q M D _ rfl ho.rd 0 N (.inr ⟨rfl, rfl⟩) (.inl ⟨.i64, rfl⟩) (by omega) hNM ?_; intro b6 d6 hd6 r6 hp6; rw [List.drop_zero, E.out] at r6)
        | (go_at_call 35; refine (impl_clone _ _ _ _ _ r6 (by omega)).mono ?_; rintro e w7 ⟨a7, n7, c7, rfl, o7, g7⟩))
      go_ret
      exact retB o7 hg.size (gb_trans hg g7) rfl
set_option maxRecDepth 1000000 in
set_option maxHeartbeats 1000000 in
theorem spec_Stream (a : Option Addr) (n c : Nat) (l : List UInt8) (b : Option Addr) (m d : Nat) (k : List UInt8) (N : Nat) (w : World) (r1 : Rd w a n c (bys l)) (r2 : Rd w b m d (bys k)) (hn : n ≤ 1048576) (hm : m ≤ 100) (hN : N ≤ 200) : Calls Tryz.prog 82 #[.slice a n c, .slice b m d, .int .i64 (N : Int)] w (RetB w (strM l k N)) := by
  have L1 := Lib.hid r1.blen
  have L2 := Lib.hid r2.blen
  have K1 := Lib.hid (show l.length ≤ 1048576 by rw [L1.out]; exact hn)
  have K2 := Lib.hid (show k.length ≤ 100 by rw [L2.out]; exact hm)
  have hI : inB (N : Int) 0 200 = true := inB_t (by omega) (by omega)
  have i1 : ¬ ((100 : Int) < (m : Int)) := by omega
  have i2 : ¬ ((1048576 : Int) < (n : Int)) := by omega
  have R1 := Lib.hid r1
  have R2 := Lib.hid r2
  go_enter Tryz.func82, Tryz.ntmps82
  go_wp2_with (go_at_call 59; refine (spec_l1In _ _ _ _).mono ?_; rw [hI]; rintro e w' ⟨rfl, rfl⟩)
  go_loopw [7, 8] (fun v i9 wr => ∃ (j M D : Nat) (q : Option Addr), M = 32 * j ∧ M < N + 32 ∧ i9 = .int .i64 (j : Int) ∧ v = .slice q M D ∧ Ow w.heap.size wr 5 q M D (bys (strL l k j)) ∧ w.grownBy wr none) (fun v _ _ => 500 - lenOf v)
  case atStart => exact ⟨0, 0, _, _, rfl, by omega, rfl, rfl, new_own _ _, gb_alloc (gb_refl _) _⟩
  case round =>
    obtain ⟨j, M, D, q, hM, hb, rfl, rfl, ho, hg⟩ := hrel
    have HM := Lib.hid hM
    clear hM
    by_cases hlt : M < N
    · have hj : j ≤ 6 := by have := HM.out; omega
      have C := spec_BlockOf a n c l b m d k j wr (R1.out.keep0 hg) (R2.out.keep0 hg) hn hm hj
      have BL := Lib.hid (blkM_len (key := l) (head := k) j K1.out K2.out)
      go_wp2_with (first
        | (go_at_call 94; refine C.mono ?_; clear C; rintro e w2 ⟨a2, n2, c2, rfl, o2, g2⟩; have G2 := gb_trans hg g2)
        | (refine wpList_appB rfl (.tmp 30) (.tmp 34) rfl w.heap.size q M D _ rfl (ho.keep0 g2) a2 n2 c2 _ rfl o2.rd (by have h9 := ho.blen; rw [h9, BL.out]; omega) G2.size ?_; intro a3 n3 c3 w3 o3 g3; have G3 := gb_app G2 (ho.keep0 g2) (Nat.le_refl _) g3))
      obtain rfl : n3 = M + 32 := by have h9 := o3.blen; rw [List.length_append, ho.blen, BL.out] at h9; omega
      refine ⟨⟨j + 1, M + 32, _, _, by have := HM.out; omega, by omega, by go_num, rfl, o3, G3⟩, by simp [lenOf]; omega⟩
    · have E := Lib.hid (strM_eq (n := N) (j := j) K1.out K2.out (by have := HM.out; omega) (by have := HM.out; omega))
      have hNM : N ≤ M := by omega
      have gz := gb_alloc (gb_refl wr) (.cells #[] 5)
      have SL := Lib.hid (strM_len (key := l) (head := k) K1.out K2.out hN)
      go_wp2_with (first
        | (refine wpList_slB rfl (.tmp 37) none (some (.tmp 38)) rfl q M D _ rfl (ho.rd.keep0 gz) 0 N (.inr ⟨rfl, rfl⟩) (.inl ⟨.i64, rfl⟩) (by omega) hNM ?_; intro b6 d6 hd6 r6 hp6; rw [List.drop_zero, E.out] at r6)
        | (refine wpList_appB rfl (.tmp 36) (.tmp 39) rfl wr.heap.size _ _ _ [] rfl (new_own _ _) b6 _ d6 _ rfl r6 (by have := SL.out; simp; omega) (by simp) ?_; intro a7 n7 c7 w7 o7 g7'; have g7 := gb_app gz (new_own _ _) (Nat.le_refl _) g7'; rw [List.nil_append] at o7))
      go_ret
      exact retB o7 hg.size (gb_trans hg g7) rfl
def mixL (s b : List UInt8) : List UInt8 := List.zipWith (fun x y => x ^^^ y) s b
def mixM (key head b : List UInt8) : List UInt8 := mixL (strM key head b.length) b
theorem mixM_len {key head b : List UInt8} (h : key.length ≤ 1048576) (h2 : head.length ≤ 100) (hb : b.length ≤ 200) : (mixM key head b).length = b.length := by
  rw [mixM, mixL, List.length_zipWith, strM_len h h2 hb, Nat.min_self]
theorem mix_snoc {s b : List UInt8} {j : Nat} {x y : UInt8} (hx : s[j]? = some x) (hy : b[j]? = some y) : mixL (s.take (j + 1)) (b.take (j + 1)) = mixL (s.take j) (b.take j) ++ [x ^^^ y] := by
  have h1 : j < s.length := (List.getElem?_eq_some_iff.1 hx).1
  have h2 : j < b.length := (List.getElem?_eq_some_iff.1 hy).1
  rw [take_succ_some hx, take_succ_some hy, mixL, List.zipWith_append (by simp; omega)]
  rfl
set_option maxRecDepth 1000000 in
set_option maxHeartbeats 1000000 in
theorem impl_Mix (a : Option Addr) (n c : Nat) (l : List UInt8) (b : Option Addr) (m d : Nat) (k : List UInt8) (a3 : Option Addr) (N c3 : Nat) (t : List UInt8) (w : World) (r1 : Rd w a n c (bys l)) (r2 : Rd w b m d (bys k)) (r3 : Rd w a3 N c3 (bys t)) (hn : n ≤ 1048576) (hm : m ≤ 100) (hN : N ≤ 200) : Calls Tryz.prog 55 #[.slice a n c, .slice b m d, .slice a3 N c3] w (RetB w (mixM l k t)) := by
  have L1 := Lib.hid r1.blen
  have L2 := Lib.hid r2.blen
  have L3 := Lib.hid r3.blen
  have i0 : ¬ ((200 : Int) < (N : Int)) := by omega
  have i1 : ¬ ((100 : Int) < (m : Int)) := by omega
  have i2 : ¬ ((1048576 : Int) < (n : Int)) := by omega
  have R3 := Lib.hid r3
  obtain ⟨S, hS⟩ : ∃ S, S = strM l k N := ⟨_, rfl⟩
  have SL := Lib.hid (show S.length = N by rw [hS]; exact strM_len (by rw [L1.out]; exact hn) (by rw [L2.out]; exact hm) hN)
  have HS := Lib.hid (show mixM l k t = mixL S t by rw [mixM, L3.out, hS])
  have g0 := gb_alloc (gb_refl w) (.cells #[] 5)
  have C := impl_Stream a n c l b m d k N (w.alloc (.cells #[] 5)) (r1.keep0 g0) (r2.keep0 g0) hn hm hN
  rw [← hS] at C
  clear hS
  go_enter Tryz.func55, Tryz.ntmps55
  go_wp2_with (go_at_call 79; refine C.mono ?_; clear C; rintro e w1 ⟨a1, n1, c1, rfl, o1, g1⟩; obtain rfl : n1 = N := o1.blen.symm.trans SL.out)
  have G1 := gb_trans g0 g1
  have oA := Lib.hid ((new_own w 5).keep0 g1)
  have s1 := Lib.hid (show ∀ p, a1 = some p → w.heap.size + 1 ≤ p.block from fun p hp => by have := (o1.lt p hp).1; simpa using this)
  go_loopw [7, 30] (fun v i9 wr => ∃ (j D : Nat) (q : Option Addr), j ≤ n1 ∧ i9 = .int .i64 (j : Int) ∧ v = .slice q j D ∧ Ow w.heap.size wr 5 q j D (bys (mixL (S.take j) (t.take j))) ∧ Rd wr a1 n1 c1 (bys S) ∧ Hid (dj q a1) ∧ Hid (∀ p, a1 = some p → p.block < wr.heap.size) ∧ w.grownBy wr none) (fun _ i9 _ => n1 - (intOf i9).toNat)
  case atStart => exact ⟨0, _, _, by omega, rfl, rfl, oA.out, o1.rd, (by intro p r hp hr; cases hp; have := s1.out r hr; simp; omega), (fun p hp => (o1.lt p hp).2), G1⟩
  case round =>
    obtain ⟨j, D, q, hj, rfl, rfl, ho, hr, hd, hu, hg⟩ := hrel
    by_cases hlt : j < n1
    · obtain ⟨p1, q1, x, rfl, hx, hc⟩ := hr.byte j hlt
      obtain ⟨p2, q2, y, rfl, hy, hd2⟩ := (R3.out.keep0 hg).byte j hlt
      have X := u8_xor x y
      have ez := hg.size
      have E := Lib.hid (mix_snoc hx.out hy.out)
      go_wp2_with (refine wpList_appF rfl (.tmp 35) (.tmp 42) rfl w.heap.size q j D _ rfl (ho.keep0 (gb_alloc (gb_refl _) _)) _ 1 1 [x ^^^ y] rfl (new_bys wr _ #[.int .u8 ((x ^^^ y).toNat : Int)] [x ^^^ y] rfl) (by have := ho.blen; rw [this]; simp; omega) (by simp; omega) ?_; intro a4 n4 c4 w4 o4 g4 f4; have G4 := gb_app (gb_alloc hg _) (ho.keep0 (gb_alloc (gb_refl _) _)) (Nat.le_refl _) g4; have D4 := Lib.hid (dj_app hd.out f4 (fun p hp => by (have := hu.out p hp; simp; omega))); have z4 := g4.size; have U4 := Lib.hid (show ∀ p, some (⟨p1, q1, none⟩ : Addr) = some p → p.block < w4.heap.size from fun p hp => by (have := hu.out p hp; simp at z4; omega)); have h4 := (hr.keep0 (gb_alloc (gb_refl _) (.cells #[.int .u8 ((x ^^^ y).toNat : Int)] 5))).keep g4 (dj.ne hd.out))
      rw [← E.out] at o4
      obtain rfl : n4 = j + 1 := by have h9 := o4.blen; have := SL.out; have := L3.out; simp only [mixL, List.length_zipWith, List.length_take] at h9; omega
      refine ⟨⟨j + 1, _, _, by omega, by go_num, rfl, o4, h4, D4, U4, G4⟩, by simp [intOf]; omega⟩
    · obtain rfl : j = n1 := by omega
      have E := Lib.hid (show mixL (S.take j) (t.take j) = mixM l k t by rw [HS.out, List.take_of_length_le (by rw [SL.out]; exact Nat.le_refl _), List.take_of_length_le (by rw [L3.out]; exact Nat.le_refl _)])
      go_wp2
      go_ret
      rw [E.out] at ho
      exact ⟨_, _, _, rfl, ho, hg⟩
section
variable {w : World}
/-- append of bytes inside a region that draws its order, and where the new bytes lie -/
theorem step_appF {ops : Array Oper} {o : Oper} {ac : Act} {K : Act → World → Prop} {Q : Exit → Act → World → Prop} {E : Prop} (hgd : o.guard = none) (s x : Operand)
    (ho : o.op = .call { callee := .builtin .append, args := #[s, x], argTypes := #[22, 22] })
    (B : Nat) (a : Option Addr) (n c : Nat) (l : List UInt8) (hse : ac.eval s = .slice a n c) (hown : Ow B w 5 a n c (bys l)) (b : Option Addr) (m d : Nat) (k : List UInt8) (hx : ac.eval x = .slice b m d) (hs : Rd w b m d (bys k))
    (hsz : l.length + k.length ≤ 1073741824) (hbase : B ≤ w.heap.size)
    (h : ∀ a' n' c' w', Ow B w' 5 a' n' c' (bys (l ++ k)) → w.grownBy w' (a.map (·.block)) → (∀ p, a' = some p → (∃ q, a = some q ∧ q.block = p.block) ∨ w.heap.size ≤ p.block) → K (ac.put o.dst (.slice a' n' c')) w') :
    if Region.wanted o (yielded ops ac.tmps) = true then Oper.wp Tryz.prog o ac w K Q else E := by
  obtain ⟨i0, hi, hz0, hz1, hz2⟩ := info_parts inf_u8
  have h1 := hown.blen
  have h2 := hs.blen
  refine step_app hgd s x 22 22 ho B 5 i0 (.int .u8 0) 1 Tryz.underlying22 hi hz0 hz1 hz2 rfl a n c (bys l) hse hown _ hx m (bys k) (hs.src Tryz.underlying22 (bys_one _)) (by unfold maxLen; omega) (by omega) hbase ?_
  intro a' c' w' o' g' f'
  rw [← bys_app] at o'
  exact h _ _ _ _ o' g' f'
theorem Rd.cellAt {p q n c : Nat} {l : List UInt8} (h : Rd w (some ⟨p, q, none⟩) n c (bys l)) {j : Nat} (hj : j < n) {x : UInt8} (hx : l[j]? = some x) : w.cell? ⟨p, q + j, none⟩ = some (.int .u8 (x.toNat : Int)) := by
  obtain ⟨b, off, e, hc⟩ := h.cells j hj
  simp only [Option.some.injEq, Addr.mk.injEq, and_true] at e
  obtain ⟨rfl, rfl⟩ := e
  rw [hc, bys, List.getElem?_map, hx]
  rfl
end
set_option maxRecDepth 1000000 in
set_option maxHeartbeats 2000000 in
theorem spec_Mix (a : Option Addr) (n c : Nat) (l : List UInt8) (b : Option Addr) (m d : Nat) (k : List UInt8) (a3 : Option Addr) (N c3 : Nat) (t : List UInt8) (w : World) (r1 : Rd w a n c (bys l)) (r2 : Rd w b m d (bys k)) (r3 : Rd w a3 N c3 (bys t)) (hn : n ≤ 1048576) (hm : m ≤ 100) (hN : N ≤ 200) : Calls Tryz.prog 62 #[.slice a n c, .slice b m d, .slice a3 N c3] w (RetB w (mixM l k t)) := by
  have L1 := Lib.hid r1.blen
  have L2 := Lib.hid r2.blen
  have L3 := Lib.hid r3.blen
  have i0 : ¬ ((200 : Int) < (N : Int)) := by omega
  have i1 : ¬ ((100 : Int) < (m : Int)) := by omega
  have i2 : ¬ ((1048576 : Int) < (n : Int)) := by omega
  have R3 := Lib.hid r3
  obtain ⟨S, hS⟩ : ∃ S, S = strM l k N := ⟨_, rfl⟩
  have SL := Lib.hid (show S.length = N by rw [hS]; exact strM_len (by rw [L1.out]; exact hn) (by rw [L2.out]; exact hm) hN)
  have HS := Lib.hid (show mixM l k t = mixL S t by rw [mixM, L3.out, hS])
  have g0 := gb_alloc (gb_refl w) (.cells #[] 5)
  have C := spec_Stream a n c l b m d k N (w.alloc (.cells #[] 5)) (r1.keep0 g0) (r2.keep0 g0) hn hm hN
  rw [← hS] at C
  clear hS
  go_enter Tryz.func62, Tryz.ntmps62
  go_wp2_with (go_at_call 82; refine C.mono ?_; clear C; rintro e w1 ⟨a1, n1, c1, rfl, o1, g1⟩; obtain rfl : n1 = N := o1.blen.symm.trans SL.out)
  have G1 := gb_trans g0 g1
  have oA := Lib.hid ((new_own w 5).keep0 g1)
  have s1 := Lib.hid (show ∀ p, a1 = some p → w.heap.size + 1 ≤ p.block from fun p hp => by have := (o1.lt p hp).1; simpa using this)
  go_loopw [7, 9] (fun v i9 wr => ∃ (j D : Nat) (q : Option Addr), j ≤ n1 ∧ i9 = .int .i64 (j : Int) ∧ v = .slice q j D ∧ Ow w.heap.size wr 5 q j D (bys (mixL (S.take j) (t.take j))) ∧ Rd wr a1 n1 c1 (bys S) ∧ Hid (dj q a1) ∧ Hid (∀ p, a1 = some p → p.block < wr.heap.size) ∧ w.grownBy wr none) (fun _ i9 _ => n1 - (intOf i9).toNat)
  case atStart => exact ⟨0, _, _, by omega, rfl, rfl, oA.out, o1.rd, (by intro p r hp hr; cases hp; have := s1.out r hr; simp; omega), (fun p hp => (o1.lt p hp).2), G1⟩
  case round =>
    obtain ⟨j, D, q, hj, rfl, rfl, ho, hr, hd, hu, hg⟩ := hrel
    by_cases hlt : j < n1
    · obtain ⟨p1, q1, x, rfl, hx, hc⟩ := hr.byte j hlt
      obtain ⟨p2, q2, y, rfl, hy, hd2⟩ := (R3.out.keep0 hg).byte j hlt
      have X : bits .xor .u8 (y.toNat : Int) (x.toNat : Int) = ((x ^^^ y).toNat : Int) := by rw [u8_xor, UInt8.xor_comm]
      obtain ⟨u, hu2⟩ : ∃ u, u = x ^^^ y := ⟨_, rfl⟩
      rw [← hu2] at X
      have E := Lib.hid (show mixL (S.take (j + 1)) (t.take (j + 1)) = mixL (S.take j) (t.take j) ++ [u] by rw [hu2]; exact mix_snoc hx.out hy.out)
      have V2 : p2 < w.heap.size := cell_lt (p := ⟨p2, q2 + j, none⟩) (R3.out.cellAt hlt hy.out)
      have V1 := hu.out _ rfl
      have DB : dj q (some (⟨p2, q2, none⟩ : Addr)) := by
        intro p r hp hr9
        cases hr9
        have := (ho.lt p hp).1
        simp
        omega
      have DD := Lib.hid DB
      have ez := hg.size
      have KX : Hid (∀ w', wr.grownBy w' none → (w'.cell? ⟨p2, q2 + j, none⟩ = some (.int .u8 (y.toNat : Int)) ∧ w'.cell? ⟨p1, q1 + j, none⟩ = some (.int .u8 (x.toNat : Int)))) := fun w' h9 => ⟨((R3.out.keep0 hg).keep0 h9).cellAt hlt hy.out, (hr.keep0 h9).cellAt hlt hx.out⟩
      have Lj : (j : Int) < (n1 : Int) := by omega
      have Lk : 0 ≤ (j : Int) := Int.natCast_nonneg _
      clear hu2 DB hc hd2
      go_wp2
      go_region_held3 (fun w' => w'.cell? ⟨p2, q2 + j, none⟩ = some (.int .u8 (y.toNat : Int)) ∧ w'.cell? ⟨p1, q1 + j, none⟩ = some (.int .u8 (x.toNat : Int)))
        (first | (with_reducible exact KY.out) | (refine KX.out _ ?_; (repeat (first | with_reducible exact gb_refl _ | with_reducible refine gb_alloc ?_ _ | with_reducible refine gb_drewN ?_ _ | with_reducible refine gb_drew ?_))))
        (first
          | (refine step_appF rfl (.tmp 36) (.tmp 46) rfl w.heap.size q j D _ rfl (ho.keep0 (by (repeat (first | with_reducible exact gb_refl _ | with_reducible refine gb_alloc ?_ _ | with_reducible refine gb_drewN ?_ _ | with_reducible refine gb_drew ?_)))) _ 1 1 [u] rfl (Rd.ofBx (cs := #[.int .u8 (u.toNat : Int)]) (t := 5) (by (repeat (first | (with_reducible refine Bx.newk _ _ _ _ ?_; (first | with_reducible rfl | (simp; done))) | with_reducible refine Bx.old ?_ _ | with_reducible refine Bx.drewN ?_ _ | with_reducible refine Bx.drew ?_))) rfl rfl) (by have := ho.blen; rw [this]; simp; omega) (Nat.le_trans ez (World.grownBy.size (row := none) (by (repeat (first | with_reducible exact gb_refl _ | with_reducible refine gb_alloc ?_ _ | with_reducible refine gb_drewN ?_ _ | with_reducible refine gb_drew ?_))))) ?_; intro a4 n4 c4 w4 o4 g4 f4; have KY := Lib.hid (show w4.cell? ⟨p2, q2 + j, none⟩ = some (.int .u8 (y.toNat : Int)) ∧ w4.cell? ⟨p1, q1 + j, none⟩ = some (.int .u8 (x.toNat : Int)) from ⟨((((R3.out.keep0 hg).keep0 (by (repeat (first | with_reducible exact gb_refl _ | with_reducible refine gb_alloc ?_ _ | with_reducible refine gb_drewN ?_ _ | with_reducible refine gb_drew ?_)))).keep g4 (dj.ne DD.out)).cellAt hlt hy.out), (((hr.keep0 (by (repeat (first | with_reducible exact gb_refl _ | with_reducible refine gb_alloc ?_ _ | with_reducible refine gb_drewN ?_ _ | with_reducible refine gb_drew ?_)))).keep g4 (dj.ne hd.out)).cellAt hlt hx.out)⟩); have G4 : w.grownBy w4 none := gb_app (gb_trans hg (by (repeat (first | with_reducible exact gb_refl _ | with_reducible refine gb_alloc ?_ _ | with_reducible refine gb_drewN ?_ _ | with_reducible refine gb_drew ?_)))) (ho.keep0 (by (repeat (first | with_reducible exact gb_refl _ | with_reducible refine gb_alloc ?_ _ | with_reducible refine gb_drewN ?_ _ | with_reducible refine gb_drew ?_)))) (Nat.le_refl _) g4; have D4 := Lib.hid (dj_app hd.out f4 (fun p hp => Nat.lt_of_lt_of_le (hu.out p hp) (World.grownBy.size (row := none) (by (repeat (first | with_reducible exact gb_refl _ | with_reducible refine gb_alloc ?_ _ | with_reducible refine gb_drewN ?_ _ | with_reducible refine gb_drew ?_)))))); have U4 := Lib.hid (show ∀ p, some (⟨p1, q1, none⟩ : Addr) = some p → p.block < w4.heap.size from fun p hp => Nat.lt_of_lt_of_le (hu.out p hp) (Nat.le_trans (World.grownBy.size (row := none) (show wr.grownBy _ none from (by (repeat (first | with_reducible exact gb_refl _ | with_reducible refine gb_alloc ?_ _ | with_reducible refine gb_drewN ?_ _ | with_reducible refine gb_drew ?_))))) g4.size)); have h4 := (hr.keep0 (by (repeat (first | with_reducible exact gb_refl _ | with_reducible refine gb_alloc ?_ _ | with_reducible refine gb_drewN ?_ _ | with_reducible refine gb_drew ?_)))).keep g4 (dj.ne hd.out))
          | fail)
      go_wp2
      rw [← E.out] at o4
      obtain rfl : n4 = j + 1 := by have h9 := o4.blen; have := SL.out; have := L3.out; simp only [mixL, List.length_zipWith, List.length_take] at h9; omega
      first
        | exact ⟨⟨j + 1, _, _, by omega, by go_num, rfl, o4, h4, D4, U4, G4⟩, by simp [intOf]; omega⟩
        | (refine ⟨?_, ?measure⟩
           (repeat apply Exists.intro)
           refine ⟨?rel, rfl⟩
           case rel => exact ⟨j + 1, _, _, by omega, by go_num, rfl, o4, h4, D4, U4, G4⟩
           case measure => simp [intOf]; omega)
    · obtain rfl : j = n1 := by omega
      have E := Lib.hid (show mixL (S.take j) (t.take j) = mixM l k t by rw [HS.out, List.take_of_length_le (by rw [SL.out]; exact Nat.le_refl _), List.take_of_length_le (by rw [L3.out]; exact Nat.le_refl _)])
      go_wp2
      go_ret
      rw [E.out] at ho
      exact ⟨_, _, _, rfl, ho, hg⟩
end Go.Proofs.YtpfchphgbhgmmaaGreat
