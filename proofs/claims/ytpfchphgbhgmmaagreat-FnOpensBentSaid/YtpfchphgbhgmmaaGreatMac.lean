/-
  Contracts of the keyed hash and of the tags. Conditions: none beside those that each theorem names.
-/
import Derived.Test.YtpfchphgbhgmmaaGreatShaH
import Derived.Test.YtpfchphgbhgmmaaGreatMacP
import Derived.Test.YtpfchphgbhgmmaaGreatHelpS
namespace Go.Proofs.YtpfchphgbhgmmaaGreat
open Go.RowKit
theorem rep_snoc (bs : List UInt8) (j : Nat) : bs ++ List.replicate j 0 ++ [0] = bs ++ List.replicate (j + 1) (0 : UInt8) := by rw [List.replicate_succ', List.append_assoc]
set_option maxRecDepth 1000000 in
set_option maxHeartbeats 1000000 in
theorem impl_BlockKey (a : Option Addr) (n c : Nat) (l : List UInt8) (w : World) (r : Rd w a n c (bys l)) (hn : n ≤ 1048576) : Calls Tryz.prog 91 #[.slice a n c] w (RetB w (bkM l)) := by
  have L := Lib.hid r.blen
  have i1 : ¬ ((1048576 : Int) < (n : Int)) := by omega
  have g0 := gb_alloc (gb_refl w) (.cells #[] 5)
  by_cases hc : 64 < n
  · have i2 : (64 : Int) < (n : Int) := by omega
    obtain ⟨bs, hbs⟩ : ∃ bs, bs = shaM l := ⟨_, rfl⟩
    have hbl : bs.length = 32 := by rw [hbs, shaM_len (by have := L.out; omega)]
    obtain ⟨L0, hL0⟩ : ∃ x, x = 32 := ⟨_, rfl⟩
    have HB := Lib.hid (show L0 + 0 ≤ 64 by omega)
    have HE := Lib.hid (show ∀ j, L0 + j = 64 → bkM l = bs ++ List.replicate j 0 from fun j hj => by rw [bkM, if_pos (by have := L.out; omega), hbs, show j = 32 by omega])
    have HS := Lib.hid hbs
    have HX := Lib.hid hbl
    have H0 := Lib.hid hL0
    clear hbs hbl hL0
    go_enter Tryz.func91, Tryz.ntmps91
    go_wp2_with (first
      | (go_at_call 35; refine (impl_clone _ _ _ _ _ r (by omega)).mono ?_; rintro e w1 ⟨a1, n1, c1, rfl, o1, g1⟩)
      | (refine wpList_appB rfl (.tmp 8) (.tmp 9) rfl w.heap.size _ _ _ [] rfl (new_own _ _) a n c l rfl (r.keep0 g0) (by have := L.out; simp; omega) (by simp) ?_; intro a1 n1 c1 w1 o1 g1'; have g1 := gb_app g0 (new_own _ _) (Nat.le_refl _) g1')
      | (go_at_call 92; refine (impl_Sha _ _ _ _ _ (r.keep0 g1) (by omega)).mono ?_; rintro e w2 ⟨a2, n2, c2, rfl, o2, g2⟩))
    rw [← HS.out] at o2
    obtain rfl : L0 = n2 := by rw [H0.out]; exact (o2.blen.symm.trans HX.out).symm
    have oX := o2.mono g1.size
    have gX := gb_trans g1 g2
    clear o1 o2 g1 g2 g0 i2
    go_loopw [3] (fun v wr => ∃ (j c : Nat) (aa : Option Addr), L0 + j ≤ 64 ∧ v = .slice aa (L0 + j) c ∧ Ow w.heap.size wr 5 aa (L0 + j) c (bys (bs ++ List.replicate j 0)) ∧ w.grownBy wr none) (fun v _ => 64 - lenOf v)
    case atStart => exact ⟨0, _, _, HB.out, rfl, by simpa using oX, gX⟩
    case round =>
      obtain ⟨j, c, aa, hj, rfl, ho, hg⟩ := hrel
      by_cases hlt : L0 + j < 64
      · have ez := hg.size
        have e1 : (L0 : Int) + (j : Int) < 64 := by omega
        go_wp2_with (refine wpList_appB rfl (.tmp 17) (.tmp 18) rfl w.heap.size aa (L0 + j) c _ rfl (ho.keep0 (gb_alloc (gb_refl _) _)) _ 1 1 [0] rfl (new_bys wr _ #[.int .u8 0] [0] rfl) (by have := ho.blen; rw [this]; simp; omega) (by simp; omega) ?_; intro a2 n2 c2 w2 o2 g2; have G2 := gb_app (gb_alloc hg _) (ho.keep0 (gb_alloc (gb_refl _) _)) (Nat.le_refl _) g2)
        rw [rep_snoc] at o2
        obtain rfl : n2 = L0 + (j + 1) := by have := o2.blen; have := ho.blen; simp at *; omega
        refine ⟨⟨j + 1, _, _, by omega, rfl, o2, G2⟩, by simp [lenOf]; omega⟩
      · have e1 : ¬ (L0 : Int) + (j : Int) < 64 := by omega
        have E := Lib.hid (HE.out j (by omega))
        go_wp2
        go_ret
        rw [E.out]
        exact ⟨_, _, _, rfl, ho, hg⟩
  · have i2 : ¬ (64 : Int) < (n : Int) := by omega
    obtain ⟨bs, hbs⟩ : ∃ bs, bs = l := ⟨_, rfl⟩
    obtain ⟨L0, hL0⟩ : ∃ x, x = n := ⟨_, rfl⟩
    have HB := Lib.hid (show L0 + 0 ≤ 64 by omega)
    have HE := Lib.hid (show ∀ j, L0 + j = 64 → bkM l = bs ++ List.replicate j 0 from fun j hj => by rw [bkM, if_neg (by have := L.out; omega), hbs, show j = 64 - l.length by have := L.out; omega])
    have HS := Lib.hid hbs
    have H0 := Lib.hid hL0
    clear hbs hL0
    go_enter Tryz.func91, Tryz.ntmps91
    go_wp2_with (first
      | (go_at_call 35; refine (impl_clone _ _ _ _ _ r (by omega)).mono ?_; rintro e w1 ⟨a1, n1, c1, rfl, o1, g1⟩)
      | (refine wpList_appB rfl (.tmp 8) (.tmp 9) rfl w.heap.size _ _ _ [] rfl (new_own _ _) a n c l rfl (r.keep0 g0) (by have := L.out; simp; omega) (by simp) ?_; intro a1 n1 c1 w1 o1 g1'; have g1 := gb_app g0 (new_own _ _) (Nat.le_refl _) g1'; rw [List.nil_append] at o1))
    obtain rfl : L0 = n1 := by rw [H0.out]; exact (o1.blen.symm.trans L.out).symm
    rw [← HS.out] at o1
    have oX := o1
    have gX := g1
    clear o1 g1 g0 i2
    go_loopw [3] (fun v wr => ∃ (j c : Nat) (aa : Option Addr), L0 + j ≤ 64 ∧ v = .slice aa (L0 + j) c ∧ Ow w.heap.size wr 5 aa (L0 + j) c (bys (bs ++ List.replicate j 0)) ∧ w.grownBy wr none) (fun v _ => 64 - lenOf v)
    case atStart => exact ⟨0, _, _, HB.out, rfl, by simpa using oX, gX⟩
    case round =>
      obtain ⟨j, c, aa, hj, rfl, ho, hg⟩ := hrel
      by_cases hlt : L0 + j < 64
      · have ez := hg.size
        have e1 : (L0 : Int) + (j : Int) < 64 := by omega
        go_wp2_with (refine wpList_appB rfl (.tmp 17) (.tmp 18) rfl w.heap.size aa (L0 + j) c _ rfl (ho.keep0 (gb_alloc (gb_refl _) _)) _ 1 1 [0] rfl (new_bys wr _ #[.int .u8 0] [0] rfl) (by have := ho.blen; rw [this]; simp; omega) (by simp; omega) ?_; intro a2 n2 c2 w2 o2 g2; have G2 := gb_app (gb_alloc hg _) (ho.keep0 (gb_alloc (gb_refl _) _)) (Nat.le_refl _) g2)
        rw [rep_snoc] at o2
        obtain rfl : n2 = L0 + (j + 1) := by have := o2.blen; have := ho.blen; simp at *; omega
        refine ⟨⟨j + 1, _, _, by omega, rfl, o2, G2⟩, by simp [lenOf]; omega⟩
      · have e1 : ¬ (L0 : Int) + (j : Int) < 64 := by omega
        have E := Lib.hid (HE.out j (by omega))
        go_wp2
        go_ret
        rw [E.out]
        exact ⟨_, _, _, rfl, ho, hg⟩
set_option maxRecDepth 1000000 in
set_option maxHeartbeats 1000000 in
theorem spec_BlockKey (a : Option Addr) (n c : Nat) (l : List UInt8) (w : World) (r : Rd w a n c (bys l)) (hn : n ≤ 1048576) : Calls Tryz.prog 95 #[.slice a n c] w (RetB w (bkM l)) := by
  have L := Lib.hid r.blen
  have i1 : ¬ ((1048576 : Int) < (n : Int)) := by omega
  have g0 := gb_alloc (gb_refl w) (.cells #[] 5)
  by_cases hc : 64 < n
  · have i2 : (64 : Int) < (n : Int) := by omega
    obtain ⟨bs, hbs⟩ : ∃ bs, bs = shaM l := ⟨_, rfl⟩
    have hbl : bs.length = 32 := by rw [hbs, shaM_len (by have := L.out; omega)]
    obtain ⟨L0, hL0⟩ : ∃ x, x = 32 := ⟨_, rfl⟩
    have HB := Lib.hid (show L0 + 0 ≤ 64 by omega)
    have HE := Lib.hid (show ∀ j, L0 + j = 64 → bkM l = bs ++ List.replicate j 0 from fun j hj => by rw [bkM, if_pos (by have := L.out; omega), hbs, show j = 32 by omega])
    have HS := Lib.hid hbs
    have HX := Lib.hid hbl
    have H0 := Lib.hid hL0
    clear hbs hbl hL0
    go_enter Tryz.func95, Tryz.ntmps95
    go_wp2_with (first
      | (go_at_call 35; refine (impl_clone _ _ _ _ _ r (by omega)).mono ?_; rintro e w1 ⟨a1, n1, c1, rfl, o1, g1⟩)
      | (refine wpList_appB rfl (.tmp 8) (.tmp 9) rfl w.heap.size _ _ _ [] rfl (new_own _ _) a n c l rfl (r.keep0 g0) (by have := L.out; simp; omega) (by simp) ?_; intro a1 n1 c1 w1 o1 g1'; have g1 := gb_app g0 (new_own _ _) (Nat.le_refl _) g1')
      | (go_at_call 96; refine (spec_Sha _ _ _ _ _ (r.keep0 g1) (by omega)).mono ?_; rintro e w2 ⟨a2, n2, c2, rfl, o2, g2⟩))
    rw [← HS.out] at o2
    obtain rfl : L0 = n2 := by rw [H0.out]; exact (o2.blen.symm.trans HX.out).symm
    have oX := o2.mono g1.size
    have gX := gb_trans g1 g2
    clear o1 o2 g1 g2 g0 i2
    go_loopw [3] (fun v wr => ∃ (j c : Nat) (aa : Option Addr), L0 + j ≤ 64 ∧ v = .slice aa (L0 + j) c ∧ Ow w.heap.size wr 5 aa (L0 + j) c (bys (bs ++ List.replicate j 0)) ∧ w.grownBy wr none) (fun v _ => 64 - lenOf v)
    case atStart => exact ⟨0, _, _, HB.out, rfl, by simpa using oX, gX⟩
    case round =>
      obtain ⟨j, c, aa, hj, rfl, ho, hg⟩ := hrel
      by_cases hlt : L0 + j < 64
      · have ez := hg.size
        have e1 : (L0 : Int) + (j : Int) < 64 := by omega
        go_wp2_with (refine wpList_appB rfl (.tmp 19) (.tmp 20) rfl w.heap.size aa (L0 + j) c _ rfl (ho.keep0 (gb_alloc (gb_refl _) _)) _ 1 1 [0] rfl (new_bys wr _ #[.int .u8 0] [0] rfl) (by have := ho.blen; rw [this]; simp; omega) (by simp; omega) ?_; intro a2 n2 c2 w2 o2 g2; have G2 := gb_app (gb_alloc hg _) (ho.keep0 (gb_alloc (gb_refl _) _)) (Nat.le_refl _) g2)
        rw [rep_snoc] at o2
        obtain rfl : n2 = L0 + (j + 1) := by have := o2.blen; have := ho.blen; simp at *; omega
        refine ⟨⟨j + 1, _, _, by omega, rfl, o2, G2⟩, by simp [lenOf]; omega⟩
      · have e1 : ¬ (L0 : Int) + (j : Int) < 64 := by omega
        have E := Lib.hid (HE.out j (by omega))
        go_wp2
        go_ret
        rw [E.out]
        exact ⟨_, _, _, rfl, ho, hg⟩
  · have i2 : ¬ (64 : Int) < (n : Int) := by omega
    obtain ⟨bs, hbs⟩ : ∃ bs, bs = l := ⟨_, rfl⟩
    obtain ⟨L0, hL0⟩ : ∃ x, x = n := ⟨_, rfl⟩
    have HB := Lib.hid (show L0 + 0 ≤ 64 by omega)
    have HE := Lib.hid (show ∀ j, L0 + j = 64 → bkM l = bs ++ List.replicate j 0 from fun j hj => by rw [bkM, if_neg (by have := L.out; omega), hbs, show j = 64 - l.length by have := L.out; omega])
    have HS := Lib.hid hbs
    have H0 := Lib.hid hL0
    clear hbs hL0
    go_enter Tryz.func95, Tryz.ntmps95
    go_wp2_with (first
      | (go_at_call 35; refine (impl_clone _ _ _ _ _ r (by omega)).mono ?_; rintro e w1 ⟨a1, n1, c1, rfl, o1, g1⟩)
      | (refine wpList_appB rfl (.tmp 8) (.tmp 9) rfl w.heap.size _ _ _ [] rfl (new_own _ _) a n c l rfl (r.keep0 g0) (by have := L.out; simp; omega) (by simp) ?_; intro a1 n1 c1 w1 o1 g1'; have g1 := gb_app g0 (new_own _ _) (Nat.le_refl _) g1'; rw [List.nil_append] at o1))
    obtain rfl : L0 = n1 := by rw [H0.out]; exact (o1.blen.symm.trans L.out).symm
    rw [← HS.out] at o1
    have oX := o1
    have gX := g1
    clear o1 g1 g0 i2
    go_loopw [3] (fun v wr => ∃ (j c : Nat) (aa : Option Addr), L0 + j ≤ 64 ∧ v = .slice aa (L0 + j) c ∧ Ow w.heap.size wr 5 aa (L0 + j) c (bys (bs ++ List.replicate j 0)) ∧ w.grownBy wr none) (fun v _ => 64 - lenOf v)
    case atStart => exact ⟨0, _, _, HB.out, rfl, by simpa using oX, gX⟩
    case round =>
      obtain ⟨j, c, aa, hj, rfl, ho, hg⟩ := hrel
      by_cases hlt : L0 + j < 64
      · have ez := hg.size
        have e1 : (L0 : Int) + (j : Int) < 64 := by omega
        go_wp2_with (refine wpList_appB rfl (.tmp 19) (.tmp 20) rfl w.heap.size aa (L0 + j) c _ rfl (ho.keep0 (gb_alloc (gb_refl _) _)) _ 1 1 [0] rfl (new_bys wr _ #[.int .u8 0] [0] rfl) (by have := ho.blen; rw [this]; simp; omega) (by simp; omega) ?_; intro a2 n2 c2 w2 o2 g2; have G2 := gb_app (gb_alloc hg _) (ho.keep0 (gb_alloc (gb_refl _) _)) (Nat.le_refl _) g2)
        rw [rep_snoc] at o2
        obtain rfl : n2 = L0 + (j + 1) := by have := o2.blen; have := ho.blen; simp at *; omega
        refine ⟨⟨j + 1, _, _, by omega, rfl, o2, G2⟩, by simp [lenOf]; omega⟩
      · have e1 : ¬ (L0 : Int) + (j : Int) < 64 := by omega
        have E := Lib.hid (HE.out j (by omega))
        go_wp2
        go_ret
        rw [E.out]
        exact ⟨_, _, _, rfl, ho, hg⟩
theorem u8_xor (x y : UInt8) : bits .xor .u8 (x.toNat : Int) (y.toNat : Int) = ((x ^^^ y).toNat : Int) := by
  have hx := x.toNat_lt
  have hy := y.toNat_lt
  have h := (x ^^^ y).toNat_lt
  simp only [bits, BitVec.ofInt_natCast, BitVec.toNat_xor, BitVec.toNat_ofNat, Nat.mod_eq_of_lt (show x.toNat < 2 ^ IntKind.u8.bits from hx), Nat.mod_eq_of_lt (show y.toNat < 2 ^ IntKind.u8.bits from hy)]
  rw [← UInt8.toNat_xor]
  exact wraps_u8 _ (by omega) (by omega)
theorem xorB_snoc (x : UInt8) {l : List UInt8} {j : Nat} {y : UInt8} (h : l[j]? = some y) : xorB x (l.take (j + 1)) = xorB x (l.take j) ++ [y ^^^ x] := by
  rw [take_succ_some h]
  simp [xorB]
set_option maxRecDepth 1000000 in
set_option maxHeartbeats 1000000 in
theorem impl_masked (a : Option Addr) (n c : Nat) (l : List UInt8) (x : UInt8) (w : World) (r : Rd w a n c (bys l)) (hn : n ≤ 1073741824) : Calls Tryz.prog 93 #[.slice a n c, .int .u8 (x.toNat : Int)] w (RetB w (xorB x l)) := by
  have L := Lib.hid r.blen
  have R := Lib.hid r
  go_enter Tryz.func93, Tryz.ntmps93
  go_wp2
  go_loopw [5, 11] (fun v i9 wr => ∃ (j d : Nat) (aa : Option Addr), j ≤ n ∧ i9 = .int .i64 (j : Int) ∧ v = .slice aa j d ∧ Ow w.heap.size wr 5 aa j d (bys (xorB x (l.take j))) ∧ w.grownBy wr none) (fun _ i9 _ => n - (intOf i9).toNat)
  case atStart => exact ⟨0, _, _, by omega, rfl, rfl, new_own _ _, gb_alloc (gb_refl _) _⟩
  case round =>
    obtain ⟨j, d, aa, hj, rfl, rfl, ho, hg⟩ := hrel
    by_cases hlt : j < n
    · obtain ⟨b, off, y, rfl, hy, hc⟩ := (R.out.keep0 hg).byte j hlt
      have X := u8_xor y x
      have ez := hg.size
      have E := Lib.hid (xorB_snoc x hy.out)
      go_wp2_with (refine wpList_appB rfl (.tmp 15) (.tmp 19) rfl w.heap.size aa j d _ rfl (ho.keep0 (gb_alloc (gb_refl _) _)) _ 1 1 [y ^^^ x] rfl (new_bys wr _ #[.int .u8 ((y ^^^ x).toNat : Int)] [y ^^^ x] rfl) (by have := ho.blen; rw [this]; simp; omega) (by simp; omega) ?_; intro a2 n2 c2 w2 o2 g2; have G2 := gb_app (gb_alloc hg _) (ho.keep0 (gb_alloc (gb_refl _) _)) (Nat.le_refl _) g2)
      rw [← E.out] at o2
      obtain rfl : n2 = j + 1 := by have := o2.blen; have := L.out; simp [xorB_len] at *; omega
      refine ⟨⟨j + 1, _, _, by omega, by go_num, rfl, o2, G2⟩, by simp [intOf]; omega⟩
    · obtain rfl : j = n := by omega
      have E := Lib.hid (show l.take j = l from List.take_of_length_le (by rw [L.out]; exact Nat.le_refl _))
      go_wp2
      go_ret
      rw [E.out] at ho
      exact ⟨_, _, _, rfl, ho, hg⟩
theorem hmacM_no {key b : List UInt8} (h : ¬ (key.length ≤ 1048576 ∧ b.length ≤ 1048512)) : hmacM key b = [] := if_neg h
set_option maxRecDepth 1000000 in
set_option maxHeartbeats 1000000 in
theorem impl_Hmac (a : Option Addr) (n c : Nat) (l : List UInt8) (b : Option Addr) (m d : Nat) (k : List UInt8) (w : World) (r1 : Rd w a n c (bys l)) (r2 : Rd w b m d (bys k)) (hn : n ≤ 1073741824) (hm : m ≤ 1073741824) : Calls Tryz.prog 81 #[.slice a n c, .slice b m d] w (RetB w (hmacM l k)) := by
  have L1 := Lib.hid r1.blen
  have L2 := Lib.hid r2.blen
  by_cases h1 : n ≤ 1048576
  · have i1 : ¬ ((1048576 : Int) < (n : Int)) := by omega
    by_cases h2 : m ≤ 1048512
    · have i2 : ¬ ((1048512 : Int) < (m : Int)) := by omega
      rw [hmacM, if_pos (by have := L1.out; have := L2.out; omega)]
      have BL := bkM_len (key := l) (by have := L1.out; omega)
      obtain ⟨bk, hbk⟩ : ∃ x, x = bkM l := ⟨_, rfl⟩
      have HBK := Lib.hid hbk
      rw [← hbk] at BL
      have X1 := Lib.hid (xorB_len 92 bk)
      have X2 := Lib.hid (xorB_len 54 bk)
      have S1 := Lib.hid (shaM_le (xorB 54 bk ++ k))
      have BB := Lib.hid BL
      have M1 := Lib.hid (show ∀ (a : Option Addr) (n c : Nat) (w : World), Rd w a n c (bys bk) → n ≤ 1073741824 → Calls Tryz.prog 93 #[.slice a n c, .int .u8 92] w (RetB w (xorB 92 bk)) from fun a n c w r h => impl_masked a n c bk 92 w r h)
      have M2 := Lib.hid (show ∀ (a : Option Addr) (n c : Nat) (w : World), Rd w a n c (bys bk) → n ≤ 1073741824 → Calls Tryz.prog 93 #[.slice a n c, .int .u8 54] w (RetB w (xorB 54 bk)) from fun a n c w r h => impl_masked a n c bk 54 w r h)
      have HM := Lib.hid (show hmacL l k = shaM (xorB 92 bk ++ shaM (xorB 54 bk ++ k)) by rw [hmacL, hbk])
      clear hbk BL
      go_enter Tryz.func81, Tryz.ntmps81
      go_wp2_with (first
        | (go_at_call 91; refine (impl_BlockKey _ _ _ _ _ r1 h1).mono ?_; rw [← HBK.out]; rintro e w1 ⟨a1, n1, c1, rfl, o1, g1⟩; obtain rfl : n1 = 64 := o1.blen.symm.trans BB.out)
        | (go_at_call 93; (with_reducible refine (M1.out a1 64 c1 w1 o1.rd (by omega)).mono ?_); rintro e w2 ⟨a2, n2, c2, rfl, o2, g2⟩)
        | (go_at_call 93; (with_reducible refine (M2.out a1 64 c1 w2 (o1.rd.keep0 g2) (by omega)).mono ?_); rintro e w3 ⟨a3, n3, c3, rfl, o3, g3⟩)
        | (go_at_call 64; refine Calls.mono (impl_joined _ _ _ [⟨a3, n3, c3, xorB 54 bk⟩, ⟨b, m, d, k⟩] _ (Rd.ofBxV (cs := #[.slice a3 n3 c3, .slice b m d]) (t := 22) (Bx.new _ _ _) rfl rfl) (ok_cons (o3.rd.keep0 (gb_alloc (gb_refl _) _)) (ok_cons (r2.keep0 (gb_alloc (gb_trans (gb_trans g1 g2) g3) _)) ok_nil)) (by omega) (by have := X2.out; have := BB.out; have := L2.out; simp [cat]; omega)) ?_; rintro e w4 ⟨a4, n4, c4, rfl, o4, g4⟩; have R4 : Rd w4 a4 n4 c4 (bys (xorB 54 bk ++ k)) := by simpa [cat] using o4.rd)
        | (go_at_call 92; (with_reducible refine (impl_Sha a4 n4 c4 _ w4 R4 (by have := R4.blen; have := X2.out; have := BB.out; have := L2.out; simp at *; omega)).mono ?_); rintro e w5 ⟨a5, n5, c5, rfl, o5, g5⟩)
        | (go_at_call 64; refine Calls.mono (impl_joined _ _ _ [⟨a2, n2, c2, xorB 92 bk⟩, ⟨a5, n5, c5, shaM (xorB 54 bk ++ k)⟩] _ (Rd.ofBxV (cs := #[.slice a2 n2 c2, .slice a5 n5 c5]) (t := 22) (Bx.new _ _ _) rfl rfl) (ok_cons (o2.rd.keep0 (gb_alloc (gb_trans (gb_trans g3 (gb_trans (gb_alloc (gb_refl _) _) g4)) g5) _)) (ok_cons (o5.rd.keep0 (gb_alloc (gb_refl _) _)) ok_nil)) (by omega) (by have := X1.out; have := BB.out; have := S1.out; simp [cat]; omega)) ?_; rintro e w6 ⟨a6, n6, c6, rfl, o6, g6⟩; have R6 : Rd w6 a6 n6 c6 (bys (xorB 92 bk ++ shaM (xorB 54 bk ++ k))) := by simpa [cat] using o6.rd)
        | (go_at_call 92; (with_reducible refine (impl_Sha a6 n6 c6 _ w6 R6 (by have := R6.blen; have := X1.out; have := BB.out; have := S1.out; simp at *; omega)).mono ?_); rintro e w7 ⟨a7, n7, c7, rfl, o7, g7⟩))
      have G6 : w.grownBy w6 none := gb_trans (gb_trans (gb_trans (gb_trans g1 g2) g3) (gb_trans (gb_alloc (gb_refl _) _) g4)) (gb_trans g5 (gb_trans (gb_alloc (gb_refl _) _) g6))
      go_ret
      rw [HM.out]
      exact retB o7 G6.size (gb_trans G6 g7) rfl
    · have i2 : ((1048512 : Int) < (m : Int)) := by omega
      rw [hmacM_no (by have := L2.out; omega)]
      go_enter Tryz.func81, Tryz.ntmps81
      go_wp2
      go_ret
      exact ⟨_, _, _, rfl, Ow.nil _ _ _, gb_refl _⟩
  · have i1 : ((1048576 : Int) < (n : Int)) := by omega
    rw [hmacM_no (by have := L1.out; omega)]
    go_enter Tryz.func81, Tryz.ntmps81
    go_wp2
    go_ret
    exact ⟨_, _, _, rfl, Ow.nil _ _ _, gb_refl _⟩
section
variable {w : World}
/-- append of bytes onto bytes that the call owns, and where the new bytes lie -/
theorem wpList_appF {ops : Array Oper} {rest : List Oper} {o : Oper} {ac : Act} {Q : Exit → Act → World → Prop} (hgd : o.guard = none) (s x : Operand)
    (ho : o.op = .call { callee := .builtin .append, args := #[s, x], argTypes := #[22, 22] })
    (B : Nat) (a : Option Addr) (n c : Nat) (l : List UInt8) (hse : ac.eval s = .slice a n c) (hown : Ow B w 5 a n c (bys l)) (b : Option Addr) (m d : Nat) (k : List UInt8) (hx : ac.eval x = .slice b m d) (hs : Rd w b m d (bys k))
    (hsz : l.length + k.length ≤ 1073741824) (hbase : B ≤ w.heap.size)
    (h : ∀ a' n' c' w', Ow B w' 5 a' n' c' (bys (l ++ k)) → w.grownBy w' (a.map (·.block)) → (∀ p, a' = some p → (∃ q, a = some q ∧ q.block = p.block) ∨ w.heap.size ≤ p.block) → wpList Tryz.prog ops Q rest (ac.put o.dst (.slice a' n' c')) w') : wpList Tryz.prog ops Q (o :: rest) ac w := by
  obtain ⟨i0, hi, hz0, hz1, hz2⟩ := info_parts inf_u8
  have h1 := hown.blen
  have h2 := hs.blen
  refine wpList_app hgd s x 22 22 ho B 5 i0 (.int .u8 0) 1 Tryz.underlying22 hi hz0 hz1 hz2 rfl a n c (bys l) hse hown _ hx m (bys k) (hs.src Tryz.underlying22 (bys_one _)) (by unfold maxLen; omega) (by omega) hbase ?_
  intro a' c' w' o' g' f'
  rw [← bys_app] at o'
  exact h _ _ _ _ o' g' f'
end
theorem dj_app {a a' q : Option Addr} {S : Nat} (hd : dj a q) (f : ∀ p, a' = some p → (∃ q, a = some q ∧ q.block = p.block) ∨ S ≤ p.block) (hq : ∀ p, q = some p → p.block < S) : dj a' q := by
  intro p r hp hr e
  rcases f p hp with ⟨x, hx, h⟩ | h
  · exact hd x r hx hr (by rw [h, e])
  · have := hq r hr
    omega
set_option maxRecDepth 1000000 in
set_option maxHeartbeats 2000000 in
theorem spec_Hmac (a : Option Addr) (n c : Nat) (l : List UInt8) (b : Option Addr) (m d : Nat) (k : List UInt8) (w : World) (r1 : Rd w a n c (bys l)) (r2 : Rd w b m d (bys k)) (hn : n ≤ 1073741824) (hm : m ≤ 1073741824) : Calls Tryz.prog 83 #[.slice a n c, .slice b m d] w (RetB w (hmacM l k)) := by
  have L1 := Lib.hid r1.blen
  have L2 := Lib.hid r2.blen
  by_cases h1 : n ≤ 1048576
  · have i1 : ¬ ((1048576 : Int) < (n : Int)) := by omega
    by_cases h2 : m ≤ 1048512
    · have i2 : ¬ ((1048512 : Int) < (m : Int)) := by omega
      rw [hmacM, if_pos (by have := L1.out; have := L2.out; omega)]
      have BL := bkM_len (key := l) (by have := L1.out; omega)
      obtain ⟨bk, hbk⟩ : ∃ x, x = bkM l := ⟨_, rfl⟩
      have HBK := Lib.hid hbk
      rw [← hbk] at BL
      have X1 := Lib.hid (xorB_len 92 bk)
      have X2 := Lib.hid (xorB_len 54 bk)
      have S1 := Lib.hid (shaM_le (xorB 54 bk ++ k))
      have BB := Lib.hid BL
      have HM := Lib.hid (show hmacL l k = shaM (xorB 92 bk ++ shaM (xorB 54 bk ++ k)) by rw [hmacL, hbk])
      clear hbk BL
      go_enter Tryz.func83, Tryz.ntmps83
      go_wp2_with (go_at_call 95; refine (spec_BlockKey _ _ _ _ _ r1 h1).mono ?_; rw [← HBK.out]; rintro e w1 ⟨a1, n1, c1, rfl, o1, g1⟩; obtain rfl : n1 = 64 := o1.blen.symm.trans BB.out)
      have O1 := Lib.hid o1
      have gA := Lib.hid (gb_alloc (gb_refl w1) (.cells #[] 5))
      have oA := Lib.hid ((new_own w1 5).keep0 (gb_alloc (gb_refl _) (.cells #[] 5)))
      have oB := Lib.hid (new_ownBk (w1.alloc (.cells #[] 5)) #[] [] (w1.heap.size + 1) (by simp) rfl (by simp))
      clear o1
      go_loopw [6, 7, 8] (fun v1 v2 i9 wr => ∃ (j d1 d2 : Nat) (q1 q2 : Option Addr), j ≤ 64 ∧ i9 = .int .i64 (j : Int) ∧ v1 = .slice q1 j d1 ∧ v2 = .slice q2 j d2 ∧ Ow w1.heap.size wr 5 q1 j d1 (bys (xorB 54 (bk.take j))) ∧ Ow w1.heap.size wr 5 q2 j d2 (bys (xorB 92 (bk.take j))) ∧ Hid (dj q1 q2) ∧ w1.grownBy wr none) (fun _ _ i9 _ => 64 - (intOf i9).toNat)
      case atStart => exact ⟨0, _, _, _, _, by omega, rfl, rfl, rfl, oA.out, oB.out.mono (by omega), (by intro p q hp hq; cases hp; cases hq; simp), gb_alloc gA.out _⟩
      case round =>
        obtain ⟨j, d1, d2, q1, q2, hj, rfl, rfl, rfl, o1, o2, hd, hg⟩ := hrel
        by_cases hlt : j < 64
        · obtain ⟨bb, off, y, rfl, hy, hc⟩ := (O1.out.rd.keep0 hg).byte j hlt
          have XA : bits .xor .u8 (y.toNat : Int) 54 = ((y ^^^ 54).toNat : Int) := u8_xor y 54
          have XB : bits .xor .u8 (y.toNat : Int) 92 = ((y ^^^ 92).toNat : Int) := u8_xor y 92
          have ez := hg.size
          have EA := Lib.hid (xorB_snoc 54 hy.out)
          have EB := Lib.hid (xorB_snoc 92 hy.out)
          go_wp2_with (first
            | (refine wpList_appF rfl (.tmp 26) (.tmp 32) rfl w1.heap.size q1 j d1 _ rfl (o1.keep0 (gb_alloc (gb_refl _) _)) _ 1 1 [y ^^^ 54] rfl (new_bys wr _ #[.int .u8 ((y ^^^ 54).toNat : Int)] [y ^^^ 54] rfl) (by have := o1.blen; rw [this]; simp; omega) (by simp; omega) ?_; intro a3 n3 c3 w3 o3 g3 f3; have G3 := gb_app (gb_alloc hg _) (o1.keep0 (gb_alloc (gb_refl _) _)) (Nat.le_refl _) g3; have D3 := Lib.hid (dj_app hd f3 (fun p hp => by (have := (o2.lt p hp).2; simp; omega))); have p2 := (o2.keep0 (gb_alloc (gb_refl _) (.cells #[.int .u8 ((y ^^^ 54).toNat : Int)] 5))).keep g3 (dj.ne hd); obtain ⟨b9, off9, y9, h9, hy9, hc9⟩ := (O1.out.rd.keep0 G3).byte j hlt; obtain ⟨rfl, rfl⟩ : b9 = bb ∧ off9 = off := (by simp at h9; exact ⟨h9.1.symm, h9.2.symm⟩); obtain rfl : y9 = y := (by have := hy.out; rw [hy9.out] at this; exact Option.some.inj this); clear h9; have ez3 := G3.size)
            | (refine wpList_appF rfl (.tmp 34) (.tmp 40) rfl w1.heap.size q2 j d2 _ rfl (p2.keep0 (gb_alloc (gb_refl _) _)) _ 1 1 [y9 ^^^ 92] rfl (new_bys w3 _ #[.int .u8 ((y9 ^^^ 92).toNat : Int)] [y9 ^^^ 92] rfl) (by have := p2.blen; rw [this]; simp; omega) (by simp; omega) ?_; intro a4 n4 c4 w4 o4 g4 f4; have G4 := gb_app (gb_alloc G3 _) (p2.keep0 (gb_alloc (gb_refl _) _)) (Nat.le_refl _) g4; have D4 := Lib.hid (dj.symm (dj_app (dj.symm D3.out) f4 (fun p hp => by (have := (o3.lt p hp).2; simp; omega)))); have p3 := (o3.keep0 (gb_alloc (gb_refl _) (.cells #[.int .u8 ((y9 ^^^ 92).toNat : Int)] 5))).keep g4 (dj.ne (dj.symm D3.out))))
          rw [← EA.out] at p3
          rw [← EB.out] at o4
          have lb := BB.out
          obtain rfl : n3 = j + 1 := by have := p3.blen; rw [xorB_len, List.length_take] at this; omega
          obtain rfl : n4 = j + 1 := by have := o4.blen; rw [xorB_len, List.length_take] at this; omega
          refine ⟨⟨j + 1, _, _, _, _, by omega, by go_num, rfl, rfl, p3, o4, D4, G4⟩, by simp [intOf]; omega⟩
        · obtain rfl : j = 64 := by omega
          have ET := Lib.hid (show bk.take 64 = bk from List.take_of_length_le (by have := BB.out; omega))
          rw [ET.out] at o1 o2
          have ez := hg.size
          go_wp2_with (first
            | (refine wpList_appF rfl (.tmp 43) (.tmp 44) rfl w1.heap.size q1 64 d1 _ rfl o1 b m d k rfl (r2.keep0 (gb_trans g1 hg)) (by have := X2.out; have := BB.out; have := L2.out; omega) ez ?_; intro a3 n3 c3 w3 o3 g3 f3; have G3 := gb_app hg o1 (Nat.le_refl _) g3; have p2 := o2.keep g3 (dj.ne hd))
            | (go_at_call 96; (with_reducible refine (spec_Sha a3 n3 c3 _ w3 o3.rd (by have := o3.blen; have := X2.out; have := BB.out; have := L2.out; simp at *; omega)).mono ?_); rintro e w4 ⟨a4, n4, c4, rfl, o4, g4⟩; have G4 := gb_trans G3 g4)
            | (refine wpList_appF rfl (.tmp 42) (.tmp 46) rfl w1.heap.size q2 64 d2 _ rfl (p2.keep0 g4) a4 n4 c4 _ rfl o4.rd (by have := X1.out; have := BB.out; have := S1.out; omega) G4.size ?_; intro a5 n5 c5 w5 o5 g5 f5; have G5 := gb_app G4 (p2.keep0 g4) (Nat.le_refl _) g5)
            | (go_at_call 96; (with_reducible refine (spec_Sha a5 n5 c5 _ w5 o5.rd (by have := o5.blen; have := X1.out; have := BB.out; have := S1.out; simp at *; omega)).mono ?_); rintro e w6 ⟨a6, n6, c6, rfl, o6, g6⟩))
          go_ret
          rw [HM.out]
          exact retB o6 (gb_trans g1 G5).size (gb_trans (gb_trans g1 G5) g6) rfl
    · have i2 : ((1048512 : Int) < (m : Int)) := by omega
      rw [hmacM_no (by have := L2.out; omega)]
      go_enter Tryz.func83, Tryz.ntmps83
      go_wp2
      go_ret
      exact ⟨_, _, _, rfl, new_own _ _, gb_alloc (gb_refl _) _⟩
  · have i1 : ((1048576 : Int) < (n : Int)) := by omega
    rw [hmacM_no (by have := L1.out; omega)]
    go_enter Tryz.func83, Tryz.ntmps83
    go_wp2
    go_ret
    exact ⟨_, _, _, rfl, new_own _ _, gb_alloc (gb_refl _) _⟩
end Go.Proofs.YtpfchphgbhgmmaaGreat
