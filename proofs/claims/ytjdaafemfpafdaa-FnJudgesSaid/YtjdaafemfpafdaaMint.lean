/-
  Contracts of the functions on addresses and on a cookie's body. Conditions: none beside those that each theorem names.
-/
import Derived.Test.YtjdaafemfpafdaaHead
import Derived.Deep.RegionHeld3
namespace Go.Proofs.Ytjdaafemfpafdaa
open Go.RowKit
def addrOkB (h p : Int) : Bool := inB h 0 4294967295 && inB p 0 65535
def addrM (l : List UInt8) (h p : Int) : List UInt8 := if addrOkB h p then l ++ be h.toNat 4 ++ be p.toNat 2 else l
theorem addrM_len (l : List UInt8) (h p : Int) : (addrM l h p).length ≤ l.length + 6 := by
  unfold addrM
  split
  · simp [be_len]
  · omega
theorem impl_AddrOk (h p : Int) (w : World) : Calls Try.prog 39 #[.agg #[.int .i64 h, .int .i64 p]] w fun e w' => e = .returned (.bool (addrOkB h p)) ∧ w.grownBy w' none := by
  go_enter Try.func39, Try.ntmps39
  go_wp2_with (go_at_call 40; refine (impl_within _ _ _ _).mono ?_; rintro e w' ⟨rfl, rfl⟩)
  all_goals
    go_ret
    refine ⟨?_, gb_alloc (gb_refl _) _⟩
    simp [addrOkB, *]
theorem spec_AddrOk (h p : Int) (w : World) : Calls Try.prog 54 #[.agg #[.int .i64 h, .int .i64 p]] w fun e w' => e = .returned (.bool (addrOkB h p)) ∧ w.grownBy w' none := by
  go_enter Try.func54, Try.ntmps54
  go_wp2_with (go_at_call 53; refine (spec_l1In _ _ _ _).mono ?_; rintro e w' ⟨rfl, rfl⟩)
  all_goals
    go_ret
    refine ⟨?_, gb_alloc (gb_refl _) _⟩
    simp [addrOkB, *]
set_option maxRecDepth 100000 in
set_option maxHeartbeats 1000000 in
theorem impl_PutAddr (a : Option Addr) (n c : Nat) (l : List UInt8) (h p : Int) (w : World) (r : Rd w a n c (bys l)) (hn : l.length ≤ 1073741000) :
    Calls Try.prog 43 #[.slice a n c, .agg #[.int .i64 h, .int .i64 p]] w (RetB w (addrM l h p)) := by
  have g0 := gb_alloc (gb_refl w) (.cells #[.int .i64 h, .int .i64 p] 27)
  have b0 := bx1 w #[.int .i64 h, .int .i64 p] 27
  have hl := Lib.hid r.blen
  have hn1 : n ≤ 1073741000 := by have := hl.out; omega
  cases hk : addrOkB h p
  · rw [show addrM l h p = l by simp [addrM, hk]]
    go_enter Try.func43, Try.ntmps43
    go_wp2_with (go_at_call 39; refine (impl_AddrOk _ _ _).mono ?_; rintro e w1 ⟨rfl, g1⟩)
    have G1 := gb_trans g0 g1
    refine (impl_clone _ _ _ l _ (r.keep0 G1) (by omega)).mono ?_
    rintro e w2 ⟨a2, n2, c2, rfl, o2, g2⟩
    go_wp2
    go_ret
    exact retB o2 G1.size (gb_trans G1 g2) rfl
  · rw [show addrM l h p = l ++ be h.toNat 4 ++ be p.toNat 2 by simp [addrM, hk]]
    have hk2 := hk
    simp only [addrOkB, Bool.and_eq_true, inB_iff] at hk2
    obtain ⟨⟨i1, i2⟩, i3, i4⟩ := hk2
    go_enter Try.func43, Try.ntmps43
    go_wp2_with (go_at_call 39; refine (impl_AddrOk _ _ _).mono ?_; rintro e w1 ⟨rfl, g1⟩)
    have G1 := gb_trans g0 g1
    have b1 := b0.keep0 g1
    have r1 := r.keep0 G1
    have KX : Hid (∀ w', w1.grownBy w' none → (w'.cell? ⟨w.heap.size, 0, none⟩ = some (.int .i64 h) ∧ w'.cell? ⟨w.heap.size, 1, none⟩ = some (.int .i64 p) ∧ w1.grownBy w' none)) :=
      fun w' hg => ⟨(b1.keep0 hg).cell 0, (b1.keep0 hg).cell 1, hg⟩
    clear g0 b0 g1 b1
    go_region_held3 (fun w' => w'.cell? ⟨w.heap.size, 0, none⟩ = some (.int .i64 h) ∧ w'.cell? ⟨w.heap.size, 1, none⟩ = some (.int .i64 p) ∧ w1.grownBy w' none)
      ((refine KX.out _ ?_; first | exact gb_drew (gb_refl _) | exact gb_trans (gb_trans (gb_drew (gb_refl _)) g2) g3 | exact gb_trans (gb_drew (gb_refl _)) g2))
      (first
        | (go_at_call 44; (with_reducible refine (impl_PutN a n c l h 4 _ (r1.keep0 (gb_drew (gb_refl _))) (by omega) i1 (by omega) (by omega) (by omega)).mono ?_); rintro e w2 ⟨a2, n2, c2, rfl, o2, g2⟩; have z2 : n2 ≤ 1073741010 := by have := hl.out; have h9 := o2.blen; simp [be_len] at h9; omega)
        | (go_at_call 44; (with_reducible refine (impl_PutN a2 n2 c2 (l ++ be h.toNat 4) p 2 _ o2.rd (by omega) i3 (by omega) (by omega) (by omega)).mono ?_); rintro e w3 ⟨a3, n3, c3, rfl, o3, g3⟩))
    have G2 := gb_trans (gb_drew G1) g2
    go_wp2
    go_ret
    exact retB o3 G2.size (gb_trans G2 g3) rfl
set_option maxRecDepth 100000 in
set_option maxHeartbeats 1000000 in
theorem spec_PutAddr (a : Option Addr) (n c : Nat) (l : List UInt8) (h p : Int) (w : World) (r : Rd w a n c (bys l)) (hn : l.length ≤ 1073741000) :
    Calls Try.prog 68 #[.slice a n c, .agg #[.int .i64 h, .int .i64 p]] w (RetB w (addrM l h p)) := by
  have g0 := gb_alloc (gb_refl w) (.cells #[.int .i64 h, .int .i64 p] 27)
  have b0 := bx1 w #[.int .i64 h, .int .i64 p] 27
  have hl := Lib.hid r.blen
  have hn1 : n ≤ 1073741000 := by have := hl.out; omega
  cases hk : addrOkB h p
  · rw [show addrM l h p = l by simp [addrM, hk]]
    go_enter Try.func68, Try.ntmps68
    go_wp2_with (first
      | (go_at_call 54; refine (spec_AddrOk _ _ _).mono ?_; rintro e w1 ⟨rfl, g1⟩; have G1 := gb_trans g0 g1; have o0 := new_ownB w1 #[] [] rfl (by simp); have G2 := gb_alloc G1 (.cells #[] 5))
      | (at_builtin; refine wpList_appB rfl (.tmp 8) (.tmp 9) rfl w1.heap.size _ _ _ _ rfl o0 _ _ _ l rfl (r.keep0 G2) (by rw [List.length_nil]; omega) (gb_alloc (gb_refl w1) (.cells #[] 5)).size ?_; intro a2 n2 c2 w2 o2 g2; have G3 := gb_app G2 o0 G1.size g2))
    go_ret
    exact retB o2 G1.size G3 rfl
  · rw [show addrM l h p = l ++ be h.toNat 4 ++ be p.toNat 2 by simp [addrM, hk]]
    have hk2 := hk
    simp only [addrOkB, Bool.and_eq_true, inB_iff] at hk2
    obtain ⟨⟨i1, i2⟩, i3, i4⟩ := hk2
    go_enter Try.func68, Try.ntmps68
    go_wp2_with (go_at_call 54; refine (spec_AddrOk _ _ _).mono ?_; rintro e w1 ⟨rfl, g1⟩)
    have G1 := gb_trans g0 g1
    have b1 := b0.keep0 g1
    have r1 := r.keep0 G1
    have KX : Hid (∀ w', w1.grownBy w' none → (w'.cell? ⟨w.heap.size, 0, none⟩ = some (.int .i64 h) ∧ w'.cell? ⟨w.heap.size, 1, none⟩ = some (.int .i64 p) ∧ w1.grownBy w' none)) :=
      fun w' hg => ⟨(b1.keep0 hg).cell 0, (b1.keep0 hg).cell 1, hg⟩
    clear g0 b0 g1 b1
    go_region_held3 (fun w' => w'.cell? ⟨w.heap.size, 0, none⟩ = some (.int .i64 h) ∧ w'.cell? ⟨w.heap.size, 1, none⟩ = some (.int .i64 p) ∧ w1.grownBy w' none)
      ((refine KX.out _ ?_; first | exact gb_drew (gb_refl _) | exact gb_trans (gb_trans (gb_drew (gb_refl _)) g2) g3 | exact gb_trans (gb_drew (gb_refl _)) g2))
      (first
        | (go_at_call 62; (with_reducible refine (spec_PutN a n c l h 4 _ (r1.keep0 (gb_drew (gb_refl _))) (by omega) i1 (by omega) (by omega) (by omega)).mono ?_); rintro e w2 ⟨a2, n2, c2, rfl, o2, g2⟩; have z2 : n2 ≤ 1073741010 := by have := hl.out; have h9 := o2.blen; simp [be_len] at h9; omega)
        | (go_at_call 62; (with_reducible refine (spec_PutN a2 n2 c2 (l ++ be h.toNat 4) p 2 _ o2.rd (by omega) i3 (by omega) (by omega) (by omega)).mono ?_); rintro e w3 ⟨a3, n3, c3, rfl, o3, g3⟩))
    have G2 := gb_trans (gb_drew G1) g2
    go_wp2
    go_ret
    exact retB o3 G2.size (gb_trans G2 g3) rfl
def mintOk (h p id : Int) (cn sn : Nat) (tick : Int) : Bool := addrOkB h p && inB id 1 9 && ((cn : Int) == 12) && ((sn : Int) == 12) && inB tick 0 1000000
def mintM (h p id : Int) (cn sn : List UInt8) (tick : Int) : List UInt8 :=
  if mintOk h p id cn.length sn.length tick then addrM [99] h p ++ [b8 id] ++ cn ++ sn ++ be tick.toNat 4 else []
set_option maxRecDepth 100000 in
set_option maxHeartbeats 1000000 in
theorem impl_MintBody (h p id : Int) (a1 : Option Addr) (n1 c1 : Nat) (l1 : List UInt8) (a2 : Option Addr) (n2 c2 : Nat) (l2 : List UInt8) (tick : Int) (w : World)
    (r1 : Rd w a1 n1 c1 (bys l1)) (r2 : Rd w a2 n2 c2 (bys l2)) :
    Calls Try.prog 12 #[.agg #[.int .i64 h, .int .i64 p], .int .i64 id, .slice a1 n1 c1, .slice a2 n2 c2, .int .i64 tick] w (RetB w (mintM h p id l1 l2 tick)) := by
  have g0 := gb_alloc (gb_refl w) (.cells #[.int .i64 h, .int .i64 p] 27)
  have b0 := bx1 w #[.int .i64 h, .int .i64 p] 27
  have e1 := r1.blen
  have e2 := r2.blen
  cases h1 : addrOkB h p
  · have hm : mintM h p id l1 l2 tick = [] := by simp [mintM, mintOk, *]
    rw [hm]
    clear hm e1 e2
    go_enter Try.func12, Try.ntmps12
    go_wp2_with (first | (go_at_call 39; refine (impl_AddrOk _ _ _).mono ?_; rintro e w1 ⟨rfl, g1⟩) | (go_at_call 41; refine (impl_isNonce _ _ _ _).mono ?_; rintro e w' ⟨rfl, rfl⟩) | (go_at_call 40; refine (impl_within _ _ _ _).mono ?_; rintro e w' ⟨rfl, rfl⟩))
    go_ret
    exact ⟨_, _, _, rfl, Ow.nil _ _ _, gb_trans g0 g1⟩
  cases h2 : inB id 1 9
  · have hm : mintM h p id l1 l2 tick = [] := by simp [mintM, mintOk, *]
    rw [hm]
    clear hm e1 e2
    go_enter Try.func12, Try.ntmps12
    go_wp2_with (first | (go_at_call 39; refine (impl_AddrOk _ _ _).mono ?_; rintro e w1 ⟨rfl, g1⟩) | (go_at_call 41; refine (impl_isNonce _ _ _ _).mono ?_; rintro e w' ⟨rfl, rfl⟩) | (go_at_call 40; refine (impl_within _ _ _ _).mono ?_; rintro e w' ⟨rfl, rfl⟩))
    go_ret
    exact ⟨_, _, _, rfl, Ow.nil _ _ _, gb_trans g0 g1⟩
  cases h3 : ((n1 : Int) == 12)
  · have hm : mintM h p id l1 l2 tick = [] := by simp [mintM, mintOk, *]
    rw [hm]
    clear hm e1 e2
    go_enter Try.func12, Try.ntmps12
    go_wp2_with (first | (go_at_call 39; refine (impl_AddrOk _ _ _).mono ?_; rintro e w1 ⟨rfl, g1⟩) | (go_at_call 41; refine (impl_isNonce _ _ _ _).mono ?_; rintro e w' ⟨rfl, rfl⟩) | (go_at_call 40; refine (impl_within _ _ _ _).mono ?_; rintro e w' ⟨rfl, rfl⟩))
    go_ret
    exact ⟨_, _, _, rfl, Ow.nil _ _ _, gb_trans g0 g1⟩
  cases h4 : ((n2 : Int) == 12)
  · have hm : mintM h p id l1 l2 tick = [] := by simp [mintM, mintOk, *]
    rw [hm]
    clear hm e1 e2
    go_enter Try.func12, Try.ntmps12
    go_wp2_with (first | (go_at_call 39; refine (impl_AddrOk _ _ _).mono ?_; rintro e w1 ⟨rfl, g1⟩) | (go_at_call 41; refine (impl_isNonce _ _ _ _).mono ?_; rintro e w' ⟨rfl, rfl⟩) | (go_at_call 40; refine (impl_within _ _ _ _).mono ?_; rintro e w' ⟨rfl, rfl⟩))
    go_ret
    exact ⟨_, _, _, rfl, Ow.nil _ _ _, gb_trans g0 g1⟩
  cases h5 : inB tick 0 1000000
  · have hm : mintM h p id l1 l2 tick = [] := by simp [mintM, mintOk, *]
    rw [hm]
    clear hm e1 e2
    go_enter Try.func12, Try.ntmps12
    go_wp2_with (first | (go_at_call 39; refine (impl_AddrOk _ _ _).mono ?_; rintro e w1 ⟨rfl, g1⟩) | (go_at_call 41; refine (impl_isNonce _ _ _ _).mono ?_; rintro e w' ⟨rfl, rfl⟩) | (go_at_call 40; refine (impl_within _ _ _ _).mono ?_; rintro e w' ⟨rfl, rfl⟩))
    go_ret
    exact ⟨_, _, _, rfl, Ow.nil _ _ _, gb_trans g0 g1⟩
  have hm : mintM h p id l1 l2 tick = addrM [99] h p ++ [b8 id] ++ l1 ++ l2 ++ be tick.toNat 4 := by simp [mintM, mintOk, *]
  rw [hm]
  have H2 := inB_iff.1 h2
  have H5 := inB_iff.1 h5
  have k1 : l1.length ≤ 12 := by have := beq_iff_eq.1 h3; omega
  have k2 : l2.length ≤ 12 := by have := beq_iff_eq.1 h4; omega
  clear hm e1 e2
  go_enter Try.func12, Try.ntmps12
  go_wp2_with (first | (go_at_call 39; refine (impl_AddrOk _ _ _).mono ?_; rintro e w1 ⟨rfl, g1⟩; have G1 := gb_trans g0 g1; replace b0 := b0.keep0 g1; have lb := b0.lt; have cc := fun o => b0.cell o) | (go_at_call 41; refine (impl_isNonce _ _ _ _).mono ?_; rintro e w' ⟨rfl, rfl⟩) | (go_at_call 40; refine (impl_within _ _ _ _).mono ?_; rintro e w' ⟨rfl, rfl⟩))
  have s0 : Rd (w1.alloc (.cells #[.int .u8 99] 5)) (some ⟨w1.heap.size, 0, none⟩) 1 1 (bys [99]) := new_bys w1 _ #[.int .u8 99] [99] rfl
  have G2 := gb_alloc G1 (.cells #[.int .u8 99] 5)
  refine (impl_PutAddr _ _ _ [99] h p _ s0 (by simp)).mono ?_
  rintro e w2 ⟨b2, m2, d2, rfl, o2, g2⟩
  have G3 := gb_trans G2 g2
  have s1 : Rd (w2.alloc (.cells #[.int .u8 id] 5)) (some ⟨w2.heap.size, 0, none⟩) 1 1 (bys [b8 id]) := new_bys w2 _ #[.int .u8 id] [b8 id] (by rw [bys, List.map_singleton, b8_val (by omega) (by omega)])
  have g4 := gb_alloc (gb_refl w2) (.cells #[.int .u8 id] 5)
  clear cc
  go_wp2_with fail
  refine (impl_PutN none 0 0 [] _ _ _ (Rd.nil _ _ _) (by omega) H5.1 (by omega) (by omega) (by omega)).mono ?_
  rintro e w3 ⟨b3, m3, d3, rfl, o3, g3⟩
  have g5 := gb_trans g4 g3
  have G5 := gb_trans G3 g5
  go_wp2_with fail
  have g6 := gb_alloc (gb_refl w3) (.cells #[.slice b2 m2 d2, .slice (some ⟨w2.heap.size, 0, none⟩) 1 1, .slice a1 n1 c1, .slice a2 n2 c2, .slice b3 m3 d3] 22)
  have G6 := gb_trans G5 g6
  refine (impl_joined _ _ _ [⟨b2, m2, d2, addrM [99] h p⟩, ⟨_, _, _, [b8 id]⟩, ⟨a1, n1, c1, l1⟩, ⟨a2, n2, c2, l2⟩, ⟨b3, m3, d3, be tick.toNat 4⟩] _ (new_rd _ _ _ 5 rfl) (ok_cons ((o2.rd.keep0 g5).keep0 g6) (ok_cons ((s1.keep0 g3).keep0 g6) (ok_cons (r1.keep0 G6) (ok_cons (r2.keep0 G6) (ok_cons (o3.rd.keep0 g6) ok_nil))))) (by omega) (by have := addrM_len [99] h p; simp [cat, be_len] at this ⊢; omega)).mono ?_
  rintro e w7 ⟨b7, m7, d7, rfl, o7, g7⟩
  have z6 := G6.size
  go_wp2
  go_ret
  exact retB o7 z6 (gb_trans G6 g7) (by simp [cat])
set_option maxRecDepth 100000 in
set_option maxHeartbeats 1000000 in
theorem spec_MintBody (h p id : Int) (a1 : Option Addr) (n1 c1 : Nat) (l1 : List UInt8) (a2 : Option Addr) (n2 c2 : Nat) (l2 : List UInt8) (tick : Int) (w : World)
    (r1 : Rd w a1 n1 c1 (bys l1)) (r2 : Rd w a2 n2 c2 (bys l2)) :
    Calls Try.prog 36 #[.agg #[.int .i64 h, .int .i64 p], .int .i64 id, .slice a1 n1 c1, .slice a2 n2 c2, .int .i64 tick] w (RetB w (mintM h p id l1 l2 tick)) := by
  have g0 := gb_alloc (gb_refl w) (.cells #[.int .i64 h, .int .i64 p] 27)
  have b0 := bx1 w #[.int .i64 h, .int .i64 p] 27
  have e1 := r1.blen
  have e2 := r2.blen
  cases h1 : addrOkB h p
  · have hm : mintM h p id l1 l2 tick = [] := by simp [mintM, mintOk, *]
    rw [hm]
    clear hm e1 e2
    go_enter Try.func36, Try.ntmps36
    go_wp2_with (first | (go_at_call 54; refine (spec_AddrOk _ _ _).mono ?_; rintro e w1 ⟨rfl, g1⟩) | (go_at_call 53; refine (spec_l1In _ _ _ _).mono ?_; rintro e w' ⟨rfl, rfl⟩))
    go_ret
    exact ⟨_, _, _, rfl, (new_own _ _).mono (gb_trans g0 g1).size, gb_alloc (gb_trans g0 g1) _⟩
  cases h2 : inB id 1 9
  · have hm : mintM h p id l1 l2 tick = [] := by simp [mintM, mintOk, *]
    rw [hm]
    clear hm e1 e2
    go_enter Try.func36, Try.ntmps36
    go_wp2_with (first | (go_at_call 54; refine (spec_AddrOk _ _ _).mono ?_; rintro e w1 ⟨rfl, g1⟩) | (go_at_call 53; refine (spec_l1In _ _ _ _).mono ?_; rintro e w' ⟨rfl, rfl⟩))
    go_ret
    exact ⟨_, _, _, rfl, (new_own _ _).mono (gb_trans g0 g1).size, gb_alloc (gb_trans g0 g1) _⟩
  cases h3 : ((n1 : Int) == 12)
  · have h3' : ((n1 : Int) != 12) = true := by simpa using h3
    have hm : mintM h p id l1 l2 tick = [] := by simp [mintM, mintOk, *]
    rw [hm]
    clear hm e1 e2
    go_enter Try.func36, Try.ntmps36
    go_wp2_with (first | (go_at_call 54; refine (spec_AddrOk _ _ _).mono ?_; rintro e w1 ⟨rfl, g1⟩) | (go_at_call 53; refine (spec_l1In _ _ _ _).mono ?_; rintro e w' ⟨rfl, rfl⟩))
    go_ret
    exact ⟨_, _, _, rfl, (new_own _ _).mono (gb_trans g0 g1).size, gb_alloc (gb_trans g0 g1) _⟩
  have h3' : ((n1 : Int) != 12) = false := by simpa using h3
  cases h4 : ((n2 : Int) == 12)
  · have h4' : ((n2 : Int) != 12) = true := by simpa using h4
    have hm : mintM h p id l1 l2 tick = [] := by simp [mintM, mintOk, *]
    rw [hm]
    clear hm e1 e2
    go_enter Try.func36, Try.ntmps36
    go_wp2_with (first | (go_at_call 54; refine (spec_AddrOk _ _ _).mono ?_; rintro e w1 ⟨rfl, g1⟩) | (go_at_call 53; refine (spec_l1In _ _ _ _).mono ?_; rintro e w' ⟨rfl, rfl⟩))
    go_ret
    exact ⟨_, _, _, rfl, (new_own _ _).mono (gb_trans g0 g1).size, gb_alloc (gb_trans g0 g1) _⟩
  have h4' : ((n2 : Int) != 12) = false := by simpa using h4
  cases h5 : inB tick 0 1000000
  · have hm : mintM h p id l1 l2 tick = [] := by simp [mintM, mintOk, *]
    rw [hm]
    clear hm e1 e2
    go_enter Try.func36, Try.ntmps36
    go_wp2_with (first | (go_at_call 54; refine (spec_AddrOk _ _ _).mono ?_; rintro e w1 ⟨rfl, g1⟩) | (go_at_call 53; refine (spec_l1In _ _ _ _).mono ?_; rintro e w' ⟨rfl, rfl⟩))
    go_ret
    exact ⟨_, _, _, rfl, (new_own _ _).mono (gb_trans g0 g1).size, gb_alloc (gb_trans g0 g1) _⟩
  have hm : mintM h p id l1 l2 tick = addrM [99] h p ++ [b8 id] ++ l1 ++ l2 ++ be tick.toNat 4 := by simp [mintM, mintOk, *]
  rw [hm]
  have H2 := inB_iff.1 h2
  have H5 := inB_iff.1 h5
  have k1 : l1.length ≤ 12 := by have := beq_iff_eq.1 h3; omega
  have k2 : l2.length ≤ 12 := by have := beq_iff_eq.1 h4; omega
  have ka := addrM_len [99] h p
  rw [show ([99] : List UInt8).length = 1 from rfl] at ka
  clear hm e1 e2
  go_enter Try.func36, Try.ntmps36
  go_wp2_with (first | (go_at_call 54; refine (spec_AddrOk _ _ _).mono ?_; rintro e w1 ⟨rfl, g1⟩; have G1 := gb_trans g0 g1; replace b0 := b0.keep0 g1; have lb := b0.lt; have cc := fun o => b0.cell o) | (go_at_call 53; refine (spec_l1In _ _ _ _).mono ?_; rintro e w' ⟨rfl, rfl⟩))
  have s0 : Rd (w1.alloc (.cells #[.int .u8 99] 5)) (some ⟨w1.heap.size, 0, none⟩) 1 1 (bys [99]) := new_bys w1 _ #[.int .u8 99] [99] rfl
  have G2 := gb_alloc G1 (.cells #[.int .u8 99] 5)
  refine (spec_PutAddr _ _ _ [99] h p _ s0 (by simp)).mono ?_
  rintro e w2 ⟨b2, m2, d2, rfl, o2, g2⟩
  have G3 := gb_trans G2 g2
  have s1 : Rd (w2.alloc (.cells #[.int .u8 id] 5)) (some ⟨w2.heap.size, 0, none⟩) 1 1 (bys [b8 id]) := new_bys w2 _ #[.int .u8 id] [b8 id] (by rw [bys, List.map_singleton, b8_val (by omega) (by omega)])
  have g4 := gb_alloc (gb_refl w2) (.cells #[.int .u8 id] 5)
  have o2' := (o2.keep0 g4).mono G2.size
  have G4 := gb_trans G3 g4
  clear cc
  go_wp2_with (first
    | (refine wpList_appB rfl (.tmp 38) (.tmp 41) rfl w.heap.size _ _ _ _ rfl o2' _ _ _ [b8 id] rfl s1 (by simp; omega) G4.size ?_; intro b5 m5 d5 w5 o5 g5; have G5 := gb_app G4 o2' (Nat.le_refl _) g5)
    | (refine wpList_appB rfl (.tmp 43) (.tmp 44) rfl w.heap.size _ _ _ _ rfl o5 _ _ _ l1 rfl (r1.keep0 G5) (by simp; omega) G5.size ?_; intro b6 m6 d6 w6 o6 g6; have G6 := gb_app G5 o5 (Nat.le_refl _) g6)
    | (refine wpList_appB rfl (.tmp 45) (.tmp 46) rfl w.heap.size _ _ _ _ rfl o6 _ _ _ l2 rfl (r2.keep0 G6) (by simp; omega) G6.size ?_; intro b7 m7 d7 w7 o7 g7; have G7 := gb_app G6 o6 (Nat.le_refl _) g7))
  refine (spec_PutN _ _ _ _ _ _ _ o7.rd (by have := o7.blen; simp at this; omega) H5.1 (by omega) (by omega) (by omega)).mono ?_
  rintro e w8 ⟨b8', m8, d8, rfl, o8, g8⟩
  go_wp2
  go_ret
  exact retB o8 G7.size (gb_trans G7 g8) (by simp)
theorem mintM_len (h p id : Int) (cn sn : List UInt8) (tick : Int) : (mintM h p id cn sn tick).length ≤ 36 := by
  unfold mintM
  split
  · rename_i h9
    simp only [mintOk, Bool.and_eq_true, beq_iff_eq] at h9
    have := addrM_len [99] h p
    simp [be_len] at this ⊢
    omega
  · simp
end Go.Proofs.Ytjdaafemfpafdaa
