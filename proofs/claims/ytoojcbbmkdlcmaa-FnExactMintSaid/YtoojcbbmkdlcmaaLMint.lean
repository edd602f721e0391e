/-
  FnExactMint returns true for every jar, address, id, nonces and tick. Conditions: none.
-/
import Derived.Test.YtoojcbbmkdlcmaaLaw
import Derived.Test.YtoojcbbmkdlcmaaKeys4
import Derived.Test.YtoojcbbmkdlcmaaHelpS
import Derived.Deep.RegionHeld3
namespace Go.Proofs.Ytoojcbbmkdlcmaa.lMint
open Go.ChangeShapes Go.WideShapes Go.ChangeAt Go.RowKit
theorem LS_Mint (v0 : Value) (f0 : JarM) (v1 : Value) (f1 : AddrM) (x2 : Int) (a3 : Option Addr) (n3 c3 : Nat) (l3 : List UInt8) (a4 : Option Addr) (n4 c4 : Nat) (l4 : List UInt8) (x5 : Int) (w : World) (h0 : JarR w v0 f0) (h1 : AddrR w v1 f1) (r3 : Rd w a3 n3 c3 (bys l3)) (r4 : Rd w a4 n4 c4 (bys l4)) (_s0 : f0.tot ≤ 1048576) (_s3 : l3.length ≤ 1048576) (_s4 : l4.length ≤ 1048576) : Calls Try.prog 39 #[v0, v1, .int .i64 x2, .slice a3 n3 c3, .slice a4 n4 c4, .int .i64 x5] w fun e w' => ∃ a n c, e = .returned (.slice a n c) ∧ Ow w.heap.size w' 5 a n c (bys (cookM f0.secret f1.host f1.port x2 l3 l4 x5)) ∧ w.grownBy w' none := by
  obtain rfl := h1
  obtain ⟨a0, n0, c0, rfl, r0⟩ := h0
  exact spec_Mint a0 n0 c0 f0.secret f1.host f1.port x2 a3 n3 c3 l3 a4 n4 c4 l4 x5 w r0 r3 r4
theorem LI_Mint (v0 : Value) (f0 : JarM) (v1 : Value) (f1 : AddrM) (x2 : Int) (a3 : Option Addr) (n3 c3 : Nat) (l3 : List UInt8) (a4 : Option Addr) (n4 c4 : Nat) (l4 : List UInt8) (x5 : Int) (w : World) (h0 : JarR w v0 f0) (h1 : AddrR w v1 f1) (r3 : Rd w a3 n3 c3 (bys l3)) (r4 : Rd w a4 n4 c4 (bys l4)) (_s0 : f0.tot ≤ 1048576) (_s3 : l3.length ≤ 1048576) (_s4 : l4.length ≤ 1048576) : Calls Try.prog 42 #[v0, v1, .int .i64 x2, .slice a3 n3 c3, .slice a4 n4 c4, .int .i64 x5] w fun e w' => ∃ a n c, e = .returned (.slice a n c) ∧ Ow w.heap.size w' 5 a n c (bys (cookM f0.secret f1.host f1.port x2 l3 l4 x5)) ∧ w.grownBy w' none := by
  obtain rfl := h1
  obtain ⟨a0, n0, c0, rfl, r0⟩ := h0
  exact impl_Mint a0 n0 c0 f0.secret f1.host f1.port x2 a3 n3 c3 l3 a4 n4 c4 l4 x5 w r0 r3 r4
set_option maxRecDepth 100000 in
set_option maxHeartbeats 4000000 in
theorem walk (w : World) (v0 v1 v2 v3 v4 v5 : Value) (h0 : InJar w v0) (h1 : InAddr w v1) (h2 : InInt v2) (h3 : InBytes w v3) (h4 : InBytes w v4) (h5 : InInt v5) : Calls Try.prog 10 #[v0, v1, v2, v3, v4, v5] w fun e w' => e = .returned (.bool true) ∧ Below w.heap.size w w' := by
  obtain ⟨f0, hR0, hL0⟩ := h0
  have hS0 := hR0.shape
  obtain ⟨a0_0, n0_0, c0_0, rfl⟩ := hS0
  obtain ⟨f1, hR1, hL1⟩ := h1
  obtain rfl := hR1
  obtain ⟨x2, rfl, hx2⟩ := h2
  obtain ⟨a3, n3, c3, l3, rfl, hR3, hC3⟩ := h3
  have hN3 := Lib.hid hR3.blen
  obtain ⟨a4, n4, c4, l4, rfl, hR4, hC4⟩ := h4
  have hN4 := Lib.hid hR4.blen
  obtain ⟨x5, rfl, hx5⟩ := h5
  have T0 : Below w.heap.size w w := Below.refl _ _
  go_enter Try.func10, Try.ntmps10
  rcases Nat.lt_or_ge 1048576 n3 with p3 | p3
  · go_wp2
    go_ret
    exact ⟨rfl, below_next T0 (by repeat (first | with_reducible exact gb_refl _ | refine gb_alloc ?_ _ | refine gb_drewN ?_ _ | refine gb_drew ?_))⟩
  have P3 := Lib.hid p3
  have p3z : ((n3 : Int) ≤ 1048576) := by have := P3.out; omega
  clear p3
  rcases Nat.lt_or_ge 1048576 n4 with p4 | p4
  · go_wp2
    go_ret
    exact ⟨rfl, below_next T0 (by repeat (first | with_reducible exact gb_refl _ | refine gb_alloc ?_ _ | refine gb_drewN ?_ _ | refine gb_drew ?_))⟩
  have P4 := Lib.hid p4
  have p4z : ((n4 : Int) ≤ 1048576) := by have := P4.out; omega
  clear p4
  rcases Nat.lt_or_ge (1048576) f0.tot with p0 | p0
  · go_wp2_with fail
    refine (laws_szJar _ f0 (1048576) _ ((hR0.below T0).keep0 (by repeat (first | with_reducible exact gb_refl _ | refine gb_alloc ?_ _ | refine gb_drewN ?_ _ | refine gb_drew ?_))) (by omega) (hL0.len1)).mono ?_
    rintro e w9 ⟨_, hn9, g9⟩
    obtain rfl := hn9 p0
    clear hn9
    go_wp2
    go_ret
    exact ⟨rfl, below_next T0 (gb_trans (by repeat (first | with_reducible exact gb_refl _ | refine gb_alloc ?_ _ | refine gb_drewN ?_ _ | refine gb_drew ?_)) g9)⟩
  have P0 := Lib.hid p0
  clear p0
  go_wp2_with fail
  refine (laws_szJar _ f0 (1048576) _ ((hR0.below T0).keep0 (by repeat (first | with_reducible exact gb_refl _ | refine gb_alloc ?_ _ | refine gb_drewN ?_ _ | refine gb_drew ?_))) (by omega) (hL0.len1)).mono ?_
  rintro e w1 ⟨hy9, hn9, g1⟩
  obtain rfl := hy9 P0.out
  clear hy9 hn9
  have R1 : w.grownBy w1 none := gb_trans (by repeat (first | with_reducible exact gb_refl _ | refine gb_alloc ?_ _ | refine gb_drewN ?_ _ | refine gb_drew ?_)) g1
  have T1 : Below w.heap.size w w1 := below_next T0 R1
  have z1 := R1.size
  have bb_aJ : Bx w1 (w.heap.size) 48 #[.slice a0_0 n0_0 c0_0] := (bx2 w _ _ _ _).1.keep0 g1
  have bb_aA : Bx w1 (w.heap.size + 1) 50 #[.int .i64 f1.host, .int .i64 f1.port] := (bx2 w _ _ _ _).2.keep0 g1
  have cc_aJ := fun o => bb_aJ.cell o
  have ll_aJ_1 := bb_aJ.lt
  have cc_aA := fun o => bb_aA.cell o
  have ll_aA_1 := bb_aA.lt
  go_wp2_with fail
  have KX : Hid (∀ w', w1.grownBy w' none → (w'.cell? ⟨w.heap.size, 0, none⟩ = some (.slice a0_0 n0_0 c0_0) ∧ w'.cell? ⟨w.heap.size + 1, 0, none⟩ = some (.int .i64 f1.host) ∧ w'.cell? ⟨w.heap.size + 1, 1, none⟩ = some (.int .i64 f1.port) ∧ w1.grownBy w' none)) :=
    fun w' hg => ⟨(bb_aJ.keep0 hg).cell 0, (bb_aA.keep0 hg).cell 0, (bb_aA.keep0 hg).cell 1, hg⟩
  clear cc_aJ cc_aA
  have cc_aJ : True := trivial
  have cc_aA : True := trivial
  go_region_held3 (fun w' => w'.cell? ⟨w.heap.size, 0, none⟩ = some (.slice a0_0 n0_0 c0_0) ∧ w'.cell? ⟨w.heap.size + 1, 0, none⟩ = some (.int .i64 f1.host) ∧ w'.cell? ⟨w.heap.size + 1, 1, none⟩ = some (.int .i64 f1.port) ∧ w1.grownBy w' none)
    ((refine KX.out _ ?_; (repeat (first | with_reducible exact gb_refl _ | with_reducible refine gb_alloc ?_ _ | with_reducible refine gb_drewN ?_ _ | with_reducible refine gb_drew ?_ | with_reducible refine gb_trans ?_ R2 | with_reducible refine gb_trans ?_ R3 | with_reducible refine gb_trans ?_ R4 | with_reducible refine gb_trans ?_ R5 | with_reducible refine gb_trans ?_ R6))))
    (first
      | (go_at_call 40
         refine (laws_toJar _ f0 _ ((hR0.below T1).keep0 (by repeat (first | with_reducible exact gb_refl _ | refine gb_alloc ?_ _ | refine gb_drewN ?_ _ | refine gb_drew ?_))) (by have := P0.out; simp only [JarM.tot] at this; omega)).mono ?_
         rintro e w2 ⟨v_tw00, rfl, o_tw00, g2⟩
         obtain ⟨a_tw00_0, n_tw00_0, c_tw00_0, rfl⟩ := o_tw00.r.shape
         have R2 : w1.grownBy w2 none := gb_trans (by repeat (first | with_reducible exact gb_refl _ | refine gb_alloc ?_ _ | refine gb_drewN ?_ _ | refine gb_drew ?_)) g2
         have T2 : Below w.heap.size w w2 := below_next T1 R2
         have z2 := R2.size
         clear cc_aJ cc_aA
         replace bb_aJ := bb_aJ.keep0 R2
         replace bb_aA := bb_aA.keep0 R2
         have cc_aJ := fun o => bb_aJ.cell o
         have ll_aJ_2 := bb_aJ.lt
         have cc_aA := fun o => bb_aA.cell o
         have ll_aA_2 := bb_aA.lt
         replace o_tw00 := o_tw00.low (B' := w1.heap.size) (by first | exact Nat.le_refl _ | (simp; done) | (simp; omega)))
      | (go_at_call 41
         refine (laws_toAddr _ f1 _ rfl).mono ?_
         rintro e w3 ⟨v_tw01, rfl, o_tw01, g3⟩
         obtain rfl := o_tw01
         have R3 : w2.grownBy w3 none := gb_trans (by repeat (first | with_reducible exact gb_refl _ | refine gb_alloc ?_ _ | refine gb_drewN ?_ _ | refine gb_drew ?_)) g3
         have T3 : Below w.heap.size w w3 := below_next T2 R3
         have z3 := R3.size
         replace o_tw00 := o_tw00.keep0 R3
         clear cc_aJ cc_aA
         replace bb_aJ := bb_aJ.keep0 R3
         replace bb_aA := bb_aA.keep0 R3
         have cc_aJ := fun o => bb_aJ.cell o
         have ll_aJ_3 := bb_aJ.lt
         have cc_aA := fun o => bb_aA.cell o
         have ll_aA_3 := bb_aA.lt)
      | (go_at_call 13
         (with_reducible refine (laws_toByteS _ _ _ l3 _ ((hR3.below T3).keep0 (by repeat (first | with_reducible exact gb_refl _ | refine gb_alloc ?_ _ | refine gb_drewN ?_ _ | refine gb_drew ?_))) (by have := P3.out; omega)).mono ?_)
         rintro e w4 ⟨a_tw02, c_tw02, rfl, o_tw02, g4⟩
         have u_tw02 := fun p hp => (o_tw02.lt p hp).2
         have R4 : w3.grownBy w4 none := gb_trans (by repeat (first | with_reducible exact gb_refl _ | refine gb_alloc ?_ _ | refine gb_drewN ?_ _ | refine gb_drew ?_)) g4
         have T4 : Below w.heap.size w w4 := below_next T3 R4
         have z4 := R4.size
         replace o_tw00 := o_tw00.keep0 R4
         clear cc_aJ cc_aA
         replace bb_aJ := bb_aJ.keep0 R4
         replace bb_aA := bb_aA.keep0 R4
         have cc_aJ := fun o => bb_aJ.cell o
         have ll_aJ_4 := bb_aJ.lt
         have cc_aA := fun o => bb_aA.cell o
         have ll_aA_4 := bb_aA.lt
         replace o_tw02 := o_tw02.mono (B' := w3.heap.size) (by first | exact Nat.le_refl _ | (simp; done) | (simp; omega)))
      | (go_at_call 13
         (with_reducible refine (laws_toByteS _ _ _ l4 _ ((hR4.below T4).keep0 (by repeat (first | with_reducible exact gb_refl _ | refine gb_alloc ?_ _ | refine gb_drewN ?_ _ | refine gb_drew ?_))) (by have := P4.out; omega)).mono ?_)
         rintro e w5 ⟨a_tw03, c_tw03, rfl, o_tw03, g5⟩
         have u_tw03 := fun p hp => (o_tw03.lt p hp).2
         have R5 : w4.grownBy w5 none := gb_trans (by repeat (first | with_reducible exact gb_refl _ | refine gb_alloc ?_ _ | refine gb_drewN ?_ _ | refine gb_drew ?_)) g5
         have T5 : Below w.heap.size w w5 := below_next T4 R5
         have z5 := R5.size
         replace o_tw00 := o_tw00.keep0 R5
         replace o_tw02 := o_tw02.keep0 R5
         clear cc_aJ cc_aA
         replace bb_aJ := bb_aJ.keep0 R5
         replace bb_aA := bb_aA.keep0 R5
         have cc_aJ := fun o => bb_aJ.cell o
         have ll_aJ_5 := bb_aJ.lt
         have cc_aA := fun o => bb_aA.cell o
         have ll_aA_5 := bb_aA.lt
         replace o_tw03 := o_tw03.mono (B' := w4.heap.size) (by first | exact Nat.le_refl _ | (simp; done) | (simp; omega)))
      | (go_at_call 39
         refine (LS_Mint _ f0 _ f1 x2 _ _ _ l3 _ _ _ l4 x5 _ (o_tw00.r.keep0 (by repeat (first | with_reducible exact gb_refl _ | refine gb_alloc ?_ _ | refine gb_drewN ?_ _ | refine gb_drew ?_))) rfl (o_tw02.rd.keep0 (by repeat (first | with_reducible exact gb_refl _ | refine gb_alloc ?_ _ | refine gb_drewN ?_ _ | refine gb_drew ?_))) (o_tw03.rd.keep0 (by repeat (first | with_reducible exact gb_refl _ | refine gb_alloc ?_ _ | refine gb_drewN ?_ _ | refine gb_drew ?_))) (by have := P0.out; omega) (show l3.length ≤ 1048576 by have := hN3.out; have := P3.out; omega) (show l4.length ≤ 1048576 by have := hN4.out; have := P4.out; omega)).mono ?_
         rintro e w6 ⟨a_w0, n_w0, c_w0, rfl, o_w0, g6⟩
         have u_w0 := fun p hp => (o_w0.lt p hp).2
         have R6 : w5.grownBy w6 none := gb_trans (by repeat (first | with_reducible exact gb_refl _ | refine gb_alloc ?_ _ | refine gb_drewN ?_ _ | refine gb_drew ?_)) g6
         have T6 : Below w.heap.size w w6 := below_next T5 R6
         have z6 := R6.size
         replace o_tw00 := o_tw00.keep0 R6
         replace o_tw02 := o_tw02.keep0 R6
         replace o_tw03 := o_tw03.keep0 R6
         clear cc_aJ cc_aA
         replace bb_aJ := bb_aJ.keep0 R6
         replace bb_aA := bb_aA.keep0 R6
         have cc_aJ := fun o => bb_aJ.cell o
         have ll_aJ_6 := bb_aJ.lt
         have cc_aA := fun o => bb_aA.cell o
         have ll_aA_6 := bb_aA.lt)
      | fail)
  clear KX
  replace o_w0 := o_w0.mono (B' := w5.heap.size) (by first | exact Nat.le_refl _ | (simp; done) | (simp; omega))
  clear o_tw00
  clear o_tw02 u_tw02
  clear o_tw03 u_tw03
  go_wp2_with fail
  refine (laws_toJar _ f0 _ ((hR0.below T6).keep0 (by repeat (first | with_reducible exact gb_refl _ | refine gb_alloc ?_ _ | refine gb_drewN ?_ _ | refine gb_drew ?_))) (by have := P0.out; simp only [JarM.tot] at this; omega)).mono ?_
  rintro e w7 ⟨v_x0, rfl, o_x0, g7⟩
  obtain ⟨a_x0_0, n_x0_0, c_x0_0, rfl⟩ := o_x0.r.shape
  have R7 : w6.grownBy w7 none := gb_trans (by repeat (first | with_reducible exact gb_refl _ | refine gb_alloc ?_ _ | refine gb_drewN ?_ _ | refine gb_drew ?_)) g7
  have T7 : Below w.heap.size w w7 := below_next T6 R7
  have z7 := R7.size
  replace o_w0 := o_w0.keep0 R7
  clear cc_aJ cc_aA
  replace bb_aJ := bb_aJ.keep0 R7
  replace bb_aA := bb_aA.keep0 R7
  have cc_aJ := fun o => bb_aJ.cell o
  have ll_aJ_7 := bb_aJ.lt
  have cc_aA := fun o => bb_aA.cell o
  have ll_aA_7 := bb_aA.lt
  replace o_x0 := o_x0.low (B' := w6.heap.size) (by first | exact Nat.le_refl _ | (simp; done) | (simp; omega))
  go_wp2_with fail
  refine (laws_toByteS _ _ _ l3 _ ((hR3.below T7).keep0 (by repeat (first | with_reducible exact gb_refl _ | refine gb_alloc ?_ _ | refine gb_drewN ?_ _ | refine gb_drew ?_))) (by have := P3.out; omega)).mono ?_
  rintro e w8 ⟨a_x3, c_x3, rfl, o_x3, g8⟩
  have u_x3 := fun p hp => (o_x3.lt p hp).2
  have R8 : w7.grownBy w8 none := gb_trans (by repeat (first | with_reducible exact gb_refl _ | refine gb_alloc ?_ _ | refine gb_drewN ?_ _ | refine gb_drew ?_)) g8
  have T8 : Below w.heap.size w w8 := below_next T7 R8
  have z8 := R8.size
  replace o_w0 := o_w0.keep0 R8
  replace o_x0 := o_x0.keep0 R8
  clear cc_aJ cc_aA
  replace bb_aJ := bb_aJ.keep0 R8
  replace bb_aA := bb_aA.keep0 R8
  have bb_x0 : Bx w8 (w7.heap.size) 32 #[.slice a_x0_0 n_x0_0 c_x0_0] := (bx1 w7 _ _).keep0 g8
  have cc_aJ := fun o => bb_aJ.cell o
  have ll_aJ_8 := bb_aJ.lt
  have cc_aA := fun o => bb_aA.cell o
  have ll_aA_8 := bb_aA.lt
  have cc_x0 := fun o => bb_x0.cell o
  have ll_x0_8 := bb_x0.lt
  replace o_x3 := o_x3.mono (B' := w7.heap.size + 1) (by first | exact Nat.le_refl _ | (simp; done) | (simp; omega))
  go_wp2_with fail
  refine (laws_toByteS _ _ _ l4 _ ((hR4.below T8).keep0 (by repeat (first | with_reducible exact gb_refl _ | refine gb_alloc ?_ _ | refine gb_drewN ?_ _ | refine gb_drew ?_))) (by have := P4.out; omega)).mono ?_
  rintro e w9 ⟨a_x4, c_x4, rfl, o_x4, g9⟩
  have u_x4 := fun p hp => (o_x4.lt p hp).2
  have R9 : w8.grownBy w9 none := gb_trans (by repeat (first | with_reducible exact gb_refl _ | refine gb_alloc ?_ _ | refine gb_drewN ?_ _ | refine gb_drew ?_)) g9
  have T9 : Below w.heap.size w w9 := below_next T8 R9
  have z9 := R9.size
  replace o_w0 := o_w0.keep0 R9
  replace o_x0 := o_x0.keep0 R9
  replace o_x3 := o_x3.keep0 R9
  clear cc_aJ cc_aA cc_x0
  replace bb_aJ := bb_aJ.keep0 R9
  replace bb_aA := bb_aA.keep0 R9
  replace bb_x0 := bb_x0.keep0 R9
  have cc_aJ := fun o => bb_aJ.cell o
  have ll_aJ_9 := bb_aJ.lt
  have cc_aA := fun o => bb_aA.cell o
  have ll_aA_9 := bb_aA.lt
  have cc_x0 := fun o => bb_x0.cell o
  have ll_x0_9 := bb_x0.lt
  replace o_x4 := o_x4.mono (B' := w8.heap.size) (by first | exact Nat.le_refl _ | (simp; done) | (simp; omega))
  go_wp2_with fail
  have KX : Hid (∀ w', w9.grownBy w' none → (w'.cell? ⟨w7.heap.size, 0, none⟩ = some (.slice a_x0_0 n_x0_0 c_x0_0) ∧ w'.cell? ⟨w.heap.size + 1, 0, none⟩ = some (.int .i64 f1.host) ∧ w'.cell? ⟨w.heap.size + 1, 1, none⟩ = some (.int .i64 f1.port) ∧ w9.grownBy w' none)) :=
    fun w' hg => ⟨(bb_x0.keep0 hg).cell 0, (bb_aA.keep0 hg).cell 0, (bb_aA.keep0 hg).cell 1, hg⟩
  clear cc_aJ cc_aA cc_x0
  have cc_aJ : True := trivial
  have cc_aA : True := trivial
  have cc_x0 : True := trivial
  go_region_held3 (fun w' => w'.cell? ⟨w7.heap.size, 0, none⟩ = some (.slice a_x0_0 n_x0_0 c_x0_0) ∧ w'.cell? ⟨w.heap.size + 1, 0, none⟩ = some (.int .i64 f1.host) ∧ w'.cell? ⟨w.heap.size + 1, 1, none⟩ = some (.int .i64 f1.port) ∧ w9.grownBy w' none)
    ((refine KX.out _ ?_; (repeat (first | with_reducible exact gb_refl _ | with_reducible refine gb_alloc ?_ _ | with_reducible refine gb_drewN ?_ _ | with_reducible refine gb_drew ?_ | with_reducible refine gb_trans ?_ R10 | with_reducible refine gb_trans ?_ R11))))
    (first
      | (go_at_call 41
         refine (laws_toAddr _ f1 _ rfl).mono ?_
         rintro e w10 ⟨v_tg00, rfl, o_tg00, g10⟩
         obtain rfl := o_tg00
         have R10 : w9.grownBy w10 none := gb_trans (by repeat (first | with_reducible exact gb_refl _ | refine gb_alloc ?_ _ | refine gb_drewN ?_ _ | refine gb_drew ?_)) g10
         have T10 : Below w.heap.size w w10 := below_next T9 R10
         have z10 := R10.size
         replace o_w0 := o_w0.keep0 R10
         replace o_x0 := o_x0.keep0 R10
         replace o_x3 := o_x3.keep0 R10
         replace o_x4 := o_x4.keep0 R10
         clear cc_aJ cc_aA cc_x0
         replace bb_aJ := bb_aJ.keep0 R10
         replace bb_aA := bb_aA.keep0 R10
         replace bb_x0 := bb_x0.keep0 R10
         have cc_aJ := fun o => bb_aJ.cell o
         have ll_aJ_10 := bb_aJ.lt
         have cc_aA := fun o => bb_aA.cell o
         have ll_aA_10 := bb_aA.lt
         have cc_x0 := fun o => bb_x0.cell o
         have ll_x0_10 := bb_x0.lt)
      | (go_at_call 42
         refine (LI_Mint _ f0 _ f1 x2 _ _ _ l3 _ _ _ l4 x5 _ (o_x0.r.keep0 (by repeat (first | with_reducible exact gb_refl _ | refine gb_alloc ?_ _ | refine gb_drewN ?_ _ | refine gb_drew ?_))) rfl (o_x3.rd.keep0 (by repeat (first | with_reducible exact gb_refl _ | refine gb_alloc ?_ _ | refine gb_drewN ?_ _ | refine gb_drew ?_))) (o_x4.rd.keep0 (by repeat (first | with_reducible exact gb_refl _ | refine gb_alloc ?_ _ | refine gb_drewN ?_ _ | refine gb_drew ?_))) (by have := P0.out; omega) (show l3.length ≤ 1048576 by have := hN3.out; have := P3.out; omega) (show l4.length ≤ 1048576 by have := hN4.out; have := P4.out; omega)).mono ?_
         rintro e w11 ⟨a_g0, n_g0, c_g0, rfl, o_g0, g11⟩
         have u_g0 := fun p hp => (o_g0.lt p hp).2
         have R11 : w10.grownBy w11 none := gb_trans (by repeat (first | with_reducible exact gb_refl _ | refine gb_alloc ?_ _ | refine gb_drewN ?_ _ | refine gb_drew ?_)) g11
         have T11 : Below w.heap.size w w11 := below_next T10 R11
         have z11 := R11.size
         replace o_w0 := o_w0.keep0 R11
         replace o_x0 := o_x0.keep0 R11
         replace o_x3 := o_x3.keep0 R11
         replace o_x4 := o_x4.keep0 R11
         clear cc_aJ cc_aA cc_x0
         replace bb_aJ := bb_aJ.keep0 R11
         replace bb_aA := bb_aA.keep0 R11
         replace bb_x0 := bb_x0.keep0 R11
         have cc_aJ := fun o => bb_aJ.cell o
         have ll_aJ_11 := bb_aJ.lt
         have cc_aA := fun o => bb_aA.cell o
         have ll_aA_11 := bb_aA.lt
         have cc_x0 := fun o => bb_x0.cell o
         have ll_x0_11 := bb_x0.lt)
      | fail)
  clear KX
  replace o_g0 := o_g0.mono (B' := w10.heap.size) (by first | exact Nat.le_refl _ | (simp; done) | (simp; omega))
  go_wp2_with fail
  refine (laws_eqByteS_same _ _ _ _ _ _ _ _ (o_g0.rd.keep0 (by repeat (first | with_reducible exact gb_refl _ | refine gb_alloc ?_ _ | refine gb_drewN ?_ _ | refine gb_drew ?_))) (o_w0.rd.keep0 (by repeat (first | with_reducible exact gb_refl _ | refine gb_alloc ?_ _ | refine gb_drewN ?_ _ | refine gb_drew ?_))) (by have h9 := (show (cookM f0.secret f1.host f1.port x2 l3 l4 x5).length ≤ 1048576 from Nat.le_trans (cookM_le _ _ _ _ _ _ _) (by decide)); omega)).mono ?_
  rintro e w12 ⟨rfl, q12⟩
  have g12 := q12.gb
  have R12 : w11.grownBy w12 none := gb_trans (by repeat (first | with_reducible exact gb_refl _ | refine gb_alloc ?_ _ | refine gb_drewN ?_ _ | refine gb_drew ?_)) g12
  have T12 : Below w.heap.size w w12 := below_next T11 R12
  have z12 := R12.size
  replace o_w0 := o_w0.keep0 R12
  replace o_x0 := o_x0.keep0 R12
  replace o_x3 := o_x3.keep0 R12
  replace o_x4 := o_x4.keep0 R12
  replace o_g0 := o_g0.keep0 R12
  clear cc_aJ cc_aA cc_x0
  replace bb_aJ := bb_aJ.keep0 R12
  replace bb_aA := bb_aA.keep0 R12
  replace bb_x0 := bb_x0.keep0 R12
  have cc_aJ := fun o => bb_aJ.cell o
  have ll_aJ_12 := bb_aJ.lt
  have cc_aA := fun o => bb_aA.cell o
  have ll_aA_12 := bb_aA.lt
  have cc_x0 := fun o => bb_x0.cell o
  have ll_x0_12 := bb_x0.lt
  go_wp2_with fail
  have KX : Hid (∀ w', w12.grownBy w' none → (w'.cell? ⟨w.heap.size, 0, none⟩ = some (.slice a0_0 n0_0 c0_0) ∧ w'.cell? ⟨w7.heap.size, 0, none⟩ = some (.slice a_x0_0 n_x0_0 c_x0_0) ∧ w12.grownBy w' none)) :=
    fun w' hg => ⟨(bb_aJ.keep0 hg).cell 0, (bb_x0.keep0 hg).cell 0, hg⟩
  clear cc_aJ cc_aA cc_x0
  go_region_held3 (fun w' => w'.cell? ⟨w.heap.size, 0, none⟩ = some (.slice a0_0 n0_0 c0_0) ∧ w'.cell? ⟨w7.heap.size, 0, none⟩ = some (.slice a_x0_0 n_x0_0 c_x0_0) ∧ w12.grownBy w' none)
    ((refine KX.out _ ?_; first | exact gb_drew (gb_refl _) | exact gb_trans (gb_trans (gb_drew (gb_refl _)) g13a) g13b | exact gb_trans (gb_drew (gb_refl _)) g13a))
    (first
      | (go_at_call 40; refine (laws_toJar _ f0 _ ((hR0.below T12).keep0 (gb_drew (gb_refl _))) (by have := P0.out; simp only [JarM.tot] at this; omega)).mono ?_; rintro e wy13 ⟨vy, rfl, oy, g13a⟩; obtain ⟨a_yx0_0, n_yx0_0, c_yx0_0, rfl⟩ := oy.r.shape)
      | (go_at_call 26; refine (laws_eqJar _ _ f0 _ (o_x0.r.keep0 (gb_trans (gb_drew (gb_refl _)) g13a)) oy.r (by have h9 := (by have := P0.out; omega); simp only [JarM.tot] at h9; omega)).mono ?_; rintro e w13 ⟨rfl, g13b⟩))
  have g13 := gb_trans g13a g13b
  have cc_aJ : True := trivial
  have cc_aA : True := trivial
  have cc_x0 : True := trivial
  have R13 : w12.grownBy w13 none := gb_trans (gb_drew (gb_refl _)) (gb_trans g13a g13b)
  have T13 : Below w.heap.size w w13 := below_next T12 R13
  have z13 := R13.size
  replace o_w0 := o_w0.keep0 R13
  replace o_x0 := o_x0.keep0 R13
  replace o_x3 := o_x3.keep0 R13
  replace o_x4 := o_x4.keep0 R13
  replace o_g0 := o_g0.keep0 R13
  clear cc_aJ cc_aA cc_x0
  replace bb_aJ := bb_aJ.keep0 R13
  replace bb_aA := bb_aA.keep0 R13
  replace bb_x0 := bb_x0.keep0 R13
  have cc_aJ := fun o => bb_aJ.cell o
  have ll_aJ_13 := bb_aJ.lt
  have cc_aA := fun o => bb_aA.cell o
  have ll_aA_13 := bb_aA.lt
  have cc_x0 := fun o => bb_x0.cell o
  have ll_x0_13 := bb_x0.lt
  clear KX oy
  go_wp2_with fail
  refine (laws_toByteS _ _ _ l3 _ ((hR3.below T13).keep0 (by repeat (first | with_reducible exact gb_refl _ | refine gb_alloc ?_ _ | refine gb_drewN ?_ _ | refine gb_drew ?_))) (by have := P3.out; omega)).mono ?_
  rintro e w14 ⟨a_tz_x3, c_tz_x3, rfl, o_tz_x3, g14⟩
  have u_tz_x3 := fun p hp => (o_tz_x3.lt p hp).2
  have R14 : w13.grownBy w14 none := gb_trans (by repeat (first | with_reducible exact gb_refl _ | refine gb_alloc ?_ _ | refine gb_drewN ?_ _ | refine gb_drew ?_)) g14
  have T14 : Below w.heap.size w w14 := below_next T13 R14
  have z14 := R14.size
  replace o_w0 := o_w0.keep0 R14
  replace o_x0 := o_x0.keep0 R14
  replace o_x3 := o_x3.keep0 R14
  replace o_x4 := o_x4.keep0 R14
  replace o_g0 := o_g0.keep0 R14
  clear cc_aJ cc_aA cc_x0
  replace bb_aJ := bb_aJ.keep0 R14
  replace bb_aA := bb_aA.keep0 R14
  replace bb_x0 := bb_x0.keep0 R14
  have cc_aJ := fun o => bb_aJ.cell o
  have ll_aJ_14 := bb_aJ.lt
  have cc_aA := fun o => bb_aA.cell o
  have ll_aA_14 := bb_aA.lt
  have cc_x0 := fun o => bb_x0.cell o
  have ll_x0_14 := bb_x0.lt
  replace o_tz_x3 := o_tz_x3.mono (B' := w13.heap.size) (by first | exact Nat.le_refl _ | (simp; done) | (simp; omega))
  go_wp2_with fail
  refine (laws_eqByteS_same _ _ _ _ _ _ _ _ (o_x3.rd.keep0 (by repeat (first | with_reducible exact gb_refl _ | refine gb_alloc ?_ _ | refine gb_drewN ?_ _ | refine gb_drew ?_))) (o_tz_x3.rd.keep0 (by repeat (first | with_reducible exact gb_refl _ | refine gb_alloc ?_ _ | refine gb_drewN ?_ _ | refine gb_drew ?_))) (by have h9 := (show l3.length ≤ 1048576 by have := hN3.out; have := P3.out; omega); omega)).mono ?_
  rintro e w15 ⟨rfl, q15⟩
  have g15 := q15.gb
  have R15 : w14.grownBy w15 none := gb_trans (by repeat (first | with_reducible exact gb_refl _ | refine gb_alloc ?_ _ | refine gb_drewN ?_ _ | refine gb_drew ?_)) g15
  have T15 : Below w.heap.size w w15 := below_next T14 R15
  have z15 := R15.size
  replace o_w0 := o_w0.keep0 R15
  replace o_x0 := o_x0.keep0 R15
  replace o_x3 := o_x3.keep0 R15
  replace o_x4 := o_x4.keep0 R15
  replace o_g0 := o_g0.keep0 R15
  replace o_tz_x3 := o_tz_x3.keep0 R15
  clear cc_aJ cc_aA cc_x0
  replace bb_aJ := bb_aJ.keep0 R15
  replace bb_aA := bb_aA.keep0 R15
  replace bb_x0 := bb_x0.keep0 R15
  have cc_aJ := fun o => bb_aJ.cell o
  have ll_aJ_15 := bb_aJ.lt
  have cc_aA := fun o => bb_aA.cell o
  have ll_aA_15 := bb_aA.lt
  have cc_x0 := fun o => bb_x0.cell o
  have ll_x0_15 := bb_x0.lt
  clear o_tz_x3 u_tz_x3
  go_wp2_with fail
  refine (laws_toByteS _ _ _ l4 _ ((hR4.below T15).keep0 (by repeat (first | with_reducible exact gb_refl _ | refine gb_alloc ?_ _ | refine gb_drewN ?_ _ | refine gb_drew ?_))) (by have := P4.out; omega)).mono ?_
  rintro e w16 ⟨a_tz_x4, c_tz_x4, rfl, o_tz_x4, g16⟩
  have u_tz_x4 := fun p hp => (o_tz_x4.lt p hp).2
  have R16 : w15.grownBy w16 none := gb_trans (by repeat (first | with_reducible exact gb_refl _ | refine gb_alloc ?_ _ | refine gb_drewN ?_ _ | refine gb_drew ?_)) g16
  have T16 : Below w.heap.size w w16 := below_next T15 R16
  have z16 := R16.size
  replace o_w0 := o_w0.keep0 R16
  replace o_x0 := o_x0.keep0 R16
  replace o_x3 := o_x3.keep0 R16
  replace o_x4 := o_x4.keep0 R16
  replace o_g0 := o_g0.keep0 R16
  clear cc_aJ cc_aA cc_x0
  replace bb_aJ := bb_aJ.keep0 R16
  replace bb_aA := bb_aA.keep0 R16
  replace bb_x0 := bb_x0.keep0 R16
  have cc_aJ := fun o => bb_aJ.cell o
  have ll_aJ_16 := bb_aJ.lt
  have cc_aA := fun o => bb_aA.cell o
  have ll_aA_16 := bb_aA.lt
  have cc_x0 := fun o => bb_x0.cell o
  have ll_x0_16 := bb_x0.lt
  replace o_tz_x4 := o_tz_x4.mono (B' := w15.heap.size) (by first | exact Nat.le_refl _ | (simp; done) | (simp; omega))
  go_wp2_with fail
  refine (laws_eqByteS_same _ _ _ _ _ _ _ _ (o_x4.rd.keep0 (by repeat (first | with_reducible exact gb_refl _ | refine gb_alloc ?_ _ | refine gb_drewN ?_ _ | refine gb_drew ?_))) (o_tz_x4.rd.keep0 (by repeat (first | with_reducible exact gb_refl _ | refine gb_alloc ?_ _ | refine gb_drewN ?_ _ | refine gb_drew ?_))) (by have h9 := (show l4.length ≤ 1048576 by have := hN4.out; have := P4.out; omega); omega)).mono ?_
  rintro e w17 ⟨rfl, q17⟩
  have g17 := q17.gb
  have R17 : w16.grownBy w17 none := gb_trans (by repeat (first | with_reducible exact gb_refl _ | refine gb_alloc ?_ _ | refine gb_drewN ?_ _ | refine gb_drew ?_)) g17
  have T17 : Below w.heap.size w w17 := below_next T16 R17
  have z17 := R17.size
  replace o_w0 := o_w0.keep0 R17
  replace o_x0 := o_x0.keep0 R17
  replace o_x3 := o_x3.keep0 R17
  replace o_x4 := o_x4.keep0 R17
  replace o_g0 := o_g0.keep0 R17
  replace o_tz_x4 := o_tz_x4.keep0 R17
  clear cc_aJ cc_aA cc_x0
  replace bb_aJ := bb_aJ.keep0 R17
  replace bb_aA := bb_aA.keep0 R17
  replace bb_x0 := bb_x0.keep0 R17
  have cc_aJ := fun o => bb_aJ.cell o
  have ll_aJ_17 := bb_aJ.lt
  have cc_aA := fun o => bb_aA.cell o
  have ll_aA_17 := bb_aA.lt
  have cc_x0 := fun o => bb_x0.cell o
  have ll_x0_17 := bb_x0.lt
  clear o_tz_x4 u_tz_x4
  go_wp2_with fail
  refine (laws_markJar (w6.heap.size) (w7.heap.size) _ f0 (1) _ (o_x0.keep0 (by repeat (first | with_reducible exact gb_refl _ | refine gb_alloc ?_ _ | refine gb_drewN ?_ _ | refine gb_drew ?_))) (by have h9 := (by have := P0.out; omega); omega)).mono ?_
  rintro e w18 ⟨rfl, z_x0, g18⟩
  replace o_x0 := z_x0
  clear z_x0
  have R18 : gbI (w6.heap.size) (w7.heap.size) w17 w18 := (gbI.of0 (by repeat (first | with_reducible exact gb_refl _ | refine gb_alloc ?_ _ | refine gb_drewN ?_ _ | refine gb_drew ?_))).trans g18
  have T18 : Below w.heap.size w w18 := below_nextI T17 R18 (by omega)
  have z18 := R18.size
  replace o_w0 := o_w0.keepI R18 (fun p hp => by have := u_w0 p hp; have := (o_w0.lt p hp).1; omega)
  replace o_x3 := o_x3.keepI R18 (fun p hp => by have := u_x3 p hp; have := (o_x3.lt p hp).1; omega)
  replace o_x4 := o_x4.keepI R18 (fun p hp => by have := u_x4 p hp; have := (o_x4.lt p hp).1; omega)
  replace o_g0 := o_g0.keepI R18 (fun p hp => by have := u_g0 p hp; have := (o_g0.lt p hp).1; omega)
  clear cc_aJ cc_aA cc_x0
  replace bb_aJ := bb_aJ.keepI R18 (by have := bb_aJ.lt; omega)
  replace bb_aA := bb_aA.keepI R18 (by have := bb_aA.lt; omega)
  replace bb_x0 := bb_x0.keepI R18 (by have := bb_x0.lt; omega)
  have cc_aJ := fun o => bb_aJ.cell o
  have ll_aJ_18 := bb_aJ.lt
  have cc_aA := fun o => bb_aA.cell o
  have ll_aA_18 := bb_aA.lt
  have cc_x0 := fun o => bb_x0.cell o
  have ll_x0_18 := bb_x0.lt
  go_wp2_with fail
  refine (laws_markByteS (w7.heap.size + 1) _ _ _ (1 + (f0).tot) _ _ (o_x3.keep0 (by repeat (first | with_reducible exact gb_refl _ | refine gb_alloc ?_ _ | refine gb_drewN ?_ _ | refine gb_drew ?_))) (by have h9 := (show l3.length ≤ 1048576 by have := hN3.out; have := P3.out; omega); have h8 := o_x3.blen; have := (by have := P0.out; omega); omega)).mono ?_
  rintro e w19 ⟨rfl, z_x3, r19⟩
  have g19 := gbI.ofRow (B := w7.heap.size + 1) (S := w8.heap.size) r19 (fun g hg => by obtain ⟨p, hp, rfl⟩ := row_of hg; exact ⟨(o_x3.lt p hp).1, u_x3 p hp⟩)
  have e_x3_19 := Lib.hid o_x3.blen
  replace o_x3 := z_x3
  clear z_x3
  have R19 : gbI (w7.heap.size + 1) (w8.heap.size) w18 w19 := (gbI.of0 (by repeat (first | with_reducible exact gb_refl _ | refine gb_alloc ?_ _ | refine gb_drewN ?_ _ | refine gb_drew ?_))).trans g19
  have T19 : Below w.heap.size w w19 := below_nextI T18 R19 (by omega)
  have z19 := R19.size
  replace o_w0 := o_w0.keepI R19 (fun p hp => by have := u_w0 p hp; have := (o_w0.lt p hp).1; omega)
  replace o_x0 := o_x0.keepI R19 (by omega)
  replace o_x4 := o_x4.keepI R19 (fun p hp => by have := u_x4 p hp; have := (o_x4.lt p hp).1; omega)
  replace o_g0 := o_g0.keepI R19 (fun p hp => by have := u_g0 p hp; have := (o_g0.lt p hp).1; omega)
  clear cc_aJ cc_aA cc_x0
  replace bb_aJ := bb_aJ.keepI R19 (by have := bb_aJ.lt; omega)
  replace bb_aA := bb_aA.keepI R19 (by have := bb_aA.lt; omega)
  replace bb_x0 := bb_x0.keepI R19 (by have := bb_x0.lt; omega)
  have cc_aJ := fun o => bb_aJ.cell o
  have ll_aJ_19 := bb_aJ.lt
  have cc_aA := fun o => bb_aA.cell o
  have ll_aA_19 := bb_aA.lt
  have cc_x0 := fun o => bb_x0.cell o
  have ll_x0_19 := bb_x0.lt
  go_wp2_with fail
  refine (laws_markByteS (w8.heap.size) _ _ _ (1 + (f0).tot + n3) _ _ (o_x4.keep0 (by repeat (first | with_reducible exact gb_refl _ | refine gb_alloc ?_ _ | refine gb_drewN ?_ _ | refine gb_drew ?_))) (by have h9 := (show l4.length ≤ 1048576 by have := hN4.out; have := P4.out; omega); have h8 := o_x4.blen; have := (by have := P0.out; omega); have := (show l3.length ≤ 1048576 by have := hN3.out; have := P3.out; omega); have := e_x3_19.out; omega)).mono ?_
  rintro e w20 ⟨rfl, z_x4, r20⟩
  have g20 := gbI.ofRow (B := w8.heap.size) (S := w9.heap.size) r20 (fun g hg => by obtain ⟨p, hp, rfl⟩ := row_of hg; exact ⟨(o_x4.lt p hp).1, u_x4 p hp⟩)
  have e_x4_20 := Lib.hid o_x4.blen
  replace o_x4 := z_x4
  clear z_x4
  have R20 : gbI (w8.heap.size) (w9.heap.size) w19 w20 := (gbI.of0 (by repeat (first | with_reducible exact gb_refl _ | refine gb_alloc ?_ _ | refine gb_drewN ?_ _ | refine gb_drew ?_))).trans g20
  have T20 : Below w.heap.size w w20 := below_nextI T19 R20 (by omega)
  have z20 := R20.size
  replace o_w0 := o_w0.keepI R20 (fun p hp => by have := u_w0 p hp; have := (o_w0.lt p hp).1; omega)
  replace o_x0 := o_x0.keepI R20 (by omega)
  replace o_x3 := o_x3.keepI R20 (fun p hp => by have := u_x3 p hp; have := (o_x3.lt p hp).1; omega)
  replace o_g0 := o_g0.keepI R20 (fun p hp => by have := u_g0 p hp; have := (o_g0.lt p hp).1; omega)
  clear cc_aJ cc_aA cc_x0
  replace bb_aJ := bb_aJ.keepI R20 (by have := bb_aJ.lt; omega)
  replace bb_aA := bb_aA.keepI R20 (by have := bb_aA.lt; omega)
  replace bb_x0 := bb_x0.keepI R20 (by have := bb_x0.lt; omega)
  have cc_aJ := fun o => bb_aJ.cell o
  have ll_aJ_20 := bb_aJ.lt
  have cc_aA := fun o => bb_aA.cell o
  have ll_aA_20 := bb_aA.lt
  have cc_x0 := fun o => bb_x0.cell o
  have ll_x0_20 := bb_x0.lt
  go_wp2_with fail
  refine (laws_eqByteS_same _ _ _ _ _ _ _ _ (o_g0.rd.keep0 (by repeat (first | with_reducible exact gb_refl _ | refine gb_alloc ?_ _ | refine gb_drewN ?_ _ | refine gb_drew ?_))) (o_w0.rd.keep0 (by repeat (first | with_reducible exact gb_refl _ | refine gb_alloc ?_ _ | refine gb_drewN ?_ _ | refine gb_drew ?_))) (by have h9 := (show (cookM f0.secret f1.host f1.port x2 l3 l4 x5).length ≤ 1048576 from Nat.le_trans (cookM_le _ _ _ _ _ _ _) (by decide)); omega)).mono ?_
  rintro e w21 ⟨rfl, q21⟩
  have g21 := q21.gb
  have R21 : w20.grownBy w21 none := gb_trans (by repeat (first | with_reducible exact gb_refl _ | refine gb_alloc ?_ _ | refine gb_drewN ?_ _ | refine gb_drew ?_)) g21
  have T21 : Below w.heap.size w w21 := below_next T20 R21
  have z21 := R21.size
  replace o_w0 := o_w0.keep0 R21
  replace o_x0 := o_x0.keep0 R21
  replace o_x3 := o_x3.keep0 R21
  replace o_x4 := o_x4.keep0 R21
  replace o_g0 := o_g0.keep0 R21
  clear cc_aJ cc_aA cc_x0
  replace bb_aJ := bb_aJ.keep0 R21
  replace bb_aA := bb_aA.keep0 R21
  replace bb_x0 := bb_x0.keep0 R21
  have cc_aJ := fun o => bb_aJ.cell o
  have ll_aJ_21 := bb_aJ.lt
  have cc_aA := fun o => bb_aA.cell o
  have ll_aA_21 := bb_aA.lt
  have cc_x0 := fun o => bb_x0.cell o
  have ll_x0_21 := bb_x0.lt
  go_wp2_with fail
  refine (laws_markByteS (w10.heap.size) _ _ _ (1) _ _ (o_g0.keep0 (by repeat (first | with_reducible exact gb_refl _ | refine gb_alloc ?_ _ | refine gb_drewN ?_ _ | refine gb_drew ?_))) (by have h9 := (show (cookM f0.secret f1.host f1.port x2 l3 l4 x5).length ≤ 1048576 from Nat.le_trans (cookM_le _ _ _ _ _ _ _) (by decide)); have h8 := o_g0.blen; omega)).mono ?_
  rintro e w22 ⟨rfl, z_g0, r22⟩
  have g22 := gbI.ofRow (B := w10.heap.size) (S := w11.heap.size) r22 (fun g hg => by obtain ⟨p, hp, rfl⟩ := row_of hg; exact ⟨(o_g0.lt p hp).1, u_g0 p hp⟩)
  have e_g0_22 := Lib.hid o_g0.blen
  replace o_g0 := z_g0
  clear z_g0
  have R22 : gbI (w10.heap.size) (w11.heap.size) w21 w22 := (gbI.of0 (by repeat (first | with_reducible exact gb_refl _ | refine gb_alloc ?_ _ | refine gb_drewN ?_ _ | refine gb_drew ?_))).trans g22
  have T22 : Below w.heap.size w w22 := below_nextI T21 R22 (by omega)
  have z22 := R22.size
  replace o_w0 := o_w0.keepI R22 (fun p hp => by have := u_w0 p hp; have := (o_w0.lt p hp).1; omega)
  replace o_x0 := o_x0.keepI R22 (by omega)
  replace o_x3 := o_x3.keepI R22 (fun p hp => by have := u_x3 p hp; have := (o_x3.lt p hp).1; omega)
  replace o_x4 := o_x4.keepI R22 (fun p hp => by have := u_x4 p hp; have := (o_x4.lt p hp).1; omega)
  clear cc_aJ cc_aA cc_x0
  replace bb_aJ := bb_aJ.keepI R22 (by have := bb_aJ.lt; omega)
  replace bb_aA := bb_aA.keepI R22 (by have := bb_aA.lt; omega)
  replace bb_x0 := bb_x0.keepI R22 (by have := bb_x0.lt; omega)
  have cc_aJ := fun o => bb_aJ.cell o
  have ll_aJ_22 := bb_aJ.lt
  have cc_aA := fun o => bb_aA.cell o
  have ll_aA_22 := bb_aA.lt
  have cc_x0 := fun o => bb_x0.cell o
  have ll_x0_22 := bb_x0.lt
  go_wp2_with fail
  refine (laws_heldByteS _ n_g0 _ (1) _ (o_g0.rd.keep0 (by repeat (first | with_reducible exact gb_refl _ | refine gb_alloc ?_ _ | refine gb_drewN ?_ _ | refine gb_drew ?_))) (by have h9 := (show (cookM f0.secret f1.host f1.port x2 l3 l4 x5).length ≤ 1048576 from Nat.le_trans (cookM_le _ _ _ _ _ _ _) (by decide)); have := (show (cookM f0.secret f1.host f1.port x2 l3 l4 x5).length ≤ 1048576 from Nat.le_trans (cookM_le _ _ _ _ _ _ _) (by decide)); have := e_g0_22.out; omega)).mono ?_
  rintro e w23 ⟨rfl, q23⟩
  have g23 := q23.gb
  have R23 : w22.grownBy w23 none := gb_trans (by repeat (first | with_reducible exact gb_refl _ | refine gb_alloc ?_ _ | refine gb_drewN ?_ _ | refine gb_drew ?_)) g23
  have T23 : Below w.heap.size w w23 := below_next T22 R23
  have z23 := R23.size
  replace o_w0 := o_w0.keep0 R23
  replace o_x0 := o_x0.keep0 R23
  replace o_x3 := o_x3.keep0 R23
  replace o_x4 := o_x4.keep0 R23
  replace o_g0 := o_g0.keep0 R23
  clear cc_aJ cc_aA cc_x0
  replace bb_aJ := bb_aJ.keep0 R23
  replace bb_aA := bb_aA.keep0 R23
  replace bb_x0 := bb_x0.keep0 R23
  have cc_aJ := fun o => bb_aJ.cell o
  have ll_aJ_23 := bb_aJ.lt
  have cc_aA := fun o => bb_aA.cell o
  have ll_aA_23 := bb_aA.lt
  have cc_x0 := fun o => bb_x0.cell o
  have ll_x0_23 := bb_x0.lt
  go_wp2_with fail
  have KX : Hid (∀ w', w23.grownBy w' none → (w'.cell? ⟨w.heap.size, 0, none⟩ = some (.slice a0_0 n0_0 c0_0) ∧ w'.cell? ⟨w.heap.size + 1, 0, none⟩ = some (.int .i64 f1.host) ∧ w'.cell? ⟨w.heap.size + 1, 1, none⟩ = some (.int .i64 f1.port) ∧ w23.grownBy w' none)) :=
    fun w' hg => ⟨(bb_aJ.keep0 hg).cell 0, (bb_aA.keep0 hg).cell 0, (bb_aA.keep0 hg).cell 1, hg⟩
  clear cc_aJ cc_aA cc_x0
  have cc_aJ : True := trivial
  have cc_aA : True := trivial
  have cc_x0 : True := trivial
  go_region_held3 (fun w' => w'.cell? ⟨w.heap.size, 0, none⟩ = some (.slice a0_0 n0_0 c0_0) ∧ w'.cell? ⟨w.heap.size + 1, 0, none⟩ = some (.int .i64 f1.host) ∧ w'.cell? ⟨w.heap.size + 1, 1, none⟩ = some (.int .i64 f1.port) ∧ w23.grownBy w' none)
    ((refine KX.out _ ?_; (repeat (first | with_reducible exact gb_refl _ | with_reducible refine gb_alloc ?_ _ | with_reducible refine gb_drewN ?_ _ | with_reducible refine gb_drew ?_ | with_reducible refine gb_trans ?_ R24 | with_reducible refine gb_trans ?_ R25 | with_reducible refine gb_trans ?_ R26 | with_reducible refine gb_trans ?_ R27 | with_reducible refine gb_trans ?_ R28))))
    (first
      | (go_at_call 40
         refine (laws_toJar _ f0 _ ((hR0.below T23).keep0 (by repeat (first | with_reducible exact gb_refl _ | refine gb_alloc ?_ _ | refine gb_drewN ?_ _ | refine gb_drew ?_))) (by have := P0.out; simp only [JarM.tot] at this; omega)).mono ?_
         rintro e w24 ⟨v_th00, rfl, o_th00, g24⟩
         obtain ⟨a_th00_0, n_th00_0, c_th00_0, rfl⟩ := o_th00.r.shape
         have R24 : w23.grownBy w24 none := gb_trans (by repeat (first | with_reducible exact gb_refl _ | refine gb_alloc ?_ _ | refine gb_drewN ?_ _ | refine gb_drew ?_)) g24
         have T24 : Below w.heap.size w w24 := below_next T23 R24
         have z24 := R24.size
         replace o_w0 := o_w0.keep0 R24
         replace o_x0 := o_x0.keep0 R24
         replace o_x3 := o_x3.keep0 R24
         replace o_x4 := o_x4.keep0 R24
         replace o_g0 := o_g0.keep0 R24
         clear cc_aJ cc_aA cc_x0
         replace bb_aJ := bb_aJ.keep0 R24
         replace bb_aA := bb_aA.keep0 R24
         replace bb_x0 := bb_x0.keep0 R24
         have cc_aJ := fun o => bb_aJ.cell o
         have ll_aJ_24 := bb_aJ.lt
         have cc_aA := fun o => bb_aA.cell o
         have ll_aA_24 := bb_aA.lt
         have cc_x0 := fun o => bb_x0.cell o
         have ll_x0_24 := bb_x0.lt
         replace o_th00 := o_th00.low (B' := w23.heap.size) (by first | exact Nat.le_refl _ | (simp; done) | (simp; omega)))
      | (go_at_call 41
         refine (laws_toAddr _ f1 _ rfl).mono ?_
         rintro e w25 ⟨v_th01, rfl, o_th01, g25⟩
         obtain rfl := o_th01
         have R25 : w24.grownBy w25 none := gb_trans (by repeat (first | with_reducible exact gb_refl _ | refine gb_alloc ?_ _ | refine gb_drewN ?_ _ | refine gb_drew ?_)) g25
         have T25 : Below w.heap.size w w25 := below_next T24 R25
         have z25 := R25.size
         replace o_w0 := o_w0.keep0 R25
         replace o_x0 := o_x0.keep0 R25
         replace o_x3 := o_x3.keep0 R25
         replace o_x4 := o_x4.keep0 R25
         replace o_g0 := o_g0.keep0 R25
         replace o_th00 := o_th00.keep0 R25
         clear cc_aJ cc_aA cc_x0
         replace bb_aJ := bb_aJ.keep0 R25
         replace bb_aA := bb_aA.keep0 R25
         replace bb_x0 := bb_x0.keep0 R25
         have cc_aJ := fun o => bb_aJ.cell o
         have ll_aJ_25 := bb_aJ.lt
         have cc_aA := fun o => bb_aA.cell o
         have ll_aA_25 := bb_aA.lt
         have cc_x0 := fun o => bb_x0.cell o
         have ll_x0_25 := bb_x0.lt)
      | (go_at_call 13
         (with_reducible refine (laws_toByteS _ _ _ l3 _ ((hR3.below T25).keep0 (by repeat (first | with_reducible exact gb_refl _ | refine gb_alloc ?_ _ | refine gb_drewN ?_ _ | refine gb_drew ?_))) (by have := P3.out; omega)).mono ?_)
         rintro e w26 ⟨a_th02, c_th02, rfl, o_th02, g26⟩
         have u_th02 := fun p hp => (o_th02.lt p hp).2
         have R26 : w25.grownBy w26 none := gb_trans (by repeat (first | with_reducible exact gb_refl _ | refine gb_alloc ?_ _ | refine gb_drewN ?_ _ | refine gb_drew ?_)) g26
         have T26 : Below w.heap.size w w26 := below_next T25 R26
         have z26 := R26.size
         replace o_w0 := o_w0.keep0 R26
         replace o_x0 := o_x0.keep0 R26
         replace o_x3 := o_x3.keep0 R26
         replace o_x4 := o_x4.keep0 R26
         replace o_g0 := o_g0.keep0 R26
         replace o_th00 := o_th00.keep0 R26
         clear cc_aJ cc_aA cc_x0
         replace bb_aJ := bb_aJ.keep0 R26
         replace bb_aA := bb_aA.keep0 R26
         replace bb_x0 := bb_x0.keep0 R26
         have cc_aJ := fun o => bb_aJ.cell o
         have ll_aJ_26 := bb_aJ.lt
         have cc_aA := fun o => bb_aA.cell o
         have ll_aA_26 := bb_aA.lt
         have cc_x0 := fun o => bb_x0.cell o
         have ll_x0_26 := bb_x0.lt
         replace o_th02 := o_th02.mono (B' := w25.heap.size) (by first | exact Nat.le_refl _ | (simp; done) | (simp; omega)))
      | (go_at_call 13
         (with_reducible refine (laws_toByteS _ _ _ l4 _ ((hR4.below T26).keep0 (by repeat (first | with_reducible exact gb_refl _ | refine gb_alloc ?_ _ | refine gb_drewN ?_ _ | refine gb_drew ?_))) (by have := P4.out; omega)).mono ?_)
         rintro e w27 ⟨a_th03, c_th03, rfl, o_th03, g27⟩
         have u_th03 := fun p hp => (o_th03.lt p hp).2
         have R27 : w26.grownBy w27 none := gb_trans (by repeat (first | with_reducible exact gb_refl _ | refine gb_alloc ?_ _ | refine gb_drewN ?_ _ | refine gb_drew ?_)) g27
         have T27 : Below w.heap.size w w27 := below_next T26 R27
         have z27 := R27.size
         replace o_w0 := o_w0.keep0 R27
         replace o_x0 := o_x0.keep0 R27
         replace o_x3 := o_x3.keep0 R27
         replace o_x4 := o_x4.keep0 R27
         replace o_g0 := o_g0.keep0 R27
         replace o_th00 := o_th00.keep0 R27
         replace o_th02 := o_th02.keep0 R27
         clear cc_aJ cc_aA cc_x0
         replace bb_aJ := bb_aJ.keep0 R27
         replace bb_aA := bb_aA.keep0 R27
         replace bb_x0 := bb_x0.keep0 R27
         have cc_aJ := fun o => bb_aJ.cell o
         have ll_aJ_27 := bb_aJ.lt
         have cc_aA := fun o => bb_aA.cell o
         have ll_aA_27 := bb_aA.lt
         have cc_x0 := fun o => bb_x0.cell o
         have ll_x0_27 := bb_x0.lt
         replace o_th03 := o_th03.mono (B' := w26.heap.size) (by first | exact Nat.le_refl _ | (simp; done) | (simp; omega)))
      | (go_at_call 42
         refine (LI_Mint _ f0 _ f1 x2 _ _ _ l3 _ _ _ l4 x5 _ (o_th00.r.keep0 (by repeat (first | with_reducible exact gb_refl _ | refine gb_alloc ?_ _ | refine gb_drewN ?_ _ | refine gb_drew ?_))) rfl (o_th02.rd.keep0 (by repeat (first | with_reducible exact gb_refl _ | refine gb_alloc ?_ _ | refine gb_drewN ?_ _ | refine gb_drew ?_))) (o_th03.rd.keep0 (by repeat (first | with_reducible exact gb_refl _ | refine gb_alloc ?_ _ | refine gb_drewN ?_ _ | refine gb_drew ?_))) (by have := P0.out; omega) (show l3.length ≤ 1048576 by have := hN3.out; have := P3.out; omega) (show l4.length ≤ 1048576 by have := hN4.out; have := P4.out; omega)).mono ?_
         rintro e w28 ⟨a_h0, n_h0, c_h0, rfl, o_h0, g28⟩
         have u_h0 := fun p hp => (o_h0.lt p hp).2
         have R28 : w27.grownBy w28 none := gb_trans (by repeat (first | with_reducible exact gb_refl _ | refine gb_alloc ?_ _ | refine gb_drewN ?_ _ | refine gb_drew ?_)) g28
         have T28 : Below w.heap.size w w28 := below_next T27 R28
         have z28 := R28.size
         replace o_w0 := o_w0.keep0 R28
         replace o_x0 := o_x0.keep0 R28
         replace o_x3 := o_x3.keep0 R28
         replace o_x4 := o_x4.keep0 R28
         replace o_g0 := o_g0.keep0 R28
         replace o_th00 := o_th00.keep0 R28
         replace o_th02 := o_th02.keep0 R28
         replace o_th03 := o_th03.keep0 R28
         clear cc_aJ cc_aA cc_x0
         replace bb_aJ := bb_aJ.keep0 R28
         replace bb_aA := bb_aA.keep0 R28
         replace bb_x0 := bb_x0.keep0 R28
         have cc_aJ := fun o => bb_aJ.cell o
         have ll_aJ_28 := bb_aJ.lt
         have cc_aA := fun o => bb_aA.cell o
         have ll_aA_28 := bb_aA.lt
         have cc_x0 := fun o => bb_x0.cell o
         have ll_x0_28 := bb_x0.lt)
      | fail)
  clear KX
  replace o_h0 := o_h0.mono (B' := w27.heap.size) (by first | exact Nat.le_refl _ | (simp; done) | (simp; omega))
  clear o_th00
  clear o_th02 u_th02
  clear o_th03 u_th03
  go_wp2_with fail
  refine (laws_eqByteS_same _ _ _ _ _ _ _ _ (o_h0.rd.keep0 (by repeat (first | with_reducible exact gb_refl _ | refine gb_alloc ?_ _ | refine gb_drewN ?_ _ | refine gb_drew ?_))) (o_w0.rd.keep0 (by repeat (first | with_reducible exact gb_refl _ | refine gb_alloc ?_ _ | refine gb_drewN ?_ _ | refine gb_drew ?_))) (by have h9 := (show (cookM f0.secret f1.host f1.port x2 l3 l4 x5).length ≤ 1048576 from Nat.le_trans (cookM_le _ _ _ _ _ _ _) (by decide)); omega)).mono ?_
  rintro e w29 ⟨rfl, q29⟩
  have g29 := q29.gb
  have R29 : w28.grownBy w29 none := gb_trans (by repeat (first | with_reducible exact gb_refl _ | refine gb_alloc ?_ _ | refine gb_drewN ?_ _ | refine gb_drew ?_)) g29
  have T29 : Below w.heap.size w w29 := below_next T28 R29
  have z29 := R29.size
  replace o_w0 := o_w0.keep0 R29
  replace o_x0 := o_x0.keep0 R29
  replace o_x3 := o_x3.keep0 R29
  replace o_x4 := o_x4.keep0 R29
  replace o_g0 := o_g0.keep0 R29
  replace o_h0 := o_h0.keep0 R29
  clear cc_aJ cc_aA cc_x0
  replace bb_aJ := bb_aJ.keep0 R29
  replace bb_aA := bb_aA.keep0 R29
  replace bb_x0 := bb_x0.keep0 R29
  have cc_aJ := fun o => bb_aJ.cell o
  have ll_aJ_29 := bb_aJ.lt
  have cc_aA := fun o => bb_aA.cell o
  have ll_aA_29 := bb_aA.lt
  have cc_x0 := fun o => bb_x0.cell o
  have ll_x0_29 := bb_x0.lt
  go_wp2_with fail
  refine (laws_heldByteS _ n_g0 _ (1) _ (o_g0.rd.keep0 (by repeat (first | with_reducible exact gb_refl _ | refine gb_alloc ?_ _ | refine gb_drewN ?_ _ | refine gb_drew ?_))) (by have h9 := (show (cookM f0.secret f1.host f1.port x2 l3 l4 x5).length ≤ 1048576 from Nat.le_trans (cookM_le _ _ _ _ _ _ _) (by decide)); have := (show (cookM f0.secret f1.host f1.port x2 l3 l4 x5).length ≤ 1048576 from Nat.le_trans (cookM_le _ _ _ _ _ _ _) (by decide)); have := e_g0_22.out; omega)).mono ?_
  rintro e w30 ⟨rfl, q30⟩
  have g30 := q30.gb
  have R30 : w29.grownBy w30 none := gb_trans (by repeat (first | with_reducible exact gb_refl _ | refine gb_alloc ?_ _ | refine gb_drewN ?_ _ | refine gb_drew ?_)) g30
  have T30 : Below w.heap.size w w30 := below_next T29 R30
  have z30 := R30.size
  replace o_w0 := o_w0.keep0 R30
  replace o_x0 := o_x0.keep0 R30
  replace o_x3 := o_x3.keep0 R30
  replace o_x4 := o_x4.keep0 R30
  replace o_g0 := o_g0.keep0 R30
  replace o_h0 := o_h0.keep0 R30
  clear cc_aJ cc_aA cc_x0
  replace bb_aJ := bb_aJ.keep0 R30
  replace bb_aA := bb_aA.keep0 R30
  replace bb_x0 := bb_x0.keep0 R30
  have cc_aJ := fun o => bb_aJ.cell o
  have ll_aJ_30 := bb_aJ.lt
  have cc_aA := fun o => bb_aA.cell o
  have ll_aA_30 := bb_aA.lt
  have cc_x0 := fun o => bb_x0.cell o
  have ll_x0_30 := bb_x0.lt
  go_wp2
  go_ret
  exact ⟨rfl, T30⟩
set_option maxRecDepth 100000 in
theorem lifted (os : Os) (started : os.Started) (H : Type) (enc : TypeId × Value → H) :
    ReturnsInHanded {} Try.checked os 10 .any (Rows.fnExactMintSpec.pre6 enc Try.prog Try.f10 Rows.fnExactMintRow.domain false) (Rows.fnExactMintSpec.post enc Try.prog Try.f10 false true false false) := by
  refine returnsInHanded_of_change (C := Try.checked) own started (by kernel_rfl) Try.func10
    (ChangeSpec.witness6 (enc := enc) (C := Try.checked) false ⟨#[], #[.agg #[.slice none 0 0], .agg #[.int .i64 0, .int .i64 0], .int .i64 0, .slice none 0 0, .slice none 0 0, .int .i64 0], []⟩ 8 (by kernel_rfl) (by kernel_rfl) (by kernel_rfl) (by kernel_rfl)) ?_
  intro W base args ds gs before hval0 hW _ _
  have hval : ∀ (j : Nat) t v, Try.f10.params[j]? = some t → args[j]? = some v → Value.okWide Try.prog W .any base t v := hval0
  have hW2 := hW
  obtain ⟨p, q, hA0, hV, hps, _, _⟩ := hW
  have hA : DataW.TrodAll enc Try.prog W 0 (fun _ => true) true Try.f10.params.toList args.toList ds p := hA0
  rw [Try.params10] at hA hval
  obtain ⟨rfl, rfl⟩ := trodVars_none hV
  obtain ⟨v0, vs0, d0, ds0, p0, q0, hargs, rfl, rfl, h0, r0⟩ := trodAll_cons hA
  obtain ⟨v1, vs1, d1, ds1, p1, q1, rfl, rfl, rfl, h1, r1⟩ := trodAll_cons r0
  obtain ⟨v2, vs2, d2, ds2, p2, q2, rfl, rfl, rfl, h2, r2⟩ := trodAll_cons r1
  obtain ⟨v3, vs3, d3, ds3, p3, q3, rfl, rfl, rfl, h3, r3⟩ := trodAll_cons r2
  obtain ⟨v4, vs4, d4, ds4, p4, q4, rfl, rfl, rfl, h4, r4⟩ := trodAll_cons r3
  obtain ⟨v5, vs5, d5, ds5, p5, q5, rfl, rfl, rfl, h5, r5⟩ := trodAll_cons r4
  obtain ⟨rfl, rfl, rfl⟩ := trodAll_nil r5
  obtain rfl : args = #[v0, v1, v2, v3, v4, v5] := by cases args; simp_all
  have i0 := open_Jar (hval 0 48 v0 rfl rfl) h0
  have i1 := open_Addr (hval 1 50 v1 rfl rfl) h1
  have i2 := open_I (hval 2 3 v2 rfl rfl) h2
  have i3 := open_B (hval 3 22 v3 rfl rfl) h3
  have i4 := open_B (hval 4 22 v4 rfl rfl) h4
  have i5 := open_I (hval 5 3 v5 rfl rfl) h5
  clear hA0 hval0
  refine (walk W v0 v1 v2 v3 v4 v5 i0 i1 i2 i3 i4 i5).mono fun e W2 ⟨he, hb⟩ => ?_
  subst he
  exact ⟨_, rfl, law_post (tb := 4) laidOut (by kernel_rfl) (by kernel_rfl) Try.underlying4 rfl ⟨rfl, rfl, rfl⟩ hW2 hb⟩
theorem over : Rows.fnExactMintRow.holds Try.pinned (OpenSpec.ofChange Rows.fnExactMintSpec) :=
  OpenClaim.holds_of_wide 10 Try.f10 rfl rfl rfl rfl rfl rfl rfl ⟨rfl, rfl, rfl, rfl, rfl⟩ rfl rfl rfl rfl rfl (by kernel_rfl) Try.func10 (by kernel_rfl)
    (of_decide_eq_true (by kernel_rfl)) (by unfold Func.isWrapper; first | (rw [if_pos (by decide +kernel)]; kernel_rfl) | (rw [if_neg (by decide +kernel)]; exact ⟨rfl, rfl⟩))
    (fun os started H enc _ => lifted os started H enc)
theorem proved : Rows.FnExactMintSaid :=
  over
#print axioms proved
end Go.Proofs.Ytoojcbbmkdlcmaa.lMint
