/-
  FnExactMintBody returns true for every address, id, nonces and tick. Conditions: none.
-/
import Derived.Test.YtpkjlhooiaedmaaLaw
import Derived.Test.YtpkjlhooiaedmaaMint
import Derived.Deep.RegionHeld3
namespace Go.Proofs.Ytpkjlhooiaedmaa.lMintBody
open Go.ChangeShapes Go.WideShapes Go.ChangeAt Go.RowKit
theorem LS_MintBody (v0 : Value) (f0 : AddrM) (x1 : Int) (a2 : Option Addr) (n2 c2 : Nat) (l2 : List UInt8) (a3 : Option Addr) (n3 c3 : Nat) (l3 : List UInt8) (x4 : Int) (w : World) (h0 : AddrR w v0 f0) (r2 : Rd w a2 n2 c2 (bys l2)) (r3 : Rd w a3 n3 c3 (bys l3)) (_s2 : l2.length ≤ 1048576) (_s3 : l3.length ≤ 1048576) : Calls Try.prog 32 #[v0, .int .i64 x1, .slice a2 n2 c2, .slice a3 n3 c3, .int .i64 x4] w fun e w' => ∃ a n c, e = .returned (.slice a n c) ∧ Ow w.heap.size w' 5 a n c (bys (mintM f0.host f0.port x1 l2 l3 x4)) ∧ w.grownBy w' none := by
  obtain rfl := h0
  exact spec_MintBody f0.host f0.port x1 a2 n2 c2 l2 a3 n3 c3 l3 x4 w r2 r3
theorem LI_MintBody (v0 : Value) (f0 : AddrM) (x1 : Int) (a2 : Option Addr) (n2 c2 : Nat) (l2 : List UInt8) (a3 : Option Addr) (n3 c3 : Nat) (l3 : List UInt8) (x4 : Int) (w : World) (h0 : AddrR w v0 f0) (r2 : Rd w a2 n2 c2 (bys l2)) (r3 : Rd w a3 n3 c3 (bys l3)) (_s2 : l2.length ≤ 1048576) (_s3 : l3.length ≤ 1048576) : Calls Try.prog 34 #[v0, .int .i64 x1, .slice a2 n2 c2, .slice a3 n3 c3, .int .i64 x4] w fun e w' => ∃ a n c, e = .returned (.slice a n c) ∧ Ow w.heap.size w' 5 a n c (bys (mintM f0.host f0.port x1 l2 l3 x4)) ∧ w.grownBy w' none := by
  obtain rfl := h0
  exact impl_MintBody f0.host f0.port x1 a2 n2 c2 l2 a3 n3 c3 l3 x4 w r2 r3
set_option maxRecDepth 100000 in
set_option maxHeartbeats 4000000 in
theorem walk (w : World) (v0 v1 v2 v3 v4 : Value) (h0 : InAddr w v0) (h1 : InInt v1) (h2 : InBytes w v2) (h3 : InBytes w v3) (h4 : InInt v4) : Calls Try.prog 7 #[v0, v1, v2, v3, v4] w fun e w' => e = .returned (.bool true) ∧ Below w.heap.size w w' := by
  obtain ⟨f0, hR0, hL0⟩ := h0
  obtain rfl := hR0
  obtain ⟨x1, rfl, hx1⟩ := h1
  obtain ⟨a2, n2, c2, l2, rfl, hR2, hC2⟩ := h2
  have hN2 := Lib.hid hR2.blen
  obtain ⟨a3, n3, c3, l3, rfl, hR3, hC3⟩ := h3
  have hN3 := Lib.hid hR3.blen
  obtain ⟨x4, rfl, hx4⟩ := h4
  have T0 : Below w.heap.size w w := Below.refl _ _
  go_enter Try.func7, Try.ntmps7
  rcases Nat.lt_or_ge 1048576 n2 with p2 | p2
  · go_wp2
    go_ret
    exact ⟨rfl, below_next T0 (by repeat (first | with_reducible exact gb_refl _ | refine gb_alloc ?_ _ | refine gb_drewN ?_ _ | refine gb_drew ?_))⟩
  have P2 := Lib.hid p2
  have p2z : ((n2 : Int) ≤ 1048576) := by have := P2.out; omega
  clear p2
  rcases Nat.lt_or_ge 1048576 n3 with p3 | p3
  · go_wp2
    go_ret
    exact ⟨rfl, below_next T0 (by repeat (first | with_reducible exact gb_refl _ | refine gb_alloc ?_ _ | refine gb_drewN ?_ _ | refine gb_drew ?_))⟩
  have P3 := Lib.hid p3
  have p3z : ((n3 : Int) ≤ 1048576) := by have := P3.out; omega
  clear p3
  go_wp2_with fail
  refine (laws_toAddr _ f0 _ rfl).mono ?_
  rintro e w1 ⟨v_tw00, rfl, o_tw00, g1⟩
  obtain rfl := o_tw00
  have R1 : w.grownBy w1 none := gb_trans (by repeat (first | with_reducible exact gb_refl _ | refine gb_alloc ?_ _ | refine gb_drewN ?_ _ | refine gb_drew ?_)) g1
  have T1 : Below w.heap.size w w1 := below_next T0 R1
  have z1 := R1.size
  have bb_aA : Bx w1 (w.heap.size) 46 #[.int .i64 f0.host, .int .i64 f0.port] := (bx1 w _ _).keep0 g1
  have cc_aA := fun o => bb_aA.cell o
  have ll_aA_1 := bb_aA.lt
  go_wp2_with fail
  refine (laws_toByteS _ _ _ l2 _ ((hR2.below T1).keep0 (by repeat (first | with_reducible exact gb_refl _ | refine gb_alloc ?_ _ | refine gb_drewN ?_ _ | refine gb_drew ?_))) (by have := P2.out; omega)).mono ?_
  rintro e w2 ⟨a_tw01, c_tw01, rfl, o_tw01, g2⟩
  have u_tw01 := fun p hp => (o_tw01.lt p hp).2
  have R2 : w1.grownBy w2 none := gb_trans (by repeat (first | with_reducible exact gb_refl _ | refine gb_alloc ?_ _ | refine gb_drewN ?_ _ | refine gb_drew ?_)) g2
  have T2 : Below w.heap.size w w2 := below_next T1 R2
  have z2 := R2.size
  clear cc_aA
  replace bb_aA := bb_aA.keep0 R2
  have cc_aA := fun o => bb_aA.cell o
  have ll_aA_2 := bb_aA.lt
  replace o_tw01 := o_tw01.mono (B' := w1.heap.size) (by first | exact Nat.le_refl _ | (simp; done) | (simp; omega))
  go_wp2_with fail
  refine (laws_toByteS _ _ _ l3 _ ((hR3.below T2).keep0 (by repeat (first | with_reducible exact gb_refl _ | refine gb_alloc ?_ _ | refine gb_drewN ?_ _ | refine gb_drew ?_))) (by have := P3.out; omega)).mono ?_
  rintro e w3 ⟨a_tw02, c_tw02, rfl, o_tw02, g3⟩
  have u_tw02 := fun p hp => (o_tw02.lt p hp).2
  have R3 : w2.grownBy w3 none := gb_trans (by repeat (first | with_reducible exact gb_refl _ | refine gb_alloc ?_ _ | refine gb_drewN ?_ _ | refine gb_drew ?_)) g3
  have T3 : Below w.heap.size w w3 := below_next T2 R3
  have z3 := R3.size
  replace o_tw01 := o_tw01.keep0 R3
  clear cc_aA
  replace bb_aA := bb_aA.keep0 R3
  have cc_aA := fun o => bb_aA.cell o
  have ll_aA_3 := bb_aA.lt
  replace o_tw02 := o_tw02.mono (B' := w2.heap.size) (by first | exact Nat.le_refl _ | (simp; done) | (simp; omega))
  go_wp2_with fail
  refine (LS_MintBody _ f0 x1 _ _ _ l2 _ _ _ l3 x4 _ rfl (o_tw01.rd.keep0 (by repeat (first | with_reducible exact gb_refl _ | refine gb_alloc ?_ _ | refine gb_drewN ?_ _ | refine gb_drew ?_))) (o_tw02.rd.keep0 (by repeat (first | with_reducible exact gb_refl _ | refine gb_alloc ?_ _ | refine gb_drewN ?_ _ | refine gb_drew ?_))) (show l2.length ≤ 1048576 by have := hN2.out; have := P2.out; omega) (show l3.length ≤ 1048576 by have := hN3.out; have := P3.out; omega)).mono ?_
  rintro e w4 ⟨a_w0, n_w0, c_w0, rfl, o_w0, g4⟩
  have u_w0 := fun p hp => (o_w0.lt p hp).2
  have R4 : w3.grownBy w4 none := gb_trans (by repeat (first | with_reducible exact gb_refl _ | refine gb_alloc ?_ _ | refine gb_drewN ?_ _ | refine gb_drew ?_)) g4
  have T4 : Below w.heap.size w w4 := below_next T3 R4
  have z4 := R4.size
  replace o_tw01 := o_tw01.keep0 R4
  replace o_tw02 := o_tw02.keep0 R4
  clear cc_aA
  replace bb_aA := bb_aA.keep0 R4
  have cc_aA := fun o => bb_aA.cell o
  have ll_aA_4 := bb_aA.lt
  replace o_w0 := o_w0.mono (B' := w3.heap.size) (by first | exact Nat.le_refl _ | (simp; done) | (simp; omega))
  clear o_tw01 u_tw01
  clear o_tw02 u_tw02
  go_wp2_with fail
  refine (laws_toByteS _ _ _ l2 _ ((hR2.below T4).keep0 (by repeat (first | with_reducible exact gb_refl _ | refine gb_alloc ?_ _ | refine gb_drewN ?_ _ | refine gb_drew ?_))) (by have := P2.out; omega)).mono ?_
  rintro e w5 ⟨a_x2, c_x2, rfl, o_x2, g5⟩
  have u_x2 := fun p hp => (o_x2.lt p hp).2
  have R5 : w4.grownBy w5 none := gb_trans (by repeat (first | with_reducible exact gb_refl _ | refine gb_alloc ?_ _ | refine gb_drewN ?_ _ | refine gb_drew ?_)) g5
  have T5 : Below w.heap.size w w5 := below_next T4 R5
  have z5 := R5.size
  replace o_w0 := o_w0.keep0 R5
  clear cc_aA
  replace bb_aA := bb_aA.keep0 R5
  have cc_aA := fun o => bb_aA.cell o
  have ll_aA_5 := bb_aA.lt
  replace o_x2 := o_x2.mono (B' := w4.heap.size) (by first | exact Nat.le_refl _ | (simp; done) | (simp; omega))
  go_wp2_with fail
  refine (laws_toByteS _ _ _ l3 _ ((hR3.below T5).keep0 (by repeat (first | with_reducible exact gb_refl _ | refine gb_alloc ?_ _ | refine gb_drewN ?_ _ | refine gb_drew ?_))) (by have := P3.out; omega)).mono ?_
  rintro e w6 ⟨a_x3, c_x3, rfl, o_x3, g6⟩
  have u_x3 := fun p hp => (o_x3.lt p hp).2
  have R6 : w5.grownBy w6 none := gb_trans (by repeat (first | with_reducible exact gb_refl _ | refine gb_alloc ?_ _ | refine gb_drewN ?_ _ | refine gb_drew ?_)) g6
  have T6 : Below w.heap.size w w6 := below_next T5 R6
  have z6 := R6.size
  replace o_w0 := o_w0.keep0 R6
  replace o_x2 := o_x2.keep0 R6
  clear cc_aA
  replace bb_aA := bb_aA.keep0 R6
  have cc_aA := fun o => bb_aA.cell o
  have ll_aA_6 := bb_aA.lt
  replace o_x3 := o_x3.mono (B' := w5.heap.size) (by first | exact Nat.le_refl _ | (simp; done) | (simp; omega))
  go_wp2_with fail
  refine (laws_toAddr _ f0 _ rfl).mono ?_
  rintro e w7 ⟨v_tg00, rfl, o_tg00, g7⟩
  obtain rfl := o_tg00
  have R7 : w6.grownBy w7 none := gb_trans (by repeat (first | with_reducible exact gb_refl _ | refine gb_alloc ?_ _ | refine gb_drewN ?_ _ | refine gb_drew ?_)) g7
  have T7 : Below w.heap.size w w7 := below_next T6 R7
  have z7 := R7.size
  replace o_w0 := o_w0.keep0 R7
  replace o_x2 := o_x2.keep0 R7
  replace o_x3 := o_x3.keep0 R7
  clear cc_aA
  replace bb_aA := bb_aA.keep0 R7
  have cc_aA := fun o => bb_aA.cell o
  have ll_aA_7 := bb_aA.lt
  go_wp2_with fail
  refine (LI_MintBody _ f0 x1 _ _ _ l2 _ _ _ l3 x4 _ rfl (o_x2.rd.keep0 (by repeat (first | with_reducible exact gb_refl _ | refine gb_alloc ?_ _ | refine gb_drewN ?_ _ | refine gb_drew ?_))) (o_x3.rd.keep0 (by repeat (first | with_reducible exact gb_refl _ | refine gb_alloc ?_ _ | refine gb_drewN ?_ _ | refine gb_drew ?_))) (show l2.length ≤ 1048576 by have := hN2.out; have := P2.out; omega) (show l3.length ≤ 1048576 by have := hN3.out; have := P3.out; omega)).mono ?_
  rintro e w8 ⟨a_g0, n_g0, c_g0, rfl, o_g0, g8⟩
  have u_g0 := fun p hp => (o_g0.lt p hp).2
  have R8 : w7.grownBy w8 none := gb_trans (by repeat (first | with_reducible exact gb_refl _ | refine gb_alloc ?_ _ | refine gb_drewN ?_ _ | refine gb_drew ?_)) g8
  have T8 : Below w.heap.size w w8 := below_next T7 R8
  have z8 := R8.size
  replace o_w0 := o_w0.keep0 R8
  replace o_x2 := o_x2.keep0 R8
  replace o_x3 := o_x3.keep0 R8
  clear cc_aA
  replace bb_aA := bb_aA.keep0 R8
  have cc_aA := fun o => bb_aA.cell o
  have ll_aA_8 := bb_aA.lt
  replace o_g0 := o_g0.mono (B' := w7.heap.size) (by first | exact Nat.le_refl _ | (simp; done) | (simp; omega))
  go_wp2_with fail
  refine (laws_eqByteS_same _ _ _ _ _ _ _ _ (o_g0.rd.keep0 (by repeat (first | with_reducible exact gb_refl _ | refine gb_alloc ?_ _ | refine gb_drewN ?_ _ | refine gb_drew ?_))) (o_w0.rd.keep0 (by repeat (first | with_reducible exact gb_refl _ | refine gb_alloc ?_ _ | refine gb_drewN ?_ _ | refine gb_drew ?_))) (by have h9 := (show (mintM f0.host f0.port x1 l2 l3 x4).length ≤ 1048576 from Nat.le_trans (mintM_len _ _ _ _ _ _) (by decide)); omega)).mono ?_
  rintro e w9 ⟨rfl, q9⟩
  have g9 := q9.gb
  have R9 : w8.grownBy w9 none := gb_trans (by repeat (first | with_reducible exact gb_refl _ | refine gb_alloc ?_ _ | refine gb_drewN ?_ _ | refine gb_drew ?_)) g9
  have T9 : Below w.heap.size w w9 := below_next T8 R9
  have z9 := R9.size
  replace o_w0 := o_w0.keep0 R9
  replace o_x2 := o_x2.keep0 R9
  replace o_x3 := o_x3.keep0 R9
  replace o_g0 := o_g0.keep0 R9
  clear cc_aA
  replace bb_aA := bb_aA.keep0 R9
  have cc_aA := fun o => bb_aA.cell o
  have ll_aA_9 := bb_aA.lt
  go_wp2_with fail
  refine (laws_toByteS _ _ _ l2 _ ((hR2.below T9).keep0 (by repeat (first | with_reducible exact gb_refl _ | refine gb_alloc ?_ _ | refine gb_drewN ?_ _ | refine gb_drew ?_))) (by have := P2.out; omega)).mono ?_
  rintro e w10 ⟨a_tz_x2, c_tz_x2, rfl, o_tz_x2, g10⟩
  have u_tz_x2 := fun p hp => (o_tz_x2.lt p hp).2
  have R10 : w9.grownBy w10 none := gb_trans (by repeat (first | with_reducible exact gb_refl _ | refine gb_alloc ?_ _ | refine gb_drewN ?_ _ | refine gb_drew ?_)) g10
  have T10 : Below w.heap.size w w10 := below_next T9 R10
  have z10 := R10.size
  replace o_w0 := o_w0.keep0 R10
  replace o_x2 := o_x2.keep0 R10
  replace o_x3 := o_x3.keep0 R10
  replace o_g0 := o_g0.keep0 R10
  clear cc_aA
  replace bb_aA := bb_aA.keep0 R10
  have cc_aA := fun o => bb_aA.cell o
  have ll_aA_10 := bb_aA.lt
  replace o_tz_x2 := o_tz_x2.mono (B' := w9.heap.size) (by first | exact Nat.le_refl _ | (simp; done) | (simp; omega))
  go_wp2_with fail
  refine (laws_eqByteS_same _ _ _ _ _ _ _ _ (o_x2.rd.keep0 (by repeat (first | with_reducible exact gb_refl _ | refine gb_alloc ?_ _ | refine gb_drewN ?_ _ | refine gb_drew ?_))) (o_tz_x2.rd.keep0 (by repeat (first | with_reducible exact gb_refl _ | refine gb_alloc ?_ _ | refine gb_drewN ?_ _ | refine gb_drew ?_))) (by have h9 := (show l2.length ≤ 1048576 by have := hN2.out; have := P2.out; omega); omega)).mono ?_
  rintro e w11 ⟨rfl, q11⟩
  have g11 := q11.gb
  have R11 : w10.grownBy w11 none := gb_trans (by repeat (first | with_reducible exact gb_refl _ | refine gb_alloc ?_ _ | refine gb_drewN ?_ _ | refine gb_drew ?_)) g11
  have T11 : Below w.heap.size w w11 := below_next T10 R11
  have z11 := R11.size
  replace o_w0 := o_w0.keep0 R11
  replace o_x2 := o_x2.keep0 R11
  replace o_x3 := o_x3.keep0 R11
  replace o_g0 := o_g0.keep0 R11
  replace o_tz_x2 := o_tz_x2.keep0 R11
  clear cc_aA
  replace bb_aA := bb_aA.keep0 R11
  have cc_aA := fun o => bb_aA.cell o
  have ll_aA_11 := bb_aA.lt
  clear o_tz_x2 u_tz_x2
  go_wp2_with fail
  refine (laws_toByteS _ _ _ l3 _ ((hR3.below T11).keep0 (by repeat (first | with_reducible exact gb_refl _ | refine gb_alloc ?_ _ | refine gb_drewN ?_ _ | refine gb_drew ?_))) (by have := P3.out; omega)).mono ?_
  rintro e w12 ⟨a_tz_x3, c_tz_x3, rfl, o_tz_x3, g12⟩
  have u_tz_x3 := fun p hp => (o_tz_x3.lt p hp).2
  have R12 : w11.grownBy w12 none := gb_trans (by repeat (first | with_reducible exact gb_refl _ | refine gb_alloc ?_ _ | refine gb_drewN ?_ _ | refine gb_drew ?_)) g12
  have T12 : Below w.heap.size w w12 := below_next T11 R12
  have z12 := R12.size
  replace o_w0 := o_w0.keep0 R12
  replace o_x2 := o_x2.keep0 R12
  replace o_x3 := o_x3.keep0 R12
  replace o_g0 := o_g0.keep0 R12
  clear cc_aA
  replace bb_aA := bb_aA.keep0 R12
  have cc_aA := fun o => bb_aA.cell o
  have ll_aA_12 := bb_aA.lt
  replace o_tz_x3 := o_tz_x3.mono (B' := w11.heap.size) (by first | exact Nat.le_refl _ | (simp; done) | (simp; omega))
  go_wp2_with fail
  refine (laws_eqByteS_same _ _ _ _ _ _ _ _ (o_x3.rd.keep0 (by repeat (first | with_reducible exact gb_refl _ | refine gb_alloc ?_ _ | refine gb_drewN ?_ _ | refine gb_drew ?_))) (o_tz_x3.rd.keep0 (by repeat (first | with_reducible exact gb_refl _ | refine gb_alloc ?_ _ | refine gb_drewN ?_ _ | refine gb_drew ?_))) (by have h9 := (show l3.length ≤ 1048576 by have := hN3.out; have := P3.out; omega); omega)).mono ?_
  rintro e w13 ⟨rfl, q13⟩
  have g13 := q13.gb
  have R13 : w12.grownBy w13 none := gb_trans (by repeat (first | with_reducible exact gb_refl _ | refine gb_alloc ?_ _ | refine gb_drewN ?_ _ | refine gb_drew ?_)) g13
  have T13 : Below w.heap.size w w13 := below_next T12 R13
  have z13 := R13.size
  replace o_w0 := o_w0.keep0 R13
  replace o_x2 := o_x2.keep0 R13
  replace o_x3 := o_x3.keep0 R13
  replace o_g0 := o_g0.keep0 R13
  replace o_tz_x3 := o_tz_x3.keep0 R13
  clear cc_aA
  replace bb_aA := bb_aA.keep0 R13
  have cc_aA := fun o => bb_aA.cell o
  have ll_aA_13 := bb_aA.lt
  clear o_tz_x3 u_tz_x3
  go_wp2_with fail
  refine (laws_markByteS (w4.heap.size) _ _ _ (1) _ _ (o_x2.keep0 (by repeat (first | with_reducible exact gb_refl _ | refine gb_alloc ?_ _ | refine gb_drewN ?_ _ | refine gb_drew ?_))) (by have h9 := (show l2.length ≤ 1048576 by have := hN2.out; have := P2.out; omega); have h8 := o_x2.blen; omega)).mono ?_
  rintro e w14 ⟨rfl, z_x2, r14⟩
  have g14 := gbI.ofRow (B := w4.heap.size) (S := w5.heap.size) r14 (fun g hg => by obtain ⟨p, hp, rfl⟩ := row_of hg; exact ⟨(o_x2.lt p hp).1, u_x2 p hp⟩)
  have e_x2_14 := Lib.hid o_x2.blen
  replace o_x2 := z_x2
  clear z_x2
  have R14 : gbI (w4.heap.size) (w5.heap.size) w13 w14 := (gbI.of0 (by repeat (first | with_reducible exact gb_refl _ | refine gb_alloc ?_ _ | refine gb_drewN ?_ _ | refine gb_drew ?_))).trans g14
  have T14 : Below w.heap.size w w14 := below_nextI T13 R14 (by omega)
  have z14 := R14.size
  replace o_w0 := o_w0.keepI R14 (fun p hp => by have := u_w0 p hp; have := (o_w0.lt p hp).1; omega)
  replace o_x3 := o_x3.keepI R14 (fun p hp => by have := u_x3 p hp; have := (o_x3.lt p hp).1; omega)
  replace o_g0 := o_g0.keepI R14 (fun p hp => by have := u_g0 p hp; have := (o_g0.lt p hp).1; omega)
  clear cc_aA
  replace bb_aA := bb_aA.keepI R14 (by have := bb_aA.lt; omega)
  have cc_aA := fun o => bb_aA.cell o
  have ll_aA_14 := bb_aA.lt
  go_wp2_with fail
  refine (laws_markByteS (w5.heap.size) _ _ _ (1 + n2) _ _ (o_x3.keep0 (by repeat (first | with_reducible exact gb_refl _ | refine gb_alloc ?_ _ | refine gb_drewN ?_ _ | refine gb_drew ?_))) (by have h9 := (show l3.length ≤ 1048576 by have := hN3.out; have := P3.out; omega); have h8 := o_x3.blen; have := (show l2.length ≤ 1048576 by have := hN2.out; have := P2.out; omega); have := e_x2_14.out; omega)).mono ?_
  rintro e w15 ⟨rfl, z_x3, r15⟩
  have g15 := gbI.ofRow (B := w5.heap.size) (S := w6.heap.size) r15 (fun g hg => by obtain ⟨p, hp, rfl⟩ := row_of hg; exact ⟨(o_x3.lt p hp).1, u_x3 p hp⟩)
  have e_x3_15 := Lib.hid o_x3.blen
  replace o_x3 := z_x3
  clear z_x3
  have R15 : gbI (w5.heap.size) (w6.heap.size) w14 w15 := (gbI.of0 (by repeat (first | with_reducible exact gb_refl _ | refine gb_alloc ?_ _ | refine gb_drewN ?_ _ | refine gb_drew ?_))).trans g15
  have T15 : Below w.heap.size w w15 := below_nextI T14 R15 (by omega)
  have z15 := R15.size
  replace o_w0 := o_w0.keepI R15 (fun p hp => by have := u_w0 p hp; have := (o_w0.lt p hp).1; omega)
  replace o_x2 := o_x2.keepI R15 (fun p hp => by have := u_x2 p hp; have := (o_x2.lt p hp).1; omega)
  replace o_g0 := o_g0.keepI R15 (fun p hp => by have := u_g0 p hp; have := (o_g0.lt p hp).1; omega)
  clear cc_aA
  replace bb_aA := bb_aA.keepI R15 (by have := bb_aA.lt; omega)
  have cc_aA := fun o => bb_aA.cell o
  have ll_aA_15 := bb_aA.lt
  go_wp2_with fail
  refine (laws_eqByteS_same _ _ _ _ _ _ _ _ (o_g0.rd.keep0 (by repeat (first | with_reducible exact gb_refl _ | refine gb_alloc ?_ _ | refine gb_drewN ?_ _ | refine gb_drew ?_))) (o_w0.rd.keep0 (by repeat (first | with_reducible exact gb_refl _ | refine gb_alloc ?_ _ | refine gb_drewN ?_ _ | refine gb_drew ?_))) (by have h9 := (show (mintM f0.host f0.port x1 l2 l3 x4).length ≤ 1048576 from Nat.le_trans (mintM_len _ _ _ _ _ _) (by decide)); omega)).mono ?_
  rintro e w16 ⟨rfl, q16⟩
  have g16 := q16.gb
  have R16 : w15.grownBy w16 none := gb_trans (by repeat (first | with_reducible exact gb_refl _ | refine gb_alloc ?_ _ | refine gb_drewN ?_ _ | refine gb_drew ?_)) g16
  have T16 : Below w.heap.size w w16 := below_next T15 R16
  have z16 := R16.size
  replace o_w0 := o_w0.keep0 R16
  replace o_x2 := o_x2.keep0 R16
  replace o_x3 := o_x3.keep0 R16
  replace o_g0 := o_g0.keep0 R16
  clear cc_aA
  replace bb_aA := bb_aA.keep0 R16
  have cc_aA := fun o => bb_aA.cell o
  have ll_aA_16 := bb_aA.lt
  go_wp2_with fail
  refine (laws_markByteS (w7.heap.size) _ _ _ (1) _ _ (o_g0.keep0 (by repeat (first | with_reducible exact gb_refl _ | refine gb_alloc ?_ _ | refine gb_drewN ?_ _ | refine gb_drew ?_))) (by have h9 := (show (mintM f0.host f0.port x1 l2 l3 x4).length ≤ 1048576 from Nat.le_trans (mintM_len _ _ _ _ _ _) (by decide)); have h8 := o_g0.blen; omega)).mono ?_
  rintro e w17 ⟨rfl, z_g0, r17⟩
  have g17 := gbI.ofRow (B := w7.heap.size) (S := w8.heap.size) r17 (fun g hg => by obtain ⟨p, hp, rfl⟩ := row_of hg; exact ⟨(o_g0.lt p hp).1, u_g0 p hp⟩)
  have e_g0_17 := Lib.hid o_g0.blen
  replace o_g0 := z_g0
  clear z_g0
  have R17 : gbI (w7.heap.size) (w8.heap.size) w16 w17 := (gbI.of0 (by repeat (first | with_reducible exact gb_refl _ | refine gb_alloc ?_ _ | refine gb_drewN ?_ _ | refine gb_drew ?_))).trans g17
  have T17 : Below w.heap.size w w17 := below_nextI T16 R17 (by omega)
  have z17 := R17.size
  replace o_w0 := o_w0.keepI R17 (fun p hp => by have := u_w0 p hp; have := (o_w0.lt p hp).1; omega)
  replace o_x2 := o_x2.keepI R17 (fun p hp => by have := u_x2 p hp; have := (o_x2.lt p hp).1; omega)
  replace o_x3 := o_x3.keepI R17 (fun p hp => by have := u_x3 p hp; have := (o_x3.lt p hp).1; omega)
  clear cc_aA
  replace bb_aA := bb_aA.keepI R17 (by have := bb_aA.lt; omega)
  have cc_aA := fun o => bb_aA.cell o
  have ll_aA_17 := bb_aA.lt
  go_wp2_with fail
  refine (laws_heldByteS _ n_g0 _ (1) _ (o_g0.rd.keep0 (by repeat (first | with_reducible exact gb_refl _ | refine gb_alloc ?_ _ | refine gb_drewN ?_ _ | refine gb_drew ?_))) (by have h9 := (show (mintM f0.host f0.port x1 l2 l3 x4).length ≤ 1048576 from Nat.le_trans (mintM_len _ _ _ _ _ _) (by decide)); have := (show (mintM f0.host f0.port x1 l2 l3 x4).length ≤ 1048576 from Nat.le_trans (mintM_len _ _ _ _ _ _) (by decide)); have := e_g0_17.out; omega)).mono ?_
  rintro e w18 ⟨rfl, q18⟩
  have g18 := q18.gb
  have R18 : w17.grownBy w18 none := gb_trans (by repeat (first | with_reducible exact gb_refl _ | refine gb_alloc ?_ _ | refine gb_drewN ?_ _ | refine gb_drew ?_)) g18
  have T18 : Below w.heap.size w w18 := below_next T17 R18
  have z18 := R18.size
  replace o_w0 := o_w0.keep0 R18
  replace o_x2 := o_x2.keep0 R18
  replace o_x3 := o_x3.keep0 R18
  replace o_g0 := o_g0.keep0 R18
  clear cc_aA
  replace bb_aA := bb_aA.keep0 R18
  have cc_aA := fun o => bb_aA.cell o
  have ll_aA_18 := bb_aA.lt
  go_wp2_with fail
  refine (laws_toAddr _ f0 _ rfl).mono ?_
  rintro e w19 ⟨v_th00, rfl, o_th00, g19⟩
  obtain rfl := o_th00
  have R19 : w18.grownBy w19 none := gb_trans (by repeat (first | with_reducible exact gb_refl _ | refine gb_alloc ?_ _ | refine gb_drewN ?_ _ | refine gb_drew ?_)) g19
  have T19 : Below w.heap.size w w19 := below_next T18 R19
  have z19 := R19.size
  replace o_w0 := o_w0.keep0 R19
  replace o_x2 := o_x2.keep0 R19
  replace o_x3 := o_x3.keep0 R19
  replace o_g0 := o_g0.keep0 R19
  clear cc_aA
  replace bb_aA := bb_aA.keep0 R19
  have cc_aA := fun o => bb_aA.cell o
  have ll_aA_19 := bb_aA.lt
  go_wp2_with fail
  refine (laws_toByteS _ _ _ l2 _ ((hR2.below T19).keep0 (by repeat (first | with_reducible exact gb_refl _ | refine gb_alloc ?_ _ | refine gb_drewN ?_ _ | refine gb_drew ?_))) (by have := P2.out; omega)).mono ?_
  rintro e w20 ⟨a_th01, c_th01, rfl, o_th01, g20⟩
  have u_th01 := fun p hp => (o_th01.lt p hp).2
  have R20 : w19.grownBy w20 none := gb_trans (by repeat (first | with_reducible exact gb_refl _ | refine gb_alloc ?_ _ | refine gb_drewN ?_ _ | refine gb_drew ?_)) g20
  have T20 : Below w.heap.size w w20 := below_next T19 R20
  have z20 := R20.size
  replace o_w0 := o_w0.keep0 R20
  replace o_x2 := o_x2.keep0 R20
  replace o_x3 := o_x3.keep0 R20
  replace o_g0 := o_g0.keep0 R20
  clear cc_aA
  replace bb_aA := bb_aA.keep0 R20
  have cc_aA := fun o => bb_aA.cell o
  have ll_aA_20 := bb_aA.lt
  replace o_th01 := o_th01.mono (B' := w19.heap.size) (by first | exact Nat.le_refl _ | (simp; done) | (simp; omega))
  go_wp2_with fail
  refine (laws_toByteS _ _ _ l3 _ ((hR3.below T20).keep0 (by repeat (first | with_reducible exact gb_refl _ | refine gb_alloc ?_ _ | refine gb_drewN ?_ _ | refine gb_drew ?_))) (by have := P3.out; omega)).mono ?_
  rintro e w21 ⟨a_th02, c_th02, rfl, o_th02, g21⟩
  have u_th02 := fun p hp => (o_th02.lt p hp).2
  have R21 : w20.grownBy w21 none := gb_trans (by repeat (first | with_reducible exact gb_refl _ | refine gb_alloc ?_ _ | refine gb_drewN ?_ _ | refine gb_drew ?_)) g21
  have T21 : Below w.heap.size w w21 := below_next T20 R21
  have z21 := R21.size
  replace o_w0 := o_w0.keep0 R21
  replace o_x2 := o_x2.keep0 R21
  replace o_x3 := o_x3.keep0 R21
  replace o_g0 := o_g0.keep0 R21
  replace o_th01 := o_th01.keep0 R21
  clear cc_aA
  replace bb_aA := bb_aA.keep0 R21
  have cc_aA := fun o => bb_aA.cell o
  have ll_aA_21 := bb_aA.lt
  replace o_th02 := o_th02.mono (B' := w20.heap.size) (by first | exact Nat.le_refl _ | (simp; done) | (simp; omega))
  go_wp2_with fail
  refine (LI_MintBody _ f0 x1 _ _ _ l2 _ _ _ l3 x4 _ rfl (o_th01.rd.keep0 (by repeat (first | with_reducible exact gb_refl _ | refine gb_alloc ?_ _ | refine gb_drewN ?_ _ | refine gb_drew ?_))) (o_th02.rd.keep0 (by repeat (first | with_reducible exact gb_refl _ | refine gb_alloc ?_ _ | refine gb_drewN ?_ _ | refine gb_drew ?_))) (show l2.length ≤ 1048576 by have := hN2.out; have := P2.out; omega) (show l3.length ≤ 1048576 by have := hN3.out; have := P3.out; omega)).mono ?_
  rintro e w22 ⟨a_h0, n_h0, c_h0, rfl, o_h0, g22⟩
  have u_h0 := fun p hp => (o_h0.lt p hp).2
  have R22 : w21.grownBy w22 none := gb_trans (by repeat (first | with_reducible exact gb_refl _ | refine gb_alloc ?_ _ | refine gb_drewN ?_ _ | refine gb_drew ?_)) g22
  have T22 : Below w.heap.size w w22 := below_next T21 R22
  have z22 := R22.size
  replace o_w0 := o_w0.keep0 R22
  replace o_x2 := o_x2.keep0 R22
  replace o_x3 := o_x3.keep0 R22
  replace o_g0 := o_g0.keep0 R22
  replace o_th01 := o_th01.keep0 R22
  replace o_th02 := o_th02.keep0 R22
  clear cc_aA
  replace bb_aA := bb_aA.keep0 R22
  have cc_aA := fun o => bb_aA.cell o
  have ll_aA_22 := bb_aA.lt
  replace o_h0 := o_h0.mono (B' := w21.heap.size) (by first | exact Nat.le_refl _ | (simp; done) | (simp; omega))
  clear o_th01 u_th01
  clear o_th02 u_th02
  go_wp2_with fail
  refine (laws_eqByteS_same _ _ _ _ _ _ _ _ (o_h0.rd.keep0 (by repeat (first | with_reducible exact gb_refl _ | refine gb_alloc ?_ _ | refine gb_drewN ?_ _ | refine gb_drew ?_))) (o_w0.rd.keep0 (by repeat (first | with_reducible exact gb_refl _ | refine gb_alloc ?_ _ | refine gb_drewN ?_ _ | refine gb_drew ?_))) (by have h9 := (show (mintM f0.host f0.port x1 l2 l3 x4).length ≤ 1048576 from Nat.le_trans (mintM_len _ _ _ _ _ _) (by decide)); omega)).mono ?_
  rintro e w23 ⟨rfl, q23⟩
  have g23 := q23.gb
  have R23 : w22.grownBy w23 none := gb_trans (by repeat (first | with_reducible exact gb_refl _ | refine gb_alloc ?_ _ | refine gb_drewN ?_ _ | refine gb_drew ?_)) g23
  have T23 : Below w.heap.size w w23 := below_next T22 R23
  have z23 := R23.size
  replace o_w0 := o_w0.keep0 R23
  replace o_x2 := o_x2.keep0 R23
  replace o_x3 := o_x3.keep0 R23
  replace o_g0 := o_g0.keep0 R23
  replace o_h0 := o_h0.keep0 R23
  clear cc_aA
  replace bb_aA := bb_aA.keep0 R23
  have cc_aA := fun o => bb_aA.cell o
  have ll_aA_23 := bb_aA.lt
  go_wp2_with fail
  refine (laws_heldByteS _ n_g0 _ (1) _ (o_g0.rd.keep0 (by repeat (first | with_reducible exact gb_refl _ | refine gb_alloc ?_ _ | refine gb_drewN ?_ _ | refine gb_drew ?_))) (by have h9 := (show (mintM f0.host f0.port x1 l2 l3 x4).length ≤ 1048576 from Nat.le_trans (mintM_len _ _ _ _ _ _) (by decide)); have := (show (mintM f0.host f0.port x1 l2 l3 x4).length ≤ 1048576 from Nat.le_trans (mintM_len _ _ _ _ _ _) (by decide)); have := e_g0_17.out; omega)).mono ?_
  rintro e w24 ⟨rfl, q24⟩
  have g24 := q24.gb
  have R24 : w23.grownBy w24 none := gb_trans (by repeat (first | with_reducible exact gb_refl _ | refine gb_alloc ?_ _ | refine gb_drewN ?_ _ | refine gb_drew ?_)) g24
  have T24 : Below w.heap.size w w24 := below_next T23 R24
  have z24 := R24.size
  replace o_w0 := o_w0.keep0 R24
  replace o_x2 := o_x2.keep0 R24
  replace o_x3 := o_x3.keep0 R24
  replace o_g0 := o_g0.keep0 R24
  replace o_h0 := o_h0.keep0 R24
  clear cc_aA
  replace bb_aA := bb_aA.keep0 R24
  have cc_aA := fun o => bb_aA.cell o
  have ll_aA_24 := bb_aA.lt
  go_wp2
  go_ret
  exact ⟨rfl, T24⟩
set_option maxRecDepth 100000 in
theorem lifted (os : Os) (started : os.Started) (H : Type) (enc : TypeId × Value → H) :
    ReturnsInHanded {} Try.checked os 7 .any (Rows.fnExactMintBodySpec.pre6 enc Try.prog Try.f7 Rows.fnExactMintBodyRow.domain false) (Rows.fnExactMintBodySpec.post enc Try.prog Try.f7 false true false false) := by
  refine returnsInHanded_of_change (C := Try.checked) own started (by kernel_rfl) Try.func7
    (ChangeSpec.witness6 (enc := enc) (C := Try.checked) false ⟨#[], #[.agg #[.int .i64 0, .int .i64 0], .int .i64 0, .slice none 0 0, .slice none 0 0, .int .i64 0], []⟩ 8 (by kernel_rfl) (by kernel_rfl) (by kernel_rfl) (by kernel_rfl)) ?_
  intro W base args ds gs before hval0 hW _ _
  have hval : ∀ (j : Nat) t v, Try.f7.params[j]? = some t → args[j]? = some v → Value.okWide Try.prog W .any base t v := hval0
  have hW2 := hW
  obtain ⟨p, q, hA0, hV, hps, _, _⟩ := hW
  have hA : DataW.TrodAll enc Try.prog W 0 (fun _ => true) true Try.f7.params.toList args.toList ds p := hA0
  rw [Try.params7] at hA hval
  obtain ⟨rfl, rfl⟩ := trodVars_none hV
  obtain ⟨v0, vs0, d0, ds0, p0, q0, hargs, rfl, rfl, h0, r0⟩ := trodAll_cons hA
  obtain ⟨v1, vs1, d1, ds1, p1, q1, rfl, rfl, rfl, h1, r1⟩ := trodAll_cons r0
  obtain ⟨v2, vs2, d2, ds2, p2, q2, rfl, rfl, rfl, h2, r2⟩ := trodAll_cons r1
  obtain ⟨v3, vs3, d3, ds3, p3, q3, rfl, rfl, rfl, h3, r3⟩ := trodAll_cons r2
  obtain ⟨v4, vs4, d4, ds4, p4, q4, rfl, rfl, rfl, h4, r4⟩ := trodAll_cons r3
  obtain ⟨rfl, rfl, rfl⟩ := trodAll_nil r4
  obtain rfl : args = #[v0, v1, v2, v3, v4] := by cases args; simp_all
  have i0 := open_Addr (hval 0 46 v0 rfl rfl) h0
  have i1 := open_I (hval 1 3 v1 rfl rfl) h1
  have i2 := open_B (hval 2 22 v2 rfl rfl) h2
  have i3 := open_B (hval 3 22 v3 rfl rfl) h3
  have i4 := open_I (hval 4 3 v4 rfl rfl) h4
  clear hA0 hval0
  refine (walk W v0 v1 v2 v3 v4 i0 i1 i2 i3 i4).mono fun e W2 ⟨he, hb⟩ => ?_
  subst he
  exact ⟨_, rfl, law_post (tb := 4) laidOut (by kernel_rfl) (by kernel_rfl) Try.underlying4 rfl ⟨rfl, rfl, rfl⟩ hW2 hb⟩
theorem over : Rows.fnExactMintBodyRow.holds Try.pinned (OpenSpec.ofChange Rows.fnExactMintBodySpec) :=
  OpenClaim.holds_of_wide 7 Try.f7 rfl rfl rfl rfl rfl rfl rfl ⟨rfl, rfl, rfl, rfl, rfl⟩ rfl rfl rfl rfl rfl (by kernel_rfl) Try.func7 (by kernel_rfl)
    (of_decide_eq_true (by kernel_rfl)) (by unfold Func.isWrapper; first | (rw [if_pos (by decide +kernel)]; kernel_rfl) | (rw [if_neg (by decide +kernel)]; exact ⟨rfl, rfl⟩))
    (fun os started H enc _ => lifted os started H enc)
theorem proved : Rows.FnExactMintBodySaid :=
  over
#print axioms proved
end Go.Proofs.Ytpkjlhooiaedmaa.lMintBody
