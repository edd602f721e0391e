/-
  FnExactHeadOf returns true for every role, nonce, epoch and number. Conditions: none.
-/
import Derived.Test.YtpkjlhooiaedmaaLaw
import Derived.Test.YtpkjlhooiaedmaaHead
import Derived.Deep.RegionHeld3
namespace Go.Proofs.Ytpkjlhooiaedmaa.lHeadOf
open Go.ChangeShapes Go.WideShapes Go.ChangeAt Go.RowKit
theorem LS_HeadOf (x0 : Int) (a1 : Option Addr) (n1 c1 : Nat) (l1 : List UInt8) (x2 : Int) (x3 : Int) (w : World) (r1 : Rd w a1 n1 c1 (bys l1)) (_s1 : l1.length ≤ 1048576) : Calls Try.prog 23 #[.int .i64 x0, .slice a1 n1 c1, .int .i64 x2, .int .i64 x3] w fun e w' => ∃ a n c, e = .returned (.slice a n c) ∧ Ow w.heap.size w' 5 a n c (bys (headM x0 l1 x2 x3)) ∧ w.grownBy w' none := by
  exact spec_HeadOf x0 a1 n1 c1 l1 x2 x3 w r1
theorem LI_HeadOf (x0 : Int) (a1 : Option Addr) (n1 c1 : Nat) (l1 : List UInt8) (x2 : Int) (x3 : Int) (w : World) (r1 : Rd w a1 n1 c1 (bys l1)) (_s1 : l1.length ≤ 1048576) : Calls Try.prog 24 #[.int .i64 x0, .slice a1 n1 c1, .int .i64 x2, .int .i64 x3] w fun e w' => ∃ a n c, e = .returned (.slice a n c) ∧ Ow w.heap.size w' 5 a n c (bys (headM x0 l1 x2 x3)) ∧ w.grownBy w' none := by
  exact impl_HeadOf x0 a1 n1 c1 l1 x2 x3 w r1
set_option maxRecDepth 100000 in
set_option maxHeartbeats 4000000 in
theorem walk (w : World) (v0 v1 v2 v3 : Value) (h0 : InInt v0) (h1 : InBytes w v1) (h2 : InInt v2) (h3 : InInt v3) : Calls Try.prog 5 #[v0, v1, v2, v3] w fun e w' => e = .returned (.bool true) ∧ Below w.heap.size w w' := by
  obtain ⟨x0, rfl, hx0⟩ := h0
  obtain ⟨a1, n1, c1, l1, rfl, hR1, hC1⟩ := h1
  have hN1 := Lib.hid hR1.blen
  obtain ⟨x2, rfl, hx2⟩ := h2
  obtain ⟨x3, rfl, hx3⟩ := h3
  have T0 : Below w.heap.size w w := Below.refl _ _
  go_enter Try.func5, Try.ntmps5
  rcases Nat.lt_or_ge 1048576 n1 with p1 | p1
  · go_wp2
    go_ret
    exact ⟨rfl, T0⟩
  have P1 := Lib.hid p1
  have p1z : ((n1 : Int) ≤ 1048576) := by have := P1.out; omega
  clear p1
  go_wp2_with fail
  refine (laws_toByteS _ _ _ l1 _ ((hR1.below T0).keep0 (by repeat (first | with_reducible exact gb_refl _ | refine gb_alloc ?_ _ | refine gb_drewN ?_ _ | refine gb_drew ?_))) (by have := P1.out; omega)).mono ?_
  rintro e w1 ⟨a_tw00, c_tw00, rfl, o_tw00, g1⟩
  have u_tw00 := fun p hp => (o_tw00.lt p hp).2
  have R1 : w.grownBy w1 none := gb_trans (by repeat (first | with_reducible exact gb_refl _ | refine gb_alloc ?_ _ | refine gb_drewN ?_ _ | refine gb_drew ?_)) g1
  have T1 : Below w.heap.size w w1 := below_next T0 R1
  have z1 := R1.size
  replace o_tw00 := o_tw00.mono (B' := w.heap.size) (by first | exact Nat.le_refl _ | (simp; done) | (simp; omega))
  go_wp2_with fail
  refine (LS_HeadOf x0 _ _ _ l1 x2 x3 _ (o_tw00.rd.keep0 (by repeat (first | with_reducible exact gb_refl _ | refine gb_alloc ?_ _ | refine gb_drewN ?_ _ | refine gb_drew ?_))) (show l1.length ≤ 1048576 by have := hN1.out; have := P1.out; omega)).mono ?_
  rintro e w2 ⟨a_w0, n_w0, c_w0, rfl, o_w0, g2⟩
  have u_w0 := fun p hp => (o_w0.lt p hp).2
  have R2 : w1.grownBy w2 none := gb_trans (by repeat (first | with_reducible exact gb_refl _ | refine gb_alloc ?_ _ | refine gb_drewN ?_ _ | refine gb_drew ?_)) g2
  have T2 : Below w.heap.size w w2 := below_next T1 R2
  have z2 := R2.size
  replace o_tw00 := o_tw00.keep0 R2
  replace o_w0 := o_w0.mono (B' := w1.heap.size) (by first | exact Nat.le_refl _ | (simp; done) | (simp; omega))
  clear o_tw00 u_tw00
  go_wp2_with fail
  refine (laws_toByteS _ _ _ l1 _ ((hR1.below T2).keep0 (by repeat (first | with_reducible exact gb_refl _ | refine gb_alloc ?_ _ | refine gb_drewN ?_ _ | refine gb_drew ?_))) (by have := P1.out; omega)).mono ?_
  rintro e w3 ⟨a_x1, c_x1, rfl, o_x1, g3⟩
  have u_x1 := fun p hp => (o_x1.lt p hp).2
  have R3 : w2.grownBy w3 none := gb_trans (by repeat (first | with_reducible exact gb_refl _ | refine gb_alloc ?_ _ | refine gb_drewN ?_ _ | refine gb_drew ?_)) g3
  have T3 : Below w.heap.size w w3 := below_next T2 R3
  have z3 := R3.size
  replace o_w0 := o_w0.keep0 R3
  replace o_x1 := o_x1.mono (B' := w2.heap.size) (by first | exact Nat.le_refl _ | (simp; done) | (simp; omega))
  go_wp2_with fail
  refine (LI_HeadOf x0 _ _ _ l1 x2 x3 _ (o_x1.rd.keep0 (by repeat (first | with_reducible exact gb_refl _ | refine gb_alloc ?_ _ | refine gb_drewN ?_ _ | refine gb_drew ?_))) (show l1.length ≤ 1048576 by have := hN1.out; have := P1.out; omega)).mono ?_
  rintro e w4 ⟨a_g0, n_g0, c_g0, rfl, o_g0, g4⟩
  have u_g0 := fun p hp => (o_g0.lt p hp).2
  have R4 : w3.grownBy w4 none := gb_trans (by repeat (first | with_reducible exact gb_refl _ | refine gb_alloc ?_ _ | refine gb_drewN ?_ _ | refine gb_drew ?_)) g4
  have T4 : Below w.heap.size w w4 := below_next T3 R4
  have z4 := R4.size
  replace o_w0 := o_w0.keep0 R4
  replace o_x1 := o_x1.keep0 R4
  replace o_g0 := o_g0.mono (B' := w3.heap.size) (by first | exact Nat.le_refl _ | (simp; done) | (simp; omega))
  go_wp2_with fail
  refine (laws_eqByteS_same _ _ _ _ _ _ _ _ (o_g0.rd.keep0 (by repeat (first | with_reducible exact gb_refl _ | refine gb_alloc ?_ _ | refine gb_drewN ?_ _ | refine gb_drew ?_))) (o_w0.rd.keep0 (by repeat (first | with_reducible exact gb_refl _ | refine gb_alloc ?_ _ | refine gb_drewN ?_ _ | refine gb_drew ?_))) (by have h9 := (show (headM x0 l1 x2 x3).length ≤ 1048576 from Nat.le_trans (headM_len _ _ _ _) (by decide)); omega)).mono ?_
  rintro e w5 ⟨rfl, q5⟩
  have g5 := q5.gb
  have R5 : w4.grownBy w5 none := gb_trans (by repeat (first | with_reducible exact gb_refl _ | refine gb_alloc ?_ _ | refine gb_drewN ?_ _ | refine gb_drew ?_)) g5
  have T5 : Below w.heap.size w w5 := below_next T4 R5
  have z5 := R5.size
  replace o_w0 := o_w0.keep0 R5
  replace o_x1 := o_x1.keep0 R5
  replace o_g0 := o_g0.keep0 R5
  go_wp2_with fail
  refine (laws_toByteS _ _ _ l1 _ ((hR1.below T5).keep0 (by repeat (first | with_reducible exact gb_refl _ | refine gb_alloc ?_ _ | refine gb_drewN ?_ _ | refine gb_drew ?_))) (by have := P1.out; omega)).mono ?_
  rintro e w6 ⟨a_tz_x1, c_tz_x1, rfl, o_tz_x1, g6⟩
  have u_tz_x1 := fun p hp => (o_tz_x1.lt p hp).2
  have R6 : w5.grownBy w6 none := gb_trans (by repeat (first | with_reducible exact gb_refl _ | refine gb_alloc ?_ _ | refine gb_drewN ?_ _ | refine gb_drew ?_)) g6
  have T6 : Below w.heap.size w w6 := below_next T5 R6
  have z6 := R6.size
  replace o_w0 := o_w0.keep0 R6
  replace o_x1 := o_x1.keep0 R6
  replace o_g0 := o_g0.keep0 R6
  replace o_tz_x1 := o_tz_x1.mono (B' := w5.heap.size) (by first | exact Nat.le_refl _ | (simp; done) | (simp; omega))
  go_wp2_with fail
  refine (laws_eqByteS_same _ _ _ _ _ _ _ _ (o_x1.rd.keep0 (by repeat (first | with_reducible exact gb_refl _ | refine gb_alloc ?_ _ | refine gb_drewN ?_ _ | refine gb_drew ?_))) (o_tz_x1.rd.keep0 (by repeat (first | with_reducible exact gb_refl _ | refine gb_alloc ?_ _ | refine gb_drewN ?_ _ | refine gb_drew ?_))) (by have h9 := (show l1.length ≤ 1048576 by have := hN1.out; have := P1.out; omega); omega)).mono ?_
  rintro e w7 ⟨rfl, q7⟩
  have g7 := q7.gb
  have R7 : w6.grownBy w7 none := gb_trans (by repeat (first | with_reducible exact gb_refl _ | refine gb_alloc ?_ _ | refine gb_drewN ?_ _ | refine gb_drew ?_)) g7
  have T7 : Below w.heap.size w w7 := below_next T6 R7
  have z7 := R7.size
  replace o_w0 := o_w0.keep0 R7
  replace o_x1 := o_x1.keep0 R7
  replace o_g0 := o_g0.keep0 R7
  replace o_tz_x1 := o_tz_x1.keep0 R7
  clear o_tz_x1 u_tz_x1
  go_wp2_with fail
  refine (laws_markByteS (w2.heap.size) _ _ _ (1) _ _ (o_x1.keep0 (by repeat (first | with_reducible exact gb_refl _ | refine gb_alloc ?_ _ | refine gb_drewN ?_ _ | refine gb_drew ?_))) (by have h9 := (show l1.length ≤ 1048576 by have := hN1.out; have := P1.out; omega); have h8 := o_x1.blen; omega)).mono ?_
  rintro e w8 ⟨rfl, z_x1, r8⟩
  have g8 := gbI.ofRow (B := w2.heap.size) (S := w3.heap.size) r8 (fun g hg => by obtain ⟨p, hp, rfl⟩ := row_of hg; exact ⟨(o_x1.lt p hp).1, u_x1 p hp⟩)
  have e_x1_8 := Lib.hid o_x1.blen
  replace o_x1 := z_x1
  clear z_x1
  have R8 : gbI (w2.heap.size) (w3.heap.size) w7 w8 := (gbI.of0 (by repeat (first | with_reducible exact gb_refl _ | refine gb_alloc ?_ _ | refine gb_drewN ?_ _ | refine gb_drew ?_))).trans g8
  have T8 : Below w.heap.size w w8 := below_nextI T7 R8 (by omega)
  have z8 := R8.size
  replace o_w0 := o_w0.keepI R8 (fun p hp => by have := u_w0 p hp; have := (o_w0.lt p hp).1; omega)
  replace o_g0 := o_g0.keepI R8 (fun p hp => by have := u_g0 p hp; have := (o_g0.lt p hp).1; omega)
  go_wp2_with fail
  refine (laws_eqByteS_same _ _ _ _ _ _ _ _ (o_g0.rd.keep0 (by repeat (first | with_reducible exact gb_refl _ | refine gb_alloc ?_ _ | refine gb_drewN ?_ _ | refine gb_drew ?_))) (o_w0.rd.keep0 (by repeat (first | with_reducible exact gb_refl _ | refine gb_alloc ?_ _ | refine gb_drewN ?_ _ | refine gb_drew ?_))) (by have h9 := (show (headM x0 l1 x2 x3).length ≤ 1048576 from Nat.le_trans (headM_len _ _ _ _) (by decide)); omega)).mono ?_
  rintro e w9 ⟨rfl, q9⟩
  have g9 := q9.gb
  have R9 : w8.grownBy w9 none := gb_trans (by repeat (first | with_reducible exact gb_refl _ | refine gb_alloc ?_ _ | refine gb_drewN ?_ _ | refine gb_drew ?_)) g9
  have T9 : Below w.heap.size w w9 := below_next T8 R9
  have z9 := R9.size
  replace o_w0 := o_w0.keep0 R9
  replace o_x1 := o_x1.keep0 R9
  replace o_g0 := o_g0.keep0 R9
  go_wp2_with fail
  refine (laws_markByteS (w3.heap.size) _ _ _ (1) _ _ (o_g0.keep0 (by repeat (first | with_reducible exact gb_refl _ | refine gb_alloc ?_ _ | refine gb_drewN ?_ _ | refine gb_drew ?_))) (by have h9 := (show (headM x0 l1 x2 x3).length ≤ 1048576 from Nat.le_trans (headM_len _ _ _ _) (by decide)); have h8 := o_g0.blen; omega)).mono ?_
  rintro e w10 ⟨rfl, z_g0, r10⟩
  have g10 := gbI.ofRow (B := w3.heap.size) (S := w4.heap.size) r10 (fun g hg => by obtain ⟨p, hp, rfl⟩ := row_of hg; exact ⟨(o_g0.lt p hp).1, u_g0 p hp⟩)
  have e_g0_10 := Lib.hid o_g0.blen
  replace o_g0 := z_g0
  clear z_g0
  have R10 : gbI (w3.heap.size) (w4.heap.size) w9 w10 := (gbI.of0 (by repeat (first | with_reducible exact gb_refl _ | refine gb_alloc ?_ _ | refine gb_drewN ?_ _ | refine gb_drew ?_))).trans g10
  have T10 : Below w.heap.size w w10 := below_nextI T9 R10 (by omega)
  have z10 := R10.size
  replace o_w0 := o_w0.keepI R10 (fun p hp => by have := u_w0 p hp; have := (o_w0.lt p hp).1; omega)
  replace o_x1 := o_x1.keepI R10 (fun p hp => by have := u_x1 p hp; have := (o_x1.lt p hp).1; omega)
  go_wp2_with fail
  refine (laws_heldByteS _ n_g0 _ (1) _ (o_g0.rd.keep0 (by repeat (first | with_reducible exact gb_refl _ | refine gb_alloc ?_ _ | refine gb_drewN ?_ _ | refine gb_drew ?_))) (by have h9 := (show (headM x0 l1 x2 x3).length ≤ 1048576 from Nat.le_trans (headM_len _ _ _ _) (by decide)); have := (show (headM x0 l1 x2 x3).length ≤ 1048576 from Nat.le_trans (headM_len _ _ _ _) (by decide)); have := e_g0_10.out; omega)).mono ?_
  rintro e w11 ⟨rfl, q11⟩
  have g11 := q11.gb
  have R11 : w10.grownBy w11 none := gb_trans (by repeat (first | with_reducible exact gb_refl _ | refine gb_alloc ?_ _ | refine gb_drewN ?_ _ | refine gb_drew ?_)) g11
  have T11 : Below w.heap.size w w11 := below_next T10 R11
  have z11 := R11.size
  replace o_w0 := o_w0.keep0 R11
  replace o_x1 := o_x1.keep0 R11
  replace o_g0 := o_g0.keep0 R11
  go_wp2_with fail
  refine (laws_toByteS _ _ _ l1 _ ((hR1.below T11).keep0 (by repeat (first | with_reducible exact gb_refl _ | refine gb_alloc ?_ _ | refine gb_drewN ?_ _ | refine gb_drew ?_))) (by have := P1.out; omega)).mono ?_
  rintro e w12 ⟨a_th00, c_th00, rfl, o_th00, g12⟩
  have u_th00 := fun p hp => (o_th00.lt p hp).2
  have R12 : w11.grownBy w12 none := gb_trans (by repeat (first | with_reducible exact gb_refl _ | refine gb_alloc ?_ _ | refine gb_drewN ?_ _ | refine gb_drew ?_)) g12
  have T12 : Below w.heap.size w w12 := below_next T11 R12
  have z12 := R12.size
  replace o_w0 := o_w0.keep0 R12
  replace o_x1 := o_x1.keep0 R12
  replace o_g0 := o_g0.keep0 R12
  replace o_th00 := o_th00.mono (B' := w11.heap.size) (by first | exact Nat.le_refl _ | (simp; done) | (simp; omega))
  go_wp2_with fail
  refine (LI_HeadOf x0 _ _ _ l1 x2 x3 _ (o_th00.rd.keep0 (by repeat (first | with_reducible exact gb_refl _ | refine gb_alloc ?_ _ | refine gb_drewN ?_ _ | refine gb_drew ?_))) (show l1.length ≤ 1048576 by have := hN1.out; have := P1.out; omega)).mono ?_
  rintro e w13 ⟨a_h0, n_h0, c_h0, rfl, o_h0, g13⟩
  have u_h0 := fun p hp => (o_h0.lt p hp).2
  have R13 : w12.grownBy w13 none := gb_trans (by repeat (first | with_reducible exact gb_refl _ | refine gb_alloc ?_ _ | refine gb_drewN ?_ _ | refine gb_drew ?_)) g13
  have T13 : Below w.heap.size w w13 := below_next T12 R13
  have z13 := R13.size
  replace o_w0 := o_w0.keep0 R13
  replace o_x1 := o_x1.keep0 R13
  replace o_g0 := o_g0.keep0 R13
  replace o_th00 := o_th00.keep0 R13
  replace o_h0 := o_h0.mono (B' := w12.heap.size) (by first | exact Nat.le_refl _ | (simp; done) | (simp; omega))
  clear o_th00 u_th00
  go_wp2_with fail
  refine (laws_eqByteS_same _ _ _ _ _ _ _ _ (o_h0.rd.keep0 (by repeat (first | with_reducible exact gb_refl _ | refine gb_alloc ?_ _ | refine gb_drewN ?_ _ | refine gb_drew ?_))) (o_w0.rd.keep0 (by repeat (first | with_reducible exact gb_refl _ | refine gb_alloc ?_ _ | refine gb_drewN ?_ _ | refine gb_drew ?_))) (by have h9 := (show (headM x0 l1 x2 x3).length ≤ 1048576 from Nat.le_trans (headM_len _ _ _ _) (by decide)); omega)).mono ?_
  rintro e w14 ⟨rfl, q14⟩
  have g14 := q14.gb
  have R14 : w13.grownBy w14 none := gb_trans (by repeat (first | with_reducible exact gb_refl _ | refine gb_alloc ?_ _ | refine gb_drewN ?_ _ | refine gb_drew ?_)) g14
  have T14 : Below w.heap.size w w14 := below_next T13 R14
  have z14 := R14.size
  replace o_w0 := o_w0.keep0 R14
  replace o_x1 := o_x1.keep0 R14
  replace o_g0 := o_g0.keep0 R14
  replace o_h0 := o_h0.keep0 R14
  go_wp2_with fail
  refine (laws_heldByteS _ n_g0 _ (1) _ (o_g0.rd.keep0 (by repeat (first | with_reducible exact gb_refl _ | refine gb_alloc ?_ _ | refine gb_drewN ?_ _ | refine gb_drew ?_))) (by have h9 := (show (headM x0 l1 x2 x3).length ≤ 1048576 from Nat.le_trans (headM_len _ _ _ _) (by decide)); have := (show (headM x0 l1 x2 x3).length ≤ 1048576 from Nat.le_trans (headM_len _ _ _ _) (by decide)); have := e_g0_10.out; omega)).mono ?_
  rintro e w15 ⟨rfl, q15⟩
  have g15 := q15.gb
  have R15 : w14.grownBy w15 none := gb_trans (by repeat (first | with_reducible exact gb_refl _ | refine gb_alloc ?_ _ | refine gb_drewN ?_ _ | refine gb_drew ?_)) g15
  have T15 : Below w.heap.size w w15 := below_next T14 R15
  have z15 := R15.size
  replace o_w0 := o_w0.keep0 R15
  replace o_x1 := o_x1.keep0 R15
  replace o_g0 := o_g0.keep0 R15
  replace o_h0 := o_h0.keep0 R15
  go_wp2
  go_ret
  exact ⟨rfl, T15⟩
set_option maxRecDepth 100000 in
theorem lifted (os : Os) (started : os.Started) (H : Type) (enc : TypeId × Value → H) :
    ReturnsInHanded {} Try.checked os 5 .any (Rows.fnExactHeadOfSpec.pre6 enc Try.prog Try.f5 Rows.fnExactHeadOfRow.domain false) (Rows.fnExactHeadOfSpec.post enc Try.prog Try.f5 false true false false) := by
  refine returnsInHanded_of_change (C := Try.checked) own started (by kernel_rfl) Try.func5
    (ChangeSpec.witness6 (enc := enc) (C := Try.checked) false ⟨#[], #[.int .i64 0, .slice none 0 0, .int .i64 0, .int .i64 0], []⟩ 8 (by kernel_rfl) (by kernel_rfl) (by kernel_rfl) (by kernel_rfl)) ?_
  intro W base args ds gs before hval0 hW _ _
  have hval : ∀ (j : Nat) t v, Try.f5.params[j]? = some t → args[j]? = some v → Value.okWide Try.prog W .any base t v := hval0
  have hW2 := hW
  obtain ⟨p, q, hA0, hV, hps, _, _⟩ := hW
  have hA : DataW.TrodAll enc Try.prog W 0 (fun _ => true) true Try.f5.params.toList args.toList ds p := hA0
  rw [Try.params5] at hA hval
  obtain ⟨rfl, rfl⟩ := trodVars_none hV
  obtain ⟨v0, vs0, d0, ds0, p0, q0, hargs, rfl, rfl, h0, r0⟩ := trodAll_cons hA
  obtain ⟨v1, vs1, d1, ds1, p1, q1, rfl, rfl, rfl, h1, r1⟩ := trodAll_cons r0
  obtain ⟨v2, vs2, d2, ds2, p2, q2, rfl, rfl, rfl, h2, r2⟩ := trodAll_cons r1
  obtain ⟨v3, vs3, d3, ds3, p3, q3, rfl, rfl, rfl, h3, r3⟩ := trodAll_cons r2
  obtain ⟨rfl, rfl, rfl⟩ := trodAll_nil r3
  obtain rfl : args = #[v0, v1, v2, v3] := by cases args; simp_all
  have i0 := open_I (hval 0 3 v0 rfl rfl) h0
  have i1 := open_B (hval 1 22 v1 rfl rfl) h1
  have i2 := open_I (hval 2 3 v2 rfl rfl) h2
  have i3 := open_I (hval 3 3 v3 rfl rfl) h3
  clear hA0 hval0
  refine (walk W v0 v1 v2 v3 i0 i1 i2 i3).mono fun e W2 ⟨he, hb⟩ => ?_
  subst he
  exact ⟨_, rfl, law_post (tb := 4) laidOut (by kernel_rfl) (by kernel_rfl) Try.underlying4 rfl ⟨rfl, rfl, rfl⟩ hW2 hb⟩
theorem over : Rows.fnExactHeadOfRow.holds Try.pinned (OpenSpec.ofChange Rows.fnExactHeadOfSpec) :=
  OpenClaim.holds_of_wide 5 Try.f5 rfl rfl rfl rfl rfl rfl rfl ⟨rfl, rfl, rfl, rfl, rfl⟩ rfl rfl rfl rfl rfl (by kernel_rfl) Try.func5 (by kernel_rfl)
    (of_decide_eq_true (by kernel_rfl)) (by unfold Func.isWrapper; first | (rw [if_pos (by decide +kernel)]; kernel_rfl) | (rw [if_neg (by decide +kernel)]; exact ⟨rfl, rfl⟩))
    (fun os started H enc _ => lifted os started H enc)
theorem proved : Rows.FnExactHeadOfSaid :=
  over
#print axioms proved
end Go.Proofs.Ytpkjlhooiaedmaa.lHeadOf
