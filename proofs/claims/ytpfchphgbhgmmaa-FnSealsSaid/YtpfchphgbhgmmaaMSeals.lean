/-
  FnSeals returns true for every code; with the draws and the small functions that this law alone asks for. Conditions: none.
-/
import Derived.Test.YtpfchphgbhgmmaaLawH
import Derived.Test.YtpfchphgbhgmmaaMac
import Derived.Test.YtpfchphgbhgmmaaGet
import Derived.Test.YtpfchphgbhgmmaaDrw
import Derived.Test.YtpfchphgbhgmmaaDrO
import Derived.Test.YtpfchphgbhgmmaaHelpS
import Derived.Test.YtpfchphgbhgmmaaLaw
import Derived.Test.YtpfchphgbhgmmaaPlSeal
import Derived.Deep.RegionHeld3
import Derived.Deep.RegionWith
import Derived.IntWalk
/-
  Contracts of the small functions of the laws: a byte of the code, a slice's beginning, a bent slice. Conditions: none beside those that each theorem names.
-/
namespace Go.Proofs.Ytpfchphgbhgmmaa
open Go.RowKit
set_option maxHeartbeats 1000000 in
theorem laws_at (a : Option Addr) (n c : Nat) (l : List UInt8) (x : Int) (w : World) (h : Rd w a n c (bys l)) (hn : n ≤ 1048576) (h0 : 0 ≤ x) (h1 : x ≤ 10) :
    Calls Try.prog 19 #[.slice a n c, .int .i64 x] w fun e w' => ∃ k : Nat, k < 256 ∧ e = .returned (.int .i64 (k : Int)) ∧ w = w' := by
  obtain ⟨j, rfl⟩ := Int.eq_ofNat_of_zero_le h0
  by_cases hj : j < n
  · obtain ⟨b, off, y, rfl, hy, hc⟩ := h.byte j hj
    have yt := y.toNat_lt
    go_enter Try.func19, Try.ntmps19
    go_wp2
    go_ret
    exact ⟨y.toNat, by omega, rfl, rfl⟩
  · go_enter Try.func19, Try.ntmps19
    go_wp2
    go_ret
    refine ⟨(((j : Int) * 31 + (n : Int) * 7) % 256).toNat, by omega, ret_i (by omega), rfl⟩
theorem bent_byte (x : UInt8) {k : Nat} (_hk : k < 256) : ∃ z : UInt8, z ≠ x ∧ bits .xor .u8 (x.toNat : Int) (IntKind.u8.wrap (IntKind.i64.wrap (1 + (k : Int).tmod 255))) = (z.toNat : Int) := by
  have e0 : IntKind.u8.wrap (IntKind.i64.wrap (1 + (k : Int).tmod 255)) = 1 + (k : Int) % 255 := by
    rw [Int.tmod_eq_emod_of_nonneg (by omega), IntWalk.i64_in _ (by omega), IntWalk.u8_in _ (by omega)]
  rw [e0]
  have e : (1 + (k : Int) % 255) = (((UInt8.ofNat (1 + k % 255)).toNat : Nat) : Int) := by
    rw [UInt8.toNat_ofNat', Nat.mod_eq_of_lt (by omega)]
    omega
  refine ⟨x ^^^ UInt8.ofNat (1 + k % 255), ?_, by rw [e, u8_xor]⟩
  intro h
  have h1 : UInt8.ofNat (1 + k % 255) = 0 := by
    have h2 : x ^^^ (x ^^^ UInt8.ofNat (1 + k % 255)) = x ^^^ x := by rw [h]
    rw [← UInt8.xor_assoc, UInt8.xor_self, UInt8.zero_xor] at h2
    exact h2
  have h3 := congrArg UInt8.toNat h1
  rw [UInt8.toNat_ofNat', Nat.mod_eq_of_lt (by omega)] at h3
  simp at h3
set_option maxRecDepth 1000000 in
set_option maxHeartbeats 4000000 in
/-- a slice with a byte turned -/
theorem laws_bent (a : Option Addr) (n c : Nat) (l : List UInt8) (b : Option Addr) (m d : Nat) (k : List UInt8) (w : World) (h : Rd w a n c (bys l)) (hn : n ≤ 1048576) (hb : Rd w b m d (bys k)) (hm : m ≤ 1048576) :
    Calls Try.prog 11 #[.slice a n c, .slice b m d] w fun e w' => ∃ a' c' k', e = .returned (.slice a' m c') ∧ Ow w.heap.size w' 5 a' m c' (bys k') ∧ (0 < m → k' ≠ k) ∧ w.grownBy w' none := by
  have L := Lib.hid hb.blen
  go_enter Try.func11, Try.ntmps11
  go_wp2_with (first
    | (at_builtin; refine wpList_appB rfl (.tmp 7) (.tmp 8) rfl w.heap.size _ 0 0 [] rfl (new_own _ _) b m d k rfl (hb.keep0 (gb_alloc (gb_refl _) _)) (by have := L.out; simp; omega) (by simp) ?_; intro a2 n2 c2 w2 o2 g2; rw [List.nil_append] at o2; have G2 : w.grownBy w2 none := gb_app (gb_alloc (gb_refl _) _) (new_own w _) (Nat.le_refl _) g2; have e2 := o2.blen.symm.trans L.out; subst e2; clear g2)
    | (go_at_call 19; (with_reducible refine (laws_at a n c l 2 w2 (h.keep0 G2) hn (by decide) (by decide)).mono ?_); rintro e w3 ⟨k1, hk1, rfl, rfl⟩)
    | (go_at_call 19; (with_reducible refine (laws_at a n c l 3 w2 (h.keep0 G2) hn (by decide) (by decide)).mono ?_); rintro e w3 ⟨k2, hk2, rfl, rfl⟩))
  rotate_left
  · go_ret
    exact ⟨_, _, k, rfl, o2, fun h => absurd h (by omega), G2⟩
  obtain ⟨i, hi, hlt⟩ : ∃ i : Nat, ((k1 : Int) * 256 + (k2 : Int)) % (n2 : Int) = (i : Int) ∧ i < n2 :=
    ⟨(((k1 : Int) * 256 + (k2 : Int)) % (n2 : Int)).toNat, by rw [Int.toNat_of_nonneg (Int.emod_nonneg _ (by omega))], by have := Int.emod_lt_of_pos ((k1 : Int) * 256 + (k2 : Int)) (show (0 : Int) < n2 by omega); omega⟩
  rw [hi]
  replace hi := Lib.hid hi
  obtain ⟨g, rfl⟩ := o2.head (by omega)
  obtain ⟨b', off, x, e, hx, hc⟩ := o2.rd.byte i hlt
  cases e
  rw [Nat.zero_add] at hc
  obtain ⟨hf, -⟩ := o2.at i hlt
  have i1 : (0 : Int) ≤ (i : Int) := Int.natCast_nonneg _
  have i2 : (i : Int) < (n2 : Int) := by omega
  go_region_with (go_at_call 19; refine (laws_at a n c l 4 _ ((h.keep0 G2).keep0 (gb_drew (gb_refl _))) hn (by decide) (by decide)).mono ?_; rintro e w4 ⟨k3, hk3, rfl, rfl⟩)
  all_goals go_wp2
  all_goals
    obtain ⟨z, hz, e9⟩ := bent_byte x hk3
    have o3 := o2.set i (.int .u8 (z.toNat : Int))
    rw [bys_set] at o3
    have G3 := gb_set G2 (p := ⟨g, i, none⟩) (.inl (o2.lt _ rfl).1) (.int .u8 (z.toNat : Int))
    have hne : k.set i z ≠ k := by
      intro h9
      have h8 : (k.set i z)[i]? = some z := by rw [List.getElem?_set_self (by have := L.out; omega)]
      rw [h9, hx.out] at h8
      exact hz (Option.some.inj h8).symm
    go_ret
    rw [e9]
    exact ⟨_, _, k.set i z, rfl, o3.drew, fun _ => hne, gb_drew G3⟩
end Go.Proofs.Ytpfchphgbhgmmaa

/-
  Draws of what is sealed. Conditions: none beside those that each theorem names.
-/
namespace Go.Proofs.Ytpfchphgbhgmmaa
open Go.RowKit
def PKi (B cb : Nat) (w : World) (e : Ending) (w' : World) : Prop := ∃ k a n c, e = .returned (.tuple #[.int .i64 k, .slice a n c]) ∧ DE B cb w w' ∧ BR w w' a n c
theorem d_PKi {f : FuncId} {B cb : Nat} {w0 w : World} {bs : List Vb} {L : List Sv} {Q : Ending → World → Prop} {args : Array Value} (D : DS B cb w0 w bs L) (H : Calls Try.prog f args w (PKi B cb w))
    (k : ∀ w' (x : Int) a n c l, DS B cb w0 w' bs (⟨a, n, c, bys l⟩ :: L) → Q (.returned (.tuple #[.int .i64 x, .slice a n c])) w') : Calls Try.prog f args w Q :=
  H.mono fun e w' ⟨x, a, n, c, he, E, h⟩ => by
    subst he
    obtain ⟨l, D1⟩ := D.adB (D.by E) h
    exact k w' x a n c l D1
set_option maxRecDepth 1000000 in
set_option maxHeartbeats 1000000 in
theorem spec_l9Kind (B cb : Nat) (w : World) (h : Cur B w cb) : Calls Try.prog 23 #[.pointer (some ⟨cb, 0, none⟩)] w (PKi B cb w) := by
  have D := DS.start h
  go_enter Try.func23, Try.ntmps23
  go_wp2_with (first | (go_at_call 24; (first | (with_reducible refine d_l1Below D ?_) | (with_reducible refine d_l1Below (D.set0 _ _) ?_) | (with_reducible refine d_l1Below (D.box _ _) ?_) | (with_reducible refine d_l1Below ((D.set0 _ _).set0 _ _) ?_) | (with_reducible refine d_l1Below ((D.box _ _).set0 _ _) ?_)); clear D; intro w1 z hz D; (try clear kc kf); (try simp only [List.setIfInBounds_toArray, List.set_cons_succ, List.set_cons_zero] at D); (try (have kc := fun o => DS.cell0 D o; have kf := fun o => DS.frz0 D o))) | (go_at_call 21; (first | (with_reducible refine d_l1Bytes D ?_ ?_) | (with_reducible refine d_l1Bytes (D.set0 _ _) ?_ ?_) | (with_reducible refine d_l1Bytes (D.box _ _) ?_ ?_) | (with_reducible refine d_l1Bytes ((D.set0 _ _).set0 _ _) ?_ ?_) | (with_reducible refine d_l1Bytes ((D.box _ _).set0 _ _) ?_ ?_)); (focus (first | omega | (have h9 := ofL.le hi (b := 256) (by decide); omega))); clear D; intro w1 a n c l hn D; (try clear kc kf); (try simp only [List.setIfInBounds_toArray, List.set_cons_succ, List.set_cons_zero] at D); (try (have kc := fun o => DS.cell0 D o; have kf := fun o => DS.frz0 D o))) | (go_at_call 22; (first | (with_reducible refine d_l1Int D ?_ ?_ ?_ ?_ ?_ ?_) | (with_reducible refine d_l1Int (D.set0 _ _) ?_ ?_ ?_ ?_ ?_ ?_) | (with_reducible refine d_l1Int (D.box _ _) ?_ ?_ ?_ ?_ ?_ ?_) | (with_reducible refine d_l1Int ((D.set0 _ _).set0 _ _) ?_ ?_ ?_ ?_ ?_ ?_) | (with_reducible refine d_l1Int ((D.box _ _).set0 _ _) ?_ ?_ ?_ ?_ ?_ ?_)); (focus (first | rfl | (simp; done))); (focus (exact rfl)); (focus rfl); (focus decide); (focus decide); clear D; intro w1 x hi D; (try clear kc kf); (try simp only [List.setIfInBounds_toArray, List.set_cons_succ, List.set_cons_zero] at D); (try (have kc := fun o => DS.cell0 D o; have kf := fun o => DS.frz0 D o))))
  all_goals (refine' bodyPost_ret ?_ rfl ?_; rotate_left; (focus (simp [results, Try.results23, go_sem]; rfl)); exact ⟨_, _, _, _, rfl, D.de, D.b0⟩)
def PSe (w : World) (e : Ending) (w' : World) : Prop := ∃ a0 n0 c0 role a2 n2 c2 ep sq kind a6 n6 c6, e = .returned (.tuple #[.slice a0 n0 c0, .int .i64 role, .slice a2 n2 c2, .int .i64 ep, .int .i64 sq, .int .i64 kind, .slice a6 n6 c6]) ∧ BR w w' a0 n0 c0 ∧ BR w w' a2 n2 c2 ∧ BR w w' a6 n6 c6 ∧ w.grownBy w' none
set_option maxRecDepth 1000000 in
set_option maxHeartbeats 4000000 in
theorem spec_DrawSeal (a : Option Addr) (n c : Nat) (l : List UInt8) (w : World) (r : Rd w a n c (bys l)) (hn : n ≤ 1048576) : Calls Try.prog 6 #[.slice a n c] w (PSe w) := by
  have hp : 0 < n → ∀ p, a = some p → p.block < w.heap.size := by
    intro h0 p hp
    obtain ⟨b, off, h1, h2, -⟩ := r.pos h0
    rw [h1] at hp
    cases hp
    exact h2
  go_enter Try.func6, Try.ntmps6
  go_wp2_with (first
    | (go_at_call 20; refine (spec_l1New a n c l w.heap.size _ r hn hp (Nat.le_refl _)).mono ?_; rintro e w1 ⟨cb, rfl, cu, hc, g⟩; have D := DS.init cu g; clear g cu)
    | (go_at_call 23; (with_reducible refine d_PKi D (spec_l9Kind _ cb _ D.cur) ?_); clear D; intro w1 k a n c l D)
    | (go_at_call 24; (first | (with_reducible refine d_l1Below D ?_) | (with_reducible refine d_l1Below (D.set0 _ _) ?_) | (with_reducible refine d_l1Below (D.box _ _) ?_) | (with_reducible refine d_l1Below ((D.set0 _ _).set0 _ _) ?_) | (with_reducible refine d_l1Below ((D.box _ _).set0 _ _) ?_)); clear D; intro w1 z hz D; (try clear kc kf); (try simp only [List.setIfInBounds_toArray, List.set_cons_succ, List.set_cons_zero] at D); (try (have kc := fun o => DS.cell0 D o; have kf := fun o => DS.frz0 D o))) | (go_at_call 21; (first | (with_reducible refine d_l1Bytes D ?_ ?_) | (with_reducible refine d_l1Bytes (D.set0 _ _) ?_ ?_) | (with_reducible refine d_l1Bytes (D.box _ _) ?_ ?_) | (with_reducible refine d_l1Bytes ((D.set0 _ _).set0 _ _) ?_ ?_) | (with_reducible refine d_l1Bytes ((D.box _ _).set0 _ _) ?_ ?_)); (focus (first | omega | (have h9 := ofL.le hi (b := 256) (by decide); omega))); clear D; intro w1 a n c l hn D; (try clear kc kf); (try simp only [List.setIfInBounds_toArray, List.set_cons_succ, List.set_cons_zero] at D); (try (have kc := fun o => DS.cell0 D o; have kf := fun o => DS.frz0 D o))) | (go_at_call 22; (first | (with_reducible refine d_l1Int D ?_ ?_ ?_ ?_ ?_ ?_) | (with_reducible refine d_l1Int (D.set0 _ _) ?_ ?_ ?_ ?_ ?_ ?_) | (with_reducible refine d_l1Int (D.box _ _) ?_ ?_ ?_ ?_ ?_ ?_) | (with_reducible refine d_l1Int ((D.set0 _ _).set0 _ _) ?_ ?_ ?_ ?_ ?_ ?_) | (with_reducible refine d_l1Int ((D.box _ _).set0 _ _) ?_ ?_ ?_ ?_ ?_ ?_)); (focus (first | rfl | (simp; done))); (focus (exact rfl)); (focus rfl); (focus decide); (focus decide); clear D; intro w1 x hi D; (try clear kc kf); (try simp only [List.setIfInBounds_toArray, List.set_cons_succ, List.set_cons_zero] at D); (try (have kc := fun o => DS.cell0 D o; have kf := fun o => DS.frz0 D o))))
  all_goals (refine' bodyPost_ret ?_ rfl ?_; rotate_left; (focus (simp [results, Try.results6, go_sem]; rfl)); exact ⟨_, _, _, _, _, _, _, _, _, _, _, _, _, rfl, by (first | exact BR.nil _ _ | exact D.b0 | exact D.tl.b0 | exact D.tl.tl.b0 | exact D.tl.tl.tl.b0 | exact D.tl.tl.tl.tl.b0 | exact D.tl.tl.tl.tl.tl.b0 | exact D.tl.tl.tl.tl.tl.tl.b0), by (first | exact BR.nil _ _ | exact D.b0 | exact D.tl.b0 | exact D.tl.tl.b0 | exact D.tl.tl.tl.b0 | exact D.tl.tl.tl.tl.b0 | exact D.tl.tl.tl.tl.tl.b0 | exact D.tl.tl.tl.tl.tl.tl.b0), by (first | exact BR.nil _ _ | exact D.b0 | exact D.tl.b0 | exact D.tl.tl.b0 | exact D.tl.tl.tl.b0 | exact D.tl.tl.tl.tl.b0 | exact D.tl.tl.tl.tl.tl.b0 | exact D.tl.tl.tl.tl.tl.tl.b0), D.gb hc⟩)
end Go.Proofs.Ytpfchphgbhgmmaa

/-
  FnSeals returns true for every code. Conditions: none.
-/
namespace Go.Proofs.Ytpfchphgbhgmmaa.lSeals
open Go.ChangeShapes Go.WideShapes Go.ChangeAt Go.RowKit
theorem fr_rds {w : World} {kind id tick epoch seq : Int} {b1 b2 b3 b4 b5 b6 : Option Addr} {m1 d1 m2 d2 m3 d3 m4 d4 m5 d5 m6 d6 : Nat} {f : FrameM} (h : FrameR w (.agg #[.int .i64 kind, .int .i64 id, .slice b1 m1 d1, .slice b2 m2 d2, .int .i64 tick, .slice b3 m3 d3, .slice b4 m4 d4, .int .i64 epoch, .int .i64 seq, .slice b5 m5 d5, .slice b6 m6 d6]) f) :
    Rd w b1 m1 d1 (bys f.cn) ∧ Rd w b2 m2 d2 (bys f.sn) ∧ Rd w b3 m3 d3 (bys f.cookie) ∧ Rd w b4 m4 d4 (bys f.proof) ∧ Rd w b5 m5 d5 (bys f.body) ∧ Rd w b6 m6 d6 (bys f.tag) := by
  obtain ⟨f1, s1, t1, f2, s2, t2, f3, s3, t3, f4, s4, t4, f5, s5, t5, f6, s6, t6, ef, r1, r2, r3, r4, r5, r6⟩ := h
  cases ef
  exact ⟨r1, r2, r3, r4, r5, r6⟩
theorem gb_alloc_l {a b : World} {o : Obj} (h : (a.alloc o).grownBy b none) : a.grownBy b none := gb_trans (gb_alloc (gb_refl a) o) h
set_option maxRecDepth 1000000 in
set_option maxHeartbeats 8000000 in
theorem walk (w : World) (v0 : Value) (h0 : InBytes w v0) : Calls Try.prog 3 #[v0] w fun e w' => e = .returned (.bool true) ∧ Below w.heap.size w w' := by
  obtain ⟨a, n, c, l, rfl, r, hC⟩ := h0
  rcases Nat.lt_or_ge 1048576 n with p | p
  · go_enter Try.func3, Try.ntmps3
    go_wp2_with (go_at_call 5; refine (laws_big a n c _).mono ?_; rw [decide_eq_true p]; rintro e w0 ⟨rfl, rfl⟩)
    go_ret
    exact ⟨rfl, Below.refl _ _⟩
  go_enter Try.func3, Try.ntmps3
  go_wp2_with (first
    | (go_at_call 5; refine (laws_big a n c _).mono ?_; rw [decide_eq_false (by omega)]; rintro e w0 ⟨rfl, rfl⟩) | (go_at_call 6; refine (spec_DrawSeal a n c l _ r p).mono ?_; rintro e w1 ⟨a0, n0, c0, role, a2, n2, c2, ep, sq, kd, a6, n6, c6, rfl, ⟨l0, r0, -, s0⟩, ⟨l2, r2, -, s2⟩, ⟨l6, r6, -, s6⟩, G⟩; replace r := r.keep0 G; have e2 := Lib.hid r2.blen; have e6 := Lib.hid r6.blen))
  cases hok : sealB l0 role l2 ep sq kd l6
  · have hF := Lib.hid (show sealM l0 role l2 ep sq kd l6 = zeroF by rw [sealM, if_neg (by rw [hok]; decide)])
    replace hok := Lib.hid hok
    refine (impl_Seal a0 n0 c0 l0 role a2 n2 c2 l2 ep sq kd a6 n6 c6 l6 w1 r0 r2 r6 (by have := e2.out; omega) (by have := e6.out; omega)).mono ?_
    rw [hok.out, hF.out]
    rintro e w2 ⟨v2, rfl, o2, g2⟩
    have R2 := o2.r
    obtain ⟨b1, m1, d1, b2, m2, d2, b3, m3, d3, b4, m4, d4, b5, m5, d5, b6, m6, d6, rfl⟩ := o2.r.shape
    simp only [zeroF] at R2 ⊢
    clear o2
    have gA := gb_trans g2 (gb_alloc (gb_refl w2) (.cells #[.int .i64 0, .int .i64 0, .slice b1 m1 d1, .slice b2 m2 d2, .int .i64 0, .slice b3 m3 d3, .slice b4 m4 d4, .int .i64 0, .int .i64 0, .slice b5 m5 d5, .slice b6 m6 d6] 27))
    have Bz := Bx.new w2 27 #[.int .i64 0, .int .i64 0, .slice b1 m1 d1, .slice b2 m2 d2, .int .i64 0, .slice b3 m3 d3, .slice b4 m4 d4, .int .i64 0, .int .i64 0, .slice b5 m5 d5, .slice b6 m6 d6]
    replace R2 := R2.keep0 (gb_alloc (gb_refl w2) (.cells #[.int .i64 0, .int .i64 0, .slice b1 m1 d1, .slice b2 m2 d2, .int .i64 0, .slice b3 m3 d3, .slice b4 m4 d4, .int .i64 0, .int .i64 0, .slice b5 m5 d5, .slice b6 m6 d6] 27))
    go_wp2_with (first
      | (go_at_call 8; refine (spec_Seal a0 n0 c0 l0 role a2 n2 c2 l2 ep sq kd a6 n6 c6 l6 _ (r0.keep0 gA) (r2.keep0 gA) (r6.keep0 gA) (by have := e2.out; omega) (by have := e6.out; omega)).mono ?_; rw [hok.out, hF.out]; rintro e w3 ⟨v3, rfl, o3, g3⟩; obtain ⟨x1, y1, z1, x2, y2, z2, x3, y3, z3, x4, y4, z4, x5, y5, z5, x6, y6, z6, rfl⟩ := o3.r.shape; clear o3; have B10 := Bz.keep0 g3; have k10 := fun o => B10.cell o; have l10 := B10.lt; (try simp only [zeroF, sealF]))
      | (go_at_call 9; refine (laws_sameFrame_t _ _ zeroF _ ((R2.keep0 g3).keep0 (gb_alloc (gb_refl _) _)) (frameO_zero 0 0 _).r).mono ?_; rintro e w9 ⟨rfl, g9⟩))
    go_ret
    exact ⟨rfl, gb_below (gb_trans G (gb_trans (gb_trans gA g3) (gb_alloc_l g9)))⟩
  · obtain ⟨M, T, K⟩ := sealOk hok
    have hF := Lib.hid K.eq
    replace hok := Lib.hid hok
    refine (impl_Seal a0 n0 c0 l0 role a2 n2 c2 l2 ep sq kd a6 n6 c6 l6 w1 r0 r2 r6 (by have := e2.out; omega) (by have := e6.out; omega)).mono ?_
    rw [hok.out, hF.out]
    rintro e w2 ⟨v2, rfl, o2, g2⟩
    have R2 := o2.r
    obtain ⟨b1, m1, d1, b2, m2, d2, b3, m3, d3, b4, m4, d4, b5, m5, d5, b6, m6, d6, rfl⟩ := o2.r.shape
    simp only [sealF] at R2 ⊢
    clear o2
    have Bz := Bx.new w2 27 #[.int .i64 kd, .int .i64 0, .slice b1 m1 d1, .slice b2 m2 d2, .int .i64 0, .slice b3 m3 d3, .slice b4 m4 d4, .int .i64 ep, .int .i64 sq, .slice b5 m5 d5, .slice b6 m6 d6]
    have gN := gb_alloc (gb_refl w2) (.cells #[.int .i64 kd, .int .i64 0, .slice b1 m1 d1, .slice b2 m2 d2, .int .i64 0, .slice b3 m3 d3, .slice b4 m4 d4, .int .i64 ep, .int .i64 sq, .slice b5 m5 d5, .slice b6 m6 d6] 27)
    have gA := gb_trans g2 gN
    replace R2 : FrameR _ _ (sealF kd l2 ep sq M T) := R2.keep0 gN
    have hu := K.unseal
    have hu1 := Lib.hid hu.1
    have hu2 := Lib.hid hu.2
    have hok2 := Lib.hid K.ok
    have hT := Lib.hid K.hT
    have htl := Lib.hid K.tl
    have hkl := Lib.hid K.kl
    have hbent := Lib.hid (show ∀ T' : List UInt8, T'.length = T.length → T' ≠ T → unsealB l0 role (sealF kd l2 ep sq M T') = false from fun T' h1 h2 => K.bent h1 h2)
    have hpl := K.pl
    clear hu K gN
    go_wp2_with (first | (go_at_call 8; refine (spec_Seal a0 n0 c0 l0 role a2 n2 c2 l2 ep sq kd a6 n6 c6 l6 _ (r0.keep0 gA) (r2.keep0 gA) (r6.keep0 gA) (by have := e2.out; omega) (by have := e6.out; omega)).mono ?_; rw [hok.out, hF.out]; rintro e w3 ⟨v3, rfl, o3, g3⟩; obtain ⟨x1, y1, z1, x2, y2, z2, x3, y3, z3, x4, y4, z4, x5, y5, z5, x6, y6, z6, rfl⟩ := o3.r.shape; clear o3; have B10 := Bz.keep0 g3; have k10 := fun o => B10.cell o; have l10 := B10.lt; (try simp only [zeroF, sealF])))
    refine (impl_Unseal a0 n0 c0 l0 role _ (sealF kd l2 ep sq M T) _ (r0.keep0 (gb_alloc (gb_trans gA g3) _)) ((R2.keep0 g3).keep0 (gb_alloc (gb_refl _) _))).mono ?_
    rw [hu1.out, hu2.out]
    rintro e w5 ⟨a7, n7, c7, rfl, o7, g5⟩
    have gC := gb_trans (gb_alloc (gb_trans gA g3) _) g5
    replace R2 := ((R2.keep0 g3).keep0 (gb_alloc (gb_refl _) _)).keep0 g5
    have r7 := o7.rd
    have BA := (B10.old _).keep0 g5
    clear k10 l10 B10 o7
    have k10 := fun o => BA.cell o
    have l10 := BA.lt
    obtain ⟨rb1, rb2, rb3, rb4, rb5, rb6⟩ := fr_rds R2
    simp only [sealF] at rb1 rb2 rb3 rb4 rb5 rb6
    obtain rfl : m6 = 16 := rb6.blen.symm.trans htl.out
    go_wp2_with fail
    have gE := gb_alloc (gb_refl w5) (.cells #[.int .i64 kd, .int .i64 0, .slice b1 m1 d1, .slice b2 m2 d2, .int .i64 0, .slice b3 m3 d3, .slice b4 m4 d4, .int .i64 ep, .int .i64 sq, .slice b5 m5 d5, .slice b6 16 d6] 27)
    refine (laws_bent a n c l b6 16 d6 T _ (r.keep0 (gb_trans gC gE)) p (rb6.keep0 gE) (by decide)).mono ?_
    rintro e w6 ⟨a8, c8, T', rfl, o8, hne, g6⟩
    have B16 := (Bx.new w5 27 #[.int .i64 kd, .int .i64 0, .slice b1 m1 d1, .slice b2 m2 d2, .int .i64 0, .slice b3 m3 d3, .slice b4 m4 d4, .int .i64 ep, .int .i64 sq, .slice b5 m5 d5, .slice b6 16 d6]).keep0 g6
    have k16 := fun o => B16.cell o
    have f16 := fun o => B16.frozen o
    have gF := gb_trans gE g6
    have hu3 := Lib.hid (hbent.out T' (by rw [o8.blen, htl.out]) (hne (by decide)))
    go_wp2_with fail
    have gS := gb_set gF (p := ⟨w5.heap.size, 10, none⟩) (.inl (Nat.le_refl _)) (.slice a8 16 c8)
    have r8 := (o8.keepSet (q := ⟨w5.heap.size, 10, none⟩) (by simp) (.slice a8 16 c8)).rd
    obtain ⟨wS, hwS⟩ : ∃ wS, wS = w6.setCell ⟨w5.heap.size, 10, none⟩ (.slice a8 16 c8) := ⟨_, rfl⟩
    rw [← hwS] at gS r8 ⊢
    clear k10 k16 f16 B16 o8 hwS
    refine (impl_Unseal a0 n0 c0 l0 role _ (sealF kd l2 ep sq M T') wS (r0.keep0 (gb_trans gC gS)) ⟨_, _, _, _, _, _, _, _, _, _, _, _, _, _, _, _, _, _, rfl, rb1.keep0 gS, rb2.keep0 gS, rb3.keep0 gS, rb4.keep0 gS, rb5.keep0 gS, r8⟩).mono ?_
    rw [hu3.out]
    rintro e w7 ⟨a9, n9, c9, rfl, o9, g7⟩
    have gT := gb_trans gS g7
    have BB' := BA.keep0 gT
    have RF : FrameR w7 (.agg #[.int .i64 kd, .int .i64 0, .slice b1 m1 d1, .slice b2 m2 d2, .int .i64 0, .slice b3 m3 d3, .slice b4 m4 d4, .int .i64 ep, .int .i64 sq, .slice b5 m5 d5, .slice b6 16 d6]) (sealF kd l2 ep sq M T) := ⟨_, _, _, _, _, _, _, _, _, _, _, _, _, _, _, _, _, _, rfl, rb1.keep0 gT, rb2.keep0 gT, rb3.keep0 gT, rb4.keep0 gT, rb5.keep0 gT, rb6.keep0 gT⟩
    replace r7 := r7.keep0 gT
    replace r0 := r0.keep0 (gb_trans gC gT)
    replace r2 := r2.keep0 (gb_trans gC gT)
    replace r6 := r6.keep0 (gb_trans gC gT)
    replace rb2 := rb2.keep0 gT
    replace rb6 := rb6.keep0 gT
    replace G := gb_trans G (gb_trans gC gT)
    clear rb1 rb3 rb4 rb5 r8 gS gF gE gC gA g7 o9 l10 BA
    obtain rfl : n0 = 32 := r0.blen.symm.trans hkl.out
    go_wp2
    have KX : Hid (∀ w', w7.grownBy w' none → (w'.cell? ⟨w2.heap.size, 0, none⟩ = some (.int .i64 kd) ∧ w'.cell? ⟨w2.heap.size, 1, none⟩ = some (.int .i64 0) ∧ w'.cell? ⟨w2.heap.size, 2, none⟩ = some (.slice b1 m1 d1) ∧ w'.cell? ⟨w2.heap.size, 3, none⟩ = some (.slice b2 m2 d2) ∧ w'.cell? ⟨w2.heap.size, 4, none⟩ = some (.int .i64 0) ∧ w'.cell? ⟨w2.heap.size, 5, none⟩ = some (.slice b3 m3 d3) ∧ w'.cell? ⟨w2.heap.size, 6, none⟩ = some (.slice b4 m4 d4) ∧ w'.cell? ⟨w2.heap.size, 7, none⟩ = some (.int .i64 ep) ∧ w'.cell? ⟨w2.heap.size, 8, none⟩ = some (.int .i64 sq) ∧ w'.cell? ⟨w2.heap.size, 9, none⟩ = some (.slice b5 m5 d5) ∧ w'.cell? ⟨w2.heap.size, 10, none⟩ = some (.slice b6 16 d6) ∧ w7.grownBy w' none)) := fun w' hg => ⟨(BB'.keep0 hg).cell 0, (BB'.keep0 hg).cell 1, (BB'.keep0 hg).cell 2, (BB'.keep0 hg).cell 3, (BB'.keep0 hg).cell 4, (BB'.keep0 hg).cell 5, (BB'.keep0 hg).cell 6, (BB'.keep0 hg).cell 7, (BB'.keep0 hg).cell 8, (BB'.keep0 hg).cell 9, (BB'.keep0 hg).cell 10, hg⟩
    refine wp_region_held_drew (S := (fun w' => w'.cell? ⟨w2.heap.size, 0, none⟩ = some (.int .i64 kd) ∧ w'.cell? ⟨w2.heap.size, 1, none⟩ = some (.int .i64 0) ∧ w'.cell? ⟨w2.heap.size, 2, none⟩ = some (.slice b1 m1 d1) ∧ w'.cell? ⟨w2.heap.size, 3, none⟩ = some (.slice b2 m2 d2) ∧ w'.cell? ⟨w2.heap.size, 4, none⟩ = some (.int .i64 0) ∧ w'.cell? ⟨w2.heap.size, 5, none⟩ = some (.slice b3 m3 d3) ∧ w'.cell? ⟨w2.heap.size, 6, none⟩ = some (.slice b4 m4 d4) ∧ w'.cell? ⟨w2.heap.size, 7, none⟩ = some (.int .i64 ep) ∧ w'.cell? ⟨w2.heap.size, 8, none⟩ = some (.int .i64 sq) ∧ w'.cell? ⟨w2.heap.size, 9, none⟩ = some (.slice b5 m5 d5) ∧ w'.cell? ⟨w2.heap.size, 10, none⟩ = some (.slice b6 16 d6) ∧ w7.grownBy w' none)) (by kernel_rfl) ?_ (fun hHeld => ?_)
    · (try dsimp only)
      (refine KX.out _ ?_; (repeat (first | with_reducible exact gb_refl _ | with_reducible refine gb_alloc ?_ _ | with_reducible refine gb_drewN ?_ _ | with_reducible refine gb_drew ?_)))
    refine wpAnyH_takeD (i := 0) (some 81) (v := ?_) rfl rfl (by kernel_rfl) (by kernel_rfl) (by kernel_rfl) (fun _ _ _ h => h) (Or.inl ⟨by rfl, ?_⟩) (by assumption) ?_
    rotate_left
    (focus (intro w hSw; (try dsimp only at hSw); (first | (go_simp; done) | (go_simp; with_reducible rfl) | with_reducible rfl)))
    (try simp only [Act.put]); (try simp only [List.setIfInBounds_toArray]); (try simp only [List.set_cons_succ]); (try simp only [List.set_cons_zero])
    refine wpAnyH_ready (rs := [1]) (by kernel_rfl) (by simp) (AllReadyH.cons rfl (fun K hK => ?_) AllReadyH.nil)
    go_simp
    (go_at_call 12; refine (impl_FrameOk _ (sealF kd l2 ep sq M T) _ (RF.keep0 (by (repeat (first | with_reducible exact gb_refl _ | with_reducible refine gb_alloc ?_ _ | with_reducible refine gb_drewN ?_ _ | with_reducible refine gb_drew ?_))))).mono ?_; rw [hok2.out]; rintro e w8 ⟨rfl, g8⟩; skip)
    go_wp2_with fail
    refine hK.out _ _ ?_ (fun hHeld2 => ?_)
    · (try dsimp only)
      (refine KX.out _ ?_; (repeat (first | with_reducible exact gb_refl _ | with_reducible refine gb_alloc ?_ _ | with_reducible refine gb_drewN ?_ _ | with_reducible refine gb_drew ?_ | with_reducible refine gb_trans ?_ g8)))
    clear hK K hHeld
    have hHeld := hHeld2
    clear hHeld2
    (try simp only [Act.put]); (try simp only [List.setIfInBounds_toArray]); (try simp only [List.set_cons_succ]); (try simp only [List.set_cons_zero])
    refine wpAnyH_takeD (i := 2) (some 83) (v := ?_) rfl rfl (by kernel_rfl) (by kernel_rfl) (by kernel_rfl) (fun _ _ _ h => h) (Or.inl ⟨by rfl, ?_⟩) (by assumption) ?_
    rotate_left
    (focus (intro w hSw; (try dsimp only at hSw); (first | (go_simp; done) | (go_simp; with_reducible rfl) | with_reducible rfl)))
    (try simp only [Act.put]); (try simp only [List.setIfInBounds_toArray]); (try simp only [List.set_cons_succ]); (try simp only [List.set_cons_zero])
    refine wpAnyH_takeD (i := 3) (some 84) (v := ?_) rfl rfl (by kernel_rfl) (by kernel_rfl) (by kernel_rfl) (fun _ _ _ h => h) (Or.inl ⟨by rfl, ?_⟩) (by assumption) ?_
    rotate_left
    (focus (intro w hSw; (try dsimp only at hSw); (first | (go_simp; done) | (go_simp; with_reducible rfl) | with_reducible rfl)))
    (try simp only [Act.put]); (try simp only [List.setIfInBounds_toArray]); (try simp only [List.set_cons_succ]); (try simp only [List.set_cons_zero])
    refine wpAnyH_takeD (i := 4) (some 85) (v := ?_) rfl rfl (by kernel_rfl) (by kernel_rfl) (by kernel_rfl) (fun _ _ _ h => h) (Or.inl ⟨by rfl, ?_⟩) (by assumption) ?_
    rotate_left
    (focus (intro w hSw; (try dsimp only at hSw); (first | (go_simp; done) | (go_simp; with_reducible rfl) | with_reducible rfl)))
    (try simp only [Act.put]); (try simp only [List.setIfInBounds_toArray]); (try simp only [List.set_cons_succ]); (try simp only [List.set_cons_zero])
    refine wpAnyH_takeD (i := 5) (some 86) (v := ?_) rfl rfl (by kernel_rfl) (by kernel_rfl) (by kernel_rfl) (fun _ _ _ h => h) (Or.inl ⟨by rfl, ?_⟩) (by assumption) ?_
    rotate_left
    (focus (intro w hSw; (try dsimp only at hSw); (first | (go_simp; done) | (go_simp; with_reducible rfl) | with_reducible rfl)))
    (try simp only [Act.put]); (try simp only [List.setIfInBounds_toArray]); (try simp only [List.set_cons_succ]); (try simp only [List.set_cons_zero])
    refine wpAnyH_takeD (i := 6) (some 87) (v := ?_) rfl rfl (by kernel_rfl) (by kernel_rfl) (by kernel_rfl) (fun _ _ _ h => h) (Or.inl ⟨by rfl, ?_⟩) (by assumption) ?_
    rotate_left
    (focus (intro w hSw; (try dsimp only at hSw); (first | (go_simp; done) | (go_simp; with_reducible rfl) | with_reducible rfl)))
    (try simp only [Act.put]); (try simp only [List.setIfInBounds_toArray]); (try simp only [List.set_cons_succ]); (try simp only [List.set_cons_zero])
    refine wpAnyH_takeD (i := 7) (some 88) (v := ?_) rfl rfl (by kernel_rfl) (by kernel_rfl) (by kernel_rfl) (fun _ _ _ h => h) (Or.inl ⟨by rfl, ?_⟩) (by assumption) ?_
    rotate_left
    (focus (intro w hSw; (try dsimp only at hSw); (first | (go_simp; done) | (go_simp; with_reducible rfl) | with_reducible rfl)))
    (try simp only [Act.put]); (try simp only [List.setIfInBounds_toArray]); (try simp only [List.set_cons_succ]); (try simp only [List.set_cons_zero])
    refine wpAnyH_ready (rs := [8]) (by kernel_rfl) (by simp) (AllReadyH.cons rfl (fun K hK => ?_) AllReadyH.nil)
    go_simp
    (go_at_call 13; refine (laws_same_t _ _ _ _ _ _ l6 _ (r7.keep0 (by (repeat (first | with_reducible exact gb_refl _ | with_reducible refine gb_alloc ?_ _ | with_reducible refine gb_drewN ?_ _ | with_reducible refine gb_drew ?_ | with_reducible refine gb_trans ?_ g8)))) (r6.keep0 (by (repeat (first | with_reducible exact gb_refl _ | with_reducible refine gb_alloc ?_ _ | with_reducible refine gb_drewN ?_ _ | with_reducible refine gb_drew ?_ | with_reducible refine gb_trans ?_ g8))))).mono ?_; rintro e w' ⟨rfl, rfl⟩; skip)
    go_wp2_with fail
    refine hK.out _ _ ?_ (fun hHeld2 => ?_)
    · (try dsimp only)
      (refine KX.out _ ?_; (repeat (first | with_reducible exact gb_refl _ | with_reducible refine gb_alloc ?_ _ | with_reducible refine gb_drewN ?_ _ | with_reducible refine gb_drew ?_ | with_reducible refine gb_trans ?_ g8)))
    clear hK K hHeld
    have hHeld := hHeld2
    clear hHeld2
    (try simp only [Act.put]); (try simp only [List.setIfInBounds_toArray]); (try simp only [List.set_cons_succ]); (try simp only [List.set_cons_zero])
    refine wpAnyH_takeD (i := 9) (some 90) (v := ?_) rfl rfl (by kernel_rfl) (by kernel_rfl) (by kernel_rfl) (fun _ _ _ h => h) (Or.inl ⟨by rfl, ?_⟩) (by assumption) ?_
    rotate_left
    (focus (intro w hSw; (try dsimp only at hSw); (first | (go_simp; done) | (go_simp; with_reducible rfl) | with_reducible rfl)))
    (try simp only [Act.put]); (try simp only [List.setIfInBounds_toArray]); (try simp only [List.set_cons_succ]); (try simp only [List.set_cons_zero])
    refine wpAnyH_takeD (i := 10) (some 91) (v := ?_) rfl rfl (by kernel_rfl) (by kernel_rfl) (by kernel_rfl) (fun _ _ _ h => h) (Or.inl ⟨by rfl, ?_⟩) (by assumption) ?_
    rotate_left
    (focus (intro w hSw; (try dsimp only at hSw); (first | (go_simp; done) | (go_simp; with_reducible rfl) | with_reducible rfl)))
    (try simp only [Act.put]); (try simp only [List.setIfInBounds_toArray]); (try simp only [List.set_cons_succ]); (try simp only [List.set_cons_zero])
    refine wpAnyH_takeD (i := 11) (some 92) (v := ?_) rfl rfl (by kernel_rfl) (by kernel_rfl) (by kernel_rfl) (fun _ _ _ h => h) (Or.inl ⟨by rfl, ?_⟩) (by assumption) ?_
    rotate_left
    (focus (intro w hSw; (try dsimp only at hSw); (first | (go_simp; done) | (go_simp; with_reducible rfl) | with_reducible rfl)))
    (try simp only [Act.put]); (try simp only [List.setIfInBounds_toArray]); (try simp only [List.set_cons_succ]); (try simp only [List.set_cons_zero])
    refine wpAnyH_takeD (i := 12) (some 93) (v := ?_) rfl rfl (by kernel_rfl) (by kernel_rfl) (by kernel_rfl) (fun _ _ _ h => h) (Or.inl ⟨by rfl, ?_⟩) (by assumption) ?_
    rotate_left
    (focus (intro w hSw; (try dsimp only at hSw); (first | (go_simp; done) | (go_simp; with_reducible rfl) | with_reducible rfl)))
    (try simp only [Act.put]); (try simp only [List.setIfInBounds_toArray]); (try simp only [List.set_cons_succ]); (try simp only [List.set_cons_zero])
    refine wpAnyH_takeD (i := 13) (some 94) (v := ?_) rfl rfl (by kernel_rfl) (by kernel_rfl) (by kernel_rfl) (fun _ _ _ h => h) (Or.inl ⟨by rfl, ?_⟩) (by assumption) ?_
    rotate_left
    (focus (intro w hSw; (try dsimp only at hSw); (first | (go_simp; done) | (go_simp; with_reducible rfl) | with_reducible rfl)))
    (try simp only [Act.put]); (try simp only [List.setIfInBounds_toArray]); (try simp only [List.set_cons_succ]); (try simp only [List.set_cons_zero])
    refine wpAnyH_takeD (i := 14) (some 95) (v := ?_) rfl rfl (by kernel_rfl) (by kernel_rfl) (by kernel_rfl) (fun _ _ _ h => h) (Or.inl ⟨by rfl, ?_⟩) (by assumption) ?_
    rotate_left
    (focus (intro w hSw; (try dsimp only at hSw); (first | (go_simp; done) | (go_simp; with_reducible rfl) | with_reducible rfl)))
    (try simp only [Act.put]); (try simp only [List.setIfInBounds_toArray]); (try simp only [List.set_cons_succ]); (try simp only [List.set_cons_zero])
    refine wpAnyH_takeD (i := 15) (some 96) (v := ?_) rfl rfl (by kernel_rfl) (by kernel_rfl) (by kernel_rfl) (fun _ _ _ h => h) (Or.inl ⟨by rfl, ?_⟩) (by assumption) ?_
    rotate_left
    (focus (intro w hSw; (try dsimp only at hSw); (first | (go_simp; done) | (go_simp; with_reducible rfl) | with_reducible rfl)))
    (try simp only [Act.put]); (try simp only [List.setIfInBounds_toArray]); (try simp only [List.set_cons_succ]); (try simp only [List.set_cons_zero])
    refine wpAnyH_takeD (i := 16) (some 97) (v := ?_) rfl rfl (by kernel_rfl) (by kernel_rfl) (by kernel_rfl) (fun _ _ _ h => h) (Or.inl ⟨by rfl, ?_⟩) (by assumption) ?_
    rotate_left
    (focus (intro w hSw; (try dsimp only at hSw); (first | (go_simp; done) | (go_simp; with_reducible rfl) | with_reducible rfl)))
    (try simp only [Act.put]); (try simp only [List.setIfInBounds_toArray]); (try simp only [List.set_cons_succ]); (try simp only [List.set_cons_zero])
    refine wpAnyH_takeD (i := 17) (some 98) (v := ?_) rfl rfl (by kernel_rfl) (by kernel_rfl) (by kernel_rfl) (fun _ _ _ h => h) (Or.inl ⟨by rfl, ?_⟩) (by assumption) ?_
    rotate_left
    (focus (intro w hSw; (try dsimp only at hSw); (first | (go_simp; done) | (go_simp; with_reducible rfl) | with_reducible rfl)))
    (try simp only [Act.put]); (try simp only [List.setIfInBounds_toArray]); (try simp only [List.set_cons_succ]); (try simp only [List.set_cons_zero])
    refine wpAnyH_takeD (i := 18) (some 99) (v := ?_) rfl rfl (by kernel_rfl) (by kernel_rfl) (by kernel_rfl) (fun _ _ _ h => h) (Or.inl ⟨by rfl, ?_⟩) (by assumption) ?_
    rotate_left
    (focus (intro w hSw; (try dsimp only at hSw); (first | (go_simp; done) | (go_simp; with_reducible rfl) | with_reducible rfl)))
    (try simp only [Act.put]); (try simp only [List.setIfInBounds_toArray]); (try simp only [List.set_cons_succ]); (try simp only [List.set_cons_zero])
    refine wpAnyH_takeD (i := 19) (some 100) (v := ?_) rfl rfl (by kernel_rfl) (by kernel_rfl) (by kernel_rfl) (fun _ _ _ h => h) (Or.inl ⟨by rfl, ?_⟩) (by assumption) ?_
    rotate_left
    (focus (intro w hSw; (try dsimp only at hSw); (first | (go_simp; done) | (go_simp; with_reducible rfl) | with_reducible rfl)))
    (try simp only [Act.put]); (try simp only [List.setIfInBounds_toArray]); (try simp only [List.set_cons_succ]); (try simp only [List.set_cons_zero])
    refine wpAnyH_takeD (i := 20) (some 101) (v := ?_) rfl rfl (by kernel_rfl) (by kernel_rfl) (by kernel_rfl) (fun _ _ _ h => h) (Or.inl ⟨by rfl, ?_⟩) (by assumption) ?_
    rotate_left
    (focus (intro w hSw; (try dsimp only at hSw); (first | (go_simp; done) | (go_simp; with_reducible rfl) | with_reducible rfl)))
    (try simp only [Act.put]); (try simp only [List.setIfInBounds_toArray]); (try simp only [List.set_cons_succ]); (try simp only [List.set_cons_zero])
    refine wpAnyH_takeD (i := 21) (some 102) (v := ?_) rfl rfl (by kernel_rfl) (by kernel_rfl) (by kernel_rfl) (fun _ _ _ h => h) (Or.inl ⟨by rfl, ?_⟩) (by assumption) ?_
    rotate_left
    (focus (intro w hSw; (try dsimp only at hSw); (first | (go_simp; done) | (go_simp; with_reducible rfl) | with_reducible rfl)))
    (try simp only [Act.put]); (try simp only [List.setIfInBounds_toArray]); (try simp only [List.set_cons_succ]); (try simp only [List.set_cons_zero])
    refine wpAnyH_takeD (i := 22) (some 103) (v := ?_) rfl rfl (by kernel_rfl) (by kernel_rfl) (by kernel_rfl) (fun _ _ _ h => h) (Or.inl ⟨by rfl, ?_⟩) (by assumption) ?_
    rotate_left
    (focus (intro w hSw; (try dsimp only at hSw); (first | (go_simp; done) | (go_simp; with_reducible rfl) | with_reducible rfl)))
    (try simp only [Act.put]); (try simp only [List.setIfInBounds_toArray]); (try simp only [List.set_cons_succ]); (try simp only [List.set_cons_zero])
    refine wpAnyH_takeD (i := 23) (some 104) (v := ?_) rfl rfl (by kernel_rfl) (by kernel_rfl) (by kernel_rfl) (fun _ _ _ h => h) (Or.inl ⟨by rfl, ?_⟩) (by assumption) ?_
    rotate_left
    (focus (intro w hSw; (try dsimp only at hSw); (first | (go_simp; done) | (go_simp; with_reducible rfl) | with_reducible rfl)))
    (try simp only [Act.put]); (try simp only [List.setIfInBounds_toArray]); (try simp only [List.set_cons_succ]); (try simp only [List.set_cons_zero])
    refine wpAnyH_takeD (i := 24) (some 105) (v := ?_) rfl rfl (by kernel_rfl) (by kernel_rfl) (by kernel_rfl) (fun _ _ _ h => h) (Or.inl ⟨by rfl, ?_⟩) (by assumption) ?_
    rotate_left
    (focus (intro w hSw; (try dsimp only at hSw); (first | (go_simp; done) | (go_simp; with_reducible rfl) | with_reducible rfl)))
    (try simp only [Act.put]); (try simp only [List.setIfInBounds_toArray]); (try simp only [List.set_cons_succ]); (try simp only [List.set_cons_zero])
    refine wpAnyH_takeD (i := 25) (some 106) (v := ?_) rfl rfl (by kernel_rfl) (by kernel_rfl) (by kernel_rfl) (fun _ _ _ h => h) (Or.inl ⟨by rfl, ?_⟩) (by assumption) ?_
    rotate_left
    (focus (intro w hSw; (try dsimp only at hSw); (first | (go_simp; done) | (go_simp; with_reducible rfl) | with_reducible rfl)))
    (try simp only [Act.put]); (try simp only [List.setIfInBounds_toArray]); (try simp only [List.set_cons_succ]); (try simp only [List.set_cons_zero])
    refine wpAnyH_takeD (i := 26) (some 107) (v := ?_) rfl rfl (by kernel_rfl) (by kernel_rfl) (by kernel_rfl) (fun _ _ _ h => h) (Or.inl ⟨by rfl, ?_⟩) (by assumption) ?_
    rotate_left
    (focus (intro w hSw; (try dsimp only at hSw); (first | (go_simp; done) | (go_simp; with_reducible rfl) | with_reducible rfl)))
    (try simp only [Act.put]); (try simp only [List.setIfInBounds_toArray]); (try simp only [List.set_cons_succ]); (try simp only [List.set_cons_zero])
    refine wpAnyH_takeD (i := 27) (some 108) (v := ?_) rfl rfl (by kernel_rfl) (by kernel_rfl) (by kernel_rfl) (fun _ _ _ h => h) (Or.inl ⟨by rfl, ?_⟩) (by assumption) ?_
    rotate_left
    (focus (intro w hSw; (try dsimp only at hSw); (first | (go_simp; done) | (go_simp; with_reducible rfl) | with_reducible rfl)))
    (try simp only [Act.put]); (try simp only [List.setIfInBounds_toArray]); (try simp only [List.set_cons_succ]); (try simp only [List.set_cons_zero])
    refine wpAnyH_takeD (i := 28) (some 109) (v := ?_) rfl rfl (by kernel_rfl) (by kernel_rfl) (by kernel_rfl) (fun _ _ _ h => h) (Or.inl ⟨by rfl, ?_⟩) (by assumption) ?_
    rotate_left
    (focus (intro w hSw; (try dsimp only at hSw); (first | (go_simp; done) | (go_simp; with_reducible rfl) | with_reducible rfl)))
    (try simp only [Act.put]); (try simp only [List.setIfInBounds_toArray]); (try simp only [List.set_cons_succ]); (try simp only [List.set_cons_zero])
    refine wpAnyH_takeD (i := 29) (some 110) (v := ?_) rfl rfl (by kernel_rfl) (by kernel_rfl) (by kernel_rfl) (fun _ _ _ h => h) (Or.inl ⟨by rfl, ?_⟩) (by assumption) ?_
    rotate_left
    (focus (intro w hSw; (try dsimp only at hSw); (first | (go_simp; done) | (go_simp; with_reducible rfl) | with_reducible rfl)))
    (try simp only [Act.put]); (try simp only [List.setIfInBounds_toArray]); (try simp only [List.set_cons_succ]); (try simp only [List.set_cons_zero])
    refine wpAnyH_takeD (i := 30) (some 111) (v := ?_) rfl rfl (by kernel_rfl) (by kernel_rfl) (by kernel_rfl) (fun _ _ _ h => h) (Or.inl ⟨by rfl, ?_⟩) (by assumption) ?_
    rotate_left
    (focus (intro w hSw; (try dsimp only at hSw); (first | (go_simp; done) | (go_simp; with_reducible rfl) | with_reducible rfl)))
    (try simp only [Act.put]); (try simp only [List.setIfInBounds_toArray]); (try simp only [List.set_cons_succ]); (try simp only [List.set_cons_zero])
    refine wpAnyH_takeD (i := 31) (some 112) (v := ?_) rfl rfl (by kernel_rfl) (by kernel_rfl) (by kernel_rfl) (fun _ _ _ h => h) (Or.inl ⟨by rfl, ?_⟩) (by assumption) ?_
    rotate_left
    (focus (intro w hSw; (try dsimp only at hSw); (first | (go_simp; done) | (go_simp; with_reducible rfl) | with_reducible rfl)))
    (try simp only [Act.put]); (try simp only [List.setIfInBounds_toArray]); (try simp only [List.set_cons_succ]); (try simp only [List.set_cons_zero])
    refine wpAnyH_takeD (i := 32) (some 113) (v := ?_) rfl rfl (by kernel_rfl) (by kernel_rfl) (by kernel_rfl) (fun _ _ _ h => h) (Or.inl ⟨by rfl, ?_⟩) (by assumption) ?_
    rotate_left
    (focus (intro w hSw; (try dsimp only at hSw); (first | (go_simp; done) | (go_simp; with_reducible rfl) | with_reducible rfl)))
    (try simp only [Act.put]); (try simp only [List.setIfInBounds_toArray]); (try simp only [List.set_cons_succ]); (try simp only [List.set_cons_zero])
    refine wpAnyH_takeD (i := 33) (some 114) (v := ?_) rfl rfl (by kernel_rfl) (by kernel_rfl) (by kernel_rfl) (fun _ _ _ h => h) (Or.inl ⟨by rfl, ?_⟩) (by assumption) ?_
    rotate_left
    (focus (intro w hSw; (try dsimp only at hSw); (first | (go_simp; done) | (go_simp; with_reducible rfl) | with_reducible rfl)))
    (try simp only [Act.put]); (try simp only [List.setIfInBounds_toArray]); (try simp only [List.set_cons_succ]); (try simp only [List.set_cons_zero])
    refine wpAnyH_takeD (i := 34) (some 115) (v := ?_) rfl rfl (by kernel_rfl) (by kernel_rfl) (by kernel_rfl) (fun _ _ _ h => h) (Or.inl ⟨by rfl, ?_⟩) (by assumption) ?_
    rotate_left
    (focus (intro w hSw; (try dsimp only at hSw); (first | (go_simp; done) | (go_simp; with_reducible rfl) | with_reducible rfl)))
    (try simp only [Act.put]); (try simp only [List.setIfInBounds_toArray]); (try simp only [List.set_cons_succ]); (try simp only [List.set_cons_zero])
    refine wpAnyH_takeD (i := 35) (some 116) (v := ?_) rfl rfl (by kernel_rfl) (by kernel_rfl) (by kernel_rfl) (fun _ _ _ h => h) (Or.inl ⟨by rfl, ?_⟩) (by assumption) ?_
    rotate_left
    (focus (intro w hSw; (try dsimp only at hSw); (first | (go_simp; done) | (go_simp; with_reducible rfl) | with_reducible rfl)))
    (try simp only [Act.put]); (try simp only [List.setIfInBounds_toArray]); (try simp only [List.set_cons_succ]); (try simp only [List.set_cons_zero])
    refine wpAnyH_ready (rs := [36]) (by kernel_rfl) (by simp) (AllReadyH.cons rfl (fun K hK => ?_) AllReadyH.nil)
    go_simp
    (go_at_call 13; refine (laws_same_t _ _ _ _ _ _ l2 _ (rb2.keep0 (by (repeat (first | with_reducible exact gb_refl _ | with_reducible refine gb_alloc ?_ _ | with_reducible refine gb_drewN ?_ _ | with_reducible refine gb_drew ?_ | with_reducible refine gb_trans ?_ g8)))) (r2.keep0 (by (repeat (first | with_reducible exact gb_refl _ | with_reducible refine gb_alloc ?_ _ | with_reducible refine gb_drewN ?_ _ | with_reducible refine gb_drew ?_ | with_reducible refine gb_trans ?_ g8))))).mono ?_; rintro e w' ⟨rfl, rfl⟩; skip)
    go_wp2_with fail
    refine hK.out _ _ ?_ (fun hHeld2 => ?_)
    · (try dsimp only)
      (refine KX.out _ ?_; (repeat (first | with_reducible exact gb_refl _ | with_reducible refine gb_alloc ?_ _ | with_reducible refine gb_drewN ?_ _ | with_reducible refine gb_drew ?_ | with_reducible refine gb_trans ?_ g8)))
    clear hK K hHeld
    have hHeld := hHeld2
    clear hHeld2
    (try simp only [Act.put]); (try simp only [List.setIfInBounds_toArray]); (try simp only [List.set_cons_succ]); (try simp only [List.set_cons_zero])
    refine wpAnyH_takeD (i := 37) (some 118) (v := ?_) rfl rfl (by kernel_rfl) (by kernel_rfl) (by kernel_rfl) (fun _ _ _ h => h) (Or.inl ⟨by rfl, ?_⟩) (by assumption) ?_
    rotate_left
    (focus (intro w hSw; (try dsimp only at hSw); (first | (go_simp; done) | (go_simp; with_reducible rfl) | with_reducible rfl)))
    (try simp only [Act.put]); (try simp only [List.setIfInBounds_toArray]); (try simp only [List.set_cons_succ]); (try simp only [List.set_cons_zero])
    refine wpAnyH_takeD (i := 38) (some 119) (v := ?_) rfl rfl (by kernel_rfl) (by kernel_rfl) (by kernel_rfl) (fun _ _ _ h => h) (Or.inl ⟨by rfl, ?_⟩) (by assumption) ?_
    rotate_left
    (focus (intro w hSw; (try dsimp only at hSw); (first | (go_simp; done) | (go_simp; with_reducible rfl) | with_reducible rfl)))
    (try simp only [Act.put]); (try simp only [List.setIfInBounds_toArray]); (try simp only [List.set_cons_succ]); (try simp only [List.set_cons_zero])
    refine wpAnyH_takeD (i := 39) (some 120) (v := ?_) rfl rfl (by kernel_rfl) (by kernel_rfl) (by kernel_rfl) (fun _ _ _ h => h) (Or.inl ⟨by rfl, ?_⟩) (by assumption) ?_
    rotate_left
    (focus (intro w hSw; (try dsimp only at hSw); (first | (go_simp; done) | (go_simp; with_reducible rfl) | with_reducible rfl)))
    (try simp only [Act.put]); (try simp only [List.setIfInBounds_toArray]); (try simp only [List.set_cons_succ]); (try simp only [List.set_cons_zero])
    refine wpAnyH_takeD (i := 40) (some 121) (v := ?_) rfl rfl (by kernel_rfl) (by kernel_rfl) (by kernel_rfl) (fun _ _ _ h => h) (Or.inl ⟨by rfl, ?_⟩) (by assumption) ?_
    rotate_left
    (focus (intro w hSw; (try dsimp only at hSw); (first | (go_simp; done) | (go_simp; with_reducible rfl) | with_reducible rfl)))
    (try simp only [Act.put]); (try simp only [List.setIfInBounds_toArray]); (try simp only [List.set_cons_succ]); (try simp only [List.set_cons_zero])
    refine wpAnyH_takeD (i := 41) (some 122) (v := ?_) rfl rfl (by kernel_rfl) (by kernel_rfl) (by kernel_rfl) (fun _ _ _ h => h) (Or.inl ⟨by rfl, ?_⟩) (by assumption) ?_
    rotate_left
    (focus (intro w hSw; (try dsimp only at hSw); (first | (go_simp; done) | (go_simp; with_reducible rfl) | with_reducible rfl)))
    (try simp only [Act.put]); (try simp only [List.setIfInBounds_toArray]); (try simp only [List.set_cons_succ]); (try simp only [List.set_cons_zero])
    refine wpAnyH_takeD (i := 42) (some 123) (v := ?_) rfl rfl (by kernel_rfl) (by kernel_rfl) (by kernel_rfl) (fun _ _ _ h => h) (Or.inl ⟨by rfl, ?_⟩) (by assumption) ?_
    rotate_left
    (focus (intro w hSw; (try dsimp only at hSw); (first | (go_simp; done) | (go_simp; with_reducible rfl) | with_reducible rfl)))
    (try simp only [Act.put]); (try simp only [List.setIfInBounds_toArray]); (try simp only [List.set_cons_succ]); (try simp only [List.set_cons_zero])
    refine wpAnyH_takeD (i := 43) (some 124) (v := ?_) rfl rfl (by kernel_rfl) (by kernel_rfl) (by kernel_rfl) (fun _ _ _ h => h) (Or.inl ⟨by rfl, ?_⟩) (by assumption) ?_
    rotate_left
    (focus (intro w hSw; (try dsimp only at hSw); (first | (go_simp; done) | (go_simp; with_reducible rfl) | with_reducible rfl)))
    (try simp only [Act.put]); (try simp only [List.setIfInBounds_toArray]); (try simp only [List.set_cons_succ]); (try simp only [List.set_cons_zero])
    refine wpAnyH_ready (rs := [44]) (by kernel_rfl) (by simp) (AllReadyH.cons rfl (fun K hK => ?_) AllReadyH.nil)
    go_simp
    (go_at_call 15; refine (impl_TagInput role _ (sealF kd l2 ep sq M T) _ (RF.keep0 (by (repeat (first | with_reducible exact gb_refl _ | with_reducible refine gb_alloc ?_ _ | with_reducible refine gb_drewN ?_ _ | with_reducible refine gb_drew ?_ | with_reducible refine gb_trans ?_ g8))))).mono ?_; obtain ⟨ti, hti⟩ : ∃ ti, Hid (tagInM role (sealF kd l2 ep sq M T) = ti) := ⟨_, rfl⟩; rw [hti.out]; rintro e w9 ⟨a10, n10, c10, rfl, o10, g9⟩; skip)
    go_wp2_with fail
    refine hK.out _ _ ?_ (fun hHeld2 => ?_)
    · (try dsimp only)
      (refine KX.out _ ?_; (repeat (first | with_reducible exact gb_refl _ | with_reducible refine gb_alloc ?_ _ | with_reducible refine gb_drewN ?_ _ | with_reducible refine gb_drew ?_ | with_reducible refine gb_trans ?_ g8 | with_reducible refine gb_trans ?_ g9)))
    clear hK K hHeld
    have hHeld := hHeld2
    clear hHeld2
    (try simp only [Act.put]); (try simp only [List.setIfInBounds_toArray]); (try simp only [List.set_cons_succ]); (try simp only [List.set_cons_zero])
    refine wpAnyH_ready (rs := [45]) (by kernel_rfl) (by simp) (AllReadyH.cons rfl (fun K hK => ?_) AllReadyH.nil)
    go_simp
    (go_at_call 14; refine (impl_Tag a0 32 c0 l0 a10 n10 c10 ti _ (r0.keep0 (by (repeat (first | with_reducible exact gb_refl _ | with_reducible refine gb_alloc ?_ _ | with_reducible refine gb_drewN ?_ _ | with_reducible refine gb_drew ?_ | with_reducible refine gb_trans ?_ g8 | with_reducible refine gb_trans ?_ g9)))) o10.rd (by omega) (by have h9 := o10.blen; have h8 := tagInM_len role (sealF kd l2 ep sq M T); rw [hti.out] at h8; omega)).mono ?_; rw [← hti.out, ← hT.out]; rintro e w10 ⟨a11, n11, c11, rfl, o11, g10⟩; skip)
    go_wp2_with fail
    refine hK.out _ _ ?_ (fun hHeld2 => ?_)
    · (try dsimp only)
      (refine KX.out _ ?_; (repeat (first | with_reducible exact gb_refl _ | with_reducible refine gb_alloc ?_ _ | with_reducible refine gb_drewN ?_ _ | with_reducible refine gb_drew ?_ | with_reducible refine gb_trans ?_ g8 | with_reducible refine gb_trans ?_ g9 | with_reducible refine gb_trans ?_ g10)))
    clear hK K hHeld
    have hHeld := hHeld2
    clear hHeld2
    (try simp only [Act.put]); (try simp only [List.setIfInBounds_toArray]); (try simp only [List.set_cons_succ]); (try simp only [List.set_cons_zero])
    refine wpAnyH_ready (rs := [46]) (by kernel_rfl) (by simp) (AllReadyH.cons rfl (fun K hK => ?_) AllReadyH.nil)
    go_simp
    (go_at_call 13; refine (laws_same_t _ _ _ _ _ _ T _ (rb6.keep0 (by (repeat (first | with_reducible exact gb_refl _ | with_reducible refine gb_alloc ?_ _ | with_reducible refine gb_drewN ?_ _ | with_reducible refine gb_drew ?_ | with_reducible refine gb_trans ?_ g8 | with_reducible refine gb_trans ?_ g9 | with_reducible refine gb_trans ?_ g10)))) o11.rd).mono ?_; rintro e w' ⟨rfl, rfl⟩; skip)
    go_wp2_with fail
    refine hK.out _ _ ?_ (fun hHeld2 => ?_)
    · (try dsimp only)
      (refine KX.out _ ?_; (repeat (first | with_reducible exact gb_refl _ | with_reducible refine gb_alloc ?_ _ | with_reducible refine gb_drewN ?_ _ | with_reducible refine gb_drew ?_ | with_reducible refine gb_trans ?_ g8 | with_reducible refine gb_trans ?_ g9 | with_reducible refine gb_trans ?_ g10)))
    clear hK K hHeld
    have hHeld := hHeld2
    clear hHeld2
    (try simp only [Act.put]); (try simp only [List.setIfInBounds_toArray]); (try simp only [List.set_cons_succ]); (try simp only [List.set_cons_zero])
    refine wpAnyH_takeD (i := 47) (some 128) (v := ?_) rfl rfl (by kernel_rfl) (by kernel_rfl) (by kernel_rfl) (fun _ _ _ h => h) (Or.inl ⟨by rfl, ?_⟩) (by assumption) ?_
    rotate_left
    (focus (intro w hSw; (try dsimp only at hSw); (first | (go_simp; done) | (go_simp; with_reducible rfl) | with_reducible rfl)))
    (try simp only [Act.put]); (try simp only [List.setIfInBounds_toArray]); (try simp only [List.set_cons_succ]); (try simp only [List.set_cons_zero])
    refine wpAnyH_takeD (i := 48) (some 2) (v := ?_) rfl rfl (by kernel_rfl) (by kernel_rfl) (by kernel_rfl) (fun _ _ _ h => h) (Or.inl ⟨by rfl, ?_⟩) (by assumption) ?_
    rotate_left
    (focus (intro w hSw; (try dsimp only at hSw); (first | (go_simp; done) | (go_simp; with_reducible rfl) | with_reducible rfl)))
    (try simp only [Act.put]); (try simp only [List.setIfInBounds_toArray]); (try simp only [List.set_cons_succ]); (try simp only [List.set_cons_zero])
    refine wpAnyH_done (by kernel_rfl) ?_ _
    (try dsimp only)
    have H : w7.grownBy w10 none := (by (repeat (first | with_reducible exact gb_refl _ | with_reducible refine gb_alloc ?_ _ | with_reducible refine gb_drewN ?_ _ | with_reducible refine gb_drew ?_ | with_reducible refine gb_trans ?_ g8 | with_reducible refine gb_trans ?_ g9 | with_reducible refine gb_trans ?_ g10)))
    clear KX
    go_wp2
    go_ret
    exact ⟨rfl, gb_below (gb_trans G H)⟩
set_option maxRecDepth 100000 in
theorem lifted (os : Os) (started : os.Started) (H : Type) (enc : TypeId × Value → H) :
    ReturnsInHanded {} Try.checked os 3 .any (Rows.fnSealsSpec.pre6 enc Try.prog Try.f3 Rows.fnSealsRow.domain false) (Rows.fnSealsSpec.post enc Try.prog Try.f3 false true false false) := by
  refine returnsInHanded_of_change (C := Try.checked) own started (by kernel_rfl) Try.func3
    (ChangeSpec.witness6 (enc := enc) (C := Try.checked) false ⟨#[], #[.slice none 0 0], []⟩ 8 (by kernel_rfl) (by kernel_rfl) (by kernel_rfl) (by kernel_rfl)) ?_
  intro W base args ds gs before hval0 hW _ _
  have hval : ∀ (j : Nat) t v, Try.f3.params[j]? = some t → args[j]? = some v → Value.okWide Try.prog W .any base t v := hval0
  have hW2 := hW
  obtain ⟨p, q, hA0, hV, hps, _, _⟩ := hW
  have hA : DataW.TrodAll enc Try.prog W 0 (fun _ => true) true Try.f3.params.toList args.toList ds p := hA0
  rw [Try.params3] at hA hval
  obtain ⟨rfl, rfl⟩ := trodVars_none hV
  obtain ⟨v0, vs0, d0, ds0, p0, q0, hargs, rfl, rfl, h0, r0⟩ := trodAll_cons hA
  obtain ⟨rfl, rfl, rfl⟩ := trodAll_nil r0
  obtain rfl : args = #[v0] := by cases args; simp_all
  have i0 := open_B (hval 0 22 v0 rfl rfl) h0
  clear hA0 hval0
  refine (walk W v0 i0).mono fun e W2 ⟨he, hb⟩ => ?_
  subst he
  exact ⟨_, rfl, law_post (tb := 4) laidOut (by kernel_rfl) (by kernel_rfl) Try.underlying4 rfl ⟨rfl, rfl, rfl⟩ hW2 hb⟩
theorem over : Rows.fnSealsRow.holds Try.pinned (OpenSpec.ofChange Rows.fnSealsSpec) :=
  OpenClaim.holds_of_wide 3 Try.f3 rfl rfl rfl rfl rfl rfl rfl ⟨rfl, rfl, rfl, rfl, rfl⟩ rfl rfl rfl rfl rfl (by kernel_rfl) Try.func3 (by kernel_rfl)
    (of_decide_eq_true (by kernel_rfl)) (by unfold Func.isWrapper; first | (rw [if_pos (by decide +kernel)]; kernel_rfl) | (rw [if_neg (by decide +kernel)]; exact ⟨rfl, rfl⟩))
    (fun os started H enc _ => lifted os started H enc)
theorem proved : Rows.FnSealsSaid :=
  over
#print axioms proved
end Go.Proofs.Ytpfchphgbhgmmaa.lSeals

