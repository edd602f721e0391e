/-
  FnSpent returns true for every code; with the draws, the plain laws and the small functions that this law asks for. Conditions: none.
-/
import Derived.Test.YtpfchphgbhgmmaaHelpS
import Derived.Test.YtpfchphgbhgmmaaStr
import Derived.Test.YtpfchphgbhgmmaaFrOkP
import Derived.Test.YtpfchphgbhgmmaaCell
import Derived.Test.YtpfchphgbhgmmaaMac
import Derived.Test.YtpfchphgbhgmmaaGet
import Derived.Test.YtpfchphgbhgmmaaBytes
import Derived.Test.YtpfchphgbhgmmaaSet1
import Derived.Test.YtpfchphgbhgmmaaWinB
import Derived.Test.YtpfchphgbhgmmaaWinN
import Derived.Test.YtpfchphgbhgmmaaEp
import Derived.Test.YtpfchphgbhgmmaaKeys3
import Derived.Test.YtpfchphgbhgmmaaTagS
import Derived.Test.YtpfchphgbhgmmaaTagI
import Derived.Test.YtpfchphgbhgmmaaStrm
import Derived.Test.YtpfchphgbhgmmaaEpC
import Derived.Test.YtpfchphgbhgmmaaSealC
import Derived.Test.YtpfchphgbhgmmaaEpS
import Derived.Test.YtpfchphgbhgmmaaLaw
import Derived.Deep.RegionHeld3
import Derived.Deep.RegionWith
import Derived.IntWalk
import Derived.Deep.AppendSrc
import Derived.Deep.Cut
/-
  Contracts of the small functions that the laws call. Conditions: none beside those that each theorem names.
-/
namespace Go.Proofs.Ytpfchphgbhgmmaa
open Go.RowKit
theorem laws_big (a : Option Addr) (n c : Nat) (w : World) : Calls Try.prog 5 #[.slice a n c] w fun e w' => e = .returned (.bool (decide (1048576 < n))) ∧ w = w' := by
  by_cases h : 1048576 < n
  · go_enter Try.func5, Try.ntmps5
    go_wp2
    go_ret
    exact ⟨ret_b (by simp; omega), rfl⟩
  · go_enter Try.func5, Try.ntmps5
    go_wp2
    go_ret
    exact ⟨ret_b (by simp; omega), rfl⟩
theorem laws_same (a : Option Addr) (n c : Nat) (b : Option Addr) (m d : Nat) (l k : List UInt8) (w : World) (h1 : Rd w a n c (bys l)) (h2 : Rd w b m d (bys k)) :
    Calls Try.prog 13 #[.slice a n c, .slice b m d] w fun e w' => e = .returned (.bool (eqL l k)) ∧ w = w' := by
  have c1 := h1.conv (P := Try.prog) 22 5 9 Try.underlying22 Try.underlying5 Try.underlying9
  have c2 := h2.conv (P := Try.prog) 22 5 9 Try.underlying22 Try.underlying5 Try.underlying9
  go_enter Try.func13, Try.ntmps13
  go_wp2
  go_ret
  exact ⟨ret_b (by rw [str_toList, str_toList]; rfl), rfl⟩
theorem eqL_rfl (l : List UInt8) : eqL l l = true := eqL_iff.2 rfl
theorem laws_same_t (a : Option Addr) (n c : Nat) (b : Option Addr) (m d : Nat) (l : List UInt8) (w : World) (h1 : Rd w a n c (bys l)) (h2 : Rd w b m d (bys l)) :
    Calls Try.prog 13 #[.slice a n c, .slice b m d] w fun e w' => e = .returned (.bool true) ∧ w = w' := by
  have := laws_same a n c b m d l l w h1 h2
  rwa [eqL_rfl] at this
set_option maxRecDepth 1000000 in
set_option maxHeartbeats 4000000 in
/-- two values that read as one frame are the same -/
theorem laws_sameFrame_t (v u : Value) (f : FrameM) (w : World) (h : FrameR w v f) (k : FrameR w u f) :
    Calls Try.prog 9 #[v, u] w fun e w' => e = .returned (.bool true) ∧ w.grownBy w' none := by
  obtain ⟨a1, n1, c1, a2, n2, c2, a3, n3, c3, a4, n4, c4, a5, n5, c5, a6, n6, c6, rfl, r1, r2, r3, r4, r5, r6⟩ := h
  obtain ⟨b1, m1, d1, b2, m2, d2, b3, m3, d3, b4, m4, d4, b5, m5, d5, b6, m6, d6, rfl, s1, s2, s3, s4, s5, s6⟩ := k
  have g0 := gb_alloc (gb_alloc (gb_refl w) (.cells #[.int .i64 f.kind, .int .i64 f.id, .slice a1 n1 c1, .slice a2 n2 c2, .int .i64 f.tick, .slice a3 n3 c3, .slice a4 n4 c4, .int .i64 f.epoch, .int .i64 f.seq, .slice a5 n5 c5, .slice a6 n6 c6] 27)) (.cells #[.int .i64 f.kind, .int .i64 f.id, .slice b1 m1 d1, .slice b2 m2 d2, .int .i64 f.tick, .slice b3 m3 d3, .slice b4 m4 d4, .int .i64 f.epoch, .int .i64 f.seq, .slice b5 m5 d5, .slice b6 m6 d6] 27)
  replace r1 := r1.keep0 g0
  replace r2 := r2.keep0 g0
  replace r3 := r3.keep0 g0
  replace r4 := r4.keep0 g0
  replace r5 := r5.keep0 g0
  replace r6 := r6.keep0 g0
  replace s1 := s1.keep0 g0
  replace s2 := s2.keep0 g0
  replace s3 := s3.keep0 g0
  replace s4 := s4.keep0 g0
  replace s5 := s5.keep0 g0
  replace s6 := s6.keep0 g0
  go_enter Try.func9, Try.ntmps9
  go_wp2_with (go_at_call 13; first
    | ((with_reducible refine (laws_same_t a1 n1 c1 b1 m1 d1 f.cn _ r1 s1).mono ?_); rintro e w' ⟨rfl, rfl⟩)
    | ((with_reducible refine (laws_same_t a2 n2 c2 b2 m2 d2 f.sn _ r2 s2).mono ?_); rintro e w' ⟨rfl, rfl⟩)
    | ((with_reducible refine (laws_same_t a3 n3 c3 b3 m3 d3 f.cookie _ r3 s3).mono ?_); rintro e w' ⟨rfl, rfl⟩)
    | ((with_reducible refine (laws_same_t a4 n4 c4 b4 m4 d4 f.proof _ r4 s4).mono ?_); rintro e w' ⟨rfl, rfl⟩)
    | ((with_reducible refine (laws_same_t a5 n5 c5 b5 m5 d5 f.body _ r5 s5).mono ?_); rintro e w' ⟨rfl, rfl⟩)
    | ((with_reducible refine (laws_same_t a6 n6 c6 b6 m6 d6 f.tag _ r6 s6).mono ?_); rintro e w' ⟨rfl, rfl⟩))
  go_ret
  exact ⟨rfl, g0⟩
end Go.Proofs.Ytpfchphgbhgmmaa

/-
  Contracts of the small functions of the laws: a byte of the code, a slice's beginning, a bent slice. Conditions: none beside those that each theorem names.
-/
namespace Go.Proofs.Ytpfchphgbhgmmaa
open Go.RowKit
set_option maxHeartbeats 1000000 in
theorem laws_at (a : Option Addr) (n c : Nat) (l : List UInt8) (x : Int) (w : World) (h : Rd w a n c (bys l)) (hn : n ≤ 1048576) (h0 : 0 ≤ x) (h1 : x ≤ 10) :
    Calls Try.prog 19 #[.slice a n c, .int .i64 x] w fun e w' => ∃ k : Nat, k < 256 ∧ e = .returned (.int .i64 (k : Int)) ∧ w = w' := by
  obtain ⟨j, rfl⟩ := Int.eq_ofNat_of_zero_le h0
  by_cases hj : j < n
  · obtain ⟨b, off, y, rfl, hy, hc⟩ := h.byte j hj
    have yt := y.toNat_lt
    go_enter Try.func19, Try.ntmps19
    go_wp2
    go_ret
    exact ⟨y.toNat, by omega, rfl, rfl⟩
  · go_enter Try.func19, Try.ntmps19
    go_wp2
    go_ret
    refine ⟨(((j : Int) * 31 + (n : Int) * 7) % 256).toNat, by omega, ret_i (by omega), rfl⟩
theorem bent_byte (x : UInt8) {k : Nat} (_hk : k < 256) : ∃ z : UInt8, z ≠ x ∧ bits .xor .u8 (x.toNat : Int) (IntKind.u8.wrap (IntKind.i64.wrap (1 + (k : Int).tmod 255))) = (z.toNat : Int) := by
  have e0 : IntKind.u8.wrap (IntKind.i64.wrap (1 + (k : Int).tmod 255)) = 1 + (k : Int) % 255 := by
    rw [Int.tmod_eq_emod_of_nonneg (by omega), IntWalk.i64_in _ (by omega), IntWalk.u8_in _ (by omega)]
  rw [e0]
  have e : (1 + (k : Int) % 255) = (((UInt8.ofNat (1 + k % 255)).toNat : Nat) : Int) := by
    rw [UInt8.toNat_ofNat', Nat.mod_eq_of_lt (by omega)]
    omega
  refine ⟨x ^^^ UInt8.ofNat (1 + k % 255), ?_, by rw [e, u8_xor]⟩
  intro h
  have h1 : UInt8.ofNat (1 + k % 255) = 0 := by
    have h2 : x ^^^ (x ^^^ UInt8.ofNat (1 + k % 255)) = x ^^^ x := by rw [h]
    rw [← UInt8.xor_assoc, UInt8.xor_self, UInt8.zero_xor] at h2
    exact h2
  have h3 := congrArg UInt8.toNat h1
  rw [UInt8.toNat_ofNat', Nat.mod_eq_of_lt (by omega)] at h3
  simp at h3
set_option maxRecDepth 1000000 in
set_option maxHeartbeats 4000000 in
/-- a slice with a byte turned -/
theorem laws_bent (a : Option Addr) (n c : Nat) (l : List UInt8) (b : Option Addr) (m d : Nat) (k : List UInt8) (w : World) (h : Rd w a n c (bys l)) (hn : n ≤ 1048576) (hb : Rd w b m d (bys k)) (hm : m ≤ 1048576) :
    Calls Try.prog 11 #[.slice a n c, .slice b m d] w fun e w' => ∃ a' c' k', e = .returned (.slice a' m c') ∧ Ow w.heap.size w' 5 a' m c' (bys k') ∧ (0 < m → k' ≠ k) ∧ w.grownBy w' none := by
  have L := Lib.hid hb.blen
  go_enter Try.func11, Try.ntmps11
  go_wp2_with (first
    | (at_builtin; refine wpList_appB rfl (.tmp 7) (.tmp 8) rfl w.heap.size _ 0 0 [] rfl (new_own _ _) b m d k rfl (hb.keep0 (gb_alloc (gb_refl _) _)) (by have := L.out; simp; omega) (by simp) ?_; intro a2 n2 c2 w2 o2 g2; rw [List.nil_append] at o2; have G2 : w.grownBy w2 none := gb_app (gb_alloc (gb_refl _) _) (new_own w _) (Nat.le_refl _) g2; have e2 := o2.blen.symm.trans L.out; subst e2; clear g2)
    | (go_at_call 19; (with_reducible refine (laws_at a n c l 2 w2 (h.keep0 G2) hn (by decide) (by decide)).mono ?_); rintro e w3 ⟨k1, hk1, rfl, rfl⟩)
    | (go_at_call 19; (with_reducible refine (laws_at a n c l 3 w2 (h.keep0 G2) hn (by decide) (by decide)).mono ?_); rintro e w3 ⟨k2, hk2, rfl, rfl⟩))
  rotate_left
  · go_ret
    exact ⟨_, _, k, rfl, o2, fun h => absurd h (by omega), G2⟩
  obtain ⟨i, hi, hlt⟩ : ∃ i : Nat, ((k1 : Int) * 256 + (k2 : Int)) % (n2 : Int) = (i : Int) ∧ i < n2 :=
    ⟨(((k1 : Int) * 256 + (k2 : Int)) % (n2 : Int)).toNat, by rw [Int.toNat_of_nonneg (Int.emod_nonneg _ (by omega))], by have := Int.emod_lt_of_pos ((k1 : Int) * 256 + (k2 : Int)) (show (0 : Int) < n2 by omega); omega⟩
  rw [hi]
  replace hi := Lib.hid hi
  obtain ⟨g, rfl⟩ := o2.head (by omega)
  obtain ⟨b', off, x, e, hx, hc⟩ := o2.rd.byte i hlt
  cases e
  rw [Nat.zero_add] at hc
  obtain ⟨hf, -⟩ := o2.at i hlt
  have i1 : (0 : Int) ≤ (i : Int) := Int.natCast_nonneg _
  have i2 : (i : Int) < (n2 : Int) := by omega
  go_region_with (go_at_call 19; refine (laws_at a n c l 4 _ ((h.keep0 G2).keep0 (gb_drew (gb_refl _))) hn (by decide) (by decide)).mono ?_; rintro e w4 ⟨k3, hk3, rfl, rfl⟩)
  all_goals go_wp2
  all_goals
    obtain ⟨z, hz, e9⟩ := bent_byte x hk3
    have o3 := o2.set i (.int .u8 (z.toNat : Int))
    rw [bys_set] at o3
    have G3 := gb_set G2 (p := ⟨g, i, none⟩) (.inl (o2.lt _ rfl).1) (.int .u8 (z.toNat : Int))
    have hne : k.set i z ≠ k := by
      intro h9
      have h8 : (k.set i z)[i]? = some z := by rw [List.getElem?_set_self (by have := L.out; omega)]
      rw [h9, hx.out] at h8
      exact hz (Option.some.inj h8).symm
    go_ret
    rw [e9]
    exact ⟨_, _, k.set i z, rfl, o3.drew, fun _ => hne, gb_drew G3⟩
end Go.Proofs.Ytpfchphgbhgmmaa

/-
  What a statement draws: a cursor over the bytes of a draw, and the values that the draws make; each draw answers something that reads well, and turns nothing but the cursor. Conditions: none beside those that each theorem names.
-/
namespace Go.Proofs.Ytpfchphgbhgmmaa
open Go.RowKit
theorem andM (x : Int) (m : Nat) (hm : m < 4611686018427387904) : ∃ k : Nat, k ≤ m ∧ bits .and .i64 x (m : Int) = (k : Int) := by
  have h : (BitVec.ofInt 64 x &&& BitVec.ofInt 64 (m : Int)).toNat ≤ m := by
    rw [BitVec.toNat_and, BitVec.ofInt_natCast, BitVec.toNat_ofNat, Nat.mod_eq_of_lt (by omega)]
    exact Nat.and_le_right
  refine ⟨(BitVec.ofInt 64 x &&& BitVec.ofInt 64 (m : Int)).toNat, h, ?_⟩
  show IntKind.i64.wrap ((BitVec.ofInt 64 x &&& BitVec.ofInt 64 (m : Int)).toNat : Int) = _
  rw [IntKind.wrap_i64]
  omega
theorem and255 (x : Int) : ∃ k : Nat, k < 256 ∧ bits .and .i64 x 255 = (k : Int) := by
  obtain ⟨k, h1, h2⟩ := andM x 255 (by decide)
  exact ⟨k, by omega, h2⟩
/-- nothing has turned but the cursor's block -/
def Dr (cb : Nat) (w w' : World) : Prop := gbI cb (cb + 1) w w'
theorem Dr.refl (cb : Nat) (w : World) : Dr cb w w := gbI.refl _ _ _
theorem Dr.trans {cb : Nat} {a b c : World} (h : Dr cb a b) (k : Dr cb b c) : Dr cb a c := gbI.trans h k
theorem Dr.of0 {cb : Nat} {a b : World} (h : a.grownBy b none) : Dr cb a b := gbI.of0 h
theorem Dr.set {cb : Nat} {a b : World} (h : Dr cb a b) {p : Addr} (hp : a.heap.size ≤ p.block) (u : Value) : Dr cb a (b.setCell p u) := gbI_set h (.inl hp) u
theorem Dr.alloc {cb : Nat} {a b : World} (h : Dr cb a b) (o : Obj) : Dr cb a (b.alloc o) := gbI_alloc h o
theorem Dr.drew {cb : Nat} {a b : World} (h : Dr cb a b) : Dr cb a b.drew := gbI_drew h
theorem Dr.drewN {cb : Nat} {a b : World} (h : Dr cb a b) (n : Nat) : Dr cb a (b.drewN n) := gbI_drewN h n
theorem Dr.size {cb : Nat} {a b : World} (h : Dr cb a b) : a.heap.size ≤ b.heap.size := gbI.size h
theorem Dr.gb {cb : Nat} {a b : World} (h : Dr cb a b) (hB : a.heap.size ≤ cb) : a.grownBy b none := gbI.gb h hB
theorem Dr.row2 {cb : Nat} {a b c : World} {row : Option Nat} (h : Dr cb a b) (k : b.grownBy c row) (hr : ∀ g, row = some g → a.heap.size ≤ g) : Dr cb a c :=
  ⟨k.os.trans h.os, k.tape.trans h.tape, k.output.trans h.output, Nat.le_trans h.size k.size, fun i hi hn => (k.block i (Nat.lt_of_lt_of_le hi h.size) (fun e => by have := hr i e.symm; omega)).trans (h.block i hi hn)⟩
theorem Bx.keepD {cb : Nat} {w w' : World} {b : Nat} {t : TypeId} {cs : Array Value} (h : Bx w b t cs) (g : Dr cb w w') (hb : cb < b) : Bx w' b t cs := h.keepI g (.inr hb)
/-- bytes that read, in a block behind the cursor -/
structure Rc (cb : Nat) (w : World) (a : Option Addr) (n c : Nat) (l : List UInt8) : Prop where
  rd : Rd w a n c (bys l)
  ne : ∀ p, a = some p → cb < p.block
theorem Rc.keep {cb : Nat} {w w' : World} {a : Option Addr} {n c : Nat} {l : List UInt8} (h : Rc cb w a n c l) (g : Dr cb w w') : Rc cb w' a n c l := ⟨h.rd.keepI g (fun p hp => .inr (h.ne p hp)), h.ne⟩
theorem Rc.keep0 {cb : Nat} {w w' : World} {a : Option Addr} {n c : Nat} {l : List UInt8} (h : Rc cb w a n c l) (g : w.grownBy w' none) : Rc cb w' a n c l := h.keep (Dr.of0 g)
theorem Rc.set {cb : Nat} {w : World} {a : Option Addr} {n c : Nat} {l : List UInt8} (h : Rc cb w a n c l) {q : Addr} (hq : ∀ p, a = some p → p.block ≠ q.block) (u : Value) : Rc cb (w.setCell q u) a n c l :=
  ⟨h.rd.keep (row := some q.block) (gb_set (gb_reflr w _) (.inr rfl) u) (fun p hp e => hq p hp (by simpa using e)), h.ne⟩
theorem Rd.keepP {B S : Nat} {w w' : World} {a : Option Addr} {n c : Nat} {xs : List Value} (h : Rd w a n c xs) (hg : gbI B S w w') (hne : 0 < n → ∀ p, a = some p → p.block < B ∨ S ≤ p.block) : Rd w' a n c xs := by
  rcases Nat.eq_zero_or_pos n with h0 | h0
  · exact ⟨h.len, h.le, fun j hj => by omega⟩
  · exact h.keepI hg (hne h0)
theorem Rc.nil (cb : Nat) (w : World) : Rc cb w none 0 0 [] := ⟨Rd.nil w none 0, fun p hp => by cases hp⟩
theorem Rc.of {cb B : Nat} {w : World} {a : Option Addr} {n c : Nat} {l : List UInt8} (h : Ow B w 5 a n c (bys l)) (hB : cb < B) : Rc cb w a n c l := ⟨h.rd, fun p hp => Nat.lt_of_lt_of_le hB (h.lt p hp).1⟩
theorem Rc.blen {cb : Nat} {w : World} {a : Option Addr} {n c : Nat} {l : List UInt8} (h : Rc cb w a n c l) : l.length = n := h.rd.blen
structure Rz (cb : Nat) (w : World) (a : Option Addr) (n c : Nat) (l : List Int) : Prop where
  rd : Rd w a n c (ins l)
  ne : ∀ p, a = some p → cb < p.block
theorem Rz.keep {cb : Nat} {w w' : World} {a : Option Addr} {n c : Nat} {l : List Int} (h : Rz cb w a n c l) (g : Dr cb w w') : Rz cb w' a n c l := ⟨h.rd.keepI g (fun p hp => .inr (h.ne p hp)), h.ne⟩
theorem Rz.keep0 {cb : Nat} {w w' : World} {a : Option Addr} {n c : Nat} {l : List Int} (h : Rz cb w a n c l) (g : w.grownBy w' none) : Rz cb w' a n c l := h.keep (Dr.of0 g)
theorem Rz.of {cb B : Nat} {w : World} {a : Option Addr} {n c : Nat} {l : List Int} (h : Ow B w 3 a n c (ins l)) (hB : cb < B) : Rz cb w a n c l := ⟨h.rd, fun p hp => Nat.lt_of_lt_of_le hB (h.lt p hp).1⟩
/-- block cb is a cursor over bytes that read in a block below B -/
def Cur (B : Nat) (w : World) (cb : Nat) : Prop := ∃ (a : Option Addr) (n c : Nat) (l : List UInt8) (j : Nat) (h : Int), Bx w cb 67 #[.slice a n c, .int .i64 (j : Int), .int .i64 h] ∧ Rd w a n c (bys l) ∧ (0 < n → ∀ p, a = some p → p.block < B) ∧ n ≤ 1048576 ∧ B ≤ cb
theorem Cur.keepI {w w' : World} {B cb X S : Nat} (h : Cur B w cb) (g : gbI X S w w') (hX : B ≤ X) (hc : cb < X ∨ S ≤ cb) : Cur B w' cb := by
  obtain ⟨a, n, c, l, j, x, h1, h2, h3, h4, h5⟩ := h
  exact ⟨a, n, c, l, j, x, h1.keepI g hc, h2.keepP g (fun h0 p hp => .inl (by have := h3 h0 p hp; omega)), h3, h4, h5⟩
theorem Cur.le {w : World} {B cb : Nat} (h : Cur B w cb) : B ≤ cb := by
  obtain ⟨_, _, _, _, _, _, _, _, _, _, h5⟩ := h
  exact h5
theorem Cur.keep0 {w w' : World} {B cb : Nat} (h : Cur B w cb) (g : w.grownBy w' none) : Cur B w' cb := h.keepI (gbI.of0 (B := cb + 1) (S := cb + 1) g) (by have := h.le; omega) (.inl (Nat.lt_succ_self _))
theorem Cur.alloc {w : World} {B cb : Nat} (h : Cur B w cb) (o : Obj) : Cur B (w.alloc o) cb := h.keep0 (gb_alloc (gb_refl w) o)
theorem Cur.drew {w : World} {B cb : Nat} (h : Cur B w cb) : Cur B w.drew cb := h.keep0 (gb_drew (gb_refl w))
theorem Cur.drewN {w : World} {B cb : Nat} (h : Cur B w cb) (n : Nat) : Cur B (w.drewN n) cb := h.keep0 (gb_drewN (gb_refl w) n)
theorem Cur.lt {w : World} {B cb : Nat} (h : Cur B w cb) : cb < w.heap.size := by
  obtain ⟨_, _, _, _, _, _, h1, _⟩ := h
  exact h1.lt
set_option maxRecDepth 1000000 in
set_option maxHeartbeats 1000000 in
theorem spec_l1New (a : Option Addr) (n c : Nat) (l : List UInt8) (B : Nat) (w : World) (h : Rd w a n c (bys l)) (hn : n ≤ 1048576) (ha : 0 < n → ∀ p, a = some p → p.block < B) (hB : B ≤ w.heap.size) :
    Calls Try.prog 20 #[.slice a n c] w fun e w' => ∃ cb, e = .returned (.pointer (some ⟨cb, 0, none⟩)) ∧ Cur B w' cb ∧ w.heap.size ≤ cb ∧ w.grownBy w' none := by
  go_enter Try.func20, Try.ntmps20
  go_wp2
  go_loopw [3, 4] (fun x i wr => ∃ (j : Nat) (y : Int), j ≤ n ∧ i = .int .i64 (j : Int) ∧ x = .int .i64 y ∧ 0 ≤ y ∧ y ≤ 1073741823 ∧ w.grownBy wr none) (fun _ i _ => n - (intOf i).toNat)
  case atStart => exact ⟨0, _, by omega, rfl, rfl, by omega, by omega, gb_refl _⟩
  case round =>
    obtain ⟨j, y, hj, rfl, rfl, y0, y1, hg⟩ := hrel
    by_cases hlt : j < n
    · by_cases h4 : j < 4000
      · obtain ⟨b, off, z, rfl, hz, hc⟩ := (h.keep0 hg).byte j hlt
        have zt := z.toNat_lt
        obtain ⟨k, k1, k2⟩ := andM (y * 137 + (z.toNat : Int) + 11) 1073741823 (by decide)
        go_wp2
        go_roundw
        case rel => exact ⟨j + 1, (k : Int), by omega, by go_num, congrArg (Value.int .i64) k2, by omega, by omega, hg⟩
        case measure => simp [intOf]; omega
      · go_wp2
        go_ret
        exact ⟨_, rfl, ⟨a, n, c, l, 0, y, Bx.new wr _ _, (h.keep0 hg).keep0 (gb_alloc (gb_refl _) _), ha, hn, Nat.le_trans hB hg.size⟩, hg.size, gb_alloc hg _⟩
    · obtain rfl : j = n := by omega
      go_wp2
      go_ret
      exact ⟨_, rfl, ⟨a, j, c, l, 0, y, Bx.new wr _ _, (h.keep0 hg).keep0 (gb_alloc (gb_refl _) _), ha, hn, Nat.le_trans hB hg.size⟩, hg.size, gb_alloc hg _⟩
set_option maxRecDepth 1000000 in
set_option maxHeartbeats 1000000 in
theorem spec_l1Byte (B cb : Nat) (w : World) (h : Cur B w cb) :
    Calls Try.prog 49 #[.pointer (some ⟨cb, 0, none⟩)] w fun e w' => ∃ k : Nat, k < 256 ∧ e = .returned (.int .i64 (k : Int)) ∧ Cur B w' cb ∧ Dr cb w w' := by
  obtain ⟨a, n, c, l, j, x, h1, h2, h3, h4, h5⟩ := h
  have cc := fun o => h1.cell o
  have ff := fun o => h1.frozen o
  have lt := h1.lt
  obtain ⟨X, hX⟩ : ∃ X, wrap64 (wrap64 (x * 6364136223846793005) + 1442695040888963407) = X := ⟨_, rfl⟩
  obtain ⟨k, k1, k2⟩ := and255 (bits .xor .i64 (X / 8589934592) (X / 140737488355328))
  by_cases hj : j < n
  · obtain ⟨b, off, y, rfl, hy, hc⟩ := h2.byte j hj
    have yt := y.toNat_lt
    have hb := h3 (by omega) _ rfl
    simp only at hb
    obtain ⟨k', k1', k2'⟩ := and255 ((k : Int) + (y.toNat : Int))
    go_enter Try.func49, Try.ntmps49
    go_wp2
    go_quiet (fail)
    go_wp2
    go_quiet (fail)
    go_wp2
    go_quiet (fail)
    go_wp2
    go_ret
    refine ⟨k', k1', rfl, ⟨_, n, c, l, j + 1, X, ?_, h2.keepP (gbI_set (gbI_drewN (gbI_set (gbI.refl cb (cb + 1) w) (p := ⟨cb, 2, none⟩) (.inr ⟨Nat.le_refl _, Nat.lt_succ_self _⟩) _) _) (p := ⟨cb, 1, none⟩) (.inr ⟨Nat.le_refl _, Nat.lt_succ_self _⟩) _) (fun h0 p hp => .inl (Nat.lt_of_lt_of_le (h3 h0 p hp) h5)), h3, h4, h5⟩, gbI_set (gbI_drewN (gbI_set (gbI.refl cb (cb + 1) w) (p := ⟨cb, 2, none⟩) (.inr ⟨Nat.le_refl _, Nat.lt_succ_self _⟩) _) _) (p := ⟨cb, 1, none⟩) (.inr ⟨Nat.le_refl _, Nat.lt_succ_self _⟩) _⟩
    rw [show ((j + 1 : Nat) : Int) = (j : Int) + 1 from rfl]
    exact ((h1.set 2 (.int .i64 X)).drewN _).set 1 (.int .i64 ((j : Int) + 1))
  · go_enter Try.func49, Try.ntmps49
    go_wp2
    go_quiet (fail)
    go_wp2
    go_quiet (fail)
    go_wp2
    go_ret
    exact ⟨k, k1, rfl, ⟨a, n, c, l, j, X, ((h1.set 2 (.int .i64 X)).drewN _).drewN _, h2.keepP (gbI_drewN (gbI_drewN (gbI_set (gbI.refl cb (cb + 1) w) (p := ⟨cb, 2, none⟩) (.inr ⟨Nat.le_refl _, Nat.lt_succ_self _⟩) _) _) _) (fun h0 p hp => .inl (Nat.lt_of_lt_of_le (h3 h0 p hp) h5)), h3, h4, h5⟩, gbI_drewN (gbI_drewN (gbI_set (gbI.refl cb (cb + 1) w) (p := ⟨cb, 2, none⟩) (.inr ⟨Nat.le_refl _, Nat.lt_succ_self _⟩) _) _) _⟩
set_option maxRecDepth 1000000 in
set_option maxHeartbeats 1000000 in
theorem spec_l1Below (B cb : Nat) (x : Int) (w : World) (h : Cur B w cb) :
    Calls Try.prog 24 #[.pointer (some ⟨cb, 0, none⟩), .int .i64 x] w fun e w' => ∃ k : Nat, ((k : Int) < x ∨ (x ≤ 0 ∧ k = 0)) ∧ e = .returned (.int .i64 (k : Int)) ∧ Cur B w' cb ∧ Dr cb w w' := by
  by_cases h0 : x ≤ 0
  · go_enter Try.func24, Try.ntmps24
    go_wp2
    go_ret
    exact ⟨0, .inr ⟨h0, rfl⟩, rfl, h, Dr.refl _ _⟩
  · by_cases h1 : x ≤ 256
    · go_enter Try.func24, Try.ntmps24
      go_wp2_with (go_at_call 49; refine (spec_l1Byte B cb _ h).mono ?_; rintro e w1 ⟨k, k1, rfl, c1, d1⟩)
      go_ret
      have e1 := Int.emod_nonneg (k : Int) (show x ≠ 0 by omega)
      have e2 := Int.emod_lt_of_pos (k : Int) (show 0 < x by omega)
      exact ⟨((k : Int) % x).toNat, .inl (by omega), ret_i (by rw [Int.toNat_of_nonneg e1]), c1, d1⟩
    · go_enter Try.func24, Try.ntmps24
      go_wp2_with (first | (go_at_call 49; (with_reducible refine (spec_l1Byte B cb w h).mono ?_); rintro e w1 ⟨k, k1, rfl, c1, d1⟩) | (go_at_call 49; (with_reducible refine (spec_l1Byte B cb w1 c1).mono ?_); rintro e w2 ⟨k2, k21, rfl, c2, d2⟩) | (go_at_call 49; (with_reducible refine (spec_l1Byte B cb w2 c2).mono ?_); rintro e w3 ⟨k3, k31, rfl, c3, d3⟩))
      go_ret
      have e1 := Int.emod_nonneg ((k : Int) * 65536 + (k2 : Int) * 256 + (k3 : Int)) (show x ≠ 0 by omega)
      have e2 := Int.emod_lt_of_pos ((k : Int) * 65536 + (k2 : Int) * 256 + (k3 : Int)) (show 0 < x by omega)
      exact ⟨(((k : Int) * 65536 + (k2 : Int) * 256 + (k3 : Int)) % x).toNat, .inl (by omega), ret_i (by rw [Int.toNat_of_nonneg e1]), c3, (d1.trans d2).trans d3⟩
set_option maxRecDepth 1000000 in
set_option maxHeartbeats 1000000 in
theorem spec_l1Int (B cb : Nat) (a : Option Addr) (n c : Nat) (l : List Int) (w : World) (h : Cur B w cb) (r : Rz cb w a n c l) (hn : 0 < n) (hm : n ≤ 1048576) :
    Calls Try.prog 22 #[.pointer (some ⟨cb, 0, none⟩), .slice a n c] w fun e w' => ∃ x, x ∈ l ∧ e = .returned (.int .i64 x) ∧ Cur B w' cb ∧ Dr cb w w' := by
  go_enter Try.func22, Try.ntmps22
  go_wp2_with fail
  refine (spec_l1Below B cb _ _ h).mono ?_
  rintro e w1 ⟨k, k1, rfl, c1, d1⟩
  have hk : k < n := by omega
  have r1 := r.keep d1
  obtain ⟨b, off, rfl, hc⟩ := r1.rd.cells k hk
  have hl := r1.rd.len
  obtain ⟨u, hu⟩ : ∃ u, l[k]? = some u := ⟨l[k]'(by simp only [ins, List.length_map] at hl; omega), by simp⟩
  have hc' : w1.cell? ⟨b, off + k, none⟩ = some (.int .i64 u) := by rw [hc, ins, List.getElem?_map, hu]; rfl
  clear hc
  go_wp2
  go_ret
  exact ⟨u, List.mem_of_getElem? hu, rfl, c1, d1⟩
def PBy (B cb : Nat) (x : Int) (w : World) (e : Ending) (w' : World) : Prop := ∃ a n c l, e = .returned (.slice a n c) ∧ l.length = x.toNat ∧ Ow w.heap.size w' 5 a n c (bys l) ∧ Cur B w' cb ∧ Dr cb w w'
set_option maxRecDepth 1000000 in
set_option maxHeartbeats 1000000 in
theorem spec_l1Bytes (B cb : Nat) (x : Int) (w : World) (h : Cur B w cb) (hx : x ≤ 1048576) :
    Calls Try.prog 21 #[.pointer (some ⟨cb, 0, none⟩), .int .i64 x] w (PBy B cb x w) := by
  have hcb := h.lt
  go_enter Try.func21, Try.ntmps21
  go_wp2
  go_loopw [5, 6] (fun v i wr => ∃ (j m cc : Nat) (aa : Option Addr) (l : List UInt8), (j : Int) ≤ max x 0 ∧ i = .int .i64 (j : Int) ∧ v = .slice aa m cc ∧ l.length = j ∧ Ow w.heap.size wr 5 aa m cc (bys l) ∧ Cur B wr cb ∧ Dr cb w wr) (fun _ i _ => (x - intOf i).toNat)
  case atStart => exact ⟨0, 0, 0, _, [], by omega, rfl, rfl, rfl, new_own _ _, h.alloc _, (Dr.refl _ _).alloc _⟩
  case round =>
    obtain ⟨j, m, cc, aa, l, hj, rfl, rfl, hl, o, c0, d0⟩ := hrel
    have e0 := o.blen
    replace hl := Lib.hid hl
    by_cases hlt : (j : Int) < x
    · go_wp2_with (first
        | (go_at_call 49; refine (spec_l1Byte B cb _ c0).mono ?_; rintro e w1 ⟨k, k1, rfl, c1, d1⟩; have kk := Lib.hid (show [Value.int .u8 (k : Int)] = bys [UInt8.ofNat k] by rw [bys, List.map_singleton, UInt8.toNat_ofNat', Nat.mod_eq_of_lt (by omega)]); have o1 := o.keepI d1 (fun p hp => .inr (by have := (o.lt p hp).1; omega)))
        | (at_builtin; refine wpList_appB rfl (.tmp 13) (.tmp 17) rfl w.heap.size aa m cc l rfl (o1.keep0 (gb_alloc (gb_refl _) _)) _ 1 1 [UInt8.ofNat k] rfl (new_bys w1 _ #[.int .u8 (k : Int)] [UInt8.ofNat k] kk.out) (by have := hl.out; simp; omega) (by have := (d0.trans d1).size; simp; omega) ?_; intro a9 n9 c9 w9 o9 g9; have e9 := o9.blen))
      refine ⟨⟨j + 1, n9, c9, a9, l ++ [UInt8.ofNat k], by omega, by go_num, rfl, by simp [hl.out], o9, ?_, ?_⟩, by simp [intOf]; omega⟩
      · exact (c1.alloc _).keepI (gbI.ofRow (B := w.heap.size) (S := blkS aa) g9 (fun g hg => by obtain ⟨p, hp, rfl⟩ := rowOf hg; exact ⟨(o1.lt p hp).1, blk_lt p hp⟩)) (by have := c1.le; omega) (.inl (by omega))
      · exact (d0.trans (d1.alloc _)).row2 g9 (fun g hg => by obtain ⟨p, hp, rfl⟩ := rowOf hg; exact (o1.lt p hp).1)
    · go_wp2
      go_ret
      exact ⟨_, _, _, l, rfl, by have := hl.out; omega, o, c0, d0⟩
end Go.Proofs.Ytpfchphgbhgmmaa

/-
  How a draw stands: the cursor, what was drawn, the variables; the steps of a walk in these words. Conditions: none beside those that each theorem names.
-/
namespace Go.Proofs.Ytpfchphgbhgmmaa
open Go.RowKit
/-- a slice and what it reads as -/
structure Sv where
  a : Option Addr
  n : Nat
  c : Nat
  xs : List Value
/-- a variable in a block of its own -/
structure Vb where
  q : Nat
  t : TypeId
  cs : Array Value
/-- the cursor stands in block cb; nothing else that w0 held has turned; the variables bs; the slices L read -/
structure DS (B cb : Nat) (w0 w : World) (bs : List Vb) (L : List Sv) : Prop where
  cur : Cur B w cb
  lb : B ≤ w0.heap.size
  dr : Dr cb w0 w
  rs : ∀ s ∈ L, Rd w s.a s.n s.c s.xs ∧ (0 < s.n → ∀ p, s.a = some p → (w0.heap.size ≤ p.block ∧ p.block ≠ cb) ∧ ∀ b ∈ bs, p.block ≠ b.q) ∧ s.n ≤ 256
  bx : ∀ b ∈ bs, Bx w b.q b.t b.cs ∧ w0.heap.size ≤ b.q ∧ b.q ≠ cb
  dj : bs.Pairwise fun x y => x.q ≠ y.q
section
variable {B cb : Nat} {w0 w w' : World} {bs : List Vb} {L : List Sv}
theorem DS.start (h : Cur B w cb) : DS B cb w w [] [] := ⟨h, Nat.le_trans h.le (Nat.le_of_lt h.lt), Dr.refl _ _, by simp, by simp, List.Pairwise.nil⟩
theorem DS.step (D : DS B cb w0 w bs L) (c : Cur B w' cb) (d : Dr cb w w') : DS B cb w0 w' bs L :=
  ⟨c, D.lb, D.dr.trans d, fun s hs => ⟨(D.rs s hs).1.keepP d (fun h0 p hp => by have := ((D.rs s hs).2.1 h0 p hp).1.2; omega), (D.rs s hs).2⟩,
    fun b hb => ⟨(D.bx b hb).1.keepI d (by have := (D.bx b hb).2.2; omega), (D.bx b hb).2⟩, D.dj⟩
theorem DS.init {w1 : World} (c : Cur w.heap.size w1 cb) (g : w.grownBy w1 none) : DS w.heap.size cb w w1 [] [] := ⟨c, Nat.le_refl _, Dr.of0 g, by simp, by simp, List.Pairwise.nil⟩
theorem DS.init1 {w1 : World} {q : Nat} {t : TypeId} {cs : Array Value} (h : Bx w q t cs) (c : Cur w0.heap.size w1 cb) (g0 : w0.grownBy w none) (hq : w0.heap.size ≤ q) (hc : w.heap.size ≤ cb) (g : w.grownBy w1 none) : DS w0.heap.size cb w0 w1 [⟨q, t, cs⟩] [] :=
  ⟨c, Nat.le_refl _, Dr.of0 (gb_trans g0 g), by simp, by
    intro b hb
    rw [List.mem_singleton] at hb
    subst hb
    have := h.lt
    exact ⟨h.keep0 g, hq, by simp only; omega⟩, List.pairwise_singleton _ _⟩
theorem DS.gb (D : DS B cb w0 w bs L) (hc : w0.heap.size ≤ cb) : w0.grownBy w none := D.dr.gb hc
theorem DS.grow (D : DS B cb w0 w bs L) (g : w.grownBy w' none) : DS B cb w0 w' bs L := D.step (D.cur.keep0 g) (Dr.of0 g)
theorem DS.alloc (D : DS B cb w0 w bs L) (o : Obj) : DS B cb w0 (w.alloc o) bs L := D.grow (gb_alloc (gb_refl w) o)
theorem DS.drew (D : DS B cb w0 w bs L) : DS B cb w0 w.drew bs L := D.grow (gb_drew (gb_refl w))
theorem DS.drewN (D : DS B cb w0 w bs L) (n : Nat) : DS B cb w0 (w.drewN n) bs L := D.grow (gb_drewN (gb_refl w) n)
theorem DS.add (D : DS B cb w0 w bs L) {a : Option Addr} {n c : Nat} {l : List Value} (r : Rd w a n c l) (h : 0 < n → ∀ p, a = some p → (w0.heap.size ≤ p.block ∧ p.block ≠ cb) ∧ ∀ b ∈ bs, p.block ≠ b.q) (hn : n ≤ 256) : DS B cb w0 w bs (⟨a, n, c, l⟩ :: L) :=
  ⟨D.cur, D.lb, D.dr, fun s hs => by
    rcases List.mem_cons.1 hs with rfl | hs
    · exact ⟨r, h, hn⟩
    · exact D.rs s hs, D.bx, D.dj⟩
/-- a slice that a callee has made -/
theorem DS.addF (D : DS B cb w0 w bs L) {L' : List Sv} (D' : DS B cb w0 w' bs L') {a : Option Addr} {n c : Nat} {l : List Value} (r : Rd w' a n c l) (hf : 0 < n → ∀ p, a = some p → w.heap.size ≤ p.block) (hn : n ≤ 256) : DS B cb w0 w' bs (⟨a, n, c, l⟩ :: L') :=
  D'.add r (fun h0 p hp => ⟨⟨Nat.le_trans D.dr.size (hf h0 p hp), by have := D.cur.lt; have := hf h0 p hp; omega⟩, fun b hb => by
    have h1 := (D.bx b hb).1.lt
    have h2 := hf h0 p hp
    omega⟩) hn
theorem DS.addO (D : DS B cb w0 w bs L) {L' : List Sv} (D' : DS B cb w0 w' bs L') {e : TypeId} {a : Option Addr} {n c : Nat} {l : List Value} (o : Ow w.heap.size w' e a n c l) (hn : n ≤ 256) : DS B cb w0 w' bs (⟨a, n, c, l⟩ :: L') :=
  D.addF D' o.rd (fun _ p hp => (o.lt p hp).1) hn
theorem DS.box (D : DS B cb w0 w bs L) (cs : Array Value) (t : TypeId) : DS B cb w0 (w.alloc (.cells cs t)) (⟨w.heap.size, t, cs⟩ :: bs) L :=
  ⟨D.cur.alloc _, D.lb, D.dr.alloc _, fun s hs => ⟨(D.alloc (.cells cs t)).rs s hs |>.1, fun h0 p hp => ⟨((D.rs s hs).2.1 h0 p hp).1, fun b hb => by
    rcases List.mem_cons.1 hb with rfl | hb
    · obtain ⟨b1, off, e, hlt, -⟩ := (D.rs s hs).1.pos h0
      rw [e] at hp
      cases hp
      exact Nat.ne_of_lt hlt
    · exact ((D.rs s hs).2.1 h0 p hp).2 b hb⟩, (D.rs s hs).2.2⟩, fun b hb => by
    rcases List.mem_cons.1 hb with rfl | hb
    · exact ⟨Bx.new w t cs, D.dr.size, Nat.ne_of_gt D.cur.lt⟩
    · exact (D.alloc (.cells cs t)).bx b hb, List.pairwise_cons.2 ⟨fun b hb => Nat.ne_of_gt (D.bx b hb).1.lt, D.dj⟩⟩
theorem DS.boxG (D : DS B cb w0 w bs L) {q : Nat} {cs : Array Value} {t : TypeId} (hq : w.heap.size ≤ q) (hb : Bx w' q t cs) (g : w.grownBy w' none) : DS B cb w0 w' (⟨q, t, cs⟩ :: bs) L :=
  have E := D.grow g
  ⟨E.cur, E.lb, E.dr, fun s hs => ⟨(E.rs s hs).1, fun h0 p hp => ⟨((D.rs s hs).2.1 h0 p hp).1, fun b hb => by
    rcases List.mem_cons.1 hb with rfl | hb
    · obtain ⟨b1, off, e, hlt, -⟩ := (D.rs s hs).1.pos h0
      rw [e] at hp
      cases hp
      simp only
      omega
    · exact ((D.rs s hs).2.1 h0 p hp).2 b hb⟩, (D.rs s hs).2.2⟩, fun b h9 => by
    rcases List.mem_cons.1 h9 with rfl | h9
    · exact ⟨hb, Nat.le_trans D.dr.size hq, by have := D.cur.lt; simp only; omega⟩
    · exact E.bx b h9, List.pairwise_cons.2 ⟨fun b h9 => by have := (D.bx b h9).1.lt; simp only; omega, D.dj⟩⟩
theorem DS.row (D : DS B cb w0 w bs L) {q : Nat} {t : TypeId} {cs : Array Value} {b1 b2 : List Vb} {old : Array Value} (e : bs = b1 ++ ⟨q, t, old⟩ :: b2) (hb : Bx w' q t cs) (g : w.grownBy w' (some q)) : DS B cb w0 w' (b1 ++ ⟨q, t, cs⟩ :: b2) L := by
  subst e
  have hq := (D.bx ⟨q, t, old⟩ (by simp)).2
  simp only at hq
  obtain ⟨hq, hqc⟩ := hq
  have hlb := D.lb
  have hne : ∀ b ∈ b1 ++ b2, b.q ≠ q := by
    have h := D.dj
    rw [List.pairwise_append, List.pairwise_cons] at h
    intro b hb
    rcases List.mem_append.1 hb with h1 | h1
    · exact h.2.2 b h1 ⟨q, t, old⟩ (by simp)
    · exact fun e => h.2.1.1 b h1 e.symm
  refine ⟨D.cur.keepI (gbI.ofRow (B := q) (S := q + 1) g (fun _ e => by cases e; omega)) (by omega) (by omega), D.lb, ⟨g.os.trans D.dr.os, g.tape.trans D.dr.tape, g.output.trans D.dr.output, Nat.le_trans D.dr.size g.size, fun k hk hn => (g.block k (Nat.lt_of_lt_of_le hk D.dr.size) (fun e => by cases e; omega)).trans (D.dr.block k hk hn)⟩, fun s hs => ⟨(D.rs s hs).1.keepP (gbI.ofRow (B := q) (S := q + 1) g (fun _ e => by cases e; omega)) (fun h0 p hp => ?_), fun h0 p hp => ⟨((D.rs s hs).2.1 h0 p hp).1, fun b hb => ?_⟩, (D.rs s hs).2.2⟩, fun b h9 => ?_, ?_⟩
  · have := ((D.rs s hs).2.1 h0 p hp).2 ⟨q, t, old⟩ (by simp)
    simp only at this
    omega
  · rcases List.mem_append.1 hb with h1 | h1
    · exact ((D.rs s hs).2.1 h0 p hp).2 b (by simp [h1])
    · rcases List.mem_cons.1 h1 with rfl | h1
      · exact ((D.rs s hs).2.1 h0 p hp).2 ⟨q, t, old⟩ (by simp)
      · exact ((D.rs s hs).2.1 h0 p hp).2 b (by simp [h1])
  · rcases List.mem_append.1 h9 with h1 | h1
    · have := D.bx b (by simp [h1])
      exact ⟨this.1.keepRow g (fun e => hne b (by simp [h1]) (by simpa using e.symm)), this.2⟩
    · rcases List.mem_cons.1 h1 with rfl | h1
      · exact ⟨hb, hq, hqc⟩
      · have := D.bx b (by simp [h1])
        exact ⟨this.1.keepRow g (fun e => hne b (by simp [h1]) (by simpa using e.symm)), this.2⟩
  · have h := D.dj
    rw [List.pairwise_append, List.pairwise_cons] at h ⊢
    refine ⟨h.1, ⟨h.2.1.1, h.2.1.2⟩, fun x hx y hy => ?_⟩
    rcases List.mem_cons.1 hy with rfl | hy
    · exact h.2.2 x hx ⟨q, t, old⟩ (by simp)
    · exact h.2.2 x hx y (by simp [hy])
end

section
variable {B cb : Nat} {w0 w w' : World} {bs : List Vb} {L : List Sv}
theorem wpList_alD {ops : Array Oper} {rest : List Oper} {o : Oper} {ac : Act} {Q : Exit → Act → World → Prop} (D : DS B cb w0 w bs L) (hgd : o.guard = none) (T : TypeId) (z : Array Value) (ho : o.op = .alloc T) (hr : mksA T z)
    (h : ∀ q w', DS B cb w0 w' (⟨q, T, z⟩ :: bs) L → wpList Try.prog ops Q rest (ac.put o.dst (.pointer (some ⟨q, 0, none⟩))) w') : wpList Try.prog ops Q (o :: rest) ac w :=
  wpList_al hgd T z ho hr fun q w' h1 h2 h3 => h q w' (D.boxG h1 h2 h3)
theorem wpList_stD {ops : Array Oper} {rest : List Oper} {o : Oper} {ac : Act} {Q : Exit → Act → World → Prop} {q : Nat} {T : TypeId} {old : Array Value} {b1 b2 : List Vb} (D : DS B cb w0 w (b1 ++ ⟨q, T, old⟩ :: b2) L) (hgd : o.guard = none) (x y : Operand) (ho : o.op = .store T x y)
    (cs : Array Value) (hx : ac.eval x = .pointer (some ⟨q, 0, none⟩)) (hy : ac.eval y = .agg cs) (hi : (Try.prog.info? T).map (·.size) = some cs.size) (hold : old.size = cs.size) (h1 : cs.all (·.oneCell') = true)
    (h : ∀ w', DS B cb w0 w' (b1 ++ ⟨q, T, cs⟩ :: b2) L → wpList Try.prog ops Q rest (ac.put o.dst undef) w') : wpList Try.prog ops Q (o :: rest) ac w :=
  wpList_stR hgd T x y ho q cs old hx hy (D.bx _ (List.mem_append_right _ (List.mem_cons_self ..))).1 hi hold h1 fun w' h2 h3 => h w' (D.row rfl h2 h3)
theorem wpList_stD0 {ops : Array Oper} {rest : List Oper} {o : Oper} {ac : Act} {Q : Exit → Act → World → Prop} {q : Nat} {T : TypeId} {old : Array Value} {b2 : List Vb} (D : DS B cb w0 w (⟨q, T, old⟩ :: b2) L) (hgd : o.guard = none) (x y : Operand) (ho : o.op = .store T x y)
    (cs : Array Value) (hx : ac.eval x = .pointer (some ⟨q, 0, none⟩)) (hy : ac.eval y = .agg cs) (hi : (Try.prog.info? T).map (·.size) = some cs.size) (hold : old.size = cs.size) (h1 : cs.all (·.oneCell') = true)
    (h : ∀ w', DS B cb w0 w' (⟨q, T, cs⟩ :: b2) L → wpList Try.prog ops Q rest (ac.put o.dst undef) w') : wpList Try.prog ops Q (o :: rest) ac w :=
  wpList_stD (b1 := []) D hgd x y ho cs hx hy hi hold h1 h
theorem wpList_stD1 {ops : Array Oper} {rest : List Oper} {o : Oper} {ac : Act} {Q : Exit → Act → World → Prop} {b : Vb} {q : Nat} {T : TypeId} {old : Array Value} {b2 : List Vb} (D : DS B cb w0 w (b :: ⟨q, T, old⟩ :: b2) L) (hgd : o.guard = none) (x y : Operand) (ho : o.op = .store T x y)
    (cs : Array Value) (hx : ac.eval x = .pointer (some ⟨q, 0, none⟩)) (hy : ac.eval y = .agg cs) (hi : (Try.prog.info? T).map (·.size) = some cs.size) (hold : old.size = cs.size) (h1 : cs.all (·.oneCell') = true)
    (h : ∀ w', DS B cb w0 w' (b :: ⟨q, T, cs⟩ :: b2) L → wpList Try.prog ops Q rest (ac.put o.dst undef) w') : wpList Try.prog ops Q (o :: rest) ac w :=
  wpList_stD (b1 := [b]) D hgd x y ho cs hx hy hi hold h1 h
theorem wpList_set1 {ops : Array Oper} {rest : List Oper} {o : Oper} {ac : Act} {Q : Exit → Act → World → Prop} (hgd : o.guard = none) (ty : TypeId) (x y : Operand) (ho : o.op = .store ty x y)
    (q j : Nat) (u : Value) (hx : ac.eval x = .pointer (some ⟨q, j, none⟩)) (hy : ac.eval y = u) (T : TypeId) (cs : Array Value) (hb : Bx w q T cs) (hj : j < cs.size) (hi : (Try.prog.info? ty).map (·.size) = some 1) (hu : u.cells = #[u]) (h1 : u.oneCell' = true)
    (h : ∀ w', Bx w' q T (cs.setIfInBounds j u) → w.grownBy w' (some q) → wpList Try.prog ops Q rest (ac.put o.dst undef) w') : wpList Try.prog ops Q (o :: rest) ac w := by
  refine wpList_plain hgd fun _ hK => ?_
  have hs := run_storeCells_cells (P := Try.prog) q j [u] 0 w (fun i hi => by
    obtain rfl : i = 0 := by simpa using hi
    rw [hb.cell]
    simp [hj]) (fun i hi => hb.frozen _) (fun v hv => by simp at hv; subst hv; exact h1)
  have hr : (storeVar ty ⟨q, j, none⟩ u).run Try.prog w = .ok () (w.setCell ⟨q, j, none⟩ u) := by
    cases hq : Try.prog.info? ty with
    | none => simp [hq] at hi
    | some i =>
      have hz : i.size = 1 := by simpa [hq] using hi
      simp only [Nat.add_zero] at hs
      simp [storeVar, sizeOf, typeInfo, hq, hu, hz, hs, World.setCells]
  unfold Oper.wp execOp
  simp only [ho, hx, hy, Instr.storeAt, Instr.sureAddr, Sem.run_bind, Sem.run_pure, Result.andThen_ok, hr]
  exact hK _ _ (h _ (hb.set j u) (gb_set (gb_reflr w _) (.inr rfl) u))
/-- one cell of a variable -/
theorem wpList_seD0 {ops : Array Oper} {rest : List Oper} {o : Oper} {ac : Act} {Q : Exit → Act → World → Prop} {q : Nat} {T : TypeId} {cs : Array Value} {b2 : List Vb} (D : DS B cb w0 w (⟨q, T, cs⟩ :: b2) L) (hgd : o.guard = none) (ty : TypeId) (x y : Operand) (ho : o.op = .store ty x y)
    (j : Nat) (u : Value) (hx : ac.eval x = .pointer (some ⟨q, j, none⟩)) (hy : ac.eval y = u) (hj : j < cs.size) (hi : (Try.prog.info? ty).map (·.size) = some 1) (hu : u.cells = #[u]) (h1 : u.oneCell' = true) (cs' : Array Value) (hc : cs.setIfInBounds j u = cs')
    (h : ∀ w', DS B cb w0 w' (⟨q, T, cs'⟩ :: b2) L → wpList Try.prog ops Q rest (ac.put o.dst undef) w') : wpList Try.prog ops Q (o :: rest) ac w := by
  subst hc
  exact wpList_set1 hgd ty x y ho q j u hx hy T cs (D.bx _ (List.mem_cons_self ..)).1 hj hi hu h1 fun w' h2 h3 => h w' (D.row (b1 := []) rfl h2 h3)
theorem DS.cell0 {q : Nat} {T : TypeId} {cs : Array Value} {b2 : List Vb} (D : DS B cb w0 w (⟨q, T, cs⟩ :: b2) L) (j : Nat) : w.cell? ⟨q, j, none⟩ = cs[j]? := (D.bx _ (List.mem_cons_self ..)).1.cell j
theorem DS.cell1 {b : Vb} {q : Nat} {T : TypeId} {cs : Array Value} {b2 : List Vb} (D : DS B cb w0 w (b :: ⟨q, T, cs⟩ :: b2) L) (j : Nat) : w.cell? ⟨q, j, none⟩ = cs[j]? := (D.bx _ (List.mem_cons_of_mem _ (List.mem_cons_self ..))).1.cell j
theorem DS.frz0 {q : Nat} {T : TypeId} {cs : Array Value} {b2 : List Vb} (D : DS B cb w0 w (⟨q, T, cs⟩ :: b2) L) (j : Nat) : w.frozen? ⟨q, j, none⟩ = false := (D.bx _ (List.mem_cons_self ..)).1.frozen j
theorem DS.set0 {q : Nat} {T : TypeId} {cs : Array Value} {b2 : List Vb} (D : DS B cb w0 w (⟨q, T, cs⟩ :: b2) L) (j : Nat) (u : Value) : DS B cb w0 (w.setCell ⟨q, j, none⟩ u) (⟨q, T, cs.setIfInBounds j u⟩ :: b2) L :=
  D.row (b1 := []) rfl ((D.bx _ (List.mem_cons_self ..)).1.set j u) (gb_set (gb_reflr w _) (.inr rfl) u)
theorem DS.set1 {b : Vb} {q : Nat} {T : TypeId} {cs : Array Value} {b2 : List Vb} (D : DS B cb w0 w (b :: ⟨q, T, cs⟩ :: b2) L) (j : Nat) (u : Value) : DS B cb w0 (w.setCell ⟨q, j, none⟩ u) (b :: ⟨q, T, cs.setIfInBounds j u⟩ :: b2) L :=
  D.row (b1 := [b]) rfl ((D.bx _ (List.mem_cons_of_mem _ (List.mem_cons_self ..))).1.set j u) (gb_set (gb_reflr w _) (.inr rfl) u)
theorem DS.r0 {s : Sv} (D : DS B cb w0 w bs (s :: L)) : Rd w s.a s.n s.c s.xs := (D.rs _ (List.mem_cons_self ..)).1
theorem DS.r1 {s t : Sv} (D : DS B cb w0 w bs (s :: t :: L)) : Rd w t.a t.n t.c t.xs := (D.rs _ (by simp)).1
/-- bytes, integers that a draw has made since W -/
def BR (W w : World) (a : Option Addr) (n c : Nat) : Prop := ∃ l, Rd w a n c (bys l) ∧ (0 < n → ∀ p, a = some p → W.heap.size ≤ p.block) ∧ n ≤ 256
def IR (W w : World) (a : Option Addr) (n c : Nat) : Prop := ∃ l, Rd w a n c (ins l) ∧ (0 < n → ∀ p, a = some p → W.heap.size ≤ p.block) ∧ n ≤ 256
theorem BR.nil (W w : World) : BR W w none 0 0 := ⟨[], Rd.nil w none 0, fun h => absurd h (Nat.lt_irrefl 0), by decide⟩
theorem IR.nil (W w : World) : IR W w none 0 0 := ⟨[], Rd.nil w none 0, fun h => absurd h (Nat.lt_irrefl 0), by decide⟩
theorem DS.tl {s : Sv} (D : DS B cb w0 w bs (s :: L)) : DS B cb w0 w bs L := ⟨D.cur, D.lb, D.dr, fun s hs => D.rs s (List.mem_cons_of_mem _ hs), D.bx, D.dj⟩
theorem DS.b0 {a : Option Addr} {n c : Nat} {l : List UInt8} (D : DS B cb w0 w bs (⟨a, n, c, bys l⟩ :: L)) : BR w0 w a n c :=
  have h := D.rs _ (List.mem_cons_self ..)
  ⟨l, h.1, fun h0 p hp => (h.2.1 h0 p hp).1.1, h.2.2⟩
theorem DS.i0 {a : Option Addr} {n c : Nat} {l : List Int} (D : DS B cb w0 w bs (⟨a, n, c, ins l⟩ :: L)) : IR w0 w a n c :=
  have h := D.rs _ (List.mem_cons_self ..)
  ⟨l, h.1, fun h0 p hp => (h.2.1 h0 p hp).1.1, h.2.2⟩
theorem DS.adB (D : DS B cb w0 w bs L) {L' : List Sv} (D' : DS B cb w0 w' bs L') {a : Option Addr} {n c : Nat} (h : BR w w' a n c) : ∃ l, DS B cb w0 w' bs (⟨a, n, c, bys l⟩ :: L') := by
  obtain ⟨l, r, hf, hn⟩ := h
  exact ⟨l, D.addF D' r hf hn⟩
theorem DS.adI (D : DS B cb w0 w bs L) {L' : List Sv} (D' : DS B cb w0 w' bs L') {a : Option Addr} {n c : Nat} (h : IR w w' a n c) : ∃ l, DS B cb w0 w' bs (⟨a, n, c, ins l⟩ :: L') := by
  obtain ⟨l, r, hf, hn⟩ := h
  exact ⟨l, D.addF D' r hf hn⟩
theorem Dr.gb0 {cb : Nat} {a b c : World} (h : Dr cb b c) (g : a.grownBy b none) (hc : a.heap.size ≤ cb) : a.grownBy c none :=
  ⟨h.os.trans g.os, h.tape.trans g.tape, h.output.trans g.output, Nat.le_trans g.size h.size, fun k hk hn => (h.block k (Nat.lt_of_lt_of_le hk g.size) (.inl (by omega))).trans (g.block k hk hn)⟩
/-- how a draw ends -/
structure DE (B cb : Nat) (w0 w : World) : Prop where
  cur : Cur B w cb
  dr : Dr cb w0 w
theorem DS.de (D : DS B cb w0 w bs L) : DE B cb w0 w := ⟨D.cur, D.dr⟩
theorem DS.by (D : DS B cb w0 w bs L) (E : DE B cb w w') : DS B cb w0 w' bs L := D.step E.cur E.dr
theorem DS.sub {L' : List Sv} (D : DS B cb w0 w bs L) (h : ∀ s ∈ L', s ∈ L) : DS B cb w0 w bs L' := ⟨D.cur, D.lb, D.dr, fun s hs => D.rs s (h s hs), D.bx, D.dj⟩
theorem DS.addN (D : DS B cb w0 w bs L) : DS B cb w0 w bs (⟨none, 0, 0, []⟩ :: L) := D.add (Rd.nil w none 0) (fun h => absurd h (Nat.lt_irrefl 0)) (by decide)
theorem DS.nob (D : DS B cb w0 w bs L) : DS B cb w0 w [] L := ⟨D.cur, D.lb, D.dr, fun s hs => ⟨(D.rs s hs).1, fun h0 p hp => ⟨((D.rs s hs).2.1 h0 p hp).1, by simp⟩, (D.rs s hs).2.2⟩, by simp, List.Pairwise.nil⟩
end
/-- integers of a literal -/
def unI : Value → Int
  | .int _ x => x
  | _ => 0
def ofL (l : List Int) (x : Int) : Prop := x ∈ l
theorem ofL.le {l : List Int} {x b : Int} (h : ofL l x) (hb : l.all (· ≤ b) = true) : x ≤ b := by
  have := List.all_eq_true.1 hb x h
  simpa using this
theorem ofL.ge {l : List Int} {x b : Int} (h : ofL l x) (hb : l.all (b ≤ ·) = true) : b ≤ x := by
  have := List.all_eq_true.1 hb x h
  simpa using this
section
variable {B cb : Nat} {w0 w : World} {bs : List Vb} {L : List Sv} {Q : Ending → World → Prop}
theorem d_l1Below {x : Int} (D : DS B cb w0 w bs L) (k : ∀ w' (z : Nat), ((z : Int) < x ∨ (x ≤ 0 ∧ z = 0)) → DS B cb w0 w' bs L → Q (.returned (.int .i64 (z : Int))) w') : Calls Try.prog 24 #[.pointer (some ⟨cb, 0, none⟩), .int .i64 x] w Q :=
  (spec_l1Below B cb x w D.cur).mono fun e w' ⟨z, h, he, c, d⟩ => by subst he; exact k w' z h (D.step c d)
theorem d_l1Int {g n : Nat} {cs : Array Value} (D : DS B cb w0 w bs L) (hg : w.heap.size = g) (hl : cs.toList = ins (cs.toList.map unI)) (hn : cs.size = n) (h0 : 0 < n) (hm : n ≤ 1048576) (k : ∀ w' x, ofL (cs.toList.map unI) x → DS B cb w0 w' bs L → Q (.returned (.int .i64 x)) w') :
    Calls Try.prog 22 #[.pointer (some ⟨cb, 0, none⟩), .slice (some ⟨g, 0, none⟩) n n] (w.alloc (.cells cs 3)) Q := by
  subst hg
  have D1 := D.alloc (.cells cs 3)
  have hcb := D.cur.lt
  refine (spec_l1Int B cb _ n n (cs.toList.map unI) _ D1.cur ⟨by rw [← hl]; exact new_rd w cs _ n hn, fun p hp => by cases hp; simp only; omega⟩ h0 hm).mono fun e w' ⟨x, h, he, c, d⟩ => ?_
  subst he
  exact k w' x h (D1.step c d)
theorem d_l1Bytes {x : Int} (D : DS B cb w0 w bs L) (hx : x ≤ 256) (k : ∀ w' a n c l, Hid (n = x.toNat) → DS B cb w0 w' bs (⟨a, n, c, bys l⟩ :: L) → Q (.returned (.slice a n c)) w') :
    Calls Try.prog 21 #[.pointer (some ⟨cb, 0, none⟩), .int .i64 x] w Q :=
  (spec_l1Bytes B cb x w D.cur (by omega)).mono fun e w' ⟨a, n, c, l, he, hl, o, cu, d⟩ => by
    subst he
    have hn : n = x.toNat := by rw [← o.blen, hl]
    exact k w' a n c l hn (D.addO (D.step cu d) o (by omega))
end
end Go.Proofs.Ytpfchphgbhgmmaa

/-
  A draw that says yes once in so many times. Conditions: none beside those that each theorem names.
-/
namespace Go.Proofs.Ytpfchphgbhgmmaa
open Go.RowKit
theorem spec_l1Once (B cb : Nat) (x : Int) (w : World) (h : Cur B w cb) :
    Calls Try.prog 44 #[.pointer (some ⟨cb, 0, none⟩), .int .i64 x] w fun e w' => ∃ o : Bool, e = .returned (.bool o) ∧ DE B cb w w' := by
  go_enter Try.func44, Try.ntmps44
  go_wp2_with (go_at_call 24; refine (spec_l1Below B cb x w h).mono ?_; rintro e w1 ⟨z, hz, rfl, cu, d⟩)
  go_ret
  exact ⟨_, rfl, cu, d⟩
theorem d_l1Once {B cb : Nat} {w0 w : World} {bs : List Vb} {L : List Sv} {Q : Ending → World → Prop} {x : Int} (D : DS B cb w0 w bs L) (k : ∀ w' (o : Bool), DS B cb w0 w' bs L → Q (.returned (.bool o)) w') : Calls Try.prog 44 #[.pointer (some ⟨cb, 0, none⟩), .int .i64 x] w Q :=
  (spec_l1Once B cb x w D.cur).mono fun e w' ⟨o, he, E⟩ => by subst he; exact k w' o (D.by E)
end Go.Proofs.Ytpfchphgbhgmmaa

/-
  Draws of what is sealed. Conditions: none beside those that each theorem names.
-/
namespace Go.Proofs.Ytpfchphgbhgmmaa
open Go.RowKit
def PKi (B cb : Nat) (w : World) (e : Ending) (w' : World) : Prop := ∃ k a n c, e = .returned (.tuple #[.int .i64 k, .slice a n c]) ∧ DE B cb w w' ∧ BR w w' a n c
theorem d_PKi {f : FuncId} {B cb : Nat} {w0 w : World} {bs : List Vb} {L : List Sv} {Q : Ending → World → Prop} {args : Array Value} (D : DS B cb w0 w bs L) (H : Calls Try.prog f args w (PKi B cb w))
    (k : ∀ w' (x : Int) a n c l, DS B cb w0 w' bs (⟨a, n, c, bys l⟩ :: L) → Q (.returned (.tuple #[.int .i64 x, .slice a n c])) w') : Calls Try.prog f args w Q :=
  H.mono fun e w' ⟨x, a, n, c, he, E, h⟩ => by
    subst he
    obtain ⟨l, D1⟩ := D.adB (D.by E) h
    exact k w' x a n c l D1
set_option maxRecDepth 1000000 in
set_option maxHeartbeats 1000000 in
theorem spec_l9Kind (B cb : Nat) (w : World) (h : Cur B w cb) : Calls Try.prog 23 #[.pointer (some ⟨cb, 0, none⟩)] w (PKi B cb w) := by
  have D := DS.start h
  go_enter Try.func23, Try.ntmps23
  go_wp2_with (first | (go_at_call 24; (first | (with_reducible refine d_l1Below D ?_) | (with_reducible refine d_l1Below (D.set0 _ _) ?_) | (with_reducible refine d_l1Below (D.box _ _) ?_) | (with_reducible refine d_l1Below ((D.set0 _ _).set0 _ _) ?_) | (with_reducible refine d_l1Below ((D.box _ _).set0 _ _) ?_)); clear D; intro w1 z hz D; (try clear kc kf); (try simp only [List.setIfInBounds_toArray, List.set_cons_succ, List.set_cons_zero] at D); (try (have kc := fun o => DS.cell0 D o; have kf := fun o => DS.frz0 D o))) | (go_at_call 21; (first | (with_reducible refine d_l1Bytes D ?_ ?_) | (with_reducible refine d_l1Bytes (D.set0 _ _) ?_ ?_) | (with_reducible refine d_l1Bytes (D.box _ _) ?_ ?_) | (with_reducible refine d_l1Bytes ((D.set0 _ _).set0 _ _) ?_ ?_) | (with_reducible refine d_l1Bytes ((D.box _ _).set0 _ _) ?_ ?_)); (focus (first | omega | (have h9 := ofL.le hi (b := 256) (by decide); omega))); clear D; intro w1 a n c l hn D; (try clear kc kf); (try simp only [List.setIfInBounds_toArray, List.set_cons_succ, List.set_cons_zero] at D); (try (have kc := fun o => DS.cell0 D o; have kf := fun o => DS.frz0 D o))) | (go_at_call 22; (first | (with_reducible refine d_l1Int D ?_ ?_ ?_ ?_ ?_ ?_) | (with_reducible refine d_l1Int (D.set0 _ _) ?_ ?_ ?_ ?_ ?_ ?_) | (with_reducible refine d_l1Int (D.box _ _) ?_ ?_ ?_ ?_ ?_ ?_) | (with_reducible refine d_l1Int ((D.set0 _ _).set0 _ _) ?_ ?_ ?_ ?_ ?_ ?_) | (with_reducible refine d_l1Int ((D.box _ _).set0 _ _) ?_ ?_ ?_ ?_ ?_ ?_)); (focus (first | rfl | (simp; done))); (focus (exact rfl)); (focus rfl); (focus decide); (focus decide); clear D; intro w1 x hi D; (try clear kc kf); (try simp only [List.setIfInBounds_toArray, List.set_cons_succ, List.set_cons_zero] at D); (try (have kc := fun o => DS.cell0 D o; have kf := fun o => DS.frz0 D o))))
  all_goals (refine' bodyPost_ret ?_ rfl ?_; rotate_left; (focus (simp [results, Try.results23, go_sem]; rfl)); exact ⟨_, _, _, _, rfl, D.de, D.b0⟩)
def PSe (w : World) (e : Ending) (w' : World) : Prop := ∃ a0 n0 c0 role a2 n2 c2 ep sq kind a6 n6 c6, e = .returned (.tuple #[.slice a0 n0 c0, .int .i64 role, .slice a2 n2 c2, .int .i64 ep, .int .i64 sq, .int .i64 kind, .slice a6 n6 c6]) ∧ BR w w' a0 n0 c0 ∧ BR w w' a2 n2 c2 ∧ BR w w' a6 n6 c6 ∧ w.grownBy w' none
set_option maxRecDepth 1000000 in
set_option maxHeartbeats 4000000 in
theorem spec_DrawSeal (a : Option Addr) (n c : Nat) (l : List UInt8) (w : World) (r : Rd w a n c (bys l)) (hn : n ≤ 1048576) : Calls Try.prog 6 #[.slice a n c] w (PSe w) := by
  have hp : 0 < n → ∀ p, a = some p → p.block < w.heap.size := by
    intro h0 p hp
    obtain ⟨b, off, h1, h2, -⟩ := r.pos h0
    rw [h1] at hp
    cases hp
    exact h2
  go_enter Try.func6, Try.ntmps6
  go_wp2_with (first
    | (go_at_call 20; refine (spec_l1New a n c l w.heap.size _ r hn hp (Nat.le_refl _)).mono ?_; rintro e w1 ⟨cb, rfl, cu, hc, g⟩; have D := DS.init cu g; clear g cu)
    | (go_at_call 23; (with_reducible refine d_PKi D (spec_l9Kind _ cb _ D.cur) ?_); clear D; intro w1 k a n c l D)
    | (go_at_call 24; (first | (with_reducible refine d_l1Below D ?_) | (with_reducible refine d_l1Below (D.set0 _ _) ?_) | (with_reducible refine d_l1Below (D.box _ _) ?_) | (with_reducible refine d_l1Below ((D.set0 _ _).set0 _ _) ?_) | (with_reducible refine d_l1Below ((D.box _ _).set0 _ _) ?_)); clear D; intro w1 z hz D; (try clear kc kf); (try simp only [List.setIfInBounds_toArray, List.set_cons_succ, List.set_cons_zero] at D); (try (have kc := fun o => DS.cell0 D o; have kf := fun o => DS.frz0 D o))) | (go_at_call 21; (first | (with_reducible refine d_l1Bytes D ?_ ?_) | (with_reducible refine d_l1Bytes (D.set0 _ _) ?_ ?_) | (with_reducible refine d_l1Bytes (D.box _ _) ?_ ?_) | (with_reducible refine d_l1Bytes ((D.set0 _ _).set0 _ _) ?_ ?_) | (with_reducible refine d_l1Bytes ((D.box _ _).set0 _ _) ?_ ?_)); (focus (first | omega | (have h9 := ofL.le hi (b := 256) (by decide); omega))); clear D; intro w1 a n c l hn D; (try clear kc kf); (try simp only [List.setIfInBounds_toArray, List.set_cons_succ, List.set_cons_zero] at D); (try (have kc := fun o => DS.cell0 D o; have kf := fun o => DS.frz0 D o))) | (go_at_call 22; (first | (with_reducible refine d_l1Int D ?_ ?_ ?_ ?_ ?_ ?_) | (with_reducible refine d_l1Int (D.set0 _ _) ?_ ?_ ?_ ?_ ?_ ?_) | (with_reducible refine d_l1Int (D.box _ _) ?_ ?_ ?_ ?_ ?_ ?_) | (with_reducible refine d_l1Int ((D.set0 _ _).set0 _ _) ?_ ?_ ?_ ?_ ?_ ?_) | (with_reducible refine d_l1Int ((D.box _ _).set0 _ _) ?_ ?_ ?_ ?_ ?_ ?_)); (focus (first | rfl | (simp; done))); (focus (exact rfl)); (focus rfl); (focus decide); (focus decide); clear D; intro w1 x hi D; (try clear kc kf); (try simp only [List.setIfInBounds_toArray, List.set_cons_succ, List.set_cons_zero] at D); (try (have kc := fun o => DS.cell0 D o; have kf := fun o => DS.frz0 D o))))
  all_goals (refine' bodyPost_ret ?_ rfl ?_; rotate_left; (focus (simp [results, Try.results6, go_sem]; rfl)); exact ⟨_, _, _, _, _, _, _, _, _, _, _, _, _, rfl, by (first | exact BR.nil _ _ | exact D.b0 | exact D.tl.b0 | exact D.tl.tl.b0 | exact D.tl.tl.tl.b0 | exact D.tl.tl.tl.tl.b0 | exact D.tl.tl.tl.tl.tl.b0 | exact D.tl.tl.tl.tl.tl.tl.b0), by (first | exact BR.nil _ _ | exact D.b0 | exact D.tl.b0 | exact D.tl.tl.b0 | exact D.tl.tl.tl.b0 | exact D.tl.tl.tl.tl.b0 | exact D.tl.tl.tl.tl.tl.b0 | exact D.tl.tl.tl.tl.tl.tl.b0), by (first | exact BR.nil _ _ | exact D.b0 | exact D.tl.b0 | exact D.tl.tl.b0 | exact D.tl.tl.tl.b0 | exact D.tl.tl.tl.tl.b0 | exact D.tl.tl.tl.tl.tl.b0 | exact D.tl.tl.tl.tl.tl.tl.b0), D.gb hc⟩)
end Go.Proofs.Ytpfchphgbhgmmaa

/-
  Draws of numbers near one another, with leaps. Conditions: none beside those that each theorem names.
-/
namespace Go.Proofs.Ytpfchphgbhgmmaa
open Go.RowKit
/-- append of one number onto numbers that the call owns -/
theorem wpList_appZ {w : World} {ops : Array Oper} {rest : List Oper} {o : Oper} {ac : Act} {Q : Exit → Act → World → Prop} (hgd : o.guard = none) (s x : Operand)
    (ho : o.op = .call { callee := .builtin .append, args := #[s, x], argTypes := #[37, 37] })
    (B : Nat) (a : Option Addr) (n c : Nat) (l : List Int) (hse : ac.eval s = .slice a n c) (hown : Ow B w 3 a n c (ins l)) (b : Option Addr) (m d : Nat) (k : List Int) (hx : ac.eval x = .slice b m d) (hs : Rd w b m d (ins k))
    (hsz : l.length + k.length ≤ 1073741824) (hbase : B ≤ w.heap.size)
    (h : ∀ a' n' c' w', Ow B w' 3 a' n' c' (ins (l ++ k)) → w.grownBy w' (a.map (·.block)) → wpList Try.prog ops Q rest (ac.put o.dst (.slice a' n' c')) w') : wpList Try.prog ops Q (o :: rest) ac w := by
  obtain ⟨i0, hi, hz0, hz1, hz2⟩ := info_parts inf_int
  have h1 := hown.rd.ilen
  have h2 := hs.ilen
  refine wpList_app hgd s x 37 37 ho B 3 i0 (.int .i64 0) 8 Try.underlying37 hi hz0 hz1 hz2 rfl a n c (ins l) hse hown _ hx m (ins k) (hs.src Try.underlying37 (by simp [ins, Value.oneCell'])) (by unfold maxLen; omega) (by omega) hbase ?_
  intro a' c' w' o' g' _
  rw [show ins l ++ ins k = ins (l ++ k) by simp [ins]] at o'
  exact h _ _ _ _ o' g'
/-- the cursor stands, and the numbers so far are the call's own -/
structure NS (B cb : Nat) (w0 w : World) (a : Option Addr) (n c : Nat) (l : List Int) : Prop where
  cur : Cur B w cb
  dr : Dr cb w0 w
  ow : Ow w0.heap.size w 3 a n c (ins l)
  lt : cb < w0.heap.size
section
variable {B cb : Nat} {w0 w w' : World} {a : Option Addr} {n c : Nat} {l : List Int}
theorem NS.by (N : NS B cb w0 w a n c l) (E : DE B cb w w') : NS B cb w0 w' a n c l :=
  ⟨E.cur, N.dr.trans E.dr, N.ow.keepI E.dr (fun p hp => .inr (by have := (N.ow.lt p hp).1; have := N.lt; omega)), N.lt⟩
theorem NS.new (h : Cur B w cb) : NS B cb w (w.alloc (.cells #[] 3)) (some ⟨w.heap.size, 0, none⟩) 0 0 [] :=
  ⟨h.alloc _, (Dr.refl _ _).alloc _, new_own _ _, h.lt⟩
theorem NS.grow (N : NS B cb w0 w a n c l) (g : w.grownBy w' none) : NS B cb w0 w' a n c l := N.by ⟨N.cur.keep0 g, Dr.of0 g⟩
theorem NS.app (N : NS B cb w0 w a n c l) {a' : Option Addr} {n' c' : Nat} {l' : List Int} (o : Ow w0.heap.size w' 3 a' n' c' (ins l')) (g : w.grownBy w' (a.map (·.block))) : NS B cb w0 w' a' n' c' l' :=
  ⟨N.cur.keepI (gbI.ofRow (B := w0.heap.size) (S := blkS a) g (fun g hg => by obtain ⟨p, hp, rfl⟩ := rowOf hg; exact ⟨(N.ow.lt p hp).1, blk_lt p hp⟩)) (by have := N.cur.le; have := N.lt; omega) (.inl N.lt),
    N.dr.row2 g (fun g hg => by obtain ⟨p, hp, rfl⟩ := rowOf hg; exact (N.ow.lt p hp).1), o, N.lt⟩
theorem NS.ds (N : NS B cb w0 w a n c l) : DS B cb w w [] [] := DS.start N.cur
end
theorem new_ins1 (w : World) (t : TypeId) (x : Int) : Rd (w.alloc (.cells #[.int .i64 x] t)) (some ⟨w.heap.size, 0, none⟩) 1 1 (ins [x]) := new_rd w #[.int .i64 x] t 1 rfl
def PNu (B cb : Nat) (w : World) (e : Ending) (w' : World) : Prop := ∃ a n c l, e = .returned (.slice a n c) ∧ NS B cb w w' a n c l ∧ n ≤ 256
set_option maxRecDepth 1000000 in
set_option maxHeartbeats 4000000 in
theorem spec_l8Nums (B cb : Nat) (x : Int) (w : World) (h : Cur B w cb) (h0 : 0 ≤ x) (hx : x ≤ 200) :
    Calls Try.prog 88 #[.pointer (some ⟨cb, 0, none⟩), .int .i64 x] w (PNu B cb w) := by
  have N := NS.new h
  go_enter Try.func88, Try.ntmps88
  go_wp2_with (first | (go_at_call 22; (with_reducible refine d_l1Int N.ds ?_ ?_ ?_ ?_ ?_ ?_); (focus (first | rfl | (simp; done))); (focus (exact rfl)); (focus rfl); (focus decide); (focus decide); intro w1 u hi D; replace N := N.by D.de; clear D hi) | (go_at_call 24; (with_reducible refine d_l1Below N.ds ?_); intro w1 z hz D; replace N := N.by D.de; clear D))
  go_loopw [5, 6, 7] (fun v b i wr => ∃ (j m cc : Nat) (aa : Option Addr) (l : List Int) (y : Int), ((j + m : Nat) : Int) ≤ max (x + 1) 0 ∧ i = .int .i64 (j : Int) ∧ b = .int .i64 y ∧ v = .slice aa m cc ∧ NS B cb w wr aa m cc l) (fun _ _ i _ => (intOf i).toNat)
  case atStart => exact ⟨_, _, _, _, _, _, by omega, rfl, rfl, rfl, N⟩
  case round =>
    clear N
    obtain ⟨j, m, cc, aa, l, y, hj, rfl, rfl, rfl, N⟩ := hrel
    have hm := Lib.hid N.ow.rd.ilen
    by_cases hlt : 0 < j
    · obtain ⟨j, rfl⟩ : ∃ i, j = i + 1 := ⟨j - 1, by omega⟩
      go_wp2_with (first | (go_at_call 22; (with_reducible refine d_l1Int N.ds ?_ ?_ ?_ ?_ ?_ ?_); (focus (first | rfl | (simp; done))); (focus (exact rfl)); (focus rfl); (focus decide); (focus decide); intro w1 u hi D; replace N := N.by D.de; clear D hi) | (go_at_call 24; (with_reducible refine d_l1Below N.ds ?_); intro w1 z hz D; replace N := N.by D.de; clear D) | (go_at_call 44; (with_reducible refine d_l1Once N.ds ?_); intro w1 o D; replace N := N.by D.de; clear D; cases o) | (at_builtin; refine wpList_appZ rfl (.tmp 27) (.tmp 36) rfl w.heap.size _ _ _ _ rfl (N.grow (gb_alloc (gb_refl _) _)).ow _ 1 1 _ rfl (new_ins1 _ _ _) (by have := N.ow.rd.ilen; simp; omega) (by have := N.dr.size; simp; omega) ?_; intro a9 n9 c9 w9 o9 g9; replace N := (N.grow (gb_alloc (gb_refl _) _)).app o9 g9; clear o9 g9))
      all_goals (refine ⟨⟨j, _, _, _, _, _, ?_, rfl, rfl, rfl, N⟩, by simp [intOf]⟩; (have h9 := N.ow.rd.ilen); (simp at h9); (have h8 := hm.out); omega)
    · obtain rfl : j = 0 := by omega
      go_wp2_with (first | (go_at_call 22; (with_reducible refine d_l1Int N.ds ?_ ?_ ?_ ?_ ?_ ?_); (focus (first | rfl | (simp; done))); (focus (exact rfl)); (focus rfl); (focus decide); (focus decide); intro w1 u hi D; replace N := N.by D.de; clear D hi) | (go_at_call 24; (with_reducible refine d_l1Below N.ds ?_); intro w1 z hz D; replace N := N.by D.de; clear D) | (go_at_call 44; (with_reducible refine d_l1Once N.ds ?_); intro w1 o D; replace N := N.by D.de; clear D; cases o) | (at_builtin; refine wpList_appZ rfl (.tmp 40) (.tmp 44) rfl w.heap.size _ _ _ _ rfl (N.grow (gb_alloc (gb_refl _) _)).ow _ 1 1 _ rfl (new_ins1 _ _ _) (by have := N.ow.rd.ilen; simp; omega) (by have := N.dr.size; simp; omega) ?_; intro a9 n9 c9 w9 o9 g9; replace N := (N.grow (gb_alloc (gb_refl _) _)).app o9 g9; clear o9 g9))
      all_goals (go_ret; refine ⟨_, _, _, _, rfl, N, ?_⟩; (have h9 := N.ow.rd.ilen); (try simp at h9); (have h8 := hm.out); omega)
end Go.Proofs.Ytpfchphgbhgmmaa

/-
  Contracts of the two functions that build a window out of numbers. Conditions: none beside those that each theorem names.
-/
namespace Go.Proofs.Ytpfchphgbhgmmaa
open Go.RowKit
def winOf (l : List Int) : WinM := l.foldl winAddM winNew
theorem winOf_succ {l : List Int} {j : Nat} {x : Int} (h : l[j]? = some x) : winOf (l.take (j + 1)) = winAddM (winOf (l.take j)) x := by
  rw [take_succ_some h, winOf, List.foldl_append]
  rfl
theorem winAddM_len (f : WinM) (n : Int) : (winAddM f n).bits.length = f.bits.length := by have := winAddM_tot f n; simpa [WinM.tot] using this
theorem winFold_len (l : List Int) : ∀ f : WinM, (l.foldl winAddM f).bits.length = f.bits.length := by
  induction l with
  | nil => intro f; rfl
  | cons x r ih => intro f; rw [List.foldl_cons, ih, winAddM_len]
theorem winOf_tot (l : List Int) : (winOf l).tot = 32 := by
  rw [WinM.tot, winOf, winFold_len]
  rfl
theorem spec_WinAddM (v : Value) (f : WinM) (n : Int) (w : World) (h : WinR w v f) (hn : f.bits.length ≤ 1073741824) : Calls Try.prog 94 #[v, .int .i64 n] w fun e w' => ∃ v', e = .returned (.tuple #[v', .bool (winMay f n)]) ∧ WinO w.heap.size w'.heap.size w' v' (winAddM f n) ∧ w.grownBy w' none := by
  rw [← winAddS_eq]
  exact spec_WinAdd v f n w h hn
set_option maxRecDepth 100000 in
set_option maxHeartbeats 1000000 in
theorem spec_WinOf (a0 : Option Addr) (n0 c0 : Nat) (l : List Int) (w : World) (h : Rd w a0 n0 c0 (ins l)) (hn : n0 ≤ 1048576) :
    Calls Try.prog 87 #[.slice a0 n0 c0] w fun e w' => ∃ v', e = .returned v' ∧ WinO w.heap.size w'.heap.size w' v' (winOf l) ∧ w.grownBy w' none := by
  have g0 := gb_alloc (gb_refl w) (.cells #[.int .i64 0, .slice none 0 0] 39)
  have B1 := bx1 w #[.int .i64 0, .slice none 0 0] 39
  go_enter Try.func87, Try.ntmps87
  go_wp2_with fail
  refine (spec_WinNew _).mono ?_
  rintro e w1 ⟨v2, rfl, ho, g1⟩
  obtain ⟨a2, n2, c2, rfl, ho, hu⟩ := ho
  replace B1 := B1.keep0 g1
  have G1 := gb_trans g0 g1
  have lB1 := B1.lt
  have B2 := bx1 w1 #[.int .i64 winNew.top, .slice a2 n2 c2] 39
  go_wp2
  go_loopw [4] (fun i wr => ∃ (j : Nat) (fj : WinM) (a : Option Addr) (n c : Nat), i = .int .i64 j ∧ j ≤ n0 ∧ Hid (winOf (l.take j) = fj) ∧ w.grownBy wr none ∧ Bx wr w.heap.size 39 #[.int .i64 0, .slice none 0 0] ∧ Bx wr w1.heap.size 39 #[.int .i64 fj.top, .slice a n c] ∧ Ow (w.heap.size + 1) wr 3 a n c (ins fj.bits) ∧ Hid (∀ p, a = some p → p.block ≠ w1.heap.size) ∧ Hid (fj.bits.length = 32)) (fun i _ => n0 - (intOf i).toNat)
  case atStart => exact ⟨0, winNew, a2, n2, c2, rfl, by omega, rfl, gb_alloc G1 _, B1.old _, B2, (ho.mono (by simp)).keep0 (gb_alloc (gb_refl _) _), fun p hp => by have := hu p hp; omega, rfl⟩
  case round =>
    obtain ⟨j, fj, a, n, c, rfl, hj, hfj, hg, hb1, hb2, hown, hne, hlen⟩ := hrel
    clear B1 B2
    have hc1 := fun o => hb1.cell o
    have hc2 := fun o => hb2.cell o
    have hf1 := fun o => hb1.frozen o
    by_cases hlt : j < n0
    · obtain ⟨b, off, x, rfl, hx, hc⟩ := (h.keep0 hg).int j hlt
      have hz3 := hb2.lt
      have hb2a : wr.cell? ⟨w1.heap.size, 0, none⟩ = some (.int .i64 fj.top) := hb2.cell 0
      have hb2b : wr.cell? ⟨w1.heap.size, 1, none⟩ = some (.slice a n c) := hb2.cell 1
      clear hc1 hc2 hf1
      go_wp2_with fail
      go_region_with (go_at_call 94; refine (spec_WinAddM _ fj x _ ⟨_, _, _, rfl, hown.rd.keep0 (gb_drew (gb_refl _))⟩ (by have := hlen.out; omega)).mono ?_; rintro e w3 ⟨v3, rfl, ho3, g3⟩; obtain ⟨a3, n3, c3, rfl, ho3, hu3⟩ := ho3; have hb9 := (hb2.drew).keep0 g3; have hc2 := fun o => hb9.cell o; have hf2 := fun o => hb9.frozen o)
      all_goals
        replace hb1 := (hb1.drew).keep0 g3
        have hz := hb9.lt
        have hz1 : wr.heap.size ≤ w3.heap.size := g3.size
        have hz2 := hg.size
        replace ho3 := ho3.mono (B' := wr.heap.size) (Nat.le_refl _)
        go_wp2
        have e3 : Hid (winOf (l.take (j + 1)) = winAddM fj x) := by simp only [Hid]; rw [winOf_succ hx.out, hfj.out]
        refine ⟨⟨j + 1, winAddM fj x, a3, n3, c3, by go_num, by omega, e3, ?_, ?_, ?_, ?_, ?_, ?_⟩, by simp [intOf]; omega⟩
        · exact gb_set (gb_set (gb_trans (gb_drew hg) g3) (p := ⟨w1.heap.size, 0, none⟩) (.inl (by simp; omega)) _) (p := ⟨w1.heap.size, 1, none⟩) (.inl (by simp; omega)) _
        · exact (hb1.setO _ _ (by simp; omega)).setO _ _ (by simp; omega)
        · exact (hb9.set 0 _).set 1 _
        · have hl3 := fun p hp => (ho3.lt p hp).1
          exact ((ho3.mono (show w.heap.size + 1 ≤ _ by omega)).setO _ _ (fun p hp => by have := hl3 p hp; simp; omega)).setO _ _ (fun p hp => by have := hl3 p hp; simp; omega)
        · exact fun p hp => by have := (ho3.lt p hp).1; omega
        · have := winAddM_len fj x
          have := hlen.out
          simp only [Hid]
          omega
    · obtain rfl : j = n0 := by omega
      have hz := hb2.lt
      have hL := hfj.out
      rw [List.take_of_length_le (by have := h.ilen; omega)] at hL
      have HL := Lib.hid hL
      clear hL
      go_wp2
      refine bodyPost_ret (v := .agg #[.int .i64 fj.top, .slice a n c]) (by simp [results, Try.results87, go_sem, hc1]) rfl ⟨_, rfl, ?_, ?_⟩
      · rw [HL.out]
        refine ⟨_, _, _, rfl, ?_, ?_⟩
        · exact ((hown.keepSet (by simp) _).keepSet (by simp) _).mono (by omega)
        · intro p hp
          have := hown.lt p hp
          simpa using this.2
      · exact gb_set (gb_set hg (p := ⟨w.heap.size, 0, none⟩) (.inl (by simp)) _) (p := ⟨w.heap.size, 1, none⟩) (.inl (by simp)) _
end Go.Proofs.Ytpfchphgbhgmmaa

/-
  Draws of numbers, of a jar's bytes, of two times. Conditions: none beside those that each theorem names.
-/
namespace Go.Proofs.Ytpfchphgbhgmmaa
open Go.RowKit
end Go.Proofs.Ytpfchphgbhgmmaa

/-
  Draws of windows, right or bent. Conditions: none beside those that each theorem names.
-/
namespace Go.Proofs.Ytpfchphgbhgmmaa
open Go.RowKit
theorem run_bZ5 (w : World) : (Instr.buildSlice 37 5 #[(0, .int .i64 (-1)), (1, .int .i64 0), (2, .int .i64 1), (3, .int .i64 4294967295), (4, .int .i64 4294967296)]).run Try.prog w = .ok (.slice (some ⟨w.heap.size, 0, none⟩) 5 5) (w.alloc (.cells #[.int .i64 (-1), .int .i64 0, .int .i64 1, .int .i64 4294967295, .int .i64 4294967296] 3)) := by kernel_rfl
section
variable {w : World} {ops : Array Oper} {o : Oper} {ac : Act} {K : Act → World → Prop} {Q : Exit → Act → World → Prop} {E : Prop}
/-- five numbers laid inside a region that draws its order -/
theorem step_bZ5 (hgd : o.guard = none) (d : Option Tmp) (hd : o.dst = d) (ho : o.op = .buildSlice 37 5 #[(0, .const (.int .i64 (-1))), (1, .const (.int .i64 0)), (2, .const (.int .i64 1)), (3, .const (.int .i64 4294967295)), (4, .const (.int .i64 4294967296))])
    (h : ∀ q w', w.heap.size ≤ q → Rd w' (some ⟨q, 0, none⟩) 5 5 (ins [-1, 0, 1, 4294967295, 4294967296]) → w.grownBy w' none → K (ac.put d (.slice (some ⟨q, 0, none⟩) 5 5)) w') :
    if Region.wanted o (yielded ops ac.tmps) = true then Oper.wp Try.prog o ac w K Q else E := by
  have hw : Region.wanted o (yielded ops ac.tmps) = true := by simp [Region.wanted, hgd]
  rw [if_pos hw]
  subst hd
  have ev : ∀ v, ac.eval (.const v) = v := fun v => rfl
  unfold Oper.wp execOp
  simp only [ho, Sem.run_bind, Sem.run_pure, Result.andThen_ok, List.map_toArray, List.map_cons, List.map_nil, ev, run_bZ5]
  exact h _ _ (Nat.le_refl _) (new_rd w #[.int .i64 (-1), .int .i64 0, .int .i64 1, .int .i64 4294967295, .int .i64 4294967296] _ 5 rfl) (gb_alloc (gb_refl w) _)
/-- one cell of a slice that the call owns -/
theorem step_setS (hgd : o.guard = none) (hd : o.dst = none) (x y : Operand) (ho : o.op = .store 3 x y)
    {B g n c j : Nat} {e : TypeId} {xs : List Value} (u : Value) (hx : ac.eval x = .pointer (some ⟨g, j, none⟩)) (hy : ac.eval y = u) (hb : Ow B w e (some ⟨g, 0, none⟩) n c xs) (hj : j < n) (hu : u.cells = #[u]) (h1 : u.oneCell' = true)
    (h : K ac (w.setCell ⟨g, j, none⟩ u)) : if Region.wanted o (yielded ops ac.tmps) = true then Oper.wp Try.prog o ac w K Q else E := by
  have hw : Region.wanted o (yielded ops ac.tmps) = true := by simp [Region.wanted, hgd]
  rw [if_pos hw]
  obtain ⟨hf, v, hc, -⟩ := hb.at j hj
  have hs := run_storeCells_cells (P := Try.prog) g j [u] 0 w (fun i hi => by
    obtain rfl : i = 0 := by simpa using hi
    simp [hc]) (fun i hi => by
    obtain rfl : i = 0 := by simpa using hi
    simpa using hf) (fun v hv => by simp at hv; subst hv; exact h1)
  have hr : (storeVar 3 ⟨g, j, none⟩ u).run Try.prog w = .ok () (w.setCell ⟨g, j, none⟩ u) := by
    have hi := si_int
    cases hq : Try.prog.info? 3 with
    | none => simp [hq] at hi
    | some i =>
      have hz : i.size = 1 := by simpa [hq] using hi
      simp only [Nat.add_zero] at hs
      simp [storeVar, sizeOf, typeInfo, hq, hu, hz, hs, World.setCells]
  unfold Oper.wp execOp
  simp only [ho, hx, hy, Instr.storeAt, Instr.sureAddr, Sem.run_bind, Sem.run_pure, Result.andThen_ok, hr]
  have hp : ac.put o.dst undef = ac := by rw [hd]; rfl
  rw [← hp] at h
  exact h
/-- the first numbers of a slice, cut inside a region that draws its order -/
theorem step_slZ (hgd : o.guard = none) (d : Option Tmp) (hd : o.dst = d) (x : Operand) (hi : Operand) (ho : o.op = .slice 37 x none (some hi) none)
    (a : Option Addr) (n c k : Nat) (xs : List Value) (hx : ac.eval x = .slice a n c) (hh : ac.eval hi = .int .i64 (k : Int)) (hrd : Rd w a n c xs) (hk : k ≤ n)
    (h : ∀ a' c', Rd w a' k c' (xs.take k) → (∀ p, a' = some p → ∃ q, a = some q ∧ q.block = p.block) → K (ac.put d (.slice a' k c')) w) : if Region.wanted o (yielded ops ac.tmps) = true then Oper.wp Try.prog o ac w K Q else E := by
  have hw : Region.wanted o (yielded ops ac.tmps) = true := by simp [Region.wanted, hgd]
  rw [if_pos hw]
  subst hd
  obtain ⟨i0, hi0, hz0, hz1, hz2⟩ := info_parts inf_int
  have hr := run_sl (P := Try.prog) (w := w) 37 3 i0 Try.underlying37 hi0 hz1 a n c 0 k none (some (.int .i64 (k : Int))) (.inr ⟨rfl, rfl⟩) (.inl ⟨_, rfl⟩) (Nat.zero_le _) (by have := hrd.le; omega)
  unfold Oper.wp execOp
  simp only [ho, Sem.run_bind, Sem.run_pure, Option.map_none, Option.map_some, hx, hh, hr, Result.andThen_ok]
  refine h _ _ ?_ ?_
  · have := hrd.sub 0 k (Nat.zero_le _) hk
    simpa using this
  · intro p hp
    split at hp
    · exact ⟨p, hp, rfl⟩
    · cases a with
      | none => cases hp
      | some q =>
        simp only [Option.map_some, Option.some.injEq] at hp
        subst hp
        refine ⟨q, rfl, ?_⟩
        unfold Addr.add
        split <;> rfl
end
def PWi (B cb : Nat) (w : World) (e : Ending) (w' : World) : Prop := ∃ t a c l, e = .returned (.agg #[.int .i64 t, .slice a 32 c]) ∧ Ow w.heap.size w' 3 a 32 c (ins l) ∧ DE B cb w w'
set_option maxRecDepth 1000000 in
theorem spec_l8Draw (B cb : Nat) (w : World) (h : Cur B w cb) : Calls Try.prog 74 #[.pointer (some ⟨cb, 0, none⟩)] w (PWi B cb w) := by
  have hcb := h.lt
  have D := (DS.start h).box #[.int .i64 0, .slice none 0 0] 39
  go_enter Try.func74, Try.ntmps74
  go_wp2_with (first
    | (go_at_call 88; (with_reducible refine (spec_l8Nums B cb 12 _ D.cur (by decide) (by decide)).mono ?_); rintro e w1 ⟨a2, n2, c2, l2, rfl, N, hm⟩; replace D := D.by ⟨N.cur, N.dr⟩)
    | (go_at_call 87; (refine (spec_WinOf a2 n2 c2 l2 _ N.ow.rd (by omega)).mono ?_); rintro e w2 ⟨v, rfl, o, g⟩; have hz := winOf_tot l2; obtain ⟨⟨t, lb⟩, hf⟩ : ∃ f, f = winOf l2 := ⟨_, rfl⟩; rw [← hf] at o hz; obtain ⟨a3, n3, c3, rfl, o3, u3⟩ := o; simp only [WinM.tot] at hz; obtain rfl : n3 = 32 := o3.rd.ilen.symm.trans hz; have hl2 := (D.bx _ (List.mem_cons_self ..)).1.lt; replace D := D.grow g; clear u3 hf hz; have kc := fun o => DS.cell0 D o; have kf := fun o => DS.frz0 D o; simp only at o3))
  refine bodyPost_ret (v := .agg #[.int .i64 t, .slice a3 32 c3]) (by simp [results, Try.results74, go_sem, kc]) rfl ⟨t, a3, c3, lb, rfl, ?_, ((D.set0 0 _).set0 1 _).de⟩
  exact ((o3.keepSet (by simpa using hl2) _).keepSet (by simpa using hl2) _).mono (Nat.le_of_lt hl2)
theorem Rd.takeY {a : Option Addr} {n c : Nat} {l : List Int} {w : World} (r : Rd w a n c (ins l)) (M : Nat) (h : M ≤ n) : Rd w a M c (ins (l.take M)) := by
  have hl := r.ilen
  refine ⟨by rw [ins_len, List.length_take]; omega, by have := r.le; omega, fun j hj => ?_⟩
  obtain ⟨b, off, e, hc⟩ := r.cells j (by omega)
  exact ⟨b, off, e, by rw [hc, ins, ins, List.getElem?_map, List.getElem?_map, List.getElem?_take, if_pos hj]⟩
def PWd (B cb : Nat) (w : World) (e : Ending) (w' : World) : Prop := ∃ t a n c l, e = .returned (.agg #[.int .i64 t, .slice a n c]) ∧ Rd w' a n c (ins l) ∧ (∀ p, a = some p → w.heap.size ≤ p.block) ∧ n ≤ 32 ∧ DE B cb w w'
/-- the window's variable ahead of the result's: both are laid, the result is read -/
theorem PWd.mk {B cb q q2 : Nat} {w w1 : World} {t : Int} {a : Option Addr} {n c : Nat} {l : List Int} {old : Array Value} (D : DS B cb w w1 [⟨q, 39, #[.int .i64 t, .slice a n c]⟩, ⟨q2, 39, old⟩] []) (r : Rd w1 a n c (ins l)) (ha : ∀ p, a = some p → w.heap.size ≤ p.block ∧ p.block ≠ q2) (hn : n ≤ 32) :
    PWd B cb w (.returned (.agg #[.int .i64 t, .slice a n c])) ((w1.setCell ⟨q2, 0, none⟩ (.int .i64 t)).setCell ⟨q2, 1, none⟩ (.slice a n c)) :=
  ⟨t, a, n, c, l, rfl, (r.keepSet (q := ⟨q2, 0, none⟩) (fun p hp => (ha p hp).2) _).keepSet (q := ⟨q2, 1, none⟩) (fun p hp => (ha p hp).2) _, fun p hp => (ha p hp).1, hn, ((D.set1 0 _).set1 1 _).de⟩
theorem DS.setS {B cb g j : Nat} {w0 w : World} {bs : List Vb} (D : DS B cb w0 w bs []) (hg : w0.heap.size ≤ g) (hb : ∀ b ∈ bs, b.q ≠ g) (u : Value) (hc : cb < w0.heap.size) : DS B cb w0 (w.setCell ⟨g, j, none⟩ u) bs [] :=
  ⟨D.cur.keepI (gbI_set (p := ⟨g, j, none⟩) (gbI.refl g (g + 1) w) (.inr ⟨Nat.le_refl _, Nat.lt_succ_self _⟩) _) (by have := D.lb; omega) (.inl (by omega)), D.lb, D.dr.set (p := ⟨g, j, none⟩) hg _, by simp, fun b h => ⟨(D.bx b h).1.setO _ _ (hb b h), (D.bx b h).2⟩, D.dj⟩
set_option maxRecDepth 1000000 in
set_option maxHeartbeats 4000000 in
theorem spec_l8Any (B cb : Nat) (w : World) (h : Cur B w cb) : Calls Try.prog 62 #[.pointer (some ⟨cb, 0, none⟩)] w (PWd B cb w) := by
  have hcb := h.lt
  have D := (DS.start h).box #[.int .i64 0, .slice none 0 0] 39
  go_enter Try.func62, Try.ntmps62
  go_wp2_with (go_at_call 74; (with_reducible refine (spec_l8Draw B cb _ D.cur).mono ?_); rintro e w1 ⟨t, a, c, l, rfl, o, E⟩; have hl2 := (D.bx _ (List.mem_cons_self ..)).1.lt; have na : ∀ p, a = some p → p.block ≠ w.heap.size := fun p hp => Nat.ne_of_gt (Nat.lt_of_lt_of_le hl2 (o.lt p hp).1); have na2 : ∀ p, a = some p → p.block ≠ w1.heap.size := fun p hp => Nat.ne_of_lt (o.lt p hp).2; replace D := (D.by E).box #[.int .i64 t, .slice a 32 c] 39; replace o := (o.mono (Nat.le_of_lt hl2)).keep0 (gb_alloc (gb_refl _) (.cells #[.int .i64 t, .slice a 32 c] 39)); have hl3 : w.heap.size < w1.heap.size := Nat.lt_of_lt_of_le hl2 E.dr.size; clear E hl2)
  refine d_l1Below (DS.start D.cur) ?_
  intro w2 z hz D2
  replace o := o.keepI D2.de.dr (fun p hp => .inr (by have := (o.lt p hp).1; omega))
  replace D := D.by D2.de
  clear D2 hz
  have ha : ∀ p, a = some p → w.heap.size ≤ p.block ∧ p.block ≠ w.heap.size := fun p hp => ⟨(o.lt p hp).1, na p hp⟩
  cases z0 : ((z : Int) == 0)
  rotate_left
  · have kc := fun o => DS.cell0 D o; have kd := fun o => DS.cell1 D o; have kf := fun o => (D.bx _ (List.mem_cons_self ..)).1.frozen o; have kg := fun o => (D.bx _ (List.mem_cons_of_mem _ (List.mem_cons_self ..))).1.frozen o
    go_wp2_with ((go_at_call 22; (with_reducible refine d_l1Int (DS.start D.cur) ?_ ?_ ?_ ?_ ?_ ?_); (focus (first | rfl | (simp; done))); (focus (exact rfl)); (focus rfl); (focus decide); (focus decide); intro w3 u hi D2; replace o := o.keepI D2.de.dr (fun p hp => .inr (by have := (o.lt p hp).1; omega)); replace D := D.by D2.de; clear D2 hi kc kd kf kg; have kc := fun o => DS.cell0 D o; have kd := fun o => DS.cell1 D o; have kf := fun o => (D.bx _ (List.mem_cons_self ..)).1.frozen o; have kg := fun o => (D.bx _ (List.mem_cons_of_mem _ (List.mem_cons_self ..))).1.frozen o))
    refine bodyPost_ret (v := .agg #[.int .i64 u, .slice a 32 c]) (by simp [results, Try.results62, go_sem, kd]) rfl (PWd.mk (D.set0 0 (.int .i64 u)) (o.rd.keepSet (q := ⟨w1.heap.size, 0, none⟩) na2 _) ha (by decide))
  cases z1 : ((z : Int) == 1)
  rotate_left
  · go_wp2
    obtain ⟨g, rfl⟩ := o.head (by decide)
    have hg := (o.lt _ rfl).1
    have nb : ∀ b ∈ [(⟨w1.heap.size, 39, #[.int .i64 t, .slice (some ⟨g, 0, none⟩) 32 c]⟩ : Vb), ⟨w.heap.size, 39, #[.int .i64 0, .slice none 0 0]⟩], b.q ≠ g := by
      intro b hb
      have h1 := na2 _ rfl
      have h2 := na _ rfl
      simp only [List.mem_cons, List.not_mem_nil, or_false] at hb
      rcases hb with rfl | rfl
      · exact fun e => h1 e.symm
      · exact fun e => h2 e.symm
    replace o := o.drew
    replace D := D.drew
    have kS := DS.cell0 D 1
    refine wp_region_held_drew (S := (fun w' => w'.cell? ⟨w1.heap.size, 1, none⟩ = some (.slice (some ⟨g, 0, none⟩) 32 c))) (by kernel_rfl) ?_ (fun hHeld => ?_)
    · (try dsimp only)
      exact kS
    refine wpAnyH_takeD (i := 0) (some 16) (v := ?_) rfl rfl (by kernel_rfl) (by kernel_rfl) (by kernel_rfl) (fun _ _ _ h => h) (Or.inl ⟨by rfl, ?_⟩) (by assumption) ?_
    rotate_left
    (focus (intro w hSw; (try dsimp only at hSw); (first | (go_simp; done) | (go_simp; with_reducible rfl) | with_reducible rfl)))
    (try simp only [Act.put]); (try simp only [List.setIfInBounds_toArray]); (try simp only [List.set_cons_succ]); (try simp only [List.set_cons_zero])
    refine wpAnyH_takeD (i := 1) (some 17) (v := ?_) rfl rfl (by kernel_rfl) (by kernel_rfl) (by kernel_rfl) (fun _ _ _ h => h) (Or.inl ⟨by rfl, ?_⟩) (by assumption) ?_
    rotate_left
    (focus (intro w hSw; (try dsimp only at hSw); (first | (go_simp; done) | (go_simp; with_reducible rfl) | with_reducible rfl)))
    (try simp only [Act.put]); (try simp only [List.setIfInBounds_toArray]); (try simp only [List.set_cons_succ]); (try simp only [List.set_cons_zero])
    refine wpAnyH_takeD (i := 2) (some 18) (v := ?_) rfl rfl (by kernel_rfl) (by kernel_rfl) (by kernel_rfl) (fun _ _ _ h => h) (Or.inl ⟨by rfl, ?_⟩) (by assumption) ?_
    rotate_left
    (focus (intro w hSw; (try dsimp only at hSw); (first | (go_simp; done) | (go_simp; with_reducible rfl) | with_reducible rfl)))
    (try simp only [Act.put]); (try simp only [List.setIfInBounds_toArray]); (try simp only [List.set_cons_succ]); (try simp only [List.set_cons_zero])
    refine wpAnyH_takeD (i := 4) (some 20) (v := ?_) rfl rfl (by kernel_rfl) (by kernel_rfl) (by kernel_rfl) (fun _ _ _ h => h) (Or.inl ⟨by rfl, ?_⟩) (by assumption) ?_
    rotate_left
    (focus (intro w hSw; (try dsimp only at hSw); (first | (go_simp; done) | (go_simp; with_reducible rfl) | with_reducible rfl)))
    (try simp only [Act.put]); (try simp only [List.setIfInBounds_toArray]); (try simp only [List.set_cons_succ]); (try simp only [List.set_cons_zero])
    refine wpAnyH_ready (rs := [3, 5]) (by kernel_rfl) (by simp) (AllReadyH.cons rfl (fun K hK => ?_) (AllReadyH.cons rfl (fun K hK => ?_) AllReadyH.nil))
    · go_simp
      go_at_call 24
      refine d_l1Below (DS.start D.cur) ?_
      intro w4 i hi D2
      replace o := o.keepI D2.de.dr (fun p hp => .inr (by have := (o.lt p hp).1; omega))
      (try replace rL := rL.keepI D2.de.dr (fun p hp => .inr (by cases hp; exact hcq)))
      replace D := D.by D2.de
      replace kS := DS.cell0 D 1
      clear D2
      have hi9 : i < 32 := by omega
      have hi8 : (i : Int) < 32 := by omega
      have hi7 : (0 : Int) ≤ (i : Int) := by omega
      go_wp2_with fail
      refine hK.out _ _ ?_ (fun hHeld2 => ?_)
      · (try dsimp only)
        exact kS
      clear hK K hHeld
      have hHeld := hHeld2
      clear hHeld2
      (try simp only [Act.put]); (try simp only [List.setIfInBounds_toArray]); (try simp only [List.set_cons_succ]); (try simp only [List.set_cons_zero])
      refine wpAnyH_ready (rs := [5]) (by kernel_rfl) (by simp) (AllReadyH.cons rfl (fun K hK => ?_) AllReadyH.nil)
      refine step_bZ5 rfl (some 21) rfl rfl ?_
      intro q9 w5 hq9 rL g5
      have hcq : cb < q9 := Nat.lt_of_lt_of_le D.cur.lt hq9
      replace o := o.keep0 g5
      replace D := D.grow g5
      replace kS := DS.cell0 D 1
      refine hK.out _ _ ?_ (fun hHeld2 => ?_)
      · (try dsimp only)
        exact kS
      clear hK K hHeld
      have hHeld := hHeld2
      clear hHeld2
      (try simp only [Act.put]); (try simp only [List.setIfInBounds_toArray]); (try simp only [List.set_cons_succ]); (try simp only [List.set_cons_zero])
      refine wpAnyH_ready (rs := [6]) (by kernel_rfl) (by simp) (AllReadyH.cons rfl (fun K hK => ?_) AllReadyH.nil)
      go_simp
      go_at_call 22
      refine (spec_l1Int B cb _ 5 5 _ _ D.cur ⟨rL, fun p hp => by cases hp; exact hcq⟩ (by decide) (by decide)).mono ?_
      rintro e w6 ⟨u, hu, rfl, cu, d⟩
      replace o := o.keepI d (fun p hp => .inr (by have := (o.lt p hp).1; omega))
      replace D := D.by ⟨cu, d⟩
      replace kS := DS.cell0 D 1
      go_wp2_with fail
      refine hK.out _ _ ?_ (fun hHeld2 => ?_)
      · (try dsimp only)
        exact kS
      clear hK K hHeld
      have hHeld := hHeld2
      clear hHeld2
      (try simp only [Act.put]); (try simp only [List.setIfInBounds_toArray]); (try simp only [List.set_cons_succ]); (try simp only [List.set_cons_zero])
      refine wpAnyH_takeD (i := 7) (some 23) (v := ?_) rfl rfl (by kernel_rfl) (by kernel_rfl) (by kernel_rfl) (fun _ _ _ h => h) (Or.inl ⟨by rfl, ?_⟩) (by assumption) ?_
      rotate_left
      (focus (intro w hSw; (try dsimp only at hSw); (first | (go_simp; done) | (go_simp; with_reducible rfl) | with_reducible rfl)))
      (try simp only [Act.put]); (try simp only [List.setIfInBounds_toArray]); (try simp only [List.set_cons_succ]); (try simp only [List.set_cons_zero])
      refine wpAnyH_ready (rs := [8]) (by kernel_rfl) (by simp) (AllReadyH.cons rfl (fun K hK => ?_) AllReadyH.nil)
      refine step_setS rfl rfl (.tmp 23) (.tmp 22) rfl (.int .i64 u) rfl rfl o hi9 rfl rfl ?_
      replace o := o.set i (.int .i64 u)
      rw [ins_set] at o
      replace D := D.setS hg nb (.int .i64 u) hcb (j := i)
      replace kS := DS.cell0 D 1
      refine hK.out _ _ ?_ (fun hHeld2 => ?_)
      · (try dsimp only)
        exact kS
      clear hK K hHeld
      have hHeld := hHeld2
      clear hHeld2
      (try simp only [Act.put]); (try simp only [List.setIfInBounds_toArray]); (try simp only [List.set_cons_succ]); (try simp only [List.set_cons_zero])
      refine wpAnyH_done (by kernel_rfl) ?_ _
      (try dsimp only)
      have kc := fun o => DS.cell0 D o; have kd := fun o => DS.cell1 D o; have kf := fun o => (D.bx _ (List.mem_cons_self ..)).1.frozen o; have kg := fun o => (D.bx _ (List.mem_cons_of_mem _ (List.mem_cons_self ..))).1.frozen o
      go_wp2
      refine bodyPost_ret (v := .agg #[.int .i64 t, .slice (some ⟨g, 0, none⟩) 32 c]) (by simp [results, Try.results62, go_sem, kd]) rfl (PWd.mk D o.rd ha (by decide))
    · refine step_bZ5 rfl (some 21) rfl rfl ?_
      intro q9 w5 hq9 rL g5
      have hcq : cb < q9 := Nat.lt_of_lt_of_le D.cur.lt hq9
      replace o := o.keep0 g5
      replace D := D.grow g5
      replace kS := DS.cell0 D 1
      refine hK.out _ _ ?_ (fun hHeld2 => ?_)
      · (try dsimp only)
        exact kS
      clear hK K hHeld
      have hHeld := hHeld2
      clear hHeld2
      (try simp only [Act.put]); (try simp only [List.setIfInBounds_toArray]); (try simp only [List.set_cons_succ]); (try simp only [List.set_cons_zero])
      refine wpAnyH_ready (rs := [3]) (by kernel_rfl) (by simp) (AllReadyH.cons rfl (fun K hK => ?_) AllReadyH.nil)
      go_simp
      go_at_call 24
      refine d_l1Below (DS.start D.cur) ?_
      intro w4 i hi D2
      replace o := o.keepI D2.de.dr (fun p hp => .inr (by have := (o.lt p hp).1; omega))
      (try replace rL := rL.keepI D2.de.dr (fun p hp => .inr (by cases hp; exact hcq)))
      replace D := D.by D2.de
      replace kS := DS.cell0 D 1
      clear D2
      have hi9 : i < 32 := by omega
      have hi8 : (i : Int) < 32 := by omega
      have hi7 : (0 : Int) ≤ (i : Int) := by omega
      go_wp2_with fail
      refine hK.out _ _ ?_ (fun hHeld2 => ?_)
      · (try dsimp only)
        exact kS
      clear hK K hHeld
      have hHeld := hHeld2
      clear hHeld2
      (try simp only [Act.put]); (try simp only [List.setIfInBounds_toArray]); (try simp only [List.set_cons_succ]); (try simp only [List.set_cons_zero])
      refine wpAnyH_ready (rs := [6]) (by kernel_rfl) (by simp) (AllReadyH.cons rfl (fun K hK => ?_) AllReadyH.nil)
      go_simp
      go_at_call 22
      refine (spec_l1Int B cb _ 5 5 _ _ D.cur ⟨rL, fun p hp => by cases hp; exact hcq⟩ (by decide) (by decide)).mono ?_
      rintro e w6 ⟨u, hu, rfl, cu, d⟩
      replace o := o.keepI d (fun p hp => .inr (by have := (o.lt p hp).1; omega))
      replace D := D.by ⟨cu, d⟩
      replace kS := DS.cell0 D 1
      go_wp2_with fail
      refine hK.out _ _ ?_ (fun hHeld2 => ?_)
      · (try dsimp only)
        exact kS
      clear hK K hHeld
      have hHeld := hHeld2
      clear hHeld2
      (try simp only [Act.put]); (try simp only [List.setIfInBounds_toArray]); (try simp only [List.set_cons_succ]); (try simp only [List.set_cons_zero])
      refine wpAnyH_takeD (i := 7) (some 23) (v := ?_) rfl rfl (by kernel_rfl) (by kernel_rfl) (by kernel_rfl) (fun _ _ _ h => h) (Or.inl ⟨by rfl, ?_⟩) (by assumption) ?_
      rotate_left
      (focus (intro w hSw; (try dsimp only at hSw); (first | (go_simp; done) | (go_simp; with_reducible rfl) | with_reducible rfl)))
      (try simp only [Act.put]); (try simp only [List.setIfInBounds_toArray]); (try simp only [List.set_cons_succ]); (try simp only [List.set_cons_zero])
      refine wpAnyH_ready (rs := [8]) (by kernel_rfl) (by simp) (AllReadyH.cons rfl (fun K hK => ?_) AllReadyH.nil)
      refine step_setS rfl rfl (.tmp 23) (.tmp 22) rfl (.int .i64 u) rfl rfl o hi9 rfl rfl ?_
      replace o := o.set i (.int .i64 u)
      rw [ins_set] at o
      replace D := D.setS hg nb (.int .i64 u) hcb (j := i)
      replace kS := DS.cell0 D 1
      refine hK.out _ _ ?_ (fun hHeld2 => ?_)
      · (try dsimp only)
        exact kS
      clear hK K hHeld
      have hHeld := hHeld2
      clear hHeld2
      (try simp only [Act.put]); (try simp only [List.setIfInBounds_toArray]); (try simp only [List.set_cons_succ]); (try simp only [List.set_cons_zero])
      refine wpAnyH_done (by kernel_rfl) ?_ _
      (try dsimp only)
      have kc := fun o => DS.cell0 D o; have kd := fun o => DS.cell1 D o; have kf := fun o => (D.bx _ (List.mem_cons_self ..)).1.frozen o; have kg := fun o => (D.bx _ (List.mem_cons_of_mem _ (List.mem_cons_self ..))).1.frozen o
      go_wp2
      refine bodyPost_ret (v := .agg #[.int .i64 t, .slice (some ⟨g, 0, none⟩) 32 c]) (by simp [results, Try.results62, go_sem, kd]) rfl (PWd.mk D o.rd ha (by decide))
  cases z2 : ((z : Int) == 2)
  rotate_left
  · have kc := fun o => DS.cell0 D o; have kd := fun o => DS.cell1 D o; have kf := fun o => (D.bx _ (List.mem_cons_self ..)).1.frozen o; have kg := fun o => (D.bx _ (List.mem_cons_of_mem _ (List.mem_cons_self ..))).1.frozen o
    go_wp2
    obtain ⟨g, rfl⟩ := o.head (by decide)
    have h32 : 32 ≤ c := o.le
    go_region_with (go_at_call 24; refine d_l1Below (DS.start D.drew.cur) ?_; intro w4 i hi D2; replace o := o.drew.keepI D2.de.dr (fun p hp => .inr (by have := (o.lt p hp).1; omega)); replace D := D.drew.by D2.de; clear D2 kc kd kf kg; have kc := fun o => DS.cell0 D o; have kd := fun o => DS.cell1 D o; have kf := fun o => (D.bx _ (List.mem_cons_self ..)).1.frozen o; have kg := fun o => (D.bx _ (List.mem_cons_of_mem _ (List.mem_cons_self ..))).1.frozen o; have hi9 : i < 32 := (by omega); have hi8 : (i : Int) < 32 := (by omega))
    all_goals go_wp2
    all_goals refine bodyPost_ret (v := .agg #[.int .i64 t, .slice (some ⟨g, 0, none⟩) i c]) (by simp [results, Try.results62, go_sem, kd]) rfl (PWd.mk (D.set0 1 (.slice (some ⟨g, 0, none⟩) i c)) ((o.rd.takeY i (by omega)).keepSet (q := ⟨w1.heap.size, 1, none⟩) na2 _) ha (by omega))
  · have kc := fun o => DS.cell0 D o; have kd := fun o => DS.cell1 D o; have kf := fun o => (D.bx _ (List.mem_cons_self ..)).1.frozen o; have kg := fun o => (D.bx _ (List.mem_cons_of_mem _ (List.mem_cons_self ..))).1.frozen o
    go_wp2
    refine bodyPost_ret (v := .agg #[.int .i64 t, .slice a 32 c]) (by simp [results, Try.results62, go_sem, kd]) rfl (PWd.mk D o.rd ha (by decide))
end Go.Proofs.Ytpfchphgbhgmmaa

/-
  Draws of epochs, right or bent, and of what an epoch seals. Conditions: none beside those that each theorem names.
-/
namespace Go.Proofs.Ytpfchphgbhgmmaa
open Go.RowKit
def PEp (B cb : Nat) (w : World) (e : Ending) (w' : World) : Prop := ∃ en a1 n1 c1 es et a7 n7 c7, e = .returned (.agg #[.int .i64 en, .slice a1 n1 c1, .int .i64 es, .int .i64 et, .slice a7 n7 c7]) ∧ DE B cb w w' ∧ BR w w' a1 n1 c1 ∧ IR w w' a7 n7 c7
theorem d_PEp {f : FuncId} {B cb : Nat} {w0 w : World} {bs : List Vb} {L : List Sv} {Q : Ending → World → Prop} {args : Array Value} (D : DS B cb w0 w bs L) (H : Calls Try.prog f args w (PEp B cb w))
    (k : ∀ w' (en : Int) a1 n1 c1 l1 (es et : Int) a7 n7 c7 l7, DS B cb w0 w' bs (⟨a7, n7, c7, ins l7⟩ :: ⟨a1, n1, c1, bys l1⟩ :: L) → Q (.returned (.agg #[.int .i64 en, .slice a1 n1 c1, .int .i64 es, .int .i64 et, .slice a7 n7 c7])) w') : Calls Try.prog f args w Q :=
  H.mono fun e w' ⟨en, a1, n1, c1, es, et, a7, n7, c7, he, E, h1, h7⟩ => by
    subst he
    obtain ⟨l1, D1⟩ := D.adB (D.by E) h1
    obtain ⟨l7, D2⟩ := D.adI D1 h7
    exact k w' en a1 n1 c1 l1 es et a7 n7 c7 l7 D2
theorem d_PWi {f : FuncId} {B cb : Nat} {w0 w : World} {bs : List Vb} {L : List Sv} {Q : Ending → World → Prop} {args : Array Value} (D : DS B cb w0 w bs L) (H : Calls Try.prog f args w (PWi B cb w))
    (k : ∀ w' (t : Int) a c l, DS B cb w0 w' bs (⟨a, 32, c, ins l⟩ :: L) → Q (.returned (.agg #[.int .i64 t, .slice a 32 c])) w') : Calls Try.prog f args w Q :=
  H.mono fun e w' ⟨t, a, c, l, he, o, E⟩ => by
    subst he
    exact k w' t a c l (D.addO (D.by E) o (by decide))
theorem d_EpNew {B cb : Nat} {w0 w : World} {bs : List Vb} {L : List Sv} {Q : Ending → World → Prop} {x : Int} {a : Option Addr} {n c : Nat} {l : List UInt8} (D : DS B cb w0 w bs (⟨a, n, c, bys l⟩ :: L))
    (k : ∀ w' (en : Int) a1 n1 c1 l1 (es et : Int) a7 n7 c7 l7, DS B cb w0 w' bs (⟨a7, n7, c7, ins l7⟩ :: ⟨a1, n1, c1, bys l1⟩ :: ⟨a, n, c, bys l⟩ :: L) → Q (.returned (.agg #[.int .i64 en, .slice a1 n1 c1, .int .i64 es, .int .i64 et, .slice a7 n7 c7])) w') : Calls Try.prog 73 #[.int .i64 x, .slice a n c] w Q :=
  (spec_EpNew x a n c l w D.r0).mono fun e w' ⟨v, he, o, g⟩ => by
    subst he
    have hz := epNewM_tot x l
    obtain ⟨a1, n1, c1, a7, n7, c7, rfl, ⟨o1, u1⟩, ⟨o7, u7⟩, d17⟩ := o
    have h1 := o1.blen
    have h7 := o7.rd.ilen
    simp only [EpM.tot] at hz
    exact k w' _ a1 n1 c1 _ _ _ a7 n7 c7 _ (D.addO (D.addO (D.grow g) o1 (by omega)) o7 (by omega))
set_option maxRecDepth 1000000 in
set_option maxHeartbeats 2000000 in
theorem spec_l9Ep (B cb : Nat) (w : World) (h : Cur B w cb) : Calls Try.prog 61 #[.pointer (some ⟨cb, 0, none⟩)] w (PEp B cb w) := by
  have D := (DS.start h).box #[.int .i64 0, .slice none 0 0, .int .i64 0, .int .i64 0, .slice none 0 0] 41
  go_enter Try.func61, Try.ntmps61
  go_wp2_with (first
    | (go_at_call 21; (first | (with_reducible refine d_l1Bytes D ?_ ?_) | (with_reducible refine d_l1Bytes (D.set0 _ _) ?_ ?_) | (with_reducible refine d_l1Bytes (D.box _ _) ?_ ?_) | (with_reducible refine d_l1Bytes ((D.set0 _ _).set0 _ _) ?_ ?_) | (with_reducible refine d_l1Bytes ((D.box _ _).set0 _ _) ?_ ?_)); (focus (first | omega | (have h9 := ofL.le hi (b := 256) (by decide); omega))); clear D; intro w1 a n c l hn D; (try clear kc kf); (try simp only [List.setIfInBounds_toArray, List.set_cons_succ, List.set_cons_zero] at D); (try (have kc := fun o => DS.cell0 D o; have kf := fun o => DS.frz0 D o))) | (go_at_call 22; (first | (with_reducible refine d_l1Int D ?_ ?_ ?_ ?_ ?_ ?_) | (with_reducible refine d_l1Int (D.set0 _ _) ?_ ?_ ?_ ?_ ?_ ?_) | (with_reducible refine d_l1Int (D.box _ _) ?_ ?_ ?_ ?_ ?_ ?_) | (with_reducible refine d_l1Int ((D.set0 _ _).set0 _ _) ?_ ?_ ?_ ?_ ?_ ?_) | (with_reducible refine d_l1Int ((D.box _ _).set0 _ _) ?_ ?_ ?_ ?_ ?_ ?_)); (focus (first | rfl | (simp; done))); (focus (exact rfl)); (focus rfl); (focus decide); (focus decide); clear D; intro w1 x hi D; (try clear kc kf); (try simp only [List.setIfInBounds_toArray, List.set_cons_succ, List.set_cons_zero] at D); (try (have kc := fun o => DS.cell0 D o; have kf := fun o => DS.frz0 D o)))
    | (go_at_call 73; (with_reducible refine d_EpNew D ?_); clear D; intro w1 en a1 n1 c1 l1 es et a7 n7 c7 l7 D; replace D := D.box #[.int .i64 en, .slice a1 n1 c1, .int .i64 es, .int .i64 et, .slice a7 n7 c7] 41; (try clear kc kf); (try simp only [List.setIfInBounds_toArray, List.set_cons_succ, List.set_cons_zero] at D); (try (have kc := fun o => DS.cell0 D o; have kf := fun o => DS.frz0 D o)))
    | (go_at_call 44; (first | (with_reducible refine d_l1Once D ?_) | (with_reducible refine d_l1Once (D.set0 _ _) ?_) | (with_reducible refine d_l1Once (D.box _ _) ?_) | (with_reducible refine d_l1Once ((D.set0 _ _).set0 _ _) ?_) | (with_reducible refine d_l1Once ((D.box _ _).set0 _ _) ?_)); clear D; intro w1 o D; (try clear kc kf); (try simp only [List.setIfInBounds_toArray, List.set_cons_succ, List.set_cons_zero] at D); (try (have kc := fun o => DS.cell0 D o; have kf := fun o => DS.frz0 D o)); cases o) | (go_at_call 74; (first | (with_reducible refine d_PWi D (spec_l8Draw B cb _ (by first | exact D.cur | exact (D.set0 _ _).cur)) ?_) | (with_reducible refine d_PWi (D.set0 _ _) (spec_l8Draw B cb _ (by first | exact D.cur | exact (D.set0 _ _).cur)) ?_) | (with_reducible refine d_PWi (D.box _ _) (spec_l8Draw B cb _ (by first | exact D.cur | exact (D.set0 _ _).cur)) ?_) | (with_reducible refine d_PWi ((D.set0 _ _).set0 _ _) (spec_l8Draw B cb _ (by first | exact D.cur | exact (D.set0 _ _).cur)) ?_) | (with_reducible refine d_PWi ((D.box _ _).set0 _ _) (spec_l8Draw B cb _ (by first | exact D.cur | exact (D.set0 _ _).cur)) ?_)); clear D; intro w1 wt wa wc wl D; (try clear kc kf); (try simp only [List.setIfInBounds_toArray, List.set_cons_succ, List.set_cons_zero] at D); (try (have kc := fun o => DS.cell0 D o; have kf := fun o => DS.frz0 D o)))
    | ((with_reducible refine wpList_stD1 (D.set0 _ _) ?_ (.tmp 2) (.tmp 19) ?_ ?_ ?_ ?_ ?_ ?_ ?_ ?_); (focus rfl); (focus rfl); rotate_left; (focus rfl); (focus rfl); (focus (exact si_Ep)); (focus rfl); (focus (first | rfl | (simp [Value.oneCell']; done))); clear D; intro w1 D; (try simp only [Act.put]); (try simp only [List.setIfInBounds_toArray]); (try simp only [List.set_cons_succ]); (try simp only [List.set_cons_zero]); (try clear kc kf); have kr := fun o => DS.cell1 D o) | ((with_reducible refine wpList_stD1 ((D.set0 _ _).set0 _ _) ?_ (.tmp 2) (.tmp 19) ?_ ?_ ?_ ?_ ?_ ?_ ?_ ?_); (focus rfl); (focus rfl); rotate_left; (focus rfl); (focus rfl); (focus (exact si_Ep)); (focus rfl); (focus (first | rfl | (simp [Value.oneCell']; done))); clear D; intro w1 D; (try simp only [Act.put]); (try simp only [List.setIfInBounds_toArray]); (try simp only [List.set_cons_succ]); (try simp only [List.set_cons_zero]); (try clear kc kf); have kr := fun o => DS.cell1 D o) | ((with_reducible refine wpList_stD1 D ?_ (.tmp 2) (.tmp 19) ?_ ?_ ?_ ?_ ?_ ?_ ?_ ?_); (focus rfl); (focus rfl); rotate_left; (focus rfl); (focus rfl); (focus (exact si_Ep)); (focus rfl); (focus (first | rfl | (simp [Value.oneCell']; done))); clear D; intro w1 D; (try simp only [Act.put]); (try simp only [List.setIfInBounds_toArray]); (try simp only [List.set_cons_succ]); (try simp only [List.set_cons_zero]); (try clear kc kf); have kr := fun o => DS.cell1 D o))
  all_goals (refine' bodyPost_ret ?_ rfl ?_; rotate_left; (focus (simp [results, Try.results61, go_sem, kr]; rfl)); first | exact ⟨_, _, _, _, _, _, _, _, _, rfl, D.de, D.tl.b0, D.i0⟩ | exact ⟨_, _, _, _, _, _, _, _, _, rfl, D.de, D.tl.tl.b0, D.i0⟩)
theorem d_PWd {f : FuncId} {B cb : Nat} {w0 w : World} {bs : List Vb} {L : List Sv} {Q : Ending → World → Prop} {args : Array Value} (D : DS B cb w0 w bs L) (H : Calls Try.prog f args w (PWd B cb w))
    (k : ∀ w' (t : Int) a n c l, DS B cb w0 w' bs (⟨a, n, c, ins l⟩ :: L) → Q (.returned (.agg #[.int .i64 t, .slice a n c])) w') : Calls Try.prog f args w Q :=
  H.mono fun e w' ⟨t, a, n, c, l, he, r, hb, hn, E⟩ => by
    subst he
    exact k w' t a n c l (D.addF (D.by E) r (fun _ p hp => hb p hp) (by omega))
set_option maxRecDepth 1000000 in
set_option maxHeartbeats 4000000 in
theorem spec_l9Any (B cb : Nat) (w : World) (h : Cur B w cb) : Calls Try.prog 43 #[.pointer (some ⟨cb, 0, none⟩)] w (PEp B cb w) := by
  have D := (DS.start h).box #[.int .i64 0, .slice none 0 0, .int .i64 0, .int .i64 0, .slice none 0 0] 41
  go_enter Try.func43, Try.ntmps43
  go_wp2_with (first
    | (go_at_call 61; (with_reducible refine d_PEp D (spec_l9Ep B cb _ D.cur) ?_); clear D; intro w1 en a1 n1 c1 l1 es et a7 n7 c7 l7 D; replace D := D.box #[.int .i64 en, .slice a1 n1 c1, .int .i64 es, .int .i64 et, .slice a7 n7 c7] 41; (try clear kc kf); (try simp only [List.setIfInBounds_toArray, List.set_cons_succ, List.set_cons_zero] at D); (try (have kc := fun o => DS.cell0 D o; have kf := fun o => DS.frz0 D o)))
    | (go_at_call 24; (first | (with_reducible refine d_l1Below D ?_) | (with_reducible refine d_l1Below (D.set0 _ _) ?_) | (with_reducible refine d_l1Below (D.box _ _) ?_) | (with_reducible refine d_l1Below ((D.set0 _ _).set0 _ _) ?_) | (with_reducible refine d_l1Below ((D.box _ _).set0 _ _) ?_)); clear D; intro w1 z hz D; (try clear kc kf); (try simp only [List.setIfInBounds_toArray, List.set_cons_succ, List.set_cons_zero] at D); (try (have kc := fun o => DS.cell0 D o; have kf := fun o => DS.frz0 D o))) | (go_at_call 21; (first | (with_reducible refine d_l1Bytes D ?_ ?_) | (with_reducible refine d_l1Bytes (D.set0 _ _) ?_ ?_) | (with_reducible refine d_l1Bytes (D.box _ _) ?_ ?_) | (with_reducible refine d_l1Bytes ((D.set0 _ _).set0 _ _) ?_ ?_) | (with_reducible refine d_l1Bytes ((D.box _ _).set0 _ _) ?_ ?_)); (focus (first | omega | (have h9 := ofL.le hi (b := 256) (by decide); omega))); clear D; intro w1 a n c l hn D; (try clear kc kf); (try simp only [List.setIfInBounds_toArray, List.set_cons_succ, List.set_cons_zero] at D); (try (have kc := fun o => DS.cell0 D o; have kf := fun o => DS.frz0 D o))) | (go_at_call 22; (first | (with_reducible refine d_l1Int D ?_ ?_ ?_ ?_ ?_ ?_) | (with_reducible refine d_l1Int (D.set0 _ _) ?_ ?_ ?_ ?_ ?_ ?_) | (with_reducible refine d_l1Int (D.box _ _) ?_ ?_ ?_ ?_ ?_ ?_) | (with_reducible refine d_l1Int ((D.set0 _ _).set0 _ _) ?_ ?_ ?_ ?_ ?_ ?_) | (with_reducible refine d_l1Int ((D.box _ _).set0 _ _) ?_ ?_ ?_ ?_ ?_ ?_)); (focus (first | rfl | (simp; done))); (focus (exact rfl)); (focus rfl); (focus decide); (focus decide); clear D; intro w1 x hi D; (try clear kc kf); (try simp only [List.setIfInBounds_toArray, List.set_cons_succ, List.set_cons_zero] at D); (try (have kc := fun o => DS.cell0 D o; have kf := fun o => DS.frz0 D o)))
    | (go_at_call 62; (first | (with_reducible refine d_PWd D (spec_l8Any B cb _ (by first | exact D.cur | exact (D.set0 _ _).cur)) ?_) | (with_reducible refine d_PWd (D.set0 _ _) (spec_l8Any B cb _ (by first | exact D.cur | exact (D.set0 _ _).cur)) ?_) | (with_reducible refine d_PWd (D.box _ _) (spec_l8Any B cb _ (by first | exact D.cur | exact (D.set0 _ _).cur)) ?_) | (with_reducible refine d_PWd ((D.set0 _ _).set0 _ _) (spec_l8Any B cb _ (by first | exact D.cur | exact (D.set0 _ _).cur)) ?_) | (with_reducible refine d_PWd ((D.box _ _).set0 _ _) (spec_l8Any B cb _ (by first | exact D.cur | exact (D.set0 _ _).cur)) ?_)); clear D; intro w1 wt wa wn wc wl D; (try clear kc kf); (try simp only [List.setIfInBounds_toArray, List.set_cons_succ, List.set_cons_zero] at D); (try (have kc := fun o => DS.cell0 D o; have kf := fun o => DS.frz0 D o)))
    | ((with_reducible refine wpList_stD1 (D.set0 _ _) ?_ (.tmp 2) (.tmp 33) ?_ ?_ ?_ ?_ ?_ ?_ ?_ ?_); (focus rfl); (focus rfl); rotate_left; (focus rfl); (focus rfl); (focus (exact si_Ep)); (focus rfl); (focus (first | rfl | (simp [Value.oneCell']; done))); clear D; intro w1 D; (try simp only [Act.put]); (try simp only [List.setIfInBounds_toArray]); (try simp only [List.set_cons_succ]); (try simp only [List.set_cons_zero]); (try clear kc kf); have kr := fun o => DS.cell1 D o) | ((with_reducible refine wpList_stD1 ((D.set0 _ _).set0 _ _) ?_ (.tmp 2) (.tmp 33) ?_ ?_ ?_ ?_ ?_ ?_ ?_ ?_); (focus rfl); (focus rfl); rotate_left; (focus rfl); (focus rfl); (focus (exact si_Ep)); (focus rfl); (focus (first | rfl | (simp [Value.oneCell']; done))); clear D; intro w1 D; (try simp only [Act.put]); (try simp only [List.setIfInBounds_toArray]); (try simp only [List.set_cons_succ]); (try simp only [List.set_cons_zero]); (try clear kc kf); have kr := fun o => DS.cell1 D o) | ((with_reducible refine wpList_stD1 D ?_ (.tmp 2) (.tmp 33) ?_ ?_ ?_ ?_ ?_ ?_ ?_ ?_); (focus rfl); (focus rfl); rotate_left; (focus rfl); (focus rfl); (focus (exact si_Ep)); (focus rfl); (focus (first | rfl | (simp [Value.oneCell']; done))); clear D; intro w1 D; (try simp only [Act.put]); (try simp only [List.setIfInBounds_toArray]); (try simp only [List.set_cons_succ]); (try simp only [List.set_cons_zero]); (try clear kc kf); have kr := fun o => DS.cell1 D o))
  all_goals (refine' bodyPost_ret ?_ rfl ?_; rotate_left; (focus (simp [results, Try.results43, go_sem, kr]; rfl)); exact ⟨_, _, _, _, _, _, _, _, _, rfl, D.de, by (first | exact BR.nil _ _ | exact D.b0 | exact D.tl.b0 | exact D.tl.tl.b0 | exact D.tl.tl.tl.b0 | exact D.tl.tl.tl.tl.b0 | exact D.tl.tl.tl.tl.tl.b0 | exact D.tl.tl.tl.tl.tl.tl.b0), by (first | exact D.i0 | exact D.tl.i0 | exact D.tl.tl.i0 | exact D.tl.tl.tl.i0 | exact D.tl.tl.tl.tl.i0 | exact D.tl.tl.tl.tl.tl.i0)⟩)
theorem Rd.pbE {a : Option Addr} {n c : Nat} {xs : List Value} {w : World} (r : Rd w a n c xs) : 0 < n → ∀ p, a = some p → p.block < w.heap.size := by
  intro h0 p hp
  obtain ⟨b, off, h1, h2, -⟩ := r.pos h0
  rw [h1] at hp
  cases hp
  exact h2
def PES (w : World) (e : Ending) (w' : World) : Prop := ∃ en a1 n1 c1 es et a7 n7 c7 role a2 n2 c2 kind a4 n4 c4, e = .returned (.tuple #[.agg #[.int .i64 en, .slice a1 n1 c1, .int .i64 es, .int .i64 et, .slice a7 n7 c7], .int .i64 role, .slice a2 n2 c2, .int .i64 kind, .slice a4 n4 c4]) ∧ BR w w' a1 n1 c1 ∧ IR w w' a7 n7 c7 ∧ BR w w' a2 n2 c2 ∧ BR w w' a4 n4 c4 ∧ w.grownBy w' none
set_option maxRecDepth 1000000 in
set_option maxHeartbeats 4000000 in
theorem spec_DrawEpSeal (a : Option Addr) (n c : Nat) (l : List UInt8) (w : World) (r : Rd w a n c (bys l)) (hn : n ≤ 1048576) : Calls Try.prog 16 #[.slice a n c] w (PES w) := by
  go_enter Try.func16, Try.ntmps16
  go_wp2_with (first
    | (go_at_call 20; refine (spec_l1New a n c l w.heap.size _ (r.keep0 (gb_alloc (gb_refl _) _)) hn r.pbE (gb_alloc (gb_refl _) _).size).mono ?_; rintro e w1 ⟨cb, rfl, cu, hc, g⟩; have D := DS.init1 (Bx.new w _ _) cu (gb_alloc (gb_refl w) _) (Nat.le_refl _) hc g; have hcb : w.heap.size ≤ cb := Nat.le_trans (gb_alloc (gb_refl w) _).size hc; clear g hc cu)
    | (go_at_call 43; (with_reducible refine d_PEp D (spec_l9Any _ cb _ D.cur) ?_); clear D; intro w1 en a1 n1 c1 l1 es et a7 n7 c7 l7 D; replace D := D.box #[.int .i64 en, .slice a1 n1 c1, .int .i64 es, .int .i64 et, .slice a7 n7 c7] 41; (try clear kc kf); (try simp only [List.setIfInBounds_toArray, List.set_cons_succ, List.set_cons_zero] at D); (try (have kc := fun o => DS.cell0 D o; have kf := fun o => DS.frz0 D o)))
    | (go_at_call 23; (with_reducible refine d_PKi D (spec_l9Kind _ cb _ D.cur) ?_); clear D; intro w1 kd a4 n4 c4 l4 D; (try clear kc kf); (try simp only [List.setIfInBounds_toArray, List.set_cons_succ, List.set_cons_zero] at D); (try (have kc := fun o => DS.cell0 D o; have kf := fun o => DS.frz0 D o)))
    | (go_at_call 24; (first | (with_reducible refine d_l1Below D ?_) | (with_reducible refine d_l1Below (D.set0 _ _) ?_) | (with_reducible refine d_l1Below (D.box _ _) ?_) | (with_reducible refine d_l1Below ((D.set0 _ _).set0 _ _) ?_) | (with_reducible refine d_l1Below ((D.box _ _).set0 _ _) ?_)); clear D; intro w1 z hz D; (try clear kc kf); (try simp only [List.setIfInBounds_toArray, List.set_cons_succ, List.set_cons_zero] at D); (try (have kc := fun o => DS.cell0 D o; have kf := fun o => DS.frz0 D o))) | (go_at_call 21; (first | (with_reducible refine d_l1Bytes D ?_ ?_) | (with_reducible refine d_l1Bytes (D.set0 _ _) ?_ ?_) | (with_reducible refine d_l1Bytes (D.box _ _) ?_ ?_) | (with_reducible refine d_l1Bytes ((D.set0 _ _).set0 _ _) ?_ ?_) | (with_reducible refine d_l1Bytes ((D.box _ _).set0 _ _) ?_ ?_)); (focus (first | omega | (have h9 := ofL.le hi (b := 256) (by decide); omega))); clear D; intro w1 a n c l hn D; (try clear kc kf); (try simp only [List.setIfInBounds_toArray, List.set_cons_succ, List.set_cons_zero] at D); (try (have kc := fun o => DS.cell0 D o; have kf := fun o => DS.frz0 D o))) | (go_at_call 22; (first | (with_reducible refine d_l1Int D ?_ ?_ ?_ ?_ ?_ ?_) | (with_reducible refine d_l1Int (D.set0 _ _) ?_ ?_ ?_ ?_ ?_ ?_) | (with_reducible refine d_l1Int (D.box _ _) ?_ ?_ ?_ ?_ ?_ ?_) | (with_reducible refine d_l1Int ((D.set0 _ _).set0 _ _) ?_ ?_ ?_ ?_ ?_ ?_) | (with_reducible refine d_l1Int ((D.box _ _).set0 _ _) ?_ ?_ ?_ ?_ ?_ ?_)); (focus (first | rfl | (simp; done))); (focus (exact rfl)); (focus rfl); (focus decide); (focus decide); clear D; intro w1 x hi D; (try clear kc kf); (try simp only [List.setIfInBounds_toArray, List.set_cons_succ, List.set_cons_zero] at D); (try (have kc := fun o => DS.cell0 D o; have kf := fun o => DS.frz0 D o))) | (go_at_call 44; (first | (with_reducible refine d_l1Once D ?_) | (with_reducible refine d_l1Once (D.set0 _ _) ?_) | (with_reducible refine d_l1Once (D.box _ _) ?_) | (with_reducible refine d_l1Once ((D.set0 _ _).set0 _ _) ?_) | (with_reducible refine d_l1Once ((D.box _ _).set0 _ _) ?_)); clear D; intro w1 o D; (try clear kc kf); (try simp only [List.setIfInBounds_toArray, List.set_cons_succ, List.set_cons_zero] at D); (try (have kc := fun o => DS.cell0 D o; have kf := fun o => DS.frz0 D o)); cases o)
    | ((with_reducible refine wpList_stD1 D ?_ (.tmp 2) (.tmp 34) ?_ ?_ ?_ ?_ ?_ ?_ ?_ ?_); (focus rfl); (focus rfl); rotate_left; (focus rfl); (focus rfl); (focus (exact si_Ep)); (focus rfl); (focus (first | rfl | (simp [Value.oneCell']; done))); clear D; intro w1 D; (try simp only [Act.put]); (try simp only [List.setIfInBounds_toArray]); (try simp only [List.set_cons_succ]); (try simp only [List.set_cons_zero]); (try clear kc kf); have kr := fun o => DS.cell1 D o))
  all_goals (refine' bodyPost_ret ?_ rfl ?_; rotate_left; (focus (simp [results, Try.results16, go_sem, kr]; rfl)); exact ⟨_, _, _, _, _, _, _, _, _, _, _, _, _, _, _, _, _, rfl, by (first | exact BR.nil _ _ | exact D.b0 | exact D.tl.b0 | exact D.tl.tl.b0 | exact D.tl.tl.tl.b0 | exact D.tl.tl.tl.tl.b0 | exact D.tl.tl.tl.tl.tl.b0 | exact D.tl.tl.tl.tl.tl.tl.b0), by (first | exact D.i0 | exact D.tl.i0 | exact D.tl.tl.i0 | exact D.tl.tl.tl.i0 | exact D.tl.tl.tl.tl.i0 | exact D.tl.tl.tl.tl.tl.i0), by (first | exact BR.nil _ _ | exact D.b0 | exact D.tl.b0 | exact D.tl.tl.b0 | exact D.tl.tl.tl.b0 | exact D.tl.tl.tl.tl.b0 | exact D.tl.tl.tl.tl.tl.b0 | exact D.tl.tl.tl.tl.tl.tl.b0), by (first | exact BR.nil _ _ | exact D.b0 | exact D.tl.b0 | exact D.tl.tl.b0 | exact D.tl.tl.tl.b0 | exact D.tl.tl.tl.tl.b0 | exact D.tl.tl.tl.tl.tl.b0 | exact D.tl.tl.tl.tl.tl.tl.b0), D.gb hcb⟩)
end Go.Proofs.Ytpfchphgbhgmmaa

/-
  Contracts of the functions that open a sealed frame. Conditions: none beside those that each theorem names.
-/
namespace Go.Proofs.Ytpfchphgbhgmmaa
open Go.RowKit
def unsealB (l : List UInt8) (x : Int) (f : FrameM) : Bool := ((l.length : Int) == 32) && (!(((tagInM x f).length : Int) == 0) && sameT f.tag (tagM l (tagInM x f)))
def unsealM (l : List UInt8) (x : Int) (f : FrameM) : List UInt8 := if unsealB l x f = true then mixM l (headM x f.sn f.epoch f.seq) f.body else []
theorem tagIn_ne {x : Int} {f : FrameM} (h : tagInM x f ≠ []) : roleB x = true ∧ sealedB f.kind = true ∧ frOk f = true := by
  unfold tagInM at h
  split at h
  · rename_i h2
    simp only [Bool.and_eq_true] at h2
    exact ⟨h2.1.1, h2.1.2, h2.2⟩
  · exact absurd rfl h
theorem unseal_len {l : List UInt8} {x : Int} {f : FrameM} (h : unsealB l x f = true) : l.length = 32 ∧ f.body.length ≤ 40 := by
  simp only [unsealB, Bool.and_eq_true, Bool.not_eq_true', beq_eq_false_iff_ne, beq_iff_eq] at h
  obtain ⟨h1, h2, -⟩ := h
  have h3 : tagInM x f ≠ [] := fun e => h2 (by rw [e]; rfl)
  obtain ⟨-, h4, h5⟩ := tagIn_ne h3
  exact ⟨by omega, (frOk_S h5 h4).2.2.1⟩
theorem unsealM_le (l : List UInt8) (x : Int) (f : FrameM) : (unsealM l x f).length ≤ 40 := by
  unfold unsealM
  split
  · rename_i h
    obtain ⟨h1, h2⟩ := unseal_len h
    rw [mixM_len (by omega) (Nat.le_trans (headM_len _ _ _ _) (by decide)) (by omega)]
    exact h2
  · simp
set_option maxRecDepth 1000000 in
set_option maxHeartbeats 4000000 in
theorem impl_Unseal (a : Option Addr) (n c : Nat) (l : List UInt8) (x : Int) (v : Value) (f : FrameM) (w : World) (r : Rd w a n c (bys l)) (h : FrameR w v f) :
    Calls Try.prog 10 #[.slice a n c, .int .i64 x, v] w fun e w' => ∃ a n c, e = .returned (.tuple #[.slice a n c, .bool (unsealB l x f)]) ∧ Ow w.heap.size w' 5 a n c (bys (unsealM l x f)) ∧ w.grownBy w' none := by
  have hR := h
  obtain ⟨a1, n1, c1, a2, n2, c2, a3, n3, c3, a4, n4, c4, a5, n5, c5, a6, n6, c6, rfl, r1, r2, r3, r4, r5, r6⟩ := h
  obtain ⟨kind, id, l1, l2, tick, l3, l4, epoch, seq, l5, l6⟩ := f
  simp only at r1 r2 r3 r4 r5 r6 hR
  obtain ⟨I, hI⟩ : ∃ I, I = tagInM x ⟨kind, id, l1, l2, tick, l3, l4, epoch, seq, l5, l6⟩ := ⟨_, rfl⟩
  have IL : I.length ≤ 65 := by rw [hI]; exact tagInM_len _ _
  have L := Lib.hid r.blen
  have G := gb_alloc (gb_refl w) (.cells #[.int .i64 kind, .int .i64 id, .slice a1 n1 c1, .slice a2 n2 c2, .int .i64 tick, .slice a3 n3 c3, .slice a4 n4 c4, .int .i64 epoch, .int .i64 seq, .slice a5 n5 c5, .slice a6 n6 c6] 27)
  have b0 := bx1 w #[.int .i64 kind, .int .i64 id, .slice a1 n1 c1, .slice a2 n2 c2, .int .i64 tick, .slice a3 n3 c3, .slice a4 n4 c4, .int .i64 epoch, .int .i64 seq, .slice a5 n5 c5, .slice a6 n6 c6] 27
  have C := Lib.hid (impl_TagInput x _ _ _ (hR.keep0 G))
  rw [← hI] at C
  have E := Lib.hid (show unsealB l x ⟨kind, id, l1, l2, tick, l3, l4, epoch, seq, l5, l6⟩ = (((n : Int) == 32) && (!((I.length : Int) == 0) && sameT l6 (tagM l I))) by rw [unsealB, ← hI, L.out])
  clear hR hI
  cases h1 : ((n : Int) == 32)
  · have E2 : unsealB l x ⟨kind, id, l1, l2, tick, l3, l4, epoch, seq, l5, l6⟩ = false := by rw [E.out, h1]; rfl
    rw [unsealM, E2]
    have h2 : ((n : Int) != 32) = true := by rw [bne, h1]; rfl
    clear r r1 r2 r3 r4 r5 r6 E2
    go_enter Try.func10, Try.ntmps10
    go_wp2_with (go_at_call 15; refine C.out.mono ?_; rintro e w1 ⟨b1, m1, d1, rfl, o1, g1⟩; have e1 := o1.blen; have q1 := b0.keep0 g1; have cc := fun o => q1.cell o; skip)
    go_quiet (fail)
    go_wp2
    go_ret2
    first | exact ⟨_, _, _, rfl, Ow.nil _ _ _, gb_drewN (gb_trans G g1) _⟩ | exact ⟨_, _, _, rfl, (new_own _ _).mono (gb_trans G g1).size, gb_alloc (gb_drewN (gb_trans G g1) _) _⟩
  obtain rfl : n = 32 := by simp at h1; omega
  clear h1
  by_cases hz : I.length = 0
  · have E2 : unsealB l x ⟨kind, id, l1, l2, tick, l3, l4, epoch, seq, l5, l6⟩ = false := by rw [E.out, hz]; rfl
    rw [unsealM, E2]
    obtain rfl := List.eq_nil_of_length_eq_zero hz
    clear r r1 r2 r3 r4 r5 r6 E2 E hz IL
    go_enter Try.func10, Try.ntmps10
    go_wp2_with (go_at_call 15; refine C.out.mono ?_; rintro e w1 ⟨b1, m1, d1, rfl, o1, g1⟩; have e1 := o1.blen; have q1 := b0.keep0 g1; have cc := fun o => q1.cell o; skip)
    obtain rfl : m1 = 0 := e1.symm
    go_quiet (fail)
    go_wp2
    go_ret2
    first | exact ⟨_, _, _, rfl, Ow.nil _ _ _, gb_drewN (gb_trans G g1) _⟩ | exact ⟨_, _, _, rfl, (new_own _ _).mono (gb_trans G g1).size, gb_alloc (gb_drewN (gb_trans G g1) _) _⟩
  have hz2 : ((I.length : Int) == 0) = false := by rw [beq_eq_false_iff_ne]; omega
  cases hs : sameT l6 (tagM l I)
  · have E2 : unsealB l x ⟨kind, id, l1, l2, tick, l3, l4, epoch, seq, l5, l6⟩ = false := by rw [E.out, hz2, hs]; rfl
    rw [unsealM, E2]
    clear r1 r2 r3 r4 r5 E2 E hz2
    go_enter Try.func10, Try.ntmps10
    go_wp2_with (go_at_call 15; refine C.out.mono ?_; rintro e w1 ⟨b1, m1, d1, rfl, o1, g1⟩; have e1 := o1.blen; have q1 := b0.keep0 g1; have cc := fun o => q1.cell o; skip)
    have hm : ((m1 : Int) == 0) = false := by rw [beq_eq_false_iff_ne]; omega
    have KX : Hid (∀ w', w1.grownBy w' none → (w'.cell? ⟨w.heap.size, 0, none⟩ = some (.int .i64 kind) ∧ w'.cell? ⟨w.heap.size, 1, none⟩ = some (.int .i64 id) ∧ w'.cell? ⟨w.heap.size, 2, none⟩ = some (.slice a1 n1 c1) ∧ w'.cell? ⟨w.heap.size, 3, none⟩ = some (.slice a2 n2 c2) ∧ w'.cell? ⟨w.heap.size, 4, none⟩ = some (.int .i64 tick) ∧ w'.cell? ⟨w.heap.size, 5, none⟩ = some (.slice a3 n3 c3) ∧ w'.cell? ⟨w.heap.size, 6, none⟩ = some (.slice a4 n4 c4) ∧ w'.cell? ⟨w.heap.size, 7, none⟩ = some (.int .i64 epoch) ∧ w'.cell? ⟨w.heap.size, 8, none⟩ = some (.int .i64 seq) ∧ w'.cell? ⟨w.heap.size, 9, none⟩ = some (.slice a5 n5 c5) ∧ w'.cell? ⟨w.heap.size, 10, none⟩ = some (.slice a6 n6 c6) ∧ w1.grownBy w' none)) := fun w' hg => ⟨(q1.keep0 hg).cell 0, (q1.keep0 hg).cell 1, (q1.keep0 hg).cell 2, (q1.keep0 hg).cell 3, (q1.keep0 hg).cell 4, (q1.keep0 hg).cell 5, (q1.keep0 hg).cell 6, (q1.keep0 hg).cell 7, (q1.keep0 hg).cell 8, (q1.keep0 hg).cell 9, (q1.keep0 hg).cell 10, hg⟩
    clear cc q1
    go_region_held3 (fun w' => w'.cell? ⟨w.heap.size, 0, none⟩ = some (.int .i64 kind) ∧ w'.cell? ⟨w.heap.size, 1, none⟩ = some (.int .i64 id) ∧ w'.cell? ⟨w.heap.size, 2, none⟩ = some (.slice a1 n1 c1) ∧ w'.cell? ⟨w.heap.size, 3, none⟩ = some (.slice a2 n2 c2) ∧ w'.cell? ⟨w.heap.size, 4, none⟩ = some (.int .i64 tick) ∧ w'.cell? ⟨w.heap.size, 5, none⟩ = some (.slice a3 n3 c3) ∧ w'.cell? ⟨w.heap.size, 6, none⟩ = some (.slice a4 n4 c4) ∧ w'.cell? ⟨w.heap.size, 7, none⟩ = some (.int .i64 epoch) ∧ w'.cell? ⟨w.heap.size, 8, none⟩ = some (.int .i64 seq) ∧ w'.cell? ⟨w.heap.size, 9, none⟩ = some (.slice a5 n5 c5) ∧ w'.cell? ⟨w.heap.size, 10, none⟩ = some (.slice a6 n6 c6) ∧ w1.grownBy w' none)
      ((refine KX.out _ ?_; (repeat (first | with_reducible exact gb_refl _ | with_reducible refine gb_alloc ?_ _ | with_reducible refine gb_drewN ?_ _ | with_reducible refine gb_drew ?_ | with_reducible refine gb_trans ?_ g2 | with_reducible refine gb_trans ?_ g3))))
      (first
        | (go_at_call 14; refine (impl_Tag a 32 c l b1 m1 d1 I _ (r.keep0 (by (repeat (first | with_reducible exact gb_refl _ | with_reducible exact G | with_reducible refine gb_alloc ?_ _ | with_reducible refine gb_drewN ?_ _ | with_reducible refine gb_drew ?_ | with_reducible refine gb_trans ?_ g1)))) (o1.rd.keep0 (by (repeat (first | with_reducible exact gb_refl _ | with_reducible refine gb_alloc ?_ _ | with_reducible refine gb_drewN ?_ _ | with_reducible refine gb_drew ?_)))) (by omega) (by omega)).mono ?_; rintro e w2 ⟨b2, m2, d2, rfl, o2, g2⟩; skip)
        | (go_at_call 36; refine (impl_SameTag a6 n6 c6 l6 b2 m2 d2 _ _ (r6.keep0 (by (repeat (first | with_reducible exact gb_refl _ | with_reducible exact G | with_reducible refine gb_alloc ?_ _ | with_reducible refine gb_drewN ?_ _ | with_reducible refine gb_drew ?_ | with_reducible refine gb_trans ?_ g1 | with_reducible refine gb_trans ?_ g2)))) (o2.rd.keep0 (by (repeat (first | with_reducible exact gb_refl _ | with_reducible refine gb_alloc ?_ _ | with_reducible refine gb_drewN ?_ _ | with_reducible refine gb_drew ?_))))).mono ?_; rw [hs]; rintro e w3 ⟨rfl, g3⟩; skip)
        | fail)
    go_wp2
    go_ret2
    first | exact ⟨_, _, _, rfl, Ow.nil _ _ _, by (repeat (first | with_reducible exact gb_refl _ | with_reducible exact G | with_reducible refine gb_alloc ?_ _ | with_reducible refine gb_drewN ?_ _ | with_reducible refine gb_drew ?_ | with_reducible refine gb_trans ?_ g1 | with_reducible refine gb_trans ?_ g2 | with_reducible refine gb_trans ?_ g3))⟩ | exact ⟨_, _, _, rfl, (new_own _ _).mono (World.grownBy.size (row := none) (by (repeat (first | with_reducible exact gb_refl _ | with_reducible exact G | with_reducible refine gb_alloc ?_ _ | with_reducible refine gb_drewN ?_ _ | with_reducible refine gb_drew ?_ | with_reducible refine gb_trans ?_ g1 | with_reducible refine gb_trans ?_ g2 | with_reducible refine gb_trans ?_ g3)))), by (repeat (first | with_reducible exact gb_refl _ | with_reducible exact G | with_reducible refine gb_alloc ?_ _ | with_reducible refine gb_drewN ?_ _ | with_reducible refine gb_drew ?_ | with_reducible refine gb_trans ?_ g1 | with_reducible refine gb_trans ?_ g2 | with_reducible refine gb_trans ?_ g3))⟩
  · have E2 : unsealB l x ⟨kind, id, l1, l2, tick, l3, l4, epoch, seq, l5, l6⟩ = true := by rw [E.out, hz2, hs]; rfl
    have bl := (unseal_len E2).2
    simp only at bl
    have hl := headM_len x l2 epoch seq
    have e5 := r5.blen
    rw [unsealM, E2, if_pos rfl]
    clear r1 r3 r4 E2 E hz2
    go_enter Try.func10, Try.ntmps10
    go_wp2_with (go_at_call 15; refine C.out.mono ?_; rintro e w1 ⟨b1, m1, d1, rfl, o1, g1⟩; have e1 := o1.blen; have q1 := b0.keep0 g1; have cc := fun o => q1.cell o; skip)
    have hm : ((m1 : Int) == 0) = false := by rw [beq_eq_false_iff_ne]; omega
    have KX : Hid (∀ w', w1.grownBy w' none → (w'.cell? ⟨w.heap.size, 0, none⟩ = some (.int .i64 kind) ∧ w'.cell? ⟨w.heap.size, 1, none⟩ = some (.int .i64 id) ∧ w'.cell? ⟨w.heap.size, 2, none⟩ = some (.slice a1 n1 c1) ∧ w'.cell? ⟨w.heap.size, 3, none⟩ = some (.slice a2 n2 c2) ∧ w'.cell? ⟨w.heap.size, 4, none⟩ = some (.int .i64 tick) ∧ w'.cell? ⟨w.heap.size, 5, none⟩ = some (.slice a3 n3 c3) ∧ w'.cell? ⟨w.heap.size, 6, none⟩ = some (.slice a4 n4 c4) ∧ w'.cell? ⟨w.heap.size, 7, none⟩ = some (.int .i64 epoch) ∧ w'.cell? ⟨w.heap.size, 8, none⟩ = some (.int .i64 seq) ∧ w'.cell? ⟨w.heap.size, 9, none⟩ = some (.slice a5 n5 c5) ∧ w'.cell? ⟨w.heap.size, 10, none⟩ = some (.slice a6 n6 c6) ∧ w1.grownBy w' none)) := fun w' hg => ⟨(q1.keep0 hg).cell 0, (q1.keep0 hg).cell 1, (q1.keep0 hg).cell 2, (q1.keep0 hg).cell 3, (q1.keep0 hg).cell 4, (q1.keep0 hg).cell 5, (q1.keep0 hg).cell 6, (q1.keep0 hg).cell 7, (q1.keep0 hg).cell 8, (q1.keep0 hg).cell 9, (q1.keep0 hg).cell 10, hg⟩
    clear cc q1
    go_region_held3 (fun w' => w'.cell? ⟨w.heap.size, 0, none⟩ = some (.int .i64 kind) ∧ w'.cell? ⟨w.heap.size, 1, none⟩ = some (.int .i64 id) ∧ w'.cell? ⟨w.heap.size, 2, none⟩ = some (.slice a1 n1 c1) ∧ w'.cell? ⟨w.heap.size, 3, none⟩ = some (.slice a2 n2 c2) ∧ w'.cell? ⟨w.heap.size, 4, none⟩ = some (.int .i64 tick) ∧ w'.cell? ⟨w.heap.size, 5, none⟩ = some (.slice a3 n3 c3) ∧ w'.cell? ⟨w.heap.size, 6, none⟩ = some (.slice a4 n4 c4) ∧ w'.cell? ⟨w.heap.size, 7, none⟩ = some (.int .i64 epoch) ∧ w'.cell? ⟨w.heap.size, 8, none⟩ = some (.int .i64 seq) ∧ w'.cell? ⟨w.heap.size, 9, none⟩ = some (.slice a5 n5 c5) ∧ w'.cell? ⟨w.heap.size, 10, none⟩ = some (.slice a6 n6 c6) ∧ w1.grownBy w' none)
      ((refine KX.out _ ?_; (repeat (first | with_reducible exact gb_refl _ | with_reducible refine gb_alloc ?_ _ | with_reducible refine gb_drewN ?_ _ | with_reducible refine gb_drew ?_ | with_reducible refine gb_trans ?_ g2 | with_reducible refine gb_trans ?_ g3))))
      (first
        | (go_at_call 14; refine (impl_Tag a 32 c l b1 m1 d1 I _ (r.keep0 (by (repeat (first | with_reducible exact gb_refl _ | with_reducible exact G | with_reducible refine gb_alloc ?_ _ | with_reducible refine gb_drewN ?_ _ | with_reducible refine gb_drew ?_ | with_reducible refine gb_trans ?_ g1)))) (o1.rd.keep0 (by (repeat (first | with_reducible exact gb_refl _ | with_reducible refine gb_alloc ?_ _ | with_reducible refine gb_drewN ?_ _ | with_reducible refine gb_drew ?_)))) (by omega) (by omega)).mono ?_; rintro e w2 ⟨b2, m2, d2, rfl, o2, g2⟩; skip)
        | (go_at_call 36; refine (impl_SameTag a6 n6 c6 l6 b2 m2 d2 _ _ (r6.keep0 (by (repeat (first | with_reducible exact gb_refl _ | with_reducible exact G | with_reducible refine gb_alloc ?_ _ | with_reducible refine gb_drewN ?_ _ | with_reducible refine gb_drew ?_ | with_reducible refine gb_trans ?_ g1 | with_reducible refine gb_trans ?_ g2)))) (o2.rd.keep0 (by (repeat (first | with_reducible exact gb_refl _ | with_reducible refine gb_alloc ?_ _ | with_reducible refine gb_drewN ?_ _ | with_reducible refine gb_drew ?_))))).mono ?_; rw [hs]; rintro e w3 ⟨rfl, g3⟩; skip)
        | fail)
    go_wp2
    go_region_held3 (fun w' => w'.cell? ⟨w.heap.size, 0, none⟩ = some (.int .i64 kind) ∧ w'.cell? ⟨w.heap.size, 1, none⟩ = some (.int .i64 id) ∧ w'.cell? ⟨w.heap.size, 2, none⟩ = some (.slice a1 n1 c1) ∧ w'.cell? ⟨w.heap.size, 3, none⟩ = some (.slice a2 n2 c2) ∧ w'.cell? ⟨w.heap.size, 4, none⟩ = some (.int .i64 tick) ∧ w'.cell? ⟨w.heap.size, 5, none⟩ = some (.slice a3 n3 c3) ∧ w'.cell? ⟨w.heap.size, 6, none⟩ = some (.slice a4 n4 c4) ∧ w'.cell? ⟨w.heap.size, 7, none⟩ = some (.int .i64 epoch) ∧ w'.cell? ⟨w.heap.size, 8, none⟩ = some (.int .i64 seq) ∧ w'.cell? ⟨w.heap.size, 9, none⟩ = some (.slice a5 n5 c5) ∧ w'.cell? ⟨w.heap.size, 10, none⟩ = some (.slice a6 n6 c6) ∧ w1.grownBy w' none)
      ((refine KX.out _ ?_; (repeat (first | with_reducible exact gb_refl _ | with_reducible refine gb_alloc ?_ _ | with_reducible refine gb_drewN ?_ _ | with_reducible refine gb_drew ?_ | with_reducible refine gb_trans ?_ g2 | with_reducible refine gb_trans ?_ g3 | with_reducible refine gb_trans ?_ g4 | with_reducible refine gb_trans ?_ g5))))
      (first
        | (go_at_call 29; refine (impl_HeadOf x a2 n2 c2 l2 epoch seq _ (r2.keep0 (by (repeat (first | with_reducible exact gb_refl _ | with_reducible exact G | with_reducible refine gb_alloc ?_ _ | with_reducible refine gb_drewN ?_ _ | with_reducible refine gb_drew ?_ | with_reducible refine gb_trans ?_ g1 | with_reducible refine gb_trans ?_ g2 | with_reducible refine gb_trans ?_ g3))))).mono ?_; rintro e w4 ⟨b4, m4, d4, rfl, o4, g4⟩; have e4 := o4.blen; skip)
        | (go_at_call 28; refine (impl_Mix a 32 c l b4 m4 d4 _ a5 n5 c5 l5 _ (r.keep0 (by (repeat (first | with_reducible exact gb_refl _ | with_reducible exact G | with_reducible refine gb_alloc ?_ _ | with_reducible refine gb_drewN ?_ _ | with_reducible refine gb_drew ?_ | with_reducible refine gb_trans ?_ g1 | with_reducible refine gb_trans ?_ g2 | with_reducible refine gb_trans ?_ g3 | with_reducible refine gb_trans ?_ g4)))) (o4.rd.keep0 (by (repeat (first | with_reducible exact gb_refl _ | with_reducible refine gb_alloc ?_ _ | with_reducible refine gb_drewN ?_ _ | with_reducible refine gb_drew ?_)))) (r5.keep0 (by (repeat (first | with_reducible exact gb_refl _ | with_reducible exact G | with_reducible refine gb_alloc ?_ _ | with_reducible refine gb_drewN ?_ _ | with_reducible refine gb_drew ?_ | with_reducible refine gb_trans ?_ g1 | with_reducible refine gb_trans ?_ g2 | with_reducible refine gb_trans ?_ g3 | with_reducible refine gb_trans ?_ g4)))) (by omega) (by omega) (by omega)).mono ?_; rintro e w5 ⟨b5, m5, d5, rfl, o5, g5⟩; skip)
        | fail)
    go_wp2
    go_ret2
    exact ⟨_, _, _, rfl, o5.mono (World.grownBy.size (row := none) (by (repeat (first | with_reducible exact gb_refl _ | with_reducible exact G | with_reducible refine gb_alloc ?_ _ | with_reducible refine gb_drewN ?_ _ | with_reducible refine gb_drew ?_ | with_reducible refine gb_trans ?_ g1 | with_reducible refine gb_trans ?_ g2 | with_reducible refine gb_trans ?_ g3 | with_reducible refine gb_trans ?_ g4)))), by (repeat (first | with_reducible exact gb_refl _ | with_reducible exact G | with_reducible refine gb_alloc ?_ _ | with_reducible refine gb_drewN ?_ _ | with_reducible refine gb_drew ?_ | with_reducible refine gb_trans ?_ g1 | with_reducible refine gb_trans ?_ g2 | with_reducible refine gb_trans ?_ g3 | with_reducible refine gb_trans ?_ g4 | with_reducible refine gb_trans ?_ g5))⟩
end Go.Proofs.Ytpfchphgbhgmmaa

/-
  Contracts of the two functions that open a frame in an epoch. Conditions: none beside those that each theorem names.
-/
namespace Go.Proofs.Ytpfchphgbhgmmaa
open Go.RowKit
def epOpenC (e : EpM) (x : Int) (f : FrameM) : Int :=
  if epOkB e = true ∧ (tagInM x f).length ≠ 0 ∧ f.epoch = e.n then (if winMay e.win f.seq = true then (if unsealB e.key x f = true then 0 else 2) else 3) else 1
def epOpenE (e : EpM) (x : Int) (f : FrameM) : EpM := if epOpenC e x f = 0 then { e with win := winAddM e.win f.seq } else e
def epOpenP (e : EpM) (x : Int) (f : FrameM) : List UInt8 := if epOpenC e x f = 0 then unsealM e.key x f else []
theorem epOpenE_tot (e : EpM) (x : Int) (f : FrameM) : (epOpenE e x f).tot = e.tot := by
  unfold epOpenE
  split
  · have := winAddM_tot e.win f.seq
    simp only [EpM.tot, WinM.tot] at this ⊢
    omega
  · rfl
end Go.Proofs.Ytpfchphgbhgmmaa

/-
  Plain laws on sealing: what is sealed is opened as it was; with another tag it is not. Conditions: none beside those that each theorem names.
-/
namespace Go.Proofs.Ytpfchphgbhgmmaa
open Go.RowKit
theorem xor_xor8 (x y : UInt8) : x ^^^ (x ^^^ y) = y := by
  apply UInt8.toNat_inj.1
  simp only [UInt8.toNat_xor, ← Nat.xor_assoc, Nat.xor_self, Nat.zero_xor]
theorem mixL_mixL : ∀ (s b : List UInt8), b.length ≤ s.length → mixL s (mixL s b) = b
  | _, [], _ => by simp [mixL]
  | [], _ :: _, h => by simp at h
  | x :: s, y :: b, h => by
    have := mixL_mixL s b (by simpa using h)
    simp only [mixL, List.zipWith_cons_cons, xor_xor8] at this ⊢
    rw [this]
theorem mixM_mixM {key head b : List UInt8} (h : key.length ≤ 1048576) (h2 : head.length ≤ 100) (hb : b.length ≤ 200) : mixM key head (mixM key head b) = b := by
  have hl := mixM_len h h2 hb
  conv => lhs; rw [mixM]
  rw [hl, mixM]
  exact mixL_mixL _ _ (by rw [strM_len h h2 hb]; exact Nat.le_refl _)
theorem tagM_len {key b : List UInt8} (h : key.length = 32) (hb : b.length ≤ 65) : (tagM key b).length = 16 := by
  have := hmacM_len (key := key) (b := b) (by omega) (by omega)
  rw [tagM, List.length_take, this]
  rfl
theorem frOk_sealF {kind : Int} {sn : List UInt8} {epoch seq : Int} {b1 b2 t1 t2 : List UInt8} (hb : b1.length = b2.length) (ht : t1.length = t2.length) : frOk (sealF kind sn epoch seq b1 t1) = frOk (sealF kind sn epoch seq b2 t2) := by
  simp only [frOk, sealF, hb, ht]
theorem tagIn_sealF {x kind : Int} {sn : List UInt8} {epoch seq : Int} {b t1 t2 : List UInt8} (ht : t1.length = t2.length) : tagInM x (sealF kind sn epoch seq b t1) = tagInM x (sealF kind sn epoch seq b t2) := by
  unfold tagInM
  rw [frOk_sealF rfl ht]
  rfl
structure SealOk (l : List UInt8) (x : Int) (sn : List UInt8) (epoch seq kind : Int) (plain : List UInt8) (M T : List UInt8) : Prop where
  eq : sealM l x sn epoch seq kind plain = sealF kind sn epoch seq M T
  hM : M = mixM l (headM x sn epoch seq) plain
  hT : T = tagM l (tagInM x (sealF kind sn epoch seq M T))
  tl : T.length = 16
  ml : M.length = plain.length
  kl : l.length = 32
  pl : plain.length ≤ 40
  ok : frOk (sealF kind sn epoch seq M T) = true
  role : roleB x = true
  sealed : sealedB kind = true
theorem sealOk {l : List UInt8} {x : Int} {sn : List UInt8} {epoch seq kind : Int} {plain : List UInt8} (h : sealB l x sn epoch seq kind plain = true) : ∃ M T, SealOk l x sn epoch seq kind plain M T := by
  obtain ⟨h1, h2, h3, -⟩ := sealB_S h
  have h4 := h
  simp only [sealB, Bool.and_eq_true, beq_iff_eq] at h4
  obtain ⟨-, h5, h6, h7⟩ := h4
  have ml : (mixM l (headM x sn epoch seq) plain).length = plain.length := mixM_len (by omega) (Nat.le_trans (headM_len _ _ _ _) (by decide)) (by omega)
  have tl := tagM_len (b := tagInM x (sealF kind sn epoch seq (mixM l (headM x sn epoch seq) plain) z16)) h1 (tagInM_len _ _)
  refine ⟨_, _, ⟨by rw [sealM, if_pos h], rfl, ?_, tl, ml, h1, h3, ?_, h5, h6⟩⟩
  · rw [tagIn_sealF (t1 := tagM l _) (t2 := z16) (by rw [tl]; rfl)]
  · rw [frOk_sealF (b2 := plain) (t2 := z16) ml (by rw [tl]; rfl)]
    exact h7
theorem tagIn_pos {x : Int} {f : FrameM} (h1 : roleB x = true) (h2 : sealedB f.kind = true) (h3 : frOk f = true) : tagInM x f = [116] ++ headM x f.sn f.epoch f.seq ++ [b8 f.kind] ++ f.body := by
  unfold tagInM
  rw [h1, h2, h3]
  rfl
theorem SealOk.unseal {l : List UInt8} {x : Int} {sn : List UInt8} {epoch seq kind : Int} {plain M T : List UInt8} (h : SealOk l x sn epoch seq kind plain M T) : unsealB l x (sealF kind sn epoch seq M T) = true ∧ unsealM l x (sealF kind sn epoch seq M T) = plain := by
  have h1 : unsealB l x (sealF kind sn epoch seq M T) = true := by
    unfold unsealB
    rw [show (sealF kind sn epoch seq M T).tag = T from rfl, ← h.hT, tagIn_pos h.role h.sealed h.ok]
    simp [h.kl, sameT, h.tl]
    omega
  refine ⟨h1, ?_⟩
  rw [unsealM, if_pos h1]
  show mixM l (headM x sn epoch seq) M = plain
  rw [h.hM]
  exact mixM_mixM (by rw [h.kl]; decide) (Nat.le_trans (headM_len _ _ _ _) (by decide)) (by have := h.pl; omega)
theorem SealOk.bent {l : List UInt8} {x : Int} {sn : List UInt8} {epoch seq kind : Int} {plain M T T' : List UInt8} (h : SealOk l x sn epoch seq kind plain M T) (hl : T'.length = T.length) (hne : T' ≠ T) : unsealB l x (sealF kind sn epoch seq M T') = false := by
  unfold unsealB
  rw [show (sealF kind sn epoch seq M T').tag = T' from rfl, tagIn_sealF (t1 := T') (t2 := T) hl, ← h.hT]
  simp [sameT, hne]
end Go.Proofs.Ytpfchphgbhgmmaa

/-
  Plain facts on windows: after a number is taken the window has it, and what it had, as far as it is not too old. Conditions: none beside those that each theorem names.
-/
namespace Go.Proofs.Ytpfchphgbhgmmaa
open Go.RowKit
theorem winOk_iff {f : WinM} : winOk f = true ↔ (-1 ≤ f.top ∧ f.top ≤ 281474976710655) ∧ areW f.bits 32 = true ∧ (∀ n : Nat, n < 1024 → f.top < n → winBit f.bits n = false) ∧ (f.top = -1 ∨ winBit f.bits f.top.toNat = true) := by
  simp only [winOk, Bool.and_eq_true, inB_iff, noneAbove_iff, topBit, Bool.or_eq_true, beq_iff_eq]
  constructor
  · rintro ⟨⟨⟨h1, h2⟩, h3⟩, h4⟩
    exact ⟨h1, h2, h3, h4⟩
  · rintro ⟨h1, h2, h3, h4⟩
    exact ⟨⟨⟨h1, h2⟩, h3⟩, h4⟩
theorem winMay_iff {f : WinM} {n : Int} : winMay f n = true ↔ winOk f = true ∧ (0 ≤ n ∧ n ≤ 281474976710655) ∧ (f.top < n ∨ (least f.top ≤ n ∧ winBit f.bits n.toNat = false)) := by
  simp only [winMay, Bool.and_eq_true, inB_iff, Bool.or_eq_true, decide_eq_true_eq, Bool.not_eq_true']
  exact ⟨fun ⟨⟨h1, h2⟩, h3⟩ => ⟨h1, h2, h3⟩, fun ⟨h1, h2, h3⟩ => ⟨⟨h1, h2⟩, h3⟩⟩
theorem winHas_iff {f : WinM} {n : Int} : winHas f n = true ↔ winOk f = true ∧ (least f.top ≤ n ∧ n ≤ f.top) ∧ winBit f.bits n.toNat = true := by
  simp only [winHas, Bool.and_eq_true, inB_iff]
  exact ⟨fun ⟨⟨h1, h2⟩, h3⟩ => ⟨h1, h2, h3⟩, fun ⟨h1, h2, h3⟩ => ⟨⟨h1, h2⟩, h3⟩⟩
theorem least_le {t : Int} : 0 ≤ least t := by unfold least; split <;> omega
theorem least_iff {t n : Int} (h : 0 ≤ n) : least t ≤ n ↔ t - 1024 < n := by unfold least; split <;> omega
theorem winAdd_top {f : WinM} {n : Int} (h : winMay f n = true) : (winAddM f n).top = max f.top n := by rw [winAddM, if_pos h]
theorem winAdd_no {f : WinM} {n : Int} (h : winMay f n = false) : winAddM f n = f := by rw [winAddM, if_neg (by rw [h]; decide)]
/-- what the window has after a number was taken -/
theorem winAdd_bit {f : WinM} {n : Int} (h : winMay f n = true) : areW (winAddM f n).bits 32 = true ∧ ∀ y : Int, 0 ≤ y → max f.top n - 1024 < y → y ≤ max f.top n →
    (winBit (winAddM f n).bits y.toNat = true ↔ y = n ∨ (y ≤ f.top ∧ winBit f.bits y.toNat = true)) := by
  obtain ⟨h1, ⟨h2, h3⟩, h4⟩ := winMay_iff.1 h
  obtain ⟨⟨t1, t2⟩, t3, t4, t5⟩ := winOk_iff.1 h1
  rw [winAddM, if_pos h]
  simp only
  obtain ⟨k, rfl⟩ := Int.eq_ofNat_of_zero_le h2
  rw [Int.toNat_natCast]
  obtain ⟨p1, p2⟩ := clr_ok t3 (addLo f k) (k - addLo f k)
  obtain ⟨p3, p4⟩ := setBit_ok p1 k
  refine ⟨p3, fun y y0 y1 y2 => ?_⟩
  obtain ⟨m, rfl⟩ := Int.eq_ofNat_of_zero_le y0
  rw [Int.toNat_natCast, p4, p2]
  have hlo : addLo f k = max (f.top + 1).toNat (k - 1023) := by unfold addLo; omega
  rw [hlo]
  simp only [Bool.or_eq_true, Bool.and_eq_true, Bool.not_eq_true', decide_eq_true_eq, decide_eq_false_iff_not]
  have hy : (k % 1024 = m % 1024) ↔ (m : Int) = (k : Int) := by
    have hk : f.top - 1024 < k := by
      rcases h4 with h4 | ⟨h4, -⟩
      · omega
      · exact (least_iff h2).1 h4
    omega
  rw [hy]
  constructor
  · rintro (⟨hb, hn⟩ | e)
    · by_cases e : (m : Int) = k
      · exact .inl e
      · right
        refine ⟨?_, hb⟩
        by_cases hm : (m : Int) ≤ f.top
        · exact hm
        · exact absurd ⟨m - max (f.top + 1).toNat (k - 1023), by omega, by omega⟩ hn
    · exact .inl e
  · rintro (e | ⟨hm, hb⟩)
    · exact .inr e
    · refine .inl ⟨hb, ?_⟩
      rintro ⟨d, hd, e⟩
      omega
theorem winAdd_ok {f : WinM} {n : Int} (h : winMay f n = true) : winOk (winAddM f n) = true := by
  obtain ⟨h1, ⟨h2, h3⟩, h4⟩ := winMay_iff.1 h
  obtain ⟨⟨t1, t2⟩, t3, t4, t5⟩ := winOk_iff.1 h1
  obtain ⟨b1, b2⟩ := winAdd_bit h
  refine winOk_iff.2 ⟨by rw [winAdd_top h]; omega, b1, ?_, ?_⟩
  · intro m hm hlt
    rw [winAdd_top h] at hlt
    rw [winAddM, if_pos h]
    simp only
    obtain ⟨k, rfl⟩ := Int.eq_ofNat_of_zero_le h2
    rw [Int.toNat_natCast]
    obtain ⟨p1, p2⟩ := clr_ok t3 (addLo f k) (k - addLo f k)
    obtain ⟨p3, p4⟩ := setBit_ok p1 k
    rw [p4, p2, t4 m hm (by omega), decide_eq_false (show ¬ k % 1024 = m % 1024 by omega), Bool.false_and, Bool.or_false]
  · right
    rw [winAdd_top h]
    have ht : 0 ≤ max f.top n := by omega
    rw [b2 _ ht (by omega) (by omega)]
    by_cases e : f.top < n
    · exact .inl (by omega)
    · have e2 : max f.top n = f.top := by omega
      rw [e2]
      exact .inr ⟨by omega, t5.resolve_left (by omega)⟩
theorem winAdd_okA {f : WinM} (n : Int) (h : winOk f = true) : winOk (winAddM f n) = true := by
  cases hm : winMay f n
  · rw [winAdd_no hm]; exact h
  · exact winAdd_ok hm
theorem bent_has {f : WinM} {n : Int} (h : winMay f n = true) : winHas (winAddM f n) n = true := by
  obtain ⟨h1, ⟨h2, h3⟩, h4⟩ := winMay_iff.1 h
  have hk : f.top - 1024 < n := by
    rcases h4 with h4 | ⟨h4, -⟩
    · omega
    · exact (least_iff h2).1 h4
  refine winHas_iff.2 ⟨winAdd_ok h, ?_, ?_⟩
  · rw [winAdd_top h, least_iff h2]; omega
  · rw [(winAdd_bit h).2 n h2 (by omega) (by omega)]; exact .inl rfl
theorem bent_may {f : WinM} {n : Int} (h : winMay f n = true) : winMay (winAddM f n) n = false := by
  have hh := winHas_iff.1 (bent_has h)
  cases e : winMay (winAddM f n) n
  · rfl
  · rcases (winMay_iff.1 e).2.2 with h9 | ⟨-, h9⟩
    · have := hh.2.1.2; omega
    · rw [hh.2.2] at h9; cases h9
theorem bent_not {f : WinM} {n : Int} (h : winMay f n = true) : winHas f n = false := by
  cases e : winHas f n
  · rfl
  · have hh := winHas_iff.1 e
    rcases (winMay_iff.1 h).2.2 with h9 | ⟨-, h9⟩
    · have := hh.2.1.2; omega
    · rw [hh.2.2] at h9; cases h9
theorem winNew_ok : winOk winNew = true := winOk_iff.2 ⟨by decide, by decide, fun n hn _ => by
  simp only [winBit, winNew, List.getD_eq_getElem?_getD, List.getElem?_replicate]
  rw [if_pos (by omega)]
  simp, .inl rfl⟩
end Go.Proofs.Ytpfchphgbhgmmaa

/-
  Plain laws on epochs: what an epoch seals another one with its key opens as it was, once; what is opened was not had and is had then. Conditions: none beside those that each theorem names.
-/
namespace Go.Proofs.Ytpfchphgbhgmmaa
open Go.RowKit
theorem epOkB_iff {e : EpM} : epOkB e = true ↔ (0 ≤ e.n ∧ e.n ≤ 4294967295) ∧ e.key.length = 32 ∧ (0 ≤ e.seq ∧ e.seq ≤ 281474976710656) ∧ winOk e.win = true := by
  simp only [epOkB, Bool.and_eq_true, inB_iff, beq_iff_eq]
  constructor
  · rintro ⟨⟨⟨a, b⟩, c⟩, d⟩
    exact ⟨a, by omega, c, d⟩
  · rintro ⟨a, b, c, d⟩
    exact ⟨⟨⟨a, by omega⟩, c⟩, d⟩
theorem epSealC_zero {e : EpM} {x : Int} {sn : List UInt8} {kind : Int} {plain : List UInt8} (h : epSealC e x sn kind plain = 0) : epOkB e = true ∧ sealB e.key x sn e.n 0 kind plain = true ∧ e.seq ≠ 281474976710656 := by
  unfold epSealC at h
  split at h
  · rename_i h1
    simp only [epSealB, Bool.and_eq_true] at h1
    split at h
    · simp at h
    · split at h
      · simp at h
      · rename_i h3
        exact ⟨h1.1, h1.2, h3⟩
  · simp at h
theorem sealB_seqs {l : List UInt8} {x : Int} {sn : List UInt8} {epoch seq kind : Int} {plain : List UInt8} (h : sealB l x sn epoch 0 kind plain = true) (h0 : 0 ≤ seq) (h1 : seq ≤ 281474976710655) : sealB l x sn epoch seq kind plain = true := by
  simp only [sealB, Bool.and_eq_true, beq_iff_eq] at h ⊢
  obtain ⟨a, b, c, d⟩ := h
  refine ⟨a, b, c, ?_⟩
  simp only [frOk, frOkN, sealF, c, ↓reduceIte, Bool.and_eq_true] at d ⊢
  obtain ⟨⟨⟨d1, -⟩, d3⟩, d4⟩ := d
  exact ⟨⟨⟨d1, inB_t h0 h1⟩, d3⟩, d4⟩
theorem openC0 {e : EpM} {x : Int} {F : FrameM} (h1 : epOkB e = true) (h2 : (tagInM x F).length ≠ 0) (h3 : F.epoch = e.n) (h4 : winMay e.win F.seq = true) (h5 : unsealB e.key x F = true) : epOpenC e x F = 0 := by
  unfold epOpenC
  rw [if_pos ⟨h1, h2, h3⟩, if_pos h4, if_pos h5]
theorem openC3 {e : EpM} {x : Int} {F : FrameM} (h1 : epOkB e = true) (h2 : (tagInM x F).length ≠ 0) (h3 : F.epoch = e.n) (h4 : winMay e.win F.seq = false) : epOpenC e x F = 3 := by
  unfold epOpenC
  rw [if_pos ⟨h1, h2, h3⟩, if_neg (by rw [h4]; decide)]
/-- what is sealed in an epoch and what a new one with its key makes of it -/
structure OpensOk (e : EpM) (x : Int) (kind : Int) (sn plain : List UInt8) (F : FrameM) (y : EpM) : Prop where
  fe : epSealF e x sn kind plain = F
  seq : F.seq = e.seq
  xs : (epSealE e x sn kind plain).seq = e.seq + 1
  xw : (epSealE e x sn kind plain).win = e.win
  xok : epOkB (epSealE e x sn kind plain) = true
  c1 : epOpenC (epNewM e.n e.key) x F = 0
  p1 : epOpenP (epNewM e.n e.key) x F = plain
  ye : epOpenE (epNewM e.n e.key) x F = y
  c2 : epOpenC y x F = 3
  z : epOpenE y x F = y
  yok : epOkB y = true
  has : winHas y.win F.seq = true
  lo : 0 ≤ e.seq
  hi : e.seq ≤ 281474976710655
theorem opensOk {e : EpM} {x : Int} {sn : List UInt8} {kind : Int} {plain : List UInt8} (h : epSealC e x sn kind plain = 0) : ∃ F y, OpensOk e x kind sn plain F y := by
  obtain ⟨h1, h2, h3⟩ := epSealC_zero h
  obtain ⟨hn, hk, hs, hw⟩ := epOkB_iff.1 h1
  have hs1 : e.seq ≤ 281474976710655 := by omega
  have hx : epSealE e x sn kind plain = { e with seq := e.seq + 1 } := by rw [epSealE, if_pos h]
  obtain ⟨M, T, K⟩ := sealOk (sealB_seqs h2 hs.1 (by omega))
  have ho : epNewM e.n e.key = ⟨e.n, e.key, 0, winNew⟩ := by
    unfold epNewM
    rw [if_pos (by simp only [Bool.and_eq_true, inB_iff, beq_iff_eq]; omega)]
  have hm : winMay winNew e.seq = true := winMay_iff.2 ⟨winNew_ok, ⟨hs.1, by omega⟩, .inl (by show (-1 : Int) < e.seq; omega)⟩
  have ht : (tagInM x (sealF kind sn e.n e.seq M T)).length ≠ 0 := by
    rw [tagIn_pos K.role K.sealed K.ok]
    simp
  have hz : (0 : Int) ≤ 0 ∧ (0 : Int) ≤ 281474976710656 := ⟨by decide, by decide⟩
  have hok : epOkB ⟨e.n, e.key, 0, winNew⟩ = true := epOkB_iff.2 ⟨hn, hk, hz, winNew_ok⟩
  obtain ⟨W, hW⟩ : ∃ W, W = winAddM winNew e.seq := ⟨_, rfl⟩
  have hwo : winOk W = true := by rw [hW]; exact winAdd_ok hm
  have hwh : winHas W e.seq = true := by rw [hW]; exact bent_has hm
  have hwm : winMay W e.seq = false := by rw [hW]; exact bent_may hm
  have oky : epOkB ⟨e.n, e.key, 0, W⟩ = true := epOkB_iff.2 ⟨hn, hk, hz, hwo⟩
  obtain ⟨F, hF⟩ : ∃ F, F = sealF kind sn e.n e.seq M T := ⟨_, rfl⟩
  have hFn : F.epoch = e.n := by rw [hF]; rfl
  have hFs : F.seq = e.seq := by rw [hF]; rfl
  have hu := K.unseal
  rw [← hF] at ht hu
  have c1 : epOpenC ⟨e.n, e.key, 0, winNew⟩ x F = 0 := openC0 hok ht hFn (by rw [hFs]; exact hm) hu.1
  have c2 : epOpenC ⟨e.n, e.key, 0, W⟩ x F = 3 := openC3 oky ht hFn (by rw [hFs]; exact hwm)
  refine ⟨F, ⟨e.n, e.key, 0, W⟩, ⟨by rw [epSealF, if_pos h, K.eq, hF], hFs, by rw [hx], by rw [hx], ?_, by rw [ho]; exact c1, ?_, ?_, c2, ?_, oky, by rw [hFs]; exact hwh, hs.1, hs1⟩⟩
  · rw [hx]
    exact epOkB_iff.2 ⟨hn, hk, by simp only; omega, hw⟩
  · rw [ho, epOpenP, if_pos c1]
    exact hu.2
  · rw [ho, epOpenE, if_pos c1, hFs, hW]
  · rw [epOpenE, if_neg (by rw [c2]; decide)]
/-- what is refused leaves all as it was; what is opened was not had and is had then -/
theorem open_no {e : EpM} {x : Int} {F : FrameM} (h : epOpenC e x F ≠ 0) : epOpenE e x F = e ∧ epOpenP e x F = [] := ⟨by rw [epOpenE, if_neg h], by rw [epOpenP, if_neg h]⟩
theorem open_yes {e : EpM} {x : Int} {F : FrameM} (h : epOpenC e x F = 0) : epOkB (epOpenE e x F) = true ∧ winHas (epOpenE e x F).win F.seq = true ∧ winHas e.win F.seq = false ∧ (epOpenE e x F).seq = e.seq ∧ (epOpenE e x F).key = e.key ∧ (epOpenE e x F).n = e.n := by
  have hx : epOpenE e x F = { e with win := winAddM e.win F.seq } := by rw [epOpenE, if_pos h]
  rw [hx]
  unfold epOpenC at h
  split at h
  · rename_i h1
    split at h
    · rename_i hm
      obtain ⟨hn, hk, hs, hw⟩ := epOkB_iff.1 h1.1
      exact ⟨epOkB_iff.2 ⟨hn, hk, hs, winAdd_ok hm⟩, bent_has hm, bent_not hm, rfl, rfl, rfl⟩
    · simp at h
  · simp at h
end Go.Proofs.Ytpfchphgbhgmmaa

/-
  Plain laws on the numbers that an epoch has left: data are sealed up to one number, all else up to another one. Conditions: none beside those that each theorem names.
-/
namespace Go.Proofs.Ytpfchphgbhgmmaa
open Go.RowKit
def twelve : List UInt8 := [116, 119, 101, 108, 118, 101, 32, 98, 121, 116, 101, 115]
def fourB : List UInt8 := [0, 0, 0, 1]
/-- an epoch with all its numbers near the end -/
structure Late (e : EpM) (x : Int) : Prop where
  ok : epOkB e = true
  lo : 281474976710654 ≤ e.seq
  role : roleB x = true
theorem Late.seqs {n : Int} {k : List UInt8} {s s' : Int} {W : WinM} {x : Int} (h : Late ⟨n, k, s, W⟩ x) (h0 : 281474976710654 ≤ s') (h1 : s' ≤ 281474976710656) : Late ⟨n, k, s', W⟩ x := by
  obtain ⟨hn, hk, hs, hw⟩ := epOkB_iff.1 h.ok
  exact ⟨epOkB_iff.2 ⟨hn, hk, ⟨by simp only; omega, h1⟩, hw⟩, h0, h.role⟩
theorem late_mk {n : Int} {k : List UInt8} {s s' : Int} {W : WinM} {x : Int} (h : epOkB ⟨n, k, s, W⟩ = true) (h0 : 281474976710654 ≤ s') (h1 : s' ≤ 281474976710656) (hx : 0 ≤ x ∧ x ≤ 1) : Late ⟨n, k, s', W⟩ x := by
  obtain ⟨hn, hk, hs, hw⟩ := epOkB_iff.1 h
  exact ⟨epOkB_iff.2 ⟨hn, hk, ⟨by simp only; omega, h1⟩, hw⟩, h0, inB_t hx.1 hx.2⟩
theorem late_seal {e : EpM} {x kind : Int} {plain : List UInt8} (h : Late e x) (hk : sealedB kind = true) : epSealB e x twelve kind plain = bodyB kind plain.length := by
  obtain ⟨hn, hl, -, -⟩ := epOkB_iff.1 h.ok
  have h0 : (((32 : Nat) : Int) == 32) = true := rfl
  have h1 : inB e.n 0 4294967295 = true := inB_t hn.1 hn.2
  have h2 : inB 0 0 281474976710655 = true := rfl
  simp only [epSealB, sealB, h.ok, h.role, hk, hl, h0, frOk, frOkN, sealF, h1, h2, ↓reduceIte, Bool.true_and, List.length_nil]
  simp [eqI, eqN, twelve, z16]
theorem late_data {e : EpM} {x : Int} {plain : List UInt8} (h : Late e x) : epSealC e x twelve 4 plain = if plain.length ≤ 40 then 4 else 1 := by
  have hs := late_seal (kind := 4) (plain := plain) h rfl
  have hb : bodyB 4 plain.length = decide (plain.length ≤ 40) := by rw [bodyB, if_pos rfl]
  rw [epSealC, hs, hb]
  by_cases hp : plain.length ≤ 40
  · rw [if_pos (decide_eq_true hp), if_pos hp, if_pos ⟨rfl, by have := h.lo; omega⟩]
  · rw [if_neg (by rw [decide_eq_false hp]; decide), if_neg hp]
theorem late_key {e : EpM} {x : Int} (h : Late e x) : epSealB e x twelve 7 fourB = true := by
  rw [late_seal h rfl]
  rfl
theorem late_end {e : EpM} {x : Int} (h : Late e x) (hs : e.seq = 281474976710656) : epSealC e x twelve 7 fourB = 5 ∧ epSealE e x twelve 7 fourB = e := by
  have hc : epSealC e x twelve 7 fourB = 5 := by rw [epSealC, if_pos (late_key h), if_neg (fun q => absurd q.1 (by decide)), if_pos hs]
  exact ⟨hc, by rw [epSealE, if_neg (by rw [hc]; decide)]⟩
theorem late_on {e : EpM} {x : Int} (h : Late e x) (hs : e.seq ≠ 281474976710656) : epSealC e x twelve 7 fourB = 0 ∧ epSealE e x twelve 7 fourB = { e with seq := e.seq + 1 } ∧ (epSealF e x twelve 7 fourB).seq = e.seq := by
  have hc : epSealC e x twelve 7 fourB = 0 := by rw [epSealC, if_pos (late_key h), if_neg (fun q => absurd q.1 (by decide)), if_neg hs]
  refine ⟨hc, by rw [epSealE, if_pos hc], ?_⟩
  obtain ⟨-, h2, -⟩ := epSealC_zero hc
  have hk := epOkB_iff.1 h.ok
  rw [epSealF, if_pos hc, sealM, if_pos (sealB_seqs h2 hk.2.2.1.1 (by have := hk.2.2.1.2; omega))]
  rfl
theorem spent_at {k : Nat} (_h : k < 256) : ∃ s : Int, 281474976710656 - (k : Int) % 3 = s ∧ 281474976710654 ≤ s ∧ s ≤ 281474976710656 := ⟨_, rfl, by omega, by omega⟩
theorem spent_role {k : Nat} (_h : k < 256) : ∃ s : Int, (k : Int) % 2 = s ∧ 0 ≤ s ∧ s ≤ 1 := ⟨_, rfl, by omega, by omega⟩
end Go.Proofs.Ytpfchphgbhgmmaa

/-
  FnSpent returns true for every code. Conditions: none.
-/
namespace Go.Proofs.Ytpfchphgbhgmmaa.lSpent
open Go.ChangeShapes Go.WideShapes Go.ChangeAt Go.RowKit
theorem src_str (w : World) (k : List UInt8) : Src Try.prog 1 9 (.string (lstr k)) k.length (bys k) w := by
  have h := Src.ofString w (tx := 9) Try.underlying9 (lstr k)
  have hb : byteCells (lstr k) = bys k := by simp [byteCells, lstr, bys]
  rwa [hb] at h
theorem wpList_appS {w : World} {ops : Array Oper} {rest : List Oper} {o : Oper} {ac : Act} {Q : Exit → Act → World → Prop} (hgd : o.guard = none) (s x : Operand)
    (ho : o.op = .call { callee := .builtin .append, args := #[s, x], argTypes := #[22, 9] })
    (B : Nat) (a : Option Addr) (n c : Nat) (l : List UInt8) (hse : ac.eval s = .slice a n c) (hown : Ow B w 5 a n c (bys l)) (k : List UInt8) (hx : ac.eval x = .string (lstr k))
    (hsz : l.length + k.length ≤ 1073741824) (hbase : B ≤ w.heap.size)
    (h : ∀ a' n' c' w', Ow B w' 5 a' n' c' (bys (l ++ k)) → w.grownBy w' (a.map (·.block)) → wpList Try.prog ops Q rest (ac.put o.dst (.slice a' n' c')) w') : wpList Try.prog ops Q (o :: rest) ac w := by
  obtain ⟨i0, hi, hz0, hz1, hz2⟩ := info_parts inf_u8
  have h1 := hown.blen
  refine wpList_app hgd s x 22 9 ho B 5 i0 (.int .u8 0) 1 Try.underlying22 hi hz0 hz1 hz2 rfl a n c (bys l) hse hown _ hx k.length (bys k) (src_str w k) (by unfold maxLen; omega) (by omega) hbase ?_
  intro a' c' w' o' g' _
  rw [← bys_app] at o'
  exact h _ _ _ _ o' g'
theorem EpO.rowR {B S q : Nat} {w w' : World} {v : Value} {f : EpM} (h : EpO B S w v f) (hg : w.grownBy w' (some q)) (hq : q < B) : EpR w' v f := by
  obtain ⟨a1, n1, c1, a2, n2, c2, rfl, ⟨o1, u1⟩, ⟨o2, u2⟩, -⟩ := h
  exact ⟨_, _, _, _, _, _, rfl, o1.rd.row hg (fun p hp => by have := (o1.lt p hp).1; omega), o2.rd.row hg (fun p hp => by have := (o2.lt p hp).1; omega)⟩
set_option maxRecDepth 1000000 in
set_option maxHeartbeats 8000000 in
theorem walk (w : World) (v0 : Value) (h0 : InBytes w v0) : Calls Try.prog 4 #[v0] w fun e w' => e = .returned (.bool true) ∧ Below w.heap.size w w' := by
  obtain ⟨a, n, c, l, rfl, r, hC⟩ := h0
  rcases Nat.lt_or_ge 1048576 n with p | p
  · go_enter Try.func4, Try.ntmps4
    go_wp2_with (go_at_call 5; refine (laws_big a n c _).mono ?_; rw [decide_eq_true p]; rintro e w0 ⟨rfl, rfl⟩)
    go_ret
    exact ⟨rfl, Below.refl _ _⟩
  go_enter Try.func4, Try.ntmps4
  go_wp2_with (first
    | (go_at_call 5; refine (laws_big a n c _).mono ?_; rw [decide_eq_false (by omega)]; rintro e w0 ⟨rfl, rfl⟩) | (go_at_call 16; refine (spec_DrawEpSeal a n c l _ r p).mono ?_; rintro e w1 ⟨en, a1, n1, c1, es, et, a7, n7, c7, role, a2, n2, c2, kd, a4, n4, c4, rfl, ⟨l1, r1, -, s1⟩, ⟨l7, r7, -, s7⟩, ⟨l2, r2, -, s2⟩, ⟨l4, r4, -, s4⟩, G⟩; replace r := r.keep0 G; have e1 := Lib.hid r1.blen; have e7 := Lib.hid r7.ilen; have e2 := Lib.hid r2.blen; have e4 := Lib.hid r4.blen))
  have b1 : l1.length ≤ 1048576 := by have := e1.out; omega
  have b7 : l7.length ≤ 1048576 := by have := e7.out; omega
  have b2 : l2.length ≤ 1048576 := by have := e2.out; omega
  have b4 : l4.length ≤ 1048576 := by have := e4.out; omega
  have Be := Bx.new w1 41 #[.int .i64 en, .slice a1 n1 c1, .int .i64 es, .int .i64 et, .slice a7 n7 c7]
  have gE := gb_alloc (gb_refl w1) (.cells #[.int .i64 en, .slice a1 n1 c1, .int .i64 es, .int .i64 et, .slice a7 n7 c7] 41)
  have re : EpR w1 (.agg #[.int .i64 en, .slice a1 n1 c1, .int .i64 es, .int .i64 et, .slice a7 n7 c7]) (⟨en, l1, es, ⟨et, l7⟩⟩ : EpM) := ⟨_, _, _, _, _, _, rfl, r1, r7⟩
  refine (spec_EpOk _ (⟨en, l1, es, ⟨et, l7⟩⟩ : EpM) _ (re.keep0 gE) (Nat.le_trans b7 (by decide))).mono ?_
  rintro e w2 ⟨rfl, g2⟩
  have gA := gb_trans gE g2
  have Be2 := Be.keep0 g2
  have ke := fun o => Be2.cell o
  have fe := fun o => Be2.frozen o
  have le := Be2.lt
  cases hok : epOkB (⟨en, l1, es, ⟨et, l7⟩⟩ : EpM)
  · have hC := Lib.hid (show epSealC (⟨en, l1, es, ⟨et, l7⟩⟩ : EpM) role l2 kd l4 = 1 by rw [epSealC, if_neg (by simp [epSealB, hok])])
    clear hok
    go_wp2_with (go_at_call 18; refine (impl_EpSeal _ (⟨en, l1, es, ⟨et, l7⟩⟩ : EpM) role a2 n2 c2 l2 kd a4 n4 c4 l4 _ (re.keep0 gA) (r2.keep0 gA) (r4.keep0 gA) b1 b7 b2 b4).mono ?_; rw [hC.out]; rintro e w3 ⟨M3, v1, v2, rfl, -, -, o1, o2, g3⟩; obtain ⟨_, _, _, _, _, _, rfl⟩ := o1.r.shape; obtain ⟨_, _, _, _, _, _, _, _, _, _, _, _, _, _, _, _, _, _, rfl⟩ := o2.r.shape; clear o1 o2)
    go_ret
    exact ⟨rfl, gb_below (gb_alloc (gb_alloc (gb_trans G (gb_trans gA g3)) _) _)⟩
  replace hok := Lib.hid hok
  go_upto_region 8 with (go_at_call 19; (with_reducible refine (laws_at a n c l 2 _ (r.keep0 gA) p (by decide) (by decide)).mono ?_); rintro e w' ⟨k1, hk1, rfl, rfl⟩; obtain ⟨s, hs, hs0, hs1⟩ := spent_at hk1; clear hk1)
  have gS := gb_set gA (p := ⟨w1.heap.size, 2, none⟩) (.inl (Nat.le_refl _)) (.int .i64 s)
  have BS : Bx (w2.setCell ⟨w1.heap.size, 2, none⟩ (.int .i64 s)) w1.heap.size 41 #[.int .i64 en, .slice a1 n1 c1, .int .i64 s, .int .i64 et, .slice a7 n7 c7] := Be2.set 2 (.int .i64 s)
  obtain ⟨w3, hw3⟩ : ∃ w3, w3 = w2.setCell ⟨w1.heap.size, 2, none⟩ (.int .i64 s) := ⟨_, rfl⟩
  rw [← hw3] at gS BS ⊢
  clear hw3 ke fe le Be2 Be
  have n3 := new_own w3 5
  have gN := gb_alloc gS (.cells #[] 5)
  have z3 := gS.size
  have l3 := BS.lt
  go_wp2_with (first
    | (refine wpList_appS rfl (.tmp 52) _ rfl w3.heap.size _ 0 0 [] rfl n3 twelve rfl (by decide) (gb_alloc (gb_refl w3) _).size ?_; intro a5 n5 c5 w5 o5 g5; have G5 := gb_app gN n3 z3 g5; have B5 := (BS.old (.cells #[] 5)).keepRow g5 (by intro e; simp only [Option.map_some, Option.some.injEq] at e; omega); rw [List.nil_append] at o5; have r5 := o5.rd; clear o5 g5; have k5 := fun o => B5.cell o; have l5 := B5.lt)
    | (go_at_call 19; (with_reducible refine (laws_at a n c l 3 _ (r.keep0 G5) p (by decide) (by decide)).mono ?_); rintro e w' ⟨k2, hk2, rfl, rfl⟩; obtain ⟨x, hx, hx0, hx1⟩ := spent_role hk2; clear hk2))
  have LT := late_mk hok.out hs0 hs1 ⟨hx0, hx1⟩
  have re5 : EpR w5 (.agg #[.int .i64 en, .slice a1 n1 c1, .int .i64 s, .int .i64 et, .slice a7 n7 c7]) (⟨en, l1, s, ⟨et, l7⟩⟩ : EpM) := ⟨_, _, _, _, _, _, rfl, r1.keep0 G5, r7.keep0 G5⟩
  refine (impl_EpSeal _ (⟨en, l1, s, ⟨et, l7⟩⟩ : EpM) x a5 n5 c5 twelve 4 a4 n4 c4 l4 _ re5 r5 (r4.keep0 G5) b1 b7 (by decide) b4).mono ?_
  rw [late_data LT, e4.out]
  rintro e w6 ⟨M6, v1, v2, rfl, -, -, o1, o2, g6⟩
  obtain ⟨_, _, _, _, _, _, rfl⟩ := o1.r.shape
  obtain ⟨_, _, _, _, _, _, _, _, _, _, _, _, _, _, _, _, _, _, rfl⟩ := o2.r.shape
  clear o1 o2 k5 l5
  have B6 := B5.keep0 g6
  have k6 := fun o => B6.cell o
  have l6 := B6.lt
  replace r5 := r5.keep0 g6
  replace re5 := re5.keep0 g6
  replace G5 := gb_trans G5 g6
  clear hs
  replace LT := Lib.hid LT
  by_cases hp : n4 ≤ 40
  · rw [if_pos hp]
    have hp2 : (n4 : Int) ≤ 40 := by omega
    go_wp2_with fail
    obtain ⟨X, hX⟩ : ∃ X, w6.heap.size + 1 + 1 = X := ⟨_, rfl⟩
    rw [hX]
    have hX2 : w6.heap.size ≤ X := by omega
    replace hX := Lib.hid hX
    clear l6 k6
    go_loopw [15] (fun i ws => ∃ (j : Nat) (t : Int) (x1 : Option Addr) (y1 z1 : Nat) (x7 : Option Addr) (y7 z7 : Nat), j ≤ 3 ∧ i = .int .i64 (j : Int) ∧ Hid (281474976710654 ≤ t ∧ t ≤ 281474976710656 ∧ (281474976710654 + (j : Int) ≤ t ∨ t = 281474976710656)) ∧ Bx ws X 41 #[.int .i64 en, .slice x1 y1 z1, .int .i64 t, .int .i64 et, .slice x7 y7 z7] ∧ EpR ws (.agg #[.int .i64 en, .slice x1 y1 z1, .int .i64 t, .int .i64 et, .slice x7 y7 z7]) (⟨en, l1, t, ⟨et, l7⟩⟩ : EpM) ∧ w6.grownBy ws none) (fun i _ => 3 - (intOf i).toNat)
    case atStart => exact ⟨0, s, a1, n1, c1, a7, n7, c7, by omega, rfl, ⟨hs0, hs1, .inl (by omega)⟩, Bx.newk _ _ _ _ (by rw [← hX.out]; simp), re5.keep0 (gb_alloc (gb_alloc (gb_alloc (gb_refl _) _) _) _), gb_alloc (gb_alloc (gb_alloc (gb_refl _) _) _) _⟩
    case round =>
      obtain ⟨j, t, x1, y1, z1, x7, y7, z7, hj, rfl, ht, BX, ER, hg⟩ := hrel
      clear B6 B5 BS
      have kx := fun o => BX.cell o
      have lx := BX.lt
      have TL := Lib.hid (LT.out.seqs (s' := t) ht.out.1 ht.out.2.1)
      have rb := new_bys wr 5 #[.int .u8 0, .int .u8 0, .int .u8 0, .int .u8 1] fourB rfl
      have gB := gb_alloc (gb_refl wr) (.cells #[.int .u8 0, .int .u8 0, .int .u8 0, .int .u8 1] 5)
      have r6 := r5.keep0 (gb_trans hg gB)
      by_cases hlt : j < 3
      · by_cases hm : t = 281474976710656
        · subst hm
          have hC := Lib.hid (late_end TL.out rfl).1
          have hE := Lib.hid (late_end TL.out rfl).2
          go_wp2_with fail
          refine (impl_EpSeal _ (⟨en, l1, 281474976710656, ⟨et, l7⟩⟩ : EpM) x a5 n5 c5 twelve 7 (some ⟨wr.heap.size, 0, none⟩) 4 4 fourB _ (ER.keep0 gB) r6 rb b1 b7 (by decide) (by decide)).mono ?_
          rw [hC.out, hE.out]
          rintro e w8 ⟨M8, v1, v2, rfl, -, -, O1, o2, g8⟩
          obtain ⟨m1, m2, m3, m7, m8, m9, rfl, -⟩ := id O1
          obtain ⟨p1, q1, d1, p2, q2, d2, p3, q3, d3, p4, q4, d4, p5, q5, d5, p6, q6, d6, rfl⟩ := o2.r.shape
          simp only at O1 ⊢
          clear o2 kx
          have B7 := BX.keep0 (gb_trans gB g8)
          have kx := fun o => B7.cell o
          have l7' := B7.lt
          go_wp2_with (first | ((with_reducible refine wpList_stR ?hg1x11 41 (.tmp 14) (.tmp 118) ?ho1x11 X ?cs1x11 ?old1x11 ?hx1x11 ?hy1x11 ?hb1x11 ?hi1x11 ?hs1x11 ?hc1x11 ?hh1x11); (case ho1x11 => rfl); (case hg1x11 => rfl); (case hx1x11 => rfl); (case hy1x11 => rfl); (case hb1x11 => exact ((B7.old _).old _)); (case hi1x11 => exact si_Ep); (case hs1x11 => rfl); (case hc1x11 => (first | rfl | (simp [Value.oneCell']; done))); intro w9 B9 g9; (try simp only [Act.put]); (try simp only [List.setIfInBounds_toArray]); (try simp only [List.set_cons_succ]); (try simp only [List.set_cons_zero])))
          have k9 := fun o => B9.cell o
          have R9 := EpO.rowR (O1.keep0 (gb_alloc (gb_alloc (gb_refl w8) _) _)) g9 (Nat.lt_of_lt_of_le lx (gb_alloc (gb_refl wr) _).size)
          have G9 := gb_row (gb_alloc (gb_alloc (gb_trans (gb_trans hg (gb_alloc (gb_refl wr) _)) g8) _) _) g9 hX2
          refine ⟨⟨j + 1, 281474976710656, m1, m2, m3, m7, m8, m9, by omega, by go_num, ?_, B9, R9, G9⟩, by simp [intOf]; omega⟩
          exact ⟨by omega, by omega, .inr rfl⟩
        · have hC := Lib.hid (late_on TL.out hm).1
          have hE := Lib.hid (late_on TL.out hm).2.1
          have hF := Lib.hid (late_on TL.out hm).2.2
          obtain ⟨F, hFF⟩ : ∃ F, Hid (epSealF (⟨en, l1, t, ⟨et, l7⟩⟩ : EpM) x twelve 7 fourB = F) := ⟨_, rfl⟩
          obtain ⟨u, hu⟩ : ∃ u : Int, Hid (t + 1 = u) := ⟨_, rfl⟩
          simp only at hE hF
          rw [hu.out] at hE
          rw [hFF.out] at hF
          obtain ⟨fk, fi, fc, fs, ft, fo, fp, fe, fq, fb, fg⟩ := F
          simp only at hF
          have hfq := hF.out.symm
          subst hfq
          clear hF
          have hm2 : t < 281474976710656 := by have := ht.out.2.1; omega
          have hu2 : ¬ (281474976710656 < u) := by have := hu.out; omega
          clear hm
          go_wp2_with fail
          refine (impl_EpSeal _ (⟨en, l1, t, ⟨et, l7⟩⟩ : EpM) x a5 n5 c5 twelve 7 (some ⟨wr.heap.size, 0, none⟩) 4 4 fourB _ (ER.keep0 gB) r6 rb b1 b7 (by decide) (by decide)).mono ?_
          rw [hC.out, hE.out, hFF.out]
          rintro e w8 ⟨M8, v1, v2, rfl, -, -, O1, o2, g8⟩
          obtain ⟨m1, m2, m3, m7, m8, m9, rfl, -⟩ := id O1
          obtain ⟨p1, q1, d1, p2, q2, d2, p3, q3, d3, p4, q4, d4, p5, q5, d5, p6, q6, d6, rfl⟩ := o2.r.shape
          simp only at O1 ⊢
          clear o2 kx
          have B7 := BX.keep0 (gb_trans gB g8)
          have kx := fun o => B7.cell o
          have l7' := B7.lt
          go_wp2_with (first | ((with_reducible refine wpList_stR ?hg1x12 41 (.tmp 14) (.tmp 118) ?ho1x12 X ?cs1x12 ?old1x12 ?hx1x12 ?hy1x12 ?hb1x12 ?hi1x12 ?hs1x12 ?hc1x12 ?hh1x12); (case ho1x12 => rfl); (case hg1x12 => rfl); (case hx1x12 => rfl); (case hy1x12 => rfl); (case hb1x12 => exact ((B7.old _).old _)); (case hi1x12 => exact si_Ep); (case hs1x12 => rfl); (case hc1x12 => (first | rfl | (simp [Value.oneCell']; done))); intro w9 B9 g9; (try simp only [Act.put]); (try simp only [List.setIfInBounds_toArray]); (try simp only [List.set_cons_succ]); (try simp only [List.set_cons_zero])))
          have k9 := fun o => B9.cell o
          have R9 := EpO.rowR (O1.keep0 (gb_alloc (gb_alloc (gb_refl w8) _) _)) g9 (Nat.lt_of_lt_of_le lx (gb_alloc (gb_refl wr) _).size)
          have G9 := gb_row (gb_alloc (gb_alloc (gb_trans (gb_trans hg (gb_alloc (gb_refl wr) _)) g8) _) _) g9 hX2
          refine ⟨⟨j + 1, u, m1, m2, m3, m7, m8, m9, by omega, by go_num, ?_, B9, R9, G9⟩, by simp [intOf]; omega⟩
          have hu3 := hu.out
          have ht3 := ht.out
          exact ⟨by omega, by omega, by omega⟩
      · obtain rfl : t = 281474976710656 := by have := ht.out; omega
        obtain rfl : j = 3 := by omega
        have hC := Lib.hid (late_end TL.out rfl).1
        have hE := Lib.hid (late_end TL.out rfl).2
        go_wp2_with fail
        refine (impl_EpSeal _ (⟨en, l1, 281474976710656, ⟨et, l7⟩⟩ : EpM) x a5 n5 c5 twelve 7 (some ⟨wr.heap.size, 0, none⟩) 4 4 fourB _ (ER.keep0 gB) r6 rb b1 b7 (by decide) (by decide)).mono ?_
        rw [hC.out, hE.out]
        rintro e w8 ⟨M8, v1, v2, rfl, -, -, O1, o2, g8⟩
        obtain ⟨m1, m2, m3, m7, m8, m9, rfl, -⟩ := id O1
        obtain ⟨p1, q1, d1, p2, q2, d2, p3, q3, d3, p4, q4, d4, p5, q5, d5, p6, q6, d6, rfl⟩ := o2.r.shape
        simp only
        clear o2 kx
        have B7 := BX.keep0 (gb_trans gB g8)
        have kx := fun o => B7.cell o
        have l7' := B7.lt
        go_wp2_with fail
        go_ret
        exact ⟨rfl, gb_below (gb_alloc (gb_alloc (gb_trans G (gb_trans G5 (gb_trans hg (gb_trans gB g8)))) _) _)⟩
  · rw [if_neg hp]
    have hp2 : ¬ (n4 : Int) ≤ 40 := by omega
    have hp3 : (40 : Int) < (n4 : Int) := by omega
    go_wp2_with fail
    obtain ⟨X, hX⟩ : ∃ X, w6.heap.size + 1 + 1 = X := ⟨_, rfl⟩
    rw [hX]
    have hX2 : w6.heap.size ≤ X := by omega
    replace hX := Lib.hid hX
    clear l6 k6
    go_loopw [15] (fun i ws => ∃ (j : Nat) (t : Int) (x1 : Option Addr) (y1 z1 : Nat) (x7 : Option Addr) (y7 z7 : Nat), j ≤ 3 ∧ i = .int .i64 (j : Int) ∧ Hid (281474976710654 ≤ t ∧ t ≤ 281474976710656 ∧ (281474976710654 + (j : Int) ≤ t ∨ t = 281474976710656)) ∧ Bx ws X 41 #[.int .i64 en, .slice x1 y1 z1, .int .i64 t, .int .i64 et, .slice x7 y7 z7] ∧ EpR ws (.agg #[.int .i64 en, .slice x1 y1 z1, .int .i64 t, .int .i64 et, .slice x7 y7 z7]) (⟨en, l1, t, ⟨et, l7⟩⟩ : EpM) ∧ w6.grownBy ws none) (fun i _ => 3 - (intOf i).toNat)
    case atStart => exact ⟨0, s, a1, n1, c1, a7, n7, c7, by omega, rfl, ⟨hs0, hs1, .inl (by omega)⟩, Bx.newk _ _ _ _ (by rw [← hX.out]; simp), re5.keep0 (gb_alloc (gb_alloc (gb_alloc (gb_refl _) _) _) _), gb_alloc (gb_alloc (gb_alloc (gb_refl _) _) _) _⟩
    case round =>
      obtain ⟨j, t, x1, y1, z1, x7, y7, z7, hj, rfl, ht, BX, ER, hg⟩ := hrel
      clear B6 B5 BS
      have kx := fun o => BX.cell o
      have lx := BX.lt
      have TL := Lib.hid (LT.out.seqs (s' := t) ht.out.1 ht.out.2.1)
      have rb := new_bys wr 5 #[.int .u8 0, .int .u8 0, .int .u8 0, .int .u8 1] fourB rfl
      have gB := gb_alloc (gb_refl wr) (.cells #[.int .u8 0, .int .u8 0, .int .u8 0, .int .u8 1] 5)
      have r6 := r5.keep0 (gb_trans hg gB)
      by_cases hlt : j < 3
      · by_cases hm : t = 281474976710656
        · subst hm
          have hC := Lib.hid (late_end TL.out rfl).1
          have hE := Lib.hid (late_end TL.out rfl).2
          go_wp2_with fail
          refine (impl_EpSeal _ (⟨en, l1, 281474976710656, ⟨et, l7⟩⟩ : EpM) x a5 n5 c5 twelve 7 (some ⟨wr.heap.size, 0, none⟩) 4 4 fourB _ (ER.keep0 gB) r6 rb b1 b7 (by decide) (by decide)).mono ?_
          rw [hC.out, hE.out]
          rintro e w8 ⟨M8, v1, v2, rfl, -, -, O1, o2, g8⟩
          obtain ⟨m1, m2, m3, m7, m8, m9, rfl, -⟩ := id O1
          obtain ⟨p1, q1, d1, p2, q2, d2, p3, q3, d3, p4, q4, d4, p5, q5, d5, p6, q6, d6, rfl⟩ := o2.r.shape
          simp only at O1 ⊢
          clear o2 kx
          have B7 := BX.keep0 (gb_trans gB g8)
          have kx := fun o => B7.cell o
          have l7' := B7.lt
          go_wp2_with (first | ((with_reducible refine wpList_stR ?hg1x13 41 (.tmp 14) (.tmp 118) ?ho1x13 X ?cs1x13 ?old1x13 ?hx1x13 ?hy1x13 ?hb1x13 ?hi1x13 ?hs1x13 ?hc1x13 ?hh1x13); (case ho1x13 => rfl); (case hg1x13 => rfl); (case hx1x13 => rfl); (case hy1x13 => rfl); (case hb1x13 => exact ((B7.old _).old _)); (case hi1x13 => exact si_Ep); (case hs1x13 => rfl); (case hc1x13 => (first | rfl | (simp [Value.oneCell']; done))); intro w9 B9 g9; (try simp only [Act.put]); (try simp only [List.setIfInBounds_toArray]); (try simp only [List.set_cons_succ]); (try simp only [List.set_cons_zero])))
          have k9 := fun o => B9.cell o
          have R9 := EpO.rowR (O1.keep0 (gb_alloc (gb_alloc (gb_refl w8) _) _)) g9 (Nat.lt_of_lt_of_le lx (gb_alloc (gb_refl wr) _).size)
          have G9 := gb_row (gb_alloc (gb_alloc (gb_trans (gb_trans hg (gb_alloc (gb_refl wr) _)) g8) _) _) g9 hX2
          refine ⟨⟨j + 1, 281474976710656, m1, m2, m3, m7, m8, m9, by omega, by go_num, ?_, B9, R9, G9⟩, by simp [intOf]; omega⟩
          exact ⟨by omega, by omega, .inr rfl⟩
        · have hC := Lib.hid (late_on TL.out hm).1
          have hE := Lib.hid (late_on TL.out hm).2.1
          have hF := Lib.hid (late_on TL.out hm).2.2
          obtain ⟨F, hFF⟩ : ∃ F, Hid (epSealF (⟨en, l1, t, ⟨et, l7⟩⟩ : EpM) x twelve 7 fourB = F) := ⟨_, rfl⟩
          obtain ⟨u, hu⟩ : ∃ u : Int, Hid (t + 1 = u) := ⟨_, rfl⟩
          simp only at hE hF
          rw [hu.out] at hE
          rw [hFF.out] at hF
          obtain ⟨fk, fi, fc, fs, ft, fo, fp, fe, fq, fb, fg⟩ := F
          simp only at hF
          have hfq := hF.out.symm
          subst hfq
          clear hF
          have hm2 : t < 281474976710656 := by have := ht.out.2.1; omega
          have hu2 : ¬ (281474976710656 < u) := by have := hu.out; omega
          clear hm
          go_wp2_with fail
          refine (impl_EpSeal _ (⟨en, l1, t, ⟨et, l7⟩⟩ : EpM) x a5 n5 c5 twelve 7 (some ⟨wr.heap.size, 0, none⟩) 4 4 fourB _ (ER.keep0 gB) r6 rb b1 b7 (by decide) (by decide)).mono ?_
          rw [hC.out, hE.out, hFF.out]
          rintro e w8 ⟨M8, v1, v2, rfl, -, -, O1, o2, g8⟩
          obtain ⟨m1, m2, m3, m7, m8, m9, rfl, -⟩ := id O1
          obtain ⟨p1, q1, d1, p2, q2, d2, p3, q3, d3, p4, q4, d4, p5, q5, d5, p6, q6, d6, rfl⟩ := o2.r.shape
          simp only at O1 ⊢
          clear o2 kx
          have B7 := BX.keep0 (gb_trans gB g8)
          have kx := fun o => B7.cell o
          have l7' := B7.lt
          go_wp2_with (first | ((with_reducible refine wpList_stR ?hg1x14 41 (.tmp 14) (.tmp 118) ?ho1x14 X ?cs1x14 ?old1x14 ?hx1x14 ?hy1x14 ?hb1x14 ?hi1x14 ?hs1x14 ?hc1x14 ?hh1x14); (case ho1x14 => rfl); (case hg1x14 => rfl); (case hx1x14 => rfl); (case hy1x14 => rfl); (case hb1x14 => exact ((B7.old _).old _)); (case hi1x14 => exact si_Ep); (case hs1x14 => rfl); (case hc1x14 => (first | rfl | (simp [Value.oneCell']; done))); intro w9 B9 g9; (try simp only [Act.put]); (try simp only [List.setIfInBounds_toArray]); (try simp only [List.set_cons_succ]); (try simp only [List.set_cons_zero])))
          have k9 := fun o => B9.cell o
          have R9 := EpO.rowR (O1.keep0 (gb_alloc (gb_alloc (gb_refl w8) _) _)) g9 (Nat.lt_of_lt_of_le lx (gb_alloc (gb_refl wr) _).size)
          have G9 := gb_row (gb_alloc (gb_alloc (gb_trans (gb_trans hg (gb_alloc (gb_refl wr) _)) g8) _) _) g9 hX2
          refine ⟨⟨j + 1, u, m1, m2, m3, m7, m8, m9, by omega, by go_num, ?_, B9, R9, G9⟩, by simp [intOf]; omega⟩
          have hu3 := hu.out
          have ht3 := ht.out
          exact ⟨by omega, by omega, by omega⟩
      · obtain rfl : t = 281474976710656 := by have := ht.out; omega
        obtain rfl : j = 3 := by omega
        have hC := Lib.hid (late_end TL.out rfl).1
        have hE := Lib.hid (late_end TL.out rfl).2
        go_wp2_with fail
        refine (impl_EpSeal _ (⟨en, l1, 281474976710656, ⟨et, l7⟩⟩ : EpM) x a5 n5 c5 twelve 7 (some ⟨wr.heap.size, 0, none⟩) 4 4 fourB _ (ER.keep0 gB) r6 rb b1 b7 (by decide) (by decide)).mono ?_
        rw [hC.out, hE.out]
        rintro e w8 ⟨M8, v1, v2, rfl, -, -, O1, o2, g8⟩
        obtain ⟨m1, m2, m3, m7, m8, m9, rfl, -⟩ := id O1
        obtain ⟨p1, q1, d1, p2, q2, d2, p3, q3, d3, p4, q4, d4, p5, q5, d5, p6, q6, d6, rfl⟩ := o2.r.shape
        simp only
        clear o2 kx
        have B7 := BX.keep0 (gb_trans gB g8)
        have kx := fun o => B7.cell o
        have l7' := B7.lt
        go_wp2_with fail
        go_ret
        exact ⟨rfl, gb_below (gb_alloc (gb_alloc (gb_trans G (gb_trans G5 (gb_trans hg (gb_trans gB g8)))) _) _)⟩
set_option maxRecDepth 100000 in
theorem lifted (os : Os) (started : os.Started) (H : Type) (enc : TypeId × Value → H) :
    ReturnsInHanded {} Try.checked os 4 .any (Rows.fnSpentSpec.pre6 enc Try.prog Try.f4 Rows.fnSpentRow.domain false) (Rows.fnSpentSpec.post enc Try.prog Try.f4 false true false false) := by
  refine returnsInHanded_of_change (C := Try.checked) own started (by kernel_rfl) Try.func4
    (ChangeSpec.witness6 (enc := enc) (C := Try.checked) false ⟨#[], #[.slice none 0 0], []⟩ 8 (by kernel_rfl) (by kernel_rfl) (by kernel_rfl) (by kernel_rfl)) ?_
  intro W base args ds gs before hval0 hW _ _
  have hval : ∀ (j : Nat) t v, Try.f4.params[j]? = some t → args[j]? = some v → Value.okWide Try.prog W .any base t v := hval0
  have hW2 := hW
  obtain ⟨p, q, hA0, hV, hps, _, _⟩ := hW
  have hA : DataW.TrodAll enc Try.prog W 0 (fun _ => true) true Try.f4.params.toList args.toList ds p := hA0
  rw [Try.params4] at hA hval
  obtain ⟨rfl, rfl⟩ := trodVars_none hV
  obtain ⟨v0, vs0, d0, ds0, p0, q0, hargs, rfl, rfl, h0, r0⟩ := trodAll_cons hA
  obtain ⟨rfl, rfl, rfl⟩ := trodAll_nil r0
  obtain rfl : args = #[v0] := by cases args; simp_all
  have i0 := open_B (hval 0 22 v0 rfl rfl) h0
  clear hA0 hval0
  refine (walk W v0 i0).mono fun e W2 ⟨he, hb⟩ => ?_
  subst he
  exact ⟨_, rfl, law_post (tb := 4) laidOut (by kernel_rfl) (by kernel_rfl) Try.underlying4 rfl ⟨rfl, rfl, rfl⟩ hW2 hb⟩
theorem over : Rows.fnSpentRow.holds Try.pinned (OpenSpec.ofChange Rows.fnSpentSpec) :=
  OpenClaim.holds_of_wide 4 Try.f4 rfl rfl rfl rfl rfl rfl rfl ⟨rfl, rfl, rfl, rfl, rfl⟩ rfl rfl rfl rfl rfl (by kernel_rfl) Try.func4 (by kernel_rfl)
    (of_decide_eq_true (by kernel_rfl)) (by unfold Func.isWrapper; first | (rw [if_pos (by decide +kernel)]; kernel_rfl) | (rw [if_neg (by decide +kernel)]; exact ⟨rfl, rfl⟩))
    (fun os started H enc _ => lifted os started H enc)
theorem proved : Rows.FnSpentSaid :=
  over
#print axioms proved
end Go.Proofs.Ytpfchphgbhgmmaa.lSpent

