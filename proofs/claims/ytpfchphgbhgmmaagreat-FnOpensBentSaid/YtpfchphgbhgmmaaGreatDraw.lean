/-
  What a statement draws: a cursor over the bytes of a draw, and the values that the draws make; each draw answers something that reads well, and turns nothing but the cursor. Conditions: none beside those that each theorem names.
-/
import Derived.Test.YtpfchphgbhgmmaaGreatBytes
import Derived.Test.YtpfchphgbhgmmaaGreatHelpS
import Derived.Test.YtpfchphgbhgmmaaGreatCell
import Derived.Deep.RegionHeld3
namespace Go.Proofs.YtpfchphgbhgmmaaGreat
open Go.RowKit
theorem andM (x : Int) (m : Nat) (hm : m < 4611686018427387904) : ∃ k : Nat, k ≤ m ∧ bits .and .i64 x (m : Int) = (k : Int) := by
  have h : (BitVec.ofInt 64 x &&& BitVec.ofInt 64 (m : Int)).toNat ≤ m := by
    rw [BitVec.toNat_and, BitVec.ofInt_natCast, BitVec.toNat_ofNat, Nat.mod_eq_of_lt (by omega)]
    exact Nat.and_le_right
  refine ⟨(BitVec.ofInt 64 x &&& BitVec.ofInt 64 (m : Int)).toNat, h, ?_⟩
  show IntKind.i64.wrap ((BitVec.ofInt 64 x &&& BitVec.ofInt 64 (m : Int)).toNat : Int) = _
  rw [IntKind.wrap_i64]
  omega
theorem and255 (x : Int) : ∃ k : Nat, k < 256 ∧ bits .and .i64 x 255 = (k : Int) := by
  obtain ⟨k, h1, h2⟩ := andM x 255 (by decide)
  exact ⟨k, by omega, h2⟩
/-- nothing has turned but the cursor's block -/
def Dr (cb : Nat) (w w' : World) : Prop := gbI cb (cb + 1) w w'
theorem Dr.refl (cb : Nat) (w : World) : Dr cb w w := gbI.refl _ _ _
theorem Dr.trans {cb : Nat} {a b c : World} (h : Dr cb a b) (k : Dr cb b c) : Dr cb a c := gbI.trans h k
theorem Dr.of0 {cb : Nat} {a b : World} (h : a.grownBy b none) : Dr cb a b := gbI.of0 h
theorem Dr.set {cb : Nat} {a b : World} (h : Dr cb a b) {p : Addr} (hp : a.heap.size ≤ p.block) (u : Value) : Dr cb a (b.setCell p u) := gbI_set h (.inl hp) u
theorem Dr.alloc {cb : Nat} {a b : World} (h : Dr cb a b) (o : Obj) : Dr cb a (b.alloc o) := gbI_alloc h o
theorem Dr.drew {cb : Nat} {a b : World} (h : Dr cb a b) : Dr cb a b.drew := gbI_drew h
theorem Dr.drewN {cb : Nat} {a b : World} (h : Dr cb a b) (n : Nat) : Dr cb a (b.drewN n) := gbI_drewN h n
theorem Dr.size {cb : Nat} {a b : World} (h : Dr cb a b) : a.heap.size ≤ b.heap.size := gbI.size h
theorem Dr.gb {cb : Nat} {a b : World} (h : Dr cb a b) (hB : a.heap.size ≤ cb) : a.grownBy b none := gbI.gb h hB
theorem Dr.row2 {cb : Nat} {a b c : World} {row : Option Nat} (h : Dr cb a b) (k : b.grownBy c row) (hr : ∀ g, row = some g → a.heap.size ≤ g) : Dr cb a c :=
  ⟨k.os.trans h.os, k.tape.trans h.tape, k.output.trans h.output, Nat.le_trans h.size k.size, fun i hi hn => (k.block i (Nat.lt_of_lt_of_le hi h.size) (fun e => by have := hr i e.symm; omega)).trans (h.block i hi hn)⟩
theorem Bx.keepD {cb : Nat} {w w' : World} {b : Nat} {t : TypeId} {cs : Array Value} (h : Bx w b t cs) (g : Dr cb w w') (hb : cb < b) : Bx w' b t cs := h.keepI g (.inr hb)
/-- bytes that read, in a block behind the cursor -/
structure Rc (cb : Nat) (w : World) (a : Option Addr) (n c : Nat) (l : List UInt8) : Prop where
  rd : Rd w a n c (bys l)
  ne : ∀ p, a = some p → cb < p.block
theorem Rc.keep {cb : Nat} {w w' : World} {a : Option Addr} {n c : Nat} {l : List UInt8} (h : Rc cb w a n c l) (g : Dr cb w w') : Rc cb w' a n c l := ⟨h.rd.keepI g (fun p hp => .inr (h.ne p hp)), h.ne⟩
theorem Rc.keep0 {cb : Nat} {w w' : World} {a : Option Addr} {n c : Nat} {l : List UInt8} (h : Rc cb w a n c l) (g : w.grownBy w' none) : Rc cb w' a n c l := h.keep (Dr.of0 g)
theorem Rc.set {cb : Nat} {w : World} {a : Option Addr} {n c : Nat} {l : List UInt8} (h : Rc cb w a n c l) {q : Addr} (hq : ∀ p, a = some p → p.block ≠ q.block) (u : Value) : Rc cb (w.setCell q u) a n c l :=
  ⟨h.rd.keep (row := some q.block) (gb_set (gb_reflr w _) (.inr rfl) u) (fun p hp e => hq p hp (by simpa using e)), h.ne⟩
theorem Rd.keepP {B S : Nat} {w w' : World} {a : Option Addr} {n c : Nat} {xs : List Value} (h : Rd w a n c xs) (hg : gbI B S w w') (hne : 0 < n → ∀ p, a = some p → p.block < B ∨ S ≤ p.block) : Rd w' a n c xs := by
  rcases Nat.eq_zero_or_pos n with h0 | h0
  · exact ⟨h.len, h.le, fun j hj => by omega⟩
  · exact h.keepI hg (hne h0)
theorem Rc.nil (cb : Nat) (w : World) : Rc cb w none 0 0 [] := ⟨Rd.nil w none 0, fun p hp => by cases hp⟩
theorem Rc.of {cb B : Nat} {w : World} {a : Option Addr} {n c : Nat} {l : List UInt8} (h : Ow B w 5 a n c (bys l)) (hB : cb < B) : Rc cb w a n c l := ⟨h.rd, fun p hp => Nat.lt_of_lt_of_le hB (h.lt p hp).1⟩
theorem Rc.blen {cb : Nat} {w : World} {a : Option Addr} {n c : Nat} {l : List UInt8} (h : Rc cb w a n c l) : l.length = n := h.rd.blen
structure Rz (cb : Nat) (w : World) (a : Option Addr) (n c : Nat) (l : List Int) : Prop where
  rd : Rd w a n c (ins l)
  ne : ∀ p, a = some p → cb < p.block
theorem Rz.keep {cb : Nat} {w w' : World} {a : Option Addr} {n c : Nat} {l : List Int} (h : Rz cb w a n c l) (g : Dr cb w w') : Rz cb w' a n c l := ⟨h.rd.keepI g (fun p hp => .inr (h.ne p hp)), h.ne⟩
theorem Rz.keep0 {cb : Nat} {w w' : World} {a : Option Addr} {n c : Nat} {l : List Int} (h : Rz cb w a n c l) (g : w.grownBy w' none) : Rz cb w' a n c l := h.keep (Dr.of0 g)
theorem Rz.of {cb B : Nat} {w : World} {a : Option Addr} {n c : Nat} {l : List Int} (h : Ow B w 3 a n c (ins l)) (hB : cb < B) : Rz cb w a n c l := ⟨h.rd, fun p hp => Nat.lt_of_lt_of_le hB (h.lt p hp).1⟩
/-- block cb is a cursor over bytes that read in a block below B -/
def Cur (B : Nat) (w : World) (cb : Nat) : Prop := ∃ (a : Option Addr) (n c : Nat) (l : List UInt8) (j : Nat) (h : Int), Bx w cb 73 #[.slice a n c, .int .i64 (j : Int), .int .i64 h] ∧ Rd w a n c (bys l) ∧ (0 < n → ∀ p, a = some p → p.block < B) ∧ n ≤ 1048576 ∧ B ≤ cb
theorem Cur.keepI {w w' : World} {B cb X S : Nat} (h : Cur B w cb) (g : gbI X S w w') (hX : B ≤ X) (hc : cb < X ∨ S ≤ cb) : Cur B w' cb := by
  obtain ⟨a, n, c, l, j, x, h1, h2, h3, h4, h5⟩ := h
  exact ⟨a, n, c, l, j, x, h1.keepI g hc, h2.keepP g (fun h0 p hp => .inl (by have := h3 h0 p hp; omega)), h3, h4, h5⟩
theorem Cur.le {w : World} {B cb : Nat} (h : Cur B w cb) : B ≤ cb := by
  obtain ⟨_, _, _, _, _, _, _, _, _, _, h5⟩ := h
  exact h5
theorem Cur.keep0 {w w' : World} {B cb : Nat} (h : Cur B w cb) (g : w.grownBy w' none) : Cur B w' cb := h.keepI (gbI.of0 (B := cb + 1) (S := cb + 1) g) (by have := h.le; omega) (.inl (Nat.lt_succ_self _))
theorem Cur.alloc {w : World} {B cb : Nat} (h : Cur B w cb) (o : Obj) : Cur B (w.alloc o) cb := h.keep0 (gb_alloc (gb_refl w) o)
theorem Cur.drew {w : World} {B cb : Nat} (h : Cur B w cb) : Cur B w.drew cb := h.keep0 (gb_drew (gb_refl w))
theorem Cur.drewN {w : World} {B cb : Nat} (h : Cur B w cb) (n : Nat) : Cur B (w.drewN n) cb := h.keep0 (gb_drewN (gb_refl w) n)
theorem Cur.lt {w : World} {B cb : Nat} (h : Cur B w cb) : cb < w.heap.size := by
  obtain ⟨_, _, _, _, _, _, h1, _⟩ := h
  exact h1.lt
set_option maxRecDepth 1000000 in
set_option maxHeartbeats 1000000 in
theorem spec_l1New (a : Option Addr) (n c : Nat) (l : List UInt8) (B : Nat) (w : World) (h : Rd w a n c (bys l)) (hn : n ≤ 1048576) (ha : 0 < n → ∀ p, a = some p → p.block < B) (hB : B ≤ w.heap.size) :
    Calls Tryz.prog 19 #[.slice a n c] w fun e w' => ∃ cb, e = .returned (.pointer (some ⟨cb, 0, none⟩)) ∧ Cur B w' cb ∧ w.heap.size ≤ cb ∧ w.grownBy w' none := by
  go_enter Tryz.func19, Tryz.ntmps19
  go_wp2
  go_loopw [3, 4] (fun x i wr => ∃ (j : Nat) (y : Int), j ≤ n ∧ i = .int .i64 (j : Int) ∧ x = .int .i64 y ∧ 0 ≤ y ∧ y ≤ 1073741823 ∧ w.grownBy wr none) (fun _ i _ => n - (intOf i).toNat)
  case atStart => exact ⟨0, _, by omega, rfl, rfl, by omega, by omega, gb_refl _⟩
  case round =>
    obtain ⟨j, y, hj, rfl, rfl, y0, y1, hg⟩ := hrel
    by_cases hlt : j < n
    · by_cases h4 : j < 4000
      · obtain ⟨b, off, z, rfl, hz, hc⟩ := (h.keep0 hg).byte j hlt
        have zt := z.toNat_lt
        obtain ⟨k, k1, k2⟩ := andM (y * 137 + (z.toNat : Int) + 11) 1073741823 (by decide)
        go_wp2
        go_roundw
        case rel => exact ⟨j + 1, (k : Int), by omega, by go_num, congrArg (Value.int .i64) k2, by omega, by omega, hg⟩
        case measure => simp [intOf]; omega
      · go_wp2
        go_ret
        exact ⟨_, rfl, ⟨a, n, c, l, 0, y, Bx.new wr _ _, (h.keep0 hg).keep0 (gb_alloc (gb_refl _) _), ha, hn, Nat.le_trans hB hg.size⟩, hg.size, gb_alloc hg _⟩
    · obtain rfl : j = n := by omega
      go_wp2
      go_ret
      exact ⟨_, rfl, ⟨a, j, c, l, 0, y, Bx.new wr _ _, (h.keep0 hg).keep0 (gb_alloc (gb_refl _) _), ha, hn, Nat.le_trans hB hg.size⟩, hg.size, gb_alloc hg _⟩
set_option maxRecDepth 1000000 in
set_option maxHeartbeats 1000000 in
theorem spec_l1Byte (B cb : Nat) (w : World) (h : Cur B w cb) :
    Calls Tryz.prog 50 #[.pointer (some ⟨cb, 0, none⟩)] w fun e w' => ∃ k : Nat, k < 256 ∧ e = .returned (.int .i64 (k : Int)) ∧ Cur B w' cb ∧ Dr cb w w' := by
  obtain ⟨a, n, c, l, j, x, h1, h2, h3, h4, h5⟩ := h
  have cc := fun o => h1.cell o
  have ff := fun o => h1.frozen o
  have lt := h1.lt
  obtain ⟨X, hX⟩ : ∃ X, wrap64 (wrap64 (x * 6364136223846793005) + 1442695040888963407) = X := ⟨_, rfl⟩
  obtain ⟨k, k1, k2⟩ := and255 (bits .xor .i64 (X / 8589934592) (X / 140737488355328))
  by_cases hj : j < n
  · obtain ⟨b, off, y, rfl, hy, hc⟩ := h2.byte j hj
    have yt := y.toNat_lt
    have hb := h3 (by omega) _ rfl
    simp only at hb
    obtain ⟨k', k1', k2'⟩ := and255 ((k : Int) + (y.toNat : Int))
    go_enter Tryz.func50, Tryz.ntmps50
    go_wp2
    go_quiet (fail)
    go_wp2
    go_quiet (fail)
    go_wp2
    go_quiet (fail)
    go_wp2
    go_ret
    refine ⟨k', k1', rfl, ⟨_, n, c, l, j + 1, X, ?_, h2.keepP (gbI_set (gbI_drewN (gbI_set (gbI.refl cb (cb + 1) w) (p := ⟨cb, 2, none⟩) (.inr ⟨Nat.le_refl _, Nat.lt_succ_self _⟩) _) _) (p := ⟨cb, 1, none⟩) (.inr ⟨Nat.le_refl _, Nat.lt_succ_self _⟩) _) (fun h0 p hp => .inl (Nat.lt_of_lt_of_le (h3 h0 p hp) h5)), h3, h4, h5⟩, gbI_set (gbI_drewN (gbI_set (gbI.refl cb (cb + 1) w) (p := ⟨cb, 2, none⟩) (.inr ⟨Nat.le_refl _, Nat.lt_succ_self _⟩) _) _) (p := ⟨cb, 1, none⟩) (.inr ⟨Nat.le_refl _, Nat.lt_succ_self _⟩) _⟩
    rw [show ((j + 1 : Nat) : Int) = (j : Int) + 1 from rfl]
    exact ((h1.set 2 (.int .i64 X)).drewN _).set 1 (.int .i64 ((j : Int) + 1))
  · go_enter Tryz.func50, Tryz.ntmps50
    go_wp2
    go_quiet (fail)
    go_wp2
    go_quiet (fail)
    go_wp2
    go_ret
    exact ⟨k, k1, rfl, ⟨a, n, c, l, j, X, ((h1.set 2 (.int .i64 X)).drewN _).drewN _, h2.keepP (gbI_drewN (gbI_drewN (gbI_set (gbI.refl cb (cb + 1) w) (p := ⟨cb, 2, none⟩) (.inr ⟨Nat.le_refl _, Nat.lt_succ_self _⟩) _) _) _) (fun h0 p hp => .inl (Nat.lt_of_lt_of_le (h3 h0 p hp) h5)), h3, h4, h5⟩, gbI_drewN (gbI_drewN (gbI_set (gbI.refl cb (cb + 1) w) (p := ⟨cb, 2, none⟩) (.inr ⟨Nat.le_refl _, Nat.lt_succ_self _⟩) _) _) _⟩
set_option maxRecDepth 1000000 in
set_option maxHeartbeats 1000000 in
theorem spec_l1Below (B cb : Nat) (x : Int) (w : World) (h : Cur B w cb) :
    Calls Tryz.prog 25 #[.pointer (some ⟨cb, 0, none⟩), .int .i64 x] w fun e w' => ∃ k : Nat, ((k : Int) < x ∨ (x ≤ 0 ∧ k = 0)) ∧ e = .returned (.int .i64 (k : Int)) ∧ Cur B w' cb ∧ Dr cb w w' := by
  by_cases h0 : x ≤ 0
  · go_enter Tryz.func25, Tryz.ntmps25
    go_wp2
    go_ret
    exact ⟨0, .inr ⟨h0, rfl⟩, rfl, h, Dr.refl _ _⟩
  · by_cases h1 : x ≤ 256
    · go_enter Tryz.func25, Tryz.ntmps25
      go_wp2_with (go_at_call 50; refine (spec_l1Byte B cb _ h).mono ?_; rintro e w1 ⟨k, k1, rfl, c1, d1⟩)
      go_ret
      have e1 := Int.emod_nonneg (k : Int) (show x ≠ 0 by omega)
      have e2 := Int.emod_lt_of_pos (k : Int) (show 0 < x by omega)
      exact ⟨((k : Int) % x).toNat, .inl (by omega), ret_i (by rw [Int.toNat_of_nonneg e1]), c1, d1⟩
    · go_enter Tryz.func25, Tryz.ntmps25
      go_wp2_with (first | (go_at_call 50; (with_reducible refine (spec_l1Byte B cb w h).mono ?_); rintro e w1 ⟨k, k1, rfl, c1, d1⟩) | (go_at_call 50; (with_reducible refine (spec_l1Byte B cb w1 c1).mono ?_); rintro e w2 ⟨k2, k21, rfl, c2, d2⟩) | (go_at_call 50; (with_reducible refine (spec_l1Byte B cb w2 c2).mono ?_); rintro e w3 ⟨k3, k31, rfl, c3, d3⟩))
      go_ret
      have e1 := Int.emod_nonneg ((k : Int) * 65536 + (k2 : Int) * 256 + (k3 : Int)) (show x ≠ 0 by omega)
      have e2 := Int.emod_lt_of_pos ((k : Int) * 65536 + (k2 : Int) * 256 + (k3 : Int)) (show 0 < x by omega)
      exact ⟨(((k : Int) * 65536 + (k2 : Int) * 256 + (k3 : Int)) % x).toNat, .inl (by omega), ret_i (by rw [Int.toNat_of_nonneg e1]), c3, (d1.trans d2).trans d3⟩
set_option maxRecDepth 1000000 in
set_option maxHeartbeats 1000000 in
theorem spec_l1Int (B cb : Nat) (a : Option Addr) (n c : Nat) (l : List Int) (w : World) (h : Cur B w cb) (r : Rz cb w a n c l) (hn : 0 < n) (hm : n ≤ 1048576) :
    Calls Tryz.prog 22 #[.pointer (some ⟨cb, 0, none⟩), .slice a n c] w fun e w' => ∃ x, x ∈ l ∧ e = .returned (.int .i64 x) ∧ Cur B w' cb ∧ Dr cb w w' := by
  go_enter Tryz.func22, Tryz.ntmps22
  go_wp2_with fail
  refine (spec_l1Below B cb _ _ h).mono ?_
  rintro e w1 ⟨k, k1, rfl, c1, d1⟩
  have hk : k < n := by omega
  have r1 := r.keep d1
  obtain ⟨b, off, rfl, hc⟩ := r1.rd.cells k hk
  have hl := r1.rd.len
  obtain ⟨u, hu⟩ : ∃ u, l[k]? = some u := ⟨l[k]'(by simp only [ins, List.length_map] at hl; omega), by simp⟩
  have hc' : w1.cell? ⟨b, off + k, none⟩ = some (.int .i64 u) := by rw [hc, ins, List.getElem?_map, hu]; rfl
  clear hc
  go_wp2
  go_ret
  exact ⟨u, List.mem_of_getElem? hu, rfl, c1, d1⟩
def PBy (B cb : Nat) (x : Int) (w : World) (e : Ending) (w' : World) : Prop := ∃ a n c l, e = .returned (.slice a n c) ∧ l.length = x.toNat ∧ Ow w.heap.size w' 5 a n c (bys l) ∧ Cur B w' cb ∧ Dr cb w w'
set_option maxRecDepth 1000000 in
set_option maxHeartbeats 1000000 in
theorem spec_l1Bytes (B cb : Nat) (x : Int) (w : World) (h : Cur B w cb) (hx : x ≤ 1048576) :
    Calls Tryz.prog 23 #[.pointer (some ⟨cb, 0, none⟩), .int .i64 x] w (PBy B cb x w) := by
  have hcb := h.lt
  go_enter Tryz.func23, Tryz.ntmps23
  go_wp2
  go_loopw [5, 6] (fun v i wr => ∃ (j m cc : Nat) (aa : Option Addr) (l : List UInt8), (j : Int) ≤ max x 0 ∧ i = .int .i64 (j : Int) ∧ v = .slice aa m cc ∧ l.length = j ∧ Ow w.heap.size wr 5 aa m cc (bys l) ∧ Cur B wr cb ∧ Dr cb w wr) (fun _ i _ => (x - intOf i).toNat)
  case atStart => exact ⟨0, 0, 0, _, [], by omega, rfl, rfl, rfl, new_own _ _, h.alloc _, (Dr.refl _ _).alloc _⟩
  case round =>
    obtain ⟨j, m, cc, aa, l, hj, rfl, rfl, hl, o, c0, d0⟩ := hrel
    have e0 := o.blen
    replace hl := Lib.hid hl
    by_cases hlt : (j : Int) < x
    · go_wp2_with (first
        | (go_at_call 50; refine (spec_l1Byte B cb _ c0).mono ?_; rintro e w1 ⟨k, k1, rfl, c1, d1⟩; have kk := Lib.hid (show [Value.int .u8 (k : Int)] = bys [UInt8.ofNat k] by rw [bys, List.map_singleton, UInt8.toNat_ofNat', Nat.mod_eq_of_lt (by omega)]); have o1 := o.keepI d1 (fun p hp => .inr (by have := (o.lt p hp).1; omega)))
        | (at_builtin; refine wpList_appB rfl (.tmp 13) (.tmp 17) rfl w.heap.size aa m cc l rfl (o1.keep0 (gb_alloc (gb_refl _) _)) _ 1 1 [UInt8.ofNat k] rfl (new_bys w1 _ #[.int .u8 (k : Int)] [UInt8.ofNat k] kk.out) (by have := hl.out; simp; omega) (by have := (d0.trans d1).size; simp; omega) ?_; intro a9 n9 c9 w9 o9 g9; have e9 := o9.blen))
      refine ⟨⟨j + 1, n9, c9, a9, l ++ [UInt8.ofNat k], by omega, by go_num, rfl, by simp [hl.out], o9, ?_, ?_⟩, by simp [intOf]; omega⟩
      · exact (c1.alloc _).keepI (gbI.ofRow (B := w.heap.size) (S := blkS aa) g9 (fun g hg => by obtain ⟨p, hp, rfl⟩ := rowOf hg; exact ⟨(o1.lt p hp).1, blk_lt p hp⟩)) (by have := c1.le; omega) (.inl (by omega))
      · exact (d0.trans (d1.alloc _)).row2 g9 (fun g hg => by obtain ⟨p, hp, rfl⟩ := rowOf hg; exact (o1.lt p hp).1)
    · go_wp2
      go_ret
      exact ⟨_, _, _, l, rfl, by have := hl.out; omega, o, c0, d0⟩
end Go.Proofs.YtpfchphgbhgmmaaGreat
