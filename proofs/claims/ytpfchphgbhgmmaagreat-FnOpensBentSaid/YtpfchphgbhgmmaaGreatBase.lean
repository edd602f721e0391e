/-
  Plain facts on memory: a slice that reads as a list of values; a slice that a call owns; how both last while the world grows; laws of the walk for append, make and slicing in these words. Conditions: none beside those that each theorem names.
-/
import Derived.Test.YtpfchphgbhgmmaaGreatRows
import Derived.WalkKit
import Derived.ProofKit
import Derived.Deep.AppendSrc
import Derived.Deep.AppendLies
import Derived.Lib.Hide
import Derived.Deep.QuietTactic
import Derived.BigQuiet
import Derived.WalkLawsBesides
import Derived.WalkSpells
namespace Go.Proofs.YtpfchphgbhgmmaaGreat
open Go.RowKit

/-- A slice value reads as the list xs in the world w. -/
structure Rd (w : World) (a : Option Addr) (n c : Nat) (xs : List Value) : Prop where
  len : xs.length = n
  le : n ≤ c
  cells : ∀ j, j < n → ∃ b off, a = some ⟨b, off, none⟩ ∧ w.cell? ⟨b, off + j, none⟩ = xs[j]?

/-- The call owns the slice: its block lies from B on. -/
structure Ow (B : Nat) (w : World) (e : TypeId) (a : Option Addr) (n c : Nat) (xs : List Value) : Prop where
  own : w.ownsRow B e 1 (.slice a n c) n xs

theorem Rd.pos {w : World} {a : Option Addr} {n c : Nat} {xs : List Value} (h : Rd w a n c xs) (hn : 0 < n) :
    ∃ b off, a = some ⟨b, off, none⟩ ∧ b < w.heap.size ∧ ∀ j, j < n → w.cell? ⟨b, off + j, none⟩ = xs[j]? := by
  obtain ⟨b, off, rfl, h0⟩ := h.cells 0 hn
  have hx : ∃ u, xs[0]? = some u := ⟨xs[0]'(by rw [h.len]; exact hn), by simp⟩
  obtain ⟨u, hu⟩ := hx
  refine ⟨b, off, rfl, block_lt_of_cell (a := ⟨b, off + 0, none⟩) (h0.trans hu), fun j hj => ?_⟩
  obtain ⟨b', off', e', hc⟩ := h.cells j hj
  simp only [Option.some.injEq, Addr.mk.injEq] at e'
  obtain ⟨rfl, rfl, _⟩ := e'
  exact hc

theorem Rd.keep {w w' : World} {row : Option Nat} {a : Option Addr} {n c : Nat} {xs : List Value} (h : Rd w a n c xs) (hg : w.grownBy w' row) (hne : ∀ p, a = some p → some p.block ≠ row) : Rd w' a n c xs := by
  refine ⟨h.len, h.le, fun j hj => ?_⟩
  obtain ⟨b, off, rfl, hlt, hc⟩ := h.pos (by omega)
  exact ⟨b, off, rfl, by rw [← hc j hj]; exact World.cell?_of_block (hg.block b hlt (hne _ rfl))⟩

theorem Rd.keep0 {w w' : World} {a : Option Addr} {n c : Nat} {xs : List Value} (h : Rd w a n c xs) (hg : w.grownBy w' none) : Rd w' a n c xs := h.keep hg (fun _ _ => by simp)

theorem Ow.len {B : Nat} {w : World} {e : TypeId} {a : Option Addr} {n c : Nat} {xs : List Value} (h : Ow B w e a n c xs) : xs.length = n := by have := h.own.1; omega

theorem Ow.lt {B : Nat} {w : World} {e : TypeId} {a : Option Addr} {n c : Nat} {xs : List Value} (h : Ow B w e a n c xs) : ∀ p, a = some p → B ≤ p.block ∧ p.block < w.heap.size := by
  rintro p rfl
  exact h.own.lt p.block rfl

theorem Ow.le {B : Nat} {w : World} {e : TypeId} {a : Option Addr} {n c : Nat} {xs : List Value} (h : Ow B w e a n c xs) : n ≤ c := by
  rcases h.own.2 with ⟨hv, hn⟩ | ⟨g, cap, cur, hv, _, _, hle, _⟩
  · omega
  · simp only [Value.slice.injEq] at hv
    omega

theorem Ow.rd {B : Nat} {w : World} {e : TypeId} {a : Option Addr} {n c : Nat} {xs : List Value} (h : Ow B w e a n c xs) : Rd w a n c xs := by
  refine ⟨h.len, h.le, fun j hj => ?_⟩
  rcases h.own.2 with ⟨hv, hn⟩ | ⟨g, cap, cur, hv, _, hg, hle, _, hs, ht⟩
  · omega
  · simp only [Value.slice.injEq] at hv
    obtain ⟨rfl, _, rfl⟩ := hv
    refine ⟨g, 0, rfl, ?_⟩
    rw [cell_of_row w g (0 + j) cur e (0, 0) hg, ← ht]
    simp [hj]

theorem Ow.keep {B : Nat} {w w' : World} {row : Option Nat} {e : TypeId} {a : Option Addr} {n c : Nat} {xs : List Value} (h : Ow B w e a n c xs) (hg : w.grownBy w' row) (hne : ∀ p, a = some p → some p.block ≠ row) : Ow B w' e a n c xs :=
  ⟨h.own.kept hg (by cases a with
    | none => exact .inl rfl
    | some p => exact .inr (hne p rfl))⟩

theorem Ow.keep0 {B : Nat} {w w' : World} {e : TypeId} {a : Option Addr} {n c : Nat} {xs : List Value} (h : Ow B w e a n c xs) (hg : w.grownBy w' none) : Ow B w' e a n c xs := h.keep hg (fun _ _ => by simp)

theorem Ow.mono {B B' : Nat} {w : World} {e : TypeId} {a : Option Addr} {n c : Nat} {xs : List Value} (h : Ow B w e a n c xs) (hB : B' ≤ B) : Ow B' w e a n c xs := by
  refine ⟨h.own.1, ?_⟩
  rcases h.own.2 with hv | ⟨g, cap, cur, hv, hb, r⟩
  · exact .inl hv
  · exact .inr ⟨g, cap, cur, hv, by omega, r⟩

theorem Ow.nil (B : Nat) (w : World) (e : TypeId) : Ow B w e none 0 0 [] := ⟨World.ownsRow_nil w B e 1⟩
theorem Rd.nil (w : World) (a : Option Addr) (c : Nat) : Rd w a 0 c [] := ⟨rfl, by omega, fun j hj => by omega⟩

theorem gb_refl (w : World) : w.grownBy w none := ⟨rfl, rfl, rfl, Nat.le_refl _, fun _ _ _ => rfl⟩
theorem gb_reflr (w : World) (row : Option Nat) : w.grownBy w row := ⟨rfl, rfl, rfl, Nat.le_refl _, fun _ _ _ => rfl⟩
theorem gb_drew {w w' : World} {row : Option Nat} (h : w.grownBy w' row) : w.grownBy w'.drew row := ⟨h.os, h.tape, h.output, h.size, h.block⟩
theorem gb_drewN {w w' : World} {row : Option Nat} (h : w.grownBy w' row) (n : Nat) : w.grownBy (w'.drewN n) row := ⟨h.os, h.tape, h.output, h.size, h.block⟩
theorem gb_trans {a b c : World} (h : a.grownBy b none) (k : b.grownBy c none) : a.grownBy c none :=
  ⟨k.os.trans h.os, k.tape.trans h.tape, k.output.trans h.output, Nat.le_trans h.size k.size, fun i hi _ => (k.block i (Nat.lt_of_lt_of_le hi h.size) (by simp)).trans (h.block i hi (by simp))⟩
/-- the second step writes a block that is new to the first world, or the row itself -/
theorem gb_transr {a b c : World} {row row' : Option Nat} (h : a.grownBy b row) (k : b.grownBy c row') (hr : ∀ g, row' = some g → a.heap.size ≤ g ∨ row = some g) : a.grownBy c row :=
  ⟨k.os.trans h.os, k.tape.trans h.tape, k.output.trans h.output, Nat.le_trans h.size k.size, fun i hi hne =>
    (k.block i (Nat.lt_of_lt_of_le hi h.size) (fun e => by
      rcases hr i e.symm with h1 | h1
      · omega
      · exact hne h1.symm)).trans (h.block i hi hne)⟩
theorem gb_alloc {a b : World} {row : Option Nat} (h : a.grownBy b row) (o : Obj) : a.grownBy (b.alloc o) row :=
  gb_transr h (World.grownBy_alloc b o none) (fun g e => by cases e)
theorem gb_set {a b : World} {row : Option Nat} (h : a.grownBy b row) {p : Addr} (hp : a.heap.size ≤ p.block ∨ row = some p.block) (u : Value) : a.grownBy (b.setCell p u) row :=
  ⟨h.os, h.tape, h.output, by simpa [World.setCell] using h.size, fun i hi hne => by
    rw [Below.heap_setCell _ _ _ _ (by
      rintro rfl
      rcases hp with h1 | h1
      · omega
      · exact hne h1.symm)]
    exact h.block i hi hne⟩
theorem gb_below {a b : World} (h : a.grownBy b none) : Below a.heap.size a b := ⟨h.os, h.tape, h.output, h.size, fun i hi => h.block i hi (by simp)⟩
theorem below_gb {a b : World} (h : Below a.heap.size a b) : a.grownBy b none := ⟨h.os, h.tape, h.output, h.size, fun i hi _ => h.block i hi⟩

/-- nothing has turned but blocks from B to below S -/
structure gbI (B S : Nat) (w w' : World) : Prop where
  os : w'.os = w.os
  tape : w'.tape = w.tape
  output : w'.output = w.output
  size : w.heap.size ≤ w'.heap.size
  block : ∀ k, k < w.heap.size → (k < B ∨ S ≤ k) → w'.heap[k]? = w.heap[k]?
theorem gbI.refl (B S : Nat) (w : World) : gbI B S w w := ⟨rfl, rfl, rfl, Nat.le_refl _, fun _ _ _ => rfl⟩
theorem gbI.trans {B S : Nat} {a b c : World} (h : gbI B S a b) (k : gbI B S b c) : gbI B S a c :=
  ⟨k.os.trans h.os, k.tape.trans h.tape, k.output.trans h.output, Nat.le_trans h.size k.size, fun i hi hn => (k.block i (Nat.lt_of_lt_of_le hi h.size) hn).trans (h.block i hi hn)⟩
theorem gbI.ofRow {B S : Nat} {w w' : World} {row : Option Nat} (h : w.grownBy w' row) (hr : ∀ g, row = some g → B ≤ g ∧ g < S) : gbI B S w w' :=
  ⟨h.os, h.tape, h.output, h.size, fun i hi hn => h.block i hi (fun e => by have := hr i e.symm; omega)⟩
theorem gbI.of0 {B S : Nat} {w w' : World} (h : w.grownBy w' none) : gbI B S w w' := gbI.ofRow h (fun _ e => by cases e)
theorem gbI.below {B S : Nat} {w w' : World} (h : gbI B S w w') (C : Nat) (hC : C ≤ B) (hz : C ≤ w.heap.size) : Below C w w' := ⟨h.os, h.tape, h.output, h.size, fun i hi => h.block i (by omega) (.inl (by omega))⟩
theorem Rd.keepI {B S : Nat} {w w' : World} {a : Option Addr} {n c : Nat} {xs : List Value} (h : Rd w a n c xs) (hg : gbI B S w w') (hne : ∀ p, a = some p → p.block < B ∨ S ≤ p.block) : Rd w' a n c xs := by
  refine ⟨h.len, h.le, fun j hj => ?_⟩
  obtain ⟨b, off, rfl, hlt, hc⟩ := h.pos (by omega)
  exact ⟨b, off, rfl, by rw [← hc j hj]; exact World.cell?_of_block (hg.block b hlt (hne _ rfl))⟩
theorem Ow.keepI {B S B' : Nat} {w w' : World} {e : TypeId} {a : Option Addr} {n c : Nat} {xs : List Value} (h : Ow B' w e a n c xs) (hg : gbI B S w w') (hne : ∀ p, a = some p → p.block < B ∨ S ≤ p.block) : Ow B' w' e a n c xs := by
  refine ⟨h.own.1, ?_⟩
  rcases h.own.2 with hv | ⟨g, cap, cur, hv, hb, hh, r⟩
  · exact .inl hv
  · refine .inr ⟨g, cap, cur, hv, hb, ?_, r⟩
    simp only [Value.slice.injEq] at hv
    rw [hg.block g (Array.getElem?_eq_some_iff.1 hh).1 (hne _ hv.1)]
    exact hh

theorem Ow.keepI2 {B S B' : Nat} {w w' : World} {e : TypeId} {a : Option Addr} {n c : Nat} {xs : List Value} (h : Ow B' w e a n c xs) (hg : gbI B S w w') (hne : ∀ p, a = some p → p.block < B ∨ S ≤ p.block) : Ow B' w' e a n c xs := h.keepI hg hne
/-- a slice's own block, as an interval -/
def blk (a : Option Addr) : Nat := match a with | some p => p.block | none => 0
def blkS (a : Option Addr) : Nat := match a with | some p => p.block + 1 | none => 0
theorem Ow.tight {B : Nat} {w : World} {e : TypeId} {a : Option Addr} {n c : Nat} {xs : List Value} (h : Ow B w e a n c xs) : Ow (blk a) w e a n c xs := by
  refine ⟨h.own.1, ?_⟩
  rcases h.own.2 with hv | ⟨g, cap, cur, hv, hb, r⟩
  · exact .inl hv
  · refine .inr ⟨g, cap, cur, hv, ?_, r⟩
    simp only [Value.slice.injEq] at hv
    rw [hv.1]
    exact Nat.le_refl _
theorem Ow.untight {B C : Nat} {w : World} {e : TypeId} {a : Option Addr} {n c : Nat} {xs : List Value} (h : Ow C w e a n c xs) (hB : ∀ p, a = some p → B ≤ p.block) : Ow B w e a n c xs := by
  refine ⟨h.own.1, ?_⟩
  rcases h.own.2 with hv | ⟨g, cap, cur, hv, hb, r⟩
  · exact .inl hv
  · refine .inr ⟨g, cap, cur, hv, ?_, r⟩
    simp only [Value.slice.injEq] at hv
    exact hB _ hv.1
theorem blk_lt {a : Option Addr} : ∀ p, a = some p → p.block < blkS a := by
  rintro p rfl
  exact Nat.lt_succ_self _
theorem gbI.wide {B S B' S' : Nat} {w w' : World} (h : gbI B S w w') (hb : S = 0 ∨ B' ≤ B) (hs : S ≤ S') : gbI B' S' w w' :=
  ⟨h.os, h.tape, h.output, h.size, fun k hk hn => h.block k hk (by omega)⟩
theorem gbI.blk {B S : Nat} {w w' : World} {a : Option Addr} (h : gbI (blk a) (blkS a) w w') (hb : ∀ p, a = some p → B ≤ p.block ∧ p.block < S) : gbI B S w w' := by
  cases a with
  | none => exact h.wide (.inl rfl) (Nat.zero_le _)
  | some p => exact h.wide (.inr (hb p rfl).1) (hb p rfl).2
theorem apart_blk {a b : Option Addr} (h : ∀ p q, a = some p → b = some q → p.block ≠ q.block) : ∀ p, a = some p → p.block < blk b ∨ blkS b ≤ p.block := by
  intro p hp
  cases b with
  | none => exact .inr (Nat.zero_le _)
  | some q =>
    have := h p q hp rfl
    simp only [blk, blkS]
    omega
/-- a variable's block, whole -/
def Bx (w : World) (b : Nat) (t : TypeId) (cs : Array Value) : Prop := w.heap[b]? = some (.cells cs t (0, 0))
theorem Bx.lt {w : World} {b : Nat} {t : TypeId} {cs : Array Value} (h : Bx w b t cs) : b < w.heap.size := (Array.getElem?_eq_some_iff.1 h).1
theorem Bx.keep0 {w w' : World} {b : Nat} {t : TypeId} {cs : Array Value} (h : Bx w b t cs) (hg : w.grownBy w' none) : Bx w' b t cs := (hg.block b h.lt (by simp)).trans h
theorem Bx.keepI {B S : Nat} {w w' : World} {b : Nat} {t : TypeId} {cs : Array Value} (h : Bx w b t cs) (hg : gbI B S w w') (hn : b < B ∨ S ≤ b) : Bx w' b t cs := (hg.block b h.lt hn).trans h
theorem Bx.keepRow {w w' : World} {row : Option Nat} {b : Nat} {t : TypeId} {cs : Array Value} (h : Bx w b t cs) (hg : w.grownBy w' row) (hn : row ≠ some b) : Bx w' b t cs := (hg.block b h.lt (fun e => hn e.symm)).trans h
theorem Bx.new (w : World) (t : TypeId) (cs : Array Value) : Bx (w.alloc (.cells cs t)) w.heap.size t cs := heap_alloc_new w _
theorem Bx.cell {w : World} {b : Nat} {t : TypeId} {cs : Array Value} (h : Bx w b t cs) (j : Nat) : w.cell? ⟨b, j, none⟩ = cs[j]? := cell_of_row w b j cs t (0, 0) h
theorem Bx.frozen {w : World} {b : Nat} {t : TypeId} {cs : Array Value} (h : Bx w b t cs) (j : Nat) : w.frozen? ⟨b, j, none⟩ = false := frozen_of_row w b j cs t h
theorem Bx.set {w : World} {b : Nat} {t : TypeId} {cs : Array Value} (h : Bx w b t cs) (j : Nat) (u : Value) : Bx (w.setCell ⟨b, j, none⟩ u) b t (cs.setIfInBounds j u) := heap_setCell_same w b j cs t u h
theorem Bx.setO {w : World} {b : Nat} {t : TypeId} {cs : Array Value} (h : Bx w b t cs) (q : Addr) (u : Value) (hn : b ≠ q.block) : Bx (w.setCell q u) b t cs := (heap_setCell_other w q b u hn).trans h
theorem Bx.old {w : World} {b : Nat} {t : TypeId} {cs : Array Value} (h : Bx w b t cs) (o : Obj) : Bx (w.alloc o) b t cs := (Below.heap_alloc w o b h.lt).trans h
theorem Bx.drew {w : World} {b : Nat} {t : TypeId} {cs : Array Value} (h : Bx w b t cs) : Bx w.drew b t cs := h
theorem Bx.drewN {w : World} {b : Nat} {t : TypeId} {cs : Array Value} (h : Bx w b t cs) (n : Nat) : Bx (w.drewN n) b t cs := h
theorem bx1 (w : World) (A1 : Array Value) (t1 : TypeId) : Bx (w.alloc (.cells A1 t1)) w.heap.size t1 A1 := Bx.new w t1 A1
theorem bx2 (w : World) (A1 A2 : Array Value) (t1 t2 : TypeId) : Bx ((w.alloc (.cells A1 t1)).alloc (.cells A2 t2)) w.heap.size t1 A1 ∧ Bx ((w.alloc (.cells A1 t1)).alloc (.cells A2 t2)) (w.heap.size + 1) t2 A2 := by
  refine ⟨(Bx.new w t1 A1).old _, ?_⟩
  have := Bx.new (w.alloc (.cells A1 t1)) t2 A2
  rwa [World.size_alloc] at this
theorem bx3 (w : World) (A1 A2 A3 : Array Value) (t1 t2 t3 : TypeId) : Bx (((w.alloc (.cells A1 t1)).alloc (.cells A2 t2)).alloc (.cells A3 t3)) w.heap.size t1 A1 ∧ Bx (((w.alloc (.cells A1 t1)).alloc (.cells A2 t2)).alloc (.cells A3 t3)) (w.heap.size + 1) t2 A2 ∧
    Bx (((w.alloc (.cells A1 t1)).alloc (.cells A2 t2)).alloc (.cells A3 t3)) (w.heap.size + 1 + 1) t3 A3 := by
  obtain ⟨h1, h2⟩ := bx2 w A1 A2 t1 t2
  refine ⟨h1.old _, h2.old _, ?_⟩
  have := Bx.new ((w.alloc (.cells A1 t1)).alloc (.cells A2 t2)) t3 A3
  rwa [World.size_alloc, World.size_alloc] at this
theorem gb_cells {W w1 : World} (hb : W.grownBy w1 none) : (∀ b o, b < W.heap.size → w1.cell? ⟨b, o, none⟩ = W.cell? ⟨b, o, none⟩) ∧ (∀ b o, b < W.heap.size → w1.frozen? ⟨b, o, none⟩ = W.frozen? ⟨b, o, none⟩) :=
  ⟨fun b o h => World.cell?_of_block (w := W) (hb.block b h (by simp)), fun b o h => World.frozen?_of_block (w := W) (hb.block b h (by simp))⟩
theorem Ow.keepSet {B : Nat} {w : World} {e : TypeId} {a : Option Addr} {n c : Nat} {xs : List Value} (h : Ow B w e a n c xs) {q : Addr} (hq : q.block < B) (u : Value) : Ow B (w.setCell q u) e a n c xs :=
  ⟨ownsRow_setCell_below h.own hq u⟩

theorem below_next {w a b : World} (T : Below w.heap.size w a) (R : a.grownBy b none) : Below w.heap.size w b := T.trans ((gb_below R).mono T.size)
theorem below_nextI {w a b : World} {B S : Nat} (T : Below w.heap.size w a) (R : gbI B S a b) (hB : w.heap.size ≤ B) : Below w.heap.size w b := T.trans (R.below w.heap.size hB T.size)
theorem Rd.below {w w' : World} {a : Option Addr} {n c : Nat} {xs : List Value} (h : Rd w a n c xs) (hb : Below w.heap.size w w') : Rd w' a n c xs := h.keep0 (below_gb hb)
/-- an int's range -/
def I64 (x : Int) : Prop := -9223372036854775808 ≤ x ∧ x ≤ 9223372036854775807

theorem Ow.setO {B : Nat} {w : World} {e : TypeId} {a : Option Addr} {n c : Nat} {xs : List Value} (h : Ow B w e a n c xs) (q : Addr) (u : Value) (hne : ∀ p, a = some p → p.block ≠ q.block) : Ow B (w.setCell q u) e a n c xs :=
  h.keep (gb_set (gb_reflr w (some q.block)) (.inr rfl) u) (fun p hp e => hne p hp (Option.some.inj e))

/-- Bytes, integers as values. -/
def bys (l : List UInt8) : List Value := l.map fun x => .int .u8 x.toNat
def ins (l : List Int) : List Value := l.map (.int .i64)
theorem bys_len (l : List UInt8) : (bys l).length = l.length := by simp [bys]
theorem ins_len (l : List Int) : (ins l).length = l.length := by simp [ins]
theorem bys_app (l m : List UInt8) : bys (l ++ m) = bys l ++ bys m := by simp [bys]
theorem ins_app (l m : List Int) : ins (l ++ m) = ins l ++ ins m := by simp [ins]
theorem bys_at (l : List UInt8) (j : Nat) (h : j < l.length) : (bys l)[j]? = some (.int .u8 (l[j].toNat : Int)) := by simp [bys, h]
theorem ins_at (l : List Int) (j : Nat) (h : j < l.length) : (ins l)[j]? = some (.int .i64 l[j]) := by simp [ins, h]
theorem bys_one (l : List UInt8) : ∀ u ∈ bys l, u.oneCell' = true := by
  intro u hu
  obtain ⟨_, _, rfl⟩ := List.mem_map.1 hu
  rfl
theorem ins_one (l : List Int) : ∀ u ∈ ins l, u.oneCell' = true := by
  intro u hu
  obtain ⟨_, _, rfl⟩ := List.mem_map.1 hu
  rfl

/-- values laid into a row one by one -/
def putAll : Array Value → Nat → List Value → Array Value
  | cur, _, [] => cur
  | cur, o, v :: r => putAll (cur.setIfInBounds o v) (o + 1) r
theorem putAll_size : ∀ (vs : List Value) (cur : Array Value) (o : Nat), (putAll cur o vs).size = cur.size
  | [], _, _ => rfl
  | v :: r, cur, o => by rw [putAll, putAll_size r]; simp
theorem putAll_take : ∀ (vs : List Value) (cur : Array Value) (o : Nat), o + vs.length ≤ cur.size → (putAll cur o vs).toList.take (o + vs.length) = cur.toList.take o ++ vs
  | [], cur, o, _ => by simp [putAll]
  | v :: r, cur, o, h => by
    simp only [List.length_cons] at h
    have := putAll_take r (cur.setIfInBounds o v) (o + 1) (by simp; omega)
    rw [putAll, List.length_cons, show o + (r.length + 1) = o + 1 + r.length by omega, this]
    have h2 : (cur.setIfInBounds o v).toList.take (o + 1) = cur.toList.take o ++ [v] := by
      rw [Array.toList_setIfInBounds, List.take_add_one, List.take_set_of_le (Nat.le_refl _)]
      congr 1
      rw [List.getElem?_set_self (by simp; omega)]
      rfl
    rw [h2, List.append_assoc, List.singleton_append]
theorem putAll_old : ∀ (vs : List Value) (cur : Array Value) (o k : Nat), k < o → (putAll cur o vs)[k]? = cur[k]?
  | [], _, _, _, _ => rfl
  | v :: vs, cur, o, k, h => by
    rw [putAll, putAll_old vs _ (o + 1) k (by omega)]
    simp [show o ≠ k by omega]
theorem heap_setCells (g : Nat) (e : TypeId) : ∀ (vs : List Value) (o : Nat) (w : World) (cur : Array Value), w.heap[g]? = some (.cells cur e (0, 0)) → (w.setCells g o vs).heap[g]? = some (.cells (putAll cur o vs) e (0, 0))
  | [], _, _, _, h => h
  | v :: r, o, w, cur, h => by
    rw [World.setCells, putAll]
    exact heap_setCells g e r (o + 1) _ _ (heap_setCell_same w g o cur e v h)
theorem gb_setCells (g : Nat) : ∀ (vs : List Value) (o : Nat) (w : World), w.grownBy (w.setCells g o vs) (some g)
  | [], _, w => gb_reflr w _
  | v :: r, o, w => by
    rw [World.setCells]
    exact gb_transr (gb_set (gb_reflr w (some g)) (p := ⟨g, o, none⟩) (.inr rfl) v) (gb_setCells g r (o + 1) _) (fun _ e => .inr e)

theorem Ow.head {B : Nat} {w : World} {e : TypeId} {a : Option Addr} {n c : Nat} {xs : List Value} (h : Ow B w e a n c xs) (hn : 0 < n) : ∃ g, a = some ⟨g, 0, none⟩ := by
  rcases h.own.2 with ⟨hv, h0⟩ | ⟨g, cap, cur, hv, _⟩
  · omega
  · simp only [Value.slice.injEq] at hv
    exact ⟨g, hv.1⟩
theorem Ow.at {B : Nat} {w : World} {e : TypeId} {g n c : Nat} {xs : List Value} (h : Ow B w e (some ⟨g, 0, none⟩) n c xs) (k : Nat) (hk : k < n) : w.frozen? ⟨g, k, none⟩ = false ∧ ∃ u, w.cell? ⟨g, k, none⟩ = some u ∧ xs[k]? = some u := by
  refine ⟨World.ownsRow.frozenAt h.own k, ?_⟩
  have h1 := World.ownsRow.cellAt h.own k (by omega)
  have h2 := h.len
  exact ⟨xs[k]'(by omega), by rw [h1]; simp, by simp⟩
theorem Ow.set {B : Nat} {w : World} {e : TypeId} {g n c : Nat} {xs : List Value} (h : Ow B w e (some ⟨g, 0, none⟩) n c xs) (k : Nat) (u : Value) : Ow B (w.setCell ⟨g, k, none⟩ u) e (some ⟨g, 0, none⟩) n c (xs.set k u) :=
  ⟨(World.ownsRow.stored h.own k u).1⟩
theorem fill_set (xs : List Value) (z u : Value) (n k : Nat) (hk : k < n) (hx : xs.length = k) : (xs ++ List.replicate (n - k) z).set k u = xs ++ [u] ++ List.replicate (n - (k + 1)) z := by
  rw [List.set_append_right _ _ (by omega), hx, Nat.sub_self, show n - k = (n - (k + 1)) + 1 by omega, List.replicate_succ, List.set_cons_zero, List.append_assoc]
  rfl
theorem bys_take_succ (l : List UInt8) (k : Nat) (h : k < l.length) : bys (l.take (k + 1)) = bys (l.take k) ++ [.int .u8 (l[k].toNat : Int)] := by
  rw [List.take_succ_eq_append_getElem h, bys_app]
  rfl
theorem ins_take_succ (l : List Int) (k : Nat) (h : k < l.length) : ins (l.take (k + 1)) = ins (l.take k) ++ [.int .i64 l[k]] := by
  rw [List.take_succ_eq_append_getElem h, ins_app]
  rfl
theorem bys_set (l : List UInt8) (k : Nat) (x : UInt8) : (bys l).set k (.int .u8 (x.toNat : Int)) = bys (l.set k x) := by simp [bys, List.map_set]
theorem ins_set (l : List Int) (k : Nat) (x : Int) : (ins l).set k (.int .i64 x) = ins (l.set k x) := by simp [ins, List.map_set]

theorem Rd.byte {w : World} {a : Option Addr} {n c : Nat} {l : List UInt8} (h : Rd w a n c (bys l)) (j : Nat) (hj : j < n) :
    ∃ b off x, a = some ⟨b, off, none⟩ ∧ Hid (l[j]? = some x) ∧ w.cell? ⟨b, off + j, none⟩ = some (.int .u8 (x.toNat : Int)) := by
  have hl := h.len
  rw [bys_len] at hl
  obtain ⟨b, off, e, hc⟩ := h.cells j (by omega)
  exact ⟨b, off, l[j], e, by simp [Hid], by rw [hc, bys_at l j (by omega)]⟩
theorem Rd.int {w : World} {a : Option Addr} {n c : Nat} {l : List Int} (h : Rd w a n c (ins l)) (j : Nat) (hj : j < n) :
    ∃ b off x, a = some ⟨b, off, none⟩ ∧ Hid (l[j]? = some x) ∧ w.cell? ⟨b, off + j, none⟩ = some (.int .i64 x) := by
  have hl := h.len
  rw [ins_len] at hl
  obtain ⟨b, off, e, hc⟩ := h.cells j (by omega)
  exact ⟨b, off, l[j], e, by simp [Hid], by rw [hc, ins_at l j (by omega)]⟩
theorem take_succ_some {α : Type} {l : List α} {j : Nat} {x : α} (h : l[j]? = some x) : l.take (j + 1) = l.take j ++ [x] := by rw [List.take_add_one, h]; rfl
theorem u8_ne_of {x y : UInt8} (h : ¬ (x.toNat : Int) = (y.toNat : Int)) : x ≠ y := by rintro rfl; exact h rfl
theorem u8_ne {x y : UInt8} (h : x ≠ y) : ¬ (x.toNat : Int) = (y.toNat : Int) := fun e => h (by apply UInt8.toNat_inj.1; omega)
theorem u8_eq_of {x y : UInt8} (h : (x.toNat : Int) = (y.toNat : Int)) : x = y := by apply UInt8.toNat_inj.1; omega
theorem u8_neq {x y : UInt8} (h : x ≠ y) : ((x.toNat : Int) != (y.toNat : Int)) = true := by rw [bne_iff_ne]; exact u8_ne h
theorem Rd.blen {w : World} {a : Option Addr} {n c : Nat} {l : List UInt8} (h : Rd w a n c (bys l)) : l.length = n := by have := h.len; rwa [bys_len] at this
theorem Rd.ilen {w : World} {a : Option Addr} {n c : Nat} {l : List Int} (h : Rd w a n c (ins l)) : l.length = n := by have := h.len; rwa [ins_len] at this
theorem Ow.blen {B : Nat} {w : World} {e : TypeId} {a : Option Addr} {n c : Nat} {l : List UInt8} (h : Ow B w e a n c (bys l)) : l.length = n := by have := h.len; rwa [bys_len] at this
theorem Ow.ilen {B : Nat} {w : World} {e : TypeId} {a : Option Addr} {n c : Nat} {l : List Int} (h : Ow B w e a n c (ins l)) : l.length = n := by have := h.len; rwa [ins_len] at this

theorem ret_i {a b : Int} (h : a = b) : Ending.returned (.int .i64 a) = Ending.returned (.int .i64 b) := by rw [h]
theorem ret_b {a b : Bool} (h : a = b) : Ending.returned (.bool a) = Ending.returned (.bool b) := by rw [h]
/-- The world after some draws. -/
def Qt (w w' : World) : Prop := ∃ q, w' = w.drewN q
theorem Qt.refl (w : World) : Qt w w := ⟨0, rfl⟩
theorem Qt.drewN {w w' : World} (h : Qt w w') (n : Nat) : Qt w (w'.drewN n) := by obtain ⟨q, rfl⟩ := h; exact ⟨q + n, by simp⟩
theorem Qt.drew {w w' : World} (h : Qt w w') : Qt w w'.drew := h.drewN 1
theorem Qt.trans {a b c : World} (h : Qt a b) (k : Qt b c) : Qt a c := by obtain ⟨q, rfl⟩ := h; obtain ⟨p, rfl⟩ := k; exact ⟨q + p, by simp⟩
theorem Qt.gb {w w' : World} (h : Qt w w') : w.grownBy w' none := by obtain ⟨q, rfl⟩ := h; exact gb_drewN (gb_refl w) q
theorem Qt.size {w w' : World} (h : Qt w w') : w'.heap.size = w.heap.size := by obtain ⟨q, rfl⟩ := h; rfl
theorem Rd.qt {w w' : World} {a : Option Addr} {n c : Nat} {xs : List Value} (h : Rd w a n c xs) (hq : Qt w w') : Rd w' a n c xs := h.keep0 hq.gb
/-- a callee that only draws, met inside a region that draws -/
theorem quiet_qt {P : Program} {f : FuncId} {args : Array Value} {w : World} {n : Nat} {v : Value}
    (h : Calls P f args (w.drewN n) fun e w' => e = .returned v ∧ Qt (w.drewN n) w') : Calls P f args (w.drewN n) fun e w'' => e = .returned v ∧ ∃ m, w'' = w.drewN m :=
  Calls.quiet_of h

section
variable {P : Program} {w : World}

theorem Rd.src {tx e' : TypeId} (hk : P.underlying tx = some (.slice e')) {a : Option Addr} {n c : Nat} {xs : List Value} (h : Rd w a n c xs) (h1 : ∀ u ∈ xs, u.oneCell' = true) : Src P 1 tx (.slice a n c) n xs w := by
  by_cases hn : n = 0
  · subst hn
    obtain rfl : xs = [] := by have := h.len; cases xs <;> simp_all
    cases a with
    | none =>
      exact ⟨.inl ⟨e', hk⟩, fun _ => rfl, run_firstCells_none w 1 0 0 c, run_firstCells_none w.drew 1 0 0 c, by simp, fun _ h => by cases h⟩
    | some p => exact Src.ofSlice w hk p 0 c [] (by simp) (by simp) (by simp)
  · obtain ⟨b, off, rfl, _, hc⟩ := h.pos (by omega)
    refine Src.ofSlice w hk _ n c xs (by have := h.len; omega) (fun j u hu => ?_) h1
    have hj : j < n := by
      have := (List.getElem?_eq_some_iff.1 hu).1
      have := h.len
      omega
    have ha : (⟨b, off, none⟩ : Addr).add j = ⟨b, off + j, none⟩ := Addr.add_lit _ _ _
    rw [ha, hc j hj, hu]

theorem new_rd (w : World) (cs : Array Value) (t : TypeId) (n : Nat) (hn : cs.size = n) : Rd (w.alloc (.cells cs t)) (some ⟨w.heap.size, 0, none⟩) n n cs.toList := by
  refine ⟨by simpa using hn, Nat.le_refl _, fun j hj => ⟨w.heap.size, 0, rfl, ?_⟩⟩
  rw [(Bx.new w t cs).cell (0 + j)]
  simp
theorem new_src {tx e' : TypeId} (hk : P.underlying tx = some (.slice e')) (w : World) (cs : Array Value) (t : TypeId) (n : Nat) (hn : cs.size = n) (h1 : ∀ u ∈ cs.toList, u.oneCell' = true) :
    Src P 1 tx (.slice (some ⟨w.heap.size, 0, none⟩) n n) n cs.toList (w.alloc (.cells cs t)) := (new_rd w cs t n hn).src hk h1

theorem new_own (w : World) (t : TypeId) : Ow w.heap.size (w.alloc (.cells #[] t)) t (some ⟨w.heap.size, 0, none⟩) 0 0 [] :=
  ⟨World.ownsRow_made w #[] 0 (Nat.le_refl _) (by simp [maxLen]) rfl⟩
theorem new_own' (w : World) (t : TypeId) (k : Nat) (hk : w.heap.size = k) : Ow k (w.alloc (.cells #[] t)) t (some ⟨k, 0, none⟩) 0 0 [] := by
  subst hk
  exact new_own w t
theorem Ow.drew {B : Nat} {w : World} {e : TypeId} {a : Option Addr} {n c : Nat} {xs : List Value} (h : Ow B w e a n c xs) : Ow B w.drew e a n c xs := h.keep0 (gb_drew (gb_refl w))
theorem new_own1 (w : World) (t : TypeId) (cs : Array Value) (n : Nat) (hn : cs.size = n) (hm : n ≤ maxLen) : Ow w.heap.size (w.alloc (.cells cs t)) t (some ⟨w.heap.size, 0, none⟩) n n cs.toList :=
  ⟨World.ownsRow_lit w cs n (Nat.le_refl _) hm (by omega)⟩

/-- append of whatever source onto a slice that the call owns -/
theorem run_app (B : Nat) (t tx ty e : TypeId) (i : TypeInfo) (z : Value) (bytes : Nat) (ht : P.underlying t = some (.slice e)) (hi : P.info? e = some i) (hz : i.zero = some z)
    (hsize : i.size = 1) (hby : i.bytes = bytes) (hzs : z.cells.size = 1)
    (a : Option Addr) (n c : Nat) (xs : List Value) (hown : Ow B w e a n c xs) (x : Value) (m : Nat) (news : List Value) (hs : Src P 1 tx x m news w)
    (h63 : n + m ≤ maxLen) (hbytes : (n + m) * bytes ≤ 140737488355328) (hbase : B ≤ w.heap.size) :
    ∃ a' c' w', (Builtin.append_ #[t, tx] ty #[.slice a n c, x]).run P w = .ok (.slice a' (n + m) c') w' ∧ Ow B w' e a' (n + m) c' (xs ++ news) ∧ w.grownBy w' (a.map (·.block)) ∧ (∀ p, a' = some p → (∃ q, a = some q ∧ q.block = p.block) ∨ w.heap.size ≤ p.block) ∧ (∀ p, a = some p → ∀ k, k < n → w'.cell? ⟨p.block, k, none⟩ = w.cell? ⟨p.block, k, none⟩) := by
  have hnl : news.length = m := by have := hs.newsLen; omega
  have hxl := hown.len
  have hs' : Src P i.size tx x m news w := by rw [hsize]; exact hs
  have grown : ∀ (cp : Nat), n + m ≤ cp → cp ≤ maxLen → 
      Ow B (w.drew.alloc (.cells ((xs ++ news).toArray ++ Builtin.zeroCells z.cells (cp - (n + m))) e)) e (some ⟨w.heap.size, 0, none⟩) (n + m) cp (xs ++ news) := by
    intro cp hcp hm
    refine ⟨by simp; omega, .inr ⟨w.heap.size, cp, _, rfl, hbase, heap_alloc_new w.drew _, hcp, hm, ?_, ?_⟩⟩
    · simp [size_zeroCells, hzs]; omega
    · have hl : (xs ++ news).length = n + m := by rw [List.length_append, hxl, hnl]
      rw [Nat.mul_one, Array.toList_append, List.take_append_of_le_length (by rw [← hl]; simp), ← hl]
      exact List.take_of_length_le (by simp)
  rcases hown.own.2 with ⟨hv, hn⟩ | ⟨g, cap, cur, hv, hb, hg, hle, hm, hsz, htk⟩
  · simp only [Value.slice.injEq] at hv
    obtain ⟨rfl, _, rfl⟩ := hv
    subst hn
    obtain rfl : xs = [] := by cases xs <;> simp_all
    by_cases hm0 : m = 0
    · subst hm0
      obtain rfl : news = [] := by cases news <;> simp_all
      refine ⟨none, 0, w, ?_, Ow.nil B w e, gb_refl w, by simp, by simp⟩
      have hcl := hs.cells
      rcases hs.kind with ⟨e', hk⟩ | hk <;> simp [Builtin.append_, run_underlying ht, run_underlying hk, sizeOf, typeInfo, hi, hsize, hs.len, hcl]
    · have hr := run_append_grow_src (P := P) w t tx ty e i z ht hi hz none 0 0 [] (by simp [Builtin.firstCells]) x m news hs' (by omega) (by simp only [maxLen] at h63; omega) (growslice_fits (by omega) (by rw [hby]; exact hbytes))
      refine ⟨_, _, _, hr, ?_, gb_alloc (gb_drew (gb_refl w)) _, ?_, by simp⟩
      · have := grown (grownCap w (0 + m) 0 e) (grownCap_ge _ _ _ _) (grownCap_le_maxLen _ _ _ _ h63)
        exact this
      · rintro p hp
        simp only [Option.some.injEq] at hp
        subst hp
        exact .inr (Nat.le_refl _)
  · simp only [Value.slice.injEq] at hv
    obtain ⟨rfl, _, rfl⟩ := hv
    by_cases hroom : n + m ≤ c
    · have hcell : ∀ j, j < news.length → (w.cell? ⟨g, 0 + n * i.size + j, none⟩).isSome = true := by
        intro j hj
        rw [cell_of_row w g _ cur e (0, 0) hg, hsize, Array.getElem?_eq_getElem (by omega)]
        rfl
      have hr := run_append_room_src (P := P) w t tx ty e i ht hi g 0 n c x m news hs' hroom hcell (fun j _ => frozen_of_row w g _ cur e hg)
      refine ⟨_, _, _, hr, ⟨by simp; omega, .inr ⟨g, c, _, rfl, hb, heap_setCells g e _ _ w cur hg, hroom, hm, by rw [putAll_size]; exact hsz, ?_⟩⟩, gb_setCells g _ _ w, fun p hp => .inl ⟨_, rfl, by simp at hp; subst hp; rfl⟩, fun p hp k hk => by
        simp only [Option.some.injEq] at hp
        subst hp
        rw [cell_of_row _ g k _ e (0, 0) (heap_setCells g e _ _ w cur hg), cell_of_row w g k cur e (0, 0) hg]
        exact putAll_old _ _ _ k (by rw [hsize]; omega)⟩
      rw [hsize, Nat.mul_one, Nat.mul_one, Nat.zero_add, ← hnl, putAll_take _ _ _ (by omega), ← htk, Nat.mul_one]
    · have hold : (Builtin.firstCells i.size n (.slice (some ⟨g, 0, none⟩) n c)).run P w.drew = .ok xs.toArray w.drew := by
        rw [hsize]
        refine run_firstCells_some w.drew 1 n ⟨g, 0, none⟩ n c xs (by omega) (fun j u hu => ?_)
        have hj := (List.getElem?_eq_some_iff.1 hu).1
        rw [Addr.add_lit]
        show w.cell? _ = _
        rw [cell_of_row w g (0 + j) cur e (0, 0) hg, ← hu, ← htk]
        simp [List.getElem?_take]; omega
      have hr := run_append_grow_src (P := P) w t tx ty e i z ht hi hz (some ⟨g, 0, none⟩) n c xs hold x m news hs' (by omega) (by simp only [maxLen] at h63; omega) (growslice_fits (by omega) (by rw [hby]; exact hbytes))
      refine ⟨_, _, _, hr, grown _ (grownCap_ge _ _ _ _) (grownCap_le_maxLen _ _ _ _ h63), gb_alloc (gb_drew (gb_reflr w _)) _, ?_, fun p hp k hk => ?_⟩
      · rintro p hp
        simp only [Option.some.injEq] at hp
        subst hp
        exact .inr (Nat.le_refl _)
      · simp only [Option.some.injEq] at hp
        subst hp
        exact (gb_cells (gb_alloc (gb_drew (gb_refl w)) _)).1 g k (Array.getElem?_eq_some_iff.1 hg).1

theorem wp_app {o : Oper} {ac : Act} {K : Act → World → Prop} {Q : Exit → Act → World → Prop} (s x : Operand) (t tx : TypeId)
    (ho : o.op = .call { callee := .builtin .append, args := #[s, x], argTypes := #[t, tx] })
    (B : Nat) (e : TypeId) (i : TypeInfo) (z : Value) (bytes : Nat) (ht : P.underlying t = some (.slice e)) (hi : P.info? e = some i) (hz : i.zero = some z)
    (hsize : i.size = 1) (hby : i.bytes = bytes) (hzs : z.cells.size = 1)
    (a : Option Addr) (n c : Nat) (xs : List Value) (hse : ac.eval s = .slice a n c) (hown : Ow B w e a n c xs) (xv : Value) (hx : ac.eval x = xv) (m : Nat) (news : List Value) (hs : Src P 1 tx xv m news w)
    (h63 : n + m ≤ maxLen) (hbytes : (n + m) * bytes ≤ 140737488355328) (hbase : B ≤ w.heap.size)
    (h : ∀ a' c' w', Ow B w' e a' (n + m) c' (xs ++ news) → w.grownBy w' (a.map (·.block)) → (∀ p, a' = some p → (∃ q, a = some q ∧ q.block = p.block) ∨ w.heap.size ≤ p.block) → K (ac.put o.dst (.slice a' (n + m) c')) w') : o.wp P ac w K Q := by
  obtain ⟨a', c', w', hr, h2, h3, h4, -⟩ := run_app (P := P) (w := w) B t tx o.type e i z bytes ht hi hz hsize hby hzs a n c xs hown xv m news hs h63 hbytes hbase
  unfold Oper.wp execOp
  simp only [ho, resolve, invoke, builtin, Sem.run_bind, Sem.run_pure, Result.andThen_ok, List.map_toArray, List.map_cons, List.map_nil, hse, hx, hr]
  exact h a' c' w' h2 h3 h4

theorem wpList_app {ops : Array Oper} {rest : List Oper} {o : Oper} {ac : Act} {Q : Exit → Act → World → Prop} (hgd : o.guard = none) (s x : Operand) (t tx : TypeId)
    (ho : o.op = .call { callee := .builtin .append, args := #[s, x], argTypes := #[t, tx] })
    (B : Nat) (e : TypeId) (i : TypeInfo) (z : Value) (bytes : Nat) (ht : P.underlying t = some (.slice e)) (hi : P.info? e = some i) (hz : i.zero = some z)
    (hsize : i.size = 1) (hby : i.bytes = bytes) (hzs : z.cells.size = 1)
    (a : Option Addr) (n c : Nat) (xs : List Value) (hse : ac.eval s = .slice a n c) (hown : Ow B w e a n c xs) (xv : Value) (hx : ac.eval x = xv) (m : Nat) (news : List Value) (hs : Src P 1 tx xv m news w)
    (h63 : n + m ≤ maxLen) (hbytes : (n + m) * bytes ≤ 140737488355328) (hbase : B ≤ w.heap.size)
    (h : ∀ a' c' w', Ow B w' e a' (n + m) c' (xs ++ news) → w.grownBy w' (a.map (·.block)) → (∀ p, a' = some p → (∃ q, a = some q ∧ q.block = p.block) ∨ w.heap.size ≤ p.block) → wpList P ops Q rest (ac.put o.dst (.slice a' (n + m) c')) w') : wpList P ops Q (o :: rest) ac w :=
  wpList_plain hgd fun _ hK => wp_app s x t tx ho B e i z bytes ht hi hz hsize hby hzs a n c xs hse hown xv hx m news hs h63 hbytes hbase fun a' c' w' h2 h3 h4 => hK _ _ (h a' c' w' h2 h3 h4)

/-- .. inside a region that draws its order -/
theorem step_app {ops : Array Oper} {o : Oper} {ac : Act} {K : Act → World → Prop} {Q : Exit → Act → World → Prop} {E : Prop} (hgd : o.guard = none) (s x : Operand) (t tx : TypeId)
    (ho : o.op = .call { callee := .builtin .append, args := #[s, x], argTypes := #[t, tx] })
    (B : Nat) (e : TypeId) (i : TypeInfo) (z : Value) (bytes : Nat) (ht : P.underlying t = some (.slice e)) (hi : P.info? e = some i) (hz : i.zero = some z)
    (hsize : i.size = 1) (hby : i.bytes = bytes) (hzs : z.cells.size = 1)
    (a : Option Addr) (n c : Nat) (xs : List Value) (hse : ac.eval s = .slice a n c) (hown : Ow B w e a n c xs) (xv : Value) (hx : ac.eval x = xv) (m : Nat) (news : List Value) (hs : Src P 1 tx xv m news w)
    (h63 : n + m ≤ maxLen) (hbytes : (n + m) * bytes ≤ 140737488355328) (hbase : B ≤ w.heap.size)
    (h : ∀ a' c' w', Ow B w' e a' (n + m) c' (xs ++ news) → w.grownBy w' (a.map (·.block)) → (∀ p, a' = some p → (∃ q, a = some q ∧ q.block = p.block) ∨ w.heap.size ≤ p.block) → K (ac.put o.dst (.slice a' (n + m) c')) w') :
    if Region.wanted o (yielded ops ac.tmps) = true then Oper.wp P o ac w K Q else E := by
  have hw : Region.wanted o (yielded ops ac.tmps) = true := by simp [Region.wanted, hgd]
  rw [if_pos hw]
  exact wp_app s x t tx ho B e i z bytes ht hi hz hsize hby hzs a n c xs hse hown xv hx m news hs h63 hbytes hbase h

theorem Rd.sub {a : Option Addr} {n c : Nat} {xs : List Value} (hrd : Rd w a n c xs) (l h : Nat) (hlh : l ≤ h) (hhn : h ≤ n) :
    Rd w (if c = l then a else a.map (·.add (l * 1))) (h - l) (c - l) ((xs.take h).drop l) := by
  have hle := hrd.le
  refine ⟨by simp [hrd.len]; omega, by omega, fun j hj => ?_⟩
  obtain ⟨b, off, rfl, _, hc⟩ := hrd.pos (by omega)
  refine ⟨b, off + l, ?_, ?_⟩
  · rw [if_neg (by omega)]
    simp [Addr.add_lit]
  · rw [Nat.add_assoc, hc (l + j) (by omega), List.getElem?_drop, List.getElem?_take, if_pos (by omega)]

/-- slicing x[lo:hi] of a slice that reads -/
theorem run_sl (t e : TypeId) (i : TypeInfo) (ht : P.underlying t = some (.slice e)) (hi' : P.info? e = some i) (hsize : i.size = 1)
    (a : Option Addr) (n c : Nat) (l h : Nat) (lo hi : Option Value) (hlo : (∃ k : IntKind, lo = some (.int k (l : Int))) ∨ (lo = none ∧ l = 0)) (hhi : (∃ k : IntKind, hi = some (.int k (h : Int))) ∨ (hi = none ∧ h = n)) (hlh : l ≤ h) (hhc : h ≤ c) :
    (Instr.sliceAt t (.slice a n c) lo hi none).run P w = .ok (.slice (if c = l then a else a.map (·.add (l * 1))) (h - l) (c - l)) w := by
  have b1 : ∀ (k : IntKind) (code : BoundsCode), (Instr.sliceBound (.int k (l : Int)) h code).run P w = .ok l w := fun k code => by
    simp [Instr.sliceBound, asIntOf, hlh]
  have b2 : ∀ (k : IntKind) (code : BoundsCode), (Instr.sliceBound (.int k (h : Int)) c code).run P w = .ok h w := fun k code => by
    simp [Instr.sliceBound, asIntOf, hhc]
  have hbb : (Instr.sliceBounds true n c lo hi none).run P w = .ok (l, h, c) w := by
    rcases hlo with ⟨k, rfl⟩ | ⟨rfl, rfl⟩ <;> rcases hhi with ⟨k', rfl⟩ | ⟨rfl, rfl⟩ <;> simp [Instr.sliceBounds, b1, b2]
  simp only [Instr.sliceAt, Instr.slice, Sem.run_bind, run_underlying ht, Result.andThen_ok, hbb, sizeOf, typeInfo]
  simp [hsize, hi']

theorem wpList_sl {ops : Array Oper} {rest : List Oper} {o : Oper} {ac : Act} {Q : Exit → Act → World → Prop} (hgd : o.guard = none) (x : Operand) (lo hi : Option Operand) (t e : TypeId)
    (ho : o.op = .slice t x lo hi none) (i : TypeInfo) (ht : P.underlying t = some (.slice e)) (hi' : P.info? e = some i) (hsize : i.size = 1)
    (a : Option Addr) (n c : Nat) (xs : List Value) (hx : ac.eval x = .slice a n c) (hrd : Rd w a n c xs) (l h : Nat)
    (hlo : (∃ k : IntKind, lo.map ac.eval = some (.int k (l : Int))) ∨ (lo.map ac.eval = none ∧ l = 0)) (hhi : (∃ k : IntKind, hi.map ac.eval = some (.int k (h : Int))) ∨ (hi.map ac.eval = none ∧ h = n)) (hlh : l ≤ h) (hhn : h ≤ n)
    (hk : ∀ a' c', c' ≤ c → Rd w a' (h - l) c' ((xs.take h).drop l) → (∀ p, a' = some p → ∃ q, a = some q ∧ q.block = p.block) → wpList P ops Q rest (ac.put o.dst (.slice a' (h - l) c')) w) : wpList P ops Q (o :: rest) ac w := by
  have hr := run_sl (P := P) (w := w) t e i ht hi' hsize a n c l h (lo.map ac.eval) (hi.map ac.eval) hlo hhi hlh (by have := hrd.le; omega)
  refine wpList_plain hgd fun _ hK => ?_
  unfold Oper.wp execOp
  simp only [ho, Sem.run_bind, Sem.run_pure, Option.map_none, hx, hr, Result.andThen_ok]
  refine hK _ _ (hk _ _ (by omega) (hrd.sub l h hlh hhn) ?_)
  intro p hp
  split at hp
  · exact ⟨p, hp, rfl⟩
  · cases a with
    | none => cases hp
    | some q =>
      simp only [Option.map_some, Option.some.injEq] at hp
      subst hp
      refine ⟨q, rfl, ?_⟩
      unfold Addr.add
      split <;> rfl

theorem wpList_mk {ops : Array Oper} {rest : List Oper} {o : Oper} {ac : Act} {Q : Exit → Act → World → Prop} (hgd : o.guard = none) (x y : Operand) (t : TypeId)
    (ho : o.op = .makeSlice t x y) (e : TypeId) (i : TypeInfo) (z : Value) (bytes : Nat) (ht : P.underlying t = some (.slice e)) (hi : P.info? e = some i) (hz : i.zero = some z)
    (hsize : i.size = 1) (hby : i.bytes = bytes) (hzs : z.cells = #[z]) (n : Nat) (kx ky : IntKind) (hx : ac.eval x = .int kx (n : Int)) (hy : ac.eval y = .int ky (n : Int))
    (h63 : n ≤ maxLen) (hbytes : bytes * n ≤ 281474976710656)
    (h : ∀ w', Ow w.heap.size w' e (some ⟨w.heap.size, 0, none⟩) n n (List.replicate n z) → w.grownBy w' none → wpList P ops Q rest (ac.put o.dst (.slice (some ⟨w.heap.size, 0, none⟩) n n)) w') : wpList P ops Q (o :: rest) ac w := by
  refine wpList_plain hgd fun _ hK => ?_
  obtain ⟨w', hr, h2, h3⟩ := run_make_full (P := P) w w.heap.size t e i z 1 ht hi hz hsize kx ky n (by rw [hby]; exact hbytes) h63 (Nat.le_refl _)
  unfold Oper.wp execOp
  simp only [ho, Sem.run_bind, Sem.run_pure, Result.andThen_ok, hx, hy, hr]
  refine hK _ _ (h w' ⟨?_⟩ h3)
  rw [hzs, Nat.mul_one, toList_madeCells_one] at h2
  exact h2
end
end Go.Proofs.YtpfchphgbhgmmaaGreat
