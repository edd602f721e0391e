/-
  Contracts of the laws' own helpers over structs: copies, sizes, comparisons, marks; written by pattern. Conditions: none beside those that each theorem names.
-/
import Derived.Test.YtpfchphgbhgmmaaGreatHelp
namespace Go.Proofs.YtpfchphgbhgmmaaGreat
open Go.RowKit
/-- two slices lie in different blocks -/
def dj (a b : Option Addr) : Prop := ∀ p q, a = some p → b = some q → p.block ≠ q.block
theorem dj_of {a b : Option Addr} {m : Nat} (ha : ∀ p, a = some p → p.block < m) (hb : ∀ p, b = some p → m ≤ p.block) : dj a b := fun p q hp hq => by
  have := ha p hp
  have := hb q hq
  omega
theorem dj.ne {a b : Option Addr} (h : dj a b) : ∀ p, b = some p → some p.block ≠ a.map (·.block) := by
  intro p hp e
  cases a with
  | none => cases e
  | some q => exact h q p rfl hp (by simpa using e.symm)
theorem dj.symm {a b : Option Addr} (h : dj a b) : dj b a := fun p q hp hq e => h q p hq hp e.symm
theorem row_of {a : Option Addr} {g : Nat} (h : a.map (·.block) = some g) : ∃ p, a = some p ∧ p.block = g := by
  cases a with
  | none => cases h
  | some p => exact ⟨p, rfl, by simpa using h⟩

structure JarM where
  secret : List UInt8

/-- a value reads as this record -/
def JarR (w : World) (v : Value) (f : JarM) : Prop := ∃ a1 n1 c1, v = .agg #[.slice a1 n1 c1] ∧ Rd w a1 n1 c1 (bys f.secret)
/-- .. and its slices are the call's own, in blocks from B to below S, no two in one block -/
def JarO (B S : Nat) (w : World) (v : Value) (f : JarM) : Prop := ∃ a1 n1 c1, v = .agg #[.slice a1 n1 c1] ∧ (Ow B w 5 a1 n1 c1 (bys f.secret) ∧ ∀ p, a1 = some p → p.block < S)
theorem JarO.r {B S : Nat} {w : World} {v : Value} {f : JarM} (h : JarO B S w v f) : JarR w v f := by
  obtain ⟨a1, n1, c1, rfl, ⟨o1, u1⟩⟩ := h
  exact ⟨_, _, _, rfl, o1.rd⟩
theorem JarR.keep0 {w w' : World} {v : Value} {f : JarM} (h : JarR w v f) (hg : w.grownBy w' none) : JarR w' v f := by
  obtain ⟨a1, n1, c1, rfl, h1⟩ := h
  exact ⟨_, _, _, rfl, h1.keep0 hg⟩
theorem JarO.keep0 {B S : Nat} {w w' : World} {v : Value} {f : JarM} (h : JarO B S w v f) (hg : w.grownBy w' none) : JarO B S w' v f := by
  obtain ⟨a1, n1, c1, rfl, ⟨o1, u1⟩⟩ := h
  exact ⟨_, _, _, rfl, ⟨o1.keep0 hg, u1⟩⟩
theorem JarO.keepI {B S B2 S2 : Nat} {w w' : World} {v : Value} {f : JarM} (h : JarO B S w v f) (hg : gbI B2 S2 w w') (hn : S ≤ B2 ∨ S2 ≤ B) : JarO B S w' v f := by
  obtain ⟨a1, n1, c1, rfl, ⟨o1, u1⟩⟩ := h
  exact ⟨_, _, _, rfl, ⟨o1.keepI hg (fun p hp => by have := u1 p hp; have := (o1.lt p hp).1; omega), u1⟩⟩
theorem JarR.shape {w : World} {v : Value} {f : JarM} (h : JarR w v f) : ∃ a1 n1 c1, v = .agg #[.slice a1 n1 c1] := by
  obtain ⟨a1, n1, c1, rfl, _⟩ := h
  exact ⟨_, _, _, rfl⟩
theorem JarR.below {w w' : World} {v : Value} {f : JarM} (h : JarR w v f) (hb : Below w.heap.size w w') : JarR w' v f := h.keep0 (below_gb hb)
theorem JarR.agg {w : World} {v : Value} {f : JarM} (h : JarR w v f) : ∃ cs : Array Value, v = .agg cs ∧ cs.size = 1 ∧ ∀ u ∈ cs, u.oneCell' = true := by
  obtain ⟨a1, n1, c1, rfl, -⟩ := h
  exact ⟨_, rfl, rfl, by simp [Value.oneCell']⟩
structure JarL (f : JarM) : Prop where
  len1 : f.secret.length ≤ 9223372036854775807
theorem JarO.low {B B' S : Nat} {w : World} {v : Value} {f : JarM} (h : JarO B S w v f) (hB : B' ≤ B) : JarO B' S w v f := by
  obtain ⟨a1, n1, c1, rfl, ⟨o1, u1⟩⟩ := h
  exact ⟨_, _, _, rfl, ⟨o1.mono hB, u1⟩⟩
def JarM.tot (f : JarM) : Nat := f.secret.length
def JarM.mark (k : Nat) (f : JarM) : JarM := { f with secret := markB (k) f.secret.length }
structure AddrM where
  host : Int
  port : Int

/-- a value reads as this record -/
def AddrR (_w : World) (v : Value) (f : AddrM) : Prop := v = .agg #[.int .i64 f.host, .int .i64 f.port]
theorem AddrR.agg {w : World} {v : Value} {f : AddrM} (h : AddrR w v f) : ∃ cs : Array Value, v = .agg cs ∧ cs.size = 2 ∧ ∀ u ∈ cs, u.oneCell' = true := by
  obtain rfl := h
  exact ⟨_, rfl, rfl, by simp [Value.oneCell']⟩
structure AddrL (f : AddrM) : Prop where
  int1 : I64 f.host
  int2 : I64 f.port
structure DiceM where
  seed : List UInt8
  n : Int

/-- a value reads as this record -/
def DiceR (w : World) (v : Value) (f : DiceM) : Prop := ∃ a1 n1 c1, v = .agg #[.slice a1 n1 c1, .int .i64 f.n] ∧ Rd w a1 n1 c1 (bys f.seed)
/-- .. and its slices are the call's own, in blocks from B to below S, no two in one block -/
def DiceO (B S : Nat) (w : World) (v : Value) (f : DiceM) : Prop := ∃ a1 n1 c1, v = .agg #[.slice a1 n1 c1, .int .i64 f.n] ∧ (Ow B w 5 a1 n1 c1 (bys f.seed) ∧ ∀ p, a1 = some p → p.block < S)
theorem DiceO.r {B S : Nat} {w : World} {v : Value} {f : DiceM} (h : DiceO B S w v f) : DiceR w v f := by
  obtain ⟨a1, n1, c1, rfl, ⟨o1, u1⟩⟩ := h
  exact ⟨_, _, _, rfl, o1.rd⟩
theorem DiceR.keep0 {w w' : World} {v : Value} {f : DiceM} (h : DiceR w v f) (hg : w.grownBy w' none) : DiceR w' v f := by
  obtain ⟨a1, n1, c1, rfl, h1⟩ := h
  exact ⟨_, _, _, rfl, h1.keep0 hg⟩
theorem DiceO.keep0 {B S : Nat} {w w' : World} {v : Value} {f : DiceM} (h : DiceO B S w v f) (hg : w.grownBy w' none) : DiceO B S w' v f := by
  obtain ⟨a1, n1, c1, rfl, ⟨o1, u1⟩⟩ := h
  exact ⟨_, _, _, rfl, ⟨o1.keep0 hg, u1⟩⟩
theorem DiceO.keepI {B S B2 S2 : Nat} {w w' : World} {v : Value} {f : DiceM} (h : DiceO B S w v f) (hg : gbI B2 S2 w w') (hn : S ≤ B2 ∨ S2 ≤ B) : DiceO B S w' v f := by
  obtain ⟨a1, n1, c1, rfl, ⟨o1, u1⟩⟩ := h
  exact ⟨_, _, _, rfl, ⟨o1.keepI hg (fun p hp => by have := u1 p hp; have := (o1.lt p hp).1; omega), u1⟩⟩
theorem DiceR.shape {w : World} {v : Value} {f : DiceM} (h : DiceR w v f) : ∃ a1 n1 c1, v = .agg #[.slice a1 n1 c1, .int .i64 f.n] := by
  obtain ⟨a1, n1, c1, rfl, _⟩ := h
  exact ⟨_, _, _, rfl⟩
theorem DiceR.below {w w' : World} {v : Value} {f : DiceM} (h : DiceR w v f) (hb : Below w.heap.size w w') : DiceR w' v f := h.keep0 (below_gb hb)
theorem DiceR.agg {w : World} {v : Value} {f : DiceM} (h : DiceR w v f) : ∃ cs : Array Value, v = .agg cs ∧ cs.size = 2 ∧ ∀ u ∈ cs, u.oneCell' = true := by
  obtain ⟨a1, n1, c1, rfl, -⟩ := h
  exact ⟨_, rfl, rfl, by simp [Value.oneCell']⟩
structure DiceL (f : DiceM) : Prop where
  len1 : f.seed.length ≤ 9223372036854775807
  int1 : I64 f.n
theorem DiceO.low {B B' S : Nat} {w : World} {v : Value} {f : DiceM} (h : DiceO B S w v f) (hB : B' ≤ B) : DiceO B' S w v f := by
  obtain ⟨a1, n1, c1, rfl, ⟨o1, u1⟩⟩ := h
  exact ⟨_, _, _, rfl, ⟨o1.mono hB, u1⟩⟩
def DiceM.tot (f : DiceM) : Nat := f.seed.length
def DiceM.mark (k : Nat) (f : DiceM) : DiceM := { f with seed := markB (k) f.seed.length }
structure WinM where
  top : Int
  bits : List Int

/-- a value reads as this record -/
def WinR (w : World) (v : Value) (f : WinM) : Prop := ∃ a1 n1 c1, v = .agg #[.int .i64 f.top, .slice a1 n1 c1] ∧ Rd w a1 n1 c1 (ins f.bits)
/-- .. and its slices are the call's own, in blocks from B to below S, no two in one block -/
def WinO (B S : Nat) (w : World) (v : Value) (f : WinM) : Prop := ∃ a1 n1 c1, v = .agg #[.int .i64 f.top, .slice a1 n1 c1] ∧ (Ow B w 3 a1 n1 c1 (ins f.bits) ∧ ∀ p, a1 = some p → p.block < S)
theorem WinO.r {B S : Nat} {w : World} {v : Value} {f : WinM} (h : WinO B S w v f) : WinR w v f := by
  obtain ⟨a1, n1, c1, rfl, ⟨o1, u1⟩⟩ := h
  exact ⟨_, _, _, rfl, o1.rd⟩
theorem WinR.keep0 {w w' : World} {v : Value} {f : WinM} (h : WinR w v f) (hg : w.grownBy w' none) : WinR w' v f := by
  obtain ⟨a1, n1, c1, rfl, h1⟩ := h
  exact ⟨_, _, _, rfl, h1.keep0 hg⟩
theorem WinO.keep0 {B S : Nat} {w w' : World} {v : Value} {f : WinM} (h : WinO B S w v f) (hg : w.grownBy w' none) : WinO B S w' v f := by
  obtain ⟨a1, n1, c1, rfl, ⟨o1, u1⟩⟩ := h
  exact ⟨_, _, _, rfl, ⟨o1.keep0 hg, u1⟩⟩
theorem WinO.keepI {B S B2 S2 : Nat} {w w' : World} {v : Value} {f : WinM} (h : WinO B S w v f) (hg : gbI B2 S2 w w') (hn : S ≤ B2 ∨ S2 ≤ B) : WinO B S w' v f := by
  obtain ⟨a1, n1, c1, rfl, ⟨o1, u1⟩⟩ := h
  exact ⟨_, _, _, rfl, ⟨o1.keepI hg (fun p hp => by have := u1 p hp; have := (o1.lt p hp).1; omega), u1⟩⟩
theorem WinR.shape {w : World} {v : Value} {f : WinM} (h : WinR w v f) : ∃ a1 n1 c1, v = .agg #[.int .i64 f.top, .slice a1 n1 c1] := by
  obtain ⟨a1, n1, c1, rfl, _⟩ := h
  exact ⟨_, _, _, rfl⟩
theorem WinR.below {w w' : World} {v : Value} {f : WinM} (h : WinR w v f) (hb : Below w.heap.size w w') : WinR w' v f := h.keep0 (below_gb hb)
theorem WinR.agg {w : World} {v : Value} {f : WinM} (h : WinR w v f) : ∃ cs : Array Value, v = .agg cs ∧ cs.size = 2 ∧ ∀ u ∈ cs, u.oneCell' = true := by
  obtain ⟨a1, n1, c1, rfl, -⟩ := h
  exact ⟨_, rfl, rfl, by simp [Value.oneCell']⟩
structure WinL (f : WinM) : Prop where
  int1 : I64 f.top
  len1 : f.bits.length ≤ 9223372036854775807
theorem WinO.low {B B' S : Nat} {w : World} {v : Value} {f : WinM} (h : WinO B S w v f) (hB : B' ≤ B) : WinO B' S w v f := by
  obtain ⟨a1, n1, c1, rfl, ⟨o1, u1⟩⟩ := h
  exact ⟨_, _, _, rfl, ⟨o1.mono hB, u1⟩⟩
def WinM.tot (f : WinM) : Nat := f.bits.length
def WinM.mark (k : Nat) (f : WinM) : WinM := { f with bits := markZ (k) f.bits.length }
structure EpM where
  n : Int
  key : List UInt8
  seq : Int
  win : WinM

/-- a value reads as this record -/
def EpR (w : World) (v : Value) (f : EpM) : Prop := ∃ a1 n1 c1 a2 n2 c2, v = .agg #[.int .i64 f.n, .slice a1 n1 c1, .int .i64 f.seq, .int .i64 f.win.top, .slice a2 n2 c2] ∧ Rd w a1 n1 c1 (bys f.key) ∧ Rd w a2 n2 c2 (ins f.win.bits)
/-- .. and its slices are the call's own, in blocks from B to below S, no two in one block -/
def EpO (B S : Nat) (w : World) (v : Value) (f : EpM) : Prop := ∃ a1 n1 c1 a2 n2 c2, v = .agg #[.int .i64 f.n, .slice a1 n1 c1, .int .i64 f.seq, .int .i64 f.win.top, .slice a2 n2 c2] ∧ (Ow B w 5 a1 n1 c1 (bys f.key) ∧ ∀ p, a1 = some p → p.block < S) ∧ (Ow B w 3 a2 n2 c2 (ins f.win.bits) ∧ ∀ p, a2 = some p → p.block < S) ∧ dj a1 a2
theorem EpO.r {B S : Nat} {w : World} {v : Value} {f : EpM} (h : EpO B S w v f) : EpR w v f := by
  obtain ⟨a1, n1, c1, a2, n2, c2, rfl, ⟨o1, u1⟩, ⟨o2, u2⟩, d12⟩ := h
  exact ⟨_, _, _, _, _, _, rfl, o1.rd, o2.rd⟩
theorem EpR.keep0 {w w' : World} {v : Value} {f : EpM} (h : EpR w v f) (hg : w.grownBy w' none) : EpR w' v f := by
  obtain ⟨a1, n1, c1, a2, n2, c2, rfl, h1, h2⟩ := h
  exact ⟨_, _, _, _, _, _, rfl, h1.keep0 hg, h2.keep0 hg⟩
theorem EpO.keep0 {B S : Nat} {w w' : World} {v : Value} {f : EpM} (h : EpO B S w v f) (hg : w.grownBy w' none) : EpO B S w' v f := by
  obtain ⟨a1, n1, c1, a2, n2, c2, rfl, ⟨o1, u1⟩, ⟨o2, u2⟩, d12⟩ := h
  exact ⟨_, _, _, _, _, _, rfl, ⟨o1.keep0 hg, u1⟩, ⟨o2.keep0 hg, u2⟩, d12⟩
theorem EpO.keepI {B S B2 S2 : Nat} {w w' : World} {v : Value} {f : EpM} (h : EpO B S w v f) (hg : gbI B2 S2 w w') (hn : S ≤ B2 ∨ S2 ≤ B) : EpO B S w' v f := by
  obtain ⟨a1, n1, c1, a2, n2, c2, rfl, ⟨o1, u1⟩, ⟨o2, u2⟩, d12⟩ := h
  exact ⟨_, _, _, _, _, _, rfl, ⟨o1.keepI hg (fun p hp => by have := u1 p hp; have := (o1.lt p hp).1; omega), u1⟩, ⟨o2.keepI hg (fun p hp => by have := u2 p hp; have := (o2.lt p hp).1; omega), u2⟩, d12⟩
theorem EpR.shape {w : World} {v : Value} {f : EpM} (h : EpR w v f) : ∃ a1 n1 c1 a2 n2 c2, v = .agg #[.int .i64 f.n, .slice a1 n1 c1, .int .i64 f.seq, .int .i64 f.win.top, .slice a2 n2 c2] := by
  obtain ⟨a1, n1, c1, a2, n2, c2, rfl, _⟩ := h
  exact ⟨_, _, _, _, _, _, rfl⟩
theorem EpR.below {w w' : World} {v : Value} {f : EpM} (h : EpR w v f) (hb : Below w.heap.size w w') : EpR w' v f := h.keep0 (below_gb hb)
theorem EpR.agg {w : World} {v : Value} {f : EpM} (h : EpR w v f) : ∃ cs : Array Value, v = .agg cs ∧ cs.size = 5 ∧ ∀ u ∈ cs, u.oneCell' = true := by
  obtain ⟨a1, n1, c1, a2, n2, c2, rfl, -, -⟩ := h
  exact ⟨_, rfl, rfl, by simp [Value.oneCell']⟩
structure EpL (f : EpM) : Prop where
  int1 : I64 f.n
  len1 : f.key.length ≤ 9223372036854775807
  int2 : I64 f.seq
  int3 : I64 f.win.top
  len2 : f.win.bits.length ≤ 9223372036854775807
theorem EpO.low {B B' S : Nat} {w : World} {v : Value} {f : EpM} (h : EpO B S w v f) (hB : B' ≤ B) : EpO B' S w v f := by
  obtain ⟨a1, n1, c1, a2, n2, c2, rfl, ⟨o1, u1⟩, ⟨o2, u2⟩, d12⟩ := h
  exact ⟨_, _, _, _, _, _, rfl, ⟨o1.mono hB, u1⟩, ⟨o2.mono hB, u2⟩, d12⟩
def EpM.tot (f : EpM) : Nat := f.key.length + f.win.bits.length
def EpM.mark (k : Nat) (f : EpM) : EpM := { f with key := markB (k) f.key.length, win := { f.win with bits := markZ (k + f.key.length) f.win.bits.length } }
structure FrameM where
  kind : Int
  id : Int
  cn : List UInt8
  sn : List UInt8
  tick : Int
  cookie : List UInt8
  proof : List UInt8
  epoch : Int
  seq : Int
  body : List UInt8
  tag : List UInt8

/-- a value reads as this record -/
def FrameR (w : World) (v : Value) (f : FrameM) : Prop := ∃ a1 n1 c1 a2 n2 c2 a3 n3 c3 a4 n4 c4 a5 n5 c5 a6 n6 c6, v = .agg #[.int .i64 f.kind, .int .i64 f.id, .slice a1 n1 c1, .slice a2 n2 c2, .int .i64 f.tick, .slice a3 n3 c3, .slice a4 n4 c4, .int .i64 f.epoch, .int .i64 f.seq, .slice a5 n5 c5, .slice a6 n6 c6] ∧ Rd w a1 n1 c1 (bys f.cn) ∧ Rd w a2 n2 c2 (bys f.sn) ∧ Rd w a3 n3 c3 (bys f.cookie) ∧ Rd w a4 n4 c4 (bys f.proof) ∧ Rd w a5 n5 c5 (bys f.body) ∧ Rd w a6 n6 c6 (bys f.tag)
/-- .. and its slices are the call's own, in blocks from B to below S, no two in one block -/
def FrameO (B S : Nat) (w : World) (v : Value) (f : FrameM) : Prop := ∃ a1 n1 c1 a2 n2 c2 a3 n3 c3 a4 n4 c4 a5 n5 c5 a6 n6 c6, v = .agg #[.int .i64 f.kind, .int .i64 f.id, .slice a1 n1 c1, .slice a2 n2 c2, .int .i64 f.tick, .slice a3 n3 c3, .slice a4 n4 c4, .int .i64 f.epoch, .int .i64 f.seq, .slice a5 n5 c5, .slice a6 n6 c6] ∧ (Ow B w 5 a1 n1 c1 (bys f.cn) ∧ ∀ p, a1 = some p → p.block < S) ∧ (Ow B w 5 a2 n2 c2 (bys f.sn) ∧ ∀ p, a2 = some p → p.block < S) ∧ (Ow B w 5 a3 n3 c3 (bys f.cookie) ∧ ∀ p, a3 = some p → p.block < S) ∧ (Ow B w 5 a4 n4 c4 (bys f.proof) ∧ ∀ p, a4 = some p → p.block < S) ∧ (Ow B w 5 a5 n5 c5 (bys f.body) ∧ ∀ p, a5 = some p → p.block < S) ∧ (Ow B w 5 a6 n6 c6 (bys f.tag) ∧ ∀ p, a6 = some p → p.block < S) ∧ dj a1 a2 ∧ dj a1 a3 ∧ dj a1 a4 ∧ dj a1 a5 ∧ dj a1 a6 ∧ dj a2 a3 ∧ dj a2 a4 ∧ dj a2 a5 ∧ dj a2 a6 ∧ dj a3 a4 ∧ dj a3 a5 ∧ dj a3 a6 ∧ dj a4 a5 ∧ dj a4 a6 ∧ dj a5 a6
theorem FrameO.r {B S : Nat} {w : World} {v : Value} {f : FrameM} (h : FrameO B S w v f) : FrameR w v f := by
  obtain ⟨a1, n1, c1, a2, n2, c2, a3, n3, c3, a4, n4, c4, a5, n5, c5, a6, n6, c6, rfl, ⟨o1, u1⟩, ⟨o2, u2⟩, ⟨o3, u3⟩, ⟨o4, u4⟩, ⟨o5, u5⟩, ⟨o6, u6⟩, d12, d13, d14, d15, d16, d23, d24, d25, d26, d34, d35, d36, d45, d46, d56⟩ := h
  exact ⟨_, _, _, _, _, _, _, _, _, _, _, _, _, _, _, _, _, _, rfl, o1.rd, o2.rd, o3.rd, o4.rd, o5.rd, o6.rd⟩
theorem FrameR.keep0 {w w' : World} {v : Value} {f : FrameM} (h : FrameR w v f) (hg : w.grownBy w' none) : FrameR w' v f := by
  obtain ⟨a1, n1, c1, a2, n2, c2, a3, n3, c3, a4, n4, c4, a5, n5, c5, a6, n6, c6, rfl, h1, h2, h3, h4, h5, h6⟩ := h
  exact ⟨_, _, _, _, _, _, _, _, _, _, _, _, _, _, _, _, _, _, rfl, h1.keep0 hg, h2.keep0 hg, h3.keep0 hg, h4.keep0 hg, h5.keep0 hg, h6.keep0 hg⟩
theorem FrameO.keep0 {B S : Nat} {w w' : World} {v : Value} {f : FrameM} (h : FrameO B S w v f) (hg : w.grownBy w' none) : FrameO B S w' v f := by
  obtain ⟨a1, n1, c1, a2, n2, c2, a3, n3, c3, a4, n4, c4, a5, n5, c5, a6, n6, c6, rfl, ⟨o1, u1⟩, ⟨o2, u2⟩, ⟨o3, u3⟩, ⟨o4, u4⟩, ⟨o5, u5⟩, ⟨o6, u6⟩, d12, d13, d14, d15, d16, d23, d24, d25, d26, d34, d35, d36, d45, d46, d56⟩ := h
  exact ⟨_, _, _, _, _, _, _, _, _, _, _, _, _, _, _, _, _, _, rfl, ⟨o1.keep0 hg, u1⟩, ⟨o2.keep0 hg, u2⟩, ⟨o3.keep0 hg, u3⟩, ⟨o4.keep0 hg, u4⟩, ⟨o5.keep0 hg, u5⟩, ⟨o6.keep0 hg, u6⟩, d12, d13, d14, d15, d16, d23, d24, d25, d26, d34, d35, d36, d45, d46, d56⟩
theorem FrameO.keepI {B S B2 S2 : Nat} {w w' : World} {v : Value} {f : FrameM} (h : FrameO B S w v f) (hg : gbI B2 S2 w w') (hn : S ≤ B2 ∨ S2 ≤ B) : FrameO B S w' v f := by
  obtain ⟨a1, n1, c1, a2, n2, c2, a3, n3, c3, a4, n4, c4, a5, n5, c5, a6, n6, c6, rfl, ⟨o1, u1⟩, ⟨o2, u2⟩, ⟨o3, u3⟩, ⟨o4, u4⟩, ⟨o5, u5⟩, ⟨o6, u6⟩, d12, d13, d14, d15, d16, d23, d24, d25, d26, d34, d35, d36, d45, d46, d56⟩ := h
  exact ⟨_, _, _, _, _, _, _, _, _, _, _, _, _, _, _, _, _, _, rfl, ⟨o1.keepI hg (fun p hp => by have := u1 p hp; have := (o1.lt p hp).1; omega), u1⟩, ⟨o2.keepI hg (fun p hp => by have := u2 p hp; have := (o2.lt p hp).1; omega), u2⟩, ⟨o3.keepI hg (fun p hp => by have := u3 p hp; have := (o3.lt p hp).1; omega), u3⟩, ⟨o4.keepI hg (fun p hp => by have := u4 p hp; have := (o4.lt p hp).1; omega), u4⟩, ⟨o5.keepI hg (fun p hp => by have := u5 p hp; have := (o5.lt p hp).1; omega), u5⟩, ⟨o6.keepI hg (fun p hp => by have := u6 p hp; have := (o6.lt p hp).1; omega), u6⟩, d12, d13, d14, d15, d16, d23, d24, d25, d26, d34, d35, d36, d45, d46, d56⟩
theorem FrameR.shape {w : World} {v : Value} {f : FrameM} (h : FrameR w v f) : ∃ a1 n1 c1 a2 n2 c2 a3 n3 c3 a4 n4 c4 a5 n5 c5 a6 n6 c6, v = .agg #[.int .i64 f.kind, .int .i64 f.id, .slice a1 n1 c1, .slice a2 n2 c2, .int .i64 f.tick, .slice a3 n3 c3, .slice a4 n4 c4, .int .i64 f.epoch, .int .i64 f.seq, .slice a5 n5 c5, .slice a6 n6 c6] := by
  obtain ⟨a1, n1, c1, a2, n2, c2, a3, n3, c3, a4, n4, c4, a5, n5, c5, a6, n6, c6, rfl, _⟩ := h
  exact ⟨_, _, _, _, _, _, _, _, _, _, _, _, _, _, _, _, _, _, rfl⟩
theorem FrameR.below {w w' : World} {v : Value} {f : FrameM} (h : FrameR w v f) (hb : Below w.heap.size w w') : FrameR w' v f := h.keep0 (below_gb hb)
theorem FrameR.agg {w : World} {v : Value} {f : FrameM} (h : FrameR w v f) : ∃ cs : Array Value, v = .agg cs ∧ cs.size = 11 ∧ ∀ u ∈ cs, u.oneCell' = true := by
  obtain ⟨a1, n1, c1, a2, n2, c2, a3, n3, c3, a4, n4, c4, a5, n5, c5, a6, n6, c6, rfl, -, -, -, -, -, -⟩ := h
  exact ⟨_, rfl, rfl, by simp [Value.oneCell']⟩
structure FrameL (f : FrameM) : Prop where
  int1 : I64 f.kind
  int2 : I64 f.id
  len1 : f.cn.length ≤ 9223372036854775807
  len2 : f.sn.length ≤ 9223372036854775807
  int3 : I64 f.tick
  len3 : f.cookie.length ≤ 9223372036854775807
  len4 : f.proof.length ≤ 9223372036854775807
  int4 : I64 f.epoch
  int5 : I64 f.seq
  len5 : f.body.length ≤ 9223372036854775807
  len6 : f.tag.length ≤ 9223372036854775807
theorem FrameO.low {B B' S : Nat} {w : World} {v : Value} {f : FrameM} (h : FrameO B S w v f) (hB : B' ≤ B) : FrameO B' S w v f := by
  obtain ⟨a1, n1, c1, a2, n2, c2, a3, n3, c3, a4, n4, c4, a5, n5, c5, a6, n6, c6, rfl, ⟨o1, u1⟩, ⟨o2, u2⟩, ⟨o3, u3⟩, ⟨o4, u4⟩, ⟨o5, u5⟩, ⟨o6, u6⟩, d12, d13, d14, d15, d16, d23, d24, d25, d26, d34, d35, d36, d45, d46, d56⟩ := h
  exact ⟨_, _, _, _, _, _, _, _, _, _, _, _, _, _, _, _, _, _, rfl, ⟨o1.mono hB, u1⟩, ⟨o2.mono hB, u2⟩, ⟨o3.mono hB, u3⟩, ⟨o4.mono hB, u4⟩, ⟨o5.mono hB, u5⟩, ⟨o6.mono hB, u6⟩, d12, d13, d14, d15, d16, d23, d24, d25, d26, d34, d35, d36, d45, d46, d56⟩
def FrameM.tot (f : FrameM) : Nat := f.cn.length + f.sn.length + f.cookie.length + f.proof.length + f.body.length + f.tag.length
def FrameM.mark (k : Nat) (f : FrameM) : FrameM := { f with cn := markB (k) f.cn.length, sn := markB (k + f.cn.length) f.sn.length, cookie := markB (k + f.cn.length + f.sn.length) f.cookie.length, proof := markB (k + f.cn.length + f.sn.length + f.cookie.length) f.proof.length, body := markB (k + f.cn.length + f.sn.length + f.cookie.length + f.proof.length) f.body.length, tag := markB (k + f.cn.length + f.sn.length + f.cookie.length + f.proof.length + f.body.length) f.tag.length }
end Go.Proofs.YtpfchphgbhgmmaaGreat
