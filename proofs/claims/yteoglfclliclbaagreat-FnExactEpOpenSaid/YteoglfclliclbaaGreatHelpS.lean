/-
  Contracts of the laws' own helpers over structs: copies, sizes, comparisons, marks; written by pattern. Conditions: none beside those that each theorem names.
-/
import Derived.Test.YteoglfclliclbaaGreatHelp
namespace Go.Proofs.YteoglfclliclbaaGreat
open Go.RowKit
/-- two slices lie in different blocks -/
def dj (a b : Option Addr) : Prop := ∀ p q, a = some p → b = some q → p.block ≠ q.block
theorem dj_of {a b : Option Addr} {m : Nat} (ha : ∀ p, a = some p → p.block < m) (hb : ∀ p, b = some p → m ≤ p.block) : dj a b := fun p q hp hq => by
  have := ha p hp
  have := hb q hq
  omega
theorem dj.ne {a b : Option Addr} (h : dj a b) : ∀ p, b = some p → some p.block ≠ a.map (·.block) := by
  intro p hp e
  cases a with
  | none => cases e
  | some q => exact h q p rfl hp (by simpa using e.symm)
theorem dj.symm {a b : Option Addr} (h : dj a b) : dj b a := fun p q hp hq e => h q p hq hp e.symm
theorem row_of {a : Option Addr} {g : Nat} (h : a.map (·.block) = some g) : ∃ p, a = some p ∧ p.block = g := by
  cases a with
  | none => cases h
  | some p => exact ⟨p, rfl, by simpa using h⟩
theorem laws_eqByteS_same (a b : Option Addr) (n c m d : Nat) (l : List UInt8) (w : World) (ha : Rd w a n c (bys l)) (hb : Rd w b m d (bys l)) (hn : l.length ≤ 1073741824) :
    Calls Tryz.prog 11 #[.slice a n c, .slice b m d] w fun e w' => e = .returned (.bool true) ∧ Qt w w' :=
  (laws_eqByteS a b n c m d l l w ha hb (by have := ha.blen; omega) (by have := hb.blen; omega)).mono fun e w' ⟨h1, h2⟩ => ⟨by rw [h1, beq_t rfl], h2⟩
theorem laws_eqIntS_same (a b : Option Addr) (n c m d : Nat) (l : List Int) (w : World) (ha : Rd w a n c (ins l)) (hb : Rd w b m d (ins l)) (hn : l.length ≤ 1073741824) :
    Calls Tryz.prog 62 #[.slice a n c, .slice b m d] w fun e w' => e = .returned (.bool true) ∧ Qt w w' :=
  (laws_eqIntS a b n c m d l l w ha hb (by have := ha.ilen; omega) (by have := hb.ilen; omega)).mono fun e w' ⟨h1, h2⟩ => ⟨by rw [h1, beq_zt rfl], h2⟩

structure JarM where
  secret : List UInt8

/-- a value reads as this record -/
def JarR (w : World) (v : Value) (f : JarM) : Prop := ∃ a1 n1 c1, v = .agg #[.slice a1 n1 c1] ∧ Rd w a1 n1 c1 (bys f.secret)
/-- .. and its slices are the call's own, in blocks from B to below S, no two in one block -/
def JarO (B S : Nat) (w : World) (v : Value) (f : JarM) : Prop := ∃ a1 n1 c1, v = .agg #[.slice a1 n1 c1] ∧ (Ow B w 5 a1 n1 c1 (bys f.secret) ∧ ∀ p, a1 = some p → p.block < S)
theorem JarO.r {B S : Nat} {w : World} {v : Value} {f : JarM} (h : JarO B S w v f) : JarR w v f := by
  obtain ⟨a1, n1, c1, rfl, ⟨o1, u1⟩⟩ := h
  exact ⟨_, _, _, rfl, o1.rd⟩
theorem JarR.keep0 {w w' : World} {v : Value} {f : JarM} (h : JarR w v f) (hg : w.grownBy w' none) : JarR w' v f := by
  obtain ⟨a1, n1, c1, rfl, h1⟩ := h
  exact ⟨_, _, _, rfl, h1.keep0 hg⟩
theorem JarO.keep0 {B S : Nat} {w w' : World} {v : Value} {f : JarM} (h : JarO B S w v f) (hg : w.grownBy w' none) : JarO B S w' v f := by
  obtain ⟨a1, n1, c1, rfl, ⟨o1, u1⟩⟩ := h
  exact ⟨_, _, _, rfl, ⟨o1.keep0 hg, u1⟩⟩
theorem JarO.keepI {B S B2 S2 : Nat} {w w' : World} {v : Value} {f : JarM} (h : JarO B S w v f) (hg : gbI B2 S2 w w') (hn : S ≤ B2 ∨ S2 ≤ B) : JarO B S w' v f := by
  obtain ⟨a1, n1, c1, rfl, ⟨o1, u1⟩⟩ := h
  exact ⟨_, _, _, rfl, ⟨o1.keepI hg (fun p hp => by have := u1 p hp; have := (o1.lt p hp).1; omega), u1⟩⟩
theorem JarR.shape {w : World} {v : Value} {f : JarM} (h : JarR w v f) : ∃ a1 n1 c1, v = .agg #[.slice a1 n1 c1] := by
  obtain ⟨a1, n1, c1, rfl, _⟩ := h
  exact ⟨_, _, _, rfl⟩
theorem JarR.below {w w' : World} {v : Value} {f : JarM} (h : JarR w v f) (hb : Below w.heap.size w w') : JarR w' v f := h.keep0 (below_gb hb)
theorem JarR.agg {w : World} {v : Value} {f : JarM} (h : JarR w v f) : ∃ cs : Array Value, v = .agg cs ∧ cs.size = 1 ∧ ∀ u ∈ cs, u.oneCell' = true := by
  obtain ⟨a1, n1, c1, rfl, -⟩ := h
  exact ⟨_, rfl, rfl, by simp [Value.oneCell']⟩
structure JarL (f : JarM) : Prop where
  len1 : f.secret.length ≤ 9223372036854775807
theorem JarO.low {B B' S : Nat} {w : World} {v : Value} {f : JarM} (h : JarO B S w v f) (hB : B' ≤ B) : JarO B' S w v f := by
  obtain ⟨a1, n1, c1, rfl, ⟨o1, u1⟩⟩ := h
  exact ⟨_, _, _, rfl, ⟨o1.mono hB, u1⟩⟩
def JarM.tot (f : JarM) : Nat := f.secret.length
def JarM.mark (k : Nat) (f : JarM) : JarM := { f with secret := markB (k) f.secret.length }
structure AddrM where
  host : Int
  port : Int

/-- a value reads as this record -/
def AddrR (_w : World) (v : Value) (f : AddrM) : Prop := v = .agg #[.int .i64 f.host, .int .i64 f.port]
theorem AddrR.agg {w : World} {v : Value} {f : AddrM} (h : AddrR w v f) : ∃ cs : Array Value, v = .agg cs ∧ cs.size = 2 ∧ ∀ u ∈ cs, u.oneCell' = true := by
  obtain rfl := h
  exact ⟨_, rfl, rfl, by simp [Value.oneCell']⟩
structure AddrL (f : AddrM) : Prop where
  int1 : I64 f.host
  int2 : I64 f.port
structure DiceM where
  seed : List UInt8
  n : Int

/-- a value reads as this record -/
def DiceR (w : World) (v : Value) (f : DiceM) : Prop := ∃ a1 n1 c1, v = .agg #[.slice a1 n1 c1, .int .i64 f.n] ∧ Rd w a1 n1 c1 (bys f.seed)
/-- .. and its slices are the call's own, in blocks from B to below S, no two in one block -/
def DiceO (B S : Nat) (w : World) (v : Value) (f : DiceM) : Prop := ∃ a1 n1 c1, v = .agg #[.slice a1 n1 c1, .int .i64 f.n] ∧ (Ow B w 5 a1 n1 c1 (bys f.seed) ∧ ∀ p, a1 = some p → p.block < S)
theorem DiceO.r {B S : Nat} {w : World} {v : Value} {f : DiceM} (h : DiceO B S w v f) : DiceR w v f := by
  obtain ⟨a1, n1, c1, rfl, ⟨o1, u1⟩⟩ := h
  exact ⟨_, _, _, rfl, o1.rd⟩
theorem DiceR.keep0 {w w' : World} {v : Value} {f : DiceM} (h : DiceR w v f) (hg : w.grownBy w' none) : DiceR w' v f := by
  obtain ⟨a1, n1, c1, rfl, h1⟩ := h
  exact ⟨_, _, _, rfl, h1.keep0 hg⟩
theorem DiceO.keep0 {B S : Nat} {w w' : World} {v : Value} {f : DiceM} (h : DiceO B S w v f) (hg : w.grownBy w' none) : DiceO B S w' v f := by
  obtain ⟨a1, n1, c1, rfl, ⟨o1, u1⟩⟩ := h
  exact ⟨_, _, _, rfl, ⟨o1.keep0 hg, u1⟩⟩
theorem DiceO.keepI {B S B2 S2 : Nat} {w w' : World} {v : Value} {f : DiceM} (h : DiceO B S w v f) (hg : gbI B2 S2 w w') (hn : S ≤ B2 ∨ S2 ≤ B) : DiceO B S w' v f := by
  obtain ⟨a1, n1, c1, rfl, ⟨o1, u1⟩⟩ := h
  exact ⟨_, _, _, rfl, ⟨o1.keepI hg (fun p hp => by have := u1 p hp; have := (o1.lt p hp).1; omega), u1⟩⟩
theorem DiceR.shape {w : World} {v : Value} {f : DiceM} (h : DiceR w v f) : ∃ a1 n1 c1, v = .agg #[.slice a1 n1 c1, .int .i64 f.n] := by
  obtain ⟨a1, n1, c1, rfl, _⟩ := h
  exact ⟨_, _, _, rfl⟩
theorem DiceR.below {w w' : World} {v : Value} {f : DiceM} (h : DiceR w v f) (hb : Below w.heap.size w w') : DiceR w' v f := h.keep0 (below_gb hb)
theorem DiceR.agg {w : World} {v : Value} {f : DiceM} (h : DiceR w v f) : ∃ cs : Array Value, v = .agg cs ∧ cs.size = 2 ∧ ∀ u ∈ cs, u.oneCell' = true := by
  obtain ⟨a1, n1, c1, rfl, -⟩ := h
  exact ⟨_, rfl, rfl, by simp [Value.oneCell']⟩
structure DiceL (f : DiceM) : Prop where
  len1 : f.seed.length ≤ 9223372036854775807
  int1 : I64 f.n
theorem DiceO.low {B B' S : Nat} {w : World} {v : Value} {f : DiceM} (h : DiceO B S w v f) (hB : B' ≤ B) : DiceO B' S w v f := by
  obtain ⟨a1, n1, c1, rfl, ⟨o1, u1⟩⟩ := h
  exact ⟨_, _, _, rfl, ⟨o1.mono hB, u1⟩⟩
def DiceM.tot (f : DiceM) : Nat := f.seed.length
def DiceM.mark (k : Nat) (f : DiceM) : DiceM := { f with seed := markB (k) f.seed.length }
structure WinM where
  top : Int
  bits : List Int

/-- a value reads as this record -/
def WinR (w : World) (v : Value) (f : WinM) : Prop := ∃ a1 n1 c1, v = .agg #[.int .i64 f.top, .slice a1 n1 c1] ∧ Rd w a1 n1 c1 (ins f.bits)
/-- .. and its slices are the call's own, in blocks from B to below S, no two in one block -/
def WinO (B S : Nat) (w : World) (v : Value) (f : WinM) : Prop := ∃ a1 n1 c1, v = .agg #[.int .i64 f.top, .slice a1 n1 c1] ∧ (Ow B w 3 a1 n1 c1 (ins f.bits) ∧ ∀ p, a1 = some p → p.block < S)
theorem WinO.r {B S : Nat} {w : World} {v : Value} {f : WinM} (h : WinO B S w v f) : WinR w v f := by
  obtain ⟨a1, n1, c1, rfl, ⟨o1, u1⟩⟩ := h
  exact ⟨_, _, _, rfl, o1.rd⟩
theorem WinR.keep0 {w w' : World} {v : Value} {f : WinM} (h : WinR w v f) (hg : w.grownBy w' none) : WinR w' v f := by
  obtain ⟨a1, n1, c1, rfl, h1⟩ := h
  exact ⟨_, _, _, rfl, h1.keep0 hg⟩
theorem WinO.keep0 {B S : Nat} {w w' : World} {v : Value} {f : WinM} (h : WinO B S w v f) (hg : w.grownBy w' none) : WinO B S w' v f := by
  obtain ⟨a1, n1, c1, rfl, ⟨o1, u1⟩⟩ := h
  exact ⟨_, _, _, rfl, ⟨o1.keep0 hg, u1⟩⟩
theorem WinO.keepI {B S B2 S2 : Nat} {w w' : World} {v : Value} {f : WinM} (h : WinO B S w v f) (hg : gbI B2 S2 w w') (hn : S ≤ B2 ∨ S2 ≤ B) : WinO B S w' v f := by
  obtain ⟨a1, n1, c1, rfl, ⟨o1, u1⟩⟩ := h
  exact ⟨_, _, _, rfl, ⟨o1.keepI hg (fun p hp => by have := u1 p hp; have := (o1.lt p hp).1; omega), u1⟩⟩
theorem WinR.shape {w : World} {v : Value} {f : WinM} (h : WinR w v f) : ∃ a1 n1 c1, v = .agg #[.int .i64 f.top, .slice a1 n1 c1] := by
  obtain ⟨a1, n1, c1, rfl, _⟩ := h
  exact ⟨_, _, _, rfl⟩
theorem WinR.below {w w' : World} {v : Value} {f : WinM} (h : WinR w v f) (hb : Below w.heap.size w w') : WinR w' v f := h.keep0 (below_gb hb)
theorem WinR.agg {w : World} {v : Value} {f : WinM} (h : WinR w v f) : ∃ cs : Array Value, v = .agg cs ∧ cs.size = 2 ∧ ∀ u ∈ cs, u.oneCell' = true := by
  obtain ⟨a1, n1, c1, rfl, -⟩ := h
  exact ⟨_, rfl, rfl, by simp [Value.oneCell']⟩
structure WinL (f : WinM) : Prop where
  int1 : I64 f.top
  len1 : f.bits.length ≤ 9223372036854775807
theorem WinO.low {B B' S : Nat} {w : World} {v : Value} {f : WinM} (h : WinO B S w v f) (hB : B' ≤ B) : WinO B' S w v f := by
  obtain ⟨a1, n1, c1, rfl, ⟨o1, u1⟩⟩ := h
  exact ⟨_, _, _, rfl, ⟨o1.mono hB, u1⟩⟩
def WinM.tot (f : WinM) : Nat := f.bits.length
def WinM.mark (k : Nat) (f : WinM) : WinM := { f with bits := markZ (k) f.bits.length }
set_option maxHeartbeats 1000000 in
theorem laws_toWin (v : Value) (f : WinM) (w : World) (h : WinR w v f) (hn1 : f.bits.length ≤ 1048576) :
    Calls Tryz.prog 27 #[v] w fun e w' => ∃ v', e = .returned v' ∧ WinO w.heap.size w'.heap.size w' v' f ∧ w.grownBy w' none := by
  obtain ⟨a1, n1, c1, rfl, h1⟩ := h
  go_enter Tryz.func27, Tryz.ntmps27
  go_wp2_with fail
  refine (laws_toIntS _ _ _ f.bits _ (h1.keep0 ?_) (by have := h1.ilen; omega)).mono ?_
  · repeat (first | with_reducible exact gb_refl _ | refine gb_alloc ?_ _ | (refine gb_set ?_ (.inl ?_) _; rotate_left; focus (first | (simp; done) | (simp; omega))))
  rintro e w1 ⟨a1x, c1x, rfl, o1, g1⟩
  have u1 := fun p hp => (o1.lt p hp).2
  have G1 : w.grownBy w1 none := gb_trans (by repeat (first | with_reducible exact gb_refl _ | refine gb_alloc ?_ _ | (refine gb_set ?_ (.inl ?_) _; rotate_left; focus (first | (simp; done) | (simp; omega))))) g1
  have bp : Bx w1 (w.heap.size) 25 #[.int .i64 f.top, .slice a1 n1 c1] := Bx.keep0 (bx3 w _ _ _ _ _ _).1 g1
  have br : Bx w1 (w.heap.size + 1) 32 #[.int .i64 0, .slice none 0 0] := Bx.keep0 (bx3 w _ _ _ _ _ _).2.1 g1
  have bo : Bx w1 (w.heap.size + 1 + 1) 32 #[.int .i64 f.top, .slice none 0 0] := Bx.keep0 (bx3 w _ _ _ _ _ _).2.2 g1
  have hcp := fun o => bp.cell o
  have hfp := fun o => bp.frozen o
  have hcr := fun o => br.cell o
  have hfr := fun o => br.frozen o
  have hco := fun o => bo.cell o
  have hfo := fun o => bo.frozen o
  have hz1 := g1.size
  simp at hz1
  replace o1 := o1.mono (B' := w.heap.size + 3) (by first | (simp; done) | (simp; omega))
  have y0_1 : w.heap.size < w1.heap.size := by omega
  have y1_1 : w.heap.size + 1 < w1.heap.size := by omega
  have y2_1 : w.heap.size + 1 + 1 < w1.heap.size := by omega
  go_wp2
  refine bodyPost_ret (v := .agg #[.int .i64 f.top, .slice a1x n1 c1x]) (by simp [results, Tryz.results27, go_sem, hcr]) rfl ⟨_, rfl, ⟨_, _, _, rfl, ⟨?_, ?_⟩⟩, ?_⟩
  · exact Ow.mono (B := w.heap.size + 3) (by repeat (first | with_reducible exact o1 | (refine Ow.keepSet ?_ ?_ _; rotate_left; focus (first | (simp; done) | (simp; omega))))) (by omega)
  · intro p hp
    have := u1 p hp
    simp
    omega
  · repeat (first | with_reducible exact G1 | (refine gb_set ?_ (.inl ?_) _; rotate_left; focus (first | (simp; done) | (simp; omega))))
set_option maxHeartbeats 1000000 in
theorem laws_szWin (v : Value) (f : WinM) (left : Nat) (w : World) (h : WinR w v f) (hl : left ≤ 1048576) (hb1 : f.bits.length ≤ 9223372036854775807) :
    Calls Tryz.prog 19 #[v, .int .i64 left] w fun e w' => (f.tot ≤ left → e = .returned (.int .i64 ((left - f.tot : Nat) : Int))) ∧ (left < f.tot → e = .returned (.int .i64 (-1))) ∧ w.grownBy w' none := by
  obtain ⟨a1, n1, c1, rfl, h1⟩ := h
  have e1 := Lib.hid h1.ilen
  by_cases p0 : n1 ≤ left
  · go_enter Tryz.func19, Tryz.ntmps19
    go_wp2_with fail
    refine (laws_szIntS _ _ _ (left) _ (by omega) (by have := e1.out; omega)).mono ?_
    rintro e w2 ⟨hy, hn, rfl⟩
    obtain rfl := hy (by omega)
    clear hy hn
    go_wp2
    go_ret
    refine ⟨fun _ => ?_, fun h9 => ?_, ?_⟩
    · refine ret_i ?_
      simp only [WinM.tot]
      have := e1.out; omega
    · unfold WinM.tot at h9
      have := e1.out; omega
    · exact gb_alloc (gb_refl _) _
  · go_enter Tryz.func19, Tryz.ntmps19
    go_wp2_with fail
    refine (laws_szIntS _ _ _ (left) _ (by omega) (by have := e1.out; omega)).mono ?_
    rintro e w2 ⟨hy, hn, rfl⟩
    obtain rfl := hn (by omega)
    clear hy hn
    go_wp2
    go_ret
    refine ⟨fun h9 => ?_, fun _ => rfl, ?_⟩
    · unfold WinM.tot at h9
      have := e1.out; omega
    · exact gb_alloc (gb_refl _) _
set_option maxHeartbeats 1000000 in
theorem laws_eqWin (va vb : Value) (f : WinM) (w : World) (ha : WinR w va f) (hb : WinR w vb f) (hn1 : f.bits.length ≤ 1073741824) :
    Calls Tryz.prog 33 #[va, vb] w fun e w' => e = .returned (.bool true) ∧ w.grownBy w' none := by
  obtain ⟨a1, n1, c1, rfl, h1⟩ := ha
  obtain ⟨a1b, n1b, c1b, rfl, k1⟩ := hb
  go_enter Tryz.func33, Tryz.ntmps33
  go_wp2_with fail
  refine (laws_eqIntS_same _ _ _ _ _ _ f.bits _ (h1.keep0 (by repeat (first | with_reducible exact gb_refl _ | refine gb_alloc ?_ _ | refine gb_drewN ?_ _))) (k1.keep0 (by repeat (first | with_reducible exact gb_refl _ | refine gb_alloc ?_ _ | refine gb_drewN ?_ _))) hn1).mono ?_
  rintro e w2 ⟨rfl, q1, rfl⟩
  go_wp2
  go_ret
  exact ⟨rfl, (by repeat (first | with_reducible exact gb_refl _ | refine gb_alloc ?_ _ | refine gb_drewN ?_ _))⟩
set_option maxHeartbeats 1000000 in
theorem laws_markWin (B S : Nat) (v : Value) (f : WinM) (k : Nat) (w : World) (h : WinO B S w v f) (hk : k + f.tot ≤ 1073741824) :
    Calls Tryz.prog 34 #[v, .int .i64 k] w fun e w' => e = .returned (.int .i64 ((k + f.tot : Nat) : Int)) ∧ WinO B S w' v (f.mark k) ∧ gbI B S w w' := by
  obtain ⟨a1, n1, c1, rfl, ⟨o1, u1⟩⟩ := h
  have e1 := Lib.hid o1.ilen
  have Hk := Lib.hid hk
  clear hk
  have l1 : ∀ p, a1 = some p → p.block < w.heap.size := fun p hp => (o1.lt p hp).2
  go_enter Tryz.func34, Tryz.ntmps34
  go_wp2_with fail
  replace o1 := o1.keep0 (gb_alloc (gb_refl w) (.cells #[.int .i64 f.top, .slice a1 n1 c1] 32))
  refine (laws_markIntS B _ _ _ (k) _ _ o1 (by have := Hk.out; unfold WinM.tot at this; have := e1.out; omega)).mono ?_
  rintro e w1 ⟨rfl, z1, r1⟩
  replace o1 := z1
  clear z1
  have g1 := gbI.ofRow (B := B) (S := S) r1 (fun g hg => by obtain ⟨p, hp, rfl⟩ := row_of hg; exact ⟨(o1.lt p hp).1, u1 p hp⟩)
  go_wp2
  go_ret
  refine ⟨?_, ⟨_, _, _, rfl, ⟨?_, u1⟩⟩, ((gbI.of0 (gb_alloc (gb_refl w) _)).trans g1)⟩
  · refine ret_i ?_
    simp only [WinM.tot]
    have := e1.out; omega
  · simp only [WinM.mark]
    rw [e1.out]
    exact o1
set_option maxHeartbeats 1000000 in
theorem laws_heldWin (v : Value) (f : WinM) (k : Nat) (w : World) (h : WinR w v (f.mark k)) (hk : k + f.tot ≤ 1073741824) :
    Calls Tryz.prog 35 #[v, .int .i64 k] w fun e w' => e = .returned (.int .i64 ((k + f.tot : Nat) : Int)) ∧ w.grownBy w' none := by
  obtain ⟨a1, n1, c1, rfl, h1⟩ := h
  simp only [WinM.mark] at h1
  obtain rfl : n1 = f.bits.length := by have := h1.ilen; rw [markZ_len] at this; exact this.symm
  have Hk := Lib.hid hk
  clear hk
  simp only [WinM.tot] at Hk
  go_enter Tryz.func35, Tryz.ntmps35
  go_wp2_with fail
  refine (laws_heldIntS _ _ _ (k) _ (h1.keep0 (by repeat (first | with_reducible exact gb_refl _ | refine gb_alloc ?_ _ | refine gb_drewN ?_ _))) (by have := Hk.out; omega)).mono ?_
  rintro e w2 ⟨rfl, q1, rfl⟩
  go_wp2
  go_ret
  refine ⟨ret_i ?_, (by repeat (first | with_reducible exact gb_refl _ | refine gb_alloc ?_ _ | refine gb_drewN ?_ _))⟩
  simp only [WinM.tot]
  omega
structure EpM where
  n : Int
  key : List UInt8
  seq : Int
  win : WinM

/-- a value reads as this record -/
def EpR (w : World) (v : Value) (f : EpM) : Prop := ∃ a1 n1 c1 a2 n2 c2, v = .agg #[.int .i64 f.n, .slice a1 n1 c1, .int .i64 f.seq, .int .i64 f.win.top, .slice a2 n2 c2] ∧ Rd w a1 n1 c1 (bys f.key) ∧ Rd w a2 n2 c2 (ins f.win.bits)
/-- .. and its slices are the call's own, in blocks from B to below S, no two in one block -/
def EpO (B S : Nat) (w : World) (v : Value) (f : EpM) : Prop := ∃ a1 n1 c1 a2 n2 c2, v = .agg #[.int .i64 f.n, .slice a1 n1 c1, .int .i64 f.seq, .int .i64 f.win.top, .slice a2 n2 c2] ∧ (Ow B w 5 a1 n1 c1 (bys f.key) ∧ ∀ p, a1 = some p → p.block < S) ∧ (Ow B w 3 a2 n2 c2 (ins f.win.bits) ∧ ∀ p, a2 = some p → p.block < S) ∧ dj a1 a2
theorem EpO.r {B S : Nat} {w : World} {v : Value} {f : EpM} (h : EpO B S w v f) : EpR w v f := by
  obtain ⟨a1, n1, c1, a2, n2, c2, rfl, ⟨o1, u1⟩, ⟨o2, u2⟩, d12⟩ := h
  exact ⟨_, _, _, _, _, _, rfl, o1.rd, o2.rd⟩
theorem EpR.keep0 {w w' : World} {v : Value} {f : EpM} (h : EpR w v f) (hg : w.grownBy w' none) : EpR w' v f := by
  obtain ⟨a1, n1, c1, a2, n2, c2, rfl, h1, h2⟩ := h
  exact ⟨_, _, _, _, _, _, rfl, h1.keep0 hg, h2.keep0 hg⟩
theorem EpO.keep0 {B S : Nat} {w w' : World} {v : Value} {f : EpM} (h : EpO B S w v f) (hg : w.grownBy w' none) : EpO B S w' v f := by
  obtain ⟨a1, n1, c1, a2, n2, c2, rfl, ⟨o1, u1⟩, ⟨o2, u2⟩, d12⟩ := h
  exact ⟨_, _, _, _, _, _, rfl, ⟨o1.keep0 hg, u1⟩, ⟨o2.keep0 hg, u2⟩, d12⟩
theorem EpO.keepI {B S B2 S2 : Nat} {w w' : World} {v : Value} {f : EpM} (h : EpO B S w v f) (hg : gbI B2 S2 w w') (hn : S ≤ B2 ∨ S2 ≤ B) : EpO B S w' v f := by
  obtain ⟨a1, n1, c1, a2, n2, c2, rfl, ⟨o1, u1⟩, ⟨o2, u2⟩, d12⟩ := h
  exact ⟨_, _, _, _, _, _, rfl, ⟨o1.keepI hg (fun p hp => by have := u1 p hp; have := (o1.lt p hp).1; omega), u1⟩, ⟨o2.keepI hg (fun p hp => by have := u2 p hp; have := (o2.lt p hp).1; omega), u2⟩, d12⟩
theorem EpR.shape {w : World} {v : Value} {f : EpM} (h : EpR w v f) : ∃ a1 n1 c1 a2 n2 c2, v = .agg #[.int .i64 f.n, .slice a1 n1 c1, .int .i64 f.seq, .int .i64 f.win.top, .slice a2 n2 c2] := by
  obtain ⟨a1, n1, c1, a2, n2, c2, rfl, _⟩ := h
  exact ⟨_, _, _, _, _, _, rfl⟩
theorem EpR.below {w w' : World} {v : Value} {f : EpM} (h : EpR w v f) (hb : Below w.heap.size w w') : EpR w' v f := h.keep0 (below_gb hb)
theorem EpR.agg {w : World} {v : Value} {f : EpM} (h : EpR w v f) : ∃ cs : Array Value, v = .agg cs ∧ cs.size = 5 ∧ ∀ u ∈ cs, u.oneCell' = true := by
  obtain ⟨a1, n1, c1, a2, n2, c2, rfl, -, -⟩ := h
  exact ⟨_, rfl, rfl, by simp [Value.oneCell']⟩
structure EpL (f : EpM) : Prop where
  int1 : I64 f.n
  len1 : f.key.length ≤ 9223372036854775807
  int2 : I64 f.seq
  int3 : I64 f.win.top
  len2 : f.win.bits.length ≤ 9223372036854775807
theorem EpO.low {B B' S : Nat} {w : World} {v : Value} {f : EpM} (h : EpO B S w v f) (hB : B' ≤ B) : EpO B' S w v f := by
  obtain ⟨a1, n1, c1, a2, n2, c2, rfl, ⟨o1, u1⟩, ⟨o2, u2⟩, d12⟩ := h
  exact ⟨_, _, _, _, _, _, rfl, ⟨o1.mono hB, u1⟩, ⟨o2.mono hB, u2⟩, d12⟩
def EpM.tot (f : EpM) : Nat := f.key.length + f.win.bits.length
def EpM.mark (k : Nat) (f : EpM) : EpM := { f with key := markB (k) f.key.length, win := { f.win with bits := markZ (k + f.key.length) f.win.bits.length } }
set_option maxHeartbeats 1000000 in
theorem laws_toEp (v : Value) (f : EpM) (w : World) (h : EpR w v f) (hn1 : f.key.length ≤ 1048576) (hn2 : f.win.bits.length ≤ 1048576) :
    Calls Tryz.prog 7 #[v] w fun e w' => ∃ v', e = .returned v' ∧ EpO w.heap.size w'.heap.size w' v' f ∧ w.grownBy w' none := by
  obtain ⟨a1, n1, c1, a2, n2, c2, rfl, h1, h2⟩ := h
  go_enter Tryz.func7, Tryz.ntmps7
  go_wp2_with fail
  refine (laws_toByteS _ _ _ f.key _ (h1.keep0 ?_) (by have := h1.blen; omega)).mono ?_
  · repeat (first | with_reducible exact gb_refl _ | refine gb_alloc ?_ _ | (refine gb_set ?_ (.inl ?_) _; rotate_left; focus (first | (simp; done) | (simp; omega))))
  rintro e w1 ⟨a1x, c1x, rfl, o1, g1⟩
  have u1 := fun p hp => (o1.lt p hp).2
  have G1 : w.grownBy w1 none := gb_trans (by repeat (first | with_reducible exact gb_refl _ | refine gb_alloc ?_ _ | (refine gb_set ?_ (.inl ?_) _; rotate_left; focus (first | (simp; done) | (simp; omega))))) g1
  have bp : Bx w1 (w.heap.size) 27 #[.int .i64 f.n, .slice a1 n1 c1, .int .i64 f.seq, .int .i64 f.win.top, .slice a2 n2 c2] := Bx.keep0 (bx3 w _ _ _ _ _ _).1 g1
  have br : Bx w1 (w.heap.size + 1) 34 #[.int .i64 0, .slice none 0 0, .int .i64 0, .int .i64 0, .slice none 0 0] := Bx.keep0 (bx3 w _ _ _ _ _ _).2.1 g1
  have bo : Bx w1 (w.heap.size + 1 + 1) 34 #[.int .i64 f.n, .slice none 0 0, .int .i64 0, .int .i64 0, .slice none 0 0] := Bx.keep0 (bx3 w _ _ _ _ _ _).2.2 g1
  have hcp := fun o => bp.cell o
  have hfp := fun o => bp.frozen o
  have hcr := fun o => br.cell o
  have hfr := fun o => br.frozen o
  have hco := fun o => bo.cell o
  have hfo := fun o => bo.frozen o
  have hz1 := g1.size
  simp at hz1
  replace o1 := o1.mono (B' := w.heap.size + 3) (by first | (simp; done) | (simp; omega))
  have y0_1 : w.heap.size < w1.heap.size := by omega
  have y1_1 : w.heap.size + 1 < w1.heap.size := by omega
  have y2_1 : w.heap.size + 1 + 1 < w1.heap.size := by omega
  go_wp2_with fail
  refine (laws_toWin _ f.win _ ⟨_, _, _, rfl, h2.keep0 ?_⟩ hn2).mono ?_
  · repeat (first | with_reducible exact G1 | refine gb_alloc ?_ _ | (refine gb_set ?_ (.inl ?_) _; rotate_left; focus (first | (simp; done) | (simp; omega))))
  rintro e w2 ⟨v2, rfl, hh2, g2⟩
  obtain ⟨a2x, n2x, c2x, rfl, ⟨o2, u2⟩⟩ := hh2
  have G2 : w.grownBy w2 none := gb_trans (by repeat (first | with_reducible exact G1 | refine gb_alloc ?_ _ | (refine gb_set ?_ (.inl ?_) _; rotate_left; focus (first | (simp; done) | (simp; omega))))) g2
  replace o1 : Ow (w.heap.size + 3) w2 5 a1x n1 c1x (bys f.key) := by
    refine Ow.keep0 ?_ g2
    repeat (first | with_reducible exact o1 | (refine Ow.keepSet ?_ ?_ _; rotate_left; focus (first | (simp; done) | (simp; omega))))
  replace bo : Bx w2 (w.heap.size + 1 + 1) 34 #[.int .i64 f.n, .slice a1x n1 c1x, .int .i64 f.seq, .int .i64 0, .slice none 0 0] := Bx.keep0 ((bo.set 1 (.slice a1x n1 c1x)).set 2 (.int .i64 f.seq)) g2
  replace bp : Bx w2 (w.heap.size) 27 #[.int .i64 f.n, .slice a1 n1 c1, .int .i64 f.seq, .int .i64 f.win.top, .slice a2 n2 c2] := Bx.keep0 ((bp.setO _ _ (by simp <;> omega)).setO _ _ (by simp <;> omega)) g2
  replace br : Bx w2 (w.heap.size + 1) 34 #[.int .i64 0, .slice none 0 0, .int .i64 0, .int .i64 0, .slice none 0 0] := Bx.keep0 ((br.setO _ _ (by simp <;> omega)).setO _ _ (by simp <;> omega)) g2
  clear hcp hfp hcr hfr hco hfo
  have hcp := fun o => bp.cell o
  have hfp := fun o => bp.frozen o
  have hcr := fun o => br.cell o
  have hfr := fun o => br.frozen o
  have hco := fun o => bo.cell o
  have hfo := fun o => bo.frozen o
  have hz2 := g2.size
  simp at hz2
  replace o2 := o2.mono (B' := w1.heap.size) (by first | (simp; done) | (simp; omega))
  have y0_2 : w.heap.size < w2.heap.size := by omega
  have y1_2 : w.heap.size + 1 < w2.heap.size := by omega
  have y2_2 : w.heap.size + 1 + 1 < w2.heap.size := by omega
  go_wp2
  refine bodyPost_ret (v := .agg #[.int .i64 f.n, .slice a1x n1 c1x, .int .i64 f.seq, .int .i64 f.win.top, .slice a2x n2x c2x]) (by simp [results, Tryz.results7, go_sem, hcr]) rfl ⟨_, rfl, ⟨_, _, _, _, _, _, rfl, ⟨?_, ?_⟩, ⟨?_, ?_⟩, ?_⟩, ?_⟩
  · exact Ow.mono (B := w.heap.size + 3) (by repeat (first | with_reducible exact o1 | (refine Ow.keepSet ?_ ?_ _; rotate_left; focus (first | (simp; done) | (simp; omega))))) (by omega)
  · intro p hp
    have := u1 p hp
    simp
    omega
  · exact Ow.mono (B := w1.heap.size) (by repeat (first | with_reducible exact o2 | (refine Ow.keepSet ?_ ?_ _; rotate_left; focus (first | (simp; done) | (simp; omega))))) (by omega)
  · intro p hp
    have := u2 p hp
    simp
    omega
  · intro p q hp hq; have := u1 p hp; have := (o2.lt q hq).1; omega
  · repeat (first | with_reducible exact G2 | (refine gb_set ?_ (.inl ?_) _; rotate_left; focus (first | (simp; done) | (simp; omega))))
set_option maxHeartbeats 1000000 in
theorem laws_szEp (v : Value) (f : EpM) (left : Nat) (w : World) (h : EpR w v f) (hl : left ≤ 1048576) (hb1 : f.key.length ≤ 9223372036854775807) (hb2 : f.win.bits.length ≤ 9223372036854775807) :
    Calls Tryz.prog 4 #[v, .int .i64 left] w fun e w' => (f.tot ≤ left → e = .returned (.int .i64 ((left - f.tot : Nat) : Int))) ∧ (left < f.tot → e = .returned (.int .i64 (-1))) ∧ w.grownBy w' none := by
  obtain ⟨a1, n1, c1, a2, n2, c2, rfl, h1, h2⟩ := h
  have e1 := Lib.hid h1.blen
  have e2 := Lib.hid h2.ilen
  by_cases p0 : n1 ≤ left
  · go_enter Tryz.func4, Tryz.ntmps4
    go_wp2_with fail
    refine (laws_szByteS _ _ _ (left) _ (by omega) (by have := e1.out; omega)).mono ?_
    rintro e w2 ⟨hy, hn, rfl⟩
    obtain rfl := hy (by omega)
    clear hy hn
    by_cases p1 : n2 ≤ left - n1
    · go_wp2_with fail
      refine (laws_szWin _ f.win (left - n1) _ ⟨_, _, _, rfl, h2.keep0 (gb_alloc (gb_refl _) _)⟩ (by omega) hb2).mono ?_
      rintro e w2 ⟨hy, hn, gL⟩
      have z2 := e2.out
      obtain rfl := hy (by unfold WinM.tot; omega)
      clear z2
      clear hy hn
      go_wp2
      go_ret
      refine ⟨fun _ => ?_, fun h9 => ?_, ?_⟩
      · refine ret_i ?_
        simp only [EpM.tot, WinM.tot]
        have := e1.out; have := e2.out; omega
      · unfold EpM.tot at h9
        have := e1.out; have := e2.out; omega
      · exact gb_trans (gb_alloc (gb_refl _) _) gL
    · go_wp2_with fail
      refine (laws_szWin _ f.win (left - n1) _ ⟨_, _, _, rfl, h2.keep0 (gb_alloc (gb_refl _) _)⟩ (by omega) hb2).mono ?_
      rintro e w2 ⟨hy, hn, gL⟩
      have z2 := e2.out
      obtain rfl := hn (by unfold WinM.tot; omega)
      clear z2
      clear hy hn
      go_wp2
      go_ret
      refine ⟨fun h9 => ?_, fun _ => rfl, ?_⟩
      · unfold EpM.tot at h9
        have := e1.out; have := e2.out; omega
      · exact gb_trans (gb_alloc (gb_refl _) _) gL
  · go_enter Tryz.func4, Tryz.ntmps4
    go_wp2_with fail
    refine (laws_szByteS _ _ _ (left) _ (by omega) (by have := e1.out; omega)).mono ?_
    rintro e w2 ⟨hy, hn, rfl⟩
    obtain rfl := hn (by omega)
    clear hy hn
    go_wp2
    go_ret
    refine ⟨fun h9 => ?_, fun _ => rfl, ?_⟩
    · unfold EpM.tot at h9
      have := e1.out; have := e2.out; omega
    · exact gb_alloc (gb_refl _) _
set_option maxHeartbeats 1000000 in
theorem laws_eqEp (va vb : Value) (f : EpM) (w : World) (ha : EpR w va f) (hb : EpR w vb f) (hn1 : f.key.length ≤ 1073741824) (hn2 : f.win.bits.length ≤ 1073741824) :
    Calls Tryz.prog 10 #[va, vb] w fun e w' => e = .returned (.bool true) ∧ w.grownBy w' none := by
  obtain ⟨a1, n1, c1, a2, n2, c2, rfl, h1, h2⟩ := ha
  obtain ⟨a1b, n1b, c1b, a2b, n2b, c2b, rfl, k1, k2⟩ := hb
  go_enter Tryz.func10, Tryz.ntmps10
  go_wp2_with fail
  refine (laws_eqByteS_same _ _ _ _ _ _ f.key _ (h1.keep0 (by repeat (first | with_reducible exact gb_refl _ | refine gb_alloc ?_ _ | refine gb_drewN ?_ _))) (k1.keep0 (by repeat (first | with_reducible exact gb_refl _ | refine gb_alloc ?_ _ | refine gb_drewN ?_ _))) hn1).mono ?_
  rintro e w2 ⟨rfl, q1, rfl⟩
  go_wp2_with fail
  refine (laws_eqWin _ _ f.win _ ⟨_, _, _, rfl, h2.keep0 (by repeat (first | with_reducible exact gb_refl _ | refine gb_alloc ?_ _ | refine gb_drewN ?_ _))⟩ ⟨_, _, _, rfl, k2.keep0 (by repeat (first | with_reducible exact gb_refl _ | refine gb_alloc ?_ _ | refine gb_drewN ?_ _))⟩ hn2).mono ?_
  rintro e w2 ⟨rfl, gL⟩
  go_wp2
  go_ret
  exact ⟨rfl, (gb_trans (by repeat (first | with_reducible exact gb_refl _ | refine gb_alloc ?_ _ | refine gb_drewN ?_ _)) gL)⟩
set_option maxHeartbeats 1000000 in
theorem laws_markEp (B S : Nat) (v : Value) (f : EpM) (k : Nat) (w : World) (h : EpO B S w v f) (hk : k + f.tot ≤ 1073741824) :
    Calls Tryz.prog 13 #[v, .int .i64 k] w fun e w' => e = .returned (.int .i64 ((k + f.tot : Nat) : Int)) ∧ EpO B S w' v (f.mark k) ∧ gbI B S w w' := by
  obtain ⟨a1, n1, c1, a2, n2, c2, rfl, ⟨o1, u1⟩, ⟨o2, u2⟩, d12⟩ := h
  have e1 := Lib.hid o1.blen
  have e2 := Lib.hid o2.ilen
  have Hk := Lib.hid hk
  clear hk
  have l1 : ∀ p, a1 = some p → p.block < w.heap.size := fun p hp => (o1.lt p hp).2
  have l2 : ∀ p, a2 = some p → p.block < w.heap.size := fun p hp => (o2.lt p hp).2
  go_enter Tryz.func13, Tryz.ntmps13
  go_wp2_with fail
  replace o1 := o1.keep0 (gb_alloc (gb_refl w) (.cells #[.int .i64 f.n, .slice a1 n1 c1, .int .i64 f.seq, .int .i64 f.win.top, .slice a2 n2 c2] 34))
  replace o2 := o2.keep0 (gb_alloc (gb_refl w) (.cells #[.int .i64 f.n, .slice a1 n1 c1, .int .i64 f.seq, .int .i64 f.win.top, .slice a2 n2 c2] 34))
  refine (laws_markByteS B _ _ _ (k) _ _ o1 (by have := Hk.out; unfold EpM.tot at this; have := e1.out; have := e2.out; omega)).mono ?_
  rintro e w1 ⟨rfl, z1, r1⟩
  replace o1 := z1
  clear z1
  have g1 := gbI.ofRow (B := B) (S := S) r1 (fun g hg => by obtain ⟨p, hp, rfl⟩ := row_of hg; exact ⟨(o1.lt p hp).1, u1 p hp⟩)
  have bp : Bx w1 w.heap.size 34 #[.int .i64 f.n, .slice a1 n1 c1, .int .i64 f.seq, .int .i64 f.win.top, .slice a2 n2 c2] := (bx1 w _ _).keepRow r1 (fun hg => by obtain ⟨p, hp, h9⟩ := row_of hg; have := l1 p hp; omega)
  replace o2 := o2.keep r1 d12.ne
  have hcp := fun o => bp.cell o
  go_wp2_with fail
  refine (laws_markWin (blk a2) (blkS a2) _ f.win (k + n1) _ ⟨_, _, _, rfl, ⟨o2.tight, blk_lt⟩⟩ (by have := Hk.out; unfold EpM.tot at this; unfold WinM.tot; have := e1.out; have := e2.out; omega)).mono ?_
  rintro e w2 ⟨rfl, ho2, g2⟩
  go_wp2
  go_ret
  obtain ⟨a2z, n2z, c2z, hv9, ⟨o2z, _⟩⟩ := ho2
  simp at hv9
  obtain ⟨_, rfl, rfl, rfl⟩ := hv9
  replace o1 := o1.keepI2 g2 (apart_blk d12)
  have lo2 := fun p hp => (o2.lt p hp).1
  replace o2 := o2z.untight lo2
  simp only [WinM.mark] at o2
  rw [e2.out] at o2
  replace g2 := g2.blk (B := B) (S := S) (fun p hp => ⟨lo2 p hp, u2 p hp⟩)
  refine ⟨?_, ⟨_, _, _, _, _, _, rfl, ⟨?_, u1⟩, ⟨?_, u2⟩, d12⟩, (((gbI.of0 (gb_alloc (gb_refl w) _)).trans g1).trans g2)⟩
  · refine ret_i ?_
    simp only [EpM.tot, WinM.tot]
    have := e1.out; have := e2.out; omega
  · simp only [EpM.mark]
    rw [e1.out]
    exact o1
  · simp only [EpM.mark]
    rw [e1.out, e2.out]
    exact o2
set_option maxHeartbeats 1000000 in
theorem laws_heldEp (v : Value) (f : EpM) (k : Nat) (w : World) (h : EpR w v (f.mark k)) (hk : k + f.tot ≤ 1073741824) :
    Calls Tryz.prog 16 #[v, .int .i64 k] w fun e w' => e = .returned (.int .i64 ((k + f.tot : Nat) : Int)) ∧ w.grownBy w' none := by
  obtain ⟨a1, n1, c1, a2, n2, c2, rfl, h1, h2⟩ := h
  simp only [EpM.mark] at h1 h2
  obtain rfl : n1 = f.key.length := by have := h1.blen; rw [markB_len] at this; exact this.symm
  obtain rfl : n2 = f.win.bits.length := by have := h2.ilen; rw [markZ_len] at this; exact this.symm
  have Hk := Lib.hid hk
  clear hk
  simp only [EpM.tot] at Hk
  go_enter Tryz.func16, Tryz.ntmps16
  go_wp2_with fail
  refine (laws_heldByteS _ _ _ (k) _ (h1.keep0 (by repeat (first | with_reducible exact gb_refl _ | refine gb_alloc ?_ _ | refine gb_drewN ?_ _))) (by have := Hk.out; omega)).mono ?_
  rintro e w2 ⟨rfl, q1, rfl⟩
  go_wp2_with fail
  refine (laws_heldWin _ f.win (k + f.key.length) _ ⟨_, _, _, rfl, h2.keep0 (by repeat (first | with_reducible exact gb_refl _ | refine gb_alloc ?_ _ | refine gb_drewN ?_ _))⟩ (by have := Hk.out; simp only [WinM.tot]; omega)).mono ?_
  rintro e w2 ⟨rfl, gL⟩
  go_wp2
  go_ret
  refine ⟨ret_i ?_, (gb_trans (by repeat (first | with_reducible exact gb_refl _ | refine gb_alloc ?_ _ | refine gb_drewN ?_ _)) gL)⟩
  simp only [EpM.tot, WinM.tot]
  omega
structure FrameM where
  kind : Int
  id : Int
  cn : List UInt8
  sn : List UInt8
  tick : Int
  cookie : List UInt8
  proof : List UInt8
  epoch : Int
  seq : Int
  body : List UInt8
  tag : List UInt8

/-- a value reads as this record -/
def FrameR (w : World) (v : Value) (f : FrameM) : Prop := ∃ a1 n1 c1 a2 n2 c2 a3 n3 c3 a4 n4 c4 a5 n5 c5 a6 n6 c6, v = .agg #[.int .i64 f.kind, .int .i64 f.id, .slice a1 n1 c1, .slice a2 n2 c2, .int .i64 f.tick, .slice a3 n3 c3, .slice a4 n4 c4, .int .i64 f.epoch, .int .i64 f.seq, .slice a5 n5 c5, .slice a6 n6 c6] ∧ Rd w a1 n1 c1 (bys f.cn) ∧ Rd w a2 n2 c2 (bys f.sn) ∧ Rd w a3 n3 c3 (bys f.cookie) ∧ Rd w a4 n4 c4 (bys f.proof) ∧ Rd w a5 n5 c5 (bys f.body) ∧ Rd w a6 n6 c6 (bys f.tag)
/-- .. and its slices are the call's own, in blocks from B to below S, no two in one block -/
def FrameO (B S : Nat) (w : World) (v : Value) (f : FrameM) : Prop := ∃ a1 n1 c1 a2 n2 c2 a3 n3 c3 a4 n4 c4 a5 n5 c5 a6 n6 c6, v = .agg #[.int .i64 f.kind, .int .i64 f.id, .slice a1 n1 c1, .slice a2 n2 c2, .int .i64 f.tick, .slice a3 n3 c3, .slice a4 n4 c4, .int .i64 f.epoch, .int .i64 f.seq, .slice a5 n5 c5, .slice a6 n6 c6] ∧ (Ow B w 5 a1 n1 c1 (bys f.cn) ∧ ∀ p, a1 = some p → p.block < S) ∧ (Ow B w 5 a2 n2 c2 (bys f.sn) ∧ ∀ p, a2 = some p → p.block < S) ∧ (Ow B w 5 a3 n3 c3 (bys f.cookie) ∧ ∀ p, a3 = some p → p.block < S) ∧ (Ow B w 5 a4 n4 c4 (bys f.proof) ∧ ∀ p, a4 = some p → p.block < S) ∧ (Ow B w 5 a5 n5 c5 (bys f.body) ∧ ∀ p, a5 = some p → p.block < S) ∧ (Ow B w 5 a6 n6 c6 (bys f.tag) ∧ ∀ p, a6 = some p → p.block < S) ∧ dj a1 a2 ∧ dj a1 a3 ∧ dj a1 a4 ∧ dj a1 a5 ∧ dj a1 a6 ∧ dj a2 a3 ∧ dj a2 a4 ∧ dj a2 a5 ∧ dj a2 a6 ∧ dj a3 a4 ∧ dj a3 a5 ∧ dj a3 a6 ∧ dj a4 a5 ∧ dj a4 a6 ∧ dj a5 a6
theorem FrameO.r {B S : Nat} {w : World} {v : Value} {f : FrameM} (h : FrameO B S w v f) : FrameR w v f := by
  obtain ⟨a1, n1, c1, a2, n2, c2, a3, n3, c3, a4, n4, c4, a5, n5, c5, a6, n6, c6, rfl, ⟨o1, u1⟩, ⟨o2, u2⟩, ⟨o3, u3⟩, ⟨o4, u4⟩, ⟨o5, u5⟩, ⟨o6, u6⟩, d12, d13, d14, d15, d16, d23, d24, d25, d26, d34, d35, d36, d45, d46, d56⟩ := h
  exact ⟨_, _, _, _, _, _, _, _, _, _, _, _, _, _, _, _, _, _, rfl, o1.rd, o2.rd, o3.rd, o4.rd, o5.rd, o6.rd⟩
theorem FrameR.keep0 {w w' : World} {v : Value} {f : FrameM} (h : FrameR w v f) (hg : w.grownBy w' none) : FrameR w' v f := by
  obtain ⟨a1, n1, c1, a2, n2, c2, a3, n3, c3, a4, n4, c4, a5, n5, c5, a6, n6, c6, rfl, h1, h2, h3, h4, h5, h6⟩ := h
  exact ⟨_, _, _, _, _, _, _, _, _, _, _, _, _, _, _, _, _, _, rfl, h1.keep0 hg, h2.keep0 hg, h3.keep0 hg, h4.keep0 hg, h5.keep0 hg, h6.keep0 hg⟩
theorem FrameO.keep0 {B S : Nat} {w w' : World} {v : Value} {f : FrameM} (h : FrameO B S w v f) (hg : w.grownBy w' none) : FrameO B S w' v f := by
  obtain ⟨a1, n1, c1, a2, n2, c2, a3, n3, c3, a4, n4, c4, a5, n5, c5, a6, n6, c6, rfl, ⟨o1, u1⟩, ⟨o2, u2⟩, ⟨o3, u3⟩, ⟨o4, u4⟩, ⟨o5, u5⟩, ⟨o6, u6⟩, d12, d13, d14, d15, d16, d23, d24, d25, d26, d34, d35, d36, d45, d46, d56⟩ := h
  exact ⟨_, _, _, _, _, _, _, _, _, _, _, _, _, _, _, _, _, _, rfl, ⟨o1.keep0 hg, u1⟩, ⟨o2.keep0 hg, u2⟩, ⟨o3.keep0 hg, u3⟩, ⟨o4.keep0 hg, u4⟩, ⟨o5.keep0 hg, u5⟩, ⟨o6.keep0 hg, u6⟩, d12, d13, d14, d15, d16, d23, d24, d25, d26, d34, d35, d36, d45, d46, d56⟩
theorem FrameO.keepI {B S B2 S2 : Nat} {w w' : World} {v : Value} {f : FrameM} (h : FrameO B S w v f) (hg : gbI B2 S2 w w') (hn : S ≤ B2 ∨ S2 ≤ B) : FrameO B S w' v f := by
  obtain ⟨a1, n1, c1, a2, n2, c2, a3, n3, c3, a4, n4, c4, a5, n5, c5, a6, n6, c6, rfl, ⟨o1, u1⟩, ⟨o2, u2⟩, ⟨o3, u3⟩, ⟨o4, u4⟩, ⟨o5, u5⟩, ⟨o6, u6⟩, d12, d13, d14, d15, d16, d23, d24, d25, d26, d34, d35, d36, d45, d46, d56⟩ := h
  exact ⟨_, _, _, _, _, _, _, _, _, _, _, _, _, _, _, _, _, _, rfl, ⟨o1.keepI hg (fun p hp => by have := u1 p hp; have := (o1.lt p hp).1; omega), u1⟩, ⟨o2.keepI hg (fun p hp => by have := u2 p hp; have := (o2.lt p hp).1; omega), u2⟩, ⟨o3.keepI hg (fun p hp => by have := u3 p hp; have := (o3.lt p hp).1; omega), u3⟩, ⟨o4.keepI hg (fun p hp => by have := u4 p hp; have := (o4.lt p hp).1; omega), u4⟩, ⟨o5.keepI hg (fun p hp => by have := u5 p hp; have := (o5.lt p hp).1; omega), u5⟩, ⟨o6.keepI hg (fun p hp => by have := u6 p hp; have := (o6.lt p hp).1; omega), u6⟩, d12, d13, d14, d15, d16, d23, d24, d25, d26, d34, d35, d36, d45, d46, d56⟩
theorem FrameR.shape {w : World} {v : Value} {f : FrameM} (h : FrameR w v f) : ∃ a1 n1 c1 a2 n2 c2 a3 n3 c3 a4 n4 c4 a5 n5 c5 a6 n6 c6, v = .agg #[.int .i64 f.kind, .int .i64 f.id, .slice a1 n1 c1, .slice a2 n2 c2, .int .i64 f.tick, .slice a3 n3 c3, .slice a4 n4 c4, .int .i64 f.epoch, .int .i64 f.seq, .slice a5 n5 c5, .slice a6 n6 c6] := by
  obtain ⟨a1, n1, c1, a2, n2, c2, a3, n3, c3, a4, n4, c4, a5, n5, c5, a6, n6, c6, rfl, _⟩ := h
  exact ⟨_, _, _, _, _, _, _, _, _, _, _, _, _, _, _, _, _, _, rfl⟩
theorem FrameR.below {w w' : World} {v : Value} {f : FrameM} (h : FrameR w v f) (hb : Below w.heap.size w w') : FrameR w' v f := h.keep0 (below_gb hb)
theorem FrameR.agg {w : World} {v : Value} {f : FrameM} (h : FrameR w v f) : ∃ cs : Array Value, v = .agg cs ∧ cs.size = 11 ∧ ∀ u ∈ cs, u.oneCell' = true := by
  obtain ⟨a1, n1, c1, a2, n2, c2, a3, n3, c3, a4, n4, c4, a5, n5, c5, a6, n6, c6, rfl, -, -, -, -, -, -⟩ := h
  exact ⟨_, rfl, rfl, by simp [Value.oneCell']⟩
structure FrameL (f : FrameM) : Prop where
  int1 : I64 f.kind
  int2 : I64 f.id
  len1 : f.cn.length ≤ 9223372036854775807
  len2 : f.sn.length ≤ 9223372036854775807
  int3 : I64 f.tick
  len3 : f.cookie.length ≤ 9223372036854775807
  len4 : f.proof.length ≤ 9223372036854775807
  int4 : I64 f.epoch
  int5 : I64 f.seq
  len5 : f.body.length ≤ 9223372036854775807
  len6 : f.tag.length ≤ 9223372036854775807
theorem FrameO.low {B B' S : Nat} {w : World} {v : Value} {f : FrameM} (h : FrameO B S w v f) (hB : B' ≤ B) : FrameO B' S w v f := by
  obtain ⟨a1, n1, c1, a2, n2, c2, a3, n3, c3, a4, n4, c4, a5, n5, c5, a6, n6, c6, rfl, ⟨o1, u1⟩, ⟨o2, u2⟩, ⟨o3, u3⟩, ⟨o4, u4⟩, ⟨o5, u5⟩, ⟨o6, u6⟩, d12, d13, d14, d15, d16, d23, d24, d25, d26, d34, d35, d36, d45, d46, d56⟩ := h
  exact ⟨_, _, _, _, _, _, _, _, _, _, _, _, _, _, _, _, _, _, rfl, ⟨o1.mono hB, u1⟩, ⟨o2.mono hB, u2⟩, ⟨o3.mono hB, u3⟩, ⟨o4.mono hB, u4⟩, ⟨o5.mono hB, u5⟩, ⟨o6.mono hB, u6⟩, d12, d13, d14, d15, d16, d23, d24, d25, d26, d34, d35, d36, d45, d46, d56⟩
def FrameM.tot (f : FrameM) : Nat := f.cn.length + f.sn.length + f.cookie.length + f.proof.length + f.body.length + f.tag.length
def FrameM.mark (k : Nat) (f : FrameM) : FrameM := { f with cn := markB (k) f.cn.length, sn := markB (k + f.cn.length) f.sn.length, cookie := markB (k + f.cn.length + f.sn.length) f.cookie.length, proof := markB (k + f.cn.length + f.sn.length + f.cookie.length) f.proof.length, body := markB (k + f.cn.length + f.sn.length + f.cookie.length + f.proof.length) f.body.length, tag := markB (k + f.cn.length + f.sn.length + f.cookie.length + f.proof.length + f.body.length) f.tag.length }
set_option maxHeartbeats 1000000 in
theorem laws_toFrame (v : Value) (f : FrameM) (w : World) (h : FrameR w v f) (hn1 : f.cn.length ≤ 1048576) (hn2 : f.sn.length ≤ 1048576) (hn3 : f.cookie.length ≤ 1048576) (hn4 : f.proof.length ≤ 1048576) (hn5 : f.body.length ≤ 1048576) (hn6 : f.tag.length ≤ 1048576) :
    Calls Tryz.prog 8 #[v] w fun e w' => ∃ v', e = .returned v' ∧ FrameO w.heap.size w'.heap.size w' v' f ∧ w.grownBy w' none := by
  obtain ⟨a1, n1, c1, a2, n2, c2, a3, n3, c3, a4, n4, c4, a5, n5, c5, a6, n6, c6, rfl, h1, h2, h3, h4, h5, h6⟩ := h
  go_enter Tryz.func8, Tryz.ntmps8
  go_wp2_with fail
  refine (laws_toByteS _ _ _ f.cn _ (h1.keep0 ?_) (by have := h1.blen; omega)).mono ?_
  · repeat (first | with_reducible exact gb_refl _ | refine gb_alloc ?_ _ | (refine gb_set ?_ (.inl ?_) _; rotate_left; focus (first | (simp; done) | (simp; omega))))
  rintro e w1 ⟨a1x, c1x, rfl, o1, g1⟩
  have u1 := fun p hp => (o1.lt p hp).2
  have G1 : w.grownBy w1 none := gb_trans (by repeat (first | with_reducible exact gb_refl _ | refine gb_alloc ?_ _ | (refine gb_set ?_ (.inl ?_) _; rotate_left; focus (first | (simp; done) | (simp; omega))))) g1
  have bp : Bx w1 (w.heap.size) 29 #[.int .i64 f.kind, .int .i64 f.id, .slice a1 n1 c1, .slice a2 n2 c2, .int .i64 f.tick, .slice a3 n3 c3, .slice a4 n4 c4, .int .i64 f.epoch, .int .i64 f.seq, .slice a5 n5 c5, .slice a6 n6 c6] := Bx.keep0 (bx3 w _ _ _ _ _ _).1 g1
  have br : Bx w1 (w.heap.size + 1) 38 #[.int .i64 0, .int .i64 0, .slice none 0 0, .slice none 0 0, .int .i64 0, .slice none 0 0, .slice none 0 0, .int .i64 0, .int .i64 0, .slice none 0 0, .slice none 0 0] := Bx.keep0 (bx3 w _ _ _ _ _ _).2.1 g1
  have bo : Bx w1 (w.heap.size + 1 + 1) 38 #[.int .i64 f.kind, .int .i64 f.id, .slice none 0 0, .slice none 0 0, .int .i64 0, .slice none 0 0, .slice none 0 0, .int .i64 0, .int .i64 0, .slice none 0 0, .slice none 0 0] := Bx.keep0 (bx3 w _ _ _ _ _ _).2.2 g1
  have hcp := fun o => bp.cell o
  have hfp := fun o => bp.frozen o
  have hcr := fun o => br.cell o
  have hfr := fun o => br.frozen o
  have hco := fun o => bo.cell o
  have hfo := fun o => bo.frozen o
  have hz1 := g1.size
  simp at hz1
  replace o1 := o1.mono (B' := w.heap.size + 3) (by first | (simp; done) | (simp; omega))
  have y0_1 : w.heap.size < w1.heap.size := by omega
  have y1_1 : w.heap.size + 1 < w1.heap.size := by omega
  have y2_1 : w.heap.size + 1 + 1 < w1.heap.size := by omega
  go_wp2_with fail
  refine (laws_toByteS _ _ _ f.sn _ (h2.keep0 ?_) (by have := h2.blen; omega)).mono ?_
  · repeat (first | with_reducible exact G1 | refine gb_alloc ?_ _ | (refine gb_set ?_ (.inl ?_) _; rotate_left; focus (first | (simp; done) | (simp; omega))))
  rintro e w2 ⟨a2x, c2x, rfl, o2, g2⟩
  have u2 := fun p hp => (o2.lt p hp).2
  have G2 : w.grownBy w2 none := gb_trans (by repeat (first | with_reducible exact G1 | refine gb_alloc ?_ _ | (refine gb_set ?_ (.inl ?_) _; rotate_left; focus (first | (simp; done) | (simp; omega))))) g2
  replace o1 : Ow (w.heap.size + 3) w2 5 a1x n1 c1x (bys f.cn) := by
    refine Ow.keep0 ?_ g2
    repeat (first | with_reducible exact o1 | (refine Ow.keepSet ?_ ?_ _; rotate_left; focus (first | (simp; done) | (simp; omega))))
  replace bo : Bx w2 (w.heap.size + 1 + 1) 38 #[.int .i64 f.kind, .int .i64 f.id, .slice a1x n1 c1x, .slice none 0 0, .int .i64 0, .slice none 0 0, .slice none 0 0, .int .i64 0, .int .i64 0, .slice none 0 0, .slice none 0 0] := Bx.keep0 (bo.set 2 (.slice a1x n1 c1x)) g2
  replace bp : Bx w2 (w.heap.size) 29 #[.int .i64 f.kind, .int .i64 f.id, .slice a1 n1 c1, .slice a2 n2 c2, .int .i64 f.tick, .slice a3 n3 c3, .slice a4 n4 c4, .int .i64 f.epoch, .int .i64 f.seq, .slice a5 n5 c5, .slice a6 n6 c6] := Bx.keep0 (bp.setO _ _ (by simp <;> omega)) g2
  replace br : Bx w2 (w.heap.size + 1) 38 #[.int .i64 0, .int .i64 0, .slice none 0 0, .slice none 0 0, .int .i64 0, .slice none 0 0, .slice none 0 0, .int .i64 0, .int .i64 0, .slice none 0 0, .slice none 0 0] := Bx.keep0 (br.setO _ _ (by simp <;> omega)) g2
  clear hcp hfp hcr hfr hco hfo
  have hcp := fun o => bp.cell o
  have hfp := fun o => bp.frozen o
  have hcr := fun o => br.cell o
  have hfr := fun o => br.frozen o
  have hco := fun o => bo.cell o
  have hfo := fun o => bo.frozen o
  have hz2 := g2.size
  simp at hz2
  replace o2 := o2.mono (B' := w1.heap.size) (by first | (simp; done) | (simp; omega))
  have y0_2 : w.heap.size < w2.heap.size := by omega
  have y1_2 : w.heap.size + 1 < w2.heap.size := by omega
  have y2_2 : w.heap.size + 1 + 1 < w2.heap.size := by omega
  go_wp2_with fail
  refine (laws_toByteS _ _ _ f.cookie _ (h3.keep0 ?_) (by have := h3.blen; omega)).mono ?_
  · repeat (first | with_reducible exact G2 | refine gb_alloc ?_ _ | (refine gb_set ?_ (.inl ?_) _; rotate_left; focus (first | (simp; done) | (simp; omega))))
  rintro e w3 ⟨a3x, c3x, rfl, o3, g3⟩
  have u3 := fun p hp => (o3.lt p hp).2
  have G3 : w.grownBy w3 none := gb_trans (by repeat (first | with_reducible exact G2 | refine gb_alloc ?_ _ | (refine gb_set ?_ (.inl ?_) _; rotate_left; focus (first | (simp; done) | (simp; omega))))) g3
  replace o1 : Ow (w.heap.size + 3) w3 5 a1x n1 c1x (bys f.cn) := by
    refine Ow.keep0 ?_ g3
    repeat (first | with_reducible exact o1 | (refine Ow.keepSet ?_ ?_ _; rotate_left; focus (first | (simp; done) | (simp; omega))))
  replace o2 : Ow (w1.heap.size) w3 5 a2x n2 c2x (bys f.sn) := by
    refine Ow.keep0 ?_ g3
    repeat (first | with_reducible exact o2 | (refine Ow.keepSet ?_ ?_ _; rotate_left; focus (first | (simp; done) | (simp; omega))))
  replace bo : Bx w3 (w.heap.size + 1 + 1) 38 #[.int .i64 f.kind, .int .i64 f.id, .slice a1x n1 c1x, .slice a2x n2 c2x, .int .i64 f.tick, .slice none 0 0, .slice none 0 0, .int .i64 0, .int .i64 0, .slice none 0 0, .slice none 0 0] := Bx.keep0 ((bo.set 3 (.slice a2x n2 c2x)).set 4 (.int .i64 f.tick)) g3
  replace bp : Bx w3 (w.heap.size) 29 #[.int .i64 f.kind, .int .i64 f.id, .slice a1 n1 c1, .slice a2 n2 c2, .int .i64 f.tick, .slice a3 n3 c3, .slice a4 n4 c4, .int .i64 f.epoch, .int .i64 f.seq, .slice a5 n5 c5, .slice a6 n6 c6] := Bx.keep0 ((bp.setO _ _ (by simp <;> omega)).setO _ _ (by simp <;> omega)) g3
  replace br : Bx w3 (w.heap.size + 1) 38 #[.int .i64 0, .int .i64 0, .slice none 0 0, .slice none 0 0, .int .i64 0, .slice none 0 0, .slice none 0 0, .int .i64 0, .int .i64 0, .slice none 0 0, .slice none 0 0] := Bx.keep0 ((br.setO _ _ (by simp <;> omega)).setO _ _ (by simp <;> omega)) g3
  clear hcp hfp hcr hfr hco hfo
  have hcp := fun o => bp.cell o
  have hfp := fun o => bp.frozen o
  have hcr := fun o => br.cell o
  have hfr := fun o => br.frozen o
  have hco := fun o => bo.cell o
  have hfo := fun o => bo.frozen o
  have hz3 := g3.size
  simp at hz3
  replace o3 := o3.mono (B' := w2.heap.size) (by first | (simp; done) | (simp; omega))
  have y0_3 : w.heap.size < w3.heap.size := by omega
  have y1_3 : w.heap.size + 1 < w3.heap.size := by omega
  have y2_3 : w.heap.size + 1 + 1 < w3.heap.size := by omega
  go_wp2_with fail
  refine (laws_toByteS _ _ _ f.proof _ (h4.keep0 ?_) (by have := h4.blen; omega)).mono ?_
  · repeat (first | with_reducible exact G3 | refine gb_alloc ?_ _ | (refine gb_set ?_ (.inl ?_) _; rotate_left; focus (first | (simp; done) | (simp; omega))))
  rintro e w4 ⟨a4x, c4x, rfl, o4, g4⟩
  have u4 := fun p hp => (o4.lt p hp).2
  have G4 : w.grownBy w4 none := gb_trans (by repeat (first | with_reducible exact G3 | refine gb_alloc ?_ _ | (refine gb_set ?_ (.inl ?_) _; rotate_left; focus (first | (simp; done) | (simp; omega))))) g4
  replace o1 : Ow (w.heap.size + 3) w4 5 a1x n1 c1x (bys f.cn) := by
    refine Ow.keep0 ?_ g4
    repeat (first | with_reducible exact o1 | (refine Ow.keepSet ?_ ?_ _; rotate_left; focus (first | (simp; done) | (simp; omega))))
  replace o2 : Ow (w1.heap.size) w4 5 a2x n2 c2x (bys f.sn) := by
    refine Ow.keep0 ?_ g4
    repeat (first | with_reducible exact o2 | (refine Ow.keepSet ?_ ?_ _; rotate_left; focus (first | (simp; done) | (simp; omega))))
  replace o3 : Ow (w2.heap.size) w4 5 a3x n3 c3x (bys f.cookie) := by
    refine Ow.keep0 ?_ g4
    repeat (first | with_reducible exact o3 | (refine Ow.keepSet ?_ ?_ _; rotate_left; focus (first | (simp; done) | (simp; omega))))
  replace bo : Bx w4 (w.heap.size + 1 + 1) 38 #[.int .i64 f.kind, .int .i64 f.id, .slice a1x n1 c1x, .slice a2x n2 c2x, .int .i64 f.tick, .slice a3x n3 c3x, .slice none 0 0, .int .i64 0, .int .i64 0, .slice none 0 0, .slice none 0 0] := Bx.keep0 (bo.set 5 (.slice a3x n3 c3x)) g4
  replace bp : Bx w4 (w.heap.size) 29 #[.int .i64 f.kind, .int .i64 f.id, .slice a1 n1 c1, .slice a2 n2 c2, .int .i64 f.tick, .slice a3 n3 c3, .slice a4 n4 c4, .int .i64 f.epoch, .int .i64 f.seq, .slice a5 n5 c5, .slice a6 n6 c6] := Bx.keep0 (bp.setO _ _ (by simp <;> omega)) g4
  replace br : Bx w4 (w.heap.size + 1) 38 #[.int .i64 0, .int .i64 0, .slice none 0 0, .slice none 0 0, .int .i64 0, .slice none 0 0, .slice none 0 0, .int .i64 0, .int .i64 0, .slice none 0 0, .slice none 0 0] := Bx.keep0 (br.setO _ _ (by simp <;> omega)) g4
  clear hcp hfp hcr hfr hco hfo
  have hcp := fun o => bp.cell o
  have hfp := fun o => bp.frozen o
  have hcr := fun o => br.cell o
  have hfr := fun o => br.frozen o
  have hco := fun o => bo.cell o
  have hfo := fun o => bo.frozen o
  have hz4 := g4.size
  simp at hz4
  replace o4 := o4.mono (B' := w3.heap.size) (by first | (simp; done) | (simp; omega))
  have y0_4 : w.heap.size < w4.heap.size := by omega
  have y1_4 : w.heap.size + 1 < w4.heap.size := by omega
  have y2_4 : w.heap.size + 1 + 1 < w4.heap.size := by omega
  go_wp2_with fail
  refine (laws_toByteS _ _ _ f.body _ (h5.keep0 ?_) (by have := h5.blen; omega)).mono ?_
  · repeat (first | with_reducible exact G4 | refine gb_alloc ?_ _ | (refine gb_set ?_ (.inl ?_) _; rotate_left; focus (first | (simp; done) | (simp; omega))))
  rintro e w5 ⟨a5x, c5x, rfl, o5, g5⟩
  have u5 := fun p hp => (o5.lt p hp).2
  have G5 : w.grownBy w5 none := gb_trans (by repeat (first | with_reducible exact G4 | refine gb_alloc ?_ _ | (refine gb_set ?_ (.inl ?_) _; rotate_left; focus (first | (simp; done) | (simp; omega))))) g5
  replace o1 : Ow (w.heap.size + 3) w5 5 a1x n1 c1x (bys f.cn) := by
    refine Ow.keep0 ?_ g5
    repeat (first | with_reducible exact o1 | (refine Ow.keepSet ?_ ?_ _; rotate_left; focus (first | (simp; done) | (simp; omega))))
  replace o2 : Ow (w1.heap.size) w5 5 a2x n2 c2x (bys f.sn) := by
    refine Ow.keep0 ?_ g5
    repeat (first | with_reducible exact o2 | (refine Ow.keepSet ?_ ?_ _; rotate_left; focus (first | (simp; done) | (simp; omega))))
  replace o3 : Ow (w2.heap.size) w5 5 a3x n3 c3x (bys f.cookie) := by
    refine Ow.keep0 ?_ g5
    repeat (first | with_reducible exact o3 | (refine Ow.keepSet ?_ ?_ _; rotate_left; focus (first | (simp; done) | (simp; omega))))
  replace o4 : Ow (w3.heap.size) w5 5 a4x n4 c4x (bys f.proof) := by
    refine Ow.keep0 ?_ g5
    repeat (first | with_reducible exact o4 | (refine Ow.keepSet ?_ ?_ _; rotate_left; focus (first | (simp; done) | (simp; omega))))
  replace bo : Bx w5 (w.heap.size + 1 + 1) 38 #[.int .i64 f.kind, .int .i64 f.id, .slice a1x n1 c1x, .slice a2x n2 c2x, .int .i64 f.tick, .slice a3x n3 c3x, .slice a4x n4 c4x, .int .i64 f.epoch, .int .i64 f.seq, .slice none 0 0, .slice none 0 0] := Bx.keep0 (((bo.set 6 (.slice a4x n4 c4x)).set 7 (.int .i64 f.epoch)).set 8 (.int .i64 f.seq)) g5
  replace bp : Bx w5 (w.heap.size) 29 #[.int .i64 f.kind, .int .i64 f.id, .slice a1 n1 c1, .slice a2 n2 c2, .int .i64 f.tick, .slice a3 n3 c3, .slice a4 n4 c4, .int .i64 f.epoch, .int .i64 f.seq, .slice a5 n5 c5, .slice a6 n6 c6] := Bx.keep0 (((bp.setO _ _ (by simp <;> omega)).setO _ _ (by simp <;> omega)).setO _ _ (by simp <;> omega)) g5
  replace br : Bx w5 (w.heap.size + 1) 38 #[.int .i64 0, .int .i64 0, .slice none 0 0, .slice none 0 0, .int .i64 0, .slice none 0 0, .slice none 0 0, .int .i64 0, .int .i64 0, .slice none 0 0, .slice none 0 0] := Bx.keep0 (((br.setO _ _ (by simp <;> omega)).setO _ _ (by simp <;> omega)).setO _ _ (by simp <;> omega)) g5
  clear hcp hfp hcr hfr hco hfo
  have hcp := fun o => bp.cell o
  have hfp := fun o => bp.frozen o
  have hcr := fun o => br.cell o
  have hfr := fun o => br.frozen o
  have hco := fun o => bo.cell o
  have hfo := fun o => bo.frozen o
  have hz5 := g5.size
  simp at hz5
  replace o5 := o5.mono (B' := w4.heap.size) (by first | (simp; done) | (simp; omega))
  have y0_5 : w.heap.size < w5.heap.size := by omega
  have y1_5 : w.heap.size + 1 < w5.heap.size := by omega
  have y2_5 : w.heap.size + 1 + 1 < w5.heap.size := by omega
  go_wp2_with fail
  refine (laws_toByteS _ _ _ f.tag _ (h6.keep0 ?_) (by have := h6.blen; omega)).mono ?_
  · repeat (first | with_reducible exact G5 | refine gb_alloc ?_ _ | (refine gb_set ?_ (.inl ?_) _; rotate_left; focus (first | (simp; done) | (simp; omega))))
  rintro e w6 ⟨a6x, c6x, rfl, o6, g6⟩
  have u6 := fun p hp => (o6.lt p hp).2
  have G6 : w.grownBy w6 none := gb_trans (by repeat (first | with_reducible exact G5 | refine gb_alloc ?_ _ | (refine gb_set ?_ (.inl ?_) _; rotate_left; focus (first | (simp; done) | (simp; omega))))) g6
  replace o1 : Ow (w.heap.size + 3) w6 5 a1x n1 c1x (bys f.cn) := by
    refine Ow.keep0 ?_ g6
    repeat (first | with_reducible exact o1 | (refine Ow.keepSet ?_ ?_ _; rotate_left; focus (first | (simp; done) | (simp; omega))))
  replace o2 : Ow (w1.heap.size) w6 5 a2x n2 c2x (bys f.sn) := by
    refine Ow.keep0 ?_ g6
    repeat (first | with_reducible exact o2 | (refine Ow.keepSet ?_ ?_ _; rotate_left; focus (first | (simp; done) | (simp; omega))))
  replace o3 : Ow (w2.heap.size) w6 5 a3x n3 c3x (bys f.cookie) := by
    refine Ow.keep0 ?_ g6
    repeat (first | with_reducible exact o3 | (refine Ow.keepSet ?_ ?_ _; rotate_left; focus (first | (simp; done) | (simp; omega))))
  replace o4 : Ow (w3.heap.size) w6 5 a4x n4 c4x (bys f.proof) := by
    refine Ow.keep0 ?_ g6
    repeat (first | with_reducible exact o4 | (refine Ow.keepSet ?_ ?_ _; rotate_left; focus (first | (simp; done) | (simp; omega))))
  replace o5 : Ow (w4.heap.size) w6 5 a5x n5 c5x (bys f.body) := by
    refine Ow.keep0 ?_ g6
    repeat (first | with_reducible exact o5 | (refine Ow.keepSet ?_ ?_ _; rotate_left; focus (first | (simp; done) | (simp; omega))))
  replace bo : Bx w6 (w.heap.size + 1 + 1) 38 #[.int .i64 f.kind, .int .i64 f.id, .slice a1x n1 c1x, .slice a2x n2 c2x, .int .i64 f.tick, .slice a3x n3 c3x, .slice a4x n4 c4x, .int .i64 f.epoch, .int .i64 f.seq, .slice a5x n5 c5x, .slice none 0 0] := Bx.keep0 (bo.set 9 (.slice a5x n5 c5x)) g6
  replace bp : Bx w6 (w.heap.size) 29 #[.int .i64 f.kind, .int .i64 f.id, .slice a1 n1 c1, .slice a2 n2 c2, .int .i64 f.tick, .slice a3 n3 c3, .slice a4 n4 c4, .int .i64 f.epoch, .int .i64 f.seq, .slice a5 n5 c5, .slice a6 n6 c6] := Bx.keep0 (bp.setO _ _ (by simp <;> omega)) g6
  replace br : Bx w6 (w.heap.size + 1) 38 #[.int .i64 0, .int .i64 0, .slice none 0 0, .slice none 0 0, .int .i64 0, .slice none 0 0, .slice none 0 0, .int .i64 0, .int .i64 0, .slice none 0 0, .slice none 0 0] := Bx.keep0 (br.setO _ _ (by simp <;> omega)) g6
  clear hcp hfp hcr hfr hco hfo
  have hcp := fun o => bp.cell o
  have hfp := fun o => bp.frozen o
  have hcr := fun o => br.cell o
  have hfr := fun o => br.frozen o
  have hco := fun o => bo.cell o
  have hfo := fun o => bo.frozen o
  have hz6 := g6.size
  simp at hz6
  replace o6 := o6.mono (B' := w5.heap.size) (by first | (simp; done) | (simp; omega))
  have y0_6 : w.heap.size < w6.heap.size := by omega
  have y1_6 : w.heap.size + 1 < w6.heap.size := by omega
  have y2_6 : w.heap.size + 1 + 1 < w6.heap.size := by omega
  go_wp2
  refine bodyPost_ret (v := .agg #[.int .i64 f.kind, .int .i64 f.id, .slice a1x n1 c1x, .slice a2x n2 c2x, .int .i64 f.tick, .slice a3x n3 c3x, .slice a4x n4 c4x, .int .i64 f.epoch, .int .i64 f.seq, .slice a5x n5 c5x, .slice a6x n6 c6x]) (by simp [results, Tryz.results8, go_sem, hcr]) rfl ⟨_, rfl, ⟨_, _, _, _, _, _, _, _, _, _, _, _, _, _, _, _, _, _, rfl, ⟨?_, ?_⟩, ⟨?_, ?_⟩, ⟨?_, ?_⟩, ⟨?_, ?_⟩, ⟨?_, ?_⟩, ⟨?_, ?_⟩, ?_, ?_, ?_, ?_, ?_, ?_, ?_, ?_, ?_, ?_, ?_, ?_, ?_, ?_, ?_⟩, ?_⟩
  · exact Ow.mono (B := w.heap.size + 3) (by repeat (first | with_reducible exact o1 | (refine Ow.keepSet ?_ ?_ _; rotate_left; focus (first | (simp; done) | (simp; omega))))) (by omega)
  · intro p hp
    have := u1 p hp
    simp
    omega
  · exact Ow.mono (B := w1.heap.size) (by repeat (first | with_reducible exact o2 | (refine Ow.keepSet ?_ ?_ _; rotate_left; focus (first | (simp; done) | (simp; omega))))) (by omega)
  · intro p hp
    have := u2 p hp
    simp
    omega
  · exact Ow.mono (B := w2.heap.size) (by repeat (first | with_reducible exact o3 | (refine Ow.keepSet ?_ ?_ _; rotate_left; focus (first | (simp; done) | (simp; omega))))) (by omega)
  · intro p hp
    have := u3 p hp
    simp
    omega
  · exact Ow.mono (B := w3.heap.size) (by repeat (first | with_reducible exact o4 | (refine Ow.keepSet ?_ ?_ _; rotate_left; focus (first | (simp; done) | (simp; omega))))) (by omega)
  · intro p hp
    have := u4 p hp
    simp
    omega
  · exact Ow.mono (B := w4.heap.size) (by repeat (first | with_reducible exact o5 | (refine Ow.keepSet ?_ ?_ _; rotate_left; focus (first | (simp; done) | (simp; omega))))) (by omega)
  · intro p hp
    have := u5 p hp
    simp
    omega
  · exact Ow.mono (B := w5.heap.size) (by repeat (first | with_reducible exact o6 | (refine Ow.keepSet ?_ ?_ _; rotate_left; focus (first | (simp; done) | (simp; omega))))) (by omega)
  · intro p hp
    have := u6 p hp
    simp
    omega
  · intro p q hp hq; have := u1 p hp; have := (o2.lt q hq).1; omega
  · intro p q hp hq; have := u1 p hp; have := (o3.lt q hq).1; omega
  · intro p q hp hq; have := u1 p hp; have := (o4.lt q hq).1; omega
  · intro p q hp hq; have := u1 p hp; have := (o5.lt q hq).1; omega
  · intro p q hp hq; have := u1 p hp; have := (o6.lt q hq).1; omega
  · intro p q hp hq; have := u2 p hp; have := (o3.lt q hq).1; omega
  · intro p q hp hq; have := u2 p hp; have := (o4.lt q hq).1; omega
  · intro p q hp hq; have := u2 p hp; have := (o5.lt q hq).1; omega
  · intro p q hp hq; have := u2 p hp; have := (o6.lt q hq).1; omega
  · intro p q hp hq; have := u3 p hp; have := (o4.lt q hq).1; omega
  · intro p q hp hq; have := u3 p hp; have := (o5.lt q hq).1; omega
  · intro p q hp hq; have := u3 p hp; have := (o6.lt q hq).1; omega
  · intro p q hp hq; have := u4 p hp; have := (o5.lt q hq).1; omega
  · intro p q hp hq; have := u4 p hp; have := (o6.lt q hq).1; omega
  · intro p q hp hq; have := u5 p hp; have := (o6.lt q hq).1; omega
  · repeat (first | with_reducible exact G6 | (refine gb_set ?_ (.inl ?_) _; rotate_left; focus (first | (simp; done) | (simp; omega))))
set_option maxHeartbeats 1000000 in
theorem laws_szFrame (v : Value) (f : FrameM) (left : Nat) (w : World) (h : FrameR w v f) (hl : left ≤ 1048576) (hb1 : f.cn.length ≤ 9223372036854775807) (hb2 : f.sn.length ≤ 9223372036854775807) (hb3 : f.cookie.length ≤ 9223372036854775807) (hb4 : f.proof.length ≤ 9223372036854775807) (hb5 : f.body.length ≤ 9223372036854775807) (hb6 : f.tag.length ≤ 9223372036854775807) :
    Calls Tryz.prog 5 #[v, .int .i64 left] w fun e w' => (f.tot ≤ left → e = .returned (.int .i64 ((left - f.tot : Nat) : Int))) ∧ (left < f.tot → e = .returned (.int .i64 (-1))) ∧ w.grownBy w' none := by
  obtain ⟨a1, n1, c1, a2, n2, c2, a3, n3, c3, a4, n4, c4, a5, n5, c5, a6, n6, c6, rfl, h1, h2, h3, h4, h5, h6⟩ := h
  have e1 := Lib.hid h1.blen
  have e2 := Lib.hid h2.blen
  have e3 := Lib.hid h3.blen
  have e4 := Lib.hid h4.blen
  have e5 := Lib.hid h5.blen
  have e6 := Lib.hid h6.blen
  by_cases p0 : n1 ≤ left
  · go_enter Tryz.func5, Tryz.ntmps5
    go_wp2_with fail
    refine (laws_szByteS _ _ _ (left) _ (by omega) (by have := e1.out; omega)).mono ?_
    rintro e w2 ⟨hy, hn, rfl⟩
    obtain rfl := hy (by omega)
    clear hy hn
    by_cases p1 : n2 ≤ left - n1
    · go_wp2_with fail
      refine (laws_szByteS _ _ _ (left - n1) _ (by omega) (by have := e2.out; omega)).mono ?_
      rintro e w2 ⟨hy, hn, rfl⟩
      obtain rfl := hy (by omega)
      clear hy hn
      by_cases p2 : n3 ≤ left - n1 - n2
      · go_wp2_with fail
        refine (laws_szByteS _ _ _ (left - n1 - n2) _ (by omega) (by have := e3.out; omega)).mono ?_
        rintro e w2 ⟨hy, hn, rfl⟩
        obtain rfl := hy (by omega)
        clear hy hn
        by_cases p3 : n4 ≤ left - n1 - n2 - n3
        · go_wp2_with fail
          refine (laws_szByteS _ _ _ (left - n1 - n2 - n3) _ (by omega) (by have := e4.out; omega)).mono ?_
          rintro e w2 ⟨hy, hn, rfl⟩
          obtain rfl := hy (by omega)
          clear hy hn
          by_cases p4 : n5 ≤ left - n1 - n2 - n3 - n4
          · go_wp2_with fail
            refine (laws_szByteS _ _ _ (left - n1 - n2 - n3 - n4) _ (by omega) (by have := e5.out; omega)).mono ?_
            rintro e w2 ⟨hy, hn, rfl⟩
            obtain rfl := hy (by omega)
            clear hy hn
            by_cases p5 : n6 ≤ left - n1 - n2 - n3 - n4 - n5
            · go_wp2_with fail
              refine (laws_szByteS _ _ _ (left - n1 - n2 - n3 - n4 - n5) _ (by omega) (by have := e6.out; omega)).mono ?_
              rintro e w2 ⟨hy, hn, rfl⟩
              obtain rfl := hy (by omega)
              clear hy hn
              go_wp2
              go_ret
              refine ⟨fun _ => ?_, fun h9 => ?_, ?_⟩
              · refine ret_i ?_
                simp only [FrameM.tot]
                have := e1.out; have := e2.out; have := e3.out; have := e4.out; have := e5.out; have := e6.out; omega
              · unfold FrameM.tot at h9
                have := e1.out; have := e2.out; have := e3.out; have := e4.out; have := e5.out; have := e6.out; omega
              · exact gb_alloc (gb_refl _) _
            · go_wp2_with fail
              refine (laws_szByteS _ _ _ (left - n1 - n2 - n3 - n4 - n5) _ (by omega) (by have := e6.out; omega)).mono ?_
              rintro e w2 ⟨hy, hn, rfl⟩
              obtain rfl := hn (by omega)
              clear hy hn
              go_wp2
              go_ret
              refine ⟨fun h9 => ?_, fun _ => rfl, ?_⟩
              · unfold FrameM.tot at h9
                have := e1.out; have := e2.out; have := e3.out; have := e4.out; have := e5.out; have := e6.out; omega
              · exact gb_alloc (gb_refl _) _
          · go_wp2_with fail
            refine (laws_szByteS _ _ _ (left - n1 - n2 - n3 - n4) _ (by omega) (by have := e5.out; omega)).mono ?_
            rintro e w2 ⟨hy, hn, rfl⟩
            obtain rfl := hn (by omega)
            clear hy hn
            go_wp2
            go_ret
            refine ⟨fun h9 => ?_, fun _ => rfl, ?_⟩
            · unfold FrameM.tot at h9
              have := e1.out; have := e2.out; have := e3.out; have := e4.out; have := e5.out; have := e6.out; omega
            · exact gb_alloc (gb_refl _) _
        · go_wp2_with fail
          refine (laws_szByteS _ _ _ (left - n1 - n2 - n3) _ (by omega) (by have := e4.out; omega)).mono ?_
          rintro e w2 ⟨hy, hn, rfl⟩
          obtain rfl := hn (by omega)
          clear hy hn
          go_wp2
          go_ret
          refine ⟨fun h9 => ?_, fun _ => rfl, ?_⟩
          · unfold FrameM.tot at h9
            have := e1.out; have := e2.out; have := e3.out; have := e4.out; have := e5.out; have := e6.out; omega
          · exact gb_alloc (gb_refl _) _
      · go_wp2_with fail
        refine (laws_szByteS _ _ _ (left - n1 - n2) _ (by omega) (by have := e3.out; omega)).mono ?_
        rintro e w2 ⟨hy, hn, rfl⟩
        obtain rfl := hn (by omega)
        clear hy hn
        go_wp2
        go_ret
        refine ⟨fun h9 => ?_, fun _ => rfl, ?_⟩
        · unfold FrameM.tot at h9
          have := e1.out; have := e2.out; have := e3.out; have := e4.out; have := e5.out; have := e6.out; omega
        · exact gb_alloc (gb_refl _) _
    · go_wp2_with fail
      refine (laws_szByteS _ _ _ (left - n1) _ (by omega) (by have := e2.out; omega)).mono ?_
      rintro e w2 ⟨hy, hn, rfl⟩
      obtain rfl := hn (by omega)
      clear hy hn
      go_wp2
      go_ret
      refine ⟨fun h9 => ?_, fun _ => rfl, ?_⟩
      · unfold FrameM.tot at h9
        have := e1.out; have := e2.out; have := e3.out; have := e4.out; have := e5.out; have := e6.out; omega
      · exact gb_alloc (gb_refl _) _
  · go_enter Tryz.func5, Tryz.ntmps5
    go_wp2_with fail
    refine (laws_szByteS _ _ _ (left) _ (by omega) (by have := e1.out; omega)).mono ?_
    rintro e w2 ⟨hy, hn, rfl⟩
    obtain rfl := hn (by omega)
    clear hy hn
    go_wp2
    go_ret
    refine ⟨fun h9 => ?_, fun _ => rfl, ?_⟩
    · unfold FrameM.tot at h9
      have := e1.out; have := e2.out; have := e3.out; have := e4.out; have := e5.out; have := e6.out; omega
    · exact gb_alloc (gb_refl _) _
set_option maxHeartbeats 1000000 in
theorem laws_eqFrame (va vb : Value) (f : FrameM) (w : World) (ha : FrameR w va f) (hb : FrameR w vb f) (hn1 : f.cn.length ≤ 1073741824) (hn2 : f.sn.length ≤ 1073741824) (hn3 : f.cookie.length ≤ 1073741824) (hn4 : f.proof.length ≤ 1073741824) (hn5 : f.body.length ≤ 1073741824) (hn6 : f.tag.length ≤ 1073741824) :
    Calls Tryz.prog 12 #[va, vb] w fun e w' => e = .returned (.bool true) ∧ w.grownBy w' none := by
  obtain ⟨a1, n1, c1, a2, n2, c2, a3, n3, c3, a4, n4, c4, a5, n5, c5, a6, n6, c6, rfl, h1, h2, h3, h4, h5, h6⟩ := ha
  obtain ⟨a1b, n1b, c1b, a2b, n2b, c2b, a3b, n3b, c3b, a4b, n4b, c4b, a5b, n5b, c5b, a6b, n6b, c6b, rfl, k1, k2, k3, k4, k5, k6⟩ := hb
  go_enter Tryz.func12, Tryz.ntmps12
  go_wp2_with fail
  refine (laws_eqByteS_same _ _ _ _ _ _ f.cn _ (h1.keep0 (by repeat (first | with_reducible exact gb_refl _ | refine gb_alloc ?_ _ | refine gb_drewN ?_ _))) (k1.keep0 (by repeat (first | with_reducible exact gb_refl _ | refine gb_alloc ?_ _ | refine gb_drewN ?_ _))) hn1).mono ?_
  rintro e w2 ⟨rfl, q1, rfl⟩
  go_wp2_with fail
  refine (laws_eqByteS_same _ _ _ _ _ _ f.sn _ (h2.keep0 (by repeat (first | with_reducible exact gb_refl _ | refine gb_alloc ?_ _ | refine gb_drewN ?_ _))) (k2.keep0 (by repeat (first | with_reducible exact gb_refl _ | refine gb_alloc ?_ _ | refine gb_drewN ?_ _))) hn2).mono ?_
  rintro e w2 ⟨rfl, q2, rfl⟩
  go_wp2_with fail
  refine (laws_eqByteS_same _ _ _ _ _ _ f.cookie _ (h3.keep0 (by repeat (first | with_reducible exact gb_refl _ | refine gb_alloc ?_ _ | refine gb_drewN ?_ _))) (k3.keep0 (by repeat (first | with_reducible exact gb_refl _ | refine gb_alloc ?_ _ | refine gb_drewN ?_ _))) hn3).mono ?_
  rintro e w2 ⟨rfl, q3, rfl⟩
  go_wp2_with fail
  refine (laws_eqByteS_same _ _ _ _ _ _ f.proof _ (h4.keep0 (by repeat (first | with_reducible exact gb_refl _ | refine gb_alloc ?_ _ | refine gb_drewN ?_ _))) (k4.keep0 (by repeat (first | with_reducible exact gb_refl _ | refine gb_alloc ?_ _ | refine gb_drewN ?_ _))) hn4).mono ?_
  rintro e w2 ⟨rfl, q4, rfl⟩
  go_wp2_with fail
  refine (laws_eqByteS_same _ _ _ _ _ _ f.body _ (h5.keep0 (by repeat (first | with_reducible exact gb_refl _ | refine gb_alloc ?_ _ | refine gb_drewN ?_ _))) (k5.keep0 (by repeat (first | with_reducible exact gb_refl _ | refine gb_alloc ?_ _ | refine gb_drewN ?_ _))) hn5).mono ?_
  rintro e w2 ⟨rfl, q5, rfl⟩
  go_wp2_with fail
  refine (laws_eqByteS_same _ _ _ _ _ _ f.tag _ (h6.keep0 (by repeat (first | with_reducible exact gb_refl _ | refine gb_alloc ?_ _ | refine gb_drewN ?_ _))) (k6.keep0 (by repeat (first | with_reducible exact gb_refl _ | refine gb_alloc ?_ _ | refine gb_drewN ?_ _))) hn6).mono ?_
  rintro e w2 ⟨rfl, q6, rfl⟩
  go_wp2
  go_ret
  exact ⟨rfl, (by repeat (first | with_reducible exact gb_refl _ | refine gb_alloc ?_ _ | refine gb_drewN ?_ _))⟩
set_option maxHeartbeats 1000000 in
theorem laws_markFrame (B S : Nat) (v : Value) (f : FrameM) (k : Nat) (w : World) (h : FrameO B S w v f) (hk : k + f.tot ≤ 1073741824) :
    Calls Tryz.prog 14 #[v, .int .i64 k] w fun e w' => e = .returned (.int .i64 ((k + f.tot : Nat) : Int)) ∧ FrameO B S w' v (f.mark k) ∧ gbI B S w w' := by
  obtain ⟨a1, n1, c1, a2, n2, c2, a3, n3, c3, a4, n4, c4, a5, n5, c5, a6, n6, c6, rfl, ⟨o1, u1⟩, ⟨o2, u2⟩, ⟨o3, u3⟩, ⟨o4, u4⟩, ⟨o5, u5⟩, ⟨o6, u6⟩, d12, d13, d14, d15, d16, d23, d24, d25, d26, d34, d35, d36, d45, d46, d56⟩ := h
  have e1 := Lib.hid o1.blen
  have e2 := Lib.hid o2.blen
  have e3 := Lib.hid o3.blen
  have e4 := Lib.hid o4.blen
  have e5 := Lib.hid o5.blen
  have e6 := Lib.hid o6.blen
  have Hk := Lib.hid hk
  clear hk
  have l1 : ∀ p, a1 = some p → p.block < w.heap.size := fun p hp => (o1.lt p hp).2
  have l2 : ∀ p, a2 = some p → p.block < w.heap.size := fun p hp => (o2.lt p hp).2
  have l3 : ∀ p, a3 = some p → p.block < w.heap.size := fun p hp => (o3.lt p hp).2
  have l4 : ∀ p, a4 = some p → p.block < w.heap.size := fun p hp => (o4.lt p hp).2
  have l5 : ∀ p, a5 = some p → p.block < w.heap.size := fun p hp => (o5.lt p hp).2
  have l6 : ∀ p, a6 = some p → p.block < w.heap.size := fun p hp => (o6.lt p hp).2
  go_enter Tryz.func14, Tryz.ntmps14
  go_wp2_with fail
  replace o1 := o1.keep0 (gb_alloc (gb_refl w) (.cells #[.int .i64 f.kind, .int .i64 f.id, .slice a1 n1 c1, .slice a2 n2 c2, .int .i64 f.tick, .slice a3 n3 c3, .slice a4 n4 c4, .int .i64 f.epoch, .int .i64 f.seq, .slice a5 n5 c5, .slice a6 n6 c6] 38))
  replace o2 := o2.keep0 (gb_alloc (gb_refl w) (.cells #[.int .i64 f.kind, .int .i64 f.id, .slice a1 n1 c1, .slice a2 n2 c2, .int .i64 f.tick, .slice a3 n3 c3, .slice a4 n4 c4, .int .i64 f.epoch, .int .i64 f.seq, .slice a5 n5 c5, .slice a6 n6 c6] 38))
  replace o3 := o3.keep0 (gb_alloc (gb_refl w) (.cells #[.int .i64 f.kind, .int .i64 f.id, .slice a1 n1 c1, .slice a2 n2 c2, .int .i64 f.tick, .slice a3 n3 c3, .slice a4 n4 c4, .int .i64 f.epoch, .int .i64 f.seq, .slice a5 n5 c5, .slice a6 n6 c6] 38))
  replace o4 := o4.keep0 (gb_alloc (gb_refl w) (.cells #[.int .i64 f.kind, .int .i64 f.id, .slice a1 n1 c1, .slice a2 n2 c2, .int .i64 f.tick, .slice a3 n3 c3, .slice a4 n4 c4, .int .i64 f.epoch, .int .i64 f.seq, .slice a5 n5 c5, .slice a6 n6 c6] 38))
  replace o5 := o5.keep0 (gb_alloc (gb_refl w) (.cells #[.int .i64 f.kind, .int .i64 f.id, .slice a1 n1 c1, .slice a2 n2 c2, .int .i64 f.tick, .slice a3 n3 c3, .slice a4 n4 c4, .int .i64 f.epoch, .int .i64 f.seq, .slice a5 n5 c5, .slice a6 n6 c6] 38))
  replace o6 := o6.keep0 (gb_alloc (gb_refl w) (.cells #[.int .i64 f.kind, .int .i64 f.id, .slice a1 n1 c1, .slice a2 n2 c2, .int .i64 f.tick, .slice a3 n3 c3, .slice a4 n4 c4, .int .i64 f.epoch, .int .i64 f.seq, .slice a5 n5 c5, .slice a6 n6 c6] 38))
  refine (laws_markByteS B _ _ _ (k) _ _ o1 (by have := Hk.out; unfold FrameM.tot at this; have := e1.out; have := e2.out; have := e3.out; have := e4.out; have := e5.out; have := e6.out; omega)).mono ?_
  rintro e w1 ⟨rfl, z1, r1⟩
  replace o1 := z1
  clear z1
  have g1 := gbI.ofRow (B := B) (S := S) r1 (fun g hg => by obtain ⟨p, hp, rfl⟩ := row_of hg; exact ⟨(o1.lt p hp).1, u1 p hp⟩)
  have bp : Bx w1 w.heap.size 38 #[.int .i64 f.kind, .int .i64 f.id, .slice a1 n1 c1, .slice a2 n2 c2, .int .i64 f.tick, .slice a3 n3 c3, .slice a4 n4 c4, .int .i64 f.epoch, .int .i64 f.seq, .slice a5 n5 c5, .slice a6 n6 c6] := (bx1 w _ _).keepRow r1 (fun hg => by obtain ⟨p, hp, h9⟩ := row_of hg; have := l1 p hp; omega)
  replace o2 := o2.keep r1 d12.ne
  replace o3 := o3.keep r1 d13.ne
  replace o4 := o4.keep r1 d14.ne
  replace o5 := o5.keep r1 d15.ne
  replace o6 := o6.keep r1 d16.ne
  have hcp := fun o => bp.cell o
  go_wp2_with fail
  refine (laws_markByteS B _ _ _ (k + n1) _ _ o2 (by have := Hk.out; unfold FrameM.tot at this; have := e1.out; have := e2.out; have := e3.out; have := e4.out; have := e5.out; have := e6.out; omega)).mono ?_
  rintro e w2 ⟨rfl, z2, r2⟩
  replace o2 := z2
  clear z2
  have g2 := gbI.ofRow (B := B) (S := S) r2 (fun g hg => by obtain ⟨p, hp, rfl⟩ := row_of hg; exact ⟨(o2.lt p hp).1, u2 p hp⟩)
  replace bp := bp.keepRow r2 (fun hg => by obtain ⟨p, hp, h9⟩ := row_of hg; have := l2 p hp; omega)
  replace o1 := o1.keep r2 d12.symm.ne
  replace o3 := o3.keep r2 d23.ne
  replace o4 := o4.keep r2 d24.ne
  replace o5 := o5.keep r2 d25.ne
  replace o6 := o6.keep r2 d26.ne
  replace hcp := fun o => bp.cell o
  go_wp2_with fail
  refine (laws_markByteS B _ _ _ (k + n1 + n2) _ _ o3 (by have := Hk.out; unfold FrameM.tot at this; have := e1.out; have := e2.out; have := e3.out; have := e4.out; have := e5.out; have := e6.out; omega)).mono ?_
  rintro e w3 ⟨rfl, z3, r3⟩
  replace o3 := z3
  clear z3
  have g3 := gbI.ofRow (B := B) (S := S) r3 (fun g hg => by obtain ⟨p, hp, rfl⟩ := row_of hg; exact ⟨(o3.lt p hp).1, u3 p hp⟩)
  replace bp := bp.keepRow r3 (fun hg => by obtain ⟨p, hp, h9⟩ := row_of hg; have := l3 p hp; omega)
  replace o1 := o1.keep r3 d13.symm.ne
  replace o2 := o2.keep r3 d23.symm.ne
  replace o4 := o4.keep r3 d34.ne
  replace o5 := o5.keep r3 d35.ne
  replace o6 := o6.keep r3 d36.ne
  replace hcp := fun o => bp.cell o
  go_wp2_with fail
  refine (laws_markByteS B _ _ _ (k + n1 + n2 + n3) _ _ o4 (by have := Hk.out; unfold FrameM.tot at this; have := e1.out; have := e2.out; have := e3.out; have := e4.out; have := e5.out; have := e6.out; omega)).mono ?_
  rintro e w4 ⟨rfl, z4, r4⟩
  replace o4 := z4
  clear z4
  have g4 := gbI.ofRow (B := B) (S := S) r4 (fun g hg => by obtain ⟨p, hp, rfl⟩ := row_of hg; exact ⟨(o4.lt p hp).1, u4 p hp⟩)
  replace bp := bp.keepRow r4 (fun hg => by obtain ⟨p, hp, h9⟩ := row_of hg; have := l4 p hp; omega)
  replace o1 := o1.keep r4 d14.symm.ne
  replace o2 := o2.keep r4 d24.symm.ne
  replace o3 := o3.keep r4 d34.symm.ne
  replace o5 := o5.keep r4 d45.ne
  replace o6 := o6.keep r4 d46.ne
  replace hcp := fun o => bp.cell o
  go_wp2_with fail
  refine (laws_markByteS B _ _ _ (k + n1 + n2 + n3 + n4) _ _ o5 (by have := Hk.out; unfold FrameM.tot at this; have := e1.out; have := e2.out; have := e3.out; have := e4.out; have := e5.out; have := e6.out; omega)).mono ?_
  rintro e w5 ⟨rfl, z5, r5⟩
  replace o5 := z5
  clear z5
  have g5 := gbI.ofRow (B := B) (S := S) r5 (fun g hg => by obtain ⟨p, hp, rfl⟩ := row_of hg; exact ⟨(o5.lt p hp).1, u5 p hp⟩)
  replace bp := bp.keepRow r5 (fun hg => by obtain ⟨p, hp, h9⟩ := row_of hg; have := l5 p hp; omega)
  replace o1 := o1.keep r5 d15.symm.ne
  replace o2 := o2.keep r5 d25.symm.ne
  replace o3 := o3.keep r5 d35.symm.ne
  replace o4 := o4.keep r5 d45.symm.ne
  replace o6 := o6.keep r5 d56.ne
  replace hcp := fun o => bp.cell o
  go_wp2_with fail
  refine (laws_markByteS B _ _ _ (k + n1 + n2 + n3 + n4 + n5) _ _ o6 (by have := Hk.out; unfold FrameM.tot at this; have := e1.out; have := e2.out; have := e3.out; have := e4.out; have := e5.out; have := e6.out; omega)).mono ?_
  rintro e w6 ⟨rfl, z6, r6⟩
  replace o6 := z6
  clear z6
  have g6 := gbI.ofRow (B := B) (S := S) r6 (fun g hg => by obtain ⟨p, hp, rfl⟩ := row_of hg; exact ⟨(o6.lt p hp).1, u6 p hp⟩)
  replace o1 := o1.keep r6 d16.symm.ne
  replace o2 := o2.keep r6 d26.symm.ne
  replace o3 := o3.keep r6 d36.symm.ne
  replace o4 := o4.keep r6 d46.symm.ne
  replace o5 := o5.keep r6 d56.symm.ne
  go_wp2
  go_ret
  refine ⟨?_, ⟨_, _, _, _, _, _, _, _, _, _, _, _, _, _, _, _, _, _, rfl, ⟨?_, u1⟩, ⟨?_, u2⟩, ⟨?_, u3⟩, ⟨?_, u4⟩, ⟨?_, u5⟩, ⟨?_, u6⟩, d12, d13, d14, d15, d16, d23, d24, d25, d26, d34, d35, d36, d45, d46, d56⟩, (((((((gbI.of0 (gb_alloc (gb_refl w) _)).trans g1).trans g2).trans g3).trans g4).trans g5).trans g6)⟩
  · refine ret_i ?_
    simp only [FrameM.tot]
    have := e1.out; have := e2.out; have := e3.out; have := e4.out; have := e5.out; have := e6.out; omega
  · simp only [FrameM.mark]
    rw [e1.out]
    exact o1
  · simp only [FrameM.mark]
    rw [e1.out, e2.out]
    exact o2
  · simp only [FrameM.mark]
    rw [e1.out, e2.out, e3.out]
    exact o3
  · simp only [FrameM.mark]
    rw [e1.out, e2.out, e3.out, e4.out]
    exact o4
  · simp only [FrameM.mark]
    rw [e1.out, e2.out, e3.out, e4.out, e5.out]
    exact o5
  · simp only [FrameM.mark]
    rw [e1.out, e2.out, e3.out, e4.out, e5.out, e6.out]
    exact o6
end Go.Proofs.YteoglfclliclbaaGreat
