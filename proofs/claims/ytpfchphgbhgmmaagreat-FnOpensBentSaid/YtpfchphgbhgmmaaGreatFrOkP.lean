/-
  What a frame must meet, in plain words. Conditions: none beside those that each theorem names.
-/
import Derived.Test.YtpfchphgbhgmmaaGreatFrame
namespace Go.Proofs.YtpfchphgbhgmmaaGreat
open Go.RowKit
def neN (n : Nat) (b : Int) : Bool := !eqN n b
def neI (a b : Int) : Bool := !eqI a b
theorem not_neN (n : Nat) (b : Int) : (!neN n b) = eqN n b := by simp [neN]
theorem not_neI (a b : Int) : (!neI a b) = eqI a b := by simp [neI]
def frOkN (kind id : Int) (n1 n2 : Nat) (tick : Int) (n3 n4 : Nat) (epoch seq : Int) (n5 n6 : Nat) : Bool :=
  if sealedB kind = true then eqI id 0 && eqN n1 0 && eqN n2 12 && eqI tick 0 && eqN n3 0 && eqN n4 0 && inB epoch 0 4294967295 && inB seq 0 281474976710655 && bodyB kind n5 && eqN n6 16
  else !neI epoch 0 && !neI seq 0 && !neN n5 0 && !neN n6 0 && !neN n1 12 &&
    (if kind = 1 then inB id 1 9 && eqN n2 0 && eqI tick 0 && eqN n3 0 && eqN n4 0
     else if kind = 2 then eqI id 0 && eqN n2 12 && inB tick 0 1000000 && eqN n3 16 && eqN n4 0
     else if kind = 3 then inB id 1 9 && eqN n2 12 && inB tick 0 1000000 && eqN n3 16 && eqN n4 16
     else false)
def frOk (f : FrameM) : Bool := frOkN f.kind f.id f.cn.length f.sn.length f.tick f.cookie.length f.proof.length f.epoch f.seq f.body.length f.tag.length
theorem nilN {l : List UInt8} {n : Nat} (h : l.length = n) : eqL l [] = eqN n 0 := by
  subst h
  cases l with
  | nil => rfl
  | cons x r =>
    rw [Bool.eq_iff_iff]
    simp [eqL, eqN]
    omega
theorem sealed_1 : sealedB 1 = false := by decide
theorem sealed_2 : sealedB 2 = false := by decide
theorem sealed_3 : sealedB 3 = false := by decide
theorem eqI_self (a : Int) : eqI a a = true := by simp [eqI]
theorem eqL_self (a : List UInt8) : eqL a a = true := by simp [eqL]
theorem rd_nilB (w : World) : Rd w none 0 0 (bys []) := Rd.nil w none 0
theorem frameR_mk {w : World} {kind : Int} {id tick epoch seq : Int} {a1 : Option Addr} {n1 c1 : Nat} {l1 : List UInt8} {a2 : Option Addr} {n2 c2 : Nat} {l2 : List UInt8} {a3 : Option Addr} {n3 c3 : Nat} {l3 : List UInt8} {a4 : Option Addr} {n4 c4 : Nat} {l4 : List UInt8} {a5 : Option Addr} {n5 c5 : Nat} {l5 : List UInt8} {a6 : Option Addr} {n6 c6 : Nat} {l6 : List UInt8} (r1 : Rd w a1 n1 c1 (bys l1)) (r2 : Rd w a2 n2 c2 (bys l2)) (r3 : Rd w a3 n3 c3 (bys l3)) (r4 : Rd w a4 n4 c4 (bys l4)) (r5 : Rd w a5 n5 c5 (bys l5)) (r6 : Rd w a6 n6 c6 (bys l6)) : FrameR w (.agg #[.int .i64 kind, .int .i64 id, .slice a1 n1 c1, .slice a2 n2 c2, .int .i64 tick, .slice a3 n3 c3, .slice a4 n4 c4, .int .i64 epoch, .int .i64 seq, .slice a5 n5 c5, .slice a6 n6 c6]) ⟨kind, id, l1, l2, tick, l3, l4, epoch, seq, l5, l6⟩ :=
  ⟨_, _, _, _, _, _, _, _, _, _, _, _, _, _, _, _, _, _, rfl, r1, r2, r3, r4, r5, r6⟩
end Go.Proofs.YtpfchphgbhgmmaaGreat
