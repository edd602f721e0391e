/-
  Contracts of the functions that lay heads and bodies: the head of a sealed frame, the body of a proof. Conditions: none beside those that each theorem names.
-/
import Derived.Test.YtdfdhijbafalaaaBytes
namespace Go.Proofs.Ytdfdhijbafalaaa
open Go.RowKit
def b8 (x : Int) : UInt8 := UInt8.ofNat x.toNat
theorem b8_mod {x : Int} (h0 : 0 ≤ x) : x % 256 = ((b8 x).toNat : Int) := by
  rw [b8, UInt8.toNat_ofNat']
  omega
theorem b8_val {x : Int} (h0 : 0 ≤ x) (h1 : x < 256) : ((b8 x).toNat : Int) = x := by rw [← b8_mod h0]; omega
theorem be_len' (n k : Nat) : (be n k).length = k := be_len n k
/-- what a call hands back: bytes of its own -/
def RetB (w : World) (l : List UInt8) (e : Ending) (w' : World) : Prop := ∃ a n c, e = .returned (.slice a n c) ∧ Ow w.heap.size w' 5 a n c (bys l) ∧ w.grownBy w' none
theorem retB {w w' : World} {B : Nat} {a : Option Addr} {n c : Nat} {l l' : List UInt8} (o : Ow B w' 5 a n c (bys l')) (hB : w.heap.size ≤ B) (g : w.grownBy w' none) (e : l' = l) : RetB w l (.returned (.slice a n c)) w' :=
  ⟨a, n, c, rfl, by rw [← e]; exact o.mono hB, g⟩
theorem new_ownB (w : World) (cs : Array Value) (l : List UInt8) (h : cs.toList = bys l) (hn : cs.size ≤ 1073741824) : Ow w.heap.size (w.alloc (.cells cs 5)) 5 (some ⟨w.heap.size, 0, none⟩) cs.size cs.size (bys l) := by
  rw [← h]
  exact new_own1 w 5 cs cs.size rfl (by unfold maxLen; omega)
theorem new_ownBk (w : World) (cs : Array Value) (l : List UInt8) (k : Nat) (hk : w.heap.size = k) (h : cs.toList = bys l) (hn : cs.size ≤ 1073741824) : Ow k (w.alloc (.cells cs 5)) 5 (some ⟨k, 0, none⟩) cs.size cs.size (bys l) := by
  subst hk
  exact new_ownB w cs l h hn
theorem ok_nil {w : World} : ∀ s ∈ ([] : List Sl), s.ok w := fun _ h => by cases h
theorem ok_cons {w : World} {s : Sl} {L : List Sl} (h : Rd w s.a s.n s.c (bys s.l)) (hL : ∀ s ∈ L, s.ok w) : ∀ t ∈ s :: L, t.ok w := by
  intro t ht
  rcases List.mem_cons.1 ht with rfl | h1
  · exact h
  · exact hL t h1
def roleB (r : Int) : Bool := inB r 0 1
theorem roleB_eq (r : Int) : (r == 0 || r == 1) = roleB r := by
  rw [Bool.eq_iff_iff]
  simp [roleB, inB]
  omega
def headOk (role : Int) (sn : Nat) (epoch seq : Int) : Bool := roleB role && ((sn : Int) == 12) && inB epoch 0 4294967295 && inB seq 0 281474976710655
def headM (role : Int) (sn : List UInt8) (epoch seq : Int) : List UInt8 :=
  if headOk role sn.length epoch seq then [b8 role] ++ sn ++ be epoch.toNat 4 ++ be seq.toNat 6 else []
def pbOk (id : Int) (cn sn : Nat) (tick : Int) (ck : Nat) : Bool := inB id 1 9 && ((cn : Int) == 12) && ((sn : Int) == 12) && inB tick 0 1000000 && ((ck : Int) == 16)
def pbM (id : Int) (cn sn : List UInt8) (tick : Int) (ck : List UInt8) : List UInt8 :=
  if pbOk id cn.length sn.length tick ck.length then [102, b8 id] ++ cn ++ sn ++ be tick.toNat 4 ++ ck else []
theorem ne_f {n m : Nat} (h : ((n : Int) == m) = false) : ((n : Int) != m) = true := by simpa using h
theorem ne_t {n m : Nat} (h : ((n : Int) == m) = true) : ((n : Int) != m) = false := by simpa using h
theorem headM_len (role : Int) (sn : List UInt8) (epoch seq : Int) : (headM role sn epoch seq).length ≤ 23 := by
  unfold headM
  split
  · rename_i h
    simp only [headOk, Bool.and_eq_true, beq_iff_eq] at h
    simp [be_len]
    omega
  · simp
theorem pbM_len (id : Int) (cn sn : List UInt8) (tick : Int) (ck : List UInt8) : (pbM id cn sn tick ck).length ≤ 46 := by
  unfold pbM
  split
  · rename_i h
    simp only [pbOk, Bool.and_eq_true, beq_iff_eq] at h
    simp [be_len]
    omega
  · simp
end Go.Proofs.Ytdfdhijbafalaaa
