/-
  Contracts of the keys of a session, of cookies' jars and of nonces. Conditions: none beside those that each theorem names.
-/
import Derived.Test.YtpfchphgbhgmmaaGreatKdf
import Derived.Deep.RegionHeld3
import Derived.Lib.SlBytesConst
namespace Go.Proofs.YtpfchphgbhgmmaaGreat
open Go.RowKit
theorem rd_const (w : World) (e : TypeId) (C : Array Value) (s : List UInt8) (fr : Nat × Nat) (n g : Nat) (hg : g = w.heap.size) (hC : C.toList = bys s) (hn : C.size = n) : Rd (w.alloc (.cells C e fr)) (some ⟨g, 0, none⟩) n n (bys s) := by
  subst hg
  refine ⟨by rw [← hC]; simpa using hn, Nat.le_refl _, fun j hj => ⟨w.heap.size, 0, rfl, ?_⟩⟩
  rw [cell_of_row _ w.heap.size (0 + j) _ e fr (heap_alloc_new w _), Nat.zero_add, ← hC]
  simp
theorem rootM_no {psk cn sn : List UInt8} (h : rootOk psk.length cn.length sn.length = false) : rootM psk cn sn = [] := by simp [rootM, h]
theorem rootOk_f0 {p c s : Nat} (h : inB (p : Int) 1 32 = false) : rootOk p c s = false := by
  cases hx : rootOk p c s with
  | false => rfl
  | true =>
    simp [rootOk] at hx
    rw [inB_t (by omega) (by omega)] at h
    cases h
theorem rootOk_f1 {p c s : Nat} (h : ((c : Int) == 12) = false) : rootOk p c s = false := by
  cases hx : rootOk p c s with
  | false => rfl
  | true =>
    simp [rootOk] at hx
    simp at h
    omega
theorem rootOk_f2 {p c s : Nat} (h : ((s : Int) == 12) = false) : rootOk p c s = false := by
  cases hx : rootOk p c s with
  | false => rfl
  | true =>
    simp [rootOk] at hx
    simp at h
    omega
theorem rootOk_t {p c s : Nat} (h : inB (p : Int) 1 32 = true) (h1 : ((c : Int) == 12) = true) (h2 : ((s : Int) == 12) = true) : rootOk p c s = true := by
  have := inB_iff.1 h
  simp at h1 h2
  simp [rootOk]
  omega
end Go.Proofs.YtpfchphgbhgmmaaGreat
