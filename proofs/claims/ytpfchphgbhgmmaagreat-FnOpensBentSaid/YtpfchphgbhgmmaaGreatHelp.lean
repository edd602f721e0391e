/-
  Contracts of the laws' own helpers: copies, comparisons, marks. Conditions: none beside those that each theorem names.
-/
import Derived.Test.YtpfchphgbhgmmaaGreatBase
namespace Go.Proofs.YtpfchphgbhgmmaaGreat
open Go.RowKit
theorem beq_t {l k : List UInt8} (h : l = k) : (l == k) = true := by simpa using h
theorem beq_f {l k : List UInt8} (h : l ≠ k) : (l == k) = false := by simpa using h
theorem beq_zt {l k : List Int} (h : l = k) : (l == k) = true := by simpa using h
theorem beq_zf {l k : List Int} (h : l ≠ k) : (l == k) = false := by simpa using h
theorem inf_u8 : (Tryz.prog.info? 5).map (fun i => (i.zero, i.size, i.bytes)) = some (some (.int .u8 0), 1, 1) := by kernel_rfl
theorem inf_int : (Tryz.prog.info? 3).map (fun i => (i.zero, i.size, i.bytes)) = some (some (.int .i64 0), 1, 8) := by kernel_rfl

/-- marks -/
def markB (k n : Nat) : List UInt8 := (List.range n).map fun i => UInt8.ofNat (k + i)
def markZ (k n : Nat) : List Int := (List.range n).map fun i => ((k + i : Nat) : Int)
theorem markB_len (k n : Nat) : (markB k n).length = n := by simp [markB]
theorem markZ_len (k n : Nat) : (markZ k n).length = n := by simp [markZ]
theorem markB_succ (k n : Nat) : markB k (n + 1) = markB k n ++ [UInt8.ofNat (k + n)] := by simp [markB, List.range_succ]
theorem markZ_succ (k n : Nat) : markZ k (n + 1) = markZ k n ++ [((k + n : Nat) : Int)] := by simp [markZ, List.range_succ]
theorem mark_set {l : List Value} {m : List Value} {j : Nat} (u : Value) (hm : m.length = j) (hj : j < l.length) : (m ++ l.drop j).set j u = m ++ [u] ++ l.drop (j + 1) := by
  rw [List.set_append_right _ _ (by omega), hm, Nat.sub_self, List.drop_eq_getElem_cons hj, List.set_cons_zero, List.append_assoc]
  rfl
theorem mod_u8 (k j : Nat) : ((k : Int) + (j : Int)) % 256 = ((UInt8.ofNat (k + j)).toNat : Int) := by
  rw [UInt8.toNat_ofNat']
  omega
theorem markB_at (k n j : Nat) (h : j < n) : (markB k n)[j]? = some (UInt8.ofNat (k + j)) := by simp [markB, h]
theorem markZ_at (k n j : Nat) (h : j < n) : (markZ k n)[j]? = some (((k + j : Nat) : Int)) := by simp [markZ, h]

end Go.Proofs.YtpfchphgbhgmmaaGreat
