/-
  Bytes as strings and back; a comparison of bytes. Conditions: none beside those that each theorem names.
-/
import Derived.Test.YtpfchphgbhgmmaaGreatBytes
import Derived.Laws.BytesArg
namespace Go.Proofs.YtpfchphgbhgmmaaGreat
open Go.RowKit
def str (l : List UInt8) : ByteArray := ⟨l.toArray⟩
theorem str_toList (l : List UInt8) : (str l).toList = l := ByteArray.toList_eq (str l)
theorem conv_zero {P : Program} (w : World) (src e : TypeId) (hs : P.underlying src = some (.slice e)) (he : P.underlying e = some (.int .u8)) (p : Option Addr) (c : Nat) (dst : TypeId) (hd : P.underlying dst = some .string) :
    (convert src dst (.slice p 0 c)).run P w = .ok (.string ByteArray.empty) w := by
  rw [run_convert_bytes_string w src dst e _ 0 c hs he hd]
  cases p <;> simp [Conv.bytesToString, loadCells, loadCellsFrom]
theorem Rd.conv {P : Program} {w : World} {a : Option Addr} {n c : Nat} {l : List UInt8} (h : Rd w a n c (bys l)) (src e dst : TypeId) (hs : P.underlying src = some (.slice e)) (he : P.underlying e = some (.int .u8)) (hd : P.underlying dst = some .string) :
    (convert src dst (.slice a n c)).run P w = .ok (.string (str l)) w := by
  have hl := h.blen
  by_cases h0 : n = 0
  · subst h0
    obtain rfl : l = [] := List.eq_nil_of_length_eq_zero hl
    exact conv_zero w src e hs he a c dst hd
  · obtain ⟨b, off, rfl, _, hc⟩ := h.pos (by omega)
    have := run_convert_bytes_arg (P := P) w src e hs he b off n c (l.map fun x => (x.toNat : Int)) (by simpa using hl) (fun i hi => by
      rw [hc i hi, bys_at l i (by omega)]
      simp [List.getD, show i < l.length by omega]) dst hd
    rw [this]
    simp [str, strOfNums, Function.comp_def]
def eqL (l k : List UInt8) : Bool := l == k
theorem eqL_iff {l k : List UInt8} : eqL l k = true ↔ l = k := by simp [eqL]
theorem bytes_Equal (a : Option Addr) (n c : Nat) (b : Option Addr) (m d : Nat) (l k : List UInt8) (w : World) (h1 : Rd w a n c (bys l)) (h2 : Rd w b m d (bys k)) :
    Calls Tryz.prog 89 #[.slice a n c, .slice b m d] w fun e w' => e = .returned (.bool (eqL l k)) ∧ w = w' := by
  have c1 := h1.conv (P := Tryz.prog) 22 5 9 Tryz.underlying22 Tryz.underlying5 Tryz.underlying9
  have c2 := h2.conv (P := Tryz.prog) 22 5 9 Tryz.underlying22 Tryz.underlying5 Tryz.underlying9
  go_enter Tryz.func89, Tryz.ntmps89
  go_wp2
  go_ret
  exact ⟨ret_b (by rw [str_toList, str_toList]; rfl), rfl⟩
end Go.Proofs.YtpfchphgbhgmmaaGreat
