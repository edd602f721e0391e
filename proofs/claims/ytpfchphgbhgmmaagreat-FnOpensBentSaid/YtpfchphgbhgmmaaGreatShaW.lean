/-
  Contracts of the functions on words of 32 bits: turns, sums, the table of the rounds. Conditions: none beside those that each theorem names.
-/
import Derived.Test.YtpfchphgbhgmmaaGreatGet
import Derived.Laws.Tables
import Derived.Great.BuildSlice
namespace Go.Proofs.YtpfchphgbhgmmaaGreat
open Go.RowKit
theorem mask_id {x : Nat} (h : x < 4294967296) : bits .and .i64 (x : Int) 4294967295 = (x : Int) := by
  rw [mask32 x (by omega), Nat.mod_eq_of_lt h]
theorem rot_lt63 {x n : Nat} (hx : x < 4294967296) (h0 : 1 ≤ n) : x * 2 ^ (32 - n) < 2 ^ 63 := by
  have h1 : 2 ^ (32 - n) ≤ 2 ^ 31 := Nat.pow_le_pow_right (by decide) (by omega)
  have h2 : x * 2 ^ (32 - n) ≤ 4294967295 * 2 ^ 31 := Nat.mul_le_mul (by omega) h1
  have h3 : (4294967295 * 2 ^ 31 : Nat) < 2 ^ 63 := by decide
  omega
theorem rot_val {x n : Nat} (hx : x < 4294967296) (h0 : 1 ≤ n) : bits .and .i64 (bits .or .i64 ((x / 2 ^ n : Nat) : Int) ((x * 2 ^ (32 - n) : Nat) : Int)) 4294967295 = (rotN x n : Int) := by
  have h1 := rot_lt63 hx h0
  have h2 : x / 2 ^ n < 2 ^ 63 := Nat.lt_of_le_of_lt (Nat.div_le_self _ _) (by omega)
  rw [i64_or _ _ h2 h1, mask32 _ (Nat.or_lt_two_pow h2 h1)]
  rfl
theorem rot_wrap {x n : Nat} (hx : x < 4294967296) (h0 : 1 ≤ n) : IntKind.i64.wrap ((x : Int) * 2 ^ (32 - n)) = ((x * 2 ^ (32 - n) : Nat) : Int) := by
  have h1 := rot_lt63 hx h0
  rw [show ((x : Int) * 2 ^ (32 - n)) = ((x * 2 ^ (32 - n) : Nat) : Int) by push_cast; rfl]
  exact cast63 _ h1
theorem impl_Rot (x n : Nat) (w : World) (hx : x < 4294967296) (h0 : 1 ≤ n) (h1 : n ≤ 31) :
    Calls Tryz.prog 116 #[.int .i64 (x : Int), .int .i64 (n : Int)] w fun e w' => e = .returned (.int .i64 (rotN x n : Int)) ∧ w.grownBy w' none := by
  have m := mask_id hx
  have e1 : ¬ ((n : Int) < 0) := by omega
  have e2 : ¬ ((31 : Int) < (n : Int)) := by omega
  have e3 : ¬ (32 - (n : Int) < 0) := by omega
  have e4 : ¬ ((n : Int) < 1) := by omega
  have e5 : (32 - (n : Int)).toNat = 32 - n := by omega
  have hw := rot_wrap hx h0
  have V := Lib.hid (rot_val hx h0)
  go_enter Tryz.func116, Tryz.ntmps116
  go_wp2
  go_region
  go_wp2
  go_ret
  exact ⟨ret_i (by have := V.out; simpa using this), gb_drew (gb_refl w)⟩
theorem spec_Rot (x n : Nat) (w : World) (hx : x < 4294967296) (h0 : 1 ≤ n) (h1 : n ≤ 31) :
    Calls Tryz.prog 112 #[.int .i64 (x : Int), .int .i64 (n : Int)] w fun e w' => e = .returned (.int .i64 (rotN x n : Int)) ∧ w.grownBy w' none := by
  have m := mask_id hx
  have e1 : ¬ ((n : Int) < 0) := by omega
  have e2 : ¬ ((31 : Int) < (n : Int)) := by omega
  have e3 : ¬ (32 - (n : Int) < 0) := by omega
  have e4 : ¬ ((n : Int) < 1) := by omega
  have e5 : (32 - (n : Int)).toNat = 32 - n := by omega
  have hw := rot_wrap hx h0
  have V := Lib.hid (rot_val hx h0)
  go_enter Tryz.func112, Tryz.ntmps112
  go_wp2
  go_region
  go_wp2
  go_ret
  exact ⟨ret_i (by have := V.out; simpa using this), gb_drew (gb_refl w)⟩
theorem impl_Add32 (a b : Nat) (w : World) (h : a + b < 9223372036854775808) :
    Calls Tryz.prog 118 #[.int .i64 (a : Int), .int .i64 (b : Int)] w fun e w' => e = .returned (.int .i64 (((a + b) % 4294967296 : Nat) : Int)) ∧ w = w' := by
  have V := Lib.hid (mask32 (a + b) h)
  go_enter Tryz.func118, Tryz.ntmps118
  go_wp2
  go_ret
  exact ⟨ret_i (by have := V.out; simpa using this), rfl⟩
theorem kL_get {i : Nat} (h : i < 64) : (wds kL)[i]? = some (.int .i64 ((kL.getD i 0 : Nat) : Int)) := wds_at kL i _ (by rw [List.getD_eq_getElem?_getD, List.getElem?_eq_getElem (by rw [kL_len]; exact h)]; rfl)
theorem wpList_buildTo {P : Program} {ops : Array Oper} {rest : List Oper} {o : Oper} {a : Act} {w : World} {Q : Exit → Act → World → Prop} (hg : o.guard = none) (t : TypeId) (parts : Array (Nat × Operand)) (ho : o.op = .build t parts)
    (cells : Array Value) (hb : P.built t (parts.map fun (i, x) => (i, a.eval x)).toList = some cells)
    (h : wpList P ops Q rest (a.put o.dst (.agg cells)) w) : wpList P ops Q (o :: rest) a w :=
  wpList_build hg t parts ho (by rw [hb]; rfl) (by rw [hb]; exact h)
theorem row_K (w : World) (old : Array Value) (t : TypeId) (i : Nat) (h : i < 64) : ((w.alloc (.cells old t)).setRow w.heap.size (wds kL).toArray).cell? ⟨w.heap.size, i, none⟩ = some (.int .i64 ((kL.getD i 0 : Nat) : Int)) := by
  rw [cell_setRow_same _ _ _ old _ t (0, 0) (heap_alloc_new w _), ← kL_get h]
  simp
theorem run_storeK (w : World) (g : Nat) (t : TypeId) (old : Array Value) (hg : w.heap[g]? = some (.cells old t (0, 0))) (ho : old.size = 64) :
    (storeCells ⟨g, 0, none⟩ (wds kL)).run Tryz.prog w = .ok () (w.setRow g (wds kL).toArray) := by
  have := run_storeCells_from (P := Tryz.prog) g t (wds kL) 0 old w hg (by rw [ho, wds_len, kL_len]) (wds_one kL)
  simpa using this
theorem gb_setRow {a b : World} {row : Option Nat} (h : a.grownBy b row) {g : Nat} (hp : a.heap.size ≤ g) (cs : Array Value) : a.grownBy (b.setRow g cs) row :=
  ⟨h.os, h.tape, h.output, by rw [setRow_size]; exact h.size, fun i hi hr => by rw [setRow_other b g i cs (by omega)]; exact h.block i hi hr⟩
set_option maxRecDepth 100000 in
set_option maxHeartbeats 2000000 in
theorem impl_RoundWord (i : Nat) (w : World) (h : i < 64) :
    Calls Tryz.prog 117 #[.int .i64 (i : Int)] w fun e w' => e = .returned (.int .i64 ((kL.getD i 0 : Nat) : Int)) ∧ w.grownBy w' none := by
  have e1 : ¬ ((i : Int) < 0) := by omega
  have e2 : ¬ ((63 : Int) < (i : Int)) := by omega
  go_enter Tryz.func117, Tryz.ntmps117
  go_wp2_with (refine wpList_buildTo rfl _ _ rfl (wds kL).toArray (by as_aux_lemma => kernel_rfl) ?_)
  have hc := row_K w #[.int .i64 0, .int .i64 0, .int .i64 0, .int .i64 0, .int .i64 0, .int .i64 0, .int .i64 0, .int .i64 0, .int .i64 0, .int .i64 0, .int .i64 0, .int .i64 0, .int .i64 0, .int .i64 0, .int .i64 0, .int .i64 0, .int .i64 0, .int .i64 0, .int .i64 0, .int .i64 0, .int .i64 0, .int .i64 0, .int .i64 0, .int .i64 0, .int .i64 0, .int .i64 0, .int .i64 0, .int .i64 0, .int .i64 0, .int .i64 0, .int .i64 0, .int .i64 0, .int .i64 0, .int .i64 0, .int .i64 0, .int .i64 0, .int .i64 0, .int .i64 0, .int .i64 0, .int .i64 0, .int .i64 0, .int .i64 0, .int .i64 0, .int .i64 0, .int .i64 0, .int .i64 0, .int .i64 0, .int .i64 0, .int .i64 0, .int .i64 0, .int .i64 0, .int .i64 0, .int .i64 0, .int .i64 0, .int .i64 0, .int .i64 0, .int .i64 0, .int .i64 0, .int .i64 0, .int .i64 0, .int .i64 0, .int .i64 0, .int .i64 0, .int .i64 0] 110 i h
  have G := Lib.hid (gb_setRow (gb_alloc (gb_refl w) (.cells #[.int .i64 0, .int .i64 0, .int .i64 0, .int .i64 0, .int .i64 0, .int .i64 0, .int .i64 0, .int .i64 0, .int .i64 0, .int .i64 0, .int .i64 0, .int .i64 0, .int .i64 0, .int .i64 0, .int .i64 0, .int .i64 0, .int .i64 0, .int .i64 0, .int .i64 0, .int .i64 0, .int .i64 0, .int .i64 0, .int .i64 0, .int .i64 0, .int .i64 0, .int .i64 0, .int .i64 0, .int .i64 0, .int .i64 0, .int .i64 0, .int .i64 0, .int .i64 0, .int .i64 0, .int .i64 0, .int .i64 0, .int .i64 0, .int .i64 0, .int .i64 0, .int .i64 0, .int .i64 0, .int .i64 0, .int .i64 0, .int .i64 0, .int .i64 0, .int .i64 0, .int .i64 0, .int .i64 0, .int .i64 0, .int .i64 0, .int .i64 0, .int .i64 0, .int .i64 0, .int .i64 0, .int .i64 0, .int .i64 0, .int .i64 0, .int .i64 0, .int .i64 0, .int .i64 0, .int .i64 0, .int .i64 0, .int .i64 0, .int .i64 0, .int .i64 0] 110)) (Nat.le_refl _) (wds kL).toArray)
  rw [run_storeK _ _ _ _ (heap_alloc_new w _) (by rfl)]
  go_wp2
  go_ret
  exact ⟨rfl, G.out⟩
theorem wpList_buildK {ops : Array Oper} {rest : List Oper} {o : Oper} {a : Act} {w : World} {Q : Exit → Act → World → Prop} (hg : o.guard = none) (parts : Array (Nat × Operand)) (ho : o.op = .buildSlice 24 64 parts)
    (hb : ((Instr.buildSlice 24 64 (parts.map fun (i, x) => (i, a.eval x))).run Tryz.prog w) = .ok (.slice (some ⟨w.heap.size, 0, none⟩) 64 64) (w.alloc (.cells (wds kL).toArray 3)))
    (h : wpList Tryz.prog ops Q rest (a.put o.dst (.slice (some ⟨w.heap.size, 0, none⟩) 64 64)) (w.alloc (.cells (wds kL).toArray 3))) : wpList Tryz.prog ops Q (o :: rest) a w :=
  wpList_plain hg fun _ hK => by
    unfold Oper.wp execOp
    simp only [ho, Sem.run_bind, hb, Result.andThen_ok]
    exact hK _ _ h
set_option maxRecDepth 100000 in
set_option maxHeartbeats 2000000 in
theorem spec_l2K (w : World) : Calls Tryz.prog 110 #[] w fun e w' => ∃ a c, e = .returned (.slice a 64 c) ∧ Ow w.heap.size w' 3 a 64 c (wds kL) ∧ w.grownBy w' none := by
  have O : Hid (Ow w.heap.size (w.alloc (.cells (wds kL).toArray 3)) 3 (some ⟨w.heap.size, 0, none⟩) 64 64 (wds kL)) := by
    have := new_own1 w 3 (wds kL).toArray 64 (by rfl) (by unfold maxLen; omega)
    simpa [Hid] using this
  go_enter Tryz.func110, Tryz.ntmps110
  go_wp2_with (refine wpList_buildK rfl _ rfl (by as_aux_lemma => kernel_rfl) ?_)
  go_ret
  exact ⟨_, _, rfl, O.out, gb_alloc (gb_refl w) _⟩
end Go.Proofs.YtpfchphgbhgmmaaGreat
