/-
  Plain facts on new blocks. Conditions: none beside those that each theorem names.
-/
import Derived.Test.YtpfchphgbhgmmaaGreatHead
namespace Go.Proofs.YtpfchphgbhgmmaaGreat
open Go.RowKit
theorem Bx.newk (w : World) (t : TypeId) (cs : Array Value) (k : Nat) (hk : w.heap.size = k) : Bx (w.alloc (.cells cs t)) k t cs := by
  subst hk
  exact Bx.new w t cs
theorem Rd.ofBx {w : World} {b : Nat} {t : TypeId} {cs : Array Value} {l : List UInt8} {n : Nat} (h : Bx w b t cs) (hl : cs.toList = bys l) (hn : cs.size = n) : Rd w (some ⟨b, 0, none⟩) n n (bys l) := by
  refine ⟨by rw [← hl]; simpa using hn, Nat.le_refl _, fun j hj => ⟨b, 0, rfl, ?_⟩⟩
  rw [h.cell (0 + j), ← hl]
  simp
theorem new_rdk (w : World) (cs : Array Value) (t : TypeId) (n k : Nat) (L : List Value) (hk : w.heap.size = k) (hn : cs.size = n) (hL : cs.toList = L) : Rd (w.alloc (.cells cs t)) (some ⟨k, 0, none⟩) n n L := by
  subst hk
  rw [← hL]
  exact new_rd w cs t n hn
theorem Rd.ofBxV {w : World} {b : Nat} {t : TypeId} {cs : Array Value} {L : List Value} {n : Nat} (h : Bx w b t cs) (hL : cs.toList = L) (hn : cs.size = n) : Rd w (some ⟨b, 0, none⟩) n n L := by
  refine ⟨by rw [← hL]; simpa using hn, Nat.le_refl _, fun j hj => ⟨b, 0, rfl, ?_⟩⟩
  rw [h.cell (0 + j), ← hL]
  simp
theorem one_b8 {x : Int} (h0 : 0 ≤ x) (h1 : x < 256) : [Value.int .u8 x] = bys [b8 x] := by rw [bys, List.map_singleton, b8_val h0 h1]
section
variable {w : World}
/-- a slice made inside a region that draws its order -/
theorem step_mkB {ops : Array Oper} {o : Oper} {ac : Act} {K : Act → World → Prop} {Q : Exit → Act → World → Prop} {E : Prop} (hgd : o.guard = none) (x y : Operand)
    (ho : o.op = .makeSlice 22 x y) (n : Nat) (hx : ac.eval x = .int .i64 (n : Int)) (hy : ac.eval y = .int .i64 (n : Int)) (hn : n ≤ 1073741824)
    (h : ∀ w', Ow w.heap.size w' 5 (some ⟨w.heap.size, 0, none⟩) n n (bys (List.replicate n 0)) → w.grownBy w' none → K (ac.put o.dst (.slice (some ⟨w.heap.size, 0, none⟩) n n)) w') :
    if Region.wanted o (yielded ops ac.tmps) = true then Oper.wp Tryz.prog o ac w K Q else E := by
  have hw : Region.wanted o (yielded ops ac.tmps) = true := by simp [Region.wanted, hgd]
  rw [if_pos hw]
  obtain ⟨i0, hi, hz0, hz1, hz2⟩ := info_parts inf_u8
  obtain ⟨w', hr, h2, h3⟩ := run_make_full (P := Tryz.prog) w w.heap.size 22 5 i0 (.int .u8 0) 1 Tryz.underlying22 hi hz0 hz1 .i64 .i64 n (by rw [hz2]; omega) (by unfold maxLen; omega) (Nat.le_refl _)
  unfold Oper.wp execOp
  simp only [ho, Sem.run_bind, Sem.run_pure, Result.andThen_ok, hx, hy, hr]
  refine h w' ⟨?_⟩ h3
  rw [show (Value.int IntKind.u8 0).cells = #[.int .u8 0] from rfl, Nat.mul_one, toList_madeCells_one] at h2
  rw [show bys (List.replicate n 0) = List.replicate n (.int .u8 0) by simp [bys]]
  exact h2
theorem run_bB (z : Int) (w : World) : (Instr.buildSlice 22 1 #[(0, .int .u8 z)]).run Tryz.prog w = .ok (.slice (some ⟨w.heap.size, 0, none⟩) 1 1) (w.alloc (.cells #[.int .u8 z] 5)) := by kernel_rfl
/-- a slice of one byte made inside a region that draws its order -/
theorem step_bB {ops : Array Oper} {o : Oper} {ac : Act} {K : Act → World → Prop} {Q : Exit → Act → World → Prop} {E : Prop} (hgd : o.guard = none) (x : Operand)
    (ho : o.op = .buildSlice 22 1 #[(0, x)]) (z : Int) (b : UInt8) (hx : ac.eval x = .int .u8 z) (hz : z = (b.toNat : Int))
    (h : ∀ a' w', Ow w.heap.size w' 5 a' 1 1 (bys [b]) → w.grownBy w' none → K (ac.put o.dst (.slice a' 1 1)) w') :
    if Region.wanted o (yielded ops ac.tmps) = true then Oper.wp Tryz.prog o ac w K Q else E := by
  have hw : Region.wanted o (yielded ops ac.tmps) = true := by simp [Region.wanted, hgd]
  rw [if_pos hw]
  unfold Oper.wp execOp
  simp only [ho, Sem.run_bind, Sem.run_pure, Result.andThen_ok, List.map_toArray, List.map_cons, List.map_nil, hx, run_bB]
  subst hz
  exact h _ _ (new_ownB w #[.int .u8 (b.toNat : Int)] [b] rfl (by simp)) (gb_alloc (gb_refl w) _)
/-- bytes appended inside a region that draws its order -/
theorem step_appB {ops : Array Oper} {o : Oper} {ac : Act} {K : Act → World → Prop} {Q : Exit → Act → World → Prop} {E : Prop} (hgd : o.guard = none) (s x : Operand)
    (ho : o.op = .call { callee := .builtin .append, args := #[s, x], argTypes := #[22, 22] })
    (w0 : World) (B : Nat) (a : Option Addr) (n c : Nat) (l : List UInt8) (hse : ac.eval s = .slice a n c) (hown : Ow B w 5 a n c (bys l)) (b : Option Addr) (m d : Nat) (k : List UInt8) (hx : ac.eval x = .slice b m d) (hs : Rd w b m d (bys k))
    (hsz : l.length + k.length ≤ 1073741824) (G : w0.grownBy w none) (hB : w0.heap.size ≤ B) (hbase : B ≤ w.heap.size)
    (h : ∀ a' n' c' w', Ow B w' 5 a' n' c' (bys (l ++ k)) → w0.grownBy w' none → K (ac.put o.dst (.slice a' n' c')) w') :
    if Region.wanted o (yielded ops ac.tmps) = true then Oper.wp Tryz.prog o ac w K Q else E := by
  obtain ⟨i0, hi, hz0, hz1, hz2⟩ := info_parts inf_u8
  have h1 := hown.blen
  have h2 := hs.blen
  refine step_app hgd s x 22 22 ho B 5 i0 (.int .u8 0) 1 Tryz.underlying22 hi hz0 hz1 hz2 rfl a n c (bys l) hse hown _ hx m (bys k) (hs.src Tryz.underlying22 (bys_one _)) (by unfold maxLen; omega) (by omega) hbase ?_
  intro a' c' w' o' g' _
  rw [← bys_app] at o'
  exact h _ _ _ _ o' (gb_app G hown hB g')
end
end Go.Proofs.YtpfchphgbhgmmaaGreat
