/-
  A law of the walk for one cell of a struct's variable, laid inside a region that draws its order. Conditions: none beside those that each theorem names.
-/
import Derived.Test.YtpfchphgbhgmmaaGreatCell
import Derived.Deep.RegionHeld3
namespace Go.Proofs.YtpfchphgbhgmmaaGreat
open Go.RowKit
theorem gbI_row {B S : Nat} {a b c : World} {q : Nat} (h : gbI B S a b) (k : b.grownBy c (some q)) (h1 : B ≤ q) (h2 : q < S) : gbI B S a c :=
  h.trans (gbI.ofRow k (fun g e => by cases e; exact ⟨h1, h2⟩))
theorem si_int : (Tryz.prog.info? 3).map (·.size) = some 1 := by kernel_rfl
theorem si_bytes : (Tryz.prog.info? 22).map (·.size) = some 1 := by kernel_rfl
/-- one cell of a struct's variable is laid inside a region that draws its order -/
theorem step_set1 {w : World} {ops : Array Oper} {o : Oper} {ac : Act} {K : Act → World → Prop} {Q : Exit → Act → World → Prop} {E : Prop} (hgd : o.guard = none) (hd : o.dst = none) (ty : TypeId) (x y : Operand) (ho : o.op = .store ty x y)
    (q j : Nat) (u : Value) (hx : ac.eval x = .pointer (some ⟨q, j, none⟩)) (hy : ac.eval y = u) (T : TypeId) (cs : Array Value) (hb : Bx w q T cs) (hj : j < cs.size) (hi : (Tryz.prog.info? ty).map (·.size) = some 1) (hu : u.cells = #[u]) (h1 : u.oneCell' = true)
    (h : ∀ w', Bx w' q T (cs.setIfInBounds j u) → w.grownBy w' (some q) → K ac w') : if Region.wanted o (yielded ops ac.tmps) = true then Oper.wp Tryz.prog o ac w K Q else E := by
  have hw : Region.wanted o (yielded ops ac.tmps) = true := by simp [Region.wanted, hgd]
  rw [if_pos hw]
  have hs := run_storeCells_cells (P := Tryz.prog) q j [u] 0 w (fun i hi => by
    obtain rfl : i = 0 := by simpa using hi
    rw [hb.cell]
    simp [hj]) (fun i hi => hb.frozen _) (fun v hv => by simp at hv; subst hv; exact h1)
  have hr : (storeVar ty ⟨q, j, none⟩ u).run Tryz.prog w = .ok () (w.setCell ⟨q, j, none⟩ u) := by
    cases hq : Tryz.prog.info? ty with
    | none => simp [hq] at hi
    | some i =>
      have hz : i.size = 1 := by simpa [hq] using hi
      simp only [Nat.add_zero] at hs
      simp [storeVar, sizeOf, typeInfo, hq, hu, hz, hs, World.setCells]
  unfold Oper.wp execOp
  simp only [ho, hx, hy, Instr.storeAt, Instr.sureAddr, Sem.run_bind, Sem.run_pure, Result.andThen_ok, hr]
  have hp : ac.put o.dst undef = ac := by rw [hd]; rfl
  have := h _ (hb.set j u) (gb_set (gb_reflr w _) (.inr rfl) u)
  rw [← hp] at this
  exact this
end Go.Proofs.YtpfchphgbhgmmaaGreat
