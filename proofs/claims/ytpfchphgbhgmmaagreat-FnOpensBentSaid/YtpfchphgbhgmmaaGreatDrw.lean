/-
  How a draw stands: the cursor, what was drawn, the variables; the steps of a walk in these words. Conditions: none beside those that each theorem names.
-/
import Derived.Test.YtpfchphgbhgmmaaGreatDraw
import Derived.Test.YtpfchphgbhgmmaaGreatCell
import Derived.Test.YtpfchphgbhgmmaaGreatSet1
namespace Go.Proofs.YtpfchphgbhgmmaaGreat
open Go.RowKit
/-- a slice and what it reads as -/
structure Sv where
  a : Option Addr
  n : Nat
  c : Nat
  xs : List Value
/-- a variable in a block of its own -/
structure Vb where
  q : Nat
  t : TypeId
  cs : Array Value
/-- the cursor stands in block cb; nothing else that w0 held has turned; the variables bs; the slices L read -/
structure DS (B cb : Nat) (w0 w : World) (bs : List Vb) (L : List Sv) : Prop where
  cur : Cur B w cb
  lb : B ≤ w0.heap.size
  dr : Dr cb w0 w
  rs : ∀ s ∈ L, Rd w s.a s.n s.c s.xs ∧ (0 < s.n → ∀ p, s.a = some p → (w0.heap.size ≤ p.block ∧ p.block ≠ cb) ∧ ∀ b ∈ bs, p.block ≠ b.q) ∧ s.n ≤ 256
  bx : ∀ b ∈ bs, Bx w b.q b.t b.cs ∧ w0.heap.size ≤ b.q ∧ b.q ≠ cb
  dj : bs.Pairwise fun x y => x.q ≠ y.q
section
variable {B cb : Nat} {w0 w w' : World} {bs : List Vb} {L : List Sv}
theorem DS.start (h : Cur B w cb) : DS B cb w w [] [] := ⟨h, Nat.le_trans h.le (Nat.le_of_lt h.lt), Dr.refl _ _, by simp, by simp, List.Pairwise.nil⟩
theorem DS.step (D : DS B cb w0 w bs L) (c : Cur B w' cb) (d : Dr cb w w') : DS B cb w0 w' bs L :=
  ⟨c, D.lb, D.dr.trans d, fun s hs => ⟨(D.rs s hs).1.keepP d (fun h0 p hp => by have := ((D.rs s hs).2.1 h0 p hp).1.2; omega), (D.rs s hs).2⟩,
    fun b hb => ⟨(D.bx b hb).1.keepI d (by have := (D.bx b hb).2.2; omega), (D.bx b hb).2⟩, D.dj⟩
theorem DS.init {w1 : World} (c : Cur w.heap.size w1 cb) (g : w.grownBy w1 none) : DS w.heap.size cb w w1 [] [] := ⟨c, Nat.le_refl _, Dr.of0 g, by simp, by simp, List.Pairwise.nil⟩
theorem DS.init1 {w1 : World} {q : Nat} {t : TypeId} {cs : Array Value} (h : Bx w q t cs) (c : Cur w0.heap.size w1 cb) (g0 : w0.grownBy w none) (hq : w0.heap.size ≤ q) (hc : w.heap.size ≤ cb) (g : w.grownBy w1 none) : DS w0.heap.size cb w0 w1 [⟨q, t, cs⟩] [] :=
  ⟨c, Nat.le_refl _, Dr.of0 (gb_trans g0 g), by simp, by
    intro b hb
    rw [List.mem_singleton] at hb
    subst hb
    have := h.lt
    exact ⟨h.keep0 g, hq, by simp only; omega⟩, List.pairwise_singleton _ _⟩
theorem DS.gb (D : DS B cb w0 w bs L) (hc : w0.heap.size ≤ cb) : w0.grownBy w none := D.dr.gb hc
theorem DS.grow (D : DS B cb w0 w bs L) (g : w.grownBy w' none) : DS B cb w0 w' bs L := D.step (D.cur.keep0 g) (Dr.of0 g)
theorem DS.alloc (D : DS B cb w0 w bs L) (o : Obj) : DS B cb w0 (w.alloc o) bs L := D.grow (gb_alloc (gb_refl w) o)
theorem DS.drew (D : DS B cb w0 w bs L) : DS B cb w0 w.drew bs L := D.grow (gb_drew (gb_refl w))
theorem DS.drewN (D : DS B cb w0 w bs L) (n : Nat) : DS B cb w0 (w.drewN n) bs L := D.grow (gb_drewN (gb_refl w) n)
theorem DS.add (D : DS B cb w0 w bs L) {a : Option Addr} {n c : Nat} {l : List Value} (r : Rd w a n c l) (h : 0 < n → ∀ p, a = some p → (w0.heap.size ≤ p.block ∧ p.block ≠ cb) ∧ ∀ b ∈ bs, p.block ≠ b.q) (hn : n ≤ 256) : DS B cb w0 w bs (⟨a, n, c, l⟩ :: L) :=
  ⟨D.cur, D.lb, D.dr, fun s hs => by
    rcases List.mem_cons.1 hs with rfl | hs
    · exact ⟨r, h, hn⟩
    · exact D.rs s hs, D.bx, D.dj⟩
/-- a slice that a callee has made -/
theorem DS.addF (D : DS B cb w0 w bs L) {L' : List Sv} (D' : DS B cb w0 w' bs L') {a : Option Addr} {n c : Nat} {l : List Value} (r : Rd w' a n c l) (hf : 0 < n → ∀ p, a = some p → w.heap.size ≤ p.block) (hn : n ≤ 256) : DS B cb w0 w' bs (⟨a, n, c, l⟩ :: L') :=
  D'.add r (fun h0 p hp => ⟨⟨Nat.le_trans D.dr.size (hf h0 p hp), by have := D.cur.lt; have := hf h0 p hp; omega⟩, fun b hb => by
    have h1 := (D.bx b hb).1.lt
    have h2 := hf h0 p hp
    omega⟩) hn
theorem DS.addO (D : DS B cb w0 w bs L) {L' : List Sv} (D' : DS B cb w0 w' bs L') {e : TypeId} {a : Option Addr} {n c : Nat} {l : List Value} (o : Ow w.heap.size w' e a n c l) (hn : n ≤ 256) : DS B cb w0 w' bs (⟨a, n, c, l⟩ :: L') :=
  D.addF D' o.rd (fun _ p hp => (o.lt p hp).1) hn
theorem DS.box (D : DS B cb w0 w bs L) (cs : Array Value) (t : TypeId) : DS B cb w0 (w.alloc (.cells cs t)) (⟨w.heap.size, t, cs⟩ :: bs) L :=
  ⟨D.cur.alloc _, D.lb, D.dr.alloc _, fun s hs => ⟨(D.alloc (.cells cs t)).rs s hs |>.1, fun h0 p hp => ⟨((D.rs s hs).2.1 h0 p hp).1, fun b hb => by
    rcases List.mem_cons.1 hb with rfl | hb
    · obtain ⟨b1, off, e, hlt, -⟩ := (D.rs s hs).1.pos h0
      rw [e] at hp
      cases hp
      exact Nat.ne_of_lt hlt
    · exact ((D.rs s hs).2.1 h0 p hp).2 b hb⟩, (D.rs s hs).2.2⟩, fun b hb => by
    rcases List.mem_cons.1 hb with rfl | hb
    · exact ⟨Bx.new w t cs, D.dr.size, Nat.ne_of_gt D.cur.lt⟩
    · exact (D.alloc (.cells cs t)).bx b hb, List.pairwise_cons.2 ⟨fun b hb => Nat.ne_of_gt (D.bx b hb).1.lt, D.dj⟩⟩
theorem DS.boxG (D : DS B cb w0 w bs L) {q : Nat} {cs : Array Value} {t : TypeId} (hq : w.heap.size ≤ q) (hb : Bx w' q t cs) (g : w.grownBy w' none) : DS B cb w0 w' (⟨q, t, cs⟩ :: bs) L :=
  have E := D.grow g
  ⟨E.cur, E.lb, E.dr, fun s hs => ⟨(E.rs s hs).1, fun h0 p hp => ⟨((D.rs s hs).2.1 h0 p hp).1, fun b hb => by
    rcases List.mem_cons.1 hb with rfl | hb
    · obtain ⟨b1, off, e, hlt, -⟩ := (D.rs s hs).1.pos h0
      rw [e] at hp
      cases hp
      simp only
      omega
    · exact ((D.rs s hs).2.1 h0 p hp).2 b hb⟩, (D.rs s hs).2.2⟩, fun b h9 => by
    rcases List.mem_cons.1 h9 with rfl | h9
    · exact ⟨hb, Nat.le_trans D.dr.size hq, by have := D.cur.lt; simp only; omega⟩
    · exact E.bx b h9, List.pairwise_cons.2 ⟨fun b h9 => by have := (D.bx b h9).1.lt; simp only; omega, D.dj⟩⟩
theorem DS.row (D : DS B cb w0 w bs L) {q : Nat} {t : TypeId} {cs : Array Value} {b1 b2 : List Vb} {old : Array Value} (e : bs = b1 ++ ⟨q, t, old⟩ :: b2) (hb : Bx w' q t cs) (g : w.grownBy w' (some q)) : DS B cb w0 w' (b1 ++ ⟨q, t, cs⟩ :: b2) L := by
  subst e
  have hq := (D.bx ⟨q, t, old⟩ (by simp)).2
  simp only at hq
  obtain ⟨hq, hqc⟩ := hq
  have hlb := D.lb
  have hne : ∀ b ∈ b1 ++ b2, b.q ≠ q := by
    have h := D.dj
    rw [List.pairwise_append, List.pairwise_cons] at h
    intro b hb
    rcases List.mem_append.1 hb with h1 | h1
    · exact h.2.2 b h1 ⟨q, t, old⟩ (by simp)
    · exact fun e => h.2.1.1 b h1 e.symm
  refine ⟨D.cur.keepI (gbI.ofRow (B := q) (S := q + 1) g (fun _ e => by cases e; omega)) (by omega) (by omega), D.lb, ⟨g.os.trans D.dr.os, g.tape.trans D.dr.tape, g.output.trans D.dr.output, Nat.le_trans D.dr.size g.size, fun k hk hn => (g.block k (Nat.lt_of_lt_of_le hk D.dr.size) (fun e => by cases e; omega)).trans (D.dr.block k hk hn)⟩, fun s hs => ⟨(D.rs s hs).1.keepP (gbI.ofRow (B := q) (S := q + 1) g (fun _ e => by cases e; omega)) (fun h0 p hp => ?_), fun h0 p hp => ⟨((D.rs s hs).2.1 h0 p hp).1, fun b hb => ?_⟩, (D.rs s hs).2.2⟩, fun b h9 => ?_, ?_⟩
  · have := ((D.rs s hs).2.1 h0 p hp).2 ⟨q, t, old⟩ (by simp)
    simp only at this
    omega
  · rcases List.mem_append.1 hb with h1 | h1
    · exact ((D.rs s hs).2.1 h0 p hp).2 b (by simp [h1])
    · rcases List.mem_cons.1 h1 with rfl | h1
      · exact ((D.rs s hs).2.1 h0 p hp).2 ⟨q, t, old⟩ (by simp)
      · exact ((D.rs s hs).2.1 h0 p hp).2 b (by simp [h1])
  · rcases List.mem_append.1 h9 with h1 | h1
    · have := D.bx b (by simp [h1])
      exact ⟨this.1.keepRow g (fun e => hne b (by simp [h1]) (by simpa using e.symm)), this.2⟩
    · rcases List.mem_cons.1 h1 with rfl | h1
      · exact ⟨hb, hq, hqc⟩
      · have := D.bx b (by simp [h1])
        exact ⟨this.1.keepRow g (fun e => hne b (by simp [h1]) (by simpa using e.symm)), this.2⟩
  · have h := D.dj
    rw [List.pairwise_append, List.pairwise_cons] at h ⊢
    refine ⟨h.1, ⟨h.2.1.1, h.2.1.2⟩, fun x hx y hy => ?_⟩
    rcases List.mem_cons.1 hy with rfl | hy
    · exact h.2.2 x hx ⟨q, t, old⟩ (by simp)
    · exact h.2.2 x hx y (by simp [hy])
end

section
variable {B cb : Nat} {w0 w w' : World} {bs : List Vb} {L : List Sv}
theorem wpList_alD {ops : Array Oper} {rest : List Oper} {o : Oper} {ac : Act} {Q : Exit → Act → World → Prop} (D : DS B cb w0 w bs L) (hgd : o.guard = none) (T : TypeId) (z : Array Value) (ho : o.op = .alloc T) (hr : mksA T z)
    (h : ∀ q w', DS B cb w0 w' (⟨q, T, z⟩ :: bs) L → wpList Tryz.prog ops Q rest (ac.put o.dst (.pointer (some ⟨q, 0, none⟩))) w') : wpList Tryz.prog ops Q (o :: rest) ac w :=
  wpList_al hgd T z ho hr fun q w' h1 h2 h3 => h q w' (D.boxG h1 h2 h3)
theorem wpList_stD {ops : Array Oper} {rest : List Oper} {o : Oper} {ac : Act} {Q : Exit → Act → World → Prop} {q : Nat} {T : TypeId} {old : Array Value} {b1 b2 : List Vb} (D : DS B cb w0 w (b1 ++ ⟨q, T, old⟩ :: b2) L) (hgd : o.guard = none) (x y : Operand) (ho : o.op = .store T x y)
    (cs : Array Value) (hx : ac.eval x = .pointer (some ⟨q, 0, none⟩)) (hy : ac.eval y = .agg cs) (hi : (Tryz.prog.info? T).map (·.size) = some cs.size) (hold : old.size = cs.size) (h1 : cs.all (·.oneCell') = true)
    (h : ∀ w', DS B cb w0 w' (b1 ++ ⟨q, T, cs⟩ :: b2) L → wpList Tryz.prog ops Q rest (ac.put o.dst undef) w') : wpList Tryz.prog ops Q (o :: rest) ac w :=
  wpList_stR hgd T x y ho q cs old hx hy (D.bx _ (List.mem_append_right _ (List.mem_cons_self ..))).1 hi hold h1 fun w' h2 h3 => h w' (D.row rfl h2 h3)
theorem wpList_stD0 {ops : Array Oper} {rest : List Oper} {o : Oper} {ac : Act} {Q : Exit → Act → World → Prop} {q : Nat} {T : TypeId} {old : Array Value} {b2 : List Vb} (D : DS B cb w0 w (⟨q, T, old⟩ :: b2) L) (hgd : o.guard = none) (x y : Operand) (ho : o.op = .store T x y)
    (cs : Array Value) (hx : ac.eval x = .pointer (some ⟨q, 0, none⟩)) (hy : ac.eval y = .agg cs) (hi : (Tryz.prog.info? T).map (·.size) = some cs.size) (hold : old.size = cs.size) (h1 : cs.all (·.oneCell') = true)
    (h : ∀ w', DS B cb w0 w' (⟨q, T, cs⟩ :: b2) L → wpList Tryz.prog ops Q rest (ac.put o.dst undef) w') : wpList Tryz.prog ops Q (o :: rest) ac w :=
  wpList_stD (b1 := []) D hgd x y ho cs hx hy hi hold h1 h
theorem wpList_stD1 {ops : Array Oper} {rest : List Oper} {o : Oper} {ac : Act} {Q : Exit → Act → World → Prop} {b : Vb} {q : Nat} {T : TypeId} {old : Array Value} {b2 : List Vb} (D : DS B cb w0 w (b :: ⟨q, T, old⟩ :: b2) L) (hgd : o.guard = none) (x y : Operand) (ho : o.op = .store T x y)
    (cs : Array Value) (hx : ac.eval x = .pointer (some ⟨q, 0, none⟩)) (hy : ac.eval y = .agg cs) (hi : (Tryz.prog.info? T).map (·.size) = some cs.size) (hold : old.size = cs.size) (h1 : cs.all (·.oneCell') = true)
    (h : ∀ w', DS B cb w0 w' (b :: ⟨q, T, cs⟩ :: b2) L → wpList Tryz.prog ops Q rest (ac.put o.dst undef) w') : wpList Tryz.prog ops Q (o :: rest) ac w :=
  wpList_stD (b1 := [b]) D hgd x y ho cs hx hy hi hold h1 h
theorem wpList_set1 {ops : Array Oper} {rest : List Oper} {o : Oper} {ac : Act} {Q : Exit → Act → World → Prop} (hgd : o.guard = none) (ty : TypeId) (x y : Operand) (ho : o.op = .store ty x y)
    (q j : Nat) (u : Value) (hx : ac.eval x = .pointer (some ⟨q, j, none⟩)) (hy : ac.eval y = u) (T : TypeId) (cs : Array Value) (hb : Bx w q T cs) (hj : j < cs.size) (hi : (Tryz.prog.info? ty).map (·.size) = some 1) (hu : u.cells = #[u]) (h1 : u.oneCell' = true)
    (h : ∀ w', Bx w' q T (cs.setIfInBounds j u) → w.grownBy w' (some q) → wpList Tryz.prog ops Q rest (ac.put o.dst undef) w') : wpList Tryz.prog ops Q (o :: rest) ac w := by
  refine wpList_plain hgd fun _ hK => ?_
  have hs := run_storeCells_cells (P := Tryz.prog) q j [u] 0 w (fun i hi => by
    obtain rfl : i = 0 := by simpa using hi
    rw [hb.cell]
    simp [hj]) (fun i hi => hb.frozen _) (fun v hv => by simp at hv; subst hv; exact h1)
  have hr : (storeVar ty ⟨q, j, none⟩ u).run Tryz.prog w = .ok () (w.setCell ⟨q, j, none⟩ u) := by
    cases hq : Tryz.prog.info? ty with
    | none => simp [hq] at hi
    | some i =>
      have hz : i.size = 1 := by simpa [hq] using hi
      simp only [Nat.add_zero] at hs
      simp [storeVar, sizeOf, typeInfo, hq, hu, hz, hs, World.setCells]
  unfold Oper.wp execOp
  simp only [ho, hx, hy, Instr.storeAt, Instr.sureAddr, Sem.run_bind, Sem.run_pure, Result.andThen_ok, hr]
  exact hK _ _ (h _ (hb.set j u) (gb_set (gb_reflr w _) (.inr rfl) u))
/-- one cell of a variable -/
theorem wpList_seD0 {ops : Array Oper} {rest : List Oper} {o : Oper} {ac : Act} {Q : Exit → Act → World → Prop} {q : Nat} {T : TypeId} {cs : Array Value} {b2 : List Vb} (D : DS B cb w0 w (⟨q, T, cs⟩ :: b2) L) (hgd : o.guard = none) (ty : TypeId) (x y : Operand) (ho : o.op = .store ty x y)
    (j : Nat) (u : Value) (hx : ac.eval x = .pointer (some ⟨q, j, none⟩)) (hy : ac.eval y = u) (hj : j < cs.size) (hi : (Tryz.prog.info? ty).map (·.size) = some 1) (hu : u.cells = #[u]) (h1 : u.oneCell' = true) (cs' : Array Value) (hc : cs.setIfInBounds j u = cs')
    (h : ∀ w', DS B cb w0 w' (⟨q, T, cs'⟩ :: b2) L → wpList Tryz.prog ops Q rest (ac.put o.dst undef) w') : wpList Tryz.prog ops Q (o :: rest) ac w := by
  subst hc
  exact wpList_set1 hgd ty x y ho q j u hx hy T cs (D.bx _ (List.mem_cons_self ..)).1 hj hi hu h1 fun w' h2 h3 => h w' (D.row (b1 := []) rfl h2 h3)
theorem DS.cell0 {q : Nat} {T : TypeId} {cs : Array Value} {b2 : List Vb} (D : DS B cb w0 w (⟨q, T, cs⟩ :: b2) L) (j : Nat) : w.cell? ⟨q, j, none⟩ = cs[j]? := (D.bx _ (List.mem_cons_self ..)).1.cell j
theorem DS.cell1 {b : Vb} {q : Nat} {T : TypeId} {cs : Array Value} {b2 : List Vb} (D : DS B cb w0 w (b :: ⟨q, T, cs⟩ :: b2) L) (j : Nat) : w.cell? ⟨q, j, none⟩ = cs[j]? := (D.bx _ (List.mem_cons_of_mem _ (List.mem_cons_self ..))).1.cell j
theorem DS.frz0 {q : Nat} {T : TypeId} {cs : Array Value} {b2 : List Vb} (D : DS B cb w0 w (⟨q, T, cs⟩ :: b2) L) (j : Nat) : w.frozen? ⟨q, j, none⟩ = false := (D.bx _ (List.mem_cons_self ..)).1.frozen j
theorem DS.set0 {q : Nat} {T : TypeId} {cs : Array Value} {b2 : List Vb} (D : DS B cb w0 w (⟨q, T, cs⟩ :: b2) L) (j : Nat) (u : Value) : DS B cb w0 (w.setCell ⟨q, j, none⟩ u) (⟨q, T, cs.setIfInBounds j u⟩ :: b2) L :=
  D.row (b1 := []) rfl ((D.bx _ (List.mem_cons_self ..)).1.set j u) (gb_set (gb_reflr w _) (.inr rfl) u)
theorem DS.set1 {b : Vb} {q : Nat} {T : TypeId} {cs : Array Value} {b2 : List Vb} (D : DS B cb w0 w (b :: ⟨q, T, cs⟩ :: b2) L) (j : Nat) (u : Value) : DS B cb w0 (w.setCell ⟨q, j, none⟩ u) (b :: ⟨q, T, cs.setIfInBounds j u⟩ :: b2) L :=
  D.row (b1 := [b]) rfl ((D.bx _ (List.mem_cons_of_mem _ (List.mem_cons_self ..))).1.set j u) (gb_set (gb_reflr w _) (.inr rfl) u)
theorem DS.r0 {s : Sv} (D : DS B cb w0 w bs (s :: L)) : Rd w s.a s.n s.c s.xs := (D.rs _ (List.mem_cons_self ..)).1
theorem DS.r1 {s t : Sv} (D : DS B cb w0 w bs (s :: t :: L)) : Rd w t.a t.n t.c t.xs := (D.rs _ (by simp)).1
/-- bytes, integers that a draw has made since W -/
def BR (W w : World) (a : Option Addr) (n c : Nat) : Prop := ∃ l, Rd w a n c (bys l) ∧ (0 < n → ∀ p, a = some p → W.heap.size ≤ p.block) ∧ n ≤ 256
def IR (W w : World) (a : Option Addr) (n c : Nat) : Prop := ∃ l, Rd w a n c (ins l) ∧ (0 < n → ∀ p, a = some p → W.heap.size ≤ p.block) ∧ n ≤ 256
theorem BR.nil (W w : World) : BR W w none 0 0 := ⟨[], Rd.nil w none 0, fun h => absurd h (Nat.lt_irrefl 0), by decide⟩
theorem IR.nil (W w : World) : IR W w none 0 0 := ⟨[], Rd.nil w none 0, fun h => absurd h (Nat.lt_irrefl 0), by decide⟩
theorem DS.tl {s : Sv} (D : DS B cb w0 w bs (s :: L)) : DS B cb w0 w bs L := ⟨D.cur, D.lb, D.dr, fun s hs => D.rs s (List.mem_cons_of_mem _ hs), D.bx, D.dj⟩
theorem DS.b0 {a : Option Addr} {n c : Nat} {l : List UInt8} (D : DS B cb w0 w bs (⟨a, n, c, bys l⟩ :: L)) : BR w0 w a n c :=
  have h := D.rs _ (List.mem_cons_self ..)
  ⟨l, h.1, fun h0 p hp => (h.2.1 h0 p hp).1.1, h.2.2⟩
theorem DS.i0 {a : Option Addr} {n c : Nat} {l : List Int} (D : DS B cb w0 w bs (⟨a, n, c, ins l⟩ :: L)) : IR w0 w a n c :=
  have h := D.rs _ (List.mem_cons_self ..)
  ⟨l, h.1, fun h0 p hp => (h.2.1 h0 p hp).1.1, h.2.2⟩
theorem DS.adB (D : DS B cb w0 w bs L) {L' : List Sv} (D' : DS B cb w0 w' bs L') {a : Option Addr} {n c : Nat} (h : BR w w' a n c) : ∃ l, DS B cb w0 w' bs (⟨a, n, c, bys l⟩ :: L') := by
  obtain ⟨l, r, hf, hn⟩ := h
  exact ⟨l, D.addF D' r hf hn⟩
theorem DS.adI (D : DS B cb w0 w bs L) {L' : List Sv} (D' : DS B cb w0 w' bs L') {a : Option Addr} {n c : Nat} (h : IR w w' a n c) : ∃ l, DS B cb w0 w' bs (⟨a, n, c, ins l⟩ :: L') := by
  obtain ⟨l, r, hf, hn⟩ := h
  exact ⟨l, D.addF D' r hf hn⟩
theorem Dr.gb0 {cb : Nat} {a b c : World} (h : Dr cb b c) (g : a.grownBy b none) (hc : a.heap.size ≤ cb) : a.grownBy c none :=
  ⟨h.os.trans g.os, h.tape.trans g.tape, h.output.trans g.output, Nat.le_trans g.size h.size, fun k hk hn => (h.block k (Nat.lt_of_lt_of_le hk g.size) (.inl (by omega))).trans (g.block k hk hn)⟩
/-- how a draw ends -/
structure DE (B cb : Nat) (w0 w : World) : Prop where
  cur : Cur B w cb
  dr : Dr cb w0 w
theorem DS.de (D : DS B cb w0 w bs L) : DE B cb w0 w := ⟨D.cur, D.dr⟩
theorem DS.by (D : DS B cb w0 w bs L) (E : DE B cb w w') : DS B cb w0 w' bs L := D.step E.cur E.dr
theorem DS.sub {L' : List Sv} (D : DS B cb w0 w bs L) (h : ∀ s ∈ L', s ∈ L) : DS B cb w0 w bs L' := ⟨D.cur, D.lb, D.dr, fun s hs => D.rs s (h s hs), D.bx, D.dj⟩
theorem DS.addN (D : DS B cb w0 w bs L) : DS B cb w0 w bs (⟨none, 0, 0, []⟩ :: L) := D.add (Rd.nil w none 0) (fun h => absurd h (Nat.lt_irrefl 0)) (by decide)
theorem DS.nob (D : DS B cb w0 w bs L) : DS B cb w0 w [] L := ⟨D.cur, D.lb, D.dr, fun s hs => ⟨(D.rs s hs).1, fun h0 p hp => ⟨((D.rs s hs).2.1 h0 p hp).1, by simp⟩, (D.rs s hs).2.2⟩, by simp, List.Pairwise.nil⟩
end
/-- integers of a literal -/
def unI : Value → Int
  | .int _ x => x
  | _ => 0
def ofL (l : List Int) (x : Int) : Prop := x ∈ l
theorem ofL.le {l : List Int} {x b : Int} (h : ofL l x) (hb : l.all (· ≤ b) = true) : x ≤ b := by
  have := List.all_eq_true.1 hb x h
  simpa using this
theorem ofL.ge {l : List Int} {x b : Int} (h : ofL l x) (hb : l.all (b ≤ ·) = true) : b ≤ x := by
  have := List.all_eq_true.1 hb x h
  simpa using this
section
variable {B cb : Nat} {w0 w : World} {bs : List Vb} {L : List Sv} {Q : Ending → World → Prop}
theorem d_l1Below {x : Int} (D : DS B cb w0 w bs L) (k : ∀ w' (z : Nat), ((z : Int) < x ∨ (x ≤ 0 ∧ z = 0)) → DS B cb w0 w' bs L → Q (.returned (.int .i64 (z : Int))) w') : Calls Tryz.prog 25 #[.pointer (some ⟨cb, 0, none⟩), .int .i64 x] w Q :=
  (spec_l1Below B cb x w D.cur).mono fun e w' ⟨z, h, he, c, d⟩ => by subst he; exact k w' z h (D.step c d)
theorem d_l1Int {g n : Nat} {cs : Array Value} (D : DS B cb w0 w bs L) (hg : w.heap.size = g) (hl : cs.toList = ins (cs.toList.map unI)) (hn : cs.size = n) (h0 : 0 < n) (hm : n ≤ 1048576) (k : ∀ w' x, ofL (cs.toList.map unI) x → DS B cb w0 w' bs L → Q (.returned (.int .i64 x)) w') :
    Calls Tryz.prog 22 #[.pointer (some ⟨cb, 0, none⟩), .slice (some ⟨g, 0, none⟩) n n] (w.alloc (.cells cs 3)) Q := by
  subst hg
  have D1 := D.alloc (.cells cs 3)
  have hcb := D.cur.lt
  refine (spec_l1Int B cb _ n n (cs.toList.map unI) _ D1.cur ⟨by rw [← hl]; exact new_rd w cs _ n hn, fun p hp => by cases hp; simp only; omega⟩ h0 hm).mono fun e w' ⟨x, h, he, c, d⟩ => ?_
  subst he
  exact k w' x h (D1.step c d)
theorem d_l1Bytes {x : Int} (D : DS B cb w0 w bs L) (hx : x ≤ 256) (k : ∀ w' a n c l, Hid (n = x.toNat) → DS B cb w0 w' bs (⟨a, n, c, bys l⟩ :: L) → Q (.returned (.slice a n c)) w') :
    Calls Tryz.prog 23 #[.pointer (some ⟨cb, 0, none⟩), .int .i64 x] w Q :=
  (spec_l1Bytes B cb x w D.cur (by omega)).mono fun e w' ⟨a, n, c, l, he, hl, o, cu, d⟩ => by
    subst he
    have hn : n = x.toNat := by rw [← o.blen, hl]
    exact k w' a n c l hn (D.addO (D.step cu d) o (by omega))
end
end Go.Proofs.YtpfchphgbhgmmaaGreat
