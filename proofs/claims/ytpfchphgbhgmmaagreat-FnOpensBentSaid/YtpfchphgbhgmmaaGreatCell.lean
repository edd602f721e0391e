/-
  Laws of the walk for a variable of a struct type inside a statement that draws its order: where it is made, and where it is laid whole; the world behind each step is any that has the block and has kept the rest. Conditions: none beside those that each theorem names.
-/
import Derived.Test.YtpfchphgbhgmmaaGreatGb
import Derived.Test.YtpfchphgbhgmmaaGreatHelpS
import Derived.Laws.Tables
import Derived.Deep.RegionHeld3
namespace Go.Proofs.YtpfchphgbhgmmaaGreat
open Go.RowKit
theorem gb_setRow2 (w : World) (g : Nat) (cs : Array Value) : w.grownBy (w.setRow g cs) (some g) :=
  ⟨rfl, rfl, rfl, by simp, fun i _ hr => setRow_other w g i cs (fun e => hr (by rw [e]))⟩
theorem size_row {w w' : World} {g : Nat} (h : w.grownBy w' (some g)) : w.heap.size ≤ w'.heap.size := h.size
section
variable {P : Program} {ops : Array Oper} {Q : Exit → Act → World → Prop} {S : World → Prop} {md : Region.Mode}
def skipAll (md : Region.Mode) (ops : Array Oper) (g : Nat) (b : Bool) : List Nat → Array Bool → Bool
  | [], _ => true
  | i :: r, listed => (match ops[i]? with | some o => (match o.guard with | some (j, c) => j == g && c == b | none => false) | none => false) && (Region.free md ops listed i && ((Region.ready md ops listed).contains i && skipAll md ops g b r (listed.setIfInBounds i true)))
def listedAll : List Nat → Array Bool → Array Bool
  | [], l => l
  | i :: r, l => listedAll r (l.setIfInBounds i true)
def AllUndef (ops : Array Oper) (tmps : Array Value) : List Nat → Prop
  | [] => True
  | i :: r => (match (ops[i]?).bind (·.dst) with | some d => tmps[d]? = some undef | none => True) ∧ AllUndef ops tmps r
theorem put_same {a : Act} {d : Option Tmp} (h : match d with | some d => a.tmps[d]? = some undef | none => True) : a.put d undef = a := by
  cases d with
  | none => rfl
  | some d =>
    obtain ⟨t, df⟩ := a
    simp only at h
    simp only [Act.put]
    congr 1
    obtain ⟨hlt, he⟩ := Array.getElem?_eq_some_iff.1 h
    refine Array.ext (by simp) (fun i h1 h2 => ?_)
    rw [Array.getElem_setIfInBounds]
    split
    · rename_i e
      subst e
      exact he.symm
    · rfl
/-- operations whose guard is false, all at once: what they would fill is not filled yet -/
theorem wpAnyH_skips (g : Nat) (b : Bool) (is : List Nat) (hs : Region.noSelect ops = true) (hQ : ∀ c d a w, Q (.panic c) (Act.put a (some d) undef) w → Q (.panic c) a w) (a : Act) (w : World) (hy : yielded ops a.tmps g = some (!b)) (hS : S w) :
    ∀ (m : Nat) (listed : Array Bool), skipAll md ops g b is listed = true → AllUndef ops a.tmps is → wpAnyH P md ops Q S m (listedAll is listed) a w → wpAnyH P md ops Q S (m + is.length) listed a w := by
  induction is with
  | nil => intro m listed _ _ h; exact h
  | cons i r ih =>
    intro m listed h1 h2 h3
    simp only [skipAll, Bool.and_eq_true] at h1
    obtain ⟨h4, h5, h6, h7⟩ := h1
    cases ho : ops[i]? with
    | none => rw [ho] at h4; cases h4
    | some o =>
      rw [ho] at h4
      simp only at h4
      have h8 : o.guard = some (g, b) := by
        cases hg : o.guard with
        | none => rw [hg] at h4; cases h4
        | some p =>
          obtain ⟨j, c⟩ := p
          rw [hg] at h4
          simp only [Bool.and_eq_true, beq_iff_eq] at h4
          rw [h4.1, h4.2]
      have h9 : a.put o.dst undef = a := put_same (by have := h2.1; rw [ho] at this; exact this)
      refine wpAnyH_take (i := i) (v := undef) ho hs h5 h6 (fun c a w h => by cases hd : o.dst with
        | none => rw [hd] at h; exact h
        | some d => rw [hd] at h; exact hQ c d a w h) (Or.inr ⟨?_, rfl⟩) hS ?_
      · simp only [Region.wanted, h8, hy]
        cases b <;> rfl
      · rw [h9]
        exact ih m _ h7 h2.2 h3
/-- one operation is taken, its slot said -/
theorem wpAnyH_takeD {i : Nat} (d : Option Tmp) {oi : Oper} {v : Value} {fuel : Nat} {listed : Array Bool} {a : Act} {w : World} (hi : ops[i]? = some oi) (hd : oi.dst = d)
    (hs : Region.noSelect ops = true) (hf : Region.free md ops listed i = true) (hr : (Region.ready md ops listed).contains i = true)
    (hQ : ∀ c a w, Q (.panic c) (a.put d v) w → Q (.panic c) a w) (hy : YieldsIf P ops S oi v a) (hS : S w)
    (h : wpAnyH P md ops Q S fuel (listed.setIfInBounds i true) (a.put d v) w) : wpAnyH P md ops Q S (fuel + 1) listed a w := by
  subst hd
  exact wpAnyH_take hi hs hf hr hQ hy hS h
theorem wpAnyH_skips' (g : Nat) (b : Bool) (is : List Nat) (k m : Nat) (hk : is.length = k) (hs : Region.noSelect ops = true) (hQ : ∀ c d a w, Q (.panic c) (Act.put a (some d) undef) w → Q (.panic c) a w) {a : Act} {w : World} {listed : Array Bool} (hy : yielded ops a.tmps g = some (!b)) (hS : S w)
    (h1 : skipAll md ops g b is listed = true) (h2 : AllUndef ops a.tmps is) {L : Array Bool} (hl : listedAll is listed = L) (h : wpAnyH P md ops Q S m L a w) : wpAnyH P md ops Q S (m + k) listed a w := by
  subst hk hl
  exact wpAnyH_skips g b is hs hQ a w hy hS m listed h1 h2 h
end
section
variable {w : World}
def mksA (T : TypeId) (z : Array Value) : Prop := ∀ w : World, (Instr.alloc T true (.tuple #[])).run Tryz.prog w = .ok (.pointer (some ⟨w.heap.size, 0, none⟩)) (w.alloc (.cells z T))
theorem step_al {ops : Array Oper} {o : Oper} {ac : Act} {K : Act → World → Prop} {Q : Exit → Act → World → Prop} {E : Prop} (hgd : o.guard = none) (T : TypeId) (z : Array Value) (ho : o.op = .alloc T) (hr : mksA T z)
    (h : ∀ q w', w.heap.size ≤ q → Bx w' q T z → w.grownBy w' none → K (ac.put o.dst (.pointer (some ⟨q, 0, none⟩))) w') : if Region.wanted o (yielded ops ac.tmps) = true then Oper.wp Tryz.prog o ac w K Q else E := by
  have hw : Region.wanted o (yielded ops ac.tmps) = true := by simp [Region.wanted, hgd]
  rw [if_pos hw]
  unfold Oper.wp execOp
  simp only [ho, Sem.run_bind, hr w, Result.andThen_ok, Sem.run_pure]
  exact h _ _ (Nat.le_refl _) (Bx.new w T z) (gb_alloc (gb_refl w) _)
theorem step_stR {ops : Array Oper} {o : Oper} {ac : Act} {K : Act → World → Prop} {Q : Exit → Act → World → Prop} {E : Prop} (hgd : o.guard = none) (T : TypeId) (x y : Operand) (ho : o.op = .store T x y)
    (q : Nat) (cs old : Array Value) (hx : ac.eval x = .pointer (some ⟨q, 0, none⟩)) (hy : ac.eval y = .agg cs) (hb : Bx w q T old) (hi : (Tryz.prog.info? T).map (·.size) = some cs.size) (hold : old.size = cs.size) (h1 : cs.all (·.oneCell') = true)
    (h : ∀ w', Bx w' q T cs → w.grownBy w' (some q) → K (ac.put o.dst undef) w') : if Region.wanted o (yielded ops ac.tmps) = true then Oper.wp Tryz.prog o ac w K Q else E := by
  have hw : Region.wanted o (yielded ops ac.tmps) = true := by simp [Region.wanted, hgd]
  rw [if_pos hw]
  exact wp_store_row T x y ho q cs hx hy T old hb hi hold h1 (h _ (setRow_heap w q old cs T (0, 0) hb) (gb_setRow2 w q cs))
theorem step_alD {ops : Array Oper} {o : Oper} {ac : Act} {K : Act → World → Prop} {Q : Exit → Act → World → Prop} {E : Prop} (hgd : o.guard = none) (d : Option Tmp) (hd : o.dst = d) (T : TypeId) (z : Array Value) (ho : o.op = .alloc T) (hr : mksA T z)
    (h : ∀ q w', w.heap.size ≤ q → Bx w' q T z → w.grownBy w' none → K (ac.put d (.pointer (some ⟨q, 0, none⟩))) w') : if Region.wanted o (yielded ops ac.tmps) = true then Oper.wp Tryz.prog o ac w K Q else E := by
  subst hd
  exact step_al hgd T z ho hr h
theorem step_stRD {ops : Array Oper} {o : Oper} {ac : Act} {K : Act → World → Prop} {Q : Exit → Act → World → Prop} {E : Prop} (hgd : o.guard = none) (hd : o.dst = none) (T : TypeId) (x y : Operand) (ho : o.op = .store T x y)
    (q : Nat) (cs old : Array Value) (hx : ac.eval x = .pointer (some ⟨q, 0, none⟩)) (hy : ac.eval y = .agg cs) (hb : Bx w q T old) (hi : (Tryz.prog.info? T).map (·.size) = some cs.size) (hold : old.size = cs.size) (h1 : cs.all (·.oneCell') = true)
    (h : ∀ w', Bx w' q T cs → w.grownBy w' (some q) → K ac w') : if Region.wanted o (yielded ops ac.tmps) = true then Oper.wp Tryz.prog o ac w K Q else E := by
  refine step_stR hgd T x y ho q cs old hx hy hb hi hold h1 (fun w' h2 h3 => ?_)
  rw [hd]
  exact h w' h2 h3
theorem wpList_al {ops : Array Oper} {rest : List Oper} {o : Oper} {ac : Act} {Q : Exit → Act → World → Prop} (hgd : o.guard = none) (T : TypeId) (z : Array Value) (ho : o.op = .alloc T) (hr : mksA T z)
    (h : ∀ q w', w.heap.size ≤ q → Bx w' q T z → w.grownBy w' none → wpList Tryz.prog ops Q rest (ac.put o.dst (.pointer (some ⟨q, 0, none⟩))) w') : wpList Tryz.prog ops Q (o :: rest) ac w := by
  have hw : Region.wanted o (yielded ops ac.tmps) = true := by simp [Region.wanted, hgd]
  unfold wpList
  rw [if_pos hw]
  unfold Oper.wp execOp
  simp only [ho, Sem.run_bind, hr w, Result.andThen_ok, Sem.run_pure]
  exact .inl (h _ _ (Nat.le_refl _) (Bx.new w T z) (gb_alloc (gb_refl w) _))
theorem wpList_stR {ops : Array Oper} {rest : List Oper} {o : Oper} {ac : Act} {Q : Exit → Act → World → Prop} (hgd : o.guard = none) (T : TypeId) (x y : Operand) (ho : o.op = .store T x y)
    (q : Nat) (cs old : Array Value) (hx : ac.eval x = .pointer (some ⟨q, 0, none⟩)) (hy : ac.eval y = .agg cs) (hb : Bx w q T old) (hi : (Tryz.prog.info? T).map (·.size) = some cs.size) (hold : old.size = cs.size) (h1 : cs.all (·.oneCell') = true)
    (h : ∀ w', Bx w' q T cs → w.grownBy w' (some q) → wpList Tryz.prog ops Q rest (ac.put o.dst undef) w') : wpList Tryz.prog ops Q (o :: rest) ac w :=
  wpList_store_row hgd T x y ho q cs hx hy T old hb hi hold h1 (h _ (setRow_heap w q old cs T (0, 0) hb) (gb_setRow2 w q cs))
end
theorem gbI_set {B S : Nat} {a b : World} (h : gbI B S a b) {p : Addr} (hp : a.heap.size ≤ p.block ∨ (B ≤ p.block ∧ p.block < S)) (u : Value) : gbI B S a (b.setCell p u) :=
  ⟨h.os, h.tape, h.output, by simpa [World.setCell] using h.size, fun k hk hn => by
    rw [Below.heap_setCell _ _ _ _ (by omega)]
    exact h.block k hk hn⟩
theorem gbI_setR {B S : Nat} {a b : World} {p : Addr} {u : Value} (h1 : B ≤ p.block) (h2 : p.block < S) (h : gbI B S a b) : gbI B S a (b.setCell p u) := gbI_set h (.inr ⟨h1, h2⟩) u
theorem gbI_alloc {B S : Nat} {a b : World} (h : gbI B S a b) (o : Obj) : gbI B S a (b.alloc o) := h.trans (gbI.of0 (gb_alloc (gb_refl b) o))
theorem gbI_drew {B S : Nat} {a b : World} (h : gbI B S a b) : gbI B S a b.drew := h.trans (gbI.of0 (gb_drew (gb_refl b)))
theorem gbI_drewN {B S : Nat} {a b : World} (h : gbI B S a b) (n : Nat) : gbI B S a (b.drewN n) := h.trans (gbI.of0 (gb_drewN (gb_refl b) n))
theorem gbI.gb {B S : Nat} {a b : World} (h : gbI B S a b) (hB : a.heap.size ≤ B) : a.grownBy b none := ⟨h.os, h.tape, h.output, h.size, fun k hk _ => h.block k hk (.inl (by omega))⟩
def zeroF : FrameM := ⟨0, 0, [], [], 0, [], [], 0, 0, [], []⟩
theorem frameO_zero (B S : Nat) (w : World) : FrameO B S w (.agg #[.int .i64 0, .int .i64 0, .slice none 0 0, .slice none 0 0, .int .i64 0, .slice none 0 0, .slice none 0 0, .int .i64 0, .int .i64 0, .slice none 0 0, .slice none 0 0]) zeroF := by
  have o := Ow.nil B w 5
  have u : ∀ p : Addr, none = some p → p.block < S := fun p hp => by cases hp
  have d : dj none none := fun p q hp => by cases hp
  exact ⟨none, 0, 0, none, 0, 0, none, 0, 0, none, 0, 0, none, 0, 0, none, 0, 0, rfl, ⟨o, u⟩, ⟨o, u⟩, ⟨o, u⟩, ⟨o, u⟩, ⟨o, u⟩, ⟨o, u⟩, d, d, d, d, d, d, d, d, d, d, d, d, d, d, d⟩
theorem frameO_mk {B S : Nat} {w : World} {kind id tick epoch seq : Int} {a1 : Option Addr} {n1 c1 : Nat} {l1 : List UInt8} {a2 : Option Addr} {n2 c2 : Nat} {l2 : List UInt8} {a3 : Option Addr} {n3 c3 : Nat} {l3 : List UInt8} {a4 : Option Addr} {n4 c4 : Nat} {l4 : List UInt8} {a5 : Option Addr} {n5 c5 : Nat} {l5 : List UInt8} {a6 : Option Addr} {n6 c6 : Nat} {l6 : List UInt8}
    (o1 : Ow B w 5 a1 n1 c1 (bys l1)) (o2 : Ow B w 5 a2 n2 c2 (bys l2)) (o3 : Ow B w 5 a3 n3 c3 (bys l3)) (o4 : Ow B w 5 a4 n4 c4 (bys l4)) (o5 : Ow B w 5 a5 n5 c5 (bys l5)) (o6 : Ow B w 5 a6 n6 c6 (bys l6)) (hS : w.heap.size ≤ S)
    (d12 : dj a1 a2) (d13 : dj a1 a3) (d14 : dj a1 a4) (d15 : dj a1 a5) (d16 : dj a1 a6) (d23 : dj a2 a3) (d24 : dj a2 a4) (d25 : dj a2 a5) (d26 : dj a2 a6) (d34 : dj a3 a4) (d35 : dj a3 a5) (d36 : dj a3 a6) (d45 : dj a4 a5) (d46 : dj a4 a6) (d56 : dj a5 a6) :
    FrameO B S w (.agg #[.int .i64 kind, .int .i64 id, .slice a1 n1 c1, .slice a2 n2 c2, .int .i64 tick, .slice a3 n3 c3, .slice a4 n4 c4, .int .i64 epoch, .int .i64 seq, .slice a5 n5 c5, .slice a6 n6 c6]) ⟨kind, id, l1, l2, tick, l3, l4, epoch, seq, l5, l6⟩ :=
  ⟨_, _, _, _, _, _, _, _, _, _, _, _, _, _, _, _, _, _, rfl, ⟨o1, fun p hp => Nat.lt_of_lt_of_le (o1.lt p hp).2 hS⟩, ⟨o2, fun p hp => Nat.lt_of_lt_of_le (o2.lt p hp).2 hS⟩, ⟨o3, fun p hp => Nat.lt_of_lt_of_le (o3.lt p hp).2 hS⟩, ⟨o4, fun p hp => Nat.lt_of_lt_of_le (o4.lt p hp).2 hS⟩, ⟨o5, fun p hp => Nat.lt_of_lt_of_le (o5.lt p hp).2 hS⟩, ⟨o6, fun p hp => Nat.lt_of_lt_of_le (o6.lt p hp).2 hS⟩, d12, d13, d14, d15, d16, d23, d24, d25, d26, d34, d35, d36, d45, d46, d56⟩
theorem dj_nil (a : Option Addr) : dj a none := fun p q hp hq => by cases hq
theorem dj_nil' (a : Option Addr) : dj none a := fun p q hp hq => by cases hp
/-- a block turns that is new to the first world -/
theorem gb_row {a b c : World} {q : Nat} (h : a.grownBy b none) (k : b.grownBy c (some q)) (hq : a.heap.size ≤ q) : a.grownBy c none := gb_transr h k (fun g e => .inl (by cases e; exact hq))
theorem Ow.row {B : Nat} {w w' : World} {q : Nat} {e : TypeId} {a : Option Addr} {n c : Nat} {xs : List Value} (h : Ow B w e a n c xs) (hg : w.grownBy w' (some q)) (hne : ∀ p, a = some p → p.block ≠ q) : Ow B w' e a n c xs :=
  h.keep hg (fun p hp e => hne p hp (by simpa using e))
theorem Rd.row {w w' : World} {q : Nat} {a : Option Addr} {n c : Nat} {xs : List Value} (h : Rd w a n c xs) (hg : w.grownBy w' (some q)) (hne : ∀ p, a = some p → p.block ≠ q) : Rd w' a n c xs :=
  h.keep hg (fun p hp e => hne p hp (by simpa using e))
set_option maxRecDepth 1000000 in
theorem al_Frame : mksA 32 #[.int .i64 0, .int .i64 0, .slice none 0 0, .slice none 0 0, .int .i64 0, .slice none 0 0, .slice none 0 0, .int .i64 0, .int .i64 0, .slice none 0 0, .slice none 0 0] := fun w => by kernel_rfl
set_option maxRecDepth 1000000 in
theorem si_Frame : (Tryz.prog.info? 32).map (·.size) = some 11 := by kernel_rfl
set_option maxRecDepth 1000000 in
theorem al_Win : mksA 26 #[.int .i64 0, .slice none 0 0] := fun w => by kernel_rfl
set_option maxRecDepth 1000000 in
theorem si_Win : (Tryz.prog.info? 26).map (·.size) = some 2 := by kernel_rfl
set_option maxRecDepth 1000000 in
theorem al_Ep : mksA 28 #[.int .i64 0, .slice none 0 0, .int .i64 0, .int .i64 0, .slice none 0 0] := fun w => by kernel_rfl
set_option maxRecDepth 1000000 in
theorem si_Ep : (Tryz.prog.info? 28).map (·.size) = some 5 := by kernel_rfl
end Go.Proofs.YtpfchphgbhgmmaaGreat
