/-
  Contract of the program's function that reads a frame. Conditions: none beside those that each theorem names.
-/
import Derived.Test.YtgeoeacfkacdpaaFrT
import Derived.Test.YtgeoeacfkacdpaaVs
import Derived.Test.YtgeoeacfkacdpaaFrOk
import Derived.Test.YtgeoeacfkacdpaaPut
import Derived.Test.YtgeoeacfkacdpaaPutF
import Derived.Test.YtgeoeacfkacdpaaFrP
import Derived.Test.YtgeoeacfkacdpaaStr
namespace Go.Proofs.Ytgeoeacfkacdpaa
open Go.RowKit
/-- what is left behind i bytes -/
def dropI (l : List UInt8) (i : Nat) : List UInt8 := l.drop i
theorem dropI_add (l : List UInt8) (i k : Nat) : (dropI l i).drop k = dropI l (i + k) := List.drop_drop
theorem dropI_len (l : List UInt8) (i : Nat) : (dropI l i).length = l.length - i := List.length_drop
/-- .. with bytes that read in a block below, in the variable of the rest -/
structure VR (w0 w : World) (bs : List Vv) (L : List Ob) (a : Option Addr) (n c : Nat) (l : List UInt8) : Prop where
  v : VS w0 w bs L
  r : RB w0.heap.size w a n c l
section
variable {w0 w w' : World} {bs : List Vv} {L : List Ob} {a : Option Addr} {n c : Nat} {l : List UInt8} {Q : Ending → World → Prop}
theorem VR.grow (V : VR w0 w bs L a n c l) (g : w.grownBy w' none) : VR w0 w' bs L a n c l := ⟨V.v.grow g, V.r.keep0 g⟩
theorem VR.box (V : VR w0 w bs L a n c l) (cs : Array Value) (t : TypeId) : VR w0 (w.alloc (.cells cs t)) (⟨w.heap.size, t, cs⟩ :: bs) L a n c l := ⟨V.v.box cs t, V.r.keep0 (gb_alloc (gb_refl w) _)⟩
theorem VR.set0 {q : Nat} {t : TypeId} {cs : Array Value} {b2 : List Vv} (V : VR w0 w (⟨q, t, cs⟩ :: b2) L a n c l) (j : Nat) (u : Value) : VR w0 (w.setCell ⟨q, j, none⟩ u) (⟨q, t, cs.setIfInBounds j u⟩ :: b2) L a n c l :=
  ⟨V.v.set0 j u, V.r.row (gb_set (gb_reflr w (some q)) (.inr rfl) u) (V.v.bx _ (List.mem_cons_self ..)).2⟩
theorem v_takenN0 {rq : Nat} {b2 : List Vv} {i : Nat} (V : VR w0 w (⟨rq, 22, #[.slice a n c]⟩ :: b2) L a n c (dropI l i)) (k j : Nat) (kk : Int) (hk : kk = (k : Int)) (hj : i + k = j) (h0 : 1 ≤ k) (h1 : k ≤ 6) (hl : l.length ≤ 1048576)
    (K : ∀ w' a' n' c', VR w0 w' (⟨rq, 22, #[.slice a' n' c']⟩ :: b2) L a' n' c' (dropI l j) → Q (.returned (.int .i64 (tkN (dropI l i) k : Int))) w') : Calls Try.prog 93 #[.pointer (some ⟨rq, 0, none⟩), .int .i64 kk] w Q := by
  subst hk hj
  have hn : n ≤ 1073741824 := by have := V.r.rd.blen; rw [dropI_len] at this; omega
  refine (impl_takenN _ rq a n c _ k w V.v.bx0 V.r hn (V.v.bx _ (List.mem_cons_self ..)).2 h0 h1).mono ?_
  rintro e w1 ⟨a2, n2, c2, rfl, B1, r1, g1⟩
  rw [dropI_add] at r1
  exact K w1 a2 n2 c2 ⟨V.v.row0 B1 g1, r1⟩
theorem v_takenN1 {rq : Nat} {f : Vv} {b2 : List Vv} {i : Nat} (V : VR w0 w (f :: ⟨rq, 22, #[.slice a n c]⟩ :: b2) L a n c (dropI l i)) (k j : Nat) (kk : Int) (hk : kk = (k : Int)) (hj : i + k = j) (h0 : 1 ≤ k) (h1 : k ≤ 6) (hl : l.length ≤ 1048576)
    (K : ∀ w' a' n' c', VR w0 w' (f :: ⟨rq, 22, #[.slice a' n' c']⟩ :: b2) L a' n' c' (dropI l j) → Q (.returned (.int .i64 (tkN (dropI l i) k : Int))) w') : Calls Try.prog 93 #[.pointer (some ⟨rq, 0, none⟩), .int .i64 kk] w Q := by
  subst hk hj
  have hn : n ≤ 1073741824 := by have := V.r.rd.blen; rw [dropI_len] at this; omega
  refine (impl_takenN _ rq a n c _ k w V.v.bx1 V.r hn (V.v.bx _ (List.mem_cons_of_mem _ (List.mem_cons_self ..))).2 h0 h1).mono ?_
  rintro e w1 ⟨a2, n2, c2, rfl, B1, r1, g1⟩
  rw [dropI_add] at r1
  exact K w1 a2 n2 c2 ⟨V.v.row1 B1 g1, r1⟩
theorem v_taken1 {rq : Nat} {f : Vv} {b2 : List Vv} {i : Nat} (V : VR w0 w (f :: ⟨rq, 22, #[.slice a n c]⟩ :: b2) L a n c (dropI l i)) (k j : Nat) (kk : Int) (hk : kk = (k : Int)) (hj : i + k = j) (h1 : k ≤ 1073741824) (hl : l.length ≤ 1048576)
    (K : ∀ w' a' n' c' a1 n1 c1, VR w0 w' (f :: ⟨rq, 22, #[.slice a' n' c']⟩ :: b2) (⟨a1, n1, c1, cutL l i k⟩ :: L) a' n' c' (dropI l j) → Q (.returned (.slice a1 n1 c1)) w') : Calls Try.prog 94 #[.pointer (some ⟨rq, 0, none⟩), .int .i64 kk] w Q := by
  subst hk hj
  have hn : n ≤ 1073741824 := by have := V.r.rd.blen; rw [dropI_len] at this; omega
  refine (impl_taken _ rq a n c _ k w V.v.bx1 V.r hn (V.v.bx _ (List.mem_cons_of_mem _ (List.mem_cons_self ..))).2 h1).mono ?_
  rintro e w1 ⟨a1, n1, c1, a2, n2, c2, rfl, o1, B1, r1, g1⟩
  rw [dropI_add] at r1
  exact K w1 a2 n2 c2 a1 n1 c1 ⟨V.v.add (V.v.row1 B1 g1) rfl o1, r1⟩
theorem v_FrameOk {v : Value} {F : FrameM} {ok : Bool} (V : VS w0 w bs L) (hF : FrameR w v F) (h : Hid (frOk F = ok)) (K : ∀ w', VS w0 w' bs L → Q (.returned (.bool ok)) w') : Calls Try.prog 44 #[v] w Q := by
  refine (impl_FrameOk v F w hF).mono ?_
  rw [h.out]
  rintro e w1 ⟨rfl, g1⟩
  exact K w1 (V.grow g1)
theorem v_PutFrame {v : Value} {F : FrameM} (V : VS w0 w bs L) (hF : FrameR w v F) (K : ∀ w' b m d, VS w0 w' bs L → Rd w' b m d (bys (putM F)) → Q (.returned (.slice b m d)) w') : Calls Try.prog 43 #[v] w Q := by
  refine (impl_PutFrame v F w hF).mono ?_
  rintro e w1 ⟨b, m, d, rfl, o1, g1⟩
  exact K w1 b m d (V.grow g1) o1.rd
theorem v_Equal {b : Option Addr} {m d : Nat} {x y : List UInt8} {r : Bool} (V : VS w0 w bs L) (h1 : Rd w b m d (bys x)) (h2 : Rd w0 a n c (bys y)) (h : Hid (eqL x y = r)) (K : VS w0 w bs L → Q (.returned (.bool r)) w) : Calls Try.prog 95 #[.slice b m d, .slice a n c] w Q := by
  refine (bytes_Equal b m d a n c x y w h1 (h2.keep0 V.gb)).mono ?_
  rw [h.out]
  rintro e w1 ⟨rfl, rfl⟩
  exact K V
end
theorem wpList_stV2 {w0 w : World} {L : List Ob} {ops : Array Oper} {rest : List Oper} {o : Oper} {ac : Act} {Q : Exit → Act → World → Prop} {b b' : Vv} {q : Nat} {T : TypeId} {old : Array Value} {b2 : List Vv} (V : VS w0 w (b :: b' :: ⟨q, T, old⟩ :: b2) L) (hgd : o.guard = none) (x y : Operand) (ho : o.op = .store T x y)
    (cs : Array Value) (hx : ac.eval x = .pointer (some ⟨q, 0, none⟩)) (hy : ac.eval y = .agg cs) (hi : (Try.prog.info? T).map (·.size) = some cs.size) (hold : old.size = cs.size) (h1 : cs.all (·.oneCell') = true)
    (h : ∀ w', VS w0 w' (b :: b' :: ⟨q, T, cs⟩ :: b2) L → wpList Try.prog ops Q rest (ac.put o.dst undef) w') : wpList Try.prog ops Q (o :: rest) ac w :=
  wpList_stR hgd T x y ho q cs old hx hy V.bx2 hi hold h1 fun w' h2 h3 => h w' (V.row2 h2 h3)
theorem wpList_stV1 {w0 w : World} {L : List Ob} {ops : Array Oper} {rest : List Oper} {o : Oper} {ac : Act} {Q : Exit → Act → World → Prop} {b : Vv} {q : Nat} {T : TypeId} {old : Array Value} {b2 : List Vv} (V : VS w0 w (b :: ⟨q, T, old⟩ :: b2) L) (hgd : o.guard = none) (x y : Operand) (ho : o.op = .store T x y)
    (cs : Array Value) (hx : ac.eval x = .pointer (some ⟨q, 0, none⟩)) (hy : ac.eval y = .agg cs) (hi : (Try.prog.info? T).map (·.size) = some cs.size) (hold : old.size = cs.size) (h1 : cs.all (·.oneCell') = true)
    (h : ∀ w', VS w0 w' (b :: ⟨q, T, cs⟩ :: b2) L → wpList Try.prog ops Q rest (ac.put o.dst undef) w') : wpList Try.prog ops Q (o :: rest) ac w :=
  wpList_stR hgd T x y ho q cs old hx hy V.bx1 hi hold h1 fun w' h2 h3 => h w' (V.row1 h2 h3)
theorem fr1_O {w0 w : World} {bs : List Vv} {l : List UInt8} {a : Option Addr} {n c : Nat} (V : VS w0 w bs [⟨a, n, c, cutL l 2 12⟩]) : FrameO w0.heap.size w.heap.size w (.agg #[.int .i64 1, .int .i64 (tkN (dropI l 1) 1 : Int), .slice a n c, .slice none 0 0, .int .i64 0, .slice none 0 0, .slice none 0 0, .int .i64 0, .int .i64 0, .slice none 0 0, .slice none 0 0]) (fr1 l) :=
  frameO_mk V.o0 (Ow.nil _ _ _) (Ow.nil _ _ _) (Ow.nil _ _ _) (Ow.nil _ _ _) (Ow.nil _ _ _) (Nat.le_refl _) (dj_nil _) (dj_nil _) (dj_nil _) (dj_nil _) (dj_nil _) (dj_nil _) (dj_nil _) (dj_nil _) (dj_nil _) (dj_nil _) (dj_nil _) (dj_nil _) (dj_nil _) (dj_nil _) (dj_nil _)
theorem fr2_O {w0 w : World} {bs : List Vv} {l : List UInt8} {a1 a2 a3 : Option Addr} {n1 c1 n2 c2 n3 c3 : Nat} (V : VS w0 w bs [⟨a3, n3, c3, cutL l 29 16⟩, ⟨a2, n2, c2, cutL l 13 12⟩, ⟨a1, n1, c1, cutL l 1 12⟩]) : FrameO w0.heap.size w.heap.size w (.agg #[.int .i64 2, .int .i64 0, .slice a1 n1 c1, .slice a2 n2 c2, .int .i64 (tkN (dropI l 25) 4 : Int), .slice a3 n3 c3, .slice none 0 0, .int .i64 0, .int .i64 0, .slice none 0 0, .slice none 0 0]) (fr2 l) :=
  frameO_mk V.tl.tl.o0 V.tl.o0 V.o0 (Ow.nil _ _ _) (Ow.nil _ _ _) (Ow.nil _ _ _) (Nat.le_refl _) (dj_symm V.tl.d1) (dj_symm V.sk.d1) (dj_nil _) (dj_nil _) (dj_nil _) (dj_symm V.d1) (dj_nil _) (dj_nil _) (dj_nil _) (dj_nil _) (dj_nil _) (dj_nil _) (dj_nil _) (dj_nil _) (dj_nil _)
theorem fr3_O {w0 w : World} {bs : List Vv} {l : List UInt8} {a1 a2 a3 a4 : Option Addr} {n1 c1 n2 c2 n3 c3 n4 c4 : Nat} (V : VS w0 w bs [⟨a4, n4, c4, cutL l 46 16⟩, ⟨a3, n3, c3, cutL l 30 16⟩, ⟨a2, n2, c2, cutL l 14 12⟩, ⟨a1, n1, c1, cutL l 2 12⟩]) : FrameO w0.heap.size w.heap.size w (.agg #[.int .i64 3, .int .i64 (tkN (dropI l 1) 1 : Int), .slice a1 n1 c1, .slice a2 n2 c2, .int .i64 (tkN (dropI l 26) 4 : Int), .slice a3 n3 c3, .slice a4 n4 c4, .int .i64 0, .int .i64 0, .slice none 0 0, .slice none 0 0]) (fr3 l) :=
  frameO_mk V.tl.tl.tl.o0 V.tl.tl.o0 V.tl.o0 V.o0 (Ow.nil _ _ _) (Ow.nil _ _ _) (Nat.le_refl _) (dj_symm V.tl.tl.d1) (dj_symm V.tl.sk.d1) (dj_symm V.sk.sk.d1) (dj_nil _) (dj_nil _) (dj_symm V.tl.d1) (dj_symm V.sk.d1) (dj_nil _) (dj_nil _) (dj_symm V.d1) (dj_nil _) (dj_nil _) (dj_nil _) (dj_nil _) (dj_nil _)
theorem frS_O {w0 w : World} {bs : List Vv} {l : List UInt8} {K : Int} {a2 a5 a6 : Option Addr} {n2 c2 n5 c5 n6 c6 : Nat} (V : VS w0 w bs [⟨a5, n5, c5, cutL l 39 41⟩, ⟨a6, n6, c6, cutL l 23 16⟩, ⟨a2, n2, c2, cutL l 1 12⟩]) : FrameO w0.heap.size w.heap.size w (.agg #[.int .i64 K, .int .i64 0, .slice none 0 0, .slice a2 n2 c2, .int .i64 0, .slice none 0 0, .slice none 0 0, .int .i64 (tkN (dropI l 13) 4 : Int), .int .i64 (tkN (dropI l 17) 6 : Int), .slice a5 n5 c5, .slice a6 n6 c6]) (frS K l) :=
  frameO_mk (Ow.nil _ _ _) V.tl.tl.o0 (Ow.nil _ _ _) (Ow.nil _ _ _) V.o0 V.tl.o0 (Nat.le_refl _) (dj_nil' _) (dj_nil' _) (dj_nil' _) (dj_nil' _) (dj_nil' _) (dj_nil _) (dj_nil _) (dj_symm V.sk.d1) (dj_symm V.tl.d1) (dj_nil' _) (dj_nil' _) (dj_nil' _) (dj_nil' _) (dj_nil' _) V.d1
theorem frX_O {w0 w : World} {K : Int} : FrameO w0.heap.size w.heap.size w (.agg #[.int .i64 K, .int .i64 0, .slice none 0 0, .slice none 0 0, .int .i64 0, .slice none 0 0, .slice none 0 0, .int .i64 0, .int .i64 0, .slice none 0 0, .slice none 0 0]) (frX K) :=
  frameO_mk (Ow.nil _ _ _) (Ow.nil _ _ _) (Ow.nil _ _ _) (Ow.nil _ _ _) (Ow.nil _ _ _) (Ow.nil _ _ _) (Nat.le_refl _) (dj_nil' _) (dj_nil' _) (dj_nil' _) (dj_nil' _) (dj_nil' _) (dj_nil' _) (dj_nil' _) (dj_nil' _) (dj_nil' _) (dj_nil' _) (dj_nil' _) (dj_nil' _) (dj_nil' _) (dj_nil' _) (dj_nil' _)
/-- what the reading answers -/
def PGet (l : List UInt8) (w : World) (e : Ending) (w' : World) : Prop := ∃ v, e = .returned (.tuple #[v, .bool (getM l).2]) ∧ FrameO w.heap.size w'.heap.size w' v (getM l).1 ∧ w.grownBy w' none
end Go.Proofs.Ytgeoeacfkacdpaa
