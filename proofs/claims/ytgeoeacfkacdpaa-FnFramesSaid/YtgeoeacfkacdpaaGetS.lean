/-
  The reference's function that reads a frame: steps of its walk. Conditions: none beside those that each theorem names.
-/
import Derived.Test.YtgeoeacfkacdpaaGetI
import Derived.Test.YtgeoeacfkacdpaaPutS
import Derived.Test.YtgeoeacfkacdpaaPutF
namespace Go.Proofs.Ytgeoeacfkacdpaa
open Go.RowKit
theorem VS.box2 (w : World) (z cs : Array Value) (T U : TypeId) : VS w ((w.alloc (.cells z T)).alloc (.cells cs U)) [⟨w.heap.size + 1, U, cs⟩, ⟨w.heap.size, T, z⟩] [] := by
  have V := ((VS.start w).box z T).box cs U
  rw [show (w.alloc (.cells z T)).heap.size = w.heap.size + 1 by simp] at V
  exact V
section
variable {w0 w w' : World} {bs : List Vv} {L : List Ob} {l : List UInt8}
theorem Rd.cutc {b off n c : Nat} (r : Rd w (some ⟨b, off, none⟩) n c (bys l)) (i k : Nat) (h : i + k ≤ n) : Rd w (some ⟨b, off + i, none⟩) k (c - i) (bys (cutL l i k)) := by
  have hl := r.blen
  refine ⟨by rw [bys_len, cutL_len (by omega)], by have := r.le; omega, fun j hj => ⟨b, off + i, rfl, ?_⟩⟩
  obtain ⟨b', off', e, hc⟩ := r.cells (i + j) (by omega)
  cases e
  rw [Nat.add_assoc, hc, bys, List.getElem?_map, bys, List.getElem?_map, cutL_at hj]
theorem Rd.cute {b off n c : Nat} (r : Rd w (some ⟨b, off, none⟩) n c (bys l)) (i : Nat) (h : i ≤ n) : Rd w (some ⟨b, off + i, none⟩) (n - i) (c - i) (bys (l.drop i)) := by
  have hl := r.blen
  have h1 := r.cutc i (n - i) (by omega)
  rwa [cutL, List.take_of_length_le (by rw [List.length_drop]; omega)] at h1
/-- what came in, appended onto nothing -/
theorem wpList_apV {b : Option Addr} {m d : Nat} {k : List UInt8} {ops : Array Oper} {rest : List Oper} {o : Oper} {ac : Act} {Q : Exit → Act → World → Prop} (g : Nat) (V : VS w0 w bs L) (hs : Rd w0 b m d (bys k)) (hgd : o.guard = none) (s x : Operand)
    (ho : o.op = .call { callee := .builtin .append, args := #[s, x], argTypes := #[22, 22] }) (hse : ac.eval s = .slice (some ⟨g, 0, none⟩) 0 0) (hg : w.heap.size = g) (hx : ac.eval x = .slice b m d) (hm : m ≤ 1073741824)
    (K : ∀ a' n' c' w', VS w0 w' bs (⟨a', n', c', k⟩ :: L) → wpList Try.prog ops Q rest (ac.put o.dst (.slice a' n' c')) w') : wpList Try.prog ops Q (o :: rest) ac (w.alloc (.cells #[] 5)) := by
  subst hg
  have hs' := hs.keep0 (gb_alloc V.gb (.cells #[] 5))
  refine wpList_appB hgd s x ho w.heap.size _ 0 0 [] hse (new_own _ _) b m d k hx hs' (by rw [List.length_nil, hs.blen]; omega) (by simp) ?_
  intro a' n' c' w' o' g'
  have G : w.grownBy w' none := gb_app (gb_alloc (gb_refl _) _) (new_own w _) (Nat.le_refl _) g'
  rw [List.nil_append] at o'
  exact K a' n' c' w' (V.add (V.grow G) rfl o')
theorem v_sGetN {a : Option Addr} {n c : Nat} {Q : Ending → World → Prop} (V : VS w0 w bs L) (r : Rd w0 a n c (bys l)) (i k : Nat) (ii kk jj : Int) (hi : ii = (i : Int)) (hk : kk = (k : Int)) (hj : ((i + k : Nat) : Int) = jj) (h0 : 1 ≤ k) (h1 : k ≤ 6) (hn : i + k ≤ n) (hm : n ≤ 1073741824)
    (K : ∀ w', VS w0 w' bs L → Q (.returned (.tuple #[.int .i64 (num (cutL l i k) : Int), .int .i64 jj, .bool true])) w') : Calls Try.prog 78 #[.slice a n c, .int .i64 ii, .int .i64 kk] w Q := by
  subst hi hk hj
  refine (spec_GetN a n c l i k w (r.keep0 V.gb) hm h0 h1 hn).mono ?_
  rintro e w1 ⟨rfl, g⟩
  exact K w1 (V.grow g)
end
theorem gr1_O {w0 w : World} {bs : List Vv} {l : List UInt8} {x : Int} (hx : x = (tkN (l.drop 1) 1 : Int)) {a : Option Addr} {n c : Nat} (V : VS w0 w bs [⟨a, n, c, cutL l 2 12⟩]) : FrameO w0.heap.size w.heap.size w (.agg #[.int .i64 1, .int .i64 x, .slice a n c, .slice none 0 0, .int .i64 0, .slice none 0 0, .slice none 0 0, .int .i64 0, .int .i64 0, .slice none 0 0, .slice none 0 0]) (fr1 l) := by
  subst hx
  exact fr1_O V
theorem gr2_O {w0 w : World} {bs : List Vv} {l : List UInt8} {x : Int} (hx : x = (tkN (l.drop 25) 4 : Int)) {a1 a2 a3 : Option Addr} {n1 c1 n2 c2 n3 c3 : Nat} {p : List UInt8} (hp : p = cutL l 29 16) (V : VS w0 w bs [⟨a3, n3, c3, p⟩, ⟨a2, n2, c2, cutL l 13 12⟩, ⟨a1, n1, c1, cutL l 1 12⟩]) : FrameO w0.heap.size w.heap.size w (.agg #[.int .i64 2, .int .i64 0, .slice a1 n1 c1, .slice a2 n2 c2, .int .i64 x, .slice a3 n3 c3, .slice none 0 0, .int .i64 0, .int .i64 0, .slice none 0 0, .slice none 0 0]) (fr2 l) := by
  subst hx hp
  exact fr2_O V
theorem gr3_O {w0 w : World} {bs : List Vv} {l : List UInt8} {x y : Int} (hx : x = (tkN (l.drop 1) 1 : Int)) (hy : y = (tkN (l.drop 26) 4 : Int)) {a1 a2 a3 a4 : Option Addr} {n1 c1 n2 c2 n3 c3 n4 c4 : Nat} {p : List UInt8} (hp : p = cutL l 46 16) (V : VS w0 w bs [⟨a4, n4, c4, p⟩, ⟨a3, n3, c3, cutL l 30 16⟩, ⟨a2, n2, c2, cutL l 14 12⟩, ⟨a1, n1, c1, cutL l 2 12⟩]) : FrameO w0.heap.size w.heap.size w (.agg #[.int .i64 3, .int .i64 x, .slice a1 n1 c1, .slice a2 n2 c2, .int .i64 y, .slice a3 n3 c3, .slice a4 n4 c4, .int .i64 0, .int .i64 0, .slice none 0 0, .slice none 0 0]) (fr3 l) := by
  subst hx hy hp
  exact fr3_O V
theorem grT_O {w0 w : World} {bs : List Vv} {l : List UInt8} {K : Int} {a2 a5 a6 : Option Addr} {n2 c2 n5 c5 n6 c6 : Nat} (V : VS w0 w bs [⟨a5, n5, c5, l.drop 39⟩, ⟨a6, n6, c6, cutL l 23 16⟩, ⟨a2, n2, c2, cutL l 1 12⟩]) : FrameO w0.heap.size w.heap.size w (.agg #[.int .i64 K, .int .i64 0, .slice none 0 0, .slice a2 n2 c2, .int .i64 0, .slice none 0 0, .slice none 0 0, .int .i64 (num (cutL l 13 4) : Int), .int .i64 (num (cutL l 17 6) : Int), .slice a5 n5 c5, .slice a6 n6 c6]) (frT K l) :=
  frameO_mk (Ow.nil _ _ _) V.tl.tl.o0 (Ow.nil _ _ _) (Ow.nil _ _ _) V.o0 V.tl.o0 (Nat.le_refl _) (dj_nil' _) (dj_nil' _) (dj_nil' _) (dj_nil' _) (dj_nil' _) (dj_nil _) (dj_nil _) (dj_symm V.sk.d1) (dj_symm V.tl.d1) (dj_nil' _) (dj_nil' _) (dj_nil' _) (dj_nil' _) (dj_nil' _) V.d1
end Go.Proofs.Ytgeoeacfkacdpaa
