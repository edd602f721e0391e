/-
  How a walk stands that makes slices of its own: the variables; the slices, each in a block of its own. Conditions: none beside those that each theorem names.
-/
import Derived.Test.YtgeoeacfkacdpaaCell
import Derived.Test.YtgeoeacfkacdpaaSet1
namespace Go.Proofs.Ytgeoeacfkacdpaa
open Go.RowKit
/-- a slice of bytes of the call's own -/
structure Ob where
  a : Option Addr
  n : Nat
  c : Nat
  l : List UInt8
/-- a variable in a block of its own -/
structure Vv where
  q : Nat
  t : TypeId
  cs : Array Value
/-- nothing that w0 held has turned; the variables bs; the slices L are the call's own, no two in one block, none in a variable's -/
structure VS (w0 w : World) (bs : List Vv) (L : List Ob) : Prop where
  gb : w0.grownBy w none
  ow : ∀ s ∈ L, Ow w0.heap.size w 5 s.a s.n s.c (bys s.l) ∧ ∀ p, s.a = some p → ∀ b ∈ bs, p.block ≠ b.q
  bx : ∀ b ∈ bs, Bx w b.q b.t b.cs ∧ w0.heap.size ≤ b.q
  dq : bs.Pairwise fun x y => x.q ≠ y.q
  ds : L.Pairwise fun s t => dj s.a t.a
section
variable {w0 w w' : World} {bs : List Vv} {L : List Ob}
theorem VS.start (w : World) : VS w w [] [] := ⟨gb_refl w, by simp, by simp, List.Pairwise.nil, List.Pairwise.nil⟩
theorem VS.grow (V : VS w0 w bs L) (g : w.grownBy w' none) : VS w0 w' bs L :=
  ⟨gb_trans V.gb g, fun s hs => ⟨(V.ow s hs).1.keep0 g, (V.ow s hs).2⟩, fun b hb => ⟨(V.bx b hb).1.keep0 g, (V.bx b hb).2⟩, V.dq, V.ds⟩
theorem VS.drew (V : VS w0 w bs L) : VS w0 w.drew bs L := V.grow (gb_drew (gb_refl w))
theorem VS.drewN (V : VS w0 w bs L) (n : Nat) : VS w0 (w.drewN n) bs L := V.grow (gb_drewN (gb_refl w) n)
theorem VS.alloc (V : VS w0 w bs L) (o : Obj) : VS w0 (w.alloc o) bs L := V.grow (gb_alloc (gb_refl w) o)
theorem VS.box (V : VS w0 w bs L) (cs : Array Value) (t : TypeId) : VS w0 (w.alloc (.cells cs t)) (⟨w.heap.size, t, cs⟩ :: bs) L :=
  have E := V.alloc (.cells cs t)
  ⟨E.gb, fun s hs => ⟨(E.ow s hs).1, fun p hp b hb => by
    rcases List.mem_cons.1 hb with rfl | hb
    · exact Nat.ne_of_lt ((V.ow s hs).1.lt p hp).2
    · exact (V.ow s hs).2 p hp b hb⟩, fun b hb => by
    rcases List.mem_cons.1 hb with rfl | hb
    · exact ⟨Bx.new w t cs, V.gb.size⟩
    · exact E.bx b hb, List.pairwise_cons.2 ⟨fun b hb => Nat.ne_of_gt (V.bx b hb).1.lt, V.dq⟩, V.ds⟩
/-- a slice that a callee has made -/
theorem VS.add (V : VS w0 w bs L) {bs' : List Vv} (V' : VS w0 w' bs' L) (hb : bs'.map (·.q) = bs.map (·.q)) {a : Option Addr} {n c : Nat} {l : List UInt8} (o : Ow w.heap.size w' 5 a n c (bys l)) : VS w0 w' bs' (⟨a, n, c, l⟩ :: L) :=
  ⟨V'.gb, fun s hs => by
    rcases List.mem_cons.1 hs with rfl | hs
    · refine ⟨o.mono V.gb.size, fun p hp b h9 => ?_⟩
      have h1 : b.q ∈ bs'.map (·.q) := List.mem_map.2 ⟨b, h9, rfl⟩
      rw [hb] at h1
      obtain ⟨b2, h2, e2⟩ := List.mem_map.1 h1
      have h3 := (V.bx b2 h2).1.lt
      have h4 := (o.lt p hp).1
      try simp only at e2
      omega
    · exact V'.ow s hs, V'.bx, V'.dq, List.pairwise_cons.2 ⟨fun t ht p q hp hq => by
      have h1 := (o.lt p hp).1
      have h2 := ((V.ow t ht).1.lt q hq).2
      try simp only at h1
      omega, V'.ds⟩⟩
theorem VS.row (V : VS w0 w bs L) {q : Nat} {t : TypeId} {cs : Array Value} {b1 b2 : List Vv} {old : Array Value} (e : bs = b1 ++ ⟨q, t, old⟩ :: b2) (hb : Bx w' q t cs) (g : w.grownBy w' (some q)) : VS w0 w' (b1 ++ ⟨q, t, cs⟩ :: b2) L := by
  subst e
  have hq := (V.bx ⟨q, t, old⟩ (by simp)).2
  simp only at hq
  have hne : ∀ b ∈ b1 ++ b2, b.q ≠ q := by
    have h := V.dq
    rw [List.pairwise_append, List.pairwise_cons] at h
    intro b hb
    rcases List.mem_append.1 hb with h1 | h1
    · exact h.2.2 b h1 ⟨q, t, old⟩ (by simp)
    · exact fun e => h.2.1.1 b h1 e.symm
  refine ⟨gb_row V.gb g hq, fun s hs => ⟨(V.ow s hs).1.row g (fun p hp => ?_), fun p hp b hb => ?_⟩, fun b h9 => ?_, ?_, V.ds⟩
  · have := (V.ow s hs).2 p hp ⟨q, t, old⟩ (by simp)
    exact this
  · rcases List.mem_append.1 hb with h1 | h1
    · exact (V.ow s hs).2 p hp b (by simp [h1])
    · rcases List.mem_cons.1 h1 with rfl | h1
      · exact (V.ow s hs).2 p hp ⟨q, t, old⟩ (by simp)
      · exact (V.ow s hs).2 p hp b (by simp [h1])
  · rcases List.mem_append.1 h9 with h1 | h1
    · have := V.bx b (by simp [h1])
      exact ⟨this.1.keepRow g (fun e => hne b (by simp [h1]) (by simpa using e.symm)), this.2⟩
    · rcases List.mem_cons.1 h1 with rfl | h1
      · exact ⟨hb, hq⟩
      · have := V.bx b (by simp [h1])
        exact ⟨this.1.keepRow g (fun e => hne b (by simp [h1]) (by simpa using e.symm)), this.2⟩
  · have h := V.dq
    rw [List.pairwise_append, List.pairwise_cons] at h ⊢
    refine ⟨h.1, ⟨h.2.1.1, h.2.1.2⟩, fun x hx y hy => ?_⟩
    rcases List.mem_cons.1 hy with rfl | hy
    · exact h.2.2 x hx ⟨q, t, old⟩ (by simp)
    · exact h.2.2 x hx y (by simp [hy])
theorem VS.cell0 {q : Nat} {t : TypeId} {cs : Array Value} {b2 : List Vv} (V : VS w0 w (⟨q, t, cs⟩ :: b2) L) (j : Nat) : w.cell? ⟨q, j, none⟩ = cs[j]? := (V.bx _ (List.mem_cons_self ..)).1.cell j
theorem VS.frz0 {q : Nat} {t : TypeId} {cs : Array Value} {b2 : List Vv} (V : VS w0 w (⟨q, t, cs⟩ :: b2) L) (j : Nat) : w.frozen? ⟨q, j, none⟩ = false := (V.bx _ (List.mem_cons_self ..)).1.frozen j
theorem VS.bx0 {q : Nat} {t : TypeId} {cs : Array Value} {b2 : List Vv} (V : VS w0 w (⟨q, t, cs⟩ :: b2) L) : Bx w q t cs := (V.bx _ (List.mem_cons_self ..)).1
theorem VS.bx1 {b : Vv} {q : Nat} {t : TypeId} {cs : Array Value} {b2 : List Vv} (V : VS w0 w (b :: ⟨q, t, cs⟩ :: b2) L) : Bx w q t cs := (V.bx _ (List.mem_cons_of_mem _ (List.mem_cons_self ..))).1
theorem VS.cell1 {b : Vv} {q : Nat} {t : TypeId} {cs : Array Value} {b2 : List Vv} (V : VS w0 w (b :: ⟨q, t, cs⟩ :: b2) L) (j : Nat) : w.cell? ⟨q, j, none⟩ = cs[j]? := V.bx1.cell j
theorem VS.bx2 {b b' : Vv} {q : Nat} {t : TypeId} {cs : Array Value} {b2 : List Vv} (V : VS w0 w (b :: b' :: ⟨q, t, cs⟩ :: b2) L) : Bx w q t cs := (V.bx _ (List.mem_cons_of_mem _ (List.mem_cons_of_mem _ (List.mem_cons_self ..)))).1
theorem VS.set0 {q : Nat} {t : TypeId} {cs : Array Value} {b2 : List Vv} (V : VS w0 w (⟨q, t, cs⟩ :: b2) L) (j : Nat) (u : Value) : VS w0 (w.setCell ⟨q, j, none⟩ u) (⟨q, t, cs.setIfInBounds j u⟩ :: b2) L :=
  V.row (b1 := []) rfl (V.bx0.set j u) (gb_set (gb_reflr w _) (.inr rfl) u)
theorem VS.row0 {q : Nat} {t : TypeId} {cs old : Array Value} {b2 : List Vv} (V : VS w0 w (⟨q, t, old⟩ :: b2) L) (hb : Bx w' q t cs) (g : w.grownBy w' (some q)) : VS w0 w' (⟨q, t, cs⟩ :: b2) L := V.row (b1 := []) rfl hb g
theorem VS.row1 {b : Vv} {q : Nat} {t : TypeId} {cs old : Array Value} {b2 : List Vv} (V : VS w0 w (b :: ⟨q, t, old⟩ :: b2) L) (hb : Bx w' q t cs) (g : w.grownBy w' (some q)) : VS w0 w' (b :: ⟨q, t, cs⟩ :: b2) L := V.row (b1 := [b]) rfl hb g
theorem VS.row2 {b b' : Vv} {q : Nat} {t : TypeId} {cs old : Array Value} {b2 : List Vv} (V : VS w0 w (b :: b' :: ⟨q, t, old⟩ :: b2) L) (hb : Bx w' q t cs) (g : w.grownBy w' (some q)) : VS w0 w' (b :: b' :: ⟨q, t, cs⟩ :: b2) L := V.row (b1 := [b, b']) rfl hb g
theorem VS.nob (V : VS w0 w bs L) : VS w0 w [] L := ⟨V.gb, fun s hs => ⟨(V.ow s hs).1, by simp⟩, by simp, List.Pairwise.nil, V.ds⟩
theorem VS.tl {s : Ob} (V : VS w0 w bs (s :: L)) : VS w0 w bs L := ⟨V.gb, fun t ht => V.ow t (List.mem_cons_of_mem _ ht), V.bx, V.dq, (List.pairwise_cons.1 V.ds).2⟩
theorem VS.o0 {a : Option Addr} {n c : Nat} {l : List UInt8} (V : VS w0 w bs (⟨a, n, c, l⟩ :: L)) : Ow w0.heap.size w 5 a n c (bys l) := (V.ow _ (List.mem_cons_self ..)).1
theorem dj_symm {a b : Option Addr} (h : dj a b) : dj b a := fun p q hp hq e => h q p hq hp e.symm
theorem VS.d1 {a b : Option Addr} {n m c d : Nat} {l k : List UInt8} (V : VS w0 w bs (⟨a, n, c, l⟩ :: ⟨b, m, d, k⟩ :: L)) : dj a b := (List.pairwise_cons.1 V.ds).1 _ (List.mem_cons_self ..)
/-- the second slice is left out -/
theorem VS.sk {s t : Ob} (V : VS w0 w bs (s :: t :: L)) : VS w0 w bs (s :: L) :=
  ⟨V.gb, fun u hu => V.ow u (by rcases List.mem_cons.1 hu with rfl | hu
                                · exact List.mem_cons_self ..
                                · exact List.mem_cons_of_mem _ (List.mem_cons_of_mem _ hu)), V.bx, V.dq, by
    have h := V.ds
    rw [List.pairwise_cons, List.pairwise_cons] at h
    exact List.pairwise_cons.2 ⟨fun u hu => h.1 u (List.mem_cons_of_mem _ hu), h.2.2⟩⟩
end
end Go.Proofs.Ytgeoeacfkacdpaa
