/-
  A draw that bends bytes. Conditions: none beside those that each theorem names.
-/
import Derived.Test.YtjdaafemfpafdaaDrw
import Derived.Test.YtjdaafemfpafdaaGet
import Derived.Deep.RegionWith
namespace Go.Proofs.Ytjdaafemfpafdaa
open Go.RowKit
theorem xor_u8 (x y : Int) : 0 ≤ bits .xor .u8 x y ∧ bits .xor .u8 x y < 256 := by
  have h : ∃ z : Int, bits .xor .u8 x y = z % 256 := ⟨_, rfl⟩
  obtain ⟨z, hz⟩ := h
  rw [hz]
  omega
theorem bys_setI (l : List UInt8) (k : Nat) (y : Int) (h : 0 ≤ y ∧ y < 256) : (bys l).set k (.int .u8 y) = bys (l.set k (UInt8.ofNat y.toNat)) := by
  rw [← bys_set, UInt8.toNat_ofNat', Nat.mod_eq_of_lt (by omega), Int.toNat_of_nonneg h.1]
def PBd (B cb : Nat) (w : World) (e : Ending) (w' : World) : Prop := ∃ a n c, e = .returned (.slice a n c) ∧ DE B cb w w' ∧ BR w w' a n c
theorem PBd.mk {B cb : Nat} {w w' : World} {a : Option Addr} {n c : Nat} {l : List UInt8} (cu : Cur B w' cb) (d : Dr cb w w') (o : Ow w.heap.size w' 5 a n c (bys l)) (hn : n ≤ 256) : PBd B cb w (.returned (.slice a n c)) w' :=
  ⟨a, n, c, rfl, ⟨cu, d⟩, l, o.rd, fun _ p hp => (o.lt p hp).1, hn⟩
set_option maxRecDepth 1000000 in
set_option maxHeartbeats 4000000 in
theorem spec_l1Bend (B cb : Nat) (a : Option Addr) (n c : Nat) (l : List UInt8) (w : World) (h : Cur B w cb) (r : Rd w a n c (bys l)) (hn : n ≤ 255) :
    Calls Try.prog 49 #[.pointer (some ⟨cb, 0, none⟩), .slice a n c] w (PBd B cb w) := by
  have hcb := h.lt
  have L := Lib.hid r.blen
  go_enter Try.func49, Try.ntmps49
  go_wp2_with (first
    | (at_builtin; refine wpList_appB rfl (.tmp 7) (.tmp 8) rfl w.heap.size _ 0 0 [] rfl (new_own _ _) a n c l rfl (r.keep0 (gb_alloc (gb_refl _) _)) (by have := L.out; simp; omega) (by simp) ?_; intro a2 n2 c2 w2 o2 g2; rw [List.nil_append] at o2; have G2 : w.grownBy w2 none := gb_app (gb_alloc (gb_refl _) _) (new_own w _) (Nat.le_refl _) g2; have e2 := o2.blen.symm.trans L.out; subst e2; clear g2)
    | (go_at_call 48; (with_reducible refine (spec_l1Below B cb _ w2 (h.keep0 G2)).mono ?_); rintro e w3 ⟨z, hz, rfl, cu, d⟩; replace o2 := o2.keepI d (fun p hp => .inr (by have := (o2.lt p hp).1; omega)); replace d := (Dr.of0 (cb := cb) G2).trans d; clear G2)
    | (go_at_call 48; (with_reducible refine (spec_l1Below B cb _ w3 cu).mono ?_); rintro e w4 ⟨i, hi, rfl, cu4, d4⟩; have o4 := o2.keepI d4 (fun p hp => .inr (by have := (o2.lt p hp).1; omega)); have hlt : i < n2 := (by omega); have D4 := d.trans d4)
    | (refine wpList_slB rfl (.tmp 38) none (some (.tmp 42)) rfl a2 n2 c2 l rfl o4.rd 0 i (.inr ⟨rfl, rfl⟩) (.inl ⟨.i64, rfl⟩) (by omega) (by omega) ?_; intro b5 d5 hd5 r5 hp5)
    | (go_at_call 65; (with_reducible refine (spec_l1Byte B cb w3 cu).mono ?_); rintro e w4 ⟨k, k1, rfl, cu4, d4⟩; have o4 := o2.keepI d4 (fun p hp => .inr (by have := (o2.lt p hp).1; omega)); have D4 := d.trans d4; have kk := Lib.hid (show [Value.int .u8 (k : Int)] = bys [UInt8.ofNat k] by rw [bys, List.map_singleton, UInt8.toNat_ofNat', Nat.mod_eq_of_lt (by omega)]))
    | (at_builtin; refine wpList_appB rfl (.tmp 46) (.tmp 50) rfl w.heap.size a2 n2 c2 l rfl (o4.keep0 (gb_alloc (gb_refl _) _)) _ 1 1 [UInt8.ofNat k] rfl (new_bys w4 _ #[.int .u8 (k : Int)] [UInt8.ofNat k] kk.out) (by have := L.out; simp; omega) (by have := D4.size; simp; omega) ?_; intro a9 n9 c9 w9 o9 g9; have e9 := o9.blen))
  all_goals first
    | (go_ret; exact PBd.mk cu d o2 (by have := L.out; omega))
    | (go_ret; exact ⟨_, _, _, rfl, ⟨cu4, D4⟩, _, r5, fun _ p hp => (by obtain ⟨q, hq, e⟩ := hp5 p hp; rw [← e]; exact (o4.lt q hq).1), (by have := L.out; omega)⟩)
    | (go_ret; exact PBd.mk ((cu4.alloc _).keepI (gbI.ofRow (B := w.heap.size) (S := blkS a2) g9 (fun g hg => by obtain ⟨p, hp, rfl⟩ := rowOf hg; exact ⟨(o4.lt p hp).1, blk_lt p hp⟩)) (by have := h.le; omega) (.inl hcb)) ((D4.alloc _).row2 g9 (fun g hg => by obtain ⟨p, hp, rfl⟩ := rowOf hg; exact (o4.lt p hp).1)) o9 (by have := L.out; simp at e9; omega))
    | skip
  obtain ⟨g, rfl⟩ := o4.head (by omega)
  obtain ⟨b, off, x, e, hx, hc⟩ := o4.rd.byte i hlt
  cases e
  rw [Nat.zero_add] at hc
  obtain ⟨hf, -⟩ := o4.at i hlt
  have hg := (o4.lt _ rfl).1
  simp only at hg
  go_region_with (go_at_call 48; refine (spec_l1Below B cb _ w4.drew cu4.drew).mono ?_; rintro e w5 ⟨k, hk, rfl, cu5, d5⟩; have o5 := (o4.keep0 (gb_drew (gb_refl w4))).keepI d5 (fun p hp => .inr (by have := (o4.lt p hp).1; omega)); have hc5 : w5.cell? ⟨g, i, none⟩ = some (.int .u8 (x.toNat : Int)) := (World.cell?_of_block (d5.block g (o4.lt _ rfl).2 (.inr (by omega)))).trans hc; obtain ⟨hf5, -⟩ := o5.at i hlt)
  all_goals go_wp2
  all_goals (go_ret; exact PBd.mk (cu5.keepI (gbI_set (p := ⟨g, i, none⟩) (gbI.refl g (g + 1) w5) (.inr ⟨Nat.le_refl _, Nat.lt_succ_self _⟩) _) (by have := h.le; omega) (.inl (by omega))) ((D4.drew.trans d5).set (p := ⟨g, i, none⟩) hg _) (by have h9 := o5.set i (.int .u8 (bits BinOp.xor IntKind.u8 (x.toNat : Int) (IntKind.u8.wrap (IntKind.i64.wrap (1 + (k : Int)))))); rw [bys_setI _ _ _ (xor_u8 _ _)] at h9; exact h9) (by omega))
end Go.Proofs.Ytjdaafemfpafdaa
