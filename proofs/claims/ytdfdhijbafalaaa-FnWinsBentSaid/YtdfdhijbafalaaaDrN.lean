/-
  Draws of numbers near one another, with leaps. Conditions: none beside those that each theorem names.
-/
import Derived.Test.YtdfdhijbafalaaaDrw
import Derived.Test.YtdfdhijbafalaaaDrO
import Derived.Test.YtdfdhijbafalaaaHelpS
namespace Go.Proofs.Ytdfdhijbafalaaa
open Go.RowKit
/-- append of one number onto numbers that the call owns -/
theorem wpList_appZ {w : World} {ops : Array Oper} {rest : List Oper} {o : Oper} {ac : Act} {Q : Exit → Act → World → Prop} (hgd : o.guard = none) (s x : Operand)
    (ho : o.op = .call { callee := .builtin .append, args := #[s, x], argTypes := #[24, 24] })
    (B : Nat) (a : Option Addr) (n c : Nat) (l : List Int) (hse : ac.eval s = .slice a n c) (hown : Ow B w 3 a n c (ins l)) (b : Option Addr) (m d : Nat) (k : List Int) (hx : ac.eval x = .slice b m d) (hs : Rd w b m d (ins k))
    (hsz : l.length + k.length ≤ 1073741824) (hbase : B ≤ w.heap.size)
    (h : ∀ a' n' c' w', Ow B w' 3 a' n' c' (ins (l ++ k)) → w.grownBy w' (a.map (·.block)) → wpList Try.prog ops Q rest (ac.put o.dst (.slice a' n' c')) w') : wpList Try.prog ops Q (o :: rest) ac w := by
  obtain ⟨i0, hi, hz0, hz1, hz2⟩ := info_parts inf_int
  have h1 := hown.rd.ilen
  have h2 := hs.ilen
  refine wpList_app hgd s x 24 24 ho B 3 i0 (.int .i64 0) 8 Try.underlying24 hi hz0 hz1 hz2 rfl a n c (ins l) hse hown _ hx m (ins k) (hs.src Try.underlying24 (by simp [ins, Value.oneCell'])) (by unfold maxLen; omega) (by omega) hbase ?_
  intro a' c' w' o' g' _
  rw [show ins l ++ ins k = ins (l ++ k) by simp [ins]] at o'
  exact h _ _ _ _ o' g'
/-- the cursor stands, and the numbers so far are the call's own -/
structure NS (B cb : Nat) (w0 w : World) (a : Option Addr) (n c : Nat) (l : List Int) : Prop where
  cur : Cur B w cb
  dr : Dr cb w0 w
  ow : Ow w0.heap.size w 3 a n c (ins l)
  lt : cb < w0.heap.size
section
variable {B cb : Nat} {w0 w w' : World} {a : Option Addr} {n c : Nat} {l : List Int}
theorem NS.by (N : NS B cb w0 w a n c l) (E : DE B cb w w') : NS B cb w0 w' a n c l :=
  ⟨E.cur, N.dr.trans E.dr, N.ow.keepI E.dr (fun p hp => .inr (by have := (N.ow.lt p hp).1; have := N.lt; omega)), N.lt⟩
theorem NS.new (h : Cur B w cb) : NS B cb w (w.alloc (.cells #[] 3)) (some ⟨w.heap.size, 0, none⟩) 0 0 [] :=
  ⟨h.alloc _, (Dr.refl _ _).alloc _, new_own _ _, h.lt⟩
theorem NS.grow (N : NS B cb w0 w a n c l) (g : w.grownBy w' none) : NS B cb w0 w' a n c l := N.by ⟨N.cur.keep0 g, Dr.of0 g⟩
theorem NS.app (N : NS B cb w0 w a n c l) {a' : Option Addr} {n' c' : Nat} {l' : List Int} (o : Ow w0.heap.size w' 3 a' n' c' (ins l')) (g : w.grownBy w' (a.map (·.block))) : NS B cb w0 w' a' n' c' l' :=
  ⟨N.cur.keepI (gbI.ofRow (B := w0.heap.size) (S := blkS a) g (fun g hg => by obtain ⟨p, hp, rfl⟩ := rowOf hg; exact ⟨(N.ow.lt p hp).1, blk_lt p hp⟩)) (by have := N.cur.le; have := N.lt; omega) (.inl N.lt),
    N.dr.row2 g (fun g hg => by obtain ⟨p, hp, rfl⟩ := rowOf hg; exact (N.ow.lt p hp).1), o, N.lt⟩
theorem NS.ds (N : NS B cb w0 w a n c l) : DS B cb w w [] [] := DS.start N.cur
end
theorem new_ins1 (w : World) (t : TypeId) (x : Int) : Rd (w.alloc (.cells #[.int .i64 x] t)) (some ⟨w.heap.size, 0, none⟩) 1 1 (ins [x]) := new_rd w #[.int .i64 x] t 1 rfl
def PNu (B cb : Nat) (w : World) (e : Ending) (w' : World) : Prop := ∃ a n c l, e = .returned (.slice a n c) ∧ NS B cb w w' a n c l ∧ n ≤ 256
set_option maxRecDepth 1000000 in
set_option maxHeartbeats 4000000 in
theorem spec_l8Nums (B cb : Nat) (x : Int) (w : World) (h : Cur B w cb) (h0 : 0 ≤ x) (hx : x ≤ 200) :
    Calls Try.prog 33 #[.pointer (some ⟨cb, 0, none⟩), .int .i64 x] w (PNu B cb w) := by
  have N := NS.new h
  go_enter Try.func33, Try.ntmps33
  go_wp2_with (first | (go_at_call 44; (with_reducible refine d_l1Int N.ds ?_ ?_ ?_ ?_ ?_ ?_); (focus (first | rfl | (simp; done))); (focus (exact rfl)); (focus rfl); (focus decide); (focus decide); intro w1 u hi D; replace N := N.by D.de; clear D hi) | (go_at_call 57; (with_reducible refine d_l1Below N.ds ?_); intro w1 z hz D; replace N := N.by D.de; clear D))
  go_loopw [5, 6, 7] (fun v b i wr => ∃ (j m cc : Nat) (aa : Option Addr) (l : List Int) (y : Int), ((j + m : Nat) : Int) ≤ max (x + 1) 0 ∧ i = .int .i64 (j : Int) ∧ b = .int .i64 y ∧ v = .slice aa m cc ∧ NS B cb w wr aa m cc l) (fun _ _ i _ => (intOf i).toNat)
  case atStart => exact ⟨_, _, _, _, _, _, by omega, rfl, rfl, rfl, N⟩
  case round =>
    clear N
    obtain ⟨j, m, cc, aa, l, y, hj, rfl, rfl, rfl, N⟩ := hrel
    have hm := Lib.hid N.ow.rd.ilen
    by_cases hlt : 0 < j
    · obtain ⟨j, rfl⟩ : ∃ i, j = i + 1 := ⟨j - 1, by omega⟩
      go_wp2_with (first | (go_at_call 44; (with_reducible refine d_l1Int N.ds ?_ ?_ ?_ ?_ ?_ ?_); (focus (first | rfl | (simp; done))); (focus (exact rfl)); (focus rfl); (focus decide); (focus decide); intro w1 u hi D; replace N := N.by D.de; clear D hi) | (go_at_call 57; (with_reducible refine d_l1Below N.ds ?_); intro w1 z hz D; replace N := N.by D.de; clear D) | (go_at_call 58; (with_reducible refine d_l1Once N.ds ?_); intro w1 o D; replace N := N.by D.de; clear D; cases o) | (at_builtin; refine wpList_appZ rfl (.tmp 27) (.tmp 36) rfl w.heap.size _ _ _ _ rfl (N.grow (gb_alloc (gb_refl _) _)).ow _ 1 1 _ rfl (new_ins1 _ _ _) (by have := N.ow.rd.ilen; simp; omega) (by have := N.dr.size; simp; omega) ?_; intro a9 n9 c9 w9 o9 g9; replace N := (N.grow (gb_alloc (gb_refl _) _)).app o9 g9; clear o9 g9))
      all_goals (refine ⟨⟨j, _, _, _, _, _, ?_, rfl, rfl, rfl, N⟩, by simp [intOf]⟩; (have h9 := N.ow.rd.ilen); (simp at h9); (have h8 := hm.out); omega)
    · obtain rfl : j = 0 := by omega
      go_wp2_with (first | (go_at_call 44; (with_reducible refine d_l1Int N.ds ?_ ?_ ?_ ?_ ?_ ?_); (focus (first | rfl | (simp; done))); (focus (exact rfl)); (focus rfl); (focus decide); (focus decide); intro w1 u hi D; replace N := N.by D.de; clear D hi) | (go_at_call 57; (with_reducible refine d_l1Below N.ds ?_); intro w1 z hz D; replace N := N.by D.de; clear D) | (go_at_call 58; (with_reducible refine d_l1Once N.ds ?_); intro w1 o D; replace N := N.by D.de; clear D; cases o) | (at_builtin; refine wpList_appZ rfl (.tmp 40) (.tmp 44) rfl w.heap.size _ _ _ _ rfl (N.grow (gb_alloc (gb_refl _) _)).ow _ 1 1 _ rfl (new_ins1 _ _ _) (by have := N.ow.rd.ilen; simp; omega) (by have := N.dr.size; simp; omega) ?_; intro a9 n9 c9 w9 o9 g9; replace N := (N.grow (gb_alloc (gb_refl _) _)).app o9 g9; clear o9 g9))
      all_goals (go_ret; refine ⟨_, _, _, _, rfl, N, ?_⟩; (have h9 := N.ow.rd.ilen); (try simp at h9); (have h8 := hm.out); omega)
def PNm (w : World) (e : Ending) (w' : World) : Prop := ∃ a n c l, e = .returned (.slice a n c) ∧ Rd w' a n c (ins l) ∧ n ≤ 256 ∧ w.grownBy w' none
set_option maxRecDepth 1000000 in
theorem spec_DrawNums (a : Option Addr) (n c : Nat) (l : List UInt8) (w : World) (r : Rd w a n c (bys l)) (hn : n ≤ 1048576) : Calls Try.prog 7 #[.slice a n c] w (PNm w) := by
  have hp : 0 < n → ∀ p, a = some p → p.block < w.heap.size := by
    intro h0 p hp
    obtain ⟨b, off, h1, h2, -⟩ := r.pos h0
    rw [h1] at hp
    cases hp
    exact h2
  go_enter Try.func7, Try.ntmps7
  go_wp2_with (first
    | (go_at_call 32; refine (spec_l1New a n c l w.heap.size _ r hn hp (Nat.le_refl _)).mono ?_; rintro e w1 ⟨cb, rfl, cu, hc, g⟩)
    | (go_at_call 33; (with_reducible refine (spec_l8Nums _ cb 30 _ cu (by decide) (by decide)).mono ?_); rintro e w2 ⟨a2, n2, c2, l2, rfl, N, hm⟩))
  go_ret
  exact ⟨_, _, _, _, rfl, N.ow.rd, hm, N.dr.gb0 g hc⟩
end Go.Proofs.Ytdfdhijbafalaaa
