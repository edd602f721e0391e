/-
  Contracts of the small functions on bytes: copies, joined parts, integers as bytes. Conditions: none beside those that each theorem names.
-/
import Derived.Test.YtpfchphgbhgmmaaGreatHelp
import Derived.Test.YtpfchphgbhgmmaaGreatBitP
import Derived.Test.YtpfchphgbhgmmaaGreatWord
namespace Go.Proofs.YtpfchphgbhgmmaaGreat
open Go.RowKit

/-- a slice of bytes and what it reads as -/
structure Sl where
  a : Option Addr
  n : Nat
  c : Nat
  l : List UInt8
def Sl.v (s : Sl) : Value := .slice s.a s.n s.c
def Sl.ok (w : World) (s : Sl) : Prop := Rd w s.a s.n s.c (bys s.l)
def cat (L : List Sl) : List UInt8 := (L.map Sl.l).flatten
theorem cat_succ {L : List Sl} {j : Nat} {s : Sl} (h : L[j]? = some s) : cat (L.take (j + 1)) = cat (L.take j) ++ s.l := by
  rw [take_succ_some h]
  simp [cat]
theorem cat_le (L : List Sl) (j : Nat) : (cat (L.take j)).length ≤ (cat L).length := by
  have h : cat L = cat (L.take j) ++ cat (L.drop j) := by
    rw [cat, cat, cat, ← List.flatten_append, ← List.map_append, List.take_append_drop]
  rw [h, List.length_append]
  omega
/-- the k lowest bytes of a number, the highest first -/
def be (n : Nat) : Nat → List UInt8
  | 0 => []
  | k + 1 => UInt8.ofNat (n / 2 ^ (8 * k)) :: be n k
theorem be_len (n : Nat) : ∀ k, (be n k).length = k
  | 0 => rfl
  | k + 1 => by rw [be, List.length_cons, be_len n k]
theorem be_byte (n i : Nat) (hn : n < 2 ^ 63) : bits .and .i64 ((n : Int) / 2 ^ (8 * i)) 255 = (((n / 2 ^ (8 * i)) % 256 : Nat) : Int) := by
  have e : ((n : Int) / 2 ^ (8 * i)) = ((n / 2 ^ (8 * i) : Nat) : Int) := by simp
  have hd : n / 2 ^ (8 * i) < 2 ^ 63 := Nat.lt_of_le_of_lt (Nat.div_le_self _ _) hn
  rw [e, show (255 : Int) = ((255 : Nat) : Int) from rfl, i64_and _ _ hd (by decide), show (255 : Nat) = 2 ^ 8 - 1 from rfl, Nat.and_two_pow_sub_one_eq_mod]
theorem be_byte' (n i : Nat) (hn : n < 2 ^ 63) : bits .and .i64 ((n : Int) / 2 ^ (8 * i)) 255 = ((UInt8.ofNat (n / 2 ^ (8 * i))).toNat : Int) := by
  rw [be_byte n i hn, UInt8.toNat_ofNat']
theorem be_cell (n i : Nat) (hn : n < 2 ^ 63) : [Value.int .u8 (bits .and .i64 ((n : Int) / 2 ^ (8 * i)) 255 % 256)] = bys [UInt8.ofNat (n / 2 ^ (8 * i))] := by
  rw [be_byte' n i hn]
  have := (UInt8.ofNat (n / 2 ^ (8 * i))).toNat_lt
  rw [Int.emod_eq_of_lt (by omega) (by omega)]
  rfl
theorem rowOf {a : Option Addr} {g : Nat} (h : a.map (·.block) = some g) : ∃ p, a = some p ∧ p.block = g := by
  cases a with
  | none => cases h
  | some p => exact ⟨p, rfl, by simpa using h⟩
section
variable {w : World}
/-- append of bytes onto bytes that the call owns -/
theorem wpList_appB {ops : Array Oper} {rest : List Oper} {o : Oper} {ac : Act} {Q : Exit → Act → World → Prop} (hgd : o.guard = none) (s x : Operand)
    (ho : o.op = .call { callee := .builtin .append, args := #[s, x], argTypes := #[22, 22] })
    (B : Nat) (a : Option Addr) (n c : Nat) (l : List UInt8) (hse : ac.eval s = .slice a n c) (hown : Ow B w 5 a n c (bys l)) (b : Option Addr) (m d : Nat) (k : List UInt8) (hx : ac.eval x = .slice b m d) (hs : Rd w b m d (bys k))
    (hsz : l.length + k.length ≤ 1073741824) (hbase : B ≤ w.heap.size)
    (h : ∀ a' n' c' w', Ow B w' 5 a' n' c' (bys (l ++ k)) → w.grownBy w' (a.map (·.block)) → wpList Tryz.prog ops Q rest (ac.put o.dst (.slice a' n' c')) w') : wpList Tryz.prog ops Q (o :: rest) ac w := by
  obtain ⟨i0, hi, hz0, hz1, hz2⟩ := info_parts inf_u8
  have h1 := hown.blen
  have h2 := hs.blen
  refine wpList_app hgd s x 22 22 ho B 5 i0 (.int .u8 0) 1 Tryz.underlying22 hi hz0 hz1 hz2 rfl a n c (bys l) hse hown _ hx m (bys k) (hs.src Tryz.underlying22 (bys_one _)) (by unfold maxLen; omega) (by omega) hbase ?_
  intro a' c' w' o' g' _
  rw [← bys_app] at o'
  exact h _ _ _ _ o' g'
end
theorem gb_app {w0 w w' : World} {B : Nat} {e : TypeId} {a : Option Addr} {n c : Nat} {xs : List Value} (G : w0.grownBy w none) (hown : Ow B w e a n c xs) (hB : w0.heap.size ≤ B) (g : w.grownBy w' (a.map (·.block))) : w0.grownBy w' none :=
  gb_transr G g (fun g hg => by obtain ⟨p, hp, h9⟩ := rowOf hg; have := (hown.lt p hp).1; left; omega)
theorem new_bys (w : World) (t : TypeId) (cs : Array Value) (l : List UInt8) (h : cs.toList = bys l) : Rd (w.alloc (.cells cs t)) (some ⟨w.heap.size, 0, none⟩) cs.size cs.size (bys l) := by
  rw [← h]
  exact new_rd w cs t cs.size rfl
set_option maxRecDepth 1000000 in
theorem impl_clone (a : Option Addr) (n c : Nat) (l : List UInt8) (w : World) (h : Rd w a n c (bys l)) (hn : n ≤ 1073741824) :
    Calls Tryz.prog 35 #[.slice a n c] w fun e w' => ∃ a' n' c', e = .returned (.slice a' n' c') ∧ Ow w.heap.size w' 5 a' n' c' (bys l) ∧ w.grownBy w' none := by
  obtain ⟨i0, hi, hz0, hz1, hz2⟩ := info_parts inf_u8
  go_enter Tryz.func35, Tryz.ntmps35
  go_wp2_with (at_builtin; refine wpList_app rfl (.tmp 3) (.tmp 4) 22 22 rfl w.heap.size 5 i0 (.int .u8 0) 1 Tryz.underlying22 hi hz0 hz1 hz2 rfl _ 0 0 [] rfl (new_own _ _) _ rfl n (bys l) ((h.keep0 (gb_alloc (gb_refl _) _)).src Tryz.underlying22 (bys_one _)) (by unfold maxLen; omega) (by omega) (by simp) ?_; intro a2 c2 w2 o2 g2 h2)
  go_ret
  rw [List.nil_append, Nat.zero_add] at o2
  exact ⟨_, _, _, rfl, o2, gb_transr (gb_alloc (gb_refl _) _) g2 (fun g hg => .inl (by simp at hg; omega))⟩
set_option maxRecDepth 1000000 in
set_option maxHeartbeats 400000 in
theorem impl_joined (a : Option Addr) (n c : Nat) (L : List Sl) (w : World) (h : Rd w a n c (L.map Sl.v)) (hL : ∀ s ∈ L, s.ok w) (hn : n ≤ 1073741824) (hm : (cat L).length ≤ 1073741824) :
    Calls Tryz.prog 64 #[.slice a n c] w fun e w' => ∃ a' n' c', e = .returned (.slice a' n' c') ∧ Ow w.heap.size w' 5 a' n' c' (bys (cat L)) ∧ w.grownBy w' none := by
  obtain ⟨i0, hi, hz0, hz1, hz2⟩ := info_parts inf_u8
  have HL := Lib.hid hL
  clear hL
  have Hn := Lib.hid (show L.length = n by have := h.len; simpa using this)
  go_enter Tryz.func64, Tryz.ntmps64
  go_wp2
  go_loopw [3, 9] (fun v i wr => ∃ (j m cc : Nat) (aa : Option Addr), j ≤ n ∧ i = .int .i64 j ∧ v = .slice aa m cc ∧ w.grownBy wr none ∧ Ow w.heap.size wr 5 aa m cc (bys (cat (L.take j)))) (fun _ i _ => n - (intOf i).toNat)
  case atStart => exact ⟨0, 0, 0, _, by omega, rfl, rfl, gb_alloc (gb_refl _) _, new_own _ _⟩
  case round =>
    obtain ⟨j, m, cc, aa, hj, rfl, rfl, hg, hown⟩ := hrel
    by_cases hlt : j < n
    · have hcj : ∃ s, Hid (L[j]? = some s) := ⟨L[j]'(by have := Hn.out; omega), by simp [Hid]⟩
      obtain ⟨s, hs⟩ := hcj
      obtain ⟨b, off, rfl, hc⟩ := (h.keep0 hg).cells j hlt
      rw [List.getElem?_map, hs.out] at hc
      simp only [Option.map_some, Sl.v] at hc
      have hok : Rd wr s.a s.n s.c (bys s.l) := ((HL.out s (List.mem_of_getElem? hs.out)) : Rd w s.a s.n s.c (bys s.l)).keep0 hg
      have hms : m + s.n ≤ 1073741824 := by
        have h1 := cat_le L (j + 1)
        rw [cat_succ hs.out, List.length_append] at h1
        have h2 := hown.blen
        have h3 := hok.blen
        omega
      go_wp2_with (at_builtin; refine wpList_app rfl (.tmp 13) (.tmp 14) 22 22 rfl w.heap.size 5 i0 (.int .u8 0) 1 Tryz.underlying22 hi hz0 hz1 hz2 rfl aa m cc _ rfl hown _ rfl s.n (bys s.l) (hok.src Tryz.underlying22 (bys_one _)) (by unfold maxLen; omega) (by omega) hg.size ?_; intro a2 c2 w2 o2 g2 h2)
      rw [← bys_app, ← cat_succ hs.out] at o2
      go_roundw
      case rel => exact ⟨j + 1, _, _, _, by omega, by go_num, rfl, gb_transr hg g2 (fun g hg => by obtain ⟨p, hp, h9⟩ := rowOf hg; have := (hown.lt p hp).1; left; omega), o2⟩
      case measure => simp [intOf]; omega
    · obtain rfl : j = n := by omega
      go_wp2
      go_ret
      rw [List.take_of_length_le (by have := Hn.out; omega)] at hown
      exact ⟨_, _, _, rfl, hown, hg⟩
set_option maxRecDepth 1000000 in
set_option maxHeartbeats 1000000 in
theorem impl_PutN (a : Option Addr) (n c : Nat) (l : List UInt8) (x : Int) (k : Int) (w : World) (h : Rd w a n c (bys l)) (hn : n ≤ 1073741824) (h0 : 0 ≤ x) (hx : x ≤ 9223372036854775807) (hk0 : 1 ≤ k) (hk1 : k ≤ 6) :
    Calls Tryz.prog 80 #[.slice a n c, .int .i64 x, .int .i64 k] w fun e w' => ∃ a' n' c', e = .returned (.slice a' n' c') ∧ Ow w.heap.size w' 5 a' n' c' (bys (l ++ be x.toNat k.toNat)) ∧ w.grownBy w' none := by
  obtain ⟨i0, hi, hz0, hz1, hz2⟩ := info_parts inf_u8
  obtain ⟨x, rfl⟩ := Int.eq_ofNat_of_zero_le h0
  obtain ⟨k, rfl⟩ := Int.eq_ofNat_of_zero_le (show 0 ≤ k by omega)
  rw [Int.toNat_natCast, Int.toNat_natCast]
  go_enter Tryz.func80, Tryz.ntmps80
  go_wp2_with (at_builtin; refine wpList_app rfl (.tmp 9) (.tmp 10) 22 22 rfl w.heap.size 5 i0 (.int .u8 0) 1 Tryz.underlying22 hi hz0 hz1 hz2 rfl _ 0 0 [] rfl (new_own _ _) _ rfl n (bys l) ((h.keep0 (gb_alloc (gb_refl _) _)).src Tryz.underlying22 (bys_one _)) (by unfold maxLen; omega) (by omega) (by simp) ?_; intro a2 c2 w2 o2 g2 h2)
  rw [List.nil_append, Nat.zero_add] at o2
  have G2 : w.grownBy w2 none := gb_transr (gb_alloc (gb_refl _) _) g2 (fun g hg => .inl (by simp at hg; omega))
  go_loopw [7, 8] (fun v i wr => ∃ (j m cc : Nat) (aa : Option Addr) (pre : List UInt8), j ≤ k ∧ i = .int .i64 ((j : Int) - 1) ∧ v = .slice aa m cc ∧ Hid (pre ++ be x j = l ++ be x k) ∧ w.grownBy wr none ∧ Ow w.heap.size wr 5 aa m cc (bys pre)) (fun _ i _ => (intOf i + 1).toNat)
  case atStart => exact ⟨k, _, _, _, l, by omega, rfl, rfl, rfl, G2, o2⟩
  case round =>
    obtain ⟨j, m, cc, aa, pre, hj, rfl, rfl, hpre, hg, hown⟩ := hrel
    have hm : m ≤ 1073741830 := by
      have h1 := congrArg List.length hpre.out
      simp only [List.length_append, be_len] at h1
      have := hown.blen
      have := h.blen
      omega
    cases j with
    | zero =>
      go_wp2
      go_ret
      have e := hpre.out
      rw [be, List.append_nil] at e
      rw [e] at hown
      exact ⟨_, _, _, rfl, hown, hg⟩
    | succ j =>
      rw [show ((j + 1 : Nat) : Int) - 1 = (j : Int) by omega]
      go_wp2_with (at_builtin; refine wpList_app rfl (.tmp 25) (.tmp 32) 22 22 rfl w.heap.size 5 i0 (.int .u8 0) 1 Tryz.underlying22 hi hz0 hz1 hz2 rfl aa m cc _ rfl (hown.keep0 (gb_alloc (gb_refl _) _)) _ rfl 1 [.int .u8 (bits .and .i64 ((x : Int) / 2 ^ (8 * j)) 255 % 256)] (new_src Tryz.underlying22 wr #[.int .u8 (bits .and .i64 ((x : Int) / 2 ^ (8 * j)) 255 % 256)] _ 1 rfl (by simp [Value.oneCell'])) (by unfold maxLen; omega) (by omega) (by have := hg.size; simp <;> omega) ?_; intro a2 c2 w2 o2 g2 h2)
      rw [be_cell x j (by omega), ← bys_app] at o2
      refine ⟨⟨j, _, _, _, _, by omega, rfl, rfl, ?_, gb_transr (gb_alloc hg _) g2 (fun g hg => by obtain ⟨p, hp, h9⟩ := rowOf hg; have := (hown.lt p hp).1; left; omega), o2⟩, by simp [intOf]⟩
      have e := hpre.out
      simp only [Hid]
      rw [List.append_assoc, List.singleton_append, ← e, be]
set_option maxRecDepth 1000000 in
set_option maxHeartbeats 1000000 in
theorem spec_PutN (a : Option Addr) (n c : Nat) (l : List UInt8) (x : Int) (k : Int) (w : World) (h : Rd w a n c (bys l)) (hn : n ≤ 1073741824) (h0 : 0 ≤ x) (hx : x ≤ 9223372036854775807) (hk0 : 1 ≤ k) (hk1 : k ≤ 6) :
    Calls Tryz.prog 61 #[.slice a n c, .int .i64 x, .int .i64 k] w fun e w' => ∃ a' n' c', e = .returned (.slice a' n' c') ∧ Ow w.heap.size w' 5 a' n' c' (bys (l ++ be x.toNat k.toNat)) ∧ w.grownBy w' none := by
  obtain ⟨i0, hi, hz0, hz1, hz2⟩ := info_parts inf_u8
  obtain ⟨x, rfl⟩ := Int.eq_ofNat_of_zero_le h0
  obtain ⟨k, rfl⟩ := Int.eq_ofNat_of_zero_le (show 0 ≤ k by omega)
  rw [Int.toNat_natCast, Int.toNat_natCast]
  go_enter Tryz.func61, Tryz.ntmps61
  go_wp2_with (at_builtin; refine wpList_app rfl (.tmp 9) (.tmp 10) 22 22 rfl w.heap.size 5 i0 (.int .u8 0) 1 Tryz.underlying22 hi hz0 hz1 hz2 rfl _ 0 0 [] rfl (new_own _ _) _ rfl n (bys l) ((h.keep0 (gb_alloc (gb_refl _) _)).src Tryz.underlying22 (bys_one _)) (by unfold maxLen; omega) (by omega) (by simp) ?_; intro a2 c2 w2 o2 g2 h2)
  rw [List.nil_append, Nat.zero_add] at o2
  have G2 : w.grownBy w2 none := gb_transr (gb_alloc (gb_refl _) _) g2 (fun g hg => .inl (by simp at hg; omega))
  go_loopw [7, 8] (fun v i wr => ∃ (j m cc : Nat) (aa : Option Addr) (pre : List UInt8), j ≤ k ∧ i = .int .i64 ((j : Int) - 1) ∧ v = .slice aa m cc ∧ Hid (pre ++ be x j = l ++ be x k) ∧ w.grownBy wr none ∧ Ow w.heap.size wr 5 aa m cc (bys pre)) (fun _ i _ => (intOf i + 1).toNat)
  case atStart => exact ⟨k, _, _, _, l, by omega, rfl, rfl, rfl, G2, o2⟩
  case round =>
    obtain ⟨j, m, cc, aa, pre, hj, rfl, rfl, hpre, hg, hown⟩ := hrel
    have hm : m ≤ 1073741830 := by
      have h1 := congrArg List.length hpre.out
      simp only [List.length_append, be_len] at h1
      have := hown.blen
      have := h.blen
      omega
    cases j with
    | zero =>
      go_wp2
      go_ret
      have e := hpre.out
      rw [be, List.append_nil] at e
      rw [e] at hown
      exact ⟨_, _, _, rfl, hown, hg⟩
    | succ j =>
      rw [show ((j + 1 : Nat) : Int) - 1 = (j : Int) by omega]
      go_wp2_with (at_builtin; refine wpList_app rfl (.tmp 25) (.tmp 32) 22 22 rfl w.heap.size 5 i0 (.int .u8 0) 1 Tryz.underlying22 hi hz0 hz1 hz2 rfl aa m cc _ rfl (hown.keep0 (gb_alloc (gb_refl _) _)) _ rfl 1 [.int .u8 (bits .and .i64 ((x : Int) / 2 ^ (8 * j)) 255 % 256)] (new_src Tryz.underlying22 wr #[.int .u8 (bits .and .i64 ((x : Int) / 2 ^ (8 * j)) 255 % 256)] _ 1 rfl (by simp [Value.oneCell'])) (by unfold maxLen; omega) (by omega) (by have := hg.size; simp <;> omega) ?_; intro a2 c2 w2 o2 g2 h2)
      rw [be_cell x j (by omega), ← bys_app] at o2
      refine ⟨⟨j, _, _, _, _, by omega, rfl, rfl, ?_, gb_transr (gb_alloc hg _) g2 (fun g hg => by obtain ⟨p, hp, h9⟩ := rowOf hg; have := (hown.lt p hp).1; left; omega), o2⟩, by simp [intOf]⟩
      have e := hpre.out
      simp only [Hid]
      rw [List.append_assoc, List.singleton_append, ← e, be]
end Go.Proofs.YtpfchphgbhgmmaaGreat
