/-
  Contracts of the functions that lay heads and bodies: the head of a sealed frame, the body of a proof. Conditions: none beside those that each theorem names.
-/
import Derived.Test.YtpfchphgbhgmmaaGreatBytes
namespace Go.Proofs.YtpfchphgbhgmmaaGreat
open Go.RowKit
def b8 (x : Int) : UInt8 := UInt8.ofNat x.toNat
theorem b8_mod {x : Int} (h0 : 0 ≤ x) : x % 256 = ((b8 x).toNat : Int) := by
  rw [b8, UInt8.toNat_ofNat']
  omega
theorem b8_val {x : Int} (h0 : 0 ≤ x) (h1 : x < 256) : ((b8 x).toNat : Int) = x := by rw [← b8_mod h0]; omega
theorem be_len' (n k : Nat) : (be n k).length = k := be_len n k
/-- what a call hands back: bytes of its own -/
def RetB (w : World) (l : List UInt8) (e : Ending) (w' : World) : Prop := ∃ a n c, e = .returned (.slice a n c) ∧ Ow w.heap.size w' 5 a n c (bys l) ∧ w.grownBy w' none
theorem retB {w w' : World} {B : Nat} {a : Option Addr} {n c : Nat} {l l' : List UInt8} (o : Ow B w' 5 a n c (bys l')) (hB : w.heap.size ≤ B) (g : w.grownBy w' none) (e : l' = l) : RetB w l (.returned (.slice a n c)) w' :=
  ⟨a, n, c, rfl, by rw [← e]; exact o.mono hB, g⟩
theorem new_ownB (w : World) (cs : Array Value) (l : List UInt8) (h : cs.toList = bys l) (hn : cs.size ≤ 1073741824) : Ow w.heap.size (w.alloc (.cells cs 5)) 5 (some ⟨w.heap.size, 0, none⟩) cs.size cs.size (bys l) := by
  rw [← h]
  exact new_own1 w 5 cs cs.size rfl (by unfold maxLen; omega)
theorem new_ownBk (w : World) (cs : Array Value) (l : List UInt8) (k : Nat) (hk : w.heap.size = k) (h : cs.toList = bys l) (hn : cs.size ≤ 1073741824) : Ow k (w.alloc (.cells cs 5)) 5 (some ⟨k, 0, none⟩) cs.size cs.size (bys l) := by
  subst hk
  exact new_ownB w cs l h hn
theorem ok_nil {w : World} : ∀ s ∈ ([] : List Sl), s.ok w := fun _ h => by cases h
theorem ok_cons {w : World} {s : Sl} {L : List Sl} (h : Rd w s.a s.n s.c (bys s.l)) (hL : ∀ s ∈ L, s.ok w) : ∀ t ∈ s :: L, t.ok w := by
  intro t ht
  rcases List.mem_cons.1 ht with rfl | h1
  · exact h
  · exact hL t h1
theorem impl_isNonce (a : Option Addr) (n c : Nat) (w : World) : Calls Tryz.prog 76 #[.slice a n c] w fun e w' => e = .returned (.bool ((n : Int) == 12)) ∧ w = w' := by
  go_enter Tryz.func76, Tryz.ntmps76
  go_wp2
  go_ret
  exact ⟨rfl, rfl⟩
def roleB (r : Int) : Bool := inB r 0 1
theorem roleB_eq (r : Int) : (r == 0 || r == 1) = roleB r := by
  rw [Bool.eq_iff_iff]
  simp [roleB, inB]
  omega
theorem impl_isRole (r : Int) (w : World) : Calls Tryz.prog 52 #[.int .i64 r] w fun e w' => e = .returned (.bool (roleB r)) ∧ w = w' := by
  rw [← roleB_eq]
  go_enter Tryz.func52, Tryz.ntmps52
  go_wp2
  all_goals
    go_ret
    refine ⟨ret_b ?_, rfl⟩
    simp [*]
def headOk (role : Int) (sn : Nat) (epoch seq : Int) : Bool := roleB role && ((sn : Int) == 12) && inB epoch 0 4294967295 && inB seq 0 281474976710655
def headM (role : Int) (sn : List UInt8) (epoch seq : Int) : List UInt8 :=
  if headOk role sn.length epoch seq then [b8 role] ++ sn ++ be epoch.toNat 4 ++ be seq.toNat 6 else []
set_option maxHeartbeats 1000000 in
theorem impl_HeadOf (role : Int) (a : Option Addr) (n c : Nat) (l : List UInt8) (epoch seq : Int) (w : World) (h : Rd w a n c (bys l)) :
    Calls Tryz.prog 56 #[.int .i64 role, .slice a n c, .int .i64 epoch, .int .i64 seq] w (RetB w (headM role l epoch seq)) := by
  have hl := h.blen
  cases h1 : roleB role
  · have hm : headM role l epoch seq = [] := by simp [headM, headOk, *]
    rw [hm]
    clear hm hl
    go_enter Tryz.func56, Tryz.ntmps56
    go_wp2_with (first | (go_at_call 52; refine (impl_isRole _ _).mono ?_; rintro e w' ⟨rfl, rfl⟩) | (go_at_call 76; refine (impl_isNonce _ _ _ _).mono ?_; rintro e w' ⟨rfl, rfl⟩) | (go_at_call 34; refine (impl_within _ _ _ _).mono ?_; rintro e w' ⟨rfl, rfl⟩))
    go_ret
    exact ⟨_, _, _, rfl, Ow.nil _ _ _, gb_refl _⟩
  cases h2 : ((n : Int) == 12)
  · have hm : headM role l epoch seq = [] := by simp [headM, headOk, *]
    rw [hm]
    clear hm hl
    go_enter Tryz.func56, Tryz.ntmps56
    go_wp2_with (first | (go_at_call 52; refine (impl_isRole _ _).mono ?_; rintro e w' ⟨rfl, rfl⟩) | (go_at_call 76; refine (impl_isNonce _ _ _ _).mono ?_; rintro e w' ⟨rfl, rfl⟩) | (go_at_call 34; refine (impl_within _ _ _ _).mono ?_; rintro e w' ⟨rfl, rfl⟩))
    go_ret
    exact ⟨_, _, _, rfl, Ow.nil _ _ _, gb_refl _⟩
  cases h3 : inB epoch 0 4294967295
  · have hm : headM role l epoch seq = [] := by simp [headM, headOk, *]
    rw [hm]
    clear hm hl
    go_enter Tryz.func56, Tryz.ntmps56
    go_wp2_with (first | (go_at_call 52; refine (impl_isRole _ _).mono ?_; rintro e w' ⟨rfl, rfl⟩) | (go_at_call 76; refine (impl_isNonce _ _ _ _).mono ?_; rintro e w' ⟨rfl, rfl⟩) | (go_at_call 34; refine (impl_within _ _ _ _).mono ?_; rintro e w' ⟨rfl, rfl⟩))
    go_ret
    exact ⟨_, _, _, rfl, Ow.nil _ _ _, gb_refl _⟩
  cases h4 : inB seq 0 281474976710655
  · have hm : headM role l epoch seq = [] := by simp [headM, headOk, *]
    rw [hm]
    clear hm hl
    go_enter Tryz.func56, Tryz.ntmps56
    go_wp2_with (first | (go_at_call 52; refine (impl_isRole _ _).mono ?_; rintro e w' ⟨rfl, rfl⟩) | (go_at_call 76; refine (impl_isNonce _ _ _ _).mono ?_; rintro e w' ⟨rfl, rfl⟩) | (go_at_call 34; refine (impl_within _ _ _ _).mono ?_; rintro e w' ⟨rfl, rfl⟩))
    go_ret
    exact ⟨_, _, _, rfl, Ow.nil _ _ _, gb_refl _⟩
  have hm : headM role l epoch seq = [b8 role] ++ l ++ be epoch.toNat 4 ++ be seq.toNat 6 := by simp [headM, headOk, *]
  rw [hm]
  have H1 := inB_iff.1 h1
  have H3 := inB_iff.1 h3
  have H4 := inB_iff.1 h4
  have hn : n ≤ 12 := by have := beq_iff_eq.1 h2; omega
  clear hm hl
  go_enter Tryz.func56, Tryz.ntmps56
  go_wp2_with (first | (go_at_call 52; refine (impl_isRole _ _).mono ?_; rintro e w' ⟨rfl, rfl⟩) | (go_at_call 76; refine (impl_isNonce _ _ _ _).mono ?_; rintro e w' ⟨rfl, rfl⟩) | (go_at_call 34; refine (impl_within _ _ _ _).mono ?_; rintro e w' ⟨rfl, rfl⟩))
  have g0 := gb_alloc (gb_refl w) (.cells #[.int .u8 role] 5)
  have s0 : Rd (w.alloc (.cells #[.int .u8 role] 5)) (some ⟨w.heap.size, 0, none⟩) 1 1 (bys [b8 role]) := new_bys w _ #[.int .u8 role] [b8 role] (by rw [bys, List.map_singleton, b8_val H1.1 (by omega)])
  refine (impl_PutN none 0 0 [] _ _ _ (Rd.nil _ _ _) (by omega) H3.1 (by omega) (by omega) (by omega)).mono ?_
  rintro e w1 ⟨a1, n1, c1, rfl, o1, g1⟩
  have G1 := gb_trans g0 g1
  replace s0 := s0.keep0 g1
  go_wp2_with fail
  refine (impl_PutN none 0 0 [] _ _ _ (Rd.nil _ _ _) (by omega) H4.1 (by omega) (by omega) (by omega)).mono ?_
  rintro e w2 ⟨a2, n2, c2, rfl, o2, g2⟩
  have G2 := gb_trans G1 g2
  replace s0 := s0.keep0 g2
  replace o1 := o1.keep0 g2
  go_wp2_with fail
  have g3 := gb_alloc (gb_refl w2) (.cells #[.slice (some ⟨w.heap.size, 0, none⟩) 1 1, .slice a n c, .slice a1 n1 c1, .slice a2 n2 c2] 22)
  refine (impl_joined _ _ _ [⟨_, _, _, [b8 role]⟩, ⟨a, n, c, l⟩, ⟨a1, n1, c1, be epoch.toNat 4⟩, ⟨a2, n2, c2, be seq.toNat 6⟩] _ (new_rd _ _ _ 4 rfl) (ok_cons (s0.keep0 g3) (ok_cons ((h.keep0 G2).keep0 g3) (ok_cons (o1.rd.keep0 g3) (ok_cons (o2.rd.keep0 g3) ok_nil)))) (by omega) (by have := h.blen; simp [cat, be_len]; omega)).mono ?_
  rintro e w3 ⟨a3, n3, c3, rfl, o3, g4⟩
  have z3 := (gb_trans G2 g3).size
  go_wp2
  go_ret
  exact retB o3 z3 (gb_trans (gb_trans G2 g3) g4) (by simp [cat])
set_option maxHeartbeats 1000000 in
theorem spec_HeadOf (role : Int) (a : Option Addr) (n c : Nat) (l : List UInt8) (epoch seq : Int) (w : World) (h : Rd w a n c (bys l)) :
    Calls Tryz.prog 30 #[.int .i64 role, .slice a n c, .int .i64 epoch, .int .i64 seq] w (RetB w (headM role l epoch seq)) := by
  have hl := h.blen
  cases h1 : inB role 0 1
  · have h1 : roleB role = false := h1
    have hm : headM role l epoch seq = [] := by simp [headM, headOk, *]
    rw [hm]
    clear hm hl
    go_enter Tryz.func30, Tryz.ntmps30
    go_wp2_with (go_at_call 59; refine (spec_l1In _ _ _ _).mono ?_; rintro e w' ⟨rfl, rfl⟩)
    go_ret
    exact ⟨_, _, _, rfl, new_own _ _, gb_alloc (gb_refl _) _⟩
  replace h1 : roleB role = true := h1
  cases h2 : ((n : Int) == 12)
  · have h2' : ((n : Int) != 12) = true := by simpa using h2
    have hm : headM role l epoch seq = [] := by simp [headM, headOk, *]
    rw [hm]
    clear hm hl
    go_enter Tryz.func30, Tryz.ntmps30
    go_wp2_with (go_at_call 59; refine (spec_l1In _ _ _ _).mono ?_; rintro e w' ⟨rfl, rfl⟩)
    go_ret
    exact ⟨_, _, _, rfl, new_own _ _, gb_alloc (gb_refl _) _⟩
  have h2' : ((n : Int) != 12) = false := by simpa using h2
  cases h3 : inB epoch 0 4294967295
  · have hm : headM role l epoch seq = [] := by simp [headM, headOk, *]
    rw [hm]
    clear hm hl
    go_enter Tryz.func30, Tryz.ntmps30
    go_wp2_with (go_at_call 59; refine (spec_l1In _ _ _ _).mono ?_; rintro e w' ⟨rfl, rfl⟩)
    go_ret
    exact ⟨_, _, _, rfl, new_own _ _, gb_alloc (gb_refl _) _⟩
  cases h4 : inB seq 0 281474976710655
  · have hm : headM role l epoch seq = [] := by simp [headM, headOk, *]
    rw [hm]
    clear hm hl
    go_enter Tryz.func30, Tryz.ntmps30
    go_wp2_with (go_at_call 59; refine (spec_l1In _ _ _ _).mono ?_; rintro e w' ⟨rfl, rfl⟩)
    go_ret
    exact ⟨_, _, _, rfl, new_own _ _, gb_alloc (gb_refl _) _⟩
  have hm : headM role l epoch seq = [b8 role] ++ l ++ be epoch.toNat 4 ++ be seq.toNat 6 := by simp [headM, headOk, *]
  rw [hm]
  have H1 := inB_iff.1 h1
  have H3 := inB_iff.1 h3
  have H4 := inB_iff.1 h4
  have hn : n ≤ 12 := by have := beq_iff_eq.1 h2; omega
  replace h1 : inB role 0 1 = true := h1
  have HL := Lib.hid hl
  clear hm hl
  go_enter Tryz.func30, Tryz.ntmps30
  have g0 := gb_alloc (gb_refl w) (.cells #[.int .u8 role] 5)
  have o0 := new_ownB w #[.int .u8 role] [b8 role] (by rw [bys, List.map_singleton, b8_val H1.1 (by omega)]) (by simp)
  go_wp2_with (first | (go_at_call 59; refine (spec_l1In _ _ _ _).mono ?_; rintro e w' ⟨rfl, rfl⟩) | (at_builtin; refine wpList_appB rfl (.tmp 30) (.tmp 31) rfl w.heap.size _ _ _ _ rfl o0 _ _ _ l rfl (h.keep0 g0) (by have := HL.out; simp; omega) (by simp) ?_; intro a2 n2 c2 w2 o2 g2; have G2 := gb_app g0 o0 (Nat.le_refl _) g2))
  refine (spec_PutN _ _ _ _ _ _ _ o2.rd (by have := HL.out; have := o2.blen; simp at this; omega) H3.1 (by omega) (by omega) (by omega)).mono ?_
  rintro e w3 ⟨a3, n3, c3, rfl, o3, g3⟩
  have G3 := gb_trans G2 g3
  go_wp2_with fail
  refine (spec_PutN _ _ _ _ _ _ _ o3.rd (by have := HL.out; have := o3.blen; simp [be_len] at this; omega) H4.1 (by omega) (by omega) (by omega)).mono ?_
  rintro e w4 ⟨a4, n4, c4, rfl, o4, g4⟩
  go_wp2
  go_ret
  exact retB o4 G3.size (gb_trans G3 g4) (by simp)
def pbOk (id : Int) (cn sn : Nat) (tick : Int) (ck : Nat) : Bool := inB id 1 9 && ((cn : Int) == 12) && ((sn : Int) == 12) && inB tick 0 1000000 && ((ck : Int) == 16)
def pbM (id : Int) (cn sn : List UInt8) (tick : Int) (ck : List UInt8) : List UInt8 :=
  if pbOk id cn.length sn.length tick ck.length then [102, b8 id] ++ cn ++ sn ++ be tick.toNat 4 ++ ck else []
theorem ne_f {n m : Nat} (h : ((n : Int) == m) = false) : ((n : Int) != m) = true := by simpa using h
theorem ne_t {n m : Nat} (h : ((n : Int) == m) = true) : ((n : Int) != m) = false := by simpa using h
theorem headM_len (role : Int) (sn : List UInt8) (epoch seq : Int) : (headM role sn epoch seq).length ≤ 23 := by
  unfold headM
  split
  · rename_i h
    simp only [headOk, Bool.and_eq_true, beq_iff_eq] at h
    simp [be_len]
    omega
  · simp
theorem pbM_len (id : Int) (cn sn : List UInt8) (tick : Int) (ck : List UInt8) : (pbM id cn sn tick ck).length ≤ 46 := by
  unfold pbM
  split
  · rename_i h
    simp only [pbOk, Bool.and_eq_true, beq_iff_eq] at h
    simp [be_len]
    omega
  · simp
end Go.Proofs.YtpfchphgbhgmmaaGreat
