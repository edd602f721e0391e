/-
  Contracts of the schedule and of the compression at whatever arguments. Conditions: none beside those that each theorem names.
-/
import Derived.Test.YtdfdhijbafalaaaShaK
import Derived.Test.YtdfdhijbafalaaaDrN
namespace Go.Proofs.Ytdfdhijbafalaaa
open Go.RowKit
def wd (l : List Nat) : List Int := l.map fun x : Nat => (x : Int)
def schI (l : List UInt8) : List Int := if l.length = 64 then wd (schedL l 64) else []
def compI (h : List Int) (l : List UInt8) : List Int := if areWs h 8 = true ∧ l.length = 64 then wd (compM (nats h) l) else h
set_option maxRecDepth 1000000 in
theorem impl_ScheduleA (a : Option Addr) (n c : Nat) (l : List UInt8) (w : World) (h : Rd w a n c (bys l)) :
    Calls Try.prog 20 #[.slice a n c] w fun e w' => ∃ a' n' c', e = .returned (.slice a' n' c') ∧ Rd w' a' n' c' (ins (schI l)) ∧ w.grownBy w' none := by
  by_cases hn : n = 64
  · refine (impl_Schedule a n c l w h hn).mono fun e w' ⟨a', c', he, o, g⟩ => ⟨a', 64, c', he, ?_, g⟩
    rw [schI, if_pos (by rw [h.blen]; exact hn)]
    exact o.rd
  · have hz : schI l = [] := by rw [schI, if_neg (by rw [h.blen]; exact hn)]
    rw [hz]
    have hne : ((n : Int) != 64) = true := by rw [bne_iff_ne]; omega
    clear hz
    go_enter Try.func20, Try.ntmps20
    go_wp2
    go_ret
    exact ⟨_, _, _, rfl, Rd.nil _ _ _, gb_refl _⟩
set_option maxRecDepth 1000000 in
theorem spec_ScheduleA (a : Option Addr) (n c : Nat) (l : List UInt8) (w : World) (h : Rd w a n c (bys l)) :
    Calls Try.prog 24 #[.slice a n c] w fun e w' => ∃ a' n' c', e = .returned (.slice a' n' c') ∧ Rd w' a' n' c' (ins (schI l)) ∧ w.grownBy w' none := by
  by_cases hn : n = 64
  · refine (spec_Schedule a n c l w h hn).mono fun e w' ⟨a', c', he, o, g⟩ => ⟨a', 64, c', he, ?_, g⟩
    rw [schI, if_pos (by rw [h.blen]; exact hn)]
    exact o.rd
  · have hz : schI l = [] := by rw [schI, if_neg (by rw [h.blen]; exact hn)]
    rw [hz]
    have hne : ((n : Int) != 64) = true := by rw [bne_iff_ne]; omega
    clear hz
    go_enter Try.func24, Try.ntmps24
    go_wp2
    go_ret
    exact ⟨_, _, _, rfl, Rd.nil _ _ _, gb_alloc (gb_refl _) _⟩
set_option maxRecDepth 1000000 in
set_option maxHeartbeats 4000000 in
theorem impl_CompressA (a : Option Addr) (n c : Nat) (h : List Int) (b : Option Addr) (m d : Nat) (l : List UInt8) (w : World) (r1 : Rd w a n c (ins h)) (r2 : Rd w b m d (bys l)) (hn : n ≤ 1048576) :
    Calls Try.prog 22 #[.slice a n c, .slice b m d] w fun e w' => ∃ a' n' c', e = .returned (.slice a' n' c') ∧ Rd w' a' n' c' (ins (compI h l)) ∧ w.grownBy w' none := by
  have hl := r1.ilen
  by_cases hW : areWs h 8 = true
  · obtain ⟨w32, hh⟩ := nats_W hW
    have h8 : n = 8 := by
      simp only [areWs, Bool.and_eq_true, beq_iff_eq] at hW
      omega
    by_cases hm6 : m = 64
    · have e : ins h = wds (nats h) := by rw [wds, ← hh]
      rw [e] at r1
      refine (impl_Compress a n c (nats h) b m d l w r1 r2 h8 hm6 w32).mono fun e w' ⟨a', c', he, o, g⟩ => ⟨a', 8, c', he, ?_, g⟩
      rw [compI, if_pos ⟨hW, by rw [r2.blen]; exact hm6⟩]
      exact o.rd
    · have hz : compI h l = h := by rw [compI, if_neg (fun q => hm6 (by rw [← r2.blen]; exact q.2))]
      rw [hz]
      have hne : ((m : Int) != 64) = true := by rw [bne_iff_ne]; omega
      have A := Lib.hid hW
      have L := Lib.hid hl
      clear hz hh hW hl w32 h8
      have g0 := gb_alloc (gb_refl w) (.cells #[] 3)
      go_enter Try.func22, Try.ntmps22
      go_wp2_with (first | (at_builtin; (first | refine wpList_appZ rfl (.tmp 22) (.tmp 23) rfl w.heap.size _ _ _ [] rfl (new_own _ _) _ n c h rfl (r1.keep0 g0) (by have := L.out; simp; omega) (by simp) ?_ | refine wpList_appZ rfl (.tmp 21) (.tmp 22) rfl w.heap.size _ _ _ [] rfl (new_own _ _) _ n c h rfl (r1.keep0 g0) (by have := L.out; simp; omega) (by simp) ?_); intro a2 n2 c2 w2 o2 g2; have G2 := gb_app g0 (new_own _ _) (Nat.le_refl _) g2; rw [List.nil_append] at o2) | ((first | (go_at_call 37; refine (impl_areWs _ _ _ h 8 _ (r1.keep0 G2) (by omega)).mono ?_) | (go_at_call 51; refine (spec_l2Words _ _ _ h _ (r1.keep0 G2) (by omega)).mono ?_)); rw [A.out]; rintro e w3 ⟨rfl, rfl⟩))
      go_ret
      exact ⟨_, _, _, rfl, o2.rd, G2⟩
  · have hz : compI h l = h := by rw [compI, if_neg (fun q => hW q.1)]
    rw [hz]
    have A := Lib.hid (Bool.eq_false_iff.2 hW)
    have L := Lib.hid hl
    clear hz hW hl
    have g0 := gb_alloc (gb_refl w) (.cells #[] 3)
    go_enter Try.func22, Try.ntmps22
    go_wp2_with (first | (at_builtin; (first | refine wpList_appZ rfl (.tmp 22) (.tmp 23) rfl w.heap.size _ _ _ [] rfl (new_own _ _) _ n c h rfl (r1.keep0 g0) (by have := L.out; simp; omega) (by simp) ?_ | refine wpList_appZ rfl (.tmp 21) (.tmp 22) rfl w.heap.size _ _ _ [] rfl (new_own _ _) _ n c h rfl (r1.keep0 g0) (by have := L.out; simp; omega) (by simp) ?_); intro a2 n2 c2 w2 o2 g2; have G2 := gb_app g0 (new_own _ _) (Nat.le_refl _) g2; rw [List.nil_append] at o2) | ((first | (go_at_call 37; refine (impl_areWs _ _ _ h 8 _ (r1.keep0 G2) (by omega)).mono ?_) | (go_at_call 51; refine (spec_l2Words _ _ _ h _ (r1.keep0 G2) (by omega)).mono ?_)); rw [A.out]; rintro e w3 ⟨rfl, rfl⟩))
    go_ret
    exact ⟨_, _, _, rfl, o2.rd, G2⟩
set_option maxRecDepth 1000000 in
set_option maxHeartbeats 4000000 in
theorem spec_CompressA (a : Option Addr) (n c : Nat) (h : List Int) (b : Option Addr) (m d : Nat) (l : List UInt8) (w : World) (r1 : Rd w a n c (ins h)) (r2 : Rd w b m d (bys l)) (hn : n ≤ 1048576) :
    Calls Try.prog 25 #[.slice a n c, .slice b m d] w fun e w' => ∃ a' n' c', e = .returned (.slice a' n' c') ∧ Rd w' a' n' c' (ins (compI h l)) ∧ w.grownBy w' none := by
  have hl := r1.ilen
  by_cases hW : areWs h 8 = true
  · obtain ⟨w32, hh⟩ := nats_W hW
    have h8 : n = 8 := by
      simp only [areWs, Bool.and_eq_true, beq_iff_eq] at hW
      omega
    by_cases hm6 : m = 64
    · have e : ins h = wds (nats h) := by rw [wds, ← hh]
      rw [e] at r1
      refine (spec_Compress a n c (nats h) b m d l w r1 r2 h8 hm6 w32).mono fun e w' ⟨a', c', he, o, g⟩ => ⟨a', 8, c', he, ?_, g⟩
      rw [compI, if_pos ⟨hW, by rw [r2.blen]; exact hm6⟩]
      exact o.rd
    · have hz : compI h l = h := by rw [compI, if_neg (fun q => hm6 (by rw [← r2.blen]; exact q.2))]
      rw [hz]
      have hne : ((m : Int) != 64) = true := by rw [bne_iff_ne]; omega
      have A := Lib.hid hW
      have L := Lib.hid hl
      clear hz hh hW hl w32 h8
      have g0 := gb_alloc (gb_refl w) (.cells #[] 3)
      go_enter Try.func25, Try.ntmps25
      go_wp2_with (first | (at_builtin; (first | refine wpList_appZ rfl (.tmp 22) (.tmp 23) rfl w.heap.size _ _ _ [] rfl (new_own _ _) _ n c h rfl (r1.keep0 g0) (by have := L.out; simp; omega) (by simp) ?_ | refine wpList_appZ rfl (.tmp 21) (.tmp 22) rfl w.heap.size _ _ _ [] rfl (new_own _ _) _ n c h rfl (r1.keep0 g0) (by have := L.out; simp; omega) (by simp) ?_); intro a2 n2 c2 w2 o2 g2; have G2 := gb_app g0 (new_own _ _) (Nat.le_refl _) g2; rw [List.nil_append] at o2) | ((first | (go_at_call 37; refine (impl_areWs _ _ _ h 8 _ (r1.keep0 G2) (by omega)).mono ?_) | (go_at_call 51; refine (spec_l2Words _ _ _ h _ (r1.keep0 G2) (by omega)).mono ?_)); rw [A.out]; rintro e w3 ⟨rfl, rfl⟩))
      go_ret
      exact ⟨_, _, _, rfl, o2.rd, G2⟩
  · have hz : compI h l = h := by rw [compI, if_neg (fun q => hW q.1)]
    rw [hz]
    have A := Lib.hid (Bool.eq_false_iff.2 hW)
    have L := Lib.hid hl
    clear hz hW hl
    have g0 := gb_alloc (gb_refl w) (.cells #[] 3)
    go_enter Try.func25, Try.ntmps25
    go_wp2_with (first | (at_builtin; (first | refine wpList_appZ rfl (.tmp 22) (.tmp 23) rfl w.heap.size _ _ _ [] rfl (new_own _ _) _ n c h rfl (r1.keep0 g0) (by have := L.out; simp; omega) (by simp) ?_ | refine wpList_appZ rfl (.tmp 21) (.tmp 22) rfl w.heap.size _ _ _ [] rfl (new_own _ _) _ n c h rfl (r1.keep0 g0) (by have := L.out; simp; omega) (by simp) ?_); intro a2 n2 c2 w2 o2 g2; have G2 := gb_app g0 (new_own _ _) (Nat.le_refl _) g2; rw [List.nil_append] at o2) | ((first | (go_at_call 37; refine (impl_areWs _ _ _ h 8 _ (r1.keep0 G2) (by omega)).mono ?_) | (go_at_call 51; refine (spec_l2Words _ _ _ h _ (r1.keep0 G2) (by omega)).mono ?_)); rw [A.out]; rintro e w3 ⟨rfl, rfl⟩))
    go_ret
    exact ⟨_, _, _, rfl, o2.rd, G2⟩
end Go.Proofs.Ytdfdhijbafalaaa
