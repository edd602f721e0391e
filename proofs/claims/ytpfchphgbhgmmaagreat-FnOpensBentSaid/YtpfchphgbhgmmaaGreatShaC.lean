/-
  Contracts of the compression of a block. Conditions: none beside those that each theorem names.
-/
import Derived.Test.YtpfchphgbhgmmaaGreatShaS
import Derived.Deep.RegionHeld3
namespace Go.Proofs.YtpfchphgbhgmmaaGreat
open Go.RowKit
def areWs (h : List Int) (n : Int) : Bool := h.all (fun x => inB x 0 4294967295) && ((h.length : Int) == n)
theorem take_all {l : List Int} {j : Nat} {x : Int} {p : Int → Bool} (hx : l[j]? = some x) (h : (l.take j).all p = true) (hp : p x = true) : (l.take (j + 1)).all p = true := by
  rw [take_succ_some hx, List.all_append, h]
  simp [hp]
theorem not_all {l : List Int} {j : Nat} {x : Int} {p : Int → Bool} (hx : l[j]? = some x) (hp : p x = false) : l.all p = false := by
  rw [List.all_eq_false]
  exact ⟨x, List.mem_of_getElem? hx, by simp [hp]⟩
theorem impl_areWs (a : Option Addr) (n c : Nat) (l : List Int) (m : Int) (w : World) (h : Rd w a n c (ins l)) (hn : n ≤ 1073741824) :
    Calls Tryz.prog 67 #[.slice a n c, .int .i64 m] w fun e w' => e = .returned (.bool (areWs l m)) ∧ w = w' := by
  have L := Lib.hid h.ilen
  have H := Lib.hid h
  go_enter Tryz.func67, Tryz.ntmps67
  go_wp2
  go_loopw [9] (fun i9 wr => ∃ j : Nat, j ≤ n ∧ i9 = .int .i64 (j : Int) ∧ Hid ((l.take j).all (fun x => inB x 0 4294967295) = true) ∧ w = wr) (fun i9 _ => n - (intOf i9).toNat)
  case atStart => exact ⟨0, by omega, rfl, by simp [Hid], rfl⟩
  case round =>
    obtain ⟨j, hj, rfl, hal, rfl⟩ := hrel
    by_cases hlt : j < n
    · obtain ⟨b, off, x, rfl, hx, hc⟩ := H.out.int j hlt
      cases hb : inB x 0 4294967295 with
      | false =>
        have E := Lib.hid (show areWs l m = false by rw [areWs, not_all (p := fun x => inB x 0 4294967295) hx.out hb]; rfl)
        go_wp2_with (go_at_call 34; refine (impl_within _ _ _ _).mono ?_; rintro e w' ⟨rfl, rfl⟩)
        go_ret
        exact ⟨ret_b E.out.symm, rfl⟩
      | true =>
        have E := Lib.hid (take_all (p := fun x => inB x 0 4294967295) hx.out hal.out hb)
        go_wp2_with (go_at_call 34; refine (impl_within _ _ _ _).mono ?_; rintro e w' ⟨rfl, rfl⟩)
        go_roundw
        case rel => exact ⟨j + 1, by omega, by go_num, E, trivial⟩
        case measure => simp [intOf]; omega
    · obtain rfl : j = n := by omega
      have E := Lib.hid (show areWs l m = ((j : Int) == m) by
        have h1 := hal.out
        rw [List.take_of_length_le (by rw [L.out]; exact Nat.le_refl _)] at h1
        rw [areWs, h1, L.out, Bool.true_and])
      go_wp2
      go_ret
      exact ⟨ret_b E.out.symm, rfl⟩
theorem spec_l2Words (a : Option Addr) (n c : Nat) (l : List Int) (w : World) (h : Rd w a n c (ins l)) (hn : n ≤ 1073741824) :
    Calls Tryz.prog 109 #[.slice a n c] w fun e w' => e = .returned (.bool (areWs l 8)) ∧ w = w' := by
  have L := Lib.hid h.ilen
  have H := Lib.hid h
  go_enter Tryz.func109, Tryz.ntmps109
  go_wp2
  go_loopw [3] (fun i9 wr => ∃ j : Nat, j ≤ n ∧ i9 = .int .i64 (j : Int) ∧ Hid ((l.take j).all (fun x => inB x 0 4294967295) = true) ∧ w = wr) (fun i9 _ => n - (intOf i9).toNat)
  case atStart => exact ⟨0, by omega, rfl, by simp [Hid], rfl⟩
  case round =>
    obtain ⟨j, hj, rfl, hal, rfl⟩ := hrel
    by_cases hlt : j < n
    · obtain ⟨b, off, x, rfl, hx, hc⟩ := H.out.int j hlt
      cases hb : inB x 0 4294967295 with
      | false =>
        have E := Lib.hid (show areWs l 8 = false by rw [areWs, not_all (p := fun x => inB x 0 4294967295) hx.out hb]; rfl)
        go_wp2_with (go_at_call 59; refine (spec_l1In _ _ _ _).mono ?_; rintro e w' ⟨rfl, rfl⟩)
        go_ret
        exact ⟨ret_b E.out.symm, rfl⟩
      | true =>
        have E := Lib.hid (take_all (p := fun x => inB x 0 4294967295) hx.out hal.out hb)
        go_wp2_with (go_at_call 59; refine (spec_l1In _ _ _ _).mono ?_; rintro e w' ⟨rfl, rfl⟩)
        refine ⟨⟨j + 1, by omega, by go_num, E, trivial⟩, by simp [intOf] <;> omega⟩
    · obtain rfl : j = n := by omega
      have E := Lib.hid (show areWs l 8 = ((j : Int) == 8) by
        have h1 := hal.out
        rw [List.take_of_length_le (by rw [L.out]; exact Nat.le_refl _)] at h1
        rw [areWs, h1, L.out, Bool.true_and])
      go_wp2
      go_ret
      exact ⟨ret_b E.out.symm, rfl⟩
theorem areWs_wds {l : List Nat} (h : W32 l) (n : Int) : areWs (l.map fun x : Nat => (x : Int)) n = ((l.length : Int) == n) := by
  rw [areWs, List.length_map]
  have : (l.map fun x : Nat => (x : Int)).all (fun x => inB x 0 4294967295) = true := by
    rw [List.all_eq_true]
    intro x hx
    obtain ⟨y, hy, rfl⟩ := List.mem_map.1 hx
    have := h y hy
    exact inB_t (by omega) (by omega)
  rw [this, Bool.true_and]
/-- words below 2^32, as naturals -/
def nats (h : List Int) : List Nat := h.map Int.toNat
theorem nats_W {h : List Int} {n : Int} (hw : areWs h n = true) : W32 (nats h) ∧ h = (nats h).map (fun x : Nat => (x : Int)) := by
  rw [areWs, Bool.and_eq_true] at hw
  have h1 := List.all_eq_true.1 hw.1
  constructor
  · intro x hx
    obtain ⟨y, hy, rfl⟩ := List.mem_map.1 hx
    have := inB_iff.1 (h1 y hy)
    omega
  · rw [nats, List.map_map]
    conv => lhs; rw [← List.map_id h]
    apply List.map_congr_left
    intro y hy
    have := inB_iff.1 (h1 y hy)
    simp
    omega
theorem compM_at {h : List Nat} {s : St} {j : Nat} (hl : h.length = 8) (hj : j < 8) : (addL h s)[j]? = some ((h.getD j 0 + s.list.getD j 0) % 4294967296) := by
  rw [addL, List.getElem?_zipWith]
  have h1 : h[j]? = some (h.getD j 0) := by simp [List.getD, show j < h.length by omega]
  have h2 : s.list[j]? = some (s.list.getD j 0) := by rw [List.getD_eq_getElem?_getD, List.getElem?_eq_getElem (by simpa [St.list] using hj)]; rfl
  rw [h1, h2]
theorem add_step {h : List Nat} {s : St} {j : Nat} (hl : h.length = 8) (hj : j < 8) : wds ((addL h s).take j) ++ (wds (h.drop j)).set 0 (.int .i64 (((h.getD j 0 + s.list.getD j 0) % 4294967296 : Nat) : Int)) = wds ((addL h s).take (j + 1)) ++ wds (h.drop (j + 1)) := by
  rw [take_succ_some (compM_at hl hj), wds_app, List.append_assoc]
  congr 1
  rw [List.drop_eq_getElem_cons (by omega : j < h.length)]
  rfl
theorem add_set {h : List Nat} {s : St} {j : Nat} (hl : h.length = 8) (hj : j < 8) : (wds ((addL h s).take j ++ h.drop j)).set j (.int .i64 (((h.getD j 0 + s.list.getD j 0) % 4294967296 : Nat) : Int)) = wds ((addL h s).take (j + 1) ++ h.drop (j + 1)) := by
  have e : (wds ((addL h s).take j)).length = j := by
    rw [wds_len, List.length_take, addL, List.length_zipWith, hl]
    simp [St.list]
    omega
  rw [wds_app, wds_app, List.set_append_right _ _ (by omega), e, Nat.sub_self, add_step hl hj]
end Go.Proofs.YtpfchphgbhgmmaaGreat
