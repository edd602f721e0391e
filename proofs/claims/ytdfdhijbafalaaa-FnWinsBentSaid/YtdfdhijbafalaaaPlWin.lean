/-
  Plain facts on windows: after a number is taken the window has it, and what it had, as far as it is not too old; the numbers that a window lists; what a run of numbers leaves. Conditions: none beside those that each theorem names.
-/
import Derived.Test.YtdfdhijbafalaaaWinF
import Derived.Test.YtdfdhijbafalaaaWinL
namespace Go.Proofs.Ytdfdhijbafalaaa
open Go.RowKit
theorem winOk_iff {f : WinM} : winOk f = true ↔ (-1 ≤ f.top ∧ f.top ≤ 281474976710655) ∧ areW f.bits 32 = true ∧ (∀ n : Nat, n < 1024 → f.top < n → winBit f.bits n = false) ∧ (f.top = -1 ∨ winBit f.bits f.top.toNat = true) := by
  simp only [winOk, Bool.and_eq_true, inB_iff, noneAbove_iff, topBit, Bool.or_eq_true, beq_iff_eq]
  constructor
  · rintro ⟨⟨⟨h1, h2⟩, h3⟩, h4⟩
    exact ⟨h1, h2, h3, h4⟩
  · rintro ⟨h1, h2, h3, h4⟩
    exact ⟨⟨⟨h1, h2⟩, h3⟩, h4⟩
theorem winMay_iff {f : WinM} {n : Int} : winMay f n = true ↔ winOk f = true ∧ (0 ≤ n ∧ n ≤ 281474976710655) ∧ (f.top < n ∨ (least f.top ≤ n ∧ winBit f.bits n.toNat = false)) := by
  simp only [winMay, Bool.and_eq_true, inB_iff, Bool.or_eq_true, decide_eq_true_eq, Bool.not_eq_true']
  exact ⟨fun ⟨⟨h1, h2⟩, h3⟩ => ⟨h1, h2, h3⟩, fun ⟨h1, h2, h3⟩ => ⟨⟨h1, h2⟩, h3⟩⟩
theorem winHas_iff {f : WinM} {n : Int} : winHas f n = true ↔ winOk f = true ∧ (least f.top ≤ n ∧ n ≤ f.top) ∧ winBit f.bits n.toNat = true := by
  simp only [winHas, Bool.and_eq_true, inB_iff]
  exact ⟨fun ⟨⟨h1, h2⟩, h3⟩ => ⟨h1, h2, h3⟩, fun ⟨h1, h2, h3⟩ => ⟨⟨h1, h2⟩, h3⟩⟩
theorem least_le {t : Int} : 0 ≤ least t := by unfold least; split <;> omega
theorem least_iff {t n : Int} (h : 0 ≤ n) : least t ≤ n ↔ t - 1024 < n := by unfold least; split <;> omega
theorem winAdd_top {f : WinM} {n : Int} (h : winMay f n = true) : (winAddM f n).top = max f.top n := by rw [winAddM, if_pos h]
theorem winAdd_no {f : WinM} {n : Int} (h : winMay f n = false) : winAddM f n = f := by rw [winAddM, if_neg (by rw [h]; decide)]
/-- what the window has after a number was taken -/
theorem winAdd_bit {f : WinM} {n : Int} (h : winMay f n = true) : areW (winAddM f n).bits 32 = true ∧ ∀ y : Int, 0 ≤ y → max f.top n - 1024 < y → y ≤ max f.top n →
    (winBit (winAddM f n).bits y.toNat = true ↔ y = n ∨ (y ≤ f.top ∧ winBit f.bits y.toNat = true)) := by
  obtain ⟨h1, ⟨h2, h3⟩, h4⟩ := winMay_iff.1 h
  obtain ⟨⟨t1, t2⟩, t3, t4, t5⟩ := winOk_iff.1 h1
  rw [winAddM, if_pos h]
  simp only
  obtain ⟨k, rfl⟩ := Int.eq_ofNat_of_zero_le h2
  rw [Int.toNat_natCast]
  obtain ⟨p1, p2⟩ := clr_ok t3 (addLo f k) (k - addLo f k)
  obtain ⟨p3, p4⟩ := setBit_ok p1 k
  refine ⟨p3, fun y y0 y1 y2 => ?_⟩
  obtain ⟨m, rfl⟩ := Int.eq_ofNat_of_zero_le y0
  rw [Int.toNat_natCast, p4, p2]
  have hlo : addLo f k = max (f.top + 1).toNat (k - 1023) := by unfold addLo; omega
  rw [hlo]
  simp only [Bool.or_eq_true, Bool.and_eq_true, Bool.not_eq_true', decide_eq_true_eq, decide_eq_false_iff_not]
  have hy : (k % 1024 = m % 1024) ↔ (m : Int) = (k : Int) := by
    have hk : f.top - 1024 < k := by
      rcases h4 with h4 | ⟨h4, -⟩
      · omega
      · exact (least_iff h2).1 h4
    omega
  rw [hy]
  constructor
  · rintro (⟨hb, hn⟩ | e)
    · by_cases e : (m : Int) = k
      · exact .inl e
      · right
        refine ⟨?_, hb⟩
        by_cases hm : (m : Int) ≤ f.top
        · exact hm
        · exact absurd ⟨m - max (f.top + 1).toNat (k - 1023), by omega, by omega⟩ hn
    · exact .inl e
  · rintro (e | ⟨hm, hb⟩)
    · exact .inr e
    · refine .inl ⟨hb, ?_⟩
      rintro ⟨d, hd, e⟩
      omega
theorem winAdd_ok {f : WinM} {n : Int} (h : winMay f n = true) : winOk (winAddM f n) = true := by
  obtain ⟨h1, ⟨h2, h3⟩, h4⟩ := winMay_iff.1 h
  obtain ⟨⟨t1, t2⟩, t3, t4, t5⟩ := winOk_iff.1 h1
  obtain ⟨b1, b2⟩ := winAdd_bit h
  refine winOk_iff.2 ⟨by rw [winAdd_top h]; omega, b1, ?_, ?_⟩
  · intro m hm hlt
    rw [winAdd_top h] at hlt
    rw [winAddM, if_pos h]
    simp only
    obtain ⟨k, rfl⟩ := Int.eq_ofNat_of_zero_le h2
    rw [Int.toNat_natCast]
    obtain ⟨p1, p2⟩ := clr_ok t3 (addLo f k) (k - addLo f k)
    obtain ⟨p3, p4⟩ := setBit_ok p1 k
    rw [p4, p2, t4 m hm (by omega), decide_eq_false (show ¬ k % 1024 = m % 1024 by omega), Bool.false_and, Bool.or_false]
  · right
    rw [winAdd_top h]
    have ht : 0 ≤ max f.top n := by omega
    rw [b2 _ ht (by omega) (by omega)]
    by_cases e : f.top < n
    · exact .inl (by omega)
    · have e2 : max f.top n = f.top := by omega
      rw [e2]
      exact .inr ⟨by omega, t5.resolve_left (by omega)⟩
theorem winAdd_okA {f : WinM} (n : Int) (h : winOk f = true) : winOk (winAddM f n) = true := by
  cases hm : winMay f n
  · rw [winAdd_no hm]; exact h
  · exact winAdd_ok hm
theorem bent_has {f : WinM} {n : Int} (h : winMay f n = true) : winHas (winAddM f n) n = true := by
  obtain ⟨h1, ⟨h2, h3⟩, h4⟩ := winMay_iff.1 h
  have hk : f.top - 1024 < n := by
    rcases h4 with h4 | ⟨h4, -⟩
    · omega
    · exact (least_iff h2).1 h4
  refine winHas_iff.2 ⟨winAdd_ok h, ?_, ?_⟩
  · rw [winAdd_top h, least_iff h2]; omega
  · rw [(winAdd_bit h).2 n h2 (by omega) (by omega)]; exact .inl rfl
theorem bent_may {f : WinM} {n : Int} (h : winMay f n = true) : winMay (winAddM f n) n = false := by
  have hh := winHas_iff.1 (bent_has h)
  cases e : winMay (winAddM f n) n
  · rfl
  · rcases (winMay_iff.1 e).2.2 with h9 | ⟨-, h9⟩
    · have := hh.2.1.2; omega
    · rw [hh.2.2] at h9; cases h9
theorem bent_not {f : WinM} {n : Int} (h : winMay f n = true) : winHas f n = false := by
  cases e : winHas f n
  · rfl
  · have hh := winHas_iff.1 e
    rcases (winMay_iff.1 h).2.2 with h9 | ⟨-, h9⟩
    · have := hh.2.1.2; omega
    · rw [hh.2.2] at h9; cases h9
theorem mem_winList {f : WinM} {y : Int} : y ∈ winList f ↔ winHas f y = true := by
  rw [winHas_iff, winList]
  split
  · rename_i h
    obtain ⟨⟨t1, t2⟩, -⟩ := winOk_iff.1 h
    have hl : 0 ≤ least f.top := least_le
    simp only [winPart, List.mem_map, List.mem_filter, List.mem_range'_1]
    constructor
    · rintro ⟨m, ⟨⟨m1, m2⟩, hb⟩, rfl⟩
      exact ⟨h, ⟨by omega, by omega⟩, by rw [Int.toNat_natCast]; exact hb⟩
    · rintro ⟨-, ⟨y1, y2⟩, hb⟩
      exact ⟨y.toNat, ⟨⟨by omega, by omega⟩, hb⟩, by omega⟩
  · rename_i h
    simp only [List.not_mem_nil, false_iff]
    exact fun hh => h hh.1
theorem bent_list {f : WinM} {n y : Int} (h : winMay f n = true) (hy : y ∈ winList f) : winHas (winAddM f n) y = decide (max f.top n - 1024 < y) := by
  obtain ⟨h1, ⟨y1, y2⟩, hb⟩ := winHas_iff.1 (mem_winList.1 hy)
  have y0 : 0 ≤ y := Int.le_trans least_le y1
  rw [Bool.eq_iff_iff, winHas_iff, decide_eq_true_eq, winAdd_top h, least_iff y0]
  constructor
  · rintro ⟨-, ⟨h9, -⟩, -⟩
    exact h9
  · intro h9
    exact ⟨winAdd_ok h, ⟨h9, by omega⟩, ((winAdd_bit h).2 y y0 h9 (by omega)).2 (.inr ⟨y2, hb⟩)⟩
/-- the numbers that a window lists rise -/
theorem winPart_sorted (f : WinM) (lo k : Nat) : (winPart f lo k).Pairwise (· < ·) := by
  rw [winPart, List.pairwise_map]
  refine List.Pairwise.filter _ ?_
  exact (List.pairwise_lt_range' (s := lo) (n := k - lo)).imp (fun h => by omega)
theorem winList_sorted (f : WinM) : (winList f).Pairwise (· < ·) := by
  rw [winList]
  split
  · exact winPart_sorted _ _ _
  · exact List.Pairwise.nil
theorem winList_rise {f : WinM} {i : Nat} {x y : Int} (hx : (winList f)[i]? = some x) (hy : (winList f)[i + 1]? = some y) : x < y := by
  have h := winList_sorted f
  rw [List.pairwise_iff_getElem] at h
  obtain ⟨h1, rfl⟩ := List.getElem?_eq_some_iff.1 hx
  obtain ⟨h2, rfl⟩ := List.getElem?_eq_some_iff.1 hy
  exact h i (i + 1) h1 h2 (Nat.lt_succ_self _)
/-- a run of numbers: the window, and what was taken -/
def wStep (s : WinM × List Int) (n : Int) : WinM × List Int := (winAddM s.1 n, if winMay s.1 n = true then s.2 ++ [n] else s.2)
def wRun (l : List Int) : WinM × List Int := l.foldl wStep (winNew, [])
theorem wRun_succ {l : List Int} {j : Nat} {x : Int} (h : l[j]? = some x) : wRun (l.take (j + 1)) = wStep (wRun (l.take j)) x := by
  rw [take_succ_some h, wRun, List.foldl_append]
  rfl
theorem wRun_fst (l : List Int) : (wRun l).1 = winOf l := by
  suffices h : ∀ (l : List Int) (s : WinM × List Int), (l.foldl wStep s).1 = l.foldl winAddM s.1 from h l _
  intro l
  induction l with
  | nil => intro s; rfl
  | cons x r ih => intro s; rw [List.foldl_cons, List.foldl_cons, ih]; rfl
/-- the window has what was taken, as far as it is not too old -/
structure WI (f : WinM) (g : List Int) : Prop where
  ok : winOk f = true
  le : ∀ x ∈ g, 0 ≤ x ∧ x ≤ f.top
  nd : g.Nodup
  bit : ∀ y : Int, least f.top ≤ y → y ≤ f.top → (winBit f.bits y.toNat = true ↔ y ∈ g)
theorem winNew_ok : winOk winNew = true := winOk_iff.2 ⟨by decide, by decide, fun n hn _ => by
  simp only [winBit, winNew, List.getD_eq_getElem?_getD, List.getElem?_replicate]
  rw [if_pos (by omega)]
  simp, .inl rfl⟩
theorem WI.new : WI winNew [] := ⟨winNew_ok, by simp, List.nodup_nil, fun y h1 h2 => by
  have : least winNew.top = 0 := rfl
  have h3 : winNew.top = -1 := rfl
  omega⟩
theorem WI.may {f : WinM} {g : List Int} (W : WI f g) (n : Int) : winMay f n = (decide (0 ≤ n) && (decide (n < 281474976710656) && (!decide (n ∈ g) && decide (f.top - 1024 < n)))) := by
  rw [Bool.eq_iff_iff, winMay_iff]
  simp only [Bool.and_eq_true, decide_eq_true_eq, Bool.not_eq_true', decide_eq_false_iff_not]
  constructor
  · rintro ⟨-, ⟨h1, h2⟩, h3⟩
    refine ⟨h1, by omega, ?_, ?_⟩
    · intro hg
      have := W.le n hg
      rcases h3 with h3 | ⟨h3, h4⟩
      · omega
      · rw [(W.bit n h3 this.2).2 hg] at h4
        cases h4
    · rcases h3 with h3 | ⟨h3, h4⟩
      · omega
      · exact (least_iff h1).1 h3
  · rintro ⟨h1, h2, h3, h4⟩
    refine ⟨W.ok, ⟨h1, by omega⟩, ?_⟩
    by_cases h5 : f.top < n
    · exact .inl h5
    · right
      have h6 := (least_iff (t := f.top) h1).2 h4
      refine ⟨h6, ?_⟩
      cases e : winBit f.bits n.toNat
      · rfl
      · exact absurd ((W.bit n h6 (by omega)).1 e) h3
theorem WI.step {f : WinM} {g : List Int} (W : WI f g) (n : Int) : WI (wStep (f, g) n).1 (wStep (f, g) n).2 := by
  cases hm : winMay f n
  · simp only [wStep, hm, winAdd_no hm]
    exact W
  · simp only [wStep, hm, if_true]
    obtain ⟨h1, ⟨h2, h3⟩, h4⟩ := winMay_iff.1 hm
    have ht := winAdd_top hm
    obtain ⟨b1, b2⟩ := winAdd_bit hm
    have hng : n ∉ g := by
      have := hm
      rw [W.may] at this
      simp only [Bool.and_eq_true, decide_eq_true_eq, Bool.not_eq_true', decide_eq_false_iff_not] at this
      exact this.2.2.1
    refine ⟨winAdd_ok hm, ?_, ?_, ?_⟩
    · intro x hx
      rw [ht]
      rcases List.mem_append.1 hx with hx | hx
      · have := W.le x hx; omega
      · obtain rfl := List.mem_singleton.1 hx; omega
    · rw [List.nodup_append]
      refine ⟨W.nd, by simp, ?_⟩
      rintro x hx y hy rfl
      obtain rfl := List.mem_singleton.1 hy
      exact hng hx
    · intro y y1 y2
      have y0 : 0 ≤ y := Int.le_trans least_le y1
      rw [ht] at y1 y2
      have y3 := (least_iff y0).1 y1
      rw [b2 y y0 y3 y2, List.mem_append, List.mem_singleton]
      constructor
      · rintro (e | ⟨h5, h6⟩)
        · exact .inr e
        · exact .inl ((W.bit y ((least_iff y0).2 (by omega)) h5).1 h6)
      · rintro (e | e)
        · have := W.le y e
          exact .inr ⟨this.2, (W.bit y ((least_iff y0).2 (by omega)) this.2).2 e⟩
        · exact .inl e
theorem WI.run (l : List Int) : WI (wRun l).1 (wRun l).2 := by
  suffices h : ∀ (l : List Int) (s : WinM × List Int), WI s.1 s.2 → WI (l.foldl wStep s).1 (l.foldl wStep s).2 from h l _ WI.new
  intro l
  induction l with
  | nil => intro s h; exact h
  | cons x r ih => intro s h; exact ih _ (h.step x)
theorem WI.has {f : WinM} {g : List Int} (W : WI f g) {x : Int} (h : x ∈ g) (hx : f.top - 1024 < x) : winHas f x = true := by
  have h1 := W.le x h
  have h2 := (least_iff (t := f.top) h1.1).2 hx
  exact winHas_iff.2 ⟨W.ok, ⟨h2, h1.2⟩, (W.bit x h2 h1.2).2 h⟩
/-- how many are listed -/
theorem WI.count {f : WinM} {g : List Int} (W : WI f g) : (g.filter (fun x => decide (f.top - 1024 < x))).length = (winList f).length := by
  apply List.Perm.length_eq
  rw [List.perm_ext_iff_of_nodup (W.nd.filter _) ((winList_sorted f).imp (fun h => Int.ne_of_lt h))]
  intro x
  rw [mem_winList, List.mem_filter, decide_eq_true_eq]
  constructor
  · rintro ⟨h1, h2⟩
    exact W.has h1 h2
  · intro h
    obtain ⟨-, ⟨h1, h2⟩, h3⟩ := winHas_iff.1 h
    have h0 : 0 ≤ x := Int.le_trans least_le h1
    exact ⟨(W.bit x h1 h2).1 h3, (least_iff h0).1 h1⟩
theorem wRun_len (l : List Int) : (wRun l).2.length ≤ l.length := by
  suffices h : ∀ (l : List Int) (s : WinM × List Int), (l.foldl wStep s).2.length ≤ s.2.length + l.length by simpa [wRun] using h l (winNew, [])
  intro l
  induction l with
  | nil => intro s; simp
  | cons x r ih =>
    intro s
    rw [List.foldl_cons]
    refine Nat.le_trans (ih _) ?_
    simp only [wStep, List.length_cons]
    split <;> simp <;> omega
theorem wRun_bits (l : List Int) : (wRun l).1.bits.length = 32 := by
  rw [wRun_fst]
  exact winOf_tot l
end Go.Proofs.Ytdfdhijbafalaaa
