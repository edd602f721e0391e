/-
  Contracts of the schedule of a block. Conditions: none beside those that each theorem names.
-/
import Derived.Test.YtpfchphgbhgmmaaGreatShaW
import Derived.Deep.RegionHeld3
namespace Go.Proofs.YtpfchphgbhgmmaaGreat
open Go.RowKit
section
variable {w : World}
/-- append of integers onto integers that the call owns -/
theorem wpList_appW {ops : Array Oper} {rest : List Oper} {o : Oper} {ac : Act} {Q : Exit → Act → World → Prop} (hgd : o.guard = none) (s x : Operand)
    (ho : o.op = .call { callee := .builtin .append, args := #[s, x], argTypes := #[24, 24] })
    (B : Nat) (a : Option Addr) (n c : Nat) (l : List Value) (hse : ac.eval s = .slice a n c) (hown : Ow B w 3 a n c l) (b : Option Addr) (m d : Nat) (k : List Value) (hx : ac.eval x = .slice b m d) (hs : Rd w b m d k) (h1 : ∀ u ∈ k, u.oneCell' = true)
    (hsz : n + m ≤ 1073741824) (hbase : B ≤ w.heap.size)
    (h : ∀ a' c' w', Ow B w' 3 a' (n + m) c' (l ++ k) → w.grownBy w' (a.map (·.block)) → wpList Tryz.prog ops Q rest (ac.put o.dst (.slice a' (n + m) c')) w') : wpList Tryz.prog ops Q (o :: rest) ac w := by
  obtain ⟨i0, hi, hz0, hz1, hz2⟩ := info_parts inf_int
  refine wpList_app hgd s x 24 24 ho B 3 i0 (.int .i64 0) 8 Tryz.underlying24 hi hz0 hz1 hz2 rfl a n c l hse hown _ hx m k (hs.src Tryz.underlying24 h1) (by unfold maxLen; omega) (by omega) hbase ?_
  intro a' c' w' o' g' _
  exact h _ _ _ o' g'
/-- .. inside a region that draws its order; the elder cells stand -/
theorem step_appW {ops : Array Oper} {o : Oper} {ac : Act} {K : Act → World → Prop} {Q : Exit → Act → World → Prop} {E : Prop} (hgd : o.guard = none) (s x : Operand)
    (ho : o.op = .call { callee := .builtin .append, args := #[s, x], argTypes := #[24, 24] })
    (B : Nat) (a : Option Addr) (n c : Nat) (l : List Value) (hse : ac.eval s = .slice a n c) (hown : Ow B w 3 a n c l) (b : Option Addr) (m d : Nat) (k : List Value) (hx : ac.eval x = .slice b m d) (hs : Rd w b m d k) (h1 : ∀ u ∈ k, u.oneCell' = true)
    (hsz : n + m ≤ 1073741824) (hbase : B ≤ w.heap.size)
    (h : ∀ a' c' w', Ow B w' 3 a' (n + m) c' (l ++ k) → w.grownBy w' (a.map (·.block)) → (∀ p, a = some p → ∀ k, k < n → w'.cell? ⟨p.block, k, none⟩ = w.cell? ⟨p.block, k, none⟩) → K (ac.put o.dst (.slice a' (n + m) c')) w') :
    if Region.wanted o (yielded ops ac.tmps) = true then Oper.wp Tryz.prog o ac w K Q else E := by
  have hw : Region.wanted o (yielded ops ac.tmps) = true := by simp [Region.wanted, hgd]
  rw [if_pos hw]
  obtain ⟨i0, hi, hz0, hz1, hz2⟩ := info_parts inf_int
  obtain ⟨a', c', w', hr, h2, h3, -, h5⟩ := run_app (P := Tryz.prog) (w := w) B 24 24 o.type 3 i0 (.int .i64 0) 8 Tryz.underlying24 hi hz0 hz1 hz2 rfl a n c l hown (.slice b m d) m k (hs.src Tryz.underlying24 h1) (by unfold maxLen; omega) (by omega) hbase
  unfold Oper.wp execOp
  simp only [ho, resolve, invoke, builtin, Sem.run_bind, Sem.run_pure, Result.andThen_ok, List.map_toArray, List.map_cons, List.map_nil, hse, hx, hr]
  exact h a' c' w' h2 h3 h5
/-- a slice of integers made -/
theorem wpList_mkW {ops : Array Oper} {rest : List Oper} {o : Oper} {ac : Act} {Q : Exit → Act → World → Prop} (hgd : o.guard = none) (x y : Operand)
    (ho : o.op = .makeSlice 24 x y) (n : Nat) (hx : ac.eval x = .int .i64 (n : Int)) (hy : ac.eval y = .int .i64 (n : Int)) (hn : n ≤ 1073741824)
    (h : ∀ w', Ow w.heap.size w' 3 (some ⟨w.heap.size, 0, none⟩) n n (List.replicate n (.int .i64 0)) → w.grownBy w' none → wpList Tryz.prog ops Q rest (ac.put o.dst (.slice (some ⟨w.heap.size, 0, none⟩) n n)) w') : wpList Tryz.prog ops Q (o :: rest) ac w := by
  obtain ⟨i0, hi, hz0, hz1, hz2⟩ := info_parts inf_int
  exact wpList_mk hgd x y 24 ho 3 i0 (.int .i64 0) 8 Tryz.underlying24 hi hz0 hz1 hz2 rfl n .i64 .i64 hx hy (by unfold maxLen; omega) (by omega) h
end
theorem new_wds (w : World) (x : Nat) (t : TypeId) : Rd (w.alloc (.cells #[.int .i64 (x : Int)] t)) (some ⟨w.heap.size, 0, none⟩) 1 1 (wds [x]) := new_rd w _ t 1 rfl
theorem rot_x {a b : Nat} (ha : a < 4294967296) (hb : b < 4294967296) : bits .xor .i64 (a : Int) (b : Int) = ((a ^^^ b : Nat) : Int) := i64_xor _ _ (by omega) (by omega)
theorem rot_a {a b : Nat} (ha : a < 4294967296) (hb : b < 4294967296) : bits .and .i64 (a : Int) (b : Int) = ((a &&& b : Nat) : Int) := i64_and _ _ (by omega) (by omega)
theorem div_lt32 {a n : Nat} (h : a < 4294967296) : a / 2 ^ n < 4294967296 := Nat.lt_of_le_of_lt (Nat.div_le_self _ _) h
theorem schedL_low (b : List UInt8) {j : Nat} (h : j < 16) : schedL b (j + 1) = schedL b j ++ [w4 b j] := by rw [schedL, if_pos h]
theorem schedL_high (b : List UInt8) (q : Nat) : schedL b (q + 16 + 1) = schedL b (q + 16) ++ [nxt (schedL b (q + 16)) (q + 16)] := by rw [schedL, if_neg (by omega)]
theorem schedL_at (b : List UInt8) {j k : Nat} (h : j < k) : (wds (schedL b k))[j]? = some (.int .i64 (((schedL b k).getD j 0 : Nat) : Int)) := wds_at _ _ _ (by simp [List.getD, schedL_len, h])
set_option maxRecDepth 1000000 in
set_option maxHeartbeats 4000000 in
theorem impl_Schedule (a : Option Addr) (n c : Nat) (l : List UInt8) (w : World) (h : Rd w a n c (bys l)) (hn : n = 64) :
    Calls Tryz.prog 115 #[.slice a n c] w fun e w' => ∃ a' c', e = .returned (.slice a' 64 c') ∧ Ow w.heap.size w' 3 a' 64 c' (wds (schedL l 64)) ∧ w.grownBy w' none := by
  subst hn
  go_enter Tryz.func115, Tryz.ntmps115
  go_wp2_with (refine wpList_mkW rfl (.const (.int .i64 64)) (.const (.int .i64 64)) rfl 64 rfl rfl (by omega) ?_; intro w1 o1 g1)
  generalize hG : w.heap.size = G at *
  have HG := Lib.hid hG
  clear hG
  go_loopw [4] (fun i9 wr => ∃ j : Nat, j ≤ 16 ∧ i9 = .int .i64 (j : Int) ∧ Ow G wr 3 (some ⟨G, 0, none⟩) 64 64 (wds (schedL l j) ++ List.replicate (64 - j) (.int .i64 0)) ∧ w.grownBy wr none) (fun i9 _ => 16 - (intOf i9).toNat)
  case atStart => exact ⟨0, by omega, rfl, o1, g1⟩
  case round =>
    obtain ⟨j, hj, rfl, ho, hg⟩ := hrel
    by_cases hlt : j < 16
    · have C := impl_GetN a 64 c l (4 * j) 4 wr (h.keep0 hg) (by omega) (by omega) (by omega) (by omega)
      go_wp2_with (go_at_call 119; refine C.mono ?_; clear C; rintro e w2 ⟨he, g2⟩; have o2 := ho.keep0 g2; have hat := o2.at j (by omega); obtain ⟨hf, u, hc, -⟩ := hat; have lt := (o2.lt _ rfl).2; have he' : e = .returned (.tuple #[.int .i64 (w4 l j : Int), .int .i64 ((4 * j + 4 : Nat) : Int), .bool true]) := he; clear he; subst he')
      refine ⟨⟨j + 1, by omega, by go_num, ?_, ?_⟩, by simp [intOf]; omega⟩
      · have h9 := o2.set j (.int .i64 (w4 l j : Int))
        rw [fill_set _ _ _ 64 j (by omega) (by rw [wds_len, schedL_len])] at h9
        rw [schedL_low l hlt, wds_app]
        exact h9
      · exact gb_set (gb_trans hg g2) (.inl (by have := HG.out; simp; omega)) _
    · obtain rfl : j = 16 := by omega
      clear o1 g1
      go_wp2
      go_loopw [5] (fun i9 wr => ∃ i : Nat, 16 ≤ i ∧ i ≤ 64 ∧ i9 = .int .i64 (i : Int) ∧ Ow G wr 3 (some ⟨G, 0, none⟩) 64 64 (wds (schedL l i) ++ List.replicate (64 - i) (.int .i64 0)) ∧ w.grownBy wr none) (fun i9 _ => 64 - (intOf i9).toNat)
      case atStart => exact ⟨16, by omega, by omega, rfl, ho, hg⟩
      case round =>
        clear ho hg
        obtain ⟨i, hi0, hi, rfl, ho, hg⟩ := hrel
        by_cases hlt : i < 64
        · have cl : ∀ k, k < i → wr.cell? ⟨G, k, none⟩ = some (.int .i64 (((schedL l i).getD k 0 : Nat) : Int)) := fun k hk => by
            obtain ⟨-, u, hu, hx⟩ := ho.at k (by omega)
            rw [hu, ← hx, List.getElem?_append_left (by rw [wds_len, schedL_len]; exact hk), schedL_at l hk]
          obtain ⟨x1, hx1⟩ : ∃ x, x = (schedL l i).getD (i - 15) 0 := ⟨_, rfl⟩
          obtain ⟨x2, hx2⟩ : ∃ x, x = (schedL l i).getD (i - 2) 0 := ⟨_, rfl⟩
          obtain ⟨x3, hx3⟩ : ∃ x, x = (schedL l i).getD (i - 7) 0 := ⟨_, rfl⟩
          obtain ⟨x4, hx4⟩ : ∃ x, x = (schedL l i).getD (i - 16) 0 := ⟨_, rfl⟩
          have b1 : x1 < 4294967296 := by rw [hx1]; exact (schedL_W l i).at _
          have b2 : x2 < 4294967296 := by rw [hx2]; exact (schedL_W l i).at _
          have b3 : x3 < 4294967296 := by rw [hx3]; exact (schedL_W l i).at _
          have b4 : x4 < 4294967296 := by rw [hx4]; exact (schedL_W l i).at _
          have c1 := cl (i - 15) (by omega)
          have c2 := cl (i - 2) (by omega)
          have c3 := cl (i - 7) (by omega)
          have c4 := cl (i - 16) (by omega)
          rw [← hx1] at c1
          rw [← hx2] at c2
          rw [← hx3] at c3
          rw [← hx4] at c4
          have HX1 := Lib.hid hx1
          have HX2 := Lib.hid hx2
          have HX3 := Lib.hid hx3
          have HX4 := Lib.hid hx4
          clear hx1 hx2 hx3 hx4
          obtain ⟨p1, hp1⟩ : ∃ p, p = rotN x1 7 := ⟨_, rfl⟩
          obtain ⟨q1, hq1⟩ : ∃ q, q = rotN x1 18 := ⟨_, rfl⟩
          obtain ⟨z1, hz1⟩ : ∃ z, z = p1 ^^^ q1 := ⟨_, rfl⟩
          obtain ⟨y1, hy1⟩ : ∃ y, y = s0N x1 := ⟨_, rfl⟩
          have P1 := rotN_lt x1 7
          have Q1 := rotN_lt x1 18
          rw [← hp1] at P1
          rw [← hq1] at Q1
          have Z1 : z1 < 4294967296 := by rw [hz1]; exact xor_lt32 P1 Q1
          have Y1 : y1 < 4294967296 := by rw [hy1]; exact s0N_lt b1
          have X1 : bits .xor .i64 (p1 : Int) (q1 : Int) = (z1 : Int) := by rw [hz1]; exact rot_x P1 Q1
          have V1 : bits .xor .i64 (z1 : Int) ((x1 : Int) / 8) = (y1 : Int) := by
            rw [show ((x1 : Int) / 8) = ((x1 / 8 : Nat) : Int) by simp, rot_x Z1 (Nat.lt_of_le_of_lt (Nat.div_le_self _ _) b1), hy1, hz1, hp1, hq1]
            rfl
          have Cp1 := Lib.hid (show ∀ w, Calls Tryz.prog 116 #[.int .i64 (x1 : Int), .int .i64 7] w fun e w' => e = .returned (.int .i64 (p1 : Int)) ∧ w.grownBy w' none from fun w => by rw [hp1]; exact impl_Rot x1 7 w b1 (by omega) (by omega))
          have Cq1 := Lib.hid (show ∀ w, Calls Tryz.prog 116 #[.int .i64 (x1 : Int), .int .i64 18] w fun e w' => e = .returned (.int .i64 (q1 : Int)) ∧ w.grownBy w' none from fun w => by rw [hq1]; exact impl_Rot x1 18 w b1 (by omega) (by omega))
          have HY1 := Lib.hid hy1
          clear hp1 hq1 hz1 hy1
          obtain ⟨p2, hp2⟩ : ∃ p, p = rotN x2 17 := ⟨_, rfl⟩
          obtain ⟨q2, hq2⟩ : ∃ q, q = rotN x2 19 := ⟨_, rfl⟩
          obtain ⟨z2, hz2⟩ : ∃ z, z = p2 ^^^ q2 := ⟨_, rfl⟩
          obtain ⟨y2, hy2⟩ : ∃ y, y = s1N x2 := ⟨_, rfl⟩
          have P2 := rotN_lt x2 17
          have Q2 := rotN_lt x2 19
          rw [← hp2] at P2
          rw [← hq2] at Q2
          have Z2 : z2 < 4294967296 := by rw [hz2]; exact xor_lt32 P2 Q2
          have Y2 : y2 < 4294967296 := by rw [hy2]; exact s1N_lt b2
          have X2 : bits .xor .i64 (p2 : Int) (q2 : Int) = (z2 : Int) := by rw [hz2]; exact rot_x P2 Q2
          have V2 : bits .xor .i64 (z2 : Int) ((x2 : Int) / 1024) = (y2 : Int) := by
            rw [show ((x2 : Int) / 1024) = ((x2 / 1024 : Nat) : Int) by simp, rot_x Z2 (Nat.lt_of_le_of_lt (Nat.div_le_self _ _) b2), hy2, hz2, hp2, hq2]
            rfl
          have Cp2 := Lib.hid (show ∀ w, Calls Tryz.prog 116 #[.int .i64 (x2 : Int), .int .i64 17] w fun e w' => e = .returned (.int .i64 (p2 : Int)) ∧ w.grownBy w' none from fun w => by rw [hp2]; exact impl_Rot x2 17 w b2 (by omega) (by omega))
          have Cq2 := Lib.hid (show ∀ w, Calls Tryz.prog 116 #[.int .i64 (x2 : Int), .int .i64 19] w fun e w' => e = .returned (.int .i64 (q2 : Int)) ∧ w.grownBy w' none from fun w => by rw [hq2]; exact impl_Rot x2 19 w b2 (by omega) (by omega))
          have HY2 := Lib.hid hy2
          clear hp2 hq2 hz2 hy2
          obtain ⟨v, hv⟩ : ∃ v, v = (x3 + x4 + y1 + y2) % 4294967296 := ⟨_, rfl⟩
          have M : bits .and .i64 ((x3 : Int) + (x4 : Int) + (y1 : Int) + (y2 : Int)) 4294967295 = (v : Int) := by
            have := mask32 (x3 + x4 + y1 + y2) (by omega)
            rw [hv, ← this]
            push_cast
            rfl
          have HV := Lib.hid hv
          clear hv
          clear cl
          have f1 : (i : Int) - 15 = ((i - 15 : Nat) : Int) := by omega
          have f2 : (i : Int) - 2 = ((i - 2 : Nat) : Int) := by omega
          have f3 : (i : Int) - 7 = ((i - 7 : Nat) : Int) := by omega
          have f4 : (i : Int) - 16 = ((i - 16 : Nat) : Int) := by omega
          have lt := (ho.lt _ rfl).2
          obtain ⟨hf, u, hc, -⟩ := ho.at i hlt
          go_wp2
          go_region
          go_wp2_with (go_at_call 116; first
            | ((with_reducible refine (Cp1.out _).mono ?_); rintro e w2 ⟨rfl, g2⟩)
            | ((with_reducible refine (Cq1.out _).mono ?_); rintro e w3 ⟨rfl, g3⟩)
            | ((with_reducible refine (Cp2.out _).mono ?_); rintro e w4 ⟨rfl, g4⟩)
            | ((with_reducible refine (Cq2.out _).mono ?_); rintro e w5 ⟨rfl, g5⟩))
          have GG : wr.grownBy w5 none := gb_trans (gb_trans (gb_trans (gb_trans (gb_drew (gb_refl _)) g2) g3) g4) g5
          have K := gb_cells GG
          replace c3 := (K.1 G (i - 7) lt).trans c3
          replace c4 := (K.1 G (i - 16) lt).trans c4
          replace hc := (K.1 G i lt).trans hc
          replace hf := (K.2 G i lt).trans hf
          have lt5 := Nat.lt_of_lt_of_le lt GG.size
          have O5 := Lib.hid (ho.keep0 GG)
          have GH := Lib.hid (gb_trans hg GG)
          clear K GG lt ho hg c1 c2 g2 g3 g4 g5
          go_region
          go_wp2
          refine ⟨?_, ?measure⟩
          (repeat apply Exists.intro)
          refine ⟨?rel, rfl⟩
          case rel =>
            refine ⟨i + 1, by omega, by omega, by go_num, ?_, ?_⟩
            · have h9 := O5.out.set i (.int .i64 (v : Int))
              rw [fill_set _ _ _ 64 i (by omega) (by rw [wds_len, schedL_len])] at h9
              have e : schedL l (i + 1) = schedL l i ++ [v] := by
                obtain ⟨q, hq⟩ : ∃ q, i = q + 16 := ⟨i - 16, by omega⟩
                rw [HV.out, HX3.out, HX4.out, HY1.out, HY2.out, HX1.out, HX2.out]
                rw [hq, schedL_high]
                rfl
              rw [e, wds_app]
              exact h9.drew
            · exact gb_drew (gb_set GH.out (.inl (by have := HG.out; simp; omega)) _)
          case measure => simp [intOf]; omega
        · obtain rfl : i = 64 := by omega
          go_wp2
          go_ret
          rw [show 64 - 64 = 0 from rfl, List.replicate_zero, List.append_nil] at ho
          exact ⟨_, _, rfl, ho.mono (by rw [HG.out]; exact Nat.le_refl _), hg⟩
set_option maxRecDepth 1000000 in
set_option maxHeartbeats 8000000 in
theorem spec_Schedule (a : Option Addr) (n c : Nat) (l : List UInt8) (w : World) (h : Rd w a n c (bys l)) (hn : n = 64) :
    Calls Tryz.prog 111 #[.slice a n c] w fun e w' => ∃ a' c', e = .returned (.slice a' 64 c') ∧ Ow w.heap.size w' 3 a' 64 c' (wds (schedL l 64)) ∧ w.grownBy w' none := by
  subst hn
  have o1 := new_own w 3
  have g1 := gb_alloc (gb_refl w) (.cells #[] 3)
  go_enter Tryz.func111, Tryz.ntmps111
  go_wp2
  generalize hG : w.heap.size = G at *
  have HG := Lib.hid hG
  clear hG
  go_loopw [3, 4] (fun v i9 wr => ∃ (j cc : Nat) (aa : Option Addr), j ≤ 16 ∧ i9 = .int .i64 (j : Int) ∧ v = .slice aa j cc ∧ Ow G wr 3 aa j cc (wds (schedL l j)) ∧ w.grownBy wr none) (fun _ i9 _ => 16 - (intOf i9).toNat)
  case atStart => exact ⟨0, _, _, by omega, rfl, rfl, o1, g1⟩
  case round =>
    obtain ⟨j, cc, aa, hj, rfl, rfl, ho, hg⟩ := hrel
    by_cases hlt : j < 16
    · have C := spec_GetN a 64 c l (4 * j) 4 wr (h.keep0 hg) (by omega) (by omega) (by omega) (by omega)
      have HZ := Lib.hid (show G ≤ wr.heap.size by have := HG.out; have := hg.size; omega)
      go_wp2_with (first
        | (go_at_call 114; refine C.mono ?_; clear C; rintro e w2 ⟨he, g2⟩; have o2 := ho.keep0 g2; have he' : e = .returned (.tuple #[.int .i64 (w4 l j : Int), .int .i64 ((4 * j + 4 : Nat) : Int), .bool true]) := he; clear he; subst he')
        | (refine wpList_appW rfl (.tmp 30) (.tmp 32) rfl G aa j cc _ rfl (o2.keep0 (gb_alloc (gb_refl _) _)) _ 1 1 (wds [w4 l j]) rfl (new_wds _ _ _) (wds_one _) (by omega) (by have := HZ.out; have := g2.size; simp; omega) ?_; intro a3 c3 w3 o3 g3))
      refine ⟨⟨j + 1, _, _, by omega, by go_num, rfl, ?_, ?_⟩, by simp [intOf]; omega⟩
      · rw [schedL_low l hlt, wds_app]
        exact o3
      · exact gb_app (gb_alloc (gb_trans hg g2) _) (o2.keep0 (gb_alloc (gb_refl _) _)) (by rw [HG.out]; exact Nat.le_refl _) g3
    · obtain rfl : j = 16 := by omega
      clear o1 g1
      go_wp2
      go_loopw [3, 8] (fun v i9 wr => ∃ (i cc : Nat) (g : Nat), 16 ≤ i ∧ i ≤ 64 ∧ i9 = .int .i64 (i : Int) ∧ v = .slice (some ⟨g, 0, none⟩) i cc ∧ Ow G wr 3 (some ⟨g, 0, none⟩) i cc (wds (schedL l i)) ∧ w.grownBy wr none) (fun _ i9 _ => 64 - (intOf i9).toNat)
      case atStart =>
        obtain ⟨g, rfl⟩ := ho.head (by omega)
        exact ⟨16, _, g, by omega, by omega, rfl, rfl, ho, hg⟩
      case round =>
        clear ho hg
        obtain ⟨i, cc, g, hi0, hi, rfl, rfl, ho, hg⟩ := hrel
        by_cases hlt : i < 64
        · have cl : ∀ k, k < i → wr.cell? ⟨g, k, none⟩ = some (.int .i64 (((schedL l i).getD k 0 : Nat) : Int)) := fun k hk => by
            obtain ⟨-, u, hu, hx⟩ := ho.at k hk
            rw [hu, ← hx, schedL_at l hk]
          obtain ⟨x1, hx1⟩ : ∃ x, x = (schedL l i).getD (i - 15) 0 := ⟨_, rfl⟩
          obtain ⟨x2, hx2⟩ : ∃ x, x = (schedL l i).getD (i - 2) 0 := ⟨_, rfl⟩
          obtain ⟨x3, hx3⟩ : ∃ x, x = (schedL l i).getD (i - 7) 0 := ⟨_, rfl⟩
          obtain ⟨x4, hx4⟩ : ∃ x, x = (schedL l i).getD (i - 16) 0 := ⟨_, rfl⟩
          have b1 : x1 < 4294967296 := by rw [hx1]; exact (schedL_W l i).at _
          have b2 : x2 < 4294967296 := by rw [hx2]; exact (schedL_W l i).at _
          have b3 : x3 < 4294967296 := by rw [hx3]; exact (schedL_W l i).at _
          have b4 : x4 < 4294967296 := by rw [hx4]; exact (schedL_W l i).at _
          have c1 := cl (i - 15) (by omega)
          have c2 := cl (i - 2) (by omega)
          have c3 := cl (i - 7) (by omega)
          have c4 := cl (i - 16) (by omega)
          rw [← hx1] at c1
          rw [← hx2] at c2
          rw [← hx3] at c3
          rw [← hx4] at c4
          have HX1 := Lib.hid hx1
          have HX2 := Lib.hid hx2
          have HX3 := Lib.hid hx3
          have HX4 := Lib.hid hx4
          clear hx1 hx2 hx3 hx4
          obtain ⟨p1, hp1⟩ : ∃ p, p = rotN x1 7 := ⟨_, rfl⟩
          obtain ⟨q1, hq1⟩ : ∃ q, q = rotN x1 18 := ⟨_, rfl⟩
          obtain ⟨z1, hz1⟩ : ∃ z, z = p1 ^^^ q1 := ⟨_, rfl⟩
          obtain ⟨y1, hy1⟩ : ∃ y, y = s0N x1 := ⟨_, rfl⟩
          have P1 := rotN_lt x1 7
          have Q1 := rotN_lt x1 18
          rw [← hp1] at P1
          rw [← hq1] at Q1
          have Z1 : z1 < 4294967296 := by rw [hz1]; exact xor_lt32 P1 Q1
          have Y1 : y1 < 4294967296 := by rw [hy1]; exact s0N_lt b1
          have X1 : bits .xor .i64 (p1 : Int) (q1 : Int) = (z1 : Int) := by rw [hz1]; exact rot_x P1 Q1
          have V1 : bits .xor .i64 (z1 : Int) ((x1 : Int) / 8) = (y1 : Int) := by
            rw [show ((x1 : Int) / 8) = ((x1 / 8 : Nat) : Int) by simp, rot_x Z1 (Nat.lt_of_le_of_lt (Nat.div_le_self _ _) b1), hy1, hz1, hp1, hq1]
            rfl
          have Cp1 := Lib.hid (show ∀ w, Calls Tryz.prog 112 #[.int .i64 (x1 : Int), .int .i64 7] w fun e w' => e = .returned (.int .i64 (p1 : Int)) ∧ w.grownBy w' none from fun w => by rw [hp1]; exact spec_Rot x1 7 w b1 (by omega) (by omega))
          have Cq1 := Lib.hid (show ∀ w, Calls Tryz.prog 112 #[.int .i64 (x1 : Int), .int .i64 18] w fun e w' => e = .returned (.int .i64 (q1 : Int)) ∧ w.grownBy w' none from fun w => by rw [hq1]; exact spec_Rot x1 18 w b1 (by omega) (by omega))
          have HY1 := Lib.hid hy1
          clear hp1 hq1 hz1 hy1
          obtain ⟨p2, hp2⟩ : ∃ p, p = rotN x2 17 := ⟨_, rfl⟩
          obtain ⟨q2, hq2⟩ : ∃ q, q = rotN x2 19 := ⟨_, rfl⟩
          obtain ⟨z2, hz2⟩ : ∃ z, z = p2 ^^^ q2 := ⟨_, rfl⟩
          obtain ⟨y2, hy2⟩ : ∃ y, y = s1N x2 := ⟨_, rfl⟩
          have P2 := rotN_lt x2 17
          have Q2 := rotN_lt x2 19
          rw [← hp2] at P2
          rw [← hq2] at Q2
          have Z2 : z2 < 4294967296 := by rw [hz2]; exact xor_lt32 P2 Q2
          have Y2 : y2 < 4294967296 := by rw [hy2]; exact s1N_lt b2
          have X2 : bits .xor .i64 (p2 : Int) (q2 : Int) = (z2 : Int) := by rw [hz2]; exact rot_x P2 Q2
          have V2 : bits .xor .i64 (z2 : Int) ((x2 : Int) / 1024) = (y2 : Int) := by
            rw [show ((x2 : Int) / 1024) = ((x2 / 1024 : Nat) : Int) by simp, rot_x Z2 (Nat.lt_of_le_of_lt (Nat.div_le_self _ _) b2), hy2, hz2, hp2, hq2]
            rfl
          have Cp2 := Lib.hid (show ∀ w, Calls Tryz.prog 112 #[.int .i64 (x2 : Int), .int .i64 17] w fun e w' => e = .returned (.int .i64 (p2 : Int)) ∧ w.grownBy w' none from fun w => by rw [hp2]; exact spec_Rot x2 17 w b2 (by omega) (by omega))
          have Cq2 := Lib.hid (show ∀ w, Calls Tryz.prog 112 #[.int .i64 (x2 : Int), .int .i64 19] w fun e w' => e = .returned (.int .i64 (q2 : Int)) ∧ w.grownBy w' none from fun w => by rw [hq2]; exact spec_Rot x2 19 w b2 (by omega) (by omega))
          have HY2 := Lib.hid hy2
          clear hp2 hq2 hz2 hy2
          obtain ⟨v, hv⟩ : ∃ v, v = (x3 + x4 + y1 + y2) % 4294967296 := ⟨_, rfl⟩
          have M : bits .and .i64 ((x3 : Int) + (x4 : Int) + (y1 : Int) + (y2 : Int)) 4294967295 = (v : Int) := by
            have := mask32 (x3 + x4 + y1 + y2) (by omega)
            rw [hv, ← this]
            push_cast
            rfl
          have HV := Lib.hid hv
          clear hv
          clear cl
          have f1 : (i : Int) - 15 = ((i - 15 : Nat) : Int) := by omega
          have f2 : (i : Int) - 2 = ((i - 2 : Nat) : Int) := by omega
          have f3 : (i : Int) - 7 = ((i - 7 : Nat) : Int) := by omega
          have f4 : (i : Int) - 16 = ((i - 16 : Nat) : Int) := by omega
          have lt := (ho.lt _ rfl).2
          go_wp2_with (go_at_call 112; first
            | ((with_reducible refine (Cp1.out _).mono ?_); rintro e w2 ⟨rfl, g2⟩)
            | ((with_reducible refine (Cq1.out _).mono ?_); rintro e w3 ⟨rfl, g3⟩)
            | ((with_reducible refine (Cp2.out _).mono ?_); rintro e w4 ⟨rfl, g4⟩)
            | ((with_reducible refine (Cq2.out _).mono ?_); rintro e w5 ⟨rfl, g5⟩))
          have GG : wr.grownBy w5 none := gb_trans (gb_trans (gb_trans g2 g3) g4) g5
          have K := gb_cells GG
          replace c3 := (K.1 g (i - 7) lt).trans c3
          replace c4 := (K.1 g (i - 16) lt).trans c4
          have lt5 := Nat.lt_of_lt_of_le lt GG.size
          have O5 := Lib.hid (ho.keep0 GG)
          have GH := Lib.hid (gb_trans hg GG)
          have KX : Hid (∀ w', w5.grownBy w' none → (w'.cell? ⟨g, i - 7, none⟩ = some (.int .i64 (x3 : Int)) ∧ w'.cell? ⟨g, i - 16, none⟩ = some (.int .i64 (x4 : Int)))) :=
            fun w' hg => ⟨((gb_cells hg).1 g (i - 7) lt5).trans c3, ((gb_cells hg).1 g (i - 16) lt5).trans c4⟩
          have HZ := Lib.hid (show G ≤ w5.heap.size by have := HG.out; have := GH.out.size; omega)
          clear K GG lt ho hg c1 c2 c3 c4 g2 g3 g4 g5
          have l3 : ((i - 7 : Nat) : Int) < (i : Int) := by omega
          have l4 : ((i - 16 : Nat) : Int) < (i : Int) := by omega
          have l5 : IntKind.i64.wrap ((i - 7 : Nat) : Int) = ((i - 7 : Nat) : Int) := cast63 _ (by omega)
          have l6 : IntKind.i64.wrap ((i - 16 : Nat) : Int) = ((i - 16 : Nat) : Int) := cast63 _ (by omega)
          have l7 : IntKind.i64.wrap ((x3 : Int) + (x4 : Int)) = (x3 : Int) + (x4 : Int) := wraps_i64 _ (by omega) (by omega)
          have l8 : IntKind.i64.wrap ((x3 : Int) + (x4 : Int) + (y1 : Int)) = (x3 : Int) + (x4 : Int) + (y1 : Int) := wraps_i64 _ (by omega) (by omega)
          have l9 : IntKind.i64.wrap ((x3 : Int) + (x4 : Int) + (y1 : Int) + (y2 : Int)) = (x3 : Int) + (x4 : Int) + (y1 : Int) + (y2 : Int) := wraps_i64 _ (by omega) (by omega)
          have l10 : 0 ≤ ((i - 7 : Nat) : Int) := Int.natCast_nonneg _
          have l11 : 0 ≤ ((i - 16 : Nat) : Int) := Int.natCast_nonneg _
          go_region_held3 (fun w' => w'.cell? ⟨g, i - 7, none⟩ = some (.int .i64 (x3 : Int)) ∧ w'.cell? ⟨g, i - 16, none⟩ = some (.int .i64 (x4 : Int)))
            (first | (with_reducible exact KY.out) | (refine KX.out _ ?_; (repeat (first | with_reducible exact gb_refl _ | with_reducible refine gb_alloc ?_ _ | with_reducible refine gb_drewN ?_ _ | with_reducible refine gb_drew ?_))))
            (first
              | (refine step_appW rfl (.tmp 64) (.tmp 81) rfl G (some ⟨g, 0, none⟩) i cc (wds (schedL l i)) rfl (O5.out.keep0 (by (repeat (first | with_reducible exact gb_refl _ | with_reducible refine gb_alloc ?_ _ | with_reducible refine gb_drewN ?_ _ | with_reducible refine gb_drew ?_)))) _ 1 1 (wds [v]) rfl (Rd.ofBxV (cs := #[.int .i64 (v : Int)]) (t := 3) (by (repeat (first | (with_reducible refine Bx.newk _ _ _ _ ?_; (first | with_reducible rfl | (simp; done))) | with_reducible refine Bx.old ?_ _ | with_reducible refine Bx.drewN ?_ _ | with_reducible refine Bx.drew ?_))) rfl rfl) (wds_one _) (by omega) (Nat.le_trans HZ.out (World.grownBy.size (row := none) (by (repeat (first | with_reducible exact gb_refl _ | with_reducible refine gb_alloc ?_ _ | with_reducible refine gb_drewN ?_ _ | with_reducible refine gb_drew ?_))))) ?_; intro a6 c6 w6 o6 g6 k6; have k7 := k6 _ rfl; have KY := Lib.hid (show w6.cell? ⟨g, i - 7, none⟩ = some (.int .i64 (x3 : Int)) ∧ w6.cell? ⟨g, i - 16, none⟩ = some (.int .i64 (x4 : Int)) from ⟨(k7 (i - 7) (by omega)).trans (KX.out _ (by (repeat (first | with_reducible exact gb_refl _ | with_reducible refine gb_alloc ?_ _ | with_reducible refine gb_drewN ?_ _ | with_reducible refine gb_drew ?_)))).1, (k7 (i - 16) (by omega)).trans (KX.out _ (by (repeat (first | with_reducible exact gb_refl _ | with_reducible refine gb_alloc ?_ _ | with_reducible refine gb_drewN ?_ _ | with_reducible refine gb_drew ?_)))).2⟩); clear k6 k7; have H6 : w.grownBy w6 none := gb_app (gb_trans GH.out (by (repeat (first | with_reducible exact gb_refl _ | with_reducible refine gb_alloc ?_ _ | with_reducible refine gb_drewN ?_ _ | with_reducible refine gb_drew ?_)))) (O5.out.keep0 (by (repeat (first | with_reducible exact gb_refl _ | with_reducible refine gb_alloc ?_ _ | with_reducible refine gb_drewN ?_ _ | with_reducible refine gb_drew ?_)))) (by rw [HG.out]; exact Nat.le_refl _) g6)
              | fail)
          go_wp2
          refine ⟨?_, ?measure⟩
          (repeat apply Exists.intro)
          refine ⟨?rel, rfl⟩
          case rel =>
            obtain ⟨g7, rfl⟩ := o6.head (by omega)
            refine ⟨i + 1, _, g7, by omega, by omega, by go_num, rfl, ?_, ?_⟩
            · have e : schedL l (i + 1) = schedL l i ++ [v] := by
                obtain ⟨q, hq⟩ : ∃ q, i = q + 16 := ⟨i - 16, by omega⟩
                rw [HV.out, HX3.out, HX4.out, HY1.out, HY2.out, HX1.out, HX2.out]
                rw [hq, schedL_high]
                rfl
              rw [e, wds_app]
              exact o6
            · exact H6
          case measure => simp [intOf]; omega
        · obtain rfl : i = 64 := by omega
          go_wp2
          go_ret
          exact ⟨_, _, rfl, ho.mono (by rw [HG.out]; exact Nat.le_refl _), hg⟩
end Go.Proofs.YtpfchphgbhgmmaaGreat
