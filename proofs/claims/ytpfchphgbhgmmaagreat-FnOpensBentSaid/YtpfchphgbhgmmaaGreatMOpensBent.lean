/-
  FnOpensBent returns true for every code; with the plain laws and the small functions that this law asks for. Conditions: none.
-/
import Derived.Test.YtpfchphgbhgmmaaGreatBase
import Derived.Test.YtpfchphgbhgmmaaGreatHelp
import Derived.Test.YtpfchphgbhgmmaaGreatHelpS
import Derived.Test.YtpfchphgbhgmmaaGreatStr
import Derived.Test.YtpfchphgbhgmmaaGreatFrOkP
import Derived.Test.YtpfchphgbhgmmaaGreatCell
import Derived.Test.YtpfchphgbhgmmaaGreatMac
import Derived.Test.YtpfchphgbhgmmaaGreatGet
import Derived.Test.YtpfchphgbhgmmaaGreatEp
import Derived.Test.YtpfchphgbhgmmaaGreatEpC
import Derived.Test.YtpfchphgbhgmmaaGreatSet1
import Derived.Test.YtpfchphgbhgmmaaGreatEpS
import Derived.Test.YtpfchphgbhgmmaaGreatMDrBe
import Derived.OpenShut
import Derived.Deep.RegionHeld3
import Derived.Deep.RegionWith
import Derived.IntWalk
/-
  Plain facts on a law's frame: a call that answers true and writes only new memory gives the row; a slice of bytes or of integers that came in reads as a list. Conditions: none beside those that each theorem names.
-/
namespace Go.Proofs.YtpfchphgbhgmmaaGreat
open Go.RowKit Go.ChangeShapes Go.WideShapes Go.ChangeAt

section
variable {P : Program} {H : Type} {enc : TypeId × Value → H}

def readable (P : Program) (ts : List TypeId) : Bool := ts.all fun t => P.readableRec t && decide (t < P.types.size)

theorem trodAll_below (hl : laidOutB P = true) {W W' : World} (hb : Below W.heap.size W W') : ∀ (ts : List TypeId) (vs : List Value) (ds : List (DataW H)) (ps : List MemPlace), readable P ts = true →
    DataW.TrodAll enc P W 0 (fun _ => true) true ts vs ds ps → (∀ x ∈ ps, x.block < W.heap.size) → DataW.TrodAll enc P W' 0 (fun b => decide (b < W.heap.size)) true ts vs ds ps
  | [], [], [], ps, _, h, _ => h
  | t :: ts, v :: vs, d :: ds, ps, hr, h, hlt => by
    obtain ⟨p, q, h1, h2, rfl⟩ := h
    simp only [readable, List.all_cons, Bool.and_eq_true, decide_eq_true_eq] at hr
    exact ⟨p, q, Below.trod hl hr.1.1 hr.1.2 h1 hb (fun x hx => hlt x (by simp [hx])), trodAll_below hl hb ts vs ds q (by simpa [readable] using hr.2) h2 (fun x hx => hlt x (by simp [hx])), rfl⟩
  | [], [], _ :: _, _, _, h, _ => h.elim
  | [], _ :: _, _, _, _, h, _ => h.elim
  | _ :: _, [], _, _, _, h, _ => h.elim
  | _ :: _, _ :: _, [], _, _, h, _ => h.elim

/-- THE ROW's POST, out of a call that returns true and turns nothing that was there. -/
theorem law_post {f : Func} {s : ChangeSpec} {W W' : World} {args : Array Value} {ds gs : List (DataW H)} {before : List MemPlace} {tb : TypeId}
    (hl : laidOutB P = true) (hr : readable P f.params.toList = true) (hres : f.resultTypes = #[tb]) (htb : P.underlying tb = some .bool) (hv0 : s.vars = [])
    (hs : (s.fn H (ds ++ gs)).results = [.lit (.bool true)] ∧ (s.fn H (ds ++ gs)).args = ds ∧ (s.fn H (ds ++ gs)).vars = [])
    (hW : DataW.Whole enc P f.params.toList s.vars false W args.toList ds gs before) (hb : Below W.heap.size W W') :
    s.post enc P f false true false false W args (.bool true) W' := by
  have hlt := hW.lt
  have hW' := hW
  obtain ⟨p, q, hA, hV, rfl, _, _⟩ := hW
  rw [hv0] at hV
  obtain ⟨rfl, rfl⟩ := trodVars_none hV
  obtain ⟨h1, h2, h3⟩ := hs
  refine ⟨ds, [], _, [], p, [], hW', ?_, ?_, ?_, World.keptBut_mono (fun _ h => h) (hb.frame _), fun h => by cases h⟩
  · rw [h1, hres]
    exact trodAll_cons_mk (shut_bool htb true) trodAll_mk0
  · rw [h2]
    exact trodAll_below hl hb _ _ _ _ hr hA (fun x hx => hlt x (by simp [hx]))
  · rw [h3, hv0]
    exact rfl

/-- a byte, out of a number that is one -/
theorem u8_of_int (z : Int) (h : (Lit.int .u8 z).wf = true) : ((UInt8.ofNat z.toNat).toNat : Int) = z := by
  have hb : 0 ≤ z ∧ z ≤ 255 := by simpa [Lit.wf, IntKind.min, IntKind.max, IntKind.signed, IntKind.bits] using h
  rw [UInt8.toNat_ofNat']
  omega

theorem no_spot {W : World} {b o s : Nat} {u : Value} (h : W.cell? ((⟨b, o, some s⟩ : Addr).add 0) = some u) : False := by
  simp [World.cell?, Addr.add] at h
  split at h <;> simp_all

/-- a slice of bytes that came in -/
theorem open_bytes {W : World} {t e : TypeId} {fuel : Nat} {v : Value} {x : DataW H × List MemPlace} (ht : P.underlying t = some (.slice e)) (he : P.underlying e = some (.int .u8)) (hc : P.cellsOf e = 1)
    (h : DataW.trod enc P W 0 (fun _ => true) true fuel t [v] = some x) : ∃ a n c, ∃ l : List UInt8, v = .slice a n c ∧ Rd W a n c (bys l) ∧ c ≤ maxLen := by
  rcases open_ints ht he hc h with ⟨hv, _⟩ | ⟨a, len, cap, zs, hv, _, hl, hm, hz, _, hcell, hwf⟩
  · exact ⟨none, 0, 0, [], by simpa using hv, Rd.nil W none 0, by simp [maxLen]⟩
  · simp only [if_true] at hz
    refine ⟨some a, len, cap, (zs.take len).map fun z => UInt8.ofNat z.toNat, by simpa using hv, ⟨by simp [bys]; omega, hl, fun j hj => ?_⟩, hm⟩
    have h0 := hcell j (by omega)
    obtain ⟨b, o, sp⟩ := a
    cases sp with
    | some s => exact (no_spot (hcell 0 (by omega))).elim
    | none =>
      refine ⟨b, o, rfl, ?_⟩
      rw [Addr.add_lit] at h0
      rw [h0]
      have hj2 : j < zs.length := by omega
      simp only [bys, List.map_map, List.getElem?_map, List.getElem?_take, if_pos hj, List.getElem?_eq_getElem hj2, Option.map_some, Function.comp, List.getD_eq_getElem?_getD, Option.getD_some]
      rw [u8_of_int _ (hwf _ (List.getElem_mem hj2))]

/-- a slice of integers that came in -/
theorem open_is {W : World} {t e : TypeId} {fuel : Nat} {v : Value} {x : DataW H × List MemPlace} (ht : P.underlying t = some (.slice e)) (he : P.underlying e = some (.int .i64)) (hc : P.cellsOf e = 1)
    (h : DataW.trod enc P W 0 (fun _ => true) true fuel t [v] = some x) : ∃ a n c, ∃ l : List Int, v = .slice a n c ∧ Rd W a n c (ins l) ∧ c ≤ maxLen ∧ ∀ z ∈ l, -9223372036854775808 ≤ z ∧ z ≤ 9223372036854775807 := by
  rcases open_ints ht he hc h with ⟨hv, _⟩ | ⟨a, len, cap, zs, hv, _, hl, hm, hz, _, hcell, hwf⟩
  · exact ⟨none, 0, 0, [], by simpa using hv, Rd.nil W none 0, by simp [maxLen], by simp⟩
  · simp only [if_true] at hz
    refine ⟨some a, len, cap, zs.take len, by simpa using hv, ⟨by simp [ins]; omega, hl, fun j hj => ?_⟩, hm, fun z hz2 => ?_⟩
    · have h0 := hcell j (by omega)
      obtain ⟨b, o, sp⟩ := a
      cases sp with
      | some s => exact (no_spot (hcell 0 (by omega))).elim
      | none =>
        refine ⟨b, o, rfl, ?_⟩
        rw [Addr.add_lit] at h0
        rw [h0]
        have hj2 : j < zs.length := by omega
        simp only [ins, List.getElem?_map, List.getElem?_take, if_pos hj, List.getElem?_eq_getElem hj2, Option.map_some, List.getD_eq_getElem?_getD, Option.getD_some]
    · have := hwf z (List.mem_of_mem_take hz2)
      simpa [Lit.wf, IntKind.min, IntKind.max, IntKind.signed, IntKind.bits] using this

/-- the cells of a value read as data of the type -/
def Trd (enc : TypeId × Value → H) (P : Program) (W : World) (t : TypeId) (cs : List Value) : Prop := ∃ fuel x, DataW.trod enc P W 0 (fun _ => true) true fuel t cs = some x

theorem Trd.parts {W : World} {t : TypeId} {fs : Array Field} {cs : List Value} (ht : P.underlying t = some (.struct fs)) (h : Trd enc P W t cs) :
    ∀ (i : Nat) (f : Field), fs[i]? = some f → Trd enc P W f.type ((cs.drop f.offset).take (P.cellsOf f.type)) := by
  obtain ⟨fuel, x, h⟩ := h
  obtain ⟨xs, n, _, _, _, hlen, hp⟩ := DataW.trod_struct ht h
  intro i f hf
  have hi : i < xs.length := by
    have := (Array.getElem?_eq_some_iff.1 hf).1
    omega
  exact ⟨n, xs[i], by rw [hp i f hf]; simp⟩

def InInt (v : Value) : Prop := ∃ x, v = .int .i64 x ∧ I64 x
def InBytes (w : World) (v : Value) : Prop := ∃ a n c, ∃ l : List UInt8, v = .slice a n c ∧ Rd w a n c (bys l) ∧ c ≤ maxLen
def InInts (w : World) (v : Value) : Prop := ∃ a n c, ∃ l : List Int, v = .slice a n c ∧ Rd w a n c (ins l) ∧ c ≤ maxLen ∧ ∀ z ∈ l, I64 z

theorem Trd.int {W : World} {t : TypeId} {v : Value} (ht : P.underlying t = some (.int .i64)) (h : Trd enc P W t [v]) : InInt v := by
  obtain ⟨fuel, x, h⟩ := h
  obtain ⟨n, hc, _, hw⟩ := DataW.trod_int ht h
  exact ⟨n, by simpa using hc, by simpa [I64, Lit.wf, IntKind.min, IntKind.max, IntKind.signed, IntKind.bits] using hw⟩
theorem Trd.bytes {W : World} {t e : TypeId} {v : Value} (ht : P.underlying t = some (.slice e)) (he : P.underlying e = some (.int .u8)) (hc : P.cellsOf e = 1) (h : Trd enc P W t [v]) : InBytes W v := by
  obtain ⟨fuel, x, h⟩ := h
  obtain ⟨a, n, c, l, h1, h2, h3⟩ := open_bytes ht he hc h
  exact ⟨a, n, c, l, h1, h2, h3⟩
theorem Trd.ints {W : World} {t e : TypeId} {v : Value} (ht : P.underlying t = some (.slice e)) (he : P.underlying e = some (.int .i64)) (hc : P.cellsOf e = 1) (h : Trd enc P W t [v]) : InInts W v := by
  obtain ⟨fuel, x, h⟩ := h
  obtain ⟨a, n, c, l, h1, h2, h3, h4⟩ := open_is ht he hc h
  exact ⟨a, n, c, l, h1, h2, h3, h4⟩
theorem trd_of {W : World} {t : TypeId} {v : Value} {d : DataW H} {ps : List MemPlace} (h : DataW.Trod enc P W 0 (fun _ => true) true t v d ps) : Trd enc P W t v.cells.toList := by
  obtain ⟨fuel, h⟩ := h
  exact ⟨fuel, _, h⟩
theorem okWide_i64 {W : World} {base : Nat} {t : TypeId} {v : Value} (ht : P.underlying t = some (.int .i64)) (hv : Value.okWide P W .any base t v) : v.cells.toList = [v] := by
  simp only [Value.okWide, ht, Cell.okWide] at hv
  cases v <;> simp_all [Cell.ok, Value.cells]
theorem okWide_sl {W : World} {base : Nat} {t e : TypeId} {v : Value} (ht : P.underlying t = some (.slice e)) (hv : Value.okWide P W .any base t v) : v.cells.toList = [v] := by
  obtain ⟨a, n, c, rfl⟩ := okWide_slice ht hv
  rfl

end

theorem cells_int : Tryz.prog.cellsOf 3 = 1 := by kernel_rfl
theorem cells_u8 : Tryz.prog.cellsOf 5 = 1 := by kernel_rfl
theorem cells_bs : Tryz.prog.cellsOf 22 = 1 := by kernel_rfl
theorem cells_is : Tryz.prog.cellsOf 24 = 1 := by kernel_rfl
set_option maxRecDepth 1000000 in
theorem laidOut : laidOutB Tryz.prog = true := by kernel_rfl
theorem own : ownKnob Tryz.prog.godebug = none := by kernel_rfl

section
variable {H : Type} {enc : TypeId × Value → H} {W : World} {base : Nat} {v : Value} {d : DataW H} {ps : List MemPlace}
set_option maxRecDepth 1000000 in
theorem open_I (hv : Value.okWide Tryz.prog W .any base 3 v) (h : DataW.Trod enc Tryz.prog W 0 (fun _ => true) true 3 v d ps) : InInt v := by
  have := trd_of h
  rw [okWide_i64 Tryz.underlying3 hv] at this
  exact this.int Tryz.underlying3
set_option maxRecDepth 1000000 in
theorem open_B (hv : Value.okWide Tryz.prog W .any base 22 v) (h : DataW.Trod enc Tryz.prog W 0 (fun _ => true) true 22 v d ps) : InBytes W v := by
  have := trd_of h
  rw [okWide_sl Tryz.underlying22 hv] at this
  exact this.bytes Tryz.underlying22 Tryz.underlying5 cells_u8
set_option maxRecDepth 1000000 in
theorem open_Z (hv : Value.okWide Tryz.prog W .any base 24 v) (h : DataW.Trod enc Tryz.prog W 0 (fun _ => true) true 24 v d ps) : InInts W v := by
  have := trd_of h
  rw [okWide_sl Tryz.underlying24 hv] at this
  exact this.ints Tryz.underlying24 Tryz.underlying3 cells_int
end
end Go.Proofs.YtpfchphgbhgmmaaGreat

/-
  Contracts of the small functions that the laws call. Conditions: none beside those that each theorem names.
-/
namespace Go.Proofs.YtpfchphgbhgmmaaGreat
open Go.RowKit
theorem laws_big (a : Option Addr) (n c : Nat) (w : World) : Calls Tryz.prog 5 #[.slice a n c] w fun e w' => e = .returned (.bool (decide (1048576 < n))) ∧ w = w' := by
  by_cases h : 1048576 < n
  · go_enter Tryz.func5, Tryz.ntmps5
    go_wp2
    go_ret
    exact ⟨ret_b (by simp; omega), rfl⟩
  · go_enter Tryz.func5, Tryz.ntmps5
    go_wp2
    go_ret
    exact ⟨ret_b (by simp; omega), rfl⟩
theorem laws_same (a : Option Addr) (n c : Nat) (b : Option Addr) (m d : Nat) (l k : List UInt8) (w : World) (h1 : Rd w a n c (bys l)) (h2 : Rd w b m d (bys k)) :
    Calls Tryz.prog 14 #[.slice a n c, .slice b m d] w fun e w' => e = .returned (.bool (eqL l k)) ∧ w = w' := by
  have c1 := h1.conv (P := Tryz.prog) 22 5 9 Tryz.underlying22 Tryz.underlying5 Tryz.underlying9
  have c2 := h2.conv (P := Tryz.prog) 22 5 9 Tryz.underlying22 Tryz.underlying5 Tryz.underlying9
  go_enter Tryz.func14, Tryz.ntmps14
  go_wp2
  go_ret
  exact ⟨ret_b (by rw [str_toList, str_toList]; rfl), rfl⟩
theorem eqL_rfl (l : List UInt8) : eqL l l = true := eqL_iff.2 rfl
theorem laws_same_t (a : Option Addr) (n c : Nat) (b : Option Addr) (m d : Nat) (l : List UInt8) (w : World) (h1 : Rd w a n c (bys l)) (h2 : Rd w b m d (bys l)) :
    Calls Tryz.prog 14 #[.slice a n c, .slice b m d] w fun e w' => e = .returned (.bool true) ∧ w = w' := by
  have := laws_same a n c b m d l l w h1 h2
  rwa [eqL_rfl] at this
set_option maxRecDepth 1000000 in
set_option maxHeartbeats 4000000 in
/-- two values that read as one frame are the same -/
theorem laws_sameFrame_t (v u : Value) (f : FrameM) (w : World) (h : FrameR w v f) (k : FrameR w u f) :
    Calls Tryz.prog 10 #[v, u] w fun e w' => e = .returned (.bool true) ∧ w.grownBy w' none := by
  obtain ⟨a1, n1, c1, a2, n2, c2, a3, n3, c3, a4, n4, c4, a5, n5, c5, a6, n6, c6, rfl, r1, r2, r3, r4, r5, r6⟩ := h
  obtain ⟨b1, m1, d1, b2, m2, d2, b3, m3, d3, b4, m4, d4, b5, m5, d5, b6, m6, d6, rfl, s1, s2, s3, s4, s5, s6⟩ := k
  have g0 := gb_alloc (gb_alloc (gb_refl w) (.cells #[.int .i64 f.kind, .int .i64 f.id, .slice a1 n1 c1, .slice a2 n2 c2, .int .i64 f.tick, .slice a3 n3 c3, .slice a4 n4 c4, .int .i64 f.epoch, .int .i64 f.seq, .slice a5 n5 c5, .slice a6 n6 c6] 32)) (.cells #[.int .i64 f.kind, .int .i64 f.id, .slice b1 m1 d1, .slice b2 m2 d2, .int .i64 f.tick, .slice b3 m3 d3, .slice b4 m4 d4, .int .i64 f.epoch, .int .i64 f.seq, .slice b5 m5 d5, .slice b6 m6 d6] 32)
  replace r1 := r1.keep0 g0
  replace r2 := r2.keep0 g0
  replace r3 := r3.keep0 g0
  replace r4 := r4.keep0 g0
  replace r5 := r5.keep0 g0
  replace r6 := r6.keep0 g0
  replace s1 := s1.keep0 g0
  replace s2 := s2.keep0 g0
  replace s3 := s3.keep0 g0
  replace s4 := s4.keep0 g0
  replace s5 := s5.keep0 g0
  replace s6 := s6.keep0 g0
  go_enter Tryz.func10, Tryz.ntmps10
  go_wp2_with (go_at_call 14; first
    | ((with_reducible refine (laws_same_t a1 n1 c1 b1 m1 d1 f.cn _ r1 s1).mono ?_); rintro e w' ⟨rfl, rfl⟩)
    | ((with_reducible refine (laws_same_t a2 n2 c2 b2 m2 d2 f.sn _ r2 s2).mono ?_); rintro e w' ⟨rfl, rfl⟩)
    | ((with_reducible refine (laws_same_t a3 n3 c3 b3 m3 d3 f.cookie _ r3 s3).mono ?_); rintro e w' ⟨rfl, rfl⟩)
    | ((with_reducible refine (laws_same_t a4 n4 c4 b4 m4 d4 f.proof _ r4 s4).mono ?_); rintro e w' ⟨rfl, rfl⟩)
    | ((with_reducible refine (laws_same_t a5 n5 c5 b5 m5 d5 f.body _ r5 s5).mono ?_); rintro e w' ⟨rfl, rfl⟩)
    | ((with_reducible refine (laws_same_t a6 n6 c6 b6 m6 d6 f.tag _ r6 s6).mono ?_); rintro e w' ⟨rfl, rfl⟩))
  go_ret
  exact ⟨rfl, g0⟩
end Go.Proofs.YtpfchphgbhgmmaaGreat

/-
  Contracts of the small functions of the laws: a byte of the code, a slice's beginning, a bent slice. Conditions: none beside those that each theorem names.
-/
namespace Go.Proofs.YtpfchphgbhgmmaaGreat
open Go.RowKit
end Go.Proofs.YtpfchphgbhgmmaaGreat

/-
  Contracts of the small functions that compare windows and epochs. Conditions: none beside those that each theorem names.
-/
namespace Go.Proofs.YtpfchphgbhgmmaaGreat
open Go.RowKit
set_option maxHeartbeats 400000 in
theorem laws_sameInts_t (a b : Option Addr) (n c m d : Nat) (l : List Int) (w : World) (ha : Rd w a n c (ins l)) (hb : Rd w b m d (ins l)) (hn : l.length ≤ 1073741824) :
    Calls Tryz.prog 40 #[.slice a n c, .slice b m d] w fun e w' => e = .returned (.bool true) ∧ w.grownBy w' none := by
  obtain rfl : n = m := by have := ha.ilen; have := hb.ilen; omega
  replace hn : n ≤ 1073741824 := by have := ha.ilen; omega
  go_enter Tryz.func40, Tryz.ntmps40
  go_wp2
  go_loopw [5] (fun i wr => ∃ j : Nat, j ≤ n ∧ i = .int .i64 j ∧ Qt w wr) (fun i _ => n - (intOf i).toNat)
  case atStart => exact ⟨0, by omega, rfl, Qt.refl w⟩
  case round =>
    obtain ⟨j, hj, rfl, hq⟩ := hrel
    by_cases hlt : j < n
    · obtain ⟨b1, o1, x, rfl, hx, h1⟩ := (ha.qt hq).int j hlt
      obtain ⟨b2, o2, y, rfl, hy, h2⟩ := (hb.qt hq).int j hlt
      obtain rfl : x = y := by have h1 := hx.out; rw [hy.out] at h1; exact (Option.some.inj h1).symm
      go_wp2
      go_quiet (fail)
      go_wp2
      go_roundw
      case rel => exact ⟨j + 1, by omega, by go_num, hq.drewN _⟩
      case measure => simp [intOf]; omega
    · obtain rfl : j = n := by omega
      go_wp2
      go_ret
      exact ⟨rfl, hq.gb⟩
set_option maxHeartbeats 1000000 in
/-- two values that read as one window are the same -/
theorem laws_sameWin_t (v u : Value) (f : WinM) (w : World) (h : WinR w v f) (k : WinR w u f) (hn : f.bits.length ≤ 1073741824) :
    Calls Tryz.prog 13 #[v, u] w fun e w' => e = .returned (.bool true) ∧ w.grownBy w' none := by
  obtain ⟨a1, n1, c1, rfl, r1⟩ := h
  obtain ⟨b1, m1, d1, rfl, s1⟩ := k
  have g0 := gb_alloc (gb_alloc (gb_refl w) (.cells #[.int .i64 f.top, .slice a1 n1 c1] 26)) (.cells #[.int .i64 f.top, .slice b1 m1 d1] 26)
  replace r1 := r1.keep0 g0
  replace s1 := s1.keep0 g0
  go_enter Tryz.func13, Tryz.ntmps13
  go_wp2_with (go_at_call 40; refine (laws_sameInts_t a1 b1 n1 c1 m1 d1 f.bits _ r1 s1 hn).mono ?_; rintro e w1 ⟨rfl, g1⟩)
  go_ret
  exact ⟨rfl, gb_trans g0 g1⟩
set_option maxHeartbeats 1000000 in
/-- two values that read as one epoch are the same -/
theorem laws_sameEp_t (v u : Value) (f : EpM) (w : World) (h : EpR w v f) (k : EpR w u f) (hn : f.win.bits.length ≤ 1073741824) :
    Calls Tryz.prog 9 #[v, u] w fun e w' => e = .returned (.bool true) ∧ w.grownBy w' none := by
  obtain ⟨a1, n1, c1, a2, n2, c2, rfl, r1, r2⟩ := h
  obtain ⟨b1, m1, d1, b2, m2, d2, rfl, s1, s2⟩ := k
  have g0 := gb_alloc (gb_alloc (gb_refl w) (.cells #[.int .i64 f.n, .slice a1 n1 c1, .int .i64 f.seq, .int .i64 f.win.top, .slice a2 n2 c2] 28)) (.cells #[.int .i64 f.n, .slice b1 m1 d1, .int .i64 f.seq, .int .i64 f.win.top, .slice b2 m2 d2] 28)
  replace r1 := r1.keep0 g0
  replace s1 := s1.keep0 g0
  replace r2 := r2.keep0 g0
  replace s2 := s2.keep0 g0
  go_enter Tryz.func9, Tryz.ntmps9
  go_wp2_with (first
    | (go_at_call 14; refine (laws_same_t a1 n1 c1 b1 m1 d1 f.key _ r1 s1).mono ?_; rintro e w' ⟨rfl, rfl⟩)
    | (go_at_call 13; refine (laws_sameWin_t _ _ f.win _ ⟨_, _, _, rfl, r2⟩ ⟨_, _, _, rfl, s2⟩ hn).mono ?_; rintro e w1 ⟨rfl, g1⟩))
  go_ret
  exact ⟨rfl, gb_trans g0 g1⟩
end Go.Proofs.YtpfchphgbhgmmaaGreat

/-
  Contracts of the two functions that open a frame in an epoch. Conditions: none beside those that each theorem names.
-/
namespace Go.Proofs.YtpfchphgbhgmmaaGreat
open Go.RowKit
def epOpenC (e : EpM) (x : Int) (f : FrameM) : Int :=
  if epOkB e = true ∧ (tagInM x f).length ≠ 0 ∧ f.epoch = e.n then (if winMay e.win f.seq = true then (if unsealB e.key x f = true then 0 else 2) else 3) else 1
def epOpenE (e : EpM) (x : Int) (f : FrameM) : EpM := if epOpenC e x f = 0 then { e with win := winAddM e.win f.seq } else e
def epOpenP (e : EpM) (x : Int) (f : FrameM) : List UInt8 := if epOpenC e x f = 0 then unsealM e.key x f else []
theorem epOpenE_tot (e : EpM) (x : Int) (f : FrameM) : (epOpenE e x f).tot = e.tot := by
  unfold epOpenE
  split
  · have := winAddM_tot e.win f.seq
    simp only [EpM.tot, WinM.tot] at this ⊢
    omega
  · rfl
set_option maxRecDepth 1000000 in
set_option maxHeartbeats 8000000 in
theorem impl_EpOpen (v : Value) (f : EpM) (x : Int) (u : Value) (F : FrameM) (w : World) (h : EpR w v f) (hF : FrameR w u F) (hk : f.key.length ≤ 1048576) (hn : f.win.bits.length ≤ 1048576) :
    Calls Tryz.prog 12 #[v, .int .i64 x, u] w fun e w' => ∃ M v1 a n c, e = .returned (.tuple #[v1, .slice a n c, .int .i64 (epOpenC f x F)]) ∧ w.heap.size ≤ M ∧ M ≤ w'.heap.size ∧
      EpO w.heap.size M w' v1 (epOpenE f x F) ∧ Ow M w' 5 a n c (bys (epOpenP f x F)) ∧ w.grownBy w' none := by
  obtain ⟨a1, n1, c1, a7, n7, c7, rfl, r1, r7⟩ := h
  obtain ⟨en, l1, es, ⟨et, l7⟩⟩ := f
  obtain ⟨kind, id, q1, q2, tick, q3, q4, epoch, seq, q5, q6⟩ := F
  obtain ⟨b1, m1, d1, b2, m2, d2, b3, m3, d3, b4, m4, d4, b5, m5, d5, b6, m6, d6, rfl⟩ := hF.shape
  simp only at r1 r7 hk hn hF ⊢
  have G := gb_alloc (gb_alloc (gb_alloc (gb_refl w) (.cells #[.int .i64 en, .slice a1 n1 c1, .int .i64 es, .int .i64 et, .slice a7 n7 c7] 28)) (.cells #[.int .i64 kind, .int .i64 id, .slice b1 m1 d1, .slice b2 m2 d2, .int .i64 tick, .slice b3 m3 d3, .slice b4 m4 d4, .int .i64 epoch, .int .i64 seq, .slice b5 m5 d5, .slice b6 m6 d6] 32)) (.cells #[.int .i64 0, .slice none 0 0, .int .i64 0, .int .i64 0, .slice none 0 0] 28)
  have zW : (((w.alloc (.cells #[.int .i64 en, .slice a1 n1 c1, .int .i64 es, .int .i64 et, .slice a7 n7 c7] 28)).alloc (.cells #[.int .i64 kind, .int .i64 id, .slice b1 m1 d1, .slice b2 m2 d2, .int .i64 tick, .slice b3 m3 d3, .slice b4 m4 d4, .int .i64 epoch, .int .i64 seq, .slice b5 m5 d5, .slice b6 m6 d6] 32)).alloc (.cells #[.int .i64 0, .slice none 0 0, .int .i64 0, .int .i64 0, .slice none 0 0] 28)).heap.size = w.heap.size + 3 := by first | rfl | (simp; done)
  obtain ⟨BE, BF, BR⟩ := bx3 w #[.int .i64 en, .slice a1 n1 c1, .int .i64 es, .int .i64 et, .slice a7 n7 c7] #[.int .i64 kind, .int .i64 id, .slice b1 m1 d1, .slice b2 m2 d2, .int .i64 tick, .slice b3 m3 d3, .slice b4 m4 d4, .int .i64 epoch, .int .i64 seq, .slice b5 m5 d5, .slice b6 m6 d6] #[.int .i64 0, .slice none 0 0, .int .i64 0, .int .i64 0, .slice none 0 0] 28 32 28
  have k3 := fun o => BE.cell o
  have k5 := fun o => BF.cell o
  have f6 := fun o => BR.frozen o
  have lt6 := BR.lt
  obtain ⟨C, hC⟩ : ∃ C, C = epOpenC (⟨en, l1, es, ⟨et, l7⟩⟩ : EpM) x (⟨kind, id, q1, q2, tick, q3, q4, epoch, seq, q5, q6⟩ : FrameM) := ⟨_, rfl⟩
  have HE := Lib.hid (show epOpenE (⟨en, l1, es, ⟨et, l7⟩⟩ : EpM) x (⟨kind, id, q1, q2, tick, q3, q4, epoch, seq, q5, q6⟩ : FrameM) = if C = 0 then ⟨en, l1, es, winAddM ⟨et, l7⟩ seq⟩ else (⟨en, l1, es, ⟨et, l7⟩⟩ : EpM) by rw [epOpenE, ← hC])
  have HP := Lib.hid (show epOpenP (⟨en, l1, es, ⟨et, l7⟩⟩ : EpM) x (⟨kind, id, q1, q2, tick, q3, q4, epoch, seq, q5, q6⟩ : FrameM) = if C = 0 then unsealM l1 x (⟨kind, id, q1, q2, tick, q3, q4, epoch, seq, q5, q6⟩ : FrameM) else [] by rw [epOpenP, ← hC])
  rw [← hC]
  replace hC := Lib.hid hC
  go_enter Tryz.func12, Tryz.ntmps12
  go_wp2_with fail
  refine (impl_copyEp _ (⟨en, l1, es, ⟨et, l7⟩⟩ : EpM) _ (EpR.mk (r1.keep0 G) (r7.keep0 G)) hk hn).mono ?_
  rintro e w1 ⟨v1, rfl, o1, g1⟩
  obtain ⟨x1, y1, z1, x7, y7, z7, rfl, ⟨p1, u1⟩, ⟨p7, u7⟩, d17⟩ := o1
  have gS := g1.size
  rw [zW] at gS
  simp only at p1 p7
  rw [zW] at p1 p7
  have gN := gb_alloc (gb_refl w1) (.cells #[.int .i64 en, .slice x1 y1 z1, .int .i64 es, .int .i64 et, .slice x7 y7 z7] 28)
  have B9 := Bx.new w1 28 #[.int .i64 en, .slice x1 y1 z1, .int .i64 es, .int .i64 et, .slice x7 y7 z7]
  replace BE := BE.keep0 g1
  replace BF := BF.keep0 g1
  replace BR := BR.keep0 g1
  (try clear k3 k5 f6 lt6); have k3 := fun o => BE.cell o; have k5 := fun o => BF.cell o; have f6 := fun o => BR.frozen o; have lt6 := BR.lt
  have lt3 := BE.lt
  go_wp2_with fail
  replace BE := BE.keep0 gN
  replace BF := BF.keep0 gN
  replace BR := BR.keep0 gN
  have gg := gb_trans (gb_trans G g1) gN
  replace p1 := p1.keep0 gN
  replace p7 := p7.keep0 gN
  clear g1 gN k3 k5 f6 lt6 lt3
  cases h1 : epOkB (⟨en, l1, es, ⟨et, l7⟩⟩ : EpM)
  · obtain rfl : C = 1 := by rw [hC.out, epOpenC, if_neg (fun q => by rw [h1] at q; exact absurd q.1 (by decide))]
    refine (impl_EpOk _ (⟨en, l1, es, ⟨et, l7⟩⟩ : EpM) _ (EpR.mk (r1.keep0 gg) (r7.keep0 gg)) (Nat.le_trans hn (by decide))).mono ?_
    rw [h1]
    rintro e w4 ⟨rfl, g4⟩
    replace BE := BE.keep0 g4; replace BF := BF.keep0 g4; replace BR := BR.keep0 g4; replace B9 := B9.keep0 g4; replace p1 := p1.keep0 g4; replace p7 := p7.keep0 g4; replace gg := gb_trans gg g4; (try clear k3 k5 f6 lt6); have k3 := fun o => BE.cell o; have k5 := fun o => BF.cell o; have f6 := fun o => BR.frozen o; have lt6 := BR.lt; (try clear k9 f9 lt9); have k9 := fun o => B9.cell o; have f9 := fun o => B9.frozen o; have lt9 := B9.lt
    go_wp2_with (first | ((with_reducible refine wpList_stR ?hg3x1 28 (.tmp 6) (.tmp 32) ?ho3x1 (w.heap.size + 1 + 1) ?cs3x1 ?old3x1 ?hx3x1 ?hy3x1 ?hb3x1 ?hi3x1 ?hs3x1 ?hc3x1 ?hh3x1); (case ho3x1 => rfl); (case hg3x1 => rfl); (case hx3x1 => rfl); (case hy3x1 => rfl); (case hb3x1 => exact (by first | exact BR | exact BR.old _)); (case hi3x1 => exact si_Ep); (case hs3x1 => rfl); (case hc3x1 => (first | rfl | (simp [Value.oneCell']; done))); intro w8 C8 g8; have k8 := fun o => C8.cell o; (try simp only [Act.put]); (try simp only [List.setIfInBounds_toArray]); (try simp only [List.set_cons_succ]); (try simp only [List.set_cons_zero])))
    have hE1 := HE.out
    have hP1 := HP.out
    rw [if_neg (by decide)] at hE1 hP1
    rw [hE1, hP1]
    have z8 := g8.size
    refine bodyPost_ret (v := .tuple #[.agg #[.int .i64 en, .slice x1 y1 z1, .int .i64 es, .int .i64 et, .slice x7 y7 z7], .slice none 0 0, .int .i64 1]) (by simp [results, Tryz.results12, go_sem, k8]) rfl ⟨w1.heap.size, _, _, _, _, rfl, by omega, by omega, ?_, Ow.nil _ _ _, gb_row gg g8 (by omega)⟩
    refine ⟨_, _, _, _, _, _, rfl, ⟨(p1.row g8 ?_).mono (by omega), u1⟩, ⟨(p7.row g8 ?_).mono (by omega), u7⟩, d17⟩ <;> (intro p hp; first | (have := (p1.lt p hp).1; omega) | (have := (p7.lt p hp).1; omega))
  refine (impl_EpOk _ (⟨en, l1, es, ⟨et, l7⟩⟩ : EpM) _ (EpR.mk (r1.keep0 gg) (r7.keep0 gg)) (Nat.le_trans hn (by decide))).mono ?_
  rw [h1]
  rintro e w4 ⟨rfl, g4⟩
  replace BE := BE.keep0 g4; replace BF := BF.keep0 g4; replace BR := BR.keep0 g4; replace B9 := B9.keep0 g4; replace p1 := p1.keep0 g4; replace p7 := p7.keep0 g4; replace gg := gb_trans gg g4; (try clear k3 k5 f6 lt6); have k3 := fun o => BE.cell o; have k5 := fun o => BF.cell o; have f6 := fun o => BR.frozen o; have lt6 := BR.lt; (try clear k9 f9 lt9); have k9 := fun o => B9.cell o; have f9 := fun o => B9.frozen o; have lt9 := B9.lt
  clear g4
  go_wp2_with fail
  refine (impl_TagInput x _ (⟨kind, id, q1, q2, tick, q3, q4, epoch, seq, q5, q6⟩ : FrameM) _ (hF.keep0 gg)).mono ?_
  rintro e w5 ⟨aT, nT, cT, rfl, oT, g5⟩
  have eT := Lib.hid oT.blen
  clear oT
  replace BE := BE.keep0 g5; replace BF := BF.keep0 g5; replace BR := BR.keep0 g5; replace B9 := B9.keep0 g5; replace p1 := p1.keep0 g5; replace p7 := p7.keep0 g5; replace gg := gb_trans gg g5; (try clear k3 k5 f6 lt6); have k3 := fun o => BE.cell o; have k5 := fun o => BF.cell o; have f6 := fun o => BR.frozen o; have lt6 := BR.lt; (try clear k9 f9 lt9); have k9 := fun o => B9.cell o; have f9 := fun o => B9.frozen o; have lt9 := B9.lt
  clear g5
  cases t0 : ((nT : Int) == 0)
  rotate_left
  · obtain rfl : C = 1 := by rw [hC.out, epOpenC, if_neg (fun q => q.2.1 (by rw [eT.out]; simp at t0; omega))]
    go_wp2_with (first | ((with_reducible refine wpList_stR ?hg3x2 28 (.tmp 6) (.tmp 32) ?ho3x2 (w.heap.size + 1 + 1) ?cs3x2 ?old3x2 ?hx3x2 ?hy3x2 ?hb3x2 ?hi3x2 ?hs3x2 ?hc3x2 ?hh3x2); (case ho3x2 => rfl); (case hg3x2 => rfl); (case hx3x2 => rfl); (case hy3x2 => rfl); (case hb3x2 => exact (by first | exact BR | exact BR.old _)); (case hi3x2 => exact si_Ep); (case hs3x2 => rfl); (case hc3x2 => (first | rfl | (simp [Value.oneCell']; done))); intro w8 C8 g8; have k8 := fun o => C8.cell o; (try simp only [Act.put]); (try simp only [List.setIfInBounds_toArray]); (try simp only [List.set_cons_succ]); (try simp only [List.set_cons_zero])))
    have hE1 := HE.out
    have hP1 := HP.out
    rw [if_neg (by decide)] at hE1 hP1
    rw [hE1, hP1]
    have z8 := g8.size
    refine bodyPost_ret (v := .tuple #[.agg #[.int .i64 en, .slice x1 y1 z1, .int .i64 es, .int .i64 et, .slice x7 y7 z7], .slice none 0 0, .int .i64 1]) (by simp [results, Tryz.results12, go_sem, k8]) rfl ⟨w1.heap.size, _, _, _, _, rfl, by omega, by omega, ?_, Ow.nil _ _ _, gb_row gg g8 (by omega)⟩
    refine ⟨_, _, _, _, _, _, rfl, ⟨(p1.row g8 ?_).mono (by omega), u1⟩, ⟨(p7.row g8 ?_).mono (by omega), u7⟩, d17⟩ <;> (intro p hp; first | (have := (p1.lt p hp).1; omega) | (have := (p7.lt p hp).1; omega))
  cases t1 : (epoch != en)
  rotate_left
  · obtain rfl : C = 1 := by rw [hC.out, epOpenC, if_neg (fun q => by rw [bne_iff_ne] at t1; exact t1 q.2.2)]
    go_wp2_with (first | ((with_reducible refine wpList_stR ?hg3x3 28 (.tmp 6) (.tmp 32) ?ho3x3 (w.heap.size + 1 + 1) ?cs3x3 ?old3x3 ?hx3x3 ?hy3x3 ?hb3x3 ?hi3x3 ?hs3x3 ?hc3x3 ?hh3x3); (case ho3x3 => rfl); (case hg3x3 => rfl); (case hx3x3 => rfl); (case hy3x3 => rfl); (case hb3x3 => exact (by first | exact BR | exact BR.old _)); (case hi3x3 => exact si_Ep); (case hs3x3 => rfl); (case hc3x3 => (first | rfl | (simp [Value.oneCell']; done))); intro w8 C8 g8; have k8 := fun o => C8.cell o; (try simp only [Act.put]); (try simp only [List.setIfInBounds_toArray]); (try simp only [List.set_cons_succ]); (try simp only [List.set_cons_zero])))
    have hE1 := HE.out
    have hP1 := HP.out
    rw [if_neg (by decide)] at hE1 hP1
    rw [hE1, hP1]
    have z8 := g8.size
    refine bodyPost_ret (v := .tuple #[.agg #[.int .i64 en, .slice x1 y1 z1, .int .i64 es, .int .i64 et, .slice x7 y7 z7], .slice none 0 0, .int .i64 1]) (by simp [results, Tryz.results12, go_sem, k8]) rfl ⟨w1.heap.size, _, _, _, _, rfl, by omega, by omega, ?_, Ow.nil _ _ _, gb_row gg g8 (by omega)⟩
    refine ⟨_, _, _, _, _, _, rfl, ⟨(p1.row g8 ?_).mono (by omega), u1⟩, ⟨(p7.row g8 ?_).mono (by omega), u7⟩, d17⟩ <;> (intro p hp; first | (have := (p1.lt p hp).1; omega) | (have := (p7.lt p hp).1; omega))
  have hin := Lib.hid (show epOkB (⟨en, l1, es, ⟨et, l7⟩⟩ : EpM) = true ∧ (tagInM x (⟨kind, id, q1, q2, tick, q3, q4, epoch, seq, q5, q6⟩ : FrameM)).length ≠ 0 ∧ (⟨kind, id, q1, q2, tick, q3, q4, epoch, seq, q5, q6⟩ : FrameM).epoch = (⟨en, l1, es, ⟨et, l7⟩⟩ : EpM).n from ⟨h1, (by rw [eT.out]; simp at t0; omega), (by simpa using t1)⟩)
  clear h1
  go_wp2_with fail
  obtain ⟨⟨et', l7'⟩, hA⟩ : ∃ f', Hid (winAddM ⟨et, l7⟩ seq = f') := ⟨_, rfl⟩
  cases hm : winMay ⟨et, l7⟩ seq
  · obtain rfl : C = 3 := by rw [hC.out, epOpenC, if_pos hin.out, if_neg (by rw [hm]; decide)]
    refine (impl_WinAdd _ ⟨et, l7⟩ seq _ ⟨_, _, _, rfl, r7.keep0 gg⟩ (Nat.le_trans hn (by decide))).mono ?_
    rw [hm, hA.out]
    rintro e w6 ⟨v6, rfl, o6, g6⟩
    obtain ⟨a9, n9, c9, rfl, o9, u9⟩ := o6
    have gX := gb_trans g6 (gb_alloc (gb_refl w6) (.cells #[.int .i64 et', .slice a9 n9 c9] 26))
    replace BE := BE.keep0 gX; replace BF := BF.keep0 gX; replace BR := BR.keep0 gX; replace B9 := B9.keep0 gX; replace p1 := p1.keep0 gX; replace p7 := p7.keep0 gX; replace gg := gb_trans gg gX; (try clear k3 k5 f6 lt6); have k3 := fun o => BE.cell o; have k5 := fun o => BF.cell o; have f6 := fun o => BR.frozen o; have lt6 := BR.lt; (try clear k9 f9 lt9); have k9 := fun o => B9.cell o; have f9 := fun o => B9.frozen o; have lt9 := B9.lt
    go_wp2_with (first | ((with_reducible refine wpList_stR ?hg3x4 28 (.tmp 6) (.tmp 43) ?ho3x4 (w.heap.size + 1 + 1) ?cs3x4 ?old3x4 ?hx3x4 ?hy3x4 ?hb3x4 ?hi3x4 ?hs3x4 ?hc3x4 ?hh3x4); (case ho3x4 => rfl); (case hg3x4 => rfl); (case hx3x4 => rfl); (case hy3x4 => rfl); (case hb3x4 => exact (by first | exact BR | exact BR.old _)); (case hi3x4 => exact si_Ep); (case hs3x4 => rfl); (case hc3x4 => (first | rfl | (simp [Value.oneCell']; done))); intro w8 C8 g8; have k8 := fun o => C8.cell o; (try simp only [Act.put]); (try simp only [List.setIfInBounds_toArray]); (try simp only [List.set_cons_succ]); (try simp only [List.set_cons_zero])))
    have hE1 := HE.out
    have hP1 := HP.out
    rw [if_neg (by decide)] at hE1 hP1
    rw [hE1, hP1]
    have z8 := g8.size
    refine bodyPost_ret (v := .tuple #[.agg #[.int .i64 en, .slice x1 y1 z1, .int .i64 es, .int .i64 et, .slice x7 y7 z7], .slice none 0 0, .int .i64 3]) (by simp [results, Tryz.results12, go_sem, k8]) rfl ⟨w1.heap.size, _, _, _, _, rfl, by omega, by omega, ?_, Ow.nil _ _ _, gb_row gg g8 (by omega)⟩
    refine ⟨_, _, _, _, _, _, rfl, ⟨(p1.row g8 ?_).mono (by omega), u1⟩, ⟨(p7.row g8 ?_).mono (by omega), u7⟩, d17⟩ <;> (intro p hp; first | (have := (p1.lt p hp).1; omega) | (have := (p7.lt p hp).1; omega))
  refine (impl_WinAdd _ ⟨et, l7⟩ seq _ ⟨_, _, _, rfl, r7.keep0 gg⟩ (Nat.le_trans hn (by decide))).mono ?_
  rw [hm, hA.out]
  rintro e w6 ⟨v6, rfl, o6, g6⟩
  obtain ⟨a9, n9, c9, rfl, o9, u9⟩ := o6
  simp only at o9
  have gY := gb_alloc (gb_refl w6) (.cells #[.int .i64 et', .slice a9 n9 c9] 26)
  have BW := Bx.new w6 26 #[.int .i64 et', .slice a9 n9 c9]
  have gX := gb_trans g6 gY
  obtain ⟨B9', hB9⟩ : ∃ B9', B9' = w5.heap.size := ⟨_, rfl⟩
  rw [← hB9] at o9
  have l95 := B9.lt
  rw [← hB9] at l95
  have l65 := g6.size
  rw [← hB9] at l65
  replace o9 := o9.keep0 gY
  replace BE := BE.keep0 g6
  replace BF := BF.keep0 g6
  replace BR := BR.keep0 g6
  replace B9 := B9.keep0 g6
  (try clear k3 k5 f6 lt6); have k3 := fun o => BE.cell o; have k5 := fun o => BF.cell o; have f6 := fun o => BR.frozen o; have lt6 := BR.lt
  have lt3 := BE.lt
  have lt5 := BF.lt
  go_wp2_with fail
  replace BE := BE.keep0 gY
  replace BF := BF.keep0 gY
  replace BR := BR.keep0 gY
  replace B9 := B9.keep0 gY
  replace p1 := p1.keep0 gX
  replace p7 := p7.keep0 gX
  replace gg := gb_trans gg gX
  clear lt3 lt5 k3 k5 f6 lt6
  cases hu : unsealB l1 x (⟨kind, id, q1, q2, tick, q3, q4, epoch, seq, q5, q6⟩ : FrameM)
  · obtain rfl : C = 2 := by rw [hC.out, epOpenC, if_pos hin.out, if_pos hm, if_neg (by rw [hu]; decide)]
    refine (impl_Unseal a1 n1 c1 l1 x _ (⟨kind, id, q1, q2, tick, q3, q4, epoch, seq, q5, q6⟩ : FrameM) _ (r1.keep0 gg) (hF.keep0 gg)).mono ?_
    rw [hu]
    rintro e w7 ⟨a10, n10, c10, rfl, o10, g7⟩
    replace BE := BE.keep0 g7; replace BF := BF.keep0 g7; replace BR := BR.keep0 g7; replace B9 := B9.keep0 g7; replace p1 := p1.keep0 g7; replace p7 := p7.keep0 g7; replace gg := gb_trans gg g7; (try clear k3 k5 f6 lt6); have k3 := fun o => BE.cell o; have k5 := fun o => BF.cell o; have f6 := fun o => BR.frozen o; have lt6 := BR.lt; (try clear k9 f9 lt9); have k9 := fun o => B9.cell o; have f9 := fun o => B9.frozen o; have lt9 := B9.lt
    go_wp2_with (first | ((with_reducible refine wpList_stR ?hg3x5 28 (.tmp 6) (.tmp 54) ?ho3x5 (w.heap.size + 1 + 1) ?cs3x5 ?old3x5 ?hx3x5 ?hy3x5 ?hb3x5 ?hi3x5 ?hs3x5 ?hc3x5 ?hh3x5); (case ho3x5 => rfl); (case hg3x5 => rfl); (case hx3x5 => rfl); (case hy3x5 => rfl); (case hb3x5 => exact (by first | exact BR | exact BR.old _)); (case hi3x5 => exact si_Ep); (case hs3x5 => rfl); (case hc3x5 => (first | rfl | (simp [Value.oneCell']; done))); intro w8 C8 g8; have k8 := fun o => C8.cell o; (try simp only [Act.put]); (try simp only [List.setIfInBounds_toArray]); (try simp only [List.set_cons_succ]); (try simp only [List.set_cons_zero])))
    have hE1 := HE.out
    have hP1 := HP.out
    rw [if_neg (by decide)] at hE1 hP1
    rw [hE1, hP1]
    have z8 := g8.size
    refine bodyPost_ret (v := .tuple #[.agg #[.int .i64 en, .slice x1 y1 z1, .int .i64 es, .int .i64 et, .slice x7 y7 z7], .slice none 0 0, .int .i64 2]) (by simp [results, Tryz.results12, go_sem, k8]) rfl ⟨w1.heap.size, _, _, _, _, rfl, by omega, by omega, ?_, Ow.nil _ _ _, gb_row gg g8 (by omega)⟩
    refine ⟨_, _, _, _, _, _, rfl, ⟨(p1.row g8 ?_).mono (by omega), u1⟩, ⟨(p7.row g8 ?_).mono (by omega), u7⟩, d17⟩ <;> (intro p hp; first | (have := (p1.lt p hp).1; omega) | (have := (p7.lt p hp).1; omega))
  · obtain rfl : C = 0 := by rw [hC.out, epOpenC, if_pos hin.out, if_pos hm, if_pos hu]
    obtain ⟨MM, hMM⟩ : ∃ MM, MM = w6.heap.size + 1 := ⟨_, rfl⟩
    refine (impl_Unseal a1 n1 c1 l1 x _ (⟨kind, id, q1, q2, tick, q3, q4, epoch, seq, q5, q6⟩ : FrameM) _ (r1.keep0 gg) (hF.keep0 gg)).mono ?_
    rw [hu]
    rintro e w7 ⟨a10, n10, c10, rfl, o10, g7⟩
    obtain ⟨B10', hB10⟩ : ∃ B10', B10' = w6.heap.size + 1 := ⟨_, rfl⟩
    simp only [World.size_alloc] at o10
    rw [← hB10] at o10
    have l76 := g7.size
    simp only [World.size_alloc] at l76
    replace o9 := o9.keep0 g7
    replace BW := BW.keep0 g7
    replace BE := BE.keep0 g7; replace BF := BF.keep0 g7; replace BR := BR.keep0 g7; replace B9 := B9.keep0 g7; replace p1 := p1.keep0 g7; replace p7 := p7.keep0 g7; replace gg := gb_trans gg g7; (try clear k3 k5 f6 lt6); have k3 := fun o => BE.cell o; have k5 := fun o => BF.cell o; have f6 := fun o => BR.frozen o; have lt6 := BR.lt; (try clear k9 f9 lt9); have k9 := fun o => B9.cell o; have f9 := fun o => B9.frozen o; have lt9 := B9.lt
    have k6 := fun o => BR.cell o
    have kW := fun o => BW.cell o
    have ltW := BW.lt
    go_wp2
    have hE1 := HE.out
    have hP1 := HP.out
    rw [if_pos (by trivial)] at hE1 hP1
    rw [hE1, hP1, hA.out]
    refine bodyPost_ret (v := .tuple #[.agg #[.int .i64 en, .slice x1 y1 z1, .int .i64 es, .int .i64 et', .slice a9 n9 c9], .slice a10 n10 c10, .int .i64 0]) (by simp [results, Tryz.results12, go_sem, k6]) rfl ⟨MM, _, _, _, _, rfl, by omega, by simp [World.setCell]; omega, ?_, ?_, ?_⟩
    · refine ⟨_, _, _, _, _, _, rfl, ⟨?_, fun p hp => Nat.lt_of_lt_of_le (u1 p hp) (by omega)⟩, ⟨?_, fun p hp => by have := u9 p hp; omega⟩, dj_of (m := w1.heap.size) u1 (fun p hp => by have := (o9.lt p hp).1; omega)⟩
      · refine Ow.mono (B := w.heap.size + 3) ?_ (by omega)
        repeat (first | with_reducible exact p1 | refine Ow.setO ?_ _ _ ?_)
        all_goals (intro p hp; have h8 := u1 p hp; have h9 := (p1.lt p hp).1; simp only; omega)
      · refine Ow.mono (B := B9') ?_ (by omega)
        repeat (first | with_reducible exact o9 | refine Ow.setO ?_ _ _ ?_)
        all_goals (intro p hp; have h9 := (o9.lt p hp).1; simp only; omega)
    · refine Ow.mono (B := B10') ?_ (by omega)
      repeat (first | with_reducible exact o10 | refine Ow.setO ?_ _ _ ?_)
      all_goals (intro p hp; have h9 := (o10.lt p hp).1; simp only; omega)
    · repeat (first | with_reducible exact gg | refine gb_set ?_ (.inl (by simp only; omega)) _)
set_option maxRecDepth 1000000 in
set_option maxHeartbeats 8000000 in
theorem spec_EpOpen (v : Value) (f : EpM) (x : Int) (u : Value) (F : FrameM) (w : World) (h : EpR w v f) (hF : FrameR w u F) (hk : f.key.length ≤ 1048576) (hn : f.win.bits.length ≤ 1048576) :
    Calls Tryz.prog 18 #[v, .int .i64 x, u] w fun e w' => ∃ M v1 a n c, e = .returned (.tuple #[v1, .slice a n c, .int .i64 (epOpenC f x F)]) ∧ w.heap.size ≤ M ∧ M ≤ w'.heap.size ∧
      EpO w.heap.size M w' v1 (epOpenE f x F) ∧ Ow w.heap.size w' 5 a n c (bys (epOpenP f x F)) ∧ w.grownBy w' none := by
  obtain ⟨a1, n1, c1, a7, n7, c7, rfl, r1, r7⟩ := h
  obtain ⟨en, l1, es, ⟨et, l7⟩⟩ := f
  obtain ⟨kind, id, q1, q2, tick, q3, q4, epoch, seq, q5, q6⟩ := F
  obtain ⟨b1, m1, d1, b2, m2, d2, b3, m3, d3, b4, m4, d4, b5, m5, d5, b6, m6, d6, rfl⟩ := hF.shape
  simp only at r1 r7 hk hn hF ⊢
  have G := gb_alloc (gb_alloc (gb_alloc (gb_refl w) (.cells #[.int .i64 en, .slice a1 n1 c1, .int .i64 es, .int .i64 et, .slice a7 n7 c7] 28)) (.cells #[.int .i64 kind, .int .i64 id, .slice b1 m1 d1, .slice b2 m2 d2, .int .i64 tick, .slice b3 m3 d3, .slice b4 m4 d4, .int .i64 epoch, .int .i64 seq, .slice b5 m5 d5, .slice b6 m6 d6] 32)) (.cells #[.int .i64 0, .slice none 0 0, .int .i64 0, .int .i64 0, .slice none 0 0] 28)
  have zW : (((w.alloc (.cells #[.int .i64 en, .slice a1 n1 c1, .int .i64 es, .int .i64 et, .slice a7 n7 c7] 28)).alloc (.cells #[.int .i64 kind, .int .i64 id, .slice b1 m1 d1, .slice b2 m2 d2, .int .i64 tick, .slice b3 m3 d3, .slice b4 m4 d4, .int .i64 epoch, .int .i64 seq, .slice b5 m5 d5, .slice b6 m6 d6] 32)).alloc (.cells #[.int .i64 0, .slice none 0 0, .int .i64 0, .int .i64 0, .slice none 0 0] 28)).heap.size = w.heap.size + 3 := by first | rfl | (simp; done)
  obtain ⟨BE, BF, BR⟩ := bx3 w #[.int .i64 en, .slice a1 n1 c1, .int .i64 es, .int .i64 et, .slice a7 n7 c7] #[.int .i64 kind, .int .i64 id, .slice b1 m1 d1, .slice b2 m2 d2, .int .i64 tick, .slice b3 m3 d3, .slice b4 m4 d4, .int .i64 epoch, .int .i64 seq, .slice b5 m5 d5, .slice b6 m6 d6] #[.int .i64 0, .slice none 0 0, .int .i64 0, .int .i64 0, .slice none 0 0] 28 32 28
  have k3 := fun o => BE.cell o
  have k5 := fun o => BF.cell o
  have f6 := fun o => BR.frozen o
  have lt6 := BR.lt
  obtain ⟨C, hC⟩ : ∃ C, C = epOpenC (⟨en, l1, es, ⟨et, l7⟩⟩ : EpM) x (⟨kind, id, q1, q2, tick, q3, q4, epoch, seq, q5, q6⟩ : FrameM) := ⟨_, rfl⟩
  have HE := Lib.hid (show epOpenE (⟨en, l1, es, ⟨et, l7⟩⟩ : EpM) x (⟨kind, id, q1, q2, tick, q3, q4, epoch, seq, q5, q6⟩ : FrameM) = if C = 0 then ⟨en, l1, es, winAddM ⟨et, l7⟩ seq⟩ else (⟨en, l1, es, ⟨et, l7⟩⟩ : EpM) by rw [epOpenE, ← hC])
  have HP := Lib.hid (show epOpenP (⟨en, l1, es, ⟨et, l7⟩⟩ : EpM) x (⟨kind, id, q1, q2, tick, q3, q4, epoch, seq, q5, q6⟩ : FrameM) = if C = 0 then unsealM l1 x (⟨kind, id, q1, q2, tick, q3, q4, epoch, seq, q5, q6⟩ : FrameM) else [] by rw [epOpenP, ← hC])
  rw [← hC]
  replace hC := Lib.hid hC
  go_enter Tryz.func18, Tryz.ntmps18
  go_wp2_with fail
  refine (spec_l9Copy _ (⟨en, l1, es, ⟨et, l7⟩⟩ : EpM) _ (EpR.mk (r1.keep0 G) (r7.keep0 G)) hk hn).mono ?_
  rintro e w1 ⟨v1, rfl, o1, g1⟩
  obtain ⟨x1, y1, z1, x7, y7, z7, rfl, ⟨p1, u1⟩, ⟨p7, u7⟩, d17⟩ := o1
  have gS := g1.size
  rw [zW] at gS
  simp only at p1 p7
  rw [zW] at p1 p7
  have gN := gb_alloc (gb_refl w1) (.cells #[.int .i64 en, .slice x1 y1 z1, .int .i64 es, .int .i64 et, .slice x7 y7 z7] 28)
  have B9 := Bx.new w1 28 #[.int .i64 en, .slice x1 y1 z1, .int .i64 es, .int .i64 et, .slice x7 y7 z7]
  replace BE := BE.keep0 g1
  replace BF := BF.keep0 g1
  replace BR := BR.keep0 g1
  (try clear k3 k5 f6 lt6); have k3 := fun o => BE.cell o; have k5 := fun o => BF.cell o; have f6 := fun o => BR.frozen o; have lt6 := BR.lt
  have lt3 := BE.lt
  go_wp2_with fail
  replace BE := BE.keep0 gN
  replace BF := BF.keep0 gN
  replace BR := BR.keep0 gN
  have gg := gb_trans (gb_trans G g1) gN
  replace p1 := p1.keep0 gN
  replace p7 := p7.keep0 gN
  clear g1 gN k3 k5 f6 lt6 lt3
  cases h1 : epOkB (⟨en, l1, es, ⟨et, l7⟩⟩ : EpM)
  · obtain rfl : C = 1 := by rw [hC.out, epOpenC, if_neg (fun q => by rw [h1] at q; exact absurd q.1 (by decide))]
    refine (spec_EpOk _ (⟨en, l1, es, ⟨et, l7⟩⟩ : EpM) _ (EpR.mk (r1.keep0 gg) (r7.keep0 gg)) (Nat.le_trans hn (by decide))).mono ?_
    rw [h1]
    rintro e w4 ⟨rfl, g4⟩
    replace BE := BE.keep0 g4; replace BF := BF.keep0 g4; replace BR := BR.keep0 g4; replace B9 := B9.keep0 g4; replace p1 := p1.keep0 g4; replace p7 := p7.keep0 g4; replace gg := gb_trans gg g4; (try clear k3 k5 f6 lt6); have k3 := fun o => BE.cell o; have k5 := fun o => BF.cell o; have f6 := fun o => BR.frozen o; have lt6 := BR.lt; (try clear k9 f9 lt9); have k9 := fun o => B9.cell o; have f9 := fun o => B9.frozen o; have lt9 := B9.lt
    go_wp2_with (first | ((with_reducible refine wpList_stR ?hg3x6 28 (.tmp 6) (.tmp 31) ?ho3x6 (w.heap.size + 1 + 1) ?cs3x6 ?old3x6 ?hx3x6 ?hy3x6 ?hb3x6 ?hi3x6 ?hs3x6 ?hc3x6 ?hh3x6); (case ho3x6 => rfl); (case hg3x6 => rfl); (case hx3x6 => rfl); (case hy3x6 => rfl); (case hb3x6 => exact (by first | exact BR | exact BR.old _)); (case hi3x6 => exact si_Ep); (case hs3x6 => rfl); (case hc3x6 => (first | rfl | (simp [Value.oneCell']; done))); intro w8 C8 g8; have k8 := fun o => C8.cell o; (try simp only [Act.put]); (try simp only [List.setIfInBounds_toArray]); (try simp only [List.set_cons_succ]); (try simp only [List.set_cons_zero])))
    have hE1 := HE.out
    have hP1 := HP.out
    rw [if_neg (by decide)] at hE1 hP1
    rw [hE1, hP1]
    have z8 := g8.size
    simp only [World.size_alloc] at z8
    refine bodyPost_ret (v := .tuple #[.agg #[.int .i64 en, .slice x1 y1 z1, .int .i64 es, .int .i64 et, .slice x7 y7 z7], .slice (some ⟨w4.heap.size, 0, none⟩) 0 0, .int .i64 1]) (by simp [results, Tryz.results18, go_sem, k8]) rfl ⟨w1.heap.size, _, _, _, _, rfl, by omega, by omega, ?_, ((new_own w4 5).row g8 (fun p hp => by cases hp; simp only; omega)).mono (by omega), gb_row (gb_alloc gg _) g8 (by omega)⟩
    refine ⟨_, _, _, _, _, _, rfl, ⟨((p1.keep0 (gb_alloc (gb_refl _) _)).row g8 ?_).mono (by omega), u1⟩, ⟨((p7.keep0 (gb_alloc (gb_refl _) _)).row g8 ?_).mono (by omega), u7⟩, d17⟩ <;> (intro p hp; first | (have := (p1.lt p hp).1; omega) | (have := (p7.lt p hp).1; omega))
  refine (spec_EpOk _ (⟨en, l1, es, ⟨et, l7⟩⟩ : EpM) _ (EpR.mk (r1.keep0 gg) (r7.keep0 gg)) (Nat.le_trans hn (by decide))).mono ?_
  rw [h1]
  rintro e w4 ⟨rfl, g4⟩
  replace BE := BE.keep0 g4; replace BF := BF.keep0 g4; replace BR := BR.keep0 g4; replace B9 := B9.keep0 g4; replace p1 := p1.keep0 g4; replace p7 := p7.keep0 g4; replace gg := gb_trans gg g4; (try clear k3 k5 f6 lt6); have k3 := fun o => BE.cell o; have k5 := fun o => BF.cell o; have f6 := fun o => BR.frozen o; have lt6 := BR.lt; (try clear k9 f9 lt9); have k9 := fun o => B9.cell o; have f9 := fun o => B9.frozen o; have lt9 := B9.lt
  clear g4
  go_wp2_with fail
  refine (spec_TagInput x _ (⟨kind, id, q1, q2, tick, q3, q4, epoch, seq, q5, q6⟩ : FrameM) _ (hF.keep0 gg)).mono ?_
  rintro e w5 ⟨aT, nT, cT, rfl, oT, g5⟩
  have eT := Lib.hid oT.blen
  clear oT
  replace BE := BE.keep0 g5; replace BF := BF.keep0 g5; replace BR := BR.keep0 g5; replace B9 := B9.keep0 g5; replace p1 := p1.keep0 g5; replace p7 := p7.keep0 g5; replace gg := gb_trans gg g5; (try clear k3 k5 f6 lt6); have k3 := fun o => BE.cell o; have k5 := fun o => BF.cell o; have f6 := fun o => BR.frozen o; have lt6 := BR.lt; (try clear k9 f9 lt9); have k9 := fun o => B9.cell o; have f9 := fun o => B9.frozen o; have lt9 := B9.lt
  clear g5
  cases t0 : ((nT : Int) == 0)
  rotate_left
  · obtain rfl : C = 1 := by rw [hC.out, epOpenC, if_neg (fun q => q.2.1 (by rw [eT.out]; simp at t0; omega))]
    go_wp2_with (first | ((with_reducible refine wpList_stR ?hg3x7 28 (.tmp 6) (.tmp 31) ?ho3x7 (w.heap.size + 1 + 1) ?cs3x7 ?old3x7 ?hx3x7 ?hy3x7 ?hb3x7 ?hi3x7 ?hs3x7 ?hc3x7 ?hh3x7); (case ho3x7 => rfl); (case hg3x7 => rfl); (case hx3x7 => rfl); (case hy3x7 => rfl); (case hb3x7 => exact (by first | exact BR | exact BR.old _)); (case hi3x7 => exact si_Ep); (case hs3x7 => rfl); (case hc3x7 => (first | rfl | (simp [Value.oneCell']; done))); intro w8 C8 g8; have k8 := fun o => C8.cell o; (try simp only [Act.put]); (try simp only [List.setIfInBounds_toArray]); (try simp only [List.set_cons_succ]); (try simp only [List.set_cons_zero])))
    have hE1 := HE.out
    have hP1 := HP.out
    rw [if_neg (by decide)] at hE1 hP1
    rw [hE1, hP1]
    have z8 := g8.size
    simp only [World.size_alloc] at z8
    refine bodyPost_ret (v := .tuple #[.agg #[.int .i64 en, .slice x1 y1 z1, .int .i64 es, .int .i64 et, .slice x7 y7 z7], .slice (some ⟨w5.heap.size, 0, none⟩) 0 0, .int .i64 1]) (by simp [results, Tryz.results18, go_sem, k8]) rfl ⟨w1.heap.size, _, _, _, _, rfl, by omega, by omega, ?_, ((new_own w5 5).row g8 (fun p hp => by cases hp; simp only; omega)).mono (by omega), gb_row (gb_alloc gg _) g8 (by omega)⟩
    refine ⟨_, _, _, _, _, _, rfl, ⟨((p1.keep0 (gb_alloc (gb_refl _) _)).row g8 ?_).mono (by omega), u1⟩, ⟨((p7.keep0 (gb_alloc (gb_refl _) _)).row g8 ?_).mono (by omega), u7⟩, d17⟩ <;> (intro p hp; first | (have := (p1.lt p hp).1; omega) | (have := (p7.lt p hp).1; omega))
  cases t1 : (epoch != en)
  rotate_left
  · obtain rfl : C = 1 := by rw [hC.out, epOpenC, if_neg (fun q => by rw [bne_iff_ne] at t1; exact t1 q.2.2)]
    go_wp2_with (first | ((with_reducible refine wpList_stR ?hg3x8 28 (.tmp 6) (.tmp 31) ?ho3x8 (w.heap.size + 1 + 1) ?cs3x8 ?old3x8 ?hx3x8 ?hy3x8 ?hb3x8 ?hi3x8 ?hs3x8 ?hc3x8 ?hh3x8); (case ho3x8 => rfl); (case hg3x8 => rfl); (case hx3x8 => rfl); (case hy3x8 => rfl); (case hb3x8 => exact (by first | exact BR | exact BR.old _)); (case hi3x8 => exact si_Ep); (case hs3x8 => rfl); (case hc3x8 => (first | rfl | (simp [Value.oneCell']; done))); intro w8 C8 g8; have k8 := fun o => C8.cell o; (try simp only [Act.put]); (try simp only [List.setIfInBounds_toArray]); (try simp only [List.set_cons_succ]); (try simp only [List.set_cons_zero])))
    have hE1 := HE.out
    have hP1 := HP.out
    rw [if_neg (by decide)] at hE1 hP1
    rw [hE1, hP1]
    have z8 := g8.size
    simp only [World.size_alloc] at z8
    refine bodyPost_ret (v := .tuple #[.agg #[.int .i64 en, .slice x1 y1 z1, .int .i64 es, .int .i64 et, .slice x7 y7 z7], .slice (some ⟨w5.heap.size, 0, none⟩) 0 0, .int .i64 1]) (by simp [results, Tryz.results18, go_sem, k8]) rfl ⟨w1.heap.size, _, _, _, _, rfl, by omega, by omega, ?_, ((new_own w5 5).row g8 (fun p hp => by cases hp; simp only; omega)).mono (by omega), gb_row (gb_alloc gg _) g8 (by omega)⟩
    refine ⟨_, _, _, _, _, _, rfl, ⟨((p1.keep0 (gb_alloc (gb_refl _) _)).row g8 ?_).mono (by omega), u1⟩, ⟨((p7.keep0 (gb_alloc (gb_refl _) _)).row g8 ?_).mono (by omega), u7⟩, d17⟩ <;> (intro p hp; first | (have := (p1.lt p hp).1; omega) | (have := (p7.lt p hp).1; omega))
  have hin := Lib.hid (show epOkB (⟨en, l1, es, ⟨et, l7⟩⟩ : EpM) = true ∧ (tagInM x (⟨kind, id, q1, q2, tick, q3, q4, epoch, seq, q5, q6⟩ : FrameM)).length ≠ 0 ∧ (⟨kind, id, q1, q2, tick, q3, q4, epoch, seq, q5, q6⟩ : FrameM).epoch = (⟨en, l1, es, ⟨et, l7⟩⟩ : EpM).n from ⟨h1, (by rw [eT.out]; simp at t0; omega), (by simpa using t1)⟩)
  clear h1
  go_wp2_with fail
  obtain ⟨⟨et', l7'⟩, hA⟩ : ∃ f', Hid (winAddM ⟨et, l7⟩ seq = f') := ⟨_, rfl⟩
  cases hm : winMay ⟨et, l7⟩ seq
  · obtain rfl : C = 3 := by rw [hC.out, epOpenC, if_pos hin.out, if_neg (by rw [hm]; decide)]
    refine (spec_WinMay _ ⟨et, l7⟩ seq _ ⟨_, _, _, rfl, r7.keep0 gg⟩).mono ?_
    rw [hm]
    rintro e w6 ⟨rfl, g6⟩
    replace BE := BE.keep0 g6; replace BF := BF.keep0 g6; replace BR := BR.keep0 g6; replace B9 := B9.keep0 g6; replace p1 := p1.keep0 g6; replace p7 := p7.keep0 g6; replace gg := gb_trans gg g6; (try clear k3 k5 f6 lt6); have k3 := fun o => BE.cell o; have k5 := fun o => BF.cell o; have f6 := fun o => BR.frozen o; have lt6 := BR.lt; (try clear k9 f9 lt9); have k9 := fun o => B9.cell o; have f9 := fun o => B9.frozen o; have lt9 := B9.lt
    go_wp2_with (first | ((with_reducible refine wpList_stR ?hg3x9 28 (.tmp 6) (.tmp 39) ?ho3x9 (w.heap.size + 1 + 1) ?cs3x9 ?old3x9 ?hx3x9 ?hy3x9 ?hb3x9 ?hi3x9 ?hs3x9 ?hc3x9 ?hh3x9); (case ho3x9 => rfl); (case hg3x9 => rfl); (case hx3x9 => rfl); (case hy3x9 => rfl); (case hb3x9 => exact (by first | exact BR | exact BR.old _)); (case hi3x9 => exact si_Ep); (case hs3x9 => rfl); (case hc3x9 => (first | rfl | (simp [Value.oneCell']; done))); intro w8 C8 g8; have k8 := fun o => C8.cell o; (try simp only [Act.put]); (try simp only [List.setIfInBounds_toArray]); (try simp only [List.set_cons_succ]); (try simp only [List.set_cons_zero])))
    have hE1 := HE.out
    have hP1 := HP.out
    rw [if_neg (by decide)] at hE1 hP1
    rw [hE1, hP1]
    have z8 := g8.size
    simp only [World.size_alloc] at z8
    refine bodyPost_ret (v := .tuple #[.agg #[.int .i64 en, .slice x1 y1 z1, .int .i64 es, .int .i64 et, .slice x7 y7 z7], .slice (some ⟨w6.heap.size, 0, none⟩) 0 0, .int .i64 3]) (by simp [results, Tryz.results18, go_sem, k8]) rfl ⟨w1.heap.size, _, _, _, _, rfl, by omega, by omega, ?_, ((new_own w6 5).row g8 (fun p hp => by cases hp; simp only; omega)).mono (by omega), gb_row (gb_alloc gg _) g8 (by omega)⟩
    refine ⟨_, _, _, _, _, _, rfl, ⟨((p1.keep0 (gb_alloc (gb_refl _) _)).row g8 ?_).mono (by omega), u1⟩, ⟨((p7.keep0 (gb_alloc (gb_refl _) _)).row g8 ?_).mono (by omega), u7⟩, d17⟩ <;> (intro p hp; first | (have := (p1.lt p hp).1; omega) | (have := (p7.lt p hp).1; omega))
  refine (spec_WinMay _ ⟨et, l7⟩ seq _ ⟨_, _, _, rfl, r7.keep0 gg⟩).mono ?_
  rw [hm]
  rintro e w6 ⟨rfl, g6⟩
  replace BE := BE.keep0 g6; replace BF := BF.keep0 g6; replace BR := BR.keep0 g6; replace B9 := B9.keep0 g6; replace p1 := p1.keep0 g6; replace p7 := p7.keep0 g6; replace gg := gb_trans gg g6; (try clear k3 k5 f6 lt6); have k3 := fun o => BE.cell o; have k5 := fun o => BF.cell o; have f6 := fun o => BR.frozen o; have lt6 := BR.lt; (try clear k9 f9 lt9); have k9 := fun o => B9.cell o; have f9 := fun o => B9.frozen o; have lt9 := B9.lt
  go_wp2_with fail
  cases hu : unsealB l1 x (⟨kind, id, q1, q2, tick, q3, q4, epoch, seq, q5, q6⟩ : FrameM)
  · obtain rfl : C = 2 := by rw [hC.out, epOpenC, if_pos hin.out, if_pos hm, if_neg (by rw [hu]; decide)]
    refine (spec_Unseal a1 n1 c1 l1 x _ (⟨kind, id, q1, q2, tick, q3, q4, epoch, seq, q5, q6⟩ : FrameM) _ (r1.keep0 gg) (hF.keep0 gg)).mono ?_
    rw [hu]
    rintro e w7 ⟨a10, n10, c10, rfl, o10, g7⟩
    replace BE := BE.keep0 g7; replace BF := BF.keep0 g7; replace BR := BR.keep0 g7; replace B9 := B9.keep0 g7; replace p1 := p1.keep0 g7; replace p7 := p7.keep0 g7; replace gg := gb_trans gg g7; (try clear k3 k5 f6 lt6); have k3 := fun o => BE.cell o; have k5 := fun o => BF.cell o; have f6 := fun o => BR.frozen o; have lt6 := BR.lt; (try clear k9 f9 lt9); have k9 := fun o => B9.cell o; have f9 := fun o => B9.frozen o; have lt9 := B9.lt
    go_wp2_with (first | ((with_reducible refine wpList_stR ?hg3x10 28 (.tmp 6) (.tmp 51) ?ho3x10 (w.heap.size + 1 + 1) ?cs3x10 ?old3x10 ?hx3x10 ?hy3x10 ?hb3x10 ?hi3x10 ?hs3x10 ?hc3x10 ?hh3x10); (case ho3x10 => rfl); (case hg3x10 => rfl); (case hx3x10 => rfl); (case hy3x10 => rfl); (case hb3x10 => exact (by first | exact BR | exact BR.old _)); (case hi3x10 => exact si_Ep); (case hs3x10 => rfl); (case hc3x10 => (first | rfl | (simp [Value.oneCell']; done))); intro w8 C8 g8; have k8 := fun o => C8.cell o; (try simp only [Act.put]); (try simp only [List.setIfInBounds_toArray]); (try simp only [List.set_cons_succ]); (try simp only [List.set_cons_zero])))
    have hE1 := HE.out
    have hP1 := HP.out
    rw [if_neg (by decide)] at hE1 hP1
    rw [hE1, hP1]
    have z8 := g8.size
    simp only [World.size_alloc] at z8
    refine bodyPost_ret (v := .tuple #[.agg #[.int .i64 en, .slice x1 y1 z1, .int .i64 es, .int .i64 et, .slice x7 y7 z7], .slice (some ⟨w7.heap.size, 0, none⟩) 0 0, .int .i64 2]) (by simp [results, Tryz.results18, go_sem, k8]) rfl ⟨w1.heap.size, _, _, _, _, rfl, by omega, by omega, ?_, ((new_own w7 5).row g8 (fun p hp => by cases hp; simp only; omega)).mono (by omega), gb_row (gb_alloc gg _) g8 (by omega)⟩
    refine ⟨_, _, _, _, _, _, rfl, ⟨((p1.keep0 (gb_alloc (gb_refl _) _)).row g8 ?_).mono (by omega), u1⟩, ⟨((p7.keep0 (gb_alloc (gb_refl _) _)).row g8 ?_).mono (by omega), u7⟩, d17⟩ <;> (intro p hp; first | (have := (p1.lt p hp).1; omega) | (have := (p7.lt p hp).1; omega))
  · obtain rfl : C = 0 := by rw [hC.out, epOpenC, if_pos hin.out, if_pos hm, if_pos hu]
    refine (spec_Unseal a1 n1 c1 l1 x _ (⟨kind, id, q1, q2, tick, q3, q4, epoch, seq, q5, q6⟩ : FrameM) _ (r1.keep0 gg) (hF.keep0 gg)).mono ?_
    rw [hu]
    rintro e w7 ⟨a10, n10, c10, rfl, o10, g7⟩
    obtain ⟨B10', hB10⟩ : ∃ B10', B10' = w6.heap.size := ⟨_, rfl⟩
    rw [← hB10] at o10
    have l96 := B9.lt
    rw [← hB10] at l96
    have l76 := g7.size
    rw [← hB10] at l76
    replace BE := BE.keep0 g7; replace BF := BF.keep0 g7; replace BR := BR.keep0 g7; replace B9 := B9.keep0 g7; replace p1 := p1.keep0 g7; replace p7 := p7.keep0 g7; replace gg := gb_trans gg g7; (try clear k3 k5 f6 lt6); have k3 := fun o => BE.cell o; have k5 := fun o => BF.cell o; have f6 := fun o => BR.frozen o; have lt6 := BR.lt; (try clear k9 f9 lt9); have k9 := fun o => B9.cell o; have f9 := fun o => B9.frozen o; have lt9 := B9.lt
    have lt3 := BE.lt
    have lt5 := BF.lt
    go_wp2_with fail
    refine (spec_WinAdd _ ⟨et, l7⟩ seq _ ⟨_, _, _, rfl, r7.keep0 gg⟩ (Nat.le_trans hn (by decide))).mono ?_
    rw [winAddS_eq, hm, hA.out]
    rintro e w8 ⟨v8, rfl, o8, g8⟩
    obtain ⟨a9, n9, c9, rfl, o9, u9⟩ := o8
    simp only at o9
    obtain ⟨B9', hB9⟩ : ∃ B9', B9' = w7.heap.size := ⟨_, rfl⟩
    rw [← hB9] at o9 l76
    have l97 := B9.lt
    rw [← hB9] at l97
    have l87 := g8.size
    rw [← hB9] at l87
    replace o10 := o10.keep0 g8
    clear lt3 lt5
    replace BE := BE.keep0 g8; replace BF := BF.keep0 g8; replace BR := BR.keep0 g8; replace B9 := B9.keep0 g8; replace p1 := p1.keep0 g8; replace p7 := p7.keep0 g8; replace gg := gb_trans gg g8; (try clear k3 k5 f6 lt6); have k3 := fun o => BE.cell o; have k5 := fun o => BF.cell o; have f6 := fun o => BR.frozen o; have lt6 := BR.lt; (try clear k9 f9 lt9); have k9 := fun o => B9.cell o; have f9 := fun o => B9.frozen o; have lt9 := B9.lt
    have k6 := fun o => BR.cell o
    obtain ⟨MM, hMM⟩ : ∃ MM, MM = w8.heap.size := ⟨_, rfl⟩
    go_wp2
    have hE1 := HE.out
    have hP1 := HP.out
    rw [if_pos (by trivial)] at hE1 hP1
    rw [hE1, hP1, hA.out]
    refine bodyPost_ret (v := .tuple #[.agg #[.int .i64 en, .slice x1 y1 z1, .int .i64 es, .int .i64 et', .slice a9 n9 c9], .slice a10 n10 c10, .int .i64 0]) (by simp [results, Tryz.results18, go_sem, k6]) rfl ⟨MM, _, _, _, _, rfl, by omega, by simp [World.setCell]; omega, ?_, ?_, ?_⟩
    · refine ⟨_, _, _, _, _, _, rfl, ⟨?_, fun p hp => Nat.lt_of_lt_of_le (u1 p hp) (by omega)⟩, ⟨?_, fun p hp => by have := u9 p hp; omega⟩, dj_of (m := w1.heap.size) u1 (fun p hp => by have := (o9.lt p hp).1; omega)⟩
      · refine Ow.mono (B := w.heap.size + 3) ?_ (by omega)
        repeat (first | with_reducible exact p1 | refine Ow.setO ?_ _ _ ?_)
        all_goals (intro p hp; have h8 := u1 p hp; have h9 := (p1.lt p hp).1; simp only; omega)
      · refine Ow.mono (B := B9') ?_ (by omega)
        repeat (first | with_reducible exact o9 | refine Ow.setO ?_ _ _ ?_)
        all_goals (intro p hp; have h9 := (o9.lt p hp).1; simp only; omega)
    · refine Ow.mono (B := B10') ?_ (by omega)
      repeat (first | with_reducible exact o10 | refine Ow.setO ?_ _ _ ?_)
      all_goals (intro p hp; have h9 := (o10.lt p hp).1; simp only; omega)
    · repeat (first | with_reducible exact gg | refine gb_set ?_ (.inl (by simp only; omega)) _)
end Go.Proofs.YtpfchphgbhgmmaaGreat

/-
  Plain facts on windows: after a number is taken the window has it, and what it had, as far as it is not too old. Conditions: none beside those that each theorem names.
-/
namespace Go.Proofs.YtpfchphgbhgmmaaGreat
open Go.RowKit
theorem winOk_iff {f : WinM} : winOk f = true ↔ (-1 ≤ f.top ∧ f.top ≤ 281474976710655) ∧ areW f.bits 32 = true ∧ (∀ n : Nat, n < 1024 → f.top < n → winBit f.bits n = false) ∧ (f.top = -1 ∨ winBit f.bits f.top.toNat = true) := by
  simp only [winOk, Bool.and_eq_true, inB_iff, noneAbove_iff, topBit, Bool.or_eq_true, beq_iff_eq]
  constructor
  · rintro ⟨⟨⟨h1, h2⟩, h3⟩, h4⟩
    exact ⟨h1, h2, h3, h4⟩
  · rintro ⟨h1, h2, h3, h4⟩
    exact ⟨⟨⟨h1, h2⟩, h3⟩, h4⟩
theorem winMay_iff {f : WinM} {n : Int} : winMay f n = true ↔ winOk f = true ∧ (0 ≤ n ∧ n ≤ 281474976710655) ∧ (f.top < n ∨ (least f.top ≤ n ∧ winBit f.bits n.toNat = false)) := by
  simp only [winMay, Bool.and_eq_true, inB_iff, Bool.or_eq_true, decide_eq_true_eq, Bool.not_eq_true']
  exact ⟨fun ⟨⟨h1, h2⟩, h3⟩ => ⟨h1, h2, h3⟩, fun ⟨h1, h2, h3⟩ => ⟨⟨h1, h2⟩, h3⟩⟩
theorem winHas_iff {f : WinM} {n : Int} : winHas f n = true ↔ winOk f = true ∧ (least f.top ≤ n ∧ n ≤ f.top) ∧ winBit f.bits n.toNat = true := by
  simp only [winHas, Bool.and_eq_true, inB_iff]
  exact ⟨fun ⟨⟨h1, h2⟩, h3⟩ => ⟨h1, h2, h3⟩, fun ⟨h1, h2, h3⟩ => ⟨⟨h1, h2⟩, h3⟩⟩
theorem least_le {t : Int} : 0 ≤ least t := by unfold least; split <;> omega
theorem least_iff {t n : Int} (h : 0 ≤ n) : least t ≤ n ↔ t - 1024 < n := by unfold least; split <;> omega
theorem winAdd_top {f : WinM} {n : Int} (h : winMay f n = true) : (winAddM f n).top = max f.top n := by rw [winAddM, if_pos h]
theorem winAdd_no {f : WinM} {n : Int} (h : winMay f n = false) : winAddM f n = f := by rw [winAddM, if_neg (by rw [h]; decide)]
/-- what the window has after a number was taken -/
theorem winAdd_bit {f : WinM} {n : Int} (h : winMay f n = true) : areW (winAddM f n).bits 32 = true ∧ ∀ y : Int, 0 ≤ y → max f.top n - 1024 < y → y ≤ max f.top n →
    (winBit (winAddM f n).bits y.toNat = true ↔ y = n ∨ (y ≤ f.top ∧ winBit f.bits y.toNat = true)) := by
  obtain ⟨h1, ⟨h2, h3⟩, h4⟩ := winMay_iff.1 h
  obtain ⟨⟨t1, t2⟩, t3, t4, t5⟩ := winOk_iff.1 h1
  rw [winAddM, if_pos h]
  simp only
  obtain ⟨k, rfl⟩ := Int.eq_ofNat_of_zero_le h2
  rw [Int.toNat_natCast]
  obtain ⟨p1, p2⟩ := clr_ok t3 (addLo f k) (k - addLo f k)
  obtain ⟨p3, p4⟩ := setBit_ok p1 k
  refine ⟨p3, fun y y0 y1 y2 => ?_⟩
  obtain ⟨m, rfl⟩ := Int.eq_ofNat_of_zero_le y0
  rw [Int.toNat_natCast, p4, p2]
  have hlo : addLo f k = max (f.top + 1).toNat (k - 1023) := by unfold addLo; omega
  rw [hlo]
  simp only [Bool.or_eq_true, Bool.and_eq_true, Bool.not_eq_true', decide_eq_true_eq, decide_eq_false_iff_not]
  have hy : (k % 1024 = m % 1024) ↔ (m : Int) = (k : Int) := by
    have hk : f.top - 1024 < k := by
      rcases h4 with h4 | ⟨h4, -⟩
      · omega
      · exact (least_iff h2).1 h4
    omega
  rw [hy]
  constructor
  · rintro (⟨hb, hn⟩ | e)
    · by_cases e : (m : Int) = k
      · exact .inl e
      · right
        refine ⟨?_, hb⟩
        by_cases hm : (m : Int) ≤ f.top
        · exact hm
        · exact absurd ⟨m - max (f.top + 1).toNat (k - 1023), by omega, by omega⟩ hn
    · exact .inl e
  · rintro (e | ⟨hm, hb⟩)
    · exact .inr e
    · refine .inl ⟨hb, ?_⟩
      rintro ⟨d, hd, e⟩
      omega
theorem winAdd_ok {f : WinM} {n : Int} (h : winMay f n = true) : winOk (winAddM f n) = true := by
  obtain ⟨h1, ⟨h2, h3⟩, h4⟩ := winMay_iff.1 h
  obtain ⟨⟨t1, t2⟩, t3, t4, t5⟩ := winOk_iff.1 h1
  obtain ⟨b1, b2⟩ := winAdd_bit h
  refine winOk_iff.2 ⟨by rw [winAdd_top h]; omega, b1, ?_, ?_⟩
  · intro m hm hlt
    rw [winAdd_top h] at hlt
    rw [winAddM, if_pos h]
    simp only
    obtain ⟨k, rfl⟩ := Int.eq_ofNat_of_zero_le h2
    rw [Int.toNat_natCast]
    obtain ⟨p1, p2⟩ := clr_ok t3 (addLo f k) (k - addLo f k)
    obtain ⟨p3, p4⟩ := setBit_ok p1 k
    rw [p4, p2, t4 m hm (by omega), decide_eq_false (show ¬ k % 1024 = m % 1024 by omega), Bool.false_and, Bool.or_false]
  · right
    rw [winAdd_top h]
    have ht : 0 ≤ max f.top n := by omega
    rw [b2 _ ht (by omega) (by omega)]
    by_cases e : f.top < n
    · exact .inl (by omega)
    · have e2 : max f.top n = f.top := by omega
      rw [e2]
      exact .inr ⟨by omega, t5.resolve_left (by omega)⟩
theorem winAdd_okA {f : WinM} (n : Int) (h : winOk f = true) : winOk (winAddM f n) = true := by
  cases hm : winMay f n
  · rw [winAdd_no hm]; exact h
  · exact winAdd_ok hm
theorem bent_has {f : WinM} {n : Int} (h : winMay f n = true) : winHas (winAddM f n) n = true := by
  obtain ⟨h1, ⟨h2, h3⟩, h4⟩ := winMay_iff.1 h
  have hk : f.top - 1024 < n := by
    rcases h4 with h4 | ⟨h4, -⟩
    · omega
    · exact (least_iff h2).1 h4
  refine winHas_iff.2 ⟨winAdd_ok h, ?_, ?_⟩
  · rw [winAdd_top h, least_iff h2]; omega
  · rw [(winAdd_bit h).2 n h2 (by omega) (by omega)]; exact .inl rfl
theorem bent_may {f : WinM} {n : Int} (h : winMay f n = true) : winMay (winAddM f n) n = false := by
  have hh := winHas_iff.1 (bent_has h)
  cases e : winMay (winAddM f n) n
  · rfl
  · rcases (winMay_iff.1 e).2.2 with h9 | ⟨-, h9⟩
    · have := hh.2.1.2; omega
    · rw [hh.2.2] at h9; cases h9
theorem bent_not {f : WinM} {n : Int} (h : winMay f n = true) : winHas f n = false := by
  cases e : winHas f n
  · rfl
  · have hh := winHas_iff.1 e
    rcases (winMay_iff.1 h).2.2 with h9 | ⟨-, h9⟩
    · have := hh.2.1.2; omega
    · rw [hh.2.2] at h9; cases h9
theorem winNew_ok : winOk winNew = true := winOk_iff.2 ⟨by decide, by decide, fun n hn _ => by
  simp only [winBit, winNew, List.getD_eq_getElem?_getD, List.getElem?_replicate]
  rw [if_pos (by omega)]
  simp, .inl rfl⟩
end Go.Proofs.YtpfchphgbhgmmaaGreat

/-
  Plain laws on epochs: what an epoch seals another one with its key opens as it was, once; what is opened was not had and is had then. Conditions: none beside those that each theorem names.
-/
namespace Go.Proofs.YtpfchphgbhgmmaaGreat
open Go.RowKit
theorem epOkB_iff {e : EpM} : epOkB e = true ↔ (0 ≤ e.n ∧ e.n ≤ 4294967295) ∧ e.key.length = 32 ∧ (0 ≤ e.seq ∧ e.seq ≤ 281474976710656) ∧ winOk e.win = true := by
  simp only [epOkB, Bool.and_eq_true, inB_iff, beq_iff_eq]
  constructor
  · rintro ⟨⟨⟨a, b⟩, c⟩, d⟩
    exact ⟨a, by omega, c, d⟩
  · rintro ⟨a, b, c, d⟩
    exact ⟨⟨⟨a, by omega⟩, c⟩, d⟩
theorem epSealC_zero {e : EpM} {x : Int} {sn : List UInt8} {kind : Int} {plain : List UInt8} (h : epSealC e x sn kind plain = 0) : epOkB e = true ∧ sealB e.key x sn e.n 0 kind plain = true ∧ e.seq ≠ 281474976710656 := by
  unfold epSealC at h
  split at h
  · rename_i h1
    simp only [epSealB, Bool.and_eq_true] at h1
    split at h
    · simp at h
    · split at h
      · simp at h
      · rename_i h3
        exact ⟨h1.1, h1.2, h3⟩
  · simp at h
theorem sealB_seqs {l : List UInt8} {x : Int} {sn : List UInt8} {epoch seq kind : Int} {plain : List UInt8} (h : sealB l x sn epoch 0 kind plain = true) (h0 : 0 ≤ seq) (h1 : seq ≤ 281474976710655) : sealB l x sn epoch seq kind plain = true := by
  simp only [sealB, Bool.and_eq_true, beq_iff_eq] at h ⊢
  obtain ⟨a, b, c, d⟩ := h
  refine ⟨a, b, c, ?_⟩
  simp only [frOk, frOkN, sealF, c, ↓reduceIte, Bool.and_eq_true] at d ⊢
  obtain ⟨⟨⟨d1, -⟩, d3⟩, d4⟩ := d
  exact ⟨⟨⟨d1, inB_t h0 h1⟩, d3⟩, d4⟩
theorem openC0 {e : EpM} {x : Int} {F : FrameM} (h1 : epOkB e = true) (h2 : (tagInM x F).length ≠ 0) (h3 : F.epoch = e.n) (h4 : winMay e.win F.seq = true) (h5 : unsealB e.key x F = true) : epOpenC e x F = 0 := by
  unfold epOpenC
  rw [if_pos ⟨h1, h2, h3⟩, if_pos h4, if_pos h5]
theorem openC3 {e : EpM} {x : Int} {F : FrameM} (h1 : epOkB e = true) (h2 : (tagInM x F).length ≠ 0) (h3 : F.epoch = e.n) (h4 : winMay e.win F.seq = false) : epOpenC e x F = 3 := by
  unfold epOpenC
  rw [if_pos ⟨h1, h2, h3⟩, if_neg (by rw [h4]; decide)]
/-- what is sealed in an epoch and what a new one with its key makes of it -/
structure OpensOk (e : EpM) (x : Int) (kind : Int) (sn plain : List UInt8) (F : FrameM) (y : EpM) : Prop where
  fe : epSealF e x sn kind plain = F
  seq : F.seq = e.seq
  xs : (epSealE e x sn kind plain).seq = e.seq + 1
  xw : (epSealE e x sn kind plain).win = e.win
  xok : epOkB (epSealE e x sn kind plain) = true
  c1 : epOpenC (epNewM e.n e.key) x F = 0
  p1 : epOpenP (epNewM e.n e.key) x F = plain
  ye : epOpenE (epNewM e.n e.key) x F = y
  c2 : epOpenC y x F = 3
  z : epOpenE y x F = y
  yok : epOkB y = true
  has : winHas y.win F.seq = true
  lo : 0 ≤ e.seq
  hi : e.seq ≤ 281474976710655
theorem opensOk {e : EpM} {x : Int} {sn : List UInt8} {kind : Int} {plain : List UInt8} (h : epSealC e x sn kind plain = 0) : ∃ F y, OpensOk e x kind sn plain F y := by
  obtain ⟨h1, h2, h3⟩ := epSealC_zero h
  obtain ⟨hn, hk, hs, hw⟩ := epOkB_iff.1 h1
  have hs1 : e.seq ≤ 281474976710655 := by omega
  have hx : epSealE e x sn kind plain = { e with seq := e.seq + 1 } := by rw [epSealE, if_pos h]
  obtain ⟨M, T, K⟩ := sealOk (sealB_seqs h2 hs.1 (by omega))
  have ho : epNewM e.n e.key = ⟨e.n, e.key, 0, winNew⟩ := by
    unfold epNewM
    rw [if_pos (by simp only [Bool.and_eq_true, inB_iff, beq_iff_eq]; omega)]
  have hm : winMay winNew e.seq = true := winMay_iff.2 ⟨winNew_ok, ⟨hs.1, by omega⟩, .inl (by show (-1 : Int) < e.seq; omega)⟩
  have ht : (tagInM x (sealF kind sn e.n e.seq M T)).length ≠ 0 := by
    rw [tagIn_pos K.role K.sealed K.ok]
    simp
  have hz : (0 : Int) ≤ 0 ∧ (0 : Int) ≤ 281474976710656 := ⟨by decide, by decide⟩
  have hok : epOkB ⟨e.n, e.key, 0, winNew⟩ = true := epOkB_iff.2 ⟨hn, hk, hz, winNew_ok⟩
  obtain ⟨W, hW⟩ : ∃ W, W = winAddM winNew e.seq := ⟨_, rfl⟩
  have hwo : winOk W = true := by rw [hW]; exact winAdd_ok hm
  have hwh : winHas W e.seq = true := by rw [hW]; exact bent_has hm
  have hwm : winMay W e.seq = false := by rw [hW]; exact bent_may hm
  have oky : epOkB ⟨e.n, e.key, 0, W⟩ = true := epOkB_iff.2 ⟨hn, hk, hz, hwo⟩
  obtain ⟨F, hF⟩ : ∃ F, F = sealF kind sn e.n e.seq M T := ⟨_, rfl⟩
  have hFn : F.epoch = e.n := by rw [hF]; rfl
  have hFs : F.seq = e.seq := by rw [hF]; rfl
  have hu := K.unseal
  rw [← hF] at ht hu
  have c1 : epOpenC ⟨e.n, e.key, 0, winNew⟩ x F = 0 := openC0 hok ht hFn (by rw [hFs]; exact hm) hu.1
  have c2 : epOpenC ⟨e.n, e.key, 0, W⟩ x F = 3 := openC3 oky ht hFn (by rw [hFs]; exact hwm)
  refine ⟨F, ⟨e.n, e.key, 0, W⟩, ⟨by rw [epSealF, if_pos h, K.eq, hF], hFs, by rw [hx], by rw [hx], ?_, by rw [ho]; exact c1, ?_, ?_, c2, ?_, oky, by rw [hFs]; exact hwh, hs.1, hs1⟩⟩
  · rw [hx]
    exact epOkB_iff.2 ⟨hn, hk, by simp only; omega, hw⟩
  · rw [ho, epOpenP, if_pos c1]
    exact hu.2
  · rw [ho, epOpenE, if_pos c1, hFs, hW]
  · rw [epOpenE, if_neg (by rw [c2]; decide)]
/-- what is refused leaves all as it was; what is opened was not had and is had then -/
theorem open_no {e : EpM} {x : Int} {F : FrameM} (h : epOpenC e x F ≠ 0) : epOpenE e x F = e ∧ epOpenP e x F = [] := ⟨by rw [epOpenE, if_neg h], by rw [epOpenP, if_neg h]⟩
theorem open_yes {e : EpM} {x : Int} {F : FrameM} (h : epOpenC e x F = 0) : epOkB (epOpenE e x F) = true ∧ winHas (epOpenE e x F).win F.seq = true ∧ winHas e.win F.seq = false ∧ (epOpenE e x F).seq = e.seq ∧ (epOpenE e x F).key = e.key ∧ (epOpenE e x F).n = e.n := by
  have hx : epOpenE e x F = { e with win := winAddM e.win F.seq } := by rw [epOpenE, if_pos h]
  rw [hx]
  unfold epOpenC at h
  split at h
  · rename_i h1
    split at h
    · rename_i hm
      obtain ⟨hn, hk, hs, hw⟩ := epOkB_iff.1 h1.1
      exact ⟨epOkB_iff.2 ⟨hn, hk, hs, winAdd_ok hm⟩, bent_has hm, bent_not hm, rfl, rfl, rfl⟩
    · simp at h
  · simp at h
end Go.Proofs.YtpfchphgbhgmmaaGreat

/-
  FnOpensBent returns true for every code. Conditions: none.
-/
namespace Go.Proofs.YtpfchphgbhgmmaaGreat.lOpensBent
open Go.ChangeShapes Go.WideShapes Go.ChangeAt Go.RowKit
theorem ep_rds {w : World} {n s t : Int} {a k : Option Addr} {m c d b : Nat} {f : EpM} (h : EpR w (.agg #[.int .i64 n, .slice a m c, .int .i64 s, .int .i64 t, .slice k d b]) f) : Rd w a m c (bys f.key) ∧ Rd w k d b (ins f.win.bits) := by
  obtain ⟨_, _, _, _, _, _, ef, r1, r2⟩ := h
  cases ef
  exact ⟨r1, r2⟩
theorem ep_win {w : World} {n s t : Int} {a k : Option Addr} {m c d b : Nat} {f : EpM} (h : EpR w (.agg #[.int .i64 n, .slice a m c, .int .i64 s, .int .i64 t, .slice k d b]) f) : WinR w (.agg #[.int .i64 t, .slice k d b]) f.win := by
  obtain ⟨_, _, _, _, _, _, ef, r1, r2⟩ := h
  cases ef
  exact ⟨_, _, _, rfl, r2⟩
set_option maxRecDepth 1000000 in
set_option maxHeartbeats 8000000 in
theorem walk (w : World) (v0 : Value) (h0 : InBytes w v0) : Calls Tryz.prog 4 #[v0] w fun e w' => e = .returned (.bool true) ∧ Below w.heap.size w w' := by
  obtain ⟨a, n, c, l, rfl, r, hC⟩ := h0
  rcases Nat.lt_or_ge 1048576 n with p | p
  · go_enter Tryz.func4, Tryz.ntmps4
    go_wp2_with (go_at_call 5; refine (laws_big a n c _).mono ?_; rw [decide_eq_true p]; rintro e w0 ⟨rfl, rfl⟩)
    go_ret
    exact ⟨rfl, Below.refl _ _⟩
  go_enter Tryz.func4, Tryz.ntmps4
  go_wp2_with (first
    | (go_at_call 5; refine (laws_big a n c _).mono ?_; rw [decide_eq_false (by omega)]; rintro e w0 ⟨rfl, rfl⟩) | (go_at_call 17; refine (be.spec_DrawEpOpen a n c l _ r p).mono ?_; rintro e w1 ⟨en, a1, n1, c1, es, et, a7, n7, c7, role, v, F, rfl, ⟨l1, r1, -, s1⟩, ⟨l7, r7, -, s7⟩, RF, G⟩; clear r; obtain ⟨d1, m1, q1, d2, m2, q2, d3, m3, q3, d4, m4, q4, d5, m5, q5, d6, m6, q6, rfl⟩ := RF.shape; have e1 := Lib.hid r1.blen; have e7 := Lib.hid r7.ilen))
  have b1 : l1.length ≤ 1048576 := by have := e1.out; omega
  have b7 : l7.length ≤ 1048576 := by have := e7.out; omega
  have gE := gb_alloc (gb_alloc (gb_refl w1) (.cells #[.int .i64 en, .slice a1 n1 c1, .int .i64 es, .int .i64 et, .slice a7 n7 c7] 28)) (.cells #[.int .i64 F.kind, .int .i64 F.id, .slice d1 m1 q1, .slice d2 m2 q2, .int .i64 F.tick, .slice d3 m3 q3, .slice d4 m4 q4, .int .i64 F.epoch, .int .i64 F.seq, .slice d5 m5 q5, .slice d6 m6 q6] 32)
  obtain ⟨Be, Bf⟩ := bx2 w1 #[.int .i64 en, .slice a1 n1 c1, .int .i64 es, .int .i64 et, .slice a7 n7 c7] #[.int .i64 F.kind, .int .i64 F.id, .slice d1 m1 q1, .slice d2 m2 q2, .int .i64 F.tick, .slice d3 m3 q3, .slice d4 m4 q4, .int .i64 F.epoch, .int .i64 F.seq, .slice d5 m5 q5, .slice d6 m6 q6] 28 32
  have re : EpR w1 (.agg #[.int .i64 en, .slice a1 n1 c1, .int .i64 es, .int .i64 et, .slice a7 n7 c7]) (⟨en, l1, es, ⟨et, l7⟩⟩ : EpM) := ⟨_, _, _, _, _, _, rfl, r1, r7⟩
  obtain ⟨C, hCC⟩ : ∃ C, Hid (epOpenC (⟨en, l1, es, ⟨et, l7⟩⟩ : EpM) role F = C) := ⟨_, rfl⟩
  obtain ⟨Y, hY⟩ : ∃ Y, Hid (epOpenE (⟨en, l1, es, ⟨et, l7⟩⟩ : EpM) role F = Y) := ⟨_, rfl⟩
  obtain ⟨P, hP⟩ : ∃ P, Hid (epOpenP (⟨en, l1, es, ⟨et, l7⟩⟩ : EpM) role F = P) := ⟨_, rfl⟩
  replace re := re.keep0 gE
  replace RF := RF.keep0 gE
  refine (impl_EpOpen _ (⟨en, l1, es, ⟨et, l7⟩⟩ : EpM) role _ F _ re RF b1 b7).mono ?_
  rw [hCC.out, hY.out, hP.out]
  rintro e w2 ⟨M2, v1, a8, n8, c8, rfl, -, -, o1, o8, g2⟩
  have R1 := o1.r
  have R8 := o8.rd
  have gP := gb_trans gE g2
  replace Be := Be.keep0 g2
  replace Bf := Bf.keep0 g2
  replace re := re.keep0 g2
  replace RF := RF.keep0 g2
  have ke := fun o => Be.cell o
  have le := Be.lt
  have kf := fun o => Bf.cell o
  have lf := Bf.lt
  clear gE g2 o8
  by_cases hc : C = 0
  rotate_left
  · obtain ⟨hn1, hn2⟩ := open_no (e := (⟨en, l1, es, ⟨et, l7⟩⟩ : EpM)) (x := role) (F := F) (by rw [hCC.out]; exact hc)
    rw [hY.out] at hn1
    rw [hP.out] at hn2
    subst hn1
    subst hn2
    obtain ⟨x1, y1, z1, x7, y7, z7, rfl, -⟩ := o1.r
    clear o1
    obtain rfl : n8 = 0 := by have := R8.blen; simpa using this.symm
    have gX := gb_alloc (gb_refl w2) (.cells #[.int .i64 en, .slice x1 y1 z1, .int .i64 es, .int .i64 et, .slice x7 y7 z7] 28)
    have Bx2 := Bx.new w2 28 #[.int .i64 en, .slice x1 y1 z1, .int .i64 es, .int .i64 et, .slice x7 y7 z7]
    go_wp2_with fail
    refine (spec_EpOpen _ (⟨en, l1, es, ⟨et, l7⟩⟩ : EpM) role _ F _ (re.keep0 gX) (RF.keep0 gX) b1 b7).mono ?_
    rw [hCC.out, hY.out, hP.out]
    rintro e w3 ⟨M3, v3, a9, n9, c9, rfl, -, -, o3, o9, g3⟩
    have R9 := o9.rd
    obtain ⟨t1, t2, t3, t7, t8, t9, rfl, -⟩ := o3.r
    clear o3 o9 ke le kf lf
    have gZ := gb_alloc (gb_refl w3) (.cells #[.int .i64 ((⟨en, l1, es, ⟨et, l7⟩⟩ : EpM)).n, .slice t1 t2 t3, .int .i64 ((⟨en, l1, es, ⟨et, l7⟩⟩ : EpM)).seq, .int .i64 ((⟨en, l1, es, ⟨et, l7⟩⟩ : EpM)).win.top, .slice t7 t8 t9] 28)
    simp only at gZ ⊢
    have gY := gb_trans gX (gb_trans g3 gZ)
    replace Be := Be.keep0 gY
    replace Bf := Bf.keep0 gY
    replace Bx2 := Bx2.keep0 (gb_trans g3 gZ)
    replace R1 := R1.keep0 gY
    replace R8 := R8.keep0 gY
    replace R9 := R9.keep0 gZ
    replace re := re.keep0 gY
    replace RF := RF.keep0 gY
    replace gP := gb_trans gP gY
    have ke := fun o => Be.cell o
    have le := Be.lt
    have kf := fun o => Bf.cell o
    have lf := Bf.lt
    have kx := fun o => Bx2.cell o
    have lx := Bx2.lt
    clear gX gY gZ g3
    go_wp2_with (go_at_call 14; refine (laws_same_t _ _ _ _ _ _ _ _ R8 R9).mono ?_; rintro e w' ⟨rfl, rfl⟩; clear R8 R9)
    go_wp2_with (go_at_call 9; refine (laws_sameEp_t _ _ (⟨en, l1, es, ⟨et, l7⟩⟩ : EpM) _ R1 re (Nat.le_trans b7 (by decide))).mono ?_; rintro e w8 ⟨rfl, g8⟩; (replace Be := Be.keep0 g8); (replace Bf := Bf.keep0 g8); (replace Bx2 := Bx2.keep0 g8); (replace R1 := R1.keep0 g8); (replace re := re.keep0 g8); (replace RF := RF.keep0 g8); (replace gP := gb_trans gP g8); clear ke le kf lf kx lx g8; have ke := fun o => Be.cell o; have le := Be.lt; have kf := fun o => Bf.cell o; have lf := Bf.lt; have kx := fun o => Bx2.cell o; have lx := Bx2.lt)
    go_ret
    exact ⟨rfl, gb_below (gb_trans G gP)⟩
  · subst hc
    obtain ⟨j1, j2, j3, j4, j5, j6⟩ := open_yes hCC.out
    have hT := epOpenE_tot (⟨en, l1, es, ⟨et, l7⟩⟩ : EpM) role F
    rw [hY.out] at j1 j2 j4 j5 j6 hT
    obtain ⟨yn, yk, ys, ⟨yt, yb⟩⟩ := Y
    simp only at j1 j2 j3 j4 j5 j6
    have j7 := j6.symm
    subst j7
    have j8 := j5.symm
    subst j8
    have j9 := j4.symm
    subst j9
    clear j4 j5 j6
    obtain ⟨x1, y1, z1, x7, y7, z7, rfl, -⟩ := o1.r
    clear o1
    replace j1 := Lib.hid j1
    replace j2 := Lib.hid j2
    replace j3 := Lib.hid j3
    have b9 : yb.length ≤ 1048576 := by
      simp only [EpM.tot] at hT
      omega
    clear hT
    simp only at R1 ⊢
    have gX := gb_alloc (gb_refl w2) (.cells #[.int .i64 en, .slice x1 y1 z1, .int .i64 es, .int .i64 yt, .slice x7 y7 z7] 28)
    have Bx2 := Bx.new w2 28 #[.int .i64 en, .slice x1 y1 z1, .int .i64 es, .int .i64 yt, .slice x7 y7 z7]
    go_wp2_with fail
    refine (spec_EpOpen _ (⟨en, l1, es, ⟨et, l7⟩⟩ : EpM) role _ F _ (re.keep0 gX) (RF.keep0 gX) b1 b7).mono ?_
    rw [hCC.out, hY.out, hP.out]
    rintro e w3 ⟨M3, v3, a9, n9, c9, rfl, -, -, o3, o9, g3⟩
    have R9 := o9.rd
    obtain ⟨t1, t2, t3, t7, t8, t9, rfl, -⟩ := o3.r
    clear o3 o9 ke le kf lf
    have gZ := gb_alloc (gb_refl w3) (.cells #[.int .i64 ((⟨en, l1, es, ⟨yt, yb⟩⟩ : EpM)).n, .slice t1 t2 t3, .int .i64 ((⟨en, l1, es, ⟨yt, yb⟩⟩ : EpM)).seq, .int .i64 ((⟨en, l1, es, ⟨yt, yb⟩⟩ : EpM)).win.top, .slice t7 t8 t9] 28)
    simp only at gZ ⊢
    have gY := gb_trans gX (gb_trans g3 gZ)
    replace Be := Be.keep0 gY
    replace Bf := Bf.keep0 gY
    replace Bx2 := Bx2.keep0 (gb_trans g3 gZ)
    replace R1 := R1.keep0 gY
    replace R8 := R8.keep0 gY
    replace R9 := R9.keep0 gZ
    replace re := re.keep0 gY
    replace RF := RF.keep0 gY
    replace gP := gb_trans gP gY
    have ke := fun o => Be.cell o
    have le := Be.lt
    have kf := fun o => Bf.cell o
    have lf := Bf.lt
    have kx := fun o => Bx2.cell o
    have lx := Bx2.lt
    clear gX gY gZ g3
    go_wp2_with (go_at_call 14; refine (laws_same_t _ _ _ _ _ _ _ _ R8 R9).mono ?_; rintro e w' ⟨rfl, rfl⟩; clear R8 R9)
    go_wp2_with (first
      | (go_at_call 15; (with_reducible refine (impl_EpOk (.agg #[.int .i64 en, .slice x1 y1 z1, .int .i64 es, .int .i64 yt, .slice x7 y7 z7]) (⟨en, l1, es, ⟨yt, yb⟩⟩ : EpM) _ R1 (Nat.le_trans b9 (by decide))).mono ?_); rw [j1.out]; rintro e w8 ⟨rfl, g8⟩; (replace Be := Be.keep0 g8); (replace Bf := Bf.keep0 g8); (replace Bx2 := Bx2.keep0 g8); (replace R1 := R1.keep0 g8); (replace re := re.keep0 g8); (replace RF := RF.keep0 g8); (replace gP := gb_trans gP g8); clear ke le kf lf kx lx g8; have ke := fun o => Be.cell o; have le := Be.lt; have kf := fun o => Bf.cell o; have lf := Bf.lt; have kx := fun o => Bx2.cell o; have lx := Bx2.lt)
      | (go_at_call 16; (with_reducible refine (impl_WinHas (.agg #[.int .i64 yt, .slice x7 y7 z7]) ⟨yt, yb⟩ F.seq _ (ep_win R1) (Nat.le_trans b9 (by decide))).mono ?_); rw [j2.out]; rintro e w8 ⟨rfl, g8⟩; (replace Be := Be.keep0 g8); (replace Bf := Bf.keep0 g8); (replace Bx2 := Bx2.keep0 g8); (replace R1 := R1.keep0 g8); (replace re := re.keep0 g8); (replace RF := RF.keep0 g8); (replace gP := gb_trans gP g8); clear ke le kf lf kx lx g8; have ke := fun o => Be.cell o; have le := Be.lt; have kf := fun o => Bf.cell o; have lf := Bf.lt; have kx := fun o => Bx2.cell o; have lx := Bx2.lt)
      | (go_at_call 16; (with_reducible refine (impl_WinHas (.agg #[.int .i64 et, .slice a7 n7 c7]) ⟨et, l7⟩ F.seq _ (ep_win re) (Nat.le_trans b7 (by decide))).mono ?_); rw [j3.out]; rintro e w8 ⟨rfl, g8⟩; (replace Be := Be.keep0 g8); (replace Bf := Bf.keep0 g8); (replace Bx2 := Bx2.keep0 g8); (replace R1 := R1.keep0 g8); (replace re := re.keep0 g8); (replace RF := RF.keep0 g8); (replace gP := gb_trans gP g8); clear ke le kf lf kx lx g8; have ke := fun o => Be.cell o; have le := Be.lt; have kf := fun o => Bf.cell o; have lf := Bf.lt; have kx := fun o => Bx2.cell o; have lx := Bx2.lt)
      | (go_at_call 14; refine (laws_same_t _ _ _ _ _ _ l1 _ (ep_rds R1).1 (ep_rds re).1).mono ?_; rintro e w' ⟨rfl, rfl⟩))
    go_ret
    exact ⟨rfl, gb_below (gb_trans G gP)⟩
set_option maxRecDepth 100000 in
theorem lifted (os : Os) (started : os.Started) (H : Type) (enc : TypeId × Value → H) :
    ReturnsInHanded {} Tryz.checked os 4 .any (Rows.fnOpensBentSpec.pre6 enc Tryz.prog Tryz.f4 Rows.fnOpensBentRow.domain false) (Rows.fnOpensBentSpec.post enc Tryz.prog Tryz.f4 false true false false) := by
  refine returnsInHanded_of_change (C := Tryz.checked) own started (by kernel_rfl) Tryz.func4
    (ChangeSpec.witness6 (enc := enc) (C := Tryz.checked) false ⟨#[], #[.slice none 0 0], []⟩ 8 (by kernel_rfl) (by kernel_rfl) (by kernel_rfl) (by kernel_rfl)) ?_
  intro W base args ds gs before hval0 hW _ _
  have hval : ∀ (j : Nat) t v, Tryz.f4.params[j]? = some t → args[j]? = some v → Value.okWide Tryz.prog W .any base t v := hval0
  have hW2 := hW
  obtain ⟨p, q, hA0, hV, hps, _, _⟩ := hW
  have hA : DataW.TrodAll enc Tryz.prog W 0 (fun _ => true) true Tryz.f4.params.toList args.toList ds p := hA0
  rw [Tryz.params4] at hA hval
  obtain ⟨rfl, rfl⟩ := trodVars_none hV
  obtain ⟨v0, vs0, d0, ds0, p0, q0, hargs, rfl, rfl, h0, r0⟩ := trodAll_cons hA
  obtain ⟨rfl, rfl, rfl⟩ := trodAll_nil r0
  obtain rfl : args = #[v0] := by cases args; simp_all
  have i0 := open_B (hval 0 22 v0 rfl rfl) h0
  clear hA0 hval0
  refine (walk W v0 i0).mono fun e W2 ⟨he, hb⟩ => ?_
  subst he
  exact ⟨_, rfl, law_post (tb := 4) laidOut (by kernel_rfl) (by kernel_rfl) Tryz.underlying4 rfl ⟨rfl, rfl, rfl⟩ hW2 hb⟩
theorem over : Rows.fnOpensBentRow.holds Tryz.pinned (OpenSpec.ofChange Rows.fnOpensBentSpec) :=
  OpenClaim.holds_of_wide 4 Tryz.f4 rfl rfl rfl rfl rfl rfl rfl ⟨rfl, rfl, rfl, rfl, rfl⟩ rfl rfl rfl rfl rfl (by kernel_rfl) Tryz.func4 (by kernel_rfl)
    (of_decide_eq_true (by kernel_rfl)) (by unfold Func.isWrapper; first | (rw [if_pos (by decide +kernel)]; kernel_rfl) | (rw [if_neg (by decide +kernel)]; exact ⟨rfl, rfl⟩))
    (fun os started H enc _ => lifted os started H enc)
theorem proved : Rows.FnOpensBentSaid :=
  over
#print axioms proved
end Go.Proofs.YtpfchphgbhgmmaaGreat.lOpensBent

