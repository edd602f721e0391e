/-
  Plain facts on a law's frame: a call that answers true and writes only new memory gives the row; a slice of bytes or of integers that came in reads as a list. Conditions: none beside those that each theorem names.
-/
import Derived.Test.YtpfchphgbhgmmaaBase
import Derived.Test.YtpfchphgbhgmmaaHelp
import Derived.Test.YtpfchphgbhgmmaaHelpS
import Derived.OpenShut
namespace Go.Proofs.Ytpfchphgbhgmmaa
open Go.RowKit Go.ChangeShapes Go.WideShapes Go.ChangeAt

section
variable {P : Program} {H : Type} {enc : TypeId × Value → H}

def readable (P : Program) (ts : List TypeId) : Bool := ts.all fun t => P.readableRec t && decide (t < P.types.size)

theorem trodAll_below (hl : laidOutB P = true) {W W' : World} (hb : Below W.heap.size W W') : ∀ (ts : List TypeId) (vs : List Value) (ds : List (DataW H)) (ps : List MemPlace), readable P ts = true →
    DataW.TrodAll enc P W 0 (fun _ => true) true ts vs ds ps → (∀ x ∈ ps, x.block < W.heap.size) → DataW.TrodAll enc P W' 0 (fun b => decide (b < W.heap.size)) true ts vs ds ps
  | [], [], [], ps, _, h, _ => h
  | t :: ts, v :: vs, d :: ds, ps, hr, h, hlt => by
    obtain ⟨p, q, h1, h2, rfl⟩ := h
    simp only [readable, List.all_cons, Bool.and_eq_true, decide_eq_true_eq] at hr
    exact ⟨p, q, Below.trod hl hr.1.1 hr.1.2 h1 hb (fun x hx => hlt x (by simp [hx])), trodAll_below hl hb ts vs ds q (by simpa [readable] using hr.2) h2 (fun x hx => hlt x (by simp [hx])), rfl⟩
  | [], [], _ :: _, _, _, h, _ => h.elim
  | [], _ :: _, _, _, _, h, _ => h.elim
  | _ :: _, [], _, _, _, h, _ => h.elim
  | _ :: _, _ :: _, [], _, _, h, _ => h.elim

/-- THE ROW's POST, out of a call that returns true and turns nothing that was there. -/
theorem law_post {f : Func} {s : ChangeSpec} {W W' : World} {args : Array Value} {ds gs : List (DataW H)} {before : List MemPlace} {tb : TypeId}
    (hl : laidOutB P = true) (hr : readable P f.params.toList = true) (hres : f.resultTypes = #[tb]) (htb : P.underlying tb = some .bool) (hv0 : s.vars = [])
    (hs : (s.fn H (ds ++ gs)).results = [.lit (.bool true)] ∧ (s.fn H (ds ++ gs)).args = ds ∧ (s.fn H (ds ++ gs)).vars = [])
    (hW : DataW.Whole enc P f.params.toList s.vars false W args.toList ds gs before) (hb : Below W.heap.size W W') :
    s.post enc P f false true false false W args (.bool true) W' := by
  have hlt := hW.lt
  have hW' := hW
  obtain ⟨p, q, hA, hV, rfl, _, _⟩ := hW
  rw [hv0] at hV
  obtain ⟨rfl, rfl⟩ := trodVars_none hV
  obtain ⟨h1, h2, h3⟩ := hs
  refine ⟨ds, [], _, [], p, [], hW', ?_, ?_, ?_, World.keptBut_mono (fun _ h => h) (hb.frame _), fun h => by cases h⟩
  · rw [h1, hres]
    exact trodAll_cons_mk (shut_bool htb true) trodAll_mk0
  · rw [h2]
    exact trodAll_below hl hb _ _ _ _ hr hA (fun x hx => hlt x (by simp [hx]))
  · rw [h3, hv0]
    exact rfl

/-- a byte, out of a number that is one -/
theorem u8_of_int (z : Int) (h : (Lit.int .u8 z).wf = true) : ((UInt8.ofNat z.toNat).toNat : Int) = z := by
  have hb : 0 ≤ z ∧ z ≤ 255 := by simpa [Lit.wf, IntKind.min, IntKind.max, IntKind.signed, IntKind.bits] using h
  rw [UInt8.toNat_ofNat']
  omega

theorem no_spot {W : World} {b o s : Nat} {u : Value} (h : W.cell? ((⟨b, o, some s⟩ : Addr).add 0) = some u) : False := by
  simp [World.cell?, Addr.add] at h
  split at h <;> simp_all

/-- a slice of bytes that came in -/
theorem open_bytes {W : World} {t e : TypeId} {fuel : Nat} {v : Value} {x : DataW H × List MemPlace} (ht : P.underlying t = some (.slice e)) (he : P.underlying e = some (.int .u8)) (hc : P.cellsOf e = 1)
    (h : DataW.trod enc P W 0 (fun _ => true) true fuel t [v] = some x) : ∃ a n c, ∃ l : List UInt8, v = .slice a n c ∧ Rd W a n c (bys l) ∧ c ≤ maxLen := by
  rcases open_ints ht he hc h with ⟨hv, _⟩ | ⟨a, len, cap, zs, hv, _, hl, hm, hz, _, hcell, hwf⟩
  · exact ⟨none, 0, 0, [], by simpa using hv, Rd.nil W none 0, by simp [maxLen]⟩
  · simp only [if_true] at hz
    refine ⟨some a, len, cap, (zs.take len).map fun z => UInt8.ofNat z.toNat, by simpa using hv, ⟨by simp [bys]; omega, hl, fun j hj => ?_⟩, hm⟩
    have h0 := hcell j (by omega)
    obtain ⟨b, o, sp⟩ := a
    cases sp with
    | some s => exact (no_spot (hcell 0 (by omega))).elim
    | none =>
      refine ⟨b, o, rfl, ?_⟩
      rw [Addr.add_lit] at h0
      rw [h0]
      have hj2 : j < zs.length := by omega
      simp only [bys, List.map_map, List.getElem?_map, List.getElem?_take, if_pos hj, List.getElem?_eq_getElem hj2, Option.map_some, Function.comp, List.getD_eq_getElem?_getD, Option.getD_some]
      rw [u8_of_int _ (hwf _ (List.getElem_mem hj2))]

/-- a slice of integers that came in -/
theorem open_is {W : World} {t e : TypeId} {fuel : Nat} {v : Value} {x : DataW H × List MemPlace} (ht : P.underlying t = some (.slice e)) (he : P.underlying e = some (.int .i64)) (hc : P.cellsOf e = 1)
    (h : DataW.trod enc P W 0 (fun _ => true) true fuel t [v] = some x) : ∃ a n c, ∃ l : List Int, v = .slice a n c ∧ Rd W a n c (ins l) ∧ c ≤ maxLen ∧ ∀ z ∈ l, -9223372036854775808 ≤ z ∧ z ≤ 9223372036854775807 := by
  rcases open_ints ht he hc h with ⟨hv, _⟩ | ⟨a, len, cap, zs, hv, _, hl, hm, hz, _, hcell, hwf⟩
  · exact ⟨none, 0, 0, [], by simpa using hv, Rd.nil W none 0, by simp [maxLen], by simp⟩
  · simp only [if_true] at hz
    refine ⟨some a, len, cap, zs.take len, by simpa using hv, ⟨by simp [ins]; omega, hl, fun j hj => ?_⟩, hm, fun z hz2 => ?_⟩
    · have h0 := hcell j (by omega)
      obtain ⟨b, o, sp⟩ := a
      cases sp with
      | some s => exact (no_spot (hcell 0 (by omega))).elim
      | none =>
        refine ⟨b, o, rfl, ?_⟩
        rw [Addr.add_lit] at h0
        rw [h0]
        have hj2 : j < zs.length := by omega
        simp only [ins, List.getElem?_map, List.getElem?_take, if_pos hj, List.getElem?_eq_getElem hj2, Option.map_some, List.getD_eq_getElem?_getD, Option.getD_some]
    · have := hwf z (List.mem_of_mem_take hz2)
      simpa [Lit.wf, IntKind.min, IntKind.max, IntKind.signed, IntKind.bits] using this

/-- the cells of a value read as data of the type -/
def Trd (enc : TypeId × Value → H) (P : Program) (W : World) (t : TypeId) (cs : List Value) : Prop := ∃ fuel x, DataW.trod enc P W 0 (fun _ => true) true fuel t cs = some x

theorem Trd.parts {W : World} {t : TypeId} {fs : Array Field} {cs : List Value} (ht : P.underlying t = some (.struct fs)) (h : Trd enc P W t cs) :
    ∀ (i : Nat) (f : Field), fs[i]? = some f → Trd enc P W f.type ((cs.drop f.offset).take (P.cellsOf f.type)) := by
  obtain ⟨fuel, x, h⟩ := h
  obtain ⟨xs, n, _, _, _, hlen, hp⟩ := DataW.trod_struct ht h
  intro i f hf
  have hi : i < xs.length := by
    have := (Array.getElem?_eq_some_iff.1 hf).1
    omega
  exact ⟨n, xs[i], by rw [hp i f hf]; simp⟩

def InInt (v : Value) : Prop := ∃ x, v = .int .i64 x ∧ I64 x
def InBytes (w : World) (v : Value) : Prop := ∃ a n c, ∃ l : List UInt8, v = .slice a n c ∧ Rd w a n c (bys l) ∧ c ≤ maxLen
def InInts (w : World) (v : Value) : Prop := ∃ a n c, ∃ l : List Int, v = .slice a n c ∧ Rd w a n c (ins l) ∧ c ≤ maxLen ∧ ∀ z ∈ l, I64 z

theorem Trd.int {W : World} {t : TypeId} {v : Value} (ht : P.underlying t = some (.int .i64)) (h : Trd enc P W t [v]) : InInt v := by
  obtain ⟨fuel, x, h⟩ := h
  obtain ⟨n, hc, _, hw⟩ := DataW.trod_int ht h
  exact ⟨n, by simpa using hc, by simpa [I64, Lit.wf, IntKind.min, IntKind.max, IntKind.signed, IntKind.bits] using hw⟩
theorem Trd.bytes {W : World} {t e : TypeId} {v : Value} (ht : P.underlying t = some (.slice e)) (he : P.underlying e = some (.int .u8)) (hc : P.cellsOf e = 1) (h : Trd enc P W t [v]) : InBytes W v := by
  obtain ⟨fuel, x, h⟩ := h
  obtain ⟨a, n, c, l, h1, h2, h3⟩ := open_bytes ht he hc h
  exact ⟨a, n, c, l, h1, h2, h3⟩
theorem Trd.ints {W : World} {t e : TypeId} {v : Value} (ht : P.underlying t = some (.slice e)) (he : P.underlying e = some (.int .i64)) (hc : P.cellsOf e = 1) (h : Trd enc P W t [v]) : InInts W v := by
  obtain ⟨fuel, x, h⟩ := h
  obtain ⟨a, n, c, l, h1, h2, h3, h4⟩ := open_is ht he hc h
  exact ⟨a, n, c, l, h1, h2, h3, h4⟩
theorem trd_of {W : World} {t : TypeId} {v : Value} {d : DataW H} {ps : List MemPlace} (h : DataW.Trod enc P W 0 (fun _ => true) true t v d ps) : Trd enc P W t v.cells.toList := by
  obtain ⟨fuel, h⟩ := h
  exact ⟨fuel, _, h⟩
theorem okWide_i64 {W : World} {base : Nat} {t : TypeId} {v : Value} (ht : P.underlying t = some (.int .i64)) (hv : Value.okWide P W .any base t v) : v.cells.toList = [v] := by
  simp only [Value.okWide, ht, Cell.okWide] at hv
  cases v <;> simp_all [Cell.ok, Value.cells]
theorem okWide_sl {W : World} {base : Nat} {t e : TypeId} {v : Value} (ht : P.underlying t = some (.slice e)) (hv : Value.okWide P W .any base t v) : v.cells.toList = [v] := by
  obtain ⟨a, n, c, rfl⟩ := okWide_slice ht hv
  rfl

end

theorem cells_int : Try.prog.cellsOf 3 = 1 := by kernel_rfl
theorem cells_u8 : Try.prog.cellsOf 5 = 1 := by kernel_rfl
theorem cells_bs : Try.prog.cellsOf 22 = 1 := by kernel_rfl
theorem cells_is : Try.prog.cellsOf 37 = 1 := by kernel_rfl
set_option maxRecDepth 1000000 in
theorem laidOut : laidOutB Try.prog = true := by kernel_rfl
theorem own : ownKnob Try.prog.godebug = none := by kernel_rfl

section
variable {H : Type} {enc : TypeId × Value → H} {W : World} {base : Nat} {v : Value} {d : DataW H} {ps : List MemPlace}
set_option maxRecDepth 1000000 in
theorem open_I (hv : Value.okWide Try.prog W .any base 3 v) (h : DataW.Trod enc Try.prog W 0 (fun _ => true) true 3 v d ps) : InInt v := by
  have := trd_of h
  rw [okWide_i64 Try.underlying3 hv] at this
  exact this.int Try.underlying3
set_option maxRecDepth 1000000 in
theorem open_B (hv : Value.okWide Try.prog W .any base 22 v) (h : DataW.Trod enc Try.prog W 0 (fun _ => true) true 22 v d ps) : InBytes W v := by
  have := trd_of h
  rw [okWide_sl Try.underlying22 hv] at this
  exact this.bytes Try.underlying22 Try.underlying5 cells_u8
set_option maxRecDepth 1000000 in
theorem open_Z (hv : Value.okWide Try.prog W .any base 37 v) (h : DataW.Trod enc Try.prog W 0 (fun _ => true) true 37 v d ps) : InInts W v := by
  have := trd_of h
  rw [okWide_sl Try.underlying37 hv] at this
  exact this.ints Try.underlying37 Try.underlying3 cells_int
end
end Go.Proofs.Ytpfchphgbhgmmaa
