/-
  No cell of these rows narrows 'for every input' (looked for: loops, veiled, ifaces, maps, wideKeys, modest, calm, conditions, laid).
  DERIVED. THE GIVEN ROWS OF THIS SEAT. 7 by the template 'for every input the law returns true; each argument reads behind the call as it read before'; 0 by the template 'total and deterministic' (their statements: YtpkjlhooiaedmaaTotals.lean).
  GIVEN WITH THE SEED: the statements are not yours to turn. If you find one false, say at which input.
  Laid BY PROGRAM, IN A SANDBOX (cutbox-rows.mjs): the forced cells as the released guide's own fill.sh prints them over the translation 0aa57b2175764f53… (all of the seat's roots in one cut). By AI agents, Wed Nov 11 2026. No macro, syntax, notation, axiom, sorry.
-/
import Derived.Test.YtpkjlhooiaedmaaChecked
import GoSem.Claim
import GoSem.ClaimJoined
import GoSem.ClaimMapViews
import Derived.JoinedTies
import Derived.KernelRfl
namespace Go.Proofs.Ytpkjlhooiaedmaa
/- THE CELL 'sum', in the pinned program and in every row, IS THE sha256 OF THE DUMP (.gsa) THAT YtpkjlhooiaedmaaProg.lean LOADS. Nothing in Lean hashes anything: it is a label: what it is worth is what the hold of that sum in a sandbox is worth. -/
noncomputable def Try.pinned : Pinned := { name := "ytpkjlhooiaedmaa", sum := "0aa57b2175764f538a7deeea64e1460fa823749dcbcef8b22e1dbcc21c766bd5", checked := Try.checked }
namespace Rows
def none {H : Type} : Left H := { results := [], args := [] }

/-- 'laws.FnKinds': WHATEVER THE INPUT: true; the input reads as it did. -/
def fnKindsSpec : ChangeSpec := { name := "fnKinds", fn := fun _ => fun
  | [d] => { results := [.lit (.bool true)], args := [d] }
  | _ => none }
def fnKindsRow : OpenClaim := { program := "ytpkjlhooiaedmaa", sum := "0aa57b2175764f538a7deeea64e1460fa823749dcbcef8b22e1dbcc21c766bd5", func := "loop.example/g00478/laws.FnKinds", spec := "fnKinds", apart := false }
def FnKindsSaid : Prop := fnKindsRow.holds Try.pinned (OpenSpec.ofChange fnKindsSpec)

/-- ITS FALSE NEIGHBOUR: 'it returns false'. Refute it at one input. -/
def fnKindsWrong : ChangeSpec := { name := "fnKinds", fn := fun _ => fun
  | [d] => { results := [.lit (.bool false)], args := [d] }
  | _ => none }
def FnKindsWrongFalsely : Prop := fnKindsRow.holds Try.pinned (OpenSpec.ofChange fnKindsWrong)

/-- 'laws.FnExactProofBody': WHATEVER THE INPUT: true; the input reads as it did. -/
def fnExactProofBodySpec : ChangeSpec := { name := "fnExactProofBody", fn := fun _ => fun
  | [d1, d2, d3, d4, d5] => { results := [.lit (.bool true)], args := [d1, d2, d3, d4, d5] }
  | _ => none }
def fnExactProofBodyRow : OpenClaim := { program := "ytpkjlhooiaedmaa", sum := "0aa57b2175764f538a7deeea64e1460fa823749dcbcef8b22e1dbcc21c766bd5", func := "loop.example/g00478/laws.FnExactProofBody", spec := "fnExactProofBody", apart := false }
def FnExactProofBodySaid : Prop := fnExactProofBodyRow.holds Try.pinned (OpenSpec.ofChange fnExactProofBodySpec)

/-- ITS FALSE NEIGHBOUR: 'it returns false'. Refute it at one input. -/
def fnExactProofBodyWrong : ChangeSpec := { name := "fnExactProofBody", fn := fun _ => fun
  | [d1, d2, d3, d4, d5] => { results := [.lit (.bool false)], args := [d1, d2, d3, d4, d5] }
  | _ => none }
def FnExactProofBodyWrongFalsely : Prop := fnExactProofBodyRow.holds Try.pinned (OpenSpec.ofChange fnExactProofBodyWrong)

/-- 'laws.FnExactHeadOf': WHATEVER THE INPUT: true; the input reads as it did. -/
def fnExactHeadOfSpec : ChangeSpec := { name := "fnExactHeadOf", fn := fun _ => fun
  | [d1, d2, d3, d4] => { results := [.lit (.bool true)], args := [d1, d2, d3, d4] }
  | _ => none }
def fnExactHeadOfRow : OpenClaim := { program := "ytpkjlhooiaedmaa", sum := "0aa57b2175764f538a7deeea64e1460fa823749dcbcef8b22e1dbcc21c766bd5", func := "loop.example/g00478/laws.FnExactHeadOf", spec := "fnExactHeadOf", apart := false }
def FnExactHeadOfSaid : Prop := fnExactHeadOfRow.holds Try.pinned (OpenSpec.ofChange fnExactHeadOfSpec)

/-- ITS FALSE NEIGHBOUR: 'it returns false'. Refute it at one input. -/
def fnExactHeadOfWrong : ChangeSpec := { name := "fnExactHeadOf", fn := fun _ => fun
  | [d1, d2, d3, d4] => { results := [.lit (.bool false)], args := [d1, d2, d3, d4] }
  | _ => none }
def FnExactHeadOfWrongFalsely : Prop := fnExactHeadOfRow.holds Try.pinned (OpenSpec.ofChange fnExactHeadOfWrong)

/-- 'laws.FnExactWind': WHATEVER THE INPUT: true; the input reads as it did. -/
def fnExactWindSpec : ChangeSpec := { name := "fnExactWind", fn := fun _ => fun
  | [d1, d2] => { results := [.lit (.bool true)], args := [d1, d2] }
  | _ => none }
def fnExactWindRow : OpenClaim := { program := "ytpkjlhooiaedmaa", sum := "0aa57b2175764f538a7deeea64e1460fa823749dcbcef8b22e1dbcc21c766bd5", func := "loop.example/g00478/laws.FnExactWind", spec := "fnExactWind", apart := false }
def FnExactWindSaid : Prop := fnExactWindRow.holds Try.pinned (OpenSpec.ofChange fnExactWindSpec)

/-- ITS FALSE NEIGHBOUR: 'it returns false'. Refute it at one input. -/
def fnExactWindWrong : ChangeSpec := { name := "fnExactWind", fn := fun _ => fun
  | [d1, d2] => { results := [.lit (.bool false)], args := [d1, d2] }
  | _ => none }
def FnExactWindWrongFalsely : Prop := fnExactWindRow.holds Try.pinned (OpenSpec.ofChange fnExactWindWrong)

/-- 'laws.FnExactMintBody': WHATEVER THE INPUT: true; the input reads as it did. -/
def fnExactMintBodySpec : ChangeSpec := { name := "fnExactMintBody", fn := fun _ => fun
  | [d1, d2, d3, d4, d5] => { results := [.lit (.bool true)], args := [d1, d2, d3, d4, d5] }
  | _ => none }
def fnExactMintBodyRow : OpenClaim := { program := "ytpkjlhooiaedmaa", sum := "0aa57b2175764f538a7deeea64e1460fa823749dcbcef8b22e1dbcc21c766bd5", func := "loop.example/g00478/laws.FnExactMintBody", spec := "fnExactMintBody", apart := false }
def FnExactMintBodySaid : Prop := fnExactMintBodyRow.holds Try.pinned (OpenSpec.ofChange fnExactMintBodySpec)

/-- ITS FALSE NEIGHBOUR: 'it returns false'. Refute it at one input. -/
def fnExactMintBodyWrong : ChangeSpec := { name := "fnExactMintBody", fn := fun _ => fun
  | [d1, d2, d3, d4, d5] => { results := [.lit (.bool false)], args := [d1, d2, d3, d4, d5] }
  | _ => none }
def FnExactMintBodyWrongFalsely : Prop := fnExactMintBodyRow.holds Try.pinned (OpenSpec.ofChange fnExactMintBodyWrong)

/-- 'laws.FnExactEpNew': WHATEVER THE INPUT: true; the input reads as it did. -/
def fnExactEpNewSpec : ChangeSpec := { name := "fnExactEpNew", fn := fun _ => fun
  | [d1, d2] => { results := [.lit (.bool true)], args := [d1, d2] }
  | _ => none }
def fnExactEpNewRow : OpenClaim := { program := "ytpkjlhooiaedmaa", sum := "0aa57b2175764f538a7deeea64e1460fa823749dcbcef8b22e1dbcc21c766bd5", func := "loop.example/g00478/laws.FnExactEpNew", spec := "fnExactEpNew", apart := false }
def FnExactEpNewSaid : Prop := fnExactEpNewRow.holds Try.pinned (OpenSpec.ofChange fnExactEpNewSpec)

/-- ITS FALSE NEIGHBOUR: 'it returns false'. Refute it at one input. -/
def fnExactEpNewWrong : ChangeSpec := { name := "fnExactEpNew", fn := fun _ => fun
  | [d1, d2] => { results := [.lit (.bool false)], args := [d1, d2] }
  | _ => none }
def FnExactEpNewWrongFalsely : Prop := fnExactEpNewRow.holds Try.pinned (OpenSpec.ofChange fnExactEpNewWrong)

/-- 'laws.FnExactEpOk': WHATEVER THE INPUT: true; the input reads as it did. -/
def fnExactEpOkSpec : ChangeSpec := { name := "fnExactEpOk", fn := fun _ => fun
  | [d] => { results := [.lit (.bool true)], args := [d] }
  | _ => none }
def fnExactEpOkRow : OpenClaim := { program := "ytpkjlhooiaedmaa", sum := "0aa57b2175764f538a7deeea64e1460fa823749dcbcef8b22e1dbcc21c766bd5", func := "loop.example/g00478/laws.FnExactEpOk", spec := "fnExactEpOk", apart := false }
def FnExactEpOkSaid : Prop := fnExactEpOkRow.holds Try.pinned (OpenSpec.ofChange fnExactEpOkSpec)

/-- ITS FALSE NEIGHBOUR: 'it returns false'. Refute it at one input. -/
def fnExactEpOkWrong : ChangeSpec := { name := "fnExactEpOk", fn := fun _ => fun
  | [d] => { results := [.lit (.bool false)], args := [d] }
  | _ => none }
def FnExactEpOkWrongFalsely : Prop := fnExactEpOkRow.holds Try.pinned (OpenSpec.ofChange fnExactEpOkWrong)

/- THE SECOND FORM. 'bulk': how many values and letters a reading holds, each counted each time it is reached (what is shared counts as often as it is met; a slice's spare places count too). A statement '..UptoSaid' is the law's where the arguments, and the package variables that the reading takes, are together of bulk at most 1048576: NARROWER than '..Said'. Prove '..Said' where nothing that the law and all that it calls make is longer than what came in: it says more and counts as full. Else prove '..UptoSaid'. A law counts once. -/
mutual
def uptoBulk {H : Type} : DataW H → Nat
  | .lit (.string bytes) => bytes.length + 1
  | .lit _ => 1
  | .nil => 1
  | .ptr d => uptoBulk d + 1
  | .slice elems spare => uptoBulkAll elems + uptoBulkAll spare + 1
  | .agg parts => uptoBulkAll parts + 1
  | .iface _ d => uptoBulk d + 1
  | .map entries => uptoBulkEntries entries + 1
  | .held _ => 1
def uptoBulkAll {H : Type} : List (DataW H) → Nat
  | [] => 0
  | d :: r => uptoBulk d + uptoBulkAll r
def uptoBulkEntries {H : Type} : List (Lit × DataW H) → Nat
  | [] => 0
  | x :: r => uptoBulkEntry x + uptoBulkEntries r
def uptoBulkEntry {H : Type} : Lit × DataW H → Nat
  | (.string bytes, d) => bytes.length + uptoBulk d + 1
  | (_, d) => uptoBulk d + 1
 end
def uptoSmall : (H : Type) → List (DataW H) → Bool := fun _ ds => decide (uptoBulkAll ds ≤ 1048576)
def OpenSpec.upto (s : _root_.Go.ChangeSpec) : _root_.Go.OpenSpec := { _root_.Go.OpenSpec.ofChange s with cond := some uptoSmall }

/-- 'laws.FnKinds', WHERE WHAT IT READS IS OF BULK AT MOST 1048576: true; the input reads as it did. -/
def fnKindsUptoRow : OpenClaim := { program := "ytpkjlhooiaedmaa", sum := "0aa57b2175764f538a7deeea64e1460fa823749dcbcef8b22e1dbcc21c766bd5", func := "loop.example/g00478/laws.FnKinds", spec := "fnKinds", apart := false, narrowed := true }
def FnKindsUptoSaid : Prop := fnKindsUptoRow.holds Try.pinned (OpenSpec.upto fnKindsSpec)

/-- 'laws.FnExactProofBody', WHERE WHAT IT READS IS OF BULK AT MOST 1048576: true; the input reads as it did. -/
def fnExactProofBodyUptoRow : OpenClaim := { program := "ytpkjlhooiaedmaa", sum := "0aa57b2175764f538a7deeea64e1460fa823749dcbcef8b22e1dbcc21c766bd5", func := "loop.example/g00478/laws.FnExactProofBody", spec := "fnExactProofBody", apart := false, narrowed := true }
def FnExactProofBodyUptoSaid : Prop := fnExactProofBodyUptoRow.holds Try.pinned (OpenSpec.upto fnExactProofBodySpec)

/-- 'laws.FnExactHeadOf', WHERE WHAT IT READS IS OF BULK AT MOST 1048576: true; the input reads as it did. -/
def fnExactHeadOfUptoRow : OpenClaim := { program := "ytpkjlhooiaedmaa", sum := "0aa57b2175764f538a7deeea64e1460fa823749dcbcef8b22e1dbcc21c766bd5", func := "loop.example/g00478/laws.FnExactHeadOf", spec := "fnExactHeadOf", apart := false, narrowed := true }
def FnExactHeadOfUptoSaid : Prop := fnExactHeadOfUptoRow.holds Try.pinned (OpenSpec.upto fnExactHeadOfSpec)

/-- 'laws.FnExactWind', WHERE WHAT IT READS IS OF BULK AT MOST 1048576: true; the input reads as it did. -/
def fnExactWindUptoRow : OpenClaim := { program := "ytpkjlhooiaedmaa", sum := "0aa57b2175764f538a7deeea64e1460fa823749dcbcef8b22e1dbcc21c766bd5", func := "loop.example/g00478/laws.FnExactWind", spec := "fnExactWind", apart := false, narrowed := true }
def FnExactWindUptoSaid : Prop := fnExactWindUptoRow.holds Try.pinned (OpenSpec.upto fnExactWindSpec)

/-- 'laws.FnExactMintBody', WHERE WHAT IT READS IS OF BULK AT MOST 1048576: true; the input reads as it did. -/
def fnExactMintBodyUptoRow : OpenClaim := { program := "ytpkjlhooiaedmaa", sum := "0aa57b2175764f538a7deeea64e1460fa823749dcbcef8b22e1dbcc21c766bd5", func := "loop.example/g00478/laws.FnExactMintBody", spec := "fnExactMintBody", apart := false, narrowed := true }
def FnExactMintBodyUptoSaid : Prop := fnExactMintBodyUptoRow.holds Try.pinned (OpenSpec.upto fnExactMintBodySpec)

/-- 'laws.FnExactEpNew', WHERE WHAT IT READS IS OF BULK AT MOST 1048576: true; the input reads as it did. -/
def fnExactEpNewUptoRow : OpenClaim := { program := "ytpkjlhooiaedmaa", sum := "0aa57b2175764f538a7deeea64e1460fa823749dcbcef8b22e1dbcc21c766bd5", func := "loop.example/g00478/laws.FnExactEpNew", spec := "fnExactEpNew", apart := false, narrowed := true }
def FnExactEpNewUptoSaid : Prop := fnExactEpNewUptoRow.holds Try.pinned (OpenSpec.upto fnExactEpNewSpec)

/-- 'laws.FnExactEpOk', WHERE WHAT IT READS IS OF BULK AT MOST 1048576: true; the input reads as it did. -/
def fnExactEpOkUptoRow : OpenClaim := { program := "ytpkjlhooiaedmaa", sum := "0aa57b2175764f538a7deeea64e1460fa823749dcbcef8b22e1dbcc21c766bd5", func := "loop.example/g00478/laws.FnExactEpOk", spec := "fnExactEpOk", apart := false, narrowed := true }
def FnExactEpOkUptoSaid : Prop := fnExactEpOkUptoRow.holds Try.pinned (OpenSpec.upto fnExactEpOkSpec)

end Rows
end Go.Proofs.Ytpkjlhooiaedmaa
