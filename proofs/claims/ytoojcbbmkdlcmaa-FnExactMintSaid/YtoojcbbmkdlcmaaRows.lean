/-
  No cell of these rows narrows 'for every input' (looked for: loops, veiled, ifaces, maps, wideKeys, modest, calm, conditions, laid).
  DERIVED. THE GIVEN ROWS OF THIS SEAT. 9 by the template 'for every input the law returns true; each argument reads behind the call as it read before'; 0 by the template 'total and deterministic' (their statements: YtoojcbbmkdlcmaaTotals.lean).
  GIVEN WITH THE SEED: the statements are not yours to turn. If you find one false, say at which input.
  Laid BY PROGRAM, IN A SANDBOX (cutbox-rows.mjs): the forced cells as the released guide's own fill.sh prints them over the translation e37da2fcd45f8680… (all of the seat's roots in one cut). By AI agents, Wed Nov 11 2026. No macro, syntax, notation, axiom, sorry.
-/
import Derived.Test.YtoojcbbmkdlcmaaChecked
import GoSem.Claim
import GoSem.ClaimJoined
import GoSem.ClaimMapViews
import Derived.JoinedTies
import Derived.KernelRfl
namespace Go.Proofs.Ytoojcbbmkdlcmaa
/- THE CELL 'sum', in the pinned program and in every row, IS THE sha256 OF THE DUMP (.gsa) THAT YtoojcbbmkdlcmaaProg.lean LOADS. Nothing in Lean hashes anything: it is a label: what it is worth is what the hold of that sum in a sandbox is worth. -/
noncomputable def Try.pinned : Pinned := { name := "ytoojcbbmkdlcmaa", sum := "e37da2fcd45f86809186c1664edfacada74d1a84a5aa8c6a350f5982871cd498", checked := Try.checked }
namespace Rows
def none {H : Type} : Left H := { results := [], args := [] }

/-- 'laws.FnExactDiceAt': WHATEVER THE INPUT: true; the input reads as it did. -/
def fnExactDiceAtSpec : ChangeSpec := { name := "fnExactDiceAt", fn := fun _ => fun
  | [d1, d2] => { results := [.lit (.bool true)], args := [d1, d2] }
  | _ => none }
def fnExactDiceAtRow : OpenClaim := { program := "ytoojcbbmkdlcmaa", sum := "e37da2fcd45f86809186c1664edfacada74d1a84a5aa8c6a350f5982871cd498", func := "loop.example/g00478/laws.FnExactDiceAt", spec := "fnExactDiceAt", apart := false }
def FnExactDiceAtSaid : Prop := fnExactDiceAtRow.holds Try.pinned (OpenSpec.ofChange fnExactDiceAtSpec)

/-- ITS FALSE NEIGHBOUR: 'it returns false'. Refute it at one input. -/
def fnExactDiceAtWrong : ChangeSpec := { name := "fnExactDiceAt", fn := fun _ => fun
  | [d1, d2] => { results := [.lit (.bool false)], args := [d1, d2] }
  | _ => none }
def FnExactDiceAtWrongFalsely : Prop := fnExactDiceAtRow.holds Try.pinned (OpenSpec.ofChange fnExactDiceAtWrong)

/-- 'laws.FnExactRootKey': WHATEVER THE INPUT: true; the input reads as it did. -/
def fnExactRootKeySpec : ChangeSpec := { name := "fnExactRootKey", fn := fun _ => fun
  | [d1, d2, d3] => { results := [.lit (.bool true)], args := [d1, d2, d3] }
  | _ => none }
def fnExactRootKeyRow : OpenClaim := { program := "ytoojcbbmkdlcmaa", sum := "e37da2fcd45f86809186c1664edfacada74d1a84a5aa8c6a350f5982871cd498", func := "loop.example/g00478/laws.FnExactRootKey", spec := "fnExactRootKey", apart := false }
def FnExactRootKeySaid : Prop := fnExactRootKeyRow.holds Try.pinned (OpenSpec.ofChange fnExactRootKeySpec)

/-- ITS FALSE NEIGHBOUR: 'it returns false'. Refute it at one input. -/
def fnExactRootKeyWrong : ChangeSpec := { name := "fnExactRootKey", fn := fun _ => fun
  | [d1, d2, d3] => { results := [.lit (.bool false)], args := [d1, d2, d3] }
  | _ => none }
def FnExactRootKeyWrongFalsely : Prop := fnExactRootKeyRow.holds Try.pinned (OpenSpec.ofChange fnExactRootKeyWrong)

/-- 'laws.FnExactFirstKey': WHATEVER THE INPUT: true; the input reads as it did. -/
def fnExactFirstKeySpec : ChangeSpec := { name := "fnExactFirstKey", fn := fun _ => fun
  | [d] => { results := [.lit (.bool true)], args := [d] }
  | _ => none }
def fnExactFirstKeyRow : OpenClaim := { program := "ytoojcbbmkdlcmaa", sum := "e37da2fcd45f86809186c1664edfacada74d1a84a5aa8c6a350f5982871cd498", func := "loop.example/g00478/laws.FnExactFirstKey", spec := "fnExactFirstKey", apart := false }
def FnExactFirstKeySaid : Prop := fnExactFirstKeyRow.holds Try.pinned (OpenSpec.ofChange fnExactFirstKeySpec)

/-- ITS FALSE NEIGHBOUR: 'it returns false'. Refute it at one input. -/
def fnExactFirstKeyWrong : ChangeSpec := { name := "fnExactFirstKey", fn := fun _ => fun
  | [d] => { results := [.lit (.bool false)], args := [d] }
  | _ => none }
def FnExactFirstKeyWrongFalsely : Prop := fnExactFirstKeyRow.holds Try.pinned (OpenSpec.ofChange fnExactFirstKeyWrong)

/-- 'laws.FnExactFinishKey': WHATEVER THE INPUT: true; the input reads as it did. -/
def fnExactFinishKeySpec : ChangeSpec := { name := "fnExactFinishKey", fn := fun _ => fun
  | [d] => { results := [.lit (.bool true)], args := [d] }
  | _ => none }
def fnExactFinishKeyRow : OpenClaim := { program := "ytoojcbbmkdlcmaa", sum := "e37da2fcd45f86809186c1664edfacada74d1a84a5aa8c6a350f5982871cd498", func := "loop.example/g00478/laws.FnExactFinishKey", spec := "fnExactFinishKey", apart := false }
def FnExactFinishKeySaid : Prop := fnExactFinishKeyRow.holds Try.pinned (OpenSpec.ofChange fnExactFinishKeySpec)

/-- ITS FALSE NEIGHBOUR: 'it returns false'. Refute it at one input. -/
def fnExactFinishKeyWrong : ChangeSpec := { name := "fnExactFinishKey", fn := fun _ => fun
  | [d] => { results := [.lit (.bool false)], args := [d] }
  | _ => none }
def FnExactFinishKeyWrongFalsely : Prop := fnExactFinishKeyRow.holds Try.pinned (OpenSpec.ofChange fnExactFinishKeyWrong)

/-- 'laws.FnExactJarNew': WHATEVER THE INPUT: true; the input reads as it did. -/
def fnExactJarNewSpec : ChangeSpec := { name := "fnExactJarNew", fn := fun _ => fun
  | [d] => { results := [.lit (.bool true)], args := [d] }
  | _ => none }
def fnExactJarNewRow : OpenClaim := { program := "ytoojcbbmkdlcmaa", sum := "e37da2fcd45f86809186c1664edfacada74d1a84a5aa8c6a350f5982871cd498", func := "loop.example/g00478/laws.FnExactJarNew", spec := "fnExactJarNew", apart := false }
def FnExactJarNewSaid : Prop := fnExactJarNewRow.holds Try.pinned (OpenSpec.ofChange fnExactJarNewSpec)

/-- ITS FALSE NEIGHBOUR: 'it returns false'. Refute it at one input. -/
def fnExactJarNewWrong : ChangeSpec := { name := "fnExactJarNew", fn := fun _ => fun
  | [d] => { results := [.lit (.bool false)], args := [d] }
  | _ => none }
def FnExactJarNewWrongFalsely : Prop := fnExactJarNewRow.holds Try.pinned (OpenSpec.ofChange fnExactJarNewWrong)

/-- 'laws.FnExactRoll': WHATEVER THE INPUT: true; the input reads as it did. -/
def fnExactRollSpec : ChangeSpec := { name := "fnExactRoll", fn := fun _ => fun
  | [d] => { results := [.lit (.bool true)], args := [d] }
  | _ => none }
def fnExactRollRow : OpenClaim := { program := "ytoojcbbmkdlcmaa", sum := "e37da2fcd45f86809186c1664edfacada74d1a84a5aa8c6a350f5982871cd498", func := "loop.example/g00478/laws.FnExactRoll", spec := "fnExactRoll", apart := false }
def FnExactRollSaid : Prop := fnExactRollRow.holds Try.pinned (OpenSpec.ofChange fnExactRollSpec)

/-- ITS FALSE NEIGHBOUR: 'it returns false'. Refute it at one input. -/
def fnExactRollWrong : ChangeSpec := { name := "fnExactRoll", fn := fun _ => fun
  | [d] => { results := [.lit (.bool false)], args := [d] }
  | _ => none }
def FnExactRollWrongFalsely : Prop := fnExactRollRow.holds Try.pinned (OpenSpec.ofChange fnExactRollWrong)

/-- 'laws.FnExactProof': WHATEVER THE INPUT: true; the input reads as it did. -/
def fnExactProofSpec : ChangeSpec := { name := "fnExactProof", fn := fun _ => fun
  | [d1, d2, d3, d4, d5, d6] => { results := [.lit (.bool true)], args := [d1, d2, d3, d4, d5, d6] }
  | _ => none }
def fnExactProofRow : OpenClaim := { program := "ytoojcbbmkdlcmaa", sum := "e37da2fcd45f86809186c1664edfacada74d1a84a5aa8c6a350f5982871cd498", func := "loop.example/g00478/laws.FnExactProof", spec := "fnExactProof", apart := false }
def FnExactProofSaid : Prop := fnExactProofRow.holds Try.pinned (OpenSpec.ofChange fnExactProofSpec)

/-- ITS FALSE NEIGHBOUR: 'it returns false'. Refute it at one input. -/
def fnExactProofWrong : ChangeSpec := { name := "fnExactProof", fn := fun _ => fun
  | [d1, d2, d3, d4, d5, d6] => { results := [.lit (.bool false)], args := [d1, d2, d3, d4, d5, d6] }
  | _ => none }
def FnExactProofWrongFalsely : Prop := fnExactProofRow.holds Try.pinned (OpenSpec.ofChange fnExactProofWrong)

/-- 'laws.FnExactMint': WHATEVER THE INPUT: true; the input reads as it did. -/
def fnExactMintSpec : ChangeSpec := { name := "fnExactMint", fn := fun _ => fun
  | [d1, d2, d3, d4, d5, d6] => { results := [.lit (.bool true)], args := [d1, d2, d3, d4, d5, d6] }
  | _ => none }
def fnExactMintRow : OpenClaim := { program := "ytoojcbbmkdlcmaa", sum := "e37da2fcd45f86809186c1664edfacada74d1a84a5aa8c6a350f5982871cd498", func := "loop.example/g00478/laws.FnExactMint", spec := "fnExactMint", apart := false }
def FnExactMintSaid : Prop := fnExactMintRow.holds Try.pinned (OpenSpec.ofChange fnExactMintSpec)

/-- ITS FALSE NEIGHBOUR: 'it returns false'. Refute it at one input. -/
def fnExactMintWrong : ChangeSpec := { name := "fnExactMint", fn := fun _ => fun
  | [d1, d2, d3, d4, d5, d6] => { results := [.lit (.bool false)], args := [d1, d2, d3, d4, d5, d6] }
  | _ => none }
def FnExactMintWrongFalsely : Prop := fnExactMintRow.holds Try.pinned (OpenSpec.ofChange fnExactMintWrong)

/-- 'laws.FnExactEpochKey': WHATEVER THE INPUT: true; the input reads as it did. -/
def fnExactEpochKeySpec : ChangeSpec := { name := "fnExactEpochKey", fn := fun _ => fun
  | [d1, d2, d3, d4] => { results := [.lit (.bool true)], args := [d1, d2, d3, d4] }
  | _ => none }
def fnExactEpochKeyRow : OpenClaim := { program := "ytoojcbbmkdlcmaa", sum := "e37da2fcd45f86809186c1664edfacada74d1a84a5aa8c6a350f5982871cd498", func := "loop.example/g00478/laws.FnExactEpochKey", spec := "fnExactEpochKey", apart := false }
def FnExactEpochKeySaid : Prop := fnExactEpochKeyRow.holds Try.pinned (OpenSpec.ofChange fnExactEpochKeySpec)

/-- ITS FALSE NEIGHBOUR: 'it returns false'. Refute it at one input. -/
def fnExactEpochKeyWrong : ChangeSpec := { name := "fnExactEpochKey", fn := fun _ => fun
  | [d1, d2, d3, d4] => { results := [.lit (.bool false)], args := [d1, d2, d3, d4] }
  | _ => none }
def FnExactEpochKeyWrongFalsely : Prop := fnExactEpochKeyRow.holds Try.pinned (OpenSpec.ofChange fnExactEpochKeyWrong)

/- THE SECOND FORM. 'bulk': how many values and letters a reading holds, each counted each time it is reached (what is shared counts as often as it is met; a slice's spare places count too). A statement '..UptoSaid' is the law's where the arguments, and the package variables that the reading takes, are together of bulk at most 1048576: NARROWER than '..Said'. Prove '..Said' where nothing that the law and all that it calls make is longer than what came in: it says more and counts as full. Else prove '..UptoSaid'. A law counts once. -/
mutual
def uptoBulk {H : Type} : DataW H → Nat
  | .lit (.string bytes) => bytes.length + 1
  | .lit _ => 1
  | .nil => 1
  | .ptr d => uptoBulk d + 1
  | .slice elems spare => uptoBulkAll elems + uptoBulkAll spare + 1
  | .agg parts => uptoBulkAll parts + 1
  | .iface _ d => uptoBulk d + 1
  | .map entries => uptoBulkEntries entries + 1
  | .held _ => 1
def uptoBulkAll {H : Type} : List (DataW H) → Nat
  | [] => 0
  | d :: r => uptoBulk d + uptoBulkAll r
def uptoBulkEntries {H : Type} : List (Lit × DataW H) → Nat
  | [] => 0
  | x :: r => uptoBulkEntry x + uptoBulkEntries r
def uptoBulkEntry {H : Type} : Lit × DataW H → Nat
  | (.string bytes, d) => bytes.length + uptoBulk d + 1
  | (_, d) => uptoBulk d + 1
 end
def uptoSmall : (H : Type) → List (DataW H) → Bool := fun _ ds => decide (uptoBulkAll ds ≤ 1048576)
def OpenSpec.upto (s : _root_.Go.ChangeSpec) : _root_.Go.OpenSpec := { _root_.Go.OpenSpec.ofChange s with cond := some uptoSmall }

/-- 'laws.FnExactDiceAt', WHERE WHAT IT READS IS OF BULK AT MOST 1048576: true; the input reads as it did. -/
def fnExactDiceAtUptoRow : OpenClaim := { program := "ytoojcbbmkdlcmaa", sum := "e37da2fcd45f86809186c1664edfacada74d1a84a5aa8c6a350f5982871cd498", func := "loop.example/g00478/laws.FnExactDiceAt", spec := "fnExactDiceAt", apart := false, narrowed := true }
def FnExactDiceAtUptoSaid : Prop := fnExactDiceAtUptoRow.holds Try.pinned (OpenSpec.upto fnExactDiceAtSpec)

/-- 'laws.FnExactRootKey', WHERE WHAT IT READS IS OF BULK AT MOST 1048576: true; the input reads as it did. -/
def fnExactRootKeyUptoRow : OpenClaim := { program := "ytoojcbbmkdlcmaa", sum := "e37da2fcd45f86809186c1664edfacada74d1a84a5aa8c6a350f5982871cd498", func := "loop.example/g00478/laws.FnExactRootKey", spec := "fnExactRootKey", apart := false, narrowed := true }
def FnExactRootKeyUptoSaid : Prop := fnExactRootKeyUptoRow.holds Try.pinned (OpenSpec.upto fnExactRootKeySpec)

/-- 'laws.FnExactFirstKey', WHERE WHAT IT READS IS OF BULK AT MOST 1048576: true; the input reads as it did. -/
def fnExactFirstKeyUptoRow : OpenClaim := { program := "ytoojcbbmkdlcmaa", sum := "e37da2fcd45f86809186c1664edfacada74d1a84a5aa8c6a350f5982871cd498", func := "loop.example/g00478/laws.FnExactFirstKey", spec := "fnExactFirstKey", apart := false, narrowed := true }
def FnExactFirstKeyUptoSaid : Prop := fnExactFirstKeyUptoRow.holds Try.pinned (OpenSpec.upto fnExactFirstKeySpec)

/-- 'laws.FnExactFinishKey', WHERE WHAT IT READS IS OF BULK AT MOST 1048576: true; the input reads as it did. -/
def fnExactFinishKeyUptoRow : OpenClaim := { program := "ytoojcbbmkdlcmaa", sum := "e37da2fcd45f86809186c1664edfacada74d1a84a5aa8c6a350f5982871cd498", func := "loop.example/g00478/laws.FnExactFinishKey", spec := "fnExactFinishKey", apart := false, narrowed := true }
def FnExactFinishKeyUptoSaid : Prop := fnExactFinishKeyUptoRow.holds Try.pinned (OpenSpec.upto fnExactFinishKeySpec)

/-- 'laws.FnExactJarNew', WHERE WHAT IT READS IS OF BULK AT MOST 1048576: true; the input reads as it did. -/
def fnExactJarNewUptoRow : OpenClaim := { program := "ytoojcbbmkdlcmaa", sum := "e37da2fcd45f86809186c1664edfacada74d1a84a5aa8c6a350f5982871cd498", func := "loop.example/g00478/laws.FnExactJarNew", spec := "fnExactJarNew", apart := false, narrowed := true }
def FnExactJarNewUptoSaid : Prop := fnExactJarNewUptoRow.holds Try.pinned (OpenSpec.upto fnExactJarNewSpec)

/-- 'laws.FnExactRoll', WHERE WHAT IT READS IS OF BULK AT MOST 1048576: true; the input reads as it did. -/
def fnExactRollUptoRow : OpenClaim := { program := "ytoojcbbmkdlcmaa", sum := "e37da2fcd45f86809186c1664edfacada74d1a84a5aa8c6a350f5982871cd498", func := "loop.example/g00478/laws.FnExactRoll", spec := "fnExactRoll", apart := false, narrowed := true }
def FnExactRollUptoSaid : Prop := fnExactRollUptoRow.holds Try.pinned (OpenSpec.upto fnExactRollSpec)

/-- 'laws.FnExactProof', WHERE WHAT IT READS IS OF BULK AT MOST 1048576: true; the input reads as it did. -/
def fnExactProofUptoRow : OpenClaim := { program := "ytoojcbbmkdlcmaa", sum := "e37da2fcd45f86809186c1664edfacada74d1a84a5aa8c6a350f5982871cd498", func := "loop.example/g00478/laws.FnExactProof", spec := "fnExactProof", apart := false, narrowed := true }
def FnExactProofUptoSaid : Prop := fnExactProofUptoRow.holds Try.pinned (OpenSpec.upto fnExactProofSpec)

/-- 'laws.FnExactMint', WHERE WHAT IT READS IS OF BULK AT MOST 1048576: true; the input reads as it did. -/
def fnExactMintUptoRow : OpenClaim := { program := "ytoojcbbmkdlcmaa", sum := "e37da2fcd45f86809186c1664edfacada74d1a84a5aa8c6a350f5982871cd498", func := "loop.example/g00478/laws.FnExactMint", spec := "fnExactMint", apart := false, narrowed := true }
def FnExactMintUptoSaid : Prop := fnExactMintUptoRow.holds Try.pinned (OpenSpec.upto fnExactMintSpec)

/-- 'laws.FnExactEpochKey', WHERE WHAT IT READS IS OF BULK AT MOST 1048576: true; the input reads as it did. -/
def fnExactEpochKeyUptoRow : OpenClaim := { program := "ytoojcbbmkdlcmaa", sum := "e37da2fcd45f86809186c1664edfacada74d1a84a5aa8c6a350f5982871cd498", func := "loop.example/g00478/laws.FnExactEpochKey", spec := "fnExactEpochKey", apart := false, narrowed := true }
def FnExactEpochKeyUptoSaid : Prop := fnExactEpochKeyUptoRow.holds Try.pinned (OpenSpec.upto fnExactEpochKeySpec)

end Rows
end Go.Proofs.Ytoojcbbmkdlcmaa
