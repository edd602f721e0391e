/-
  No cell of these rows narrows 'for every input' (looked for: loops, veiled, ifaces, maps, wideKeys, modest, calm, conditions, laid).
  DERIVED. THE GIVEN ROWS OF THIS SEAT. 6 by the template 'for every input the law returns true; each argument reads behind the call as it read before'; 0 by the template 'total and deterministic' (their statements: YtfjbfgonkimboaaTotals.lean).
  GIVEN WITH THE SEED: the statements are not yours to turn. If you find one false, say at which input.
  Laid BY PROGRAM, IN A SANDBOX (cutbox-rows.mjs): the forced cells as the released guide's own fill.sh prints them over the translation 34d0edfa3a8d5d17… (all of the seat's roots in one cut). By AI agents, Wed Nov 11 2026. No macro, syntax, notation, axiom, sorry.
-/
import Derived.Test.YtfjbfgonkimboaaChecked
import GoSem.Claim
import GoSem.ClaimJoined
import GoSem.ClaimMapViews
import Derived.JoinedTies
import Derived.KernelRfl
namespace Go.Proofs.Ytfjbfgonkimboaa
/- THE CELL 'sum', in the pinned program and in every row, IS THE sha256 OF THE DUMP (.gsa) THAT YtfjbfgonkimboaaProg.lean LOADS. Nothing in Lean hashes anything: it is a label: what it is worth is what the hold of that sum in a sandbox is worth. -/
noncomputable def Try.pinned : Pinned := { name := "ytfjbfgonkimboaa", sum := "34d0edfa3a8d5d170fccf562b3b293796c1232eeadb2ed7b7be0df2ddffc5f82", checked := Try.checked }
namespace Rows
def none {H : Type} : Left H := { results := [], args := [] }

/-- 'laws.FnExactSeal': WHATEVER THE INPUT: true; the input reads as it did. -/
def fnExactSealSpec : ChangeSpec := { name := "fnExactSeal", fn := fun _ => fun
  | [d1, d2, d3, d4, d5, d6, d7] => { results := [.lit (.bool true)], args := [d1, d2, d3, d4, d5, d6, d7] }
  | _ => none }
def fnExactSealRow : OpenClaim := { program := "ytfjbfgonkimboaa", sum := "34d0edfa3a8d5d170fccf562b3b293796c1232eeadb2ed7b7be0df2ddffc5f82", func := "loop.example/g00478/laws.FnExactSeal", spec := "fnExactSeal", apart := false }
def FnExactSealSaid : Prop := fnExactSealRow.holds Try.pinned (OpenSpec.ofChange fnExactSealSpec)

/-- ITS FALSE NEIGHBOUR: 'it returns false'. Refute it at one input. -/
def fnExactSealWrong : ChangeSpec := { name := "fnExactSeal", fn := fun _ => fun
  | [d1, d2, d3, d4, d5, d6, d7] => { results := [.lit (.bool false)], args := [d1, d2, d3, d4, d5, d6, d7] }
  | _ => none }
def FnExactSealWrongFalsely : Prop := fnExactSealRow.holds Try.pinned (OpenSpec.ofChange fnExactSealWrong)

/-- 'laws.FnExactProofOk': WHATEVER THE INPUT: true; the input reads as it did. -/
def fnExactProofOkSpec : ChangeSpec := { name := "fnExactProofOk", fn := fun _ => fun
  | [d1, d2] => { results := [.lit (.bool true)], args := [d1, d2] }
  | _ => none }
def fnExactProofOkRow : OpenClaim := { program := "ytfjbfgonkimboaa", sum := "34d0edfa3a8d5d170fccf562b3b293796c1232eeadb2ed7b7be0df2ddffc5f82", func := "loop.example/g00478/laws.FnExactProofOk", spec := "fnExactProofOk", apart := false }
def FnExactProofOkSaid : Prop := fnExactProofOkRow.holds Try.pinned (OpenSpec.ofChange fnExactProofOkSpec)

/-- ITS FALSE NEIGHBOUR: 'it returns false'. Refute it at one input. -/
def fnExactProofOkWrong : ChangeSpec := { name := "fnExactProofOk", fn := fun _ => fun
  | [d1, d2] => { results := [.lit (.bool false)], args := [d1, d2] }
  | _ => none }
def FnExactProofOkWrongFalsely : Prop := fnExactProofOkRow.holds Try.pinned (OpenSpec.ofChange fnExactProofOkWrong)

/-- 'laws.FnExactJudge': WHATEVER THE INPUT: true; the input reads as it did. -/
def fnExactJudgeSpec : ChangeSpec := { name := "fnExactJudge", fn := fun _ => fun
  | [d1, d2, d3, d4] => { results := [.lit (.bool true)], args := [d1, d2, d3, d4] }
  | _ => none }
def fnExactJudgeRow : OpenClaim := { program := "ytfjbfgonkimboaa", sum := "34d0edfa3a8d5d170fccf562b3b293796c1232eeadb2ed7b7be0df2ddffc5f82", func := "loop.example/g00478/laws.FnExactJudge", spec := "fnExactJudge", apart := false }
def FnExactJudgeSaid : Prop := fnExactJudgeRow.holds Try.pinned (OpenSpec.ofChange fnExactJudgeSpec)

/-- ITS FALSE NEIGHBOUR: 'it returns false'. Refute it at one input. -/
def fnExactJudgeWrong : ChangeSpec := { name := "fnExactJudge", fn := fun _ => fun
  | [d1, d2, d3, d4] => { results := [.lit (.bool false)], args := [d1, d2, d3, d4] }
  | _ => none }
def FnExactJudgeWrongFalsely : Prop := fnExactJudgeRow.holds Try.pinned (OpenSpec.ofChange fnExactJudgeWrong)

/-- 'laws.FnExactUnseal': WHATEVER THE INPUT: true; the input reads as it did. -/
def fnExactUnsealSpec : ChangeSpec := { name := "fnExactUnseal", fn := fun _ => fun
  | [d1, d2, d3] => { results := [.lit (.bool true)], args := [d1, d2, d3] }
  | _ => none }
def fnExactUnsealRow : OpenClaim := { program := "ytfjbfgonkimboaa", sum := "34d0edfa3a8d5d170fccf562b3b293796c1232eeadb2ed7b7be0df2ddffc5f82", func := "loop.example/g00478/laws.FnExactUnseal", spec := "fnExactUnseal", apart := false }
def FnExactUnsealSaid : Prop := fnExactUnsealRow.holds Try.pinned (OpenSpec.ofChange fnExactUnsealSpec)

/-- ITS FALSE NEIGHBOUR: 'it returns false'. Refute it at one input. -/
def fnExactUnsealWrong : ChangeSpec := { name := "fnExactUnseal", fn := fun _ => fun
  | [d1, d2, d3] => { results := [.lit (.bool false)], args := [d1, d2, d3] }
  | _ => none }
def FnExactUnsealWrongFalsely : Prop := fnExactUnsealRow.holds Try.pinned (OpenSpec.ofChange fnExactUnsealWrong)

/-- 'laws.FnExactFinishOf': WHATEVER THE INPUT: true; the input reads as it did. -/
def fnExactFinishOfSpec : ChangeSpec := { name := "fnExactFinishOf", fn := fun _ => fun
  | [d1, d2, d3] => { results := [.lit (.bool true)], args := [d1, d2, d3] }
  | _ => none }
def fnExactFinishOfRow : OpenClaim := { program := "ytfjbfgonkimboaa", sum := "34d0edfa3a8d5d170fccf562b3b293796c1232eeadb2ed7b7be0df2ddffc5f82", func := "loop.example/g00478/laws.FnExactFinishOf", spec := "fnExactFinishOf", apart := false }
def FnExactFinishOfSaid : Prop := fnExactFinishOfRow.holds Try.pinned (OpenSpec.ofChange fnExactFinishOfSpec)

/-- ITS FALSE NEIGHBOUR: 'it returns false'. Refute it at one input. -/
def fnExactFinishOfWrong : ChangeSpec := { name := "fnExactFinishOf", fn := fun _ => fun
  | [d1, d2, d3] => { results := [.lit (.bool false)], args := [d1, d2, d3] }
  | _ => none }
def FnExactFinishOfWrongFalsely : Prop := fnExactFinishOfRow.holds Try.pinned (OpenSpec.ofChange fnExactFinishOfWrong)

/-- 'laws.FnExactEpSeal': WHATEVER THE INPUT: true; the input reads as it did. -/
def fnExactEpSealSpec : ChangeSpec := { name := "fnExactEpSeal", fn := fun _ => fun
  | [d1, d2, d3, d4, d5] => { results := [.lit (.bool true)], args := [d1, d2, d3, d4, d5] }
  | _ => none }
def fnExactEpSealRow : OpenClaim := { program := "ytfjbfgonkimboaa", sum := "34d0edfa3a8d5d170fccf562b3b293796c1232eeadb2ed7b7be0df2ddffc5f82", func := "loop.example/g00478/laws.FnExactEpSeal", spec := "fnExactEpSeal", apart := false }
def FnExactEpSealSaid : Prop := fnExactEpSealRow.holds Try.pinned (OpenSpec.ofChange fnExactEpSealSpec)

/-- ITS FALSE NEIGHBOUR: 'it returns false'. Refute it at one input. -/
def fnExactEpSealWrong : ChangeSpec := { name := "fnExactEpSeal", fn := fun _ => fun
  | [d1, d2, d3, d4, d5] => { results := [.lit (.bool false)], args := [d1, d2, d3, d4, d5] }
  | _ => none }
def FnExactEpSealWrongFalsely : Prop := fnExactEpSealRow.holds Try.pinned (OpenSpec.ofChange fnExactEpSealWrong)

/- THE SECOND FORM. 'bulk': how many values and letters a reading holds, each counted each time it is reached (what is shared counts as often as it is met; a slice's spare places count too). A statement '..UptoSaid' is the law's where the arguments, and the package variables that the reading takes, are together of bulk at most 1048576: NARROWER than '..Said'. Prove '..Said' where nothing that the law and all that it calls make is longer than what came in: it says more and counts as full. Else prove '..UptoSaid'. A law counts once. -/
mutual
def uptoBulk {H : Type} : DataW H → Nat
  | .lit (.string bytes) => bytes.length + 1
  | .lit _ => 1
  | .nil => 1
  | .ptr d => uptoBulk d + 1
  | .slice elems spare => uptoBulkAll elems + uptoBulkAll spare + 1
  | .agg parts => uptoBulkAll parts + 1
  | .iface _ d => uptoBulk d + 1
  | .map entries => uptoBulkEntries entries + 1
  | .held _ => 1
def uptoBulkAll {H : Type} : List (DataW H) → Nat
  | [] => 0
  | d :: r => uptoBulk d + uptoBulkAll r
def uptoBulkEntries {H : Type} : List (Lit × DataW H) → Nat
  | [] => 0
  | x :: r => uptoBulkEntry x + uptoBulkEntries r
def uptoBulkEntry {H : Type} : Lit × DataW H → Nat
  | (.string bytes, d) => bytes.length + uptoBulk d + 1
  | (_, d) => uptoBulk d + 1
 end
def uptoSmall : (H : Type) → List (DataW H) → Bool := fun _ ds => decide (uptoBulkAll ds ≤ 1048576)
def OpenSpec.upto (s : _root_.Go.ChangeSpec) : _root_.Go.OpenSpec := { _root_.Go.OpenSpec.ofChange s with cond := some uptoSmall }

/-- 'laws.FnExactSeal', WHERE WHAT IT READS IS OF BULK AT MOST 1048576: true; the input reads as it did. -/
def fnExactSealUptoRow : OpenClaim := { program := "ytfjbfgonkimboaa", sum := "34d0edfa3a8d5d170fccf562b3b293796c1232eeadb2ed7b7be0df2ddffc5f82", func := "loop.example/g00478/laws.FnExactSeal", spec := "fnExactSeal", apart := false, narrowed := true }
def FnExactSealUptoSaid : Prop := fnExactSealUptoRow.holds Try.pinned (OpenSpec.upto fnExactSealSpec)

/-- 'laws.FnExactProofOk', WHERE WHAT IT READS IS OF BULK AT MOST 1048576: true; the input reads as it did. -/
def fnExactProofOkUptoRow : OpenClaim := { program := "ytfjbfgonkimboaa", sum := "34d0edfa3a8d5d170fccf562b3b293796c1232eeadb2ed7b7be0df2ddffc5f82", func := "loop.example/g00478/laws.FnExactProofOk", spec := "fnExactProofOk", apart := false, narrowed := true }
def FnExactProofOkUptoSaid : Prop := fnExactProofOkUptoRow.holds Try.pinned (OpenSpec.upto fnExactProofOkSpec)

/-- 'laws.FnExactJudge', WHERE WHAT IT READS IS OF BULK AT MOST 1048576: true; the input reads as it did. -/
def fnExactJudgeUptoRow : OpenClaim := { program := "ytfjbfgonkimboaa", sum := "34d0edfa3a8d5d170fccf562b3b293796c1232eeadb2ed7b7be0df2ddffc5f82", func := "loop.example/g00478/laws.FnExactJudge", spec := "fnExactJudge", apart := false, narrowed := true }
def FnExactJudgeUptoSaid : Prop := fnExactJudgeUptoRow.holds Try.pinned (OpenSpec.upto fnExactJudgeSpec)

/-- 'laws.FnExactUnseal', WHERE WHAT IT READS IS OF BULK AT MOST 1048576: true; the input reads as it did. -/
def fnExactUnsealUptoRow : OpenClaim := { program := "ytfjbfgonkimboaa", sum := "34d0edfa3a8d5d170fccf562b3b293796c1232eeadb2ed7b7be0df2ddffc5f82", func := "loop.example/g00478/laws.FnExactUnseal", spec := "fnExactUnseal", apart := false, narrowed := true }
def FnExactUnsealUptoSaid : Prop := fnExactUnsealUptoRow.holds Try.pinned (OpenSpec.upto fnExactUnsealSpec)

/-- 'laws.FnExactFinishOf', WHERE WHAT IT READS IS OF BULK AT MOST 1048576: true; the input reads as it did. -/
def fnExactFinishOfUptoRow : OpenClaim := { program := "ytfjbfgonkimboaa", sum := "34d0edfa3a8d5d170fccf562b3b293796c1232eeadb2ed7b7be0df2ddffc5f82", func := "loop.example/g00478/laws.FnExactFinishOf", spec := "fnExactFinishOf", apart := false, narrowed := true }
def FnExactFinishOfUptoSaid : Prop := fnExactFinishOfUptoRow.holds Try.pinned (OpenSpec.upto fnExactFinishOfSpec)

/-- 'laws.FnExactEpSeal', WHERE WHAT IT READS IS OF BULK AT MOST 1048576: true; the input reads as it did. -/
def fnExactEpSealUptoRow : OpenClaim := { program := "ytfjbfgonkimboaa", sum := "34d0edfa3a8d5d170fccf562b3b293796c1232eeadb2ed7b7be0df2ddffc5f82", func := "loop.example/g00478/laws.FnExactEpSeal", spec := "fnExactEpSeal", apart := false, narrowed := true }
def FnExactEpSealUptoSaid : Prop := fnExactEpSealUptoRow.holds Try.pinned (OpenSpec.upto fnExactEpSealSpec)

end Rows
end Go.Proofs.Ytfjbfgonkimboaa
