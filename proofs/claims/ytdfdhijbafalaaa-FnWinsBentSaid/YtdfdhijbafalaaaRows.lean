/-
  No cell of these rows narrows 'for every input' (looked for: loops, veiled, ifaces, maps, wideKeys, modest, calm, conditions, laid).
  DERIVED. THE GIVEN ROWS OF THIS SEAT. 3 by the template 'for every input the law returns true; each argument reads behind the call as it read before'; 0 by the template 'total and deterministic' (their statements: YtdfdhijbafalaaaTotals.lean).
  GIVEN WITH THE SEED: the statements are not yours to turn. If you find one false, say at which input.
  Laid BY PROGRAM, IN A SANDBOX (cutbox-rows.mjs): the forced cells as the released guide's own fill.sh prints them over the translation 86d55d21db2d51a1… (all of the seat's roots in one cut). By AI agents, Wed Nov 11 2026. No macro, syntax, notation, axiom, sorry.
-/
import Derived.Test.YtdfdhijbafalaaaChecked
import GoSem.Claim
import GoSem.ClaimJoined
import GoSem.ClaimMapViews
import Derived.JoinedTies
import Derived.KernelRfl
namespace Go.Proofs.Ytdfdhijbafalaaa
/- THE CELL 'sum', in the pinned program and in every row, IS THE sha256 OF THE DUMP (.gsa) THAT YtdfdhijbafalaaaProg.lean LOADS. Nothing in Lean hashes anything: it is a label: what it is worth is what the hold of that sum in a sandbox is worth. -/
noncomputable def Try.pinned : Pinned := { name := "ytdfdhijbafalaaa", sum := "86d55d21db2d51a12ef65ab1e521e56caa5c9bc4854b01f91d62a8f651c82c69", checked := Try.checked }
namespace Rows
def none {H : Type} : Left H := { results := [], args := [] }

/-- 'laws.FnWins': WHATEVER THE INPUT: true; the input reads as it did. -/
def fnWinsSpec : ChangeSpec := { name := "fnWins", fn := fun _ => fun
  | [d] => { results := [.lit (.bool true)], args := [d] }
  | _ => none }
def fnWinsRow : OpenClaim := { program := "ytdfdhijbafalaaa", sum := "86d55d21db2d51a12ef65ab1e521e56caa5c9bc4854b01f91d62a8f651c82c69", func := "loop.example/g00478/laws.FnWins", spec := "fnWins", apart := false }
def FnWinsSaid : Prop := fnWinsRow.holds Try.pinned (OpenSpec.ofChange fnWinsSpec)

/-- ITS FALSE NEIGHBOUR: 'it returns false'. Refute it at one input. -/
def fnWinsWrong : ChangeSpec := { name := "fnWins", fn := fun _ => fun
  | [d] => { results := [.lit (.bool false)], args := [d] }
  | _ => none }
def FnWinsWrongFalsely : Prop := fnWinsRow.holds Try.pinned (OpenSpec.ofChange fnWinsWrong)

/-- 'laws.FnWinsBent': WHATEVER THE INPUT: true; the input reads as it did. -/
def fnWinsBentSpec : ChangeSpec := { name := "fnWinsBent", fn := fun _ => fun
  | [d] => { results := [.lit (.bool true)], args := [d] }
  | _ => none }
def fnWinsBentRow : OpenClaim := { program := "ytdfdhijbafalaaa", sum := "86d55d21db2d51a12ef65ab1e521e56caa5c9bc4854b01f91d62a8f651c82c69", func := "loop.example/g00478/laws.FnWinsBent", spec := "fnWinsBent", apart := false }
def FnWinsBentSaid : Prop := fnWinsBentRow.holds Try.pinned (OpenSpec.ofChange fnWinsBentSpec)

/-- ITS FALSE NEIGHBOUR: 'it returns false'. Refute it at one input. -/
def fnWinsBentWrong : ChangeSpec := { name := "fnWinsBent", fn := fun _ => fun
  | [d] => { results := [.lit (.bool false)], args := [d] }
  | _ => none }
def FnWinsBentWrongFalsely : Prop := fnWinsBentRow.holds Try.pinned (OpenSpec.ofChange fnWinsBentWrong)

/-- 'laws.FnBlocks': WHATEVER THE INPUT: true; the input reads as it did. -/
def fnBlocksSpec : ChangeSpec := { name := "fnBlocks", fn := fun _ => fun
  | [d] => { results := [.lit (.bool true)], args := [d] }
  | _ => none }
def fnBlocksRow : OpenClaim := { program := "ytdfdhijbafalaaa", sum := "86d55d21db2d51a12ef65ab1e521e56caa5c9bc4854b01f91d62a8f651c82c69", func := "loop.example/g00478/laws.FnBlocks", spec := "fnBlocks", apart := false }
def FnBlocksSaid : Prop := fnBlocksRow.holds Try.pinned (OpenSpec.ofChange fnBlocksSpec)

/-- ITS FALSE NEIGHBOUR: 'it returns false'. Refute it at one input. -/
def fnBlocksWrong : ChangeSpec := { name := "fnBlocks", fn := fun _ => fun
  | [d] => { results := [.lit (.bool false)], args := [d] }
  | _ => none }
def FnBlocksWrongFalsely : Prop := fnBlocksRow.holds Try.pinned (OpenSpec.ofChange fnBlocksWrong)

/- THE SECOND FORM. 'bulk': how many values and letters a reading holds, each counted each time it is reached (what is shared counts as often as it is met; a slice's spare places count too). A statement '..UptoSaid' is the law's where the arguments, and the package variables that the reading takes, are together of bulk at most 1048576: NARROWER than '..Said'. Prove '..Said' where nothing that the law and all that it calls make is longer than what came in: it says more and counts as full. Else prove '..UptoSaid'. A law counts once. -/
mutual
def uptoBulk {H : Type} : DataW H → Nat
  | .lit (.string bytes) => bytes.length + 1
  | .lit _ => 1
  | .nil => 1
  | .ptr d => uptoBulk d + 1
  | .slice elems spare => uptoBulkAll elems + uptoBulkAll spare + 1
  | .agg parts => uptoBulkAll parts + 1
  | .iface _ d => uptoBulk d + 1
  | .map entries => uptoBulkEntries entries + 1
  | .held _ => 1
def uptoBulkAll {H : Type} : List (DataW H) → Nat
  | [] => 0
  | d :: r => uptoBulk d + uptoBulkAll r
def uptoBulkEntries {H : Type} : List (Lit × DataW H) → Nat
  | [] => 0
  | x :: r => uptoBulkEntry x + uptoBulkEntries r
def uptoBulkEntry {H : Type} : Lit × DataW H → Nat
  | (.string bytes, d) => bytes.length + uptoBulk d + 1
  | (_, d) => uptoBulk d + 1
 end
def uptoSmall : (H : Type) → List (DataW H) → Bool := fun _ ds => decide (uptoBulkAll ds ≤ 1048576)
def OpenSpec.upto (s : _root_.Go.ChangeSpec) : _root_.Go.OpenSpec := { _root_.Go.OpenSpec.ofChange s with cond := some uptoSmall }

/-- 'laws.FnWins', WHERE WHAT IT READS IS OF BULK AT MOST 1048576: true; the input reads as it did. -/
def fnWinsUptoRow : OpenClaim := { program := "ytdfdhijbafalaaa", sum := "86d55d21db2d51a12ef65ab1e521e56caa5c9bc4854b01f91d62a8f651c82c69", func := "loop.example/g00478/laws.FnWins", spec := "fnWins", apart := false, narrowed := true }
def FnWinsUptoSaid : Prop := fnWinsUptoRow.holds Try.pinned (OpenSpec.upto fnWinsSpec)

/-- 'laws.FnWinsBent', WHERE WHAT IT READS IS OF BULK AT MOST 1048576: true; the input reads as it did. -/
def fnWinsBentUptoRow : OpenClaim := { program := "ytdfdhijbafalaaa", sum := "86d55d21db2d51a12ef65ab1e521e56caa5c9bc4854b01f91d62a8f651c82c69", func := "loop.example/g00478/laws.FnWinsBent", spec := "fnWinsBent", apart := false, narrowed := true }
def FnWinsBentUptoSaid : Prop := fnWinsBentUptoRow.holds Try.pinned (OpenSpec.upto fnWinsBentSpec)

/-- 'laws.FnBlocks', WHERE WHAT IT READS IS OF BULK AT MOST 1048576: true; the input reads as it did. -/
def fnBlocksUptoRow : OpenClaim := { program := "ytdfdhijbafalaaa", sum := "86d55d21db2d51a12ef65ab1e521e56caa5c9bc4854b01f91d62a8f651c82c69", func := "loop.example/g00478/laws.FnBlocks", spec := "fnBlocks", apart := false, narrowed := true }
def FnBlocksUptoSaid : Prop := fnBlocksUptoRow.holds Try.pinned (OpenSpec.upto fnBlocksSpec)

end Rows
end Go.Proofs.Ytdfdhijbafalaaa
