/-
  No cell of these rows narrows 'for every input' (looked for: loops, veiled, ifaces, maps, wideKeys, modest, calm, conditions, laid).
  DERIVED. THE GIVEN ROWS OF THIS SEAT. 5 by the template 'for every input the law returns true; each argument reads behind the call as it read before'; 0 by the template 'total and deterministic' (their statements: YtgdhciebmcpkaaaTotals.lean).
  GIVEN WITH THE SEED: the statements are not yours to turn. If you find one false, say at which input.
  Laid BY PROGRAM, IN A SANDBOX (cutbox-rows.mjs): the forced cells as the released guide's own fill.sh prints them over the translation 14a94f7ec86d1448… (all of the seat's roots in one cut). By AI agents, Wed Nov 11 2026. No macro, syntax, notation, axiom, sorry.
-/
import Derived.Test.YtgdhciebmcpkaaaChecked
import GoSem.Claim
import GoSem.ClaimJoined
import GoSem.ClaimMapViews
import Derived.JoinedTies
import Derived.KernelRfl
namespace Go.Proofs.Ytgdhciebmcpkaaa
/- THE CELL 'sum', in the pinned program and in every row, IS THE sha256 OF THE DUMP (.gsa) THAT YtgdhciebmcpkaaaProg.lean LOADS. Nothing in Lean hashes anything: it is a label: what it is worth is what the hold of that sum in a sandbox is worth. -/
noncomputable def Try.pinned : Pinned := { name := "ytgdhciebmcpkaaa", sum := "14a94f7ec86d1448fe5c0f0273361f7ba6fb3296638a57d51dd6a35b7e495999", checked := Try.checked }
namespace Rows
def none {H : Type} : Left H := { results := [], args := [] }

/-- 'laws.FnExactFresh': WHATEVER THE INPUT: true; the input reads as it did. -/
def fnExactFreshSpec : ChangeSpec := { name := "fnExactFresh", fn := fun _ => fun
  | [d1, d2] => { results := [.lit (.bool true)], args := [d1, d2] }
  | _ => none }
def fnExactFreshRow : OpenClaim := { program := "ytgdhciebmcpkaaa", sum := "14a94f7ec86d1448fe5c0f0273361f7ba6fb3296638a57d51dd6a35b7e495999", func := "loop.example/g00478/laws.FnExactFresh", spec := "fnExactFresh", apart := false }
def FnExactFreshSaid : Prop := fnExactFreshRow.holds Try.pinned (OpenSpec.ofChange fnExactFreshSpec)

/-- ITS FALSE NEIGHBOUR: 'it returns false'. Refute it at one input. -/
def fnExactFreshWrong : ChangeSpec := { name := "fnExactFresh", fn := fun _ => fun
  | [d1, d2] => { results := [.lit (.bool false)], args := [d1, d2] }
  | _ => none }
def FnExactFreshWrongFalsely : Prop := fnExactFreshRow.holds Try.pinned (OpenSpec.ofChange fnExactFreshWrong)

/-- 'laws.FnExactPskOk': WHATEVER THE INPUT: true; the input reads as it did. -/
def fnExactPskOkSpec : ChangeSpec := { name := "fnExactPskOk", fn := fun _ => fun
  | [d] => { results := [.lit (.bool true)], args := [d] }
  | _ => none }
def fnExactPskOkRow : OpenClaim := { program := "ytgdhciebmcpkaaa", sum := "14a94f7ec86d1448fe5c0f0273361f7ba6fb3296638a57d51dd6a35b7e495999", func := "loop.example/g00478/laws.FnExactPskOk", spec := "fnExactPskOk", apart := false }
def FnExactPskOkSaid : Prop := fnExactPskOkRow.holds Try.pinned (OpenSpec.ofChange fnExactPskOkSpec)

/-- ITS FALSE NEIGHBOUR: 'it returns false'. Refute it at one input. -/
def fnExactPskOkWrong : ChangeSpec := { name := "fnExactPskOk", fn := fun _ => fun
  | [d] => { results := [.lit (.bool false)], args := [d] }
  | _ => none }
def FnExactPskOkWrongFalsely : Prop := fnExactPskOkRow.holds Try.pinned (OpenSpec.ofChange fnExactPskOkWrong)

/-- 'laws.FnExactJarOk': WHATEVER THE INPUT: true; the input reads as it did. -/
def fnExactJarOkSpec : ChangeSpec := { name := "fnExactJarOk", fn := fun _ => fun
  | [d] => { results := [.lit (.bool true)], args := [d] }
  | _ => none }
def fnExactJarOkRow : OpenClaim := { program := "ytgdhciebmcpkaaa", sum := "14a94f7ec86d1448fe5c0f0273361f7ba6fb3296638a57d51dd6a35b7e495999", func := "loop.example/g00478/laws.FnExactJarOk", spec := "fnExactJarOk", apart := false }
def FnExactJarOkSaid : Prop := fnExactJarOkRow.holds Try.pinned (OpenSpec.ofChange fnExactJarOkSpec)

/-- ITS FALSE NEIGHBOUR: 'it returns false'. Refute it at one input. -/
def fnExactJarOkWrong : ChangeSpec := { name := "fnExactJarOk", fn := fun _ => fun
  | [d] => { results := [.lit (.bool false)], args := [d] }
  | _ => none }
def FnExactJarOkWrongFalsely : Prop := fnExactJarOkRow.holds Try.pinned (OpenSpec.ofChange fnExactJarOkWrong)

/-- 'laws.FnExactDiceOk': WHATEVER THE INPUT: true; the input reads as it did. -/
def fnExactDiceOkSpec : ChangeSpec := { name := "fnExactDiceOk", fn := fun _ => fun
  | [d] => { results := [.lit (.bool true)], args := [d] }
  | _ => none }
def fnExactDiceOkRow : OpenClaim := { program := "ytgdhciebmcpkaaa", sum := "14a94f7ec86d1448fe5c0f0273361f7ba6fb3296638a57d51dd6a35b7e495999", func := "loop.example/g00478/laws.FnExactDiceOk", spec := "fnExactDiceOk", apart := false }
def FnExactDiceOkSaid : Prop := fnExactDiceOkRow.holds Try.pinned (OpenSpec.ofChange fnExactDiceOkSpec)

/-- ITS FALSE NEIGHBOUR: 'it returns false'. Refute it at one input. -/
def fnExactDiceOkWrong : ChangeSpec := { name := "fnExactDiceOk", fn := fun _ => fun
  | [d] => { results := [.lit (.bool false)], args := [d] }
  | _ => none }
def FnExactDiceOkWrongFalsely : Prop := fnExactDiceOkRow.holds Try.pinned (OpenSpec.ofChange fnExactDiceOkWrong)

/-- 'laws.FnExactWinNew': WHATEVER THE INPUT: true; the input reads as it did. -/
def fnExactWinNewSpec : ChangeSpec := { name := "fnExactWinNew", fn := fun _ => fun
  | [] => { results := [.lit (.bool true)], args := [] }
  | _ => none }
def fnExactWinNewRow : OpenClaim := { program := "ytgdhciebmcpkaaa", sum := "14a94f7ec86d1448fe5c0f0273361f7ba6fb3296638a57d51dd6a35b7e495999", func := "loop.example/g00478/laws.FnExactWinNew", spec := "fnExactWinNew", apart := false }
def FnExactWinNewSaid : Prop := fnExactWinNewRow.holds Try.pinned (OpenSpec.ofChange fnExactWinNewSpec)

/-- ITS FALSE NEIGHBOUR: 'it returns false'. Refute it at one input. -/
def fnExactWinNewWrong : ChangeSpec := { name := "fnExactWinNew", fn := fun _ => fun
  | [] => { results := [.lit (.bool false)], args := [] }
  | _ => none }
def FnExactWinNewWrongFalsely : Prop := fnExactWinNewRow.holds Try.pinned (OpenSpec.ofChange fnExactWinNewWrong)

/- THE SECOND FORM. 'bulk': how many values and letters a reading holds, each counted each time it is reached (what is shared counts as often as it is met; a slice's spare places count too). A statement '..UptoSaid' is the law's where the arguments, and the package variables that the reading takes, are together of bulk at most 1048576: NARROWER than '..Said'. Prove '..Said' where nothing that the law and all that it calls make is longer than what came in: it says more and counts as full. Else prove '..UptoSaid'. A law counts once. -/
mutual
def uptoBulk {H : Type} : DataW H → Nat
  | .lit (.string bytes) => bytes.length + 1
  | .lit _ => 1
  | .nil => 1
  | .ptr d => uptoBulk d + 1
  | .slice elems spare => uptoBulkAll elems + uptoBulkAll spare + 1
  | .agg parts => uptoBulkAll parts + 1
  | .iface _ d => uptoBulk d + 1
  | .map entries => uptoBulkEntries entries + 1
  | .held _ => 1
def uptoBulkAll {H : Type} : List (DataW H) → Nat
  | [] => 0
  | d :: r => uptoBulk d + uptoBulkAll r
def uptoBulkEntries {H : Type} : List (Lit × DataW H) → Nat
  | [] => 0
  | x :: r => uptoBulkEntry x + uptoBulkEntries r
def uptoBulkEntry {H : Type} : Lit × DataW H → Nat
  | (.string bytes, d) => bytes.length + uptoBulk d + 1
  | (_, d) => uptoBulk d + 1
 end
def uptoSmall : (H : Type) → List (DataW H) → Bool := fun _ ds => decide (uptoBulkAll ds ≤ 1048576)
def OpenSpec.upto (s : _root_.Go.ChangeSpec) : _root_.Go.OpenSpec := { _root_.Go.OpenSpec.ofChange s with cond := some uptoSmall }

/-- 'laws.FnExactFresh', WHERE WHAT IT READS IS OF BULK AT MOST 1048576: true; the input reads as it did. -/
def fnExactFreshUptoRow : OpenClaim := { program := "ytgdhciebmcpkaaa", sum := "14a94f7ec86d1448fe5c0f0273361f7ba6fb3296638a57d51dd6a35b7e495999", func := "loop.example/g00478/laws.FnExactFresh", spec := "fnExactFresh", apart := false, narrowed := true }
def FnExactFreshUptoSaid : Prop := fnExactFreshUptoRow.holds Try.pinned (OpenSpec.upto fnExactFreshSpec)

/-- 'laws.FnExactPskOk', WHERE WHAT IT READS IS OF BULK AT MOST 1048576: true; the input reads as it did. -/
def fnExactPskOkUptoRow : OpenClaim := { program := "ytgdhciebmcpkaaa", sum := "14a94f7ec86d1448fe5c0f0273361f7ba6fb3296638a57d51dd6a35b7e495999", func := "loop.example/g00478/laws.FnExactPskOk", spec := "fnExactPskOk", apart := false, narrowed := true }
def FnExactPskOkUptoSaid : Prop := fnExactPskOkUptoRow.holds Try.pinned (OpenSpec.upto fnExactPskOkSpec)

/-- 'laws.FnExactJarOk', WHERE WHAT IT READS IS OF BULK AT MOST 1048576: true; the input reads as it did. -/
def fnExactJarOkUptoRow : OpenClaim := { program := "ytgdhciebmcpkaaa", sum := "14a94f7ec86d1448fe5c0f0273361f7ba6fb3296638a57d51dd6a35b7e495999", func := "loop.example/g00478/laws.FnExactJarOk", spec := "fnExactJarOk", apart := false, narrowed := true }
def FnExactJarOkUptoSaid : Prop := fnExactJarOkUptoRow.holds Try.pinned (OpenSpec.upto fnExactJarOkSpec)

/-- 'laws.FnExactDiceOk', WHERE WHAT IT READS IS OF BULK AT MOST 1048576: true; the input reads as it did. -/
def fnExactDiceOkUptoRow : OpenClaim := { program := "ytgdhciebmcpkaaa", sum := "14a94f7ec86d1448fe5c0f0273361f7ba6fb3296638a57d51dd6a35b7e495999", func := "loop.example/g00478/laws.FnExactDiceOk", spec := "fnExactDiceOk", apart := false, narrowed := true }
def FnExactDiceOkUptoSaid : Prop := fnExactDiceOkUptoRow.holds Try.pinned (OpenSpec.upto fnExactDiceOkSpec)

/-- 'laws.FnExactWinNew', WHERE WHAT IT READS IS OF BULK AT MOST 1048576: true; the input reads as it did. -/
def fnExactWinNewUptoRow : OpenClaim := { program := "ytgdhciebmcpkaaa", sum := "14a94f7ec86d1448fe5c0f0273361f7ba6fb3296638a57d51dd6a35b7e495999", func := "loop.example/g00478/laws.FnExactWinNew", spec := "fnExactWinNew", apart := false, narrowed := true }
def FnExactWinNewUptoSaid : Prop := fnExactWinNewUptoRow.holds Try.pinned (OpenSpec.upto fnExactWinNewSpec)

end Rows
end Go.Proofs.Ytgdhciebmcpkaaa
