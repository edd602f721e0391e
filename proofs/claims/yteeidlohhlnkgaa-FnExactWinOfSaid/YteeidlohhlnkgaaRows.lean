/-
  No cell of these rows narrows 'for every input' (looked for: loops, veiled, ifaces, maps, wideKeys, modest, calm, conditions, laid).
  DERIVED. THE GIVEN ROWS OF THIS SEAT. 6 by the template 'for every input the law returns true; each argument reads behind the call as it read before'; 0 by the template 'total and deterministic' (their statements: YteeidlohhlnkgaaTotals.lean).
  GIVEN WITH THE SEED: the statements are not yours to turn. If you find one false, say at which input.
  Laid BY PROGRAM, IN A SANDBOX (cutbox-rows.mjs): the forced cells as the released guide's own fill.sh prints them over the translation 2890dd2ab85cc78f… (all of the seat's roots in one cut). By AI agents, Wed Nov 11 2026. No macro, syntax, notation, axiom, sorry.
-/
import Derived.Test.YteeidlohhlnkgaaChecked
import GoSem.Claim
import GoSem.ClaimJoined
import GoSem.ClaimMapViews
import Derived.JoinedTies
import Derived.KernelRfl
namespace Go.Proofs.Yteeidlohhlnkgaa
/- THE CELL 'sum', in the pinned program and in every row, IS THE sha256 OF THE DUMP (.gsa) THAT YteeidlohhlnkgaaProg.lean LOADS. Nothing in Lean hashes anything: it is a label: what it is worth is what the hold of that sum in a sandbox is worth. -/
noncomputable def Try.pinned : Pinned := { name := "yteeidlohhlnkgaa", sum := "2890dd2ab85cc78f5799c9f16394bca48f09ec8f34587641c071889e87271efa", checked := Try.checked }
namespace Rows
def none {H : Type} : Left H := { results := [], args := [] }

/-- 'laws.FnExactWinOk': WHATEVER THE INPUT: true; the input reads as it did. -/
def fnExactWinOkSpec : ChangeSpec := { name := "fnExactWinOk", fn := fun _ => fun
  | [d] => { results := [.lit (.bool true)], args := [d] }
  | _ => none }
def fnExactWinOkRow : OpenClaim := { program := "yteeidlohhlnkgaa", sum := "2890dd2ab85cc78f5799c9f16394bca48f09ec8f34587641c071889e87271efa", func := "loop.example/g00478/laws.FnExactWinOk", spec := "fnExactWinOk", apart := false }
def FnExactWinOkSaid : Prop := fnExactWinOkRow.holds Try.pinned (OpenSpec.ofChange fnExactWinOkSpec)

/-- ITS FALSE NEIGHBOUR: 'it returns false'. Refute it at one input. -/
def fnExactWinOkWrong : ChangeSpec := { name := "fnExactWinOk", fn := fun _ => fun
  | [d] => { results := [.lit (.bool false)], args := [d] }
  | _ => none }
def FnExactWinOkWrongFalsely : Prop := fnExactWinOkRow.holds Try.pinned (OpenSpec.ofChange fnExactWinOkWrong)

/-- 'laws.FnExactWinHas': WHATEVER THE INPUT: true; the input reads as it did. -/
def fnExactWinHasSpec : ChangeSpec := { name := "fnExactWinHas", fn := fun _ => fun
  | [d1, d2] => { results := [.lit (.bool true)], args := [d1, d2] }
  | _ => none }
def fnExactWinHasRow : OpenClaim := { program := "yteeidlohhlnkgaa", sum := "2890dd2ab85cc78f5799c9f16394bca48f09ec8f34587641c071889e87271efa", func := "loop.example/g00478/laws.FnExactWinHas", spec := "fnExactWinHas", apart := false }
def FnExactWinHasSaid : Prop := fnExactWinHasRow.holds Try.pinned (OpenSpec.ofChange fnExactWinHasSpec)

/-- ITS FALSE NEIGHBOUR: 'it returns false'. Refute it at one input. -/
def fnExactWinHasWrong : ChangeSpec := { name := "fnExactWinHas", fn := fun _ => fun
  | [d1, d2] => { results := [.lit (.bool false)], args := [d1, d2] }
  | _ => none }
def FnExactWinHasWrongFalsely : Prop := fnExactWinHasRow.holds Try.pinned (OpenSpec.ofChange fnExactWinHasWrong)

/-- 'laws.FnExactWinMay': WHATEVER THE INPUT: true; the input reads as it did. -/
def fnExactWinMaySpec : ChangeSpec := { name := "fnExactWinMay", fn := fun _ => fun
  | [d1, d2] => { results := [.lit (.bool true)], args := [d1, d2] }
  | _ => none }
def fnExactWinMayRow : OpenClaim := { program := "yteeidlohhlnkgaa", sum := "2890dd2ab85cc78f5799c9f16394bca48f09ec8f34587641c071889e87271efa", func := "loop.example/g00478/laws.FnExactWinMay", spec := "fnExactWinMay", apart := false }
def FnExactWinMaySaid : Prop := fnExactWinMayRow.holds Try.pinned (OpenSpec.ofChange fnExactWinMaySpec)

/-- ITS FALSE NEIGHBOUR: 'it returns false'. Refute it at one input. -/
def fnExactWinMayWrong : ChangeSpec := { name := "fnExactWinMay", fn := fun _ => fun
  | [d1, d2] => { results := [.lit (.bool false)], args := [d1, d2] }
  | _ => none }
def FnExactWinMayWrongFalsely : Prop := fnExactWinMayRow.holds Try.pinned (OpenSpec.ofChange fnExactWinMayWrong)

/-- 'laws.FnExactWinList': WHATEVER THE INPUT: true; the input reads as it did. -/
def fnExactWinListSpec : ChangeSpec := { name := "fnExactWinList", fn := fun _ => fun
  | [d] => { results := [.lit (.bool true)], args := [d] }
  | _ => none }
def fnExactWinListRow : OpenClaim := { program := "yteeidlohhlnkgaa", sum := "2890dd2ab85cc78f5799c9f16394bca48f09ec8f34587641c071889e87271efa", func := "loop.example/g00478/laws.FnExactWinList", spec := "fnExactWinList", apart := false }
def FnExactWinListSaid : Prop := fnExactWinListRow.holds Try.pinned (OpenSpec.ofChange fnExactWinListSpec)

/-- ITS FALSE NEIGHBOUR: 'it returns false'. Refute it at one input. -/
def fnExactWinListWrong : ChangeSpec := { name := "fnExactWinList", fn := fun _ => fun
  | [d] => { results := [.lit (.bool false)], args := [d] }
  | _ => none }
def FnExactWinListWrongFalsely : Prop := fnExactWinListRow.holds Try.pinned (OpenSpec.ofChange fnExactWinListWrong)

/-- 'laws.FnExactWinAdd': WHATEVER THE INPUT: true; the input reads as it did. -/
def fnExactWinAddSpec : ChangeSpec := { name := "fnExactWinAdd", fn := fun _ => fun
  | [d1, d2] => { results := [.lit (.bool true)], args := [d1, d2] }
  | _ => none }
def fnExactWinAddRow : OpenClaim := { program := "yteeidlohhlnkgaa", sum := "2890dd2ab85cc78f5799c9f16394bca48f09ec8f34587641c071889e87271efa", func := "loop.example/g00478/laws.FnExactWinAdd", spec := "fnExactWinAdd", apart := false }
def FnExactWinAddSaid : Prop := fnExactWinAddRow.holds Try.pinned (OpenSpec.ofChange fnExactWinAddSpec)

/-- ITS FALSE NEIGHBOUR: 'it returns false'. Refute it at one input. -/
def fnExactWinAddWrong : ChangeSpec := { name := "fnExactWinAdd", fn := fun _ => fun
  | [d1, d2] => { results := [.lit (.bool false)], args := [d1, d2] }
  | _ => none }
def FnExactWinAddWrongFalsely : Prop := fnExactWinAddRow.holds Try.pinned (OpenSpec.ofChange fnExactWinAddWrong)

/-- 'laws.FnExactWinOf': WHATEVER THE INPUT: true; the input reads as it did. -/
def fnExactWinOfSpec : ChangeSpec := { name := "fnExactWinOf", fn := fun _ => fun
  | [d] => { results := [.lit (.bool true)], args := [d] }
  | _ => none }
def fnExactWinOfRow : OpenClaim := { program := "yteeidlohhlnkgaa", sum := "2890dd2ab85cc78f5799c9f16394bca48f09ec8f34587641c071889e87271efa", func := "loop.example/g00478/laws.FnExactWinOf", spec := "fnExactWinOf", apart := false }
def FnExactWinOfSaid : Prop := fnExactWinOfRow.holds Try.pinned (OpenSpec.ofChange fnExactWinOfSpec)

/-- ITS FALSE NEIGHBOUR: 'it returns false'. Refute it at one input. -/
def fnExactWinOfWrong : ChangeSpec := { name := "fnExactWinOf", fn := fun _ => fun
  | [d] => { results := [.lit (.bool false)], args := [d] }
  | _ => none }
def FnExactWinOfWrongFalsely : Prop := fnExactWinOfRow.holds Try.pinned (OpenSpec.ofChange fnExactWinOfWrong)

/- THE SECOND FORM. 'bulk': how many values and letters a reading holds, each counted each time it is reached (what is shared counts as often as it is met; a slice's spare places count too). A statement '..UptoSaid' is the law's where the arguments, and the package variables that the reading takes, are together of bulk at most 1048576: NARROWER than '..Said'. Prove '..Said' where nothing that the law and all that it calls make is longer than what came in: it says more and counts as full. Else prove '..UptoSaid'. A law counts once. -/
mutual
def uptoBulk {H : Type} : DataW H → Nat
  | .lit (.string bytes) => bytes.length + 1
  | .lit _ => 1
  | .nil => 1
  | .ptr d => uptoBulk d + 1
  | .slice elems spare => uptoBulkAll elems + uptoBulkAll spare + 1
  | .agg parts => uptoBulkAll parts + 1
  | .iface _ d => uptoBulk d + 1
  | .map entries => uptoBulkEntries entries + 1
  | .held _ => 1
def uptoBulkAll {H : Type} : List (DataW H) → Nat
  | [] => 0
  | d :: r => uptoBulk d + uptoBulkAll r
def uptoBulkEntries {H : Type} : List (Lit × DataW H) → Nat
  | [] => 0
  | x :: r => uptoBulkEntry x + uptoBulkEntries r
def uptoBulkEntry {H : Type} : Lit × DataW H → Nat
  | (.string bytes, d) => bytes.length + uptoBulk d + 1
  | (_, d) => uptoBulk d + 1
 end
def uptoSmall : (H : Type) → List (DataW H) → Bool := fun _ ds => decide (uptoBulkAll ds ≤ 1048576)
def OpenSpec.upto (s : _root_.Go.ChangeSpec) : _root_.Go.OpenSpec := { _root_.Go.OpenSpec.ofChange s with cond := some uptoSmall }

/-- 'laws.FnExactWinOk', WHERE WHAT IT READS IS OF BULK AT MOST 1048576: true; the input reads as it did. -/
def fnExactWinOkUptoRow : OpenClaim := { program := "yteeidlohhlnkgaa", sum := "2890dd2ab85cc78f5799c9f16394bca48f09ec8f34587641c071889e87271efa", func := "loop.example/g00478/laws.FnExactWinOk", spec := "fnExactWinOk", apart := false, narrowed := true }
def FnExactWinOkUptoSaid : Prop := fnExactWinOkUptoRow.holds Try.pinned (OpenSpec.upto fnExactWinOkSpec)

/-- 'laws.FnExactWinHas', WHERE WHAT IT READS IS OF BULK AT MOST 1048576: true; the input reads as it did. -/
def fnExactWinHasUptoRow : OpenClaim := { program := "yteeidlohhlnkgaa", sum := "2890dd2ab85cc78f5799c9f16394bca48f09ec8f34587641c071889e87271efa", func := "loop.example/g00478/laws.FnExactWinHas", spec := "fnExactWinHas", apart := false, narrowed := true }
def FnExactWinHasUptoSaid : Prop := fnExactWinHasUptoRow.holds Try.pinned (OpenSpec.upto fnExactWinHasSpec)

/-- 'laws.FnExactWinMay', WHERE WHAT IT READS IS OF BULK AT MOST 1048576: true; the input reads as it did. -/
def fnExactWinMayUptoRow : OpenClaim := { program := "yteeidlohhlnkgaa", sum := "2890dd2ab85cc78f5799c9f16394bca48f09ec8f34587641c071889e87271efa", func := "loop.example/g00478/laws.FnExactWinMay", spec := "fnExactWinMay", apart := false, narrowed := true }
def FnExactWinMayUptoSaid : Prop := fnExactWinMayUptoRow.holds Try.pinned (OpenSpec.upto fnExactWinMaySpec)

/-- 'laws.FnExactWinList', WHERE WHAT IT READS IS OF BULK AT MOST 1048576: true; the input reads as it did. -/
def fnExactWinListUptoRow : OpenClaim := { program := "yteeidlohhlnkgaa", sum := "2890dd2ab85cc78f5799c9f16394bca48f09ec8f34587641c071889e87271efa", func := "loop.example/g00478/laws.FnExactWinList", spec := "fnExactWinList", apart := false, narrowed := true }
def FnExactWinListUptoSaid : Prop := fnExactWinListUptoRow.holds Try.pinned (OpenSpec.upto fnExactWinListSpec)

/-- 'laws.FnExactWinAdd', WHERE WHAT IT READS IS OF BULK AT MOST 1048576: true; the input reads as it did. -/
def fnExactWinAddUptoRow : OpenClaim := { program := "yteeidlohhlnkgaa", sum := "2890dd2ab85cc78f5799c9f16394bca48f09ec8f34587641c071889e87271efa", func := "loop.example/g00478/laws.FnExactWinAdd", spec := "fnExactWinAdd", apart := false, narrowed := true }
def FnExactWinAddUptoSaid : Prop := fnExactWinAddUptoRow.holds Try.pinned (OpenSpec.upto fnExactWinAddSpec)

/-- 'laws.FnExactWinOf', WHERE WHAT IT READS IS OF BULK AT MOST 1048576: true; the input reads as it did. -/
def fnExactWinOfUptoRow : OpenClaim := { program := "yteeidlohhlnkgaa", sum := "2890dd2ab85cc78f5799c9f16394bca48f09ec8f34587641c071889e87271efa", func := "loop.example/g00478/laws.FnExactWinOf", spec := "fnExactWinOf", apart := false, narrowed := true }
def FnExactWinOfUptoSaid : Prop := fnExactWinOfUptoRow.holds Try.pinned (OpenSpec.upto fnExactWinOfSpec)

end Rows
end Go.Proofs.Yteeidlohhlnkgaa
