/-
  No cell of these rows narrows 'for every input' (looked for: loops, veiled, ifaces, maps, wideKeys, modest, calm, conditions, laid).
  DERIVED. THE GIVEN ROWS OF THIS SEAT. 4 by the template 'for every input the law returns true; each argument reads behind the call as it read before'; 0 by the template 'total and deterministic' (their statements: YtbgppcjifcladaaGreatTotals.lean).
  GIVEN WITH THE SEED: the statements are not yours to turn. If you find one false, say at which input.
  Laid BY PROGRAM, IN A SANDBOX (cutbox-rows.mjs): the forced cells as the released guide's own fill.sh prints them over the translation 8c817e6d2e8224da… (all of the seat's roots in one cut). By AI agents, Wed Nov 11 2026. No macro, syntax, notation, axiom, sorry.
-/
import Derived.Test.YtbgppcjifcladaaGreatChecked
import GoSem.Claim
import GoSem.ClaimJoined
import GoSem.ClaimMapViews
import Derived.JoinedTies
import Derived.KernelRfl
namespace Go.Proofs.YtbgppcjifcladaaGreat
/- THE CELL 'sum', in the pinned program and in every row, IS THE sha256 OF THE DUMP (.gsa) THAT YtbgppcjifcladaaGreatProg.lean LOADS. Nothing in Lean hashes anything: it is a label: what it is worth is what the hold of that sum in a sandbox is worth. -/
noncomputable def Tryz.pinned : Pinned := { name := "ytbgppcjifcladaagreat", sum := "8c817e6d2e8224da88dd4ea9a74d04abc64c25ad6f909c72336559b5d0ffef5b", checked := Tryz.checked }
namespace Rows
def none {H : Type} : Left H := { results := [], args := [] }

/-- 'wreckagelaw30.WalkNames': WHATEVER THE INPUT: true; the input reads as it did. -/
def walkNamesSpec : ChangeSpec := { name := "walkNames", fn := fun _ => fun
  | [] => { results := [.lit (.bool true)], args := [] }
  | _ => none }
def walkNamesRow : OpenClaim := { program := "ytbgppcjifcladaagreat", sum := "8c817e6d2e8224da88dd4ea9a74d04abc64c25ad6f909c72336559b5d0ffef5b", func := "wreckage/wreckagelaw30.WalkNames", spec := "walkNames", unfollowed := true, recurses := true, apart := false }
def WalkNamesSaid : Prop := walkNamesRow.holds Tryz.pinned (OpenSpec.ofChange walkNamesSpec)

/-- ITS FALSE NEIGHBOUR: 'it returns false'. Refute it at one input. -/
def walkNamesWrong : ChangeSpec := { name := "walkNames", fn := fun _ => fun
  | [] => { results := [.lit (.bool false)], args := [] }
  | _ => none }
def WalkNamesWrongFalsely : Prop := walkNamesRow.holds Tryz.pinned (OpenSpec.ofChange walkNamesWrong)

/-- 'wreckagelaw31.ChainNames': WHATEVER THE INPUT: true; the input reads as it did. -/
def chainNamesSpec : ChangeSpec := { name := "chainNames", fn := fun _ => fun
  | [] => { results := [.lit (.bool true)], args := [] }
  | _ => none }
def chainNamesRow : OpenClaim := { program := "ytbgppcjifcladaagreat", sum := "8c817e6d2e8224da88dd4ea9a74d04abc64c25ad6f909c72336559b5d0ffef5b", func := "wreckage/wreckagelaw31.ChainNames", spec := "chainNames", unfollowed := true, recurses := true, apart := false }
def ChainNamesSaid : Prop := chainNamesRow.holds Tryz.pinned (OpenSpec.ofChange chainNamesSpec)

/-- ITS FALSE NEIGHBOUR: 'it returns false'. Refute it at one input. -/
def chainNamesWrong : ChangeSpec := { name := "chainNames", fn := fun _ => fun
  | [] => { results := [.lit (.bool false)], args := [] }
  | _ => none }
def ChainNamesWrongFalsely : Prop := chainNamesRow.holds Tryz.pinned (OpenSpec.ofChange chainNamesWrong)

/-- 'wreckagelaw28.DumpNames': WHATEVER THE INPUT: true; the input reads as it did. -/
def dumpNamesSpec : ChangeSpec := { name := "dumpNames", fn := fun _ => fun
  | [] => { results := [.lit (.bool true)], args := [] }
  | _ => none }
def dumpNamesRow : OpenClaim := { program := "ytbgppcjifcladaagreat", sum := "8c817e6d2e8224da88dd4ea9a74d04abc64c25ad6f909c72336559b5d0ffef5b", func := "wreckage/wreckagelaw28.DumpNames", spec := "dumpNames", unfollowed := true, recurses := true, apart := false }
def DumpNamesSaid : Prop := dumpNamesRow.holds Tryz.pinned (OpenSpec.ofChange dumpNamesSpec)

/-- ITS FALSE NEIGHBOUR: 'it returns false'. Refute it at one input. -/
def dumpNamesWrong : ChangeSpec := { name := "dumpNames", fn := fun _ => fun
  | [] => { results := [.lit (.bool false)], args := [] }
  | _ => none }
def DumpNamesWrongFalsely : Prop := dumpNamesRow.holds Tryz.pinned (OpenSpec.ofChange dumpNamesWrong)

/-- 'wreckagelaw32.LocalsNames': WHATEVER THE INPUT: true; the input reads as it did. -/
def localsNamesSpec : ChangeSpec := { name := "localsNames", fn := fun _ => fun
  | [] => { results := [.lit (.bool true)], args := [] }
  | _ => none }
def localsNamesRow : OpenClaim := { program := "ytbgppcjifcladaagreat", sum := "8c817e6d2e8224da88dd4ea9a74d04abc64c25ad6f909c72336559b5d0ffef5b", func := "wreckage/wreckagelaw32.LocalsNames", spec := "localsNames", unfollowed := true, recurses := true, apart := false }
def LocalsNamesSaid : Prop := localsNamesRow.holds Tryz.pinned (OpenSpec.ofChange localsNamesSpec)

/-- ITS FALSE NEIGHBOUR: 'it returns false'. Refute it at one input. -/
def localsNamesWrong : ChangeSpec := { name := "localsNames", fn := fun _ => fun
  | [] => { results := [.lit (.bool false)], args := [] }
  | _ => none }
def LocalsNamesWrongFalsely : Prop := localsNamesRow.holds Tryz.pinned (OpenSpec.ofChange localsNamesWrong)

/- THE SECOND FORM. 'bulk': how many values and letters a reading holds, each counted each time it is reached (what is shared counts as often as it is met; a slice's spare places count too). A statement '..UptoSaid' is the law's where the arguments, and the package variables that the reading takes, are together of bulk at most 1048576: NARROWER than '..Said'. Prove '..Said' where nothing that the law and all that it calls make is longer than what came in: it says more and counts as full. Else prove '..UptoSaid'. A law counts once. -/
mutual
def uptoBulk {H : Type} : DataW H → Nat
  | .lit (.string bytes) => bytes.length + 1
  | .lit _ => 1
  | .nil => 1
  | .ptr d => uptoBulk d + 1
  | .slice elems spare => uptoBulkAll elems + uptoBulkAll spare + 1
  | .agg parts => uptoBulkAll parts + 1
  | .iface _ d => uptoBulk d + 1
  | .map entries => uptoBulkEntries entries + 1
  | .held _ => 1
def uptoBulkAll {H : Type} : List (DataW H) → Nat
  | [] => 0
  | d :: r => uptoBulk d + uptoBulkAll r
def uptoBulkEntries {H : Type} : List (Lit × DataW H) → Nat
  | [] => 0
  | x :: r => uptoBulkEntry x + uptoBulkEntries r
def uptoBulkEntry {H : Type} : Lit × DataW H → Nat
  | (.string bytes, d) => bytes.length + uptoBulk d + 1
  | (_, d) => uptoBulk d + 1
 end
def uptoSmall : (H : Type) → List (DataW H) → Bool := fun _ ds => decide (uptoBulkAll ds ≤ 1048576)
def OpenSpec.upto (s : _root_.Go.ChangeSpec) : _root_.Go.OpenSpec := { _root_.Go.OpenSpec.ofChange s with cond := some uptoSmall }

/-- 'wreckagelaw30.WalkNames', WHERE WHAT IT READS IS OF BULK AT MOST 1048576: true; the input reads as it did. -/
def walkNamesUptoRow : OpenClaim := { program := "ytbgppcjifcladaagreat", sum := "8c817e6d2e8224da88dd4ea9a74d04abc64c25ad6f909c72336559b5d0ffef5b", func := "wreckage/wreckagelaw30.WalkNames", spec := "walkNames", unfollowed := true, recurses := true, apart := false, narrowed := true }
def WalkNamesUptoSaid : Prop := walkNamesUptoRow.holds Tryz.pinned (OpenSpec.upto walkNamesSpec)

/-- 'wreckagelaw31.ChainNames', WHERE WHAT IT READS IS OF BULK AT MOST 1048576: true; the input reads as it did. -/
def chainNamesUptoRow : OpenClaim := { program := "ytbgppcjifcladaagreat", sum := "8c817e6d2e8224da88dd4ea9a74d04abc64c25ad6f909c72336559b5d0ffef5b", func := "wreckage/wreckagelaw31.ChainNames", spec := "chainNames", unfollowed := true, recurses := true, apart := false, narrowed := true }
def ChainNamesUptoSaid : Prop := chainNamesUptoRow.holds Tryz.pinned (OpenSpec.upto chainNamesSpec)

/-- 'wreckagelaw28.DumpNames', WHERE WHAT IT READS IS OF BULK AT MOST 1048576: true; the input reads as it did. -/
def dumpNamesUptoRow : OpenClaim := { program := "ytbgppcjifcladaagreat", sum := "8c817e6d2e8224da88dd4ea9a74d04abc64c25ad6f909c72336559b5d0ffef5b", func := "wreckage/wreckagelaw28.DumpNames", spec := "dumpNames", unfollowed := true, recurses := true, apart := false, narrowed := true }
def DumpNamesUptoSaid : Prop := dumpNamesUptoRow.holds Tryz.pinned (OpenSpec.upto dumpNamesSpec)

/-- 'wreckagelaw32.LocalsNames', WHERE WHAT IT READS IS OF BULK AT MOST 1048576: true; the input reads as it did. -/
def localsNamesUptoRow : OpenClaim := { program := "ytbgppcjifcladaagreat", sum := "8c817e6d2e8224da88dd4ea9a74d04abc64c25ad6f909c72336559b5d0ffef5b", func := "wreckage/wreckagelaw32.LocalsNames", spec := "localsNames", unfollowed := true, recurses := true, apart := false, narrowed := true }
def LocalsNamesUptoSaid : Prop := localsNamesUptoRow.holds Tryz.pinned (OpenSpec.upto localsNamesSpec)

end Rows
end Go.Proofs.YtbgppcjifcladaaGreat
