/-
  No cell of these rows narrows 'for every input' (looked for: loops, veiled, ifaces, maps, wideKeys, modest, calm, conditions, laid).
  DERIVED. THE GIVEN ROWS OF THIS SEAT. 6 by the template 'for every input the law returns true; each argument reads behind the call as it read before'; 0 by the template 'total and deterministic' (their statements: YtlmfkfmgnkjlaaaGreatTotals.lean).
  GIVEN WITH THE SEED: the statements are not yours to turn. If you find one false, say at which input.
  Laid BY PROGRAM, IN A SANDBOX (cutbox-rows.mjs): the forced cells as the released guide's own fill.sh prints them over the translation 9005230548d7a6d1… (all of the seat's roots in one cut). By AI agents, Wed Nov 11 2026. No macro, syntax, notation, axiom, sorry.
-/
import Derived.Test.YtlmfkfmgnkjlaaaGreatChecked
import GoSem.Claim
import GoSem.ClaimJoined
import GoSem.ClaimMapViews
import Derived.JoinedTies
import Derived.KernelRfl
namespace Go.Proofs.YtlmfkfmgnkjlaaaGreat
/- THE CELL 'sum', in the pinned program and in every row, IS THE sha256 OF THE DUMP (.gsa) THAT YtlmfkfmgnkjlaaaGreatProg.lean LOADS. Nothing in Lean hashes anything: it is a label: what it is worth is what the hold of that sum in a sandbox is worth. -/
noncomputable def Tryz.pinned : Pinned := { name := "ytlmfkfmgnkjlaaagreat", sum := "9005230548d7a6d10bfc84ae0e4870f8e069ad2dd015a416e246622e248729c1", checked := Tryz.checked }
namespace Rows
def none {H : Type} : Left H := { results := [], args := [] }

/-- 'wreckagelaw10.CheckMore': WHATEVER THE INPUT: true; the input reads as it did. -/
def checkMoreSpec : ChangeSpec := { name := "checkMore", fn := fun _ => fun
  | [d] => { results := [.lit (.bool true)], args := [d] }
  | _ => none }
def checkMoreRow : OpenClaim := { program := "ytlmfkfmgnkjlaaagreat", sum := "9005230548d7a6d10bfc84ae0e4870f8e069ad2dd015a416e246622e248729c1", func := "wreckage/wreckagelaw10.CheckMore", spec := "checkMore", unfollowed := true, recurses := true, apart := false }
def CheckMoreSaid : Prop := checkMoreRow.holds Tryz.pinned (OpenSpec.ofChange checkMoreSpec)

/-- ITS FALSE NEIGHBOUR: 'it returns false'. Refute it at one input. -/
def checkMoreWrong : ChangeSpec := { name := "checkMore", fn := fun _ => fun
  | [d] => { results := [.lit (.bool false)], args := [d] }
  | _ => none }
def CheckMoreWrongFalsely : Prop := checkMoreRow.holds Tryz.pinned (OpenSpec.ofChange checkMoreWrong)

/-- 'wreckagelaw10.CheckWalk': WHATEVER THE INPUT: true; the input reads as it did. -/
def checkWalkSpec : ChangeSpec := { name := "checkWalk", fn := fun _ => fun
  | [d1, d2, d3] => { results := [.lit (.bool true)], args := [d1, d2, d3] }
  | _ => none }
def checkWalkRow : OpenClaim := { program := "ytlmfkfmgnkjlaaagreat", sum := "9005230548d7a6d10bfc84ae0e4870f8e069ad2dd015a416e246622e248729c1", func := "wreckage/wreckagelaw10.CheckWalk", spec := "checkWalk", unfollowed := true, recurses := true, apart := false }
def CheckWalkSaid : Prop := checkWalkRow.holds Tryz.pinned (OpenSpec.ofChange checkWalkSpec)

/-- ITS FALSE NEIGHBOUR: 'it returns false'. Refute it at one input. -/
def checkWalkWrong : ChangeSpec := { name := "checkWalk", fn := fun _ => fun
  | [d1, d2, d3] => { results := [.lit (.bool false)], args := [d1, d2, d3] }
  | _ => none }
def CheckWalkWrongFalsely : Prop := checkWalkRow.holds Tryz.pinned (OpenSpec.ofChange checkWalkWrong)

/-- 'wreckagelaw10.CheckMends': WHATEVER THE INPUT: true; the input reads as it did. -/
def checkMendsSpec : ChangeSpec := { name := "checkMends", fn := fun _ => fun
  | [d] => { results := [.lit (.bool true)], args := [d] }
  | _ => none }
def checkMendsRow : OpenClaim := { program := "ytlmfkfmgnkjlaaagreat", sum := "9005230548d7a6d10bfc84ae0e4870f8e069ad2dd015a416e246622e248729c1", func := "wreckage/wreckagelaw10.CheckMends", spec := "checkMends", unfollowed := true, recurses := true, apart := false }
def CheckMendsSaid : Prop := checkMendsRow.holds Tryz.pinned (OpenSpec.ofChange checkMendsSpec)

/-- ITS FALSE NEIGHBOUR: 'it returns false'. Refute it at one input. -/
def checkMendsWrong : ChangeSpec := { name := "checkMends", fn := fun _ => fun
  | [d] => { results := [.lit (.bool false)], args := [d] }
  | _ => none }
def CheckMendsWrongFalsely : Prop := checkMendsRow.holds Tryz.pinned (OpenSpec.ofChange checkMendsWrong)

/-- 'wreckagelaw10.CheckFirst': WHATEVER THE INPUT: true; the input reads as it did. -/
def checkFirstSpec : ChangeSpec := { name := "checkFirst", fn := fun _ => fun
  | [d] => { results := [.lit (.bool true)], args := [d] }
  | _ => none }
def checkFirstRow : OpenClaim := { program := "ytlmfkfmgnkjlaaagreat", sum := "9005230548d7a6d10bfc84ae0e4870f8e069ad2dd015a416e246622e248729c1", func := "wreckage/wreckagelaw10.CheckFirst", spec := "checkFirst", unfollowed := true, recurses := true, apart := false }
def CheckFirstSaid : Prop := checkFirstRow.holds Tryz.pinned (OpenSpec.ofChange checkFirstSpec)

/-- ITS FALSE NEIGHBOUR: 'it returns false'. Refute it at one input. -/
def checkFirstWrong : ChangeSpec := { name := "checkFirst", fn := fun _ => fun
  | [d] => { results := [.lit (.bool false)], args := [d] }
  | _ => none }
def CheckFirstWrongFalsely : Prop := checkFirstRow.holds Tryz.pinned (OpenSpec.ofChange checkFirstWrong)

/-- 'wreckagelaw10.CheckNames': WHATEVER THE INPUT: true; the input reads as it did. -/
def checkNamesSpec : ChangeSpec := { name := "checkNames", fn := fun _ => fun
  | [] => { results := [.lit (.bool true)], args := [] }
  | _ => none }
def checkNamesRow : OpenClaim := { program := "ytlmfkfmgnkjlaaagreat", sum := "9005230548d7a6d10bfc84ae0e4870f8e069ad2dd015a416e246622e248729c1", func := "wreckage/wreckagelaw10.CheckNames", spec := "checkNames", unfollowed := true, recurses := true, apart := false }
def CheckNamesSaid : Prop := checkNamesRow.holds Tryz.pinned (OpenSpec.ofChange checkNamesSpec)

/-- ITS FALSE NEIGHBOUR: 'it returns false'. Refute it at one input. -/
def checkNamesWrong : ChangeSpec := { name := "checkNames", fn := fun _ => fun
  | [] => { results := [.lit (.bool false)], args := [] }
  | _ => none }
def CheckNamesWrongFalsely : Prop := checkNamesRow.holds Tryz.pinned (OpenSpec.ofChange checkNamesWrong)

/-- 'wreckagelaw10.CheckTells': WHATEVER THE INPUT: true; the input reads as it did. -/
def checkTellsSpec : ChangeSpec := { name := "checkTells", fn := fun _ => fun
  | [d1, d2, d3] => { results := [.lit (.bool true)], args := [d1, d2, d3] }
  | _ => none }
def checkTellsRow : OpenClaim := { program := "ytlmfkfmgnkjlaaagreat", sum := "9005230548d7a6d10bfc84ae0e4870f8e069ad2dd015a416e246622e248729c1", func := "wreckage/wreckagelaw10.CheckTells", spec := "checkTells", unfollowed := true, recurses := true, apart := false }
def CheckTellsSaid : Prop := checkTellsRow.holds Tryz.pinned (OpenSpec.ofChange checkTellsSpec)

/-- ITS FALSE NEIGHBOUR: 'it returns false'. Refute it at one input. -/
def checkTellsWrong : ChangeSpec := { name := "checkTells", fn := fun _ => fun
  | [d1, d2, d3] => { results := [.lit (.bool false)], args := [d1, d2, d3] }
  | _ => none }
def CheckTellsWrongFalsely : Prop := checkTellsRow.holds Tryz.pinned (OpenSpec.ofChange checkTellsWrong)

/- THE SECOND FORM. 'bulk': how many values and letters a reading holds, each counted each time it is reached (what is shared counts as often as it is met; a slice's spare places count too). A statement '..UptoSaid' is the law's where the arguments, and the package variables that the reading takes, are together of bulk at most 1048576: NARROWER than '..Said'. Prove '..Said' where nothing that the law and all that it calls make is longer than what came in: it says more and counts as full. Else prove '..UptoSaid'. A law counts once. -/
mutual
def uptoBulk {H : Type} : DataW H → Nat
  | .lit (.string bytes) => bytes.length + 1
  | .lit _ => 1
  | .nil => 1
  | .ptr d => uptoBulk d + 1
  | .slice elems spare => uptoBulkAll elems + uptoBulkAll spare + 1
  | .agg parts => uptoBulkAll parts + 1
  | .iface _ d => uptoBulk d + 1
  | .map entries => uptoBulkEntries entries + 1
  | .held _ => 1
def uptoBulkAll {H : Type} : List (DataW H) → Nat
  | [] => 0
  | d :: r => uptoBulk d + uptoBulkAll r
def uptoBulkEntries {H : Type} : List (Lit × DataW H) → Nat
  | [] => 0
  | x :: r => uptoBulkEntry x + uptoBulkEntries r
def uptoBulkEntry {H : Type} : Lit × DataW H → Nat
  | (.string bytes, d) => bytes.length + uptoBulk d + 1
  | (_, d) => uptoBulk d + 1
 end
def uptoSmall : (H : Type) → List (DataW H) → Bool := fun _ ds => decide (uptoBulkAll ds ≤ 1048576)
def OpenSpec.upto (s : _root_.Go.ChangeSpec) : _root_.Go.OpenSpec := { _root_.Go.OpenSpec.ofChange s with cond := some uptoSmall }

/-- 'wreckagelaw10.CheckMore', WHERE WHAT IT READS IS OF BULK AT MOST 1048576: true; the input reads as it did. -/
def checkMoreUptoRow : OpenClaim := { program := "ytlmfkfmgnkjlaaagreat", sum := "9005230548d7a6d10bfc84ae0e4870f8e069ad2dd015a416e246622e248729c1", func := "wreckage/wreckagelaw10.CheckMore", spec := "checkMore", unfollowed := true, recurses := true, apart := false, narrowed := true }
def CheckMoreUptoSaid : Prop := checkMoreUptoRow.holds Tryz.pinned (OpenSpec.upto checkMoreSpec)

/-- 'wreckagelaw10.CheckWalk', WHERE WHAT IT READS IS OF BULK AT MOST 1048576: true; the input reads as it did. -/
def checkWalkUptoRow : OpenClaim := { program := "ytlmfkfmgnkjlaaagreat", sum := "9005230548d7a6d10bfc84ae0e4870f8e069ad2dd015a416e246622e248729c1", func := "wreckage/wreckagelaw10.CheckWalk", spec := "checkWalk", unfollowed := true, recurses := true, apart := false, narrowed := true }
def CheckWalkUptoSaid : Prop := checkWalkUptoRow.holds Tryz.pinned (OpenSpec.upto checkWalkSpec)

/-- 'wreckagelaw10.CheckMends', WHERE WHAT IT READS IS OF BULK AT MOST 1048576: true; the input reads as it did. -/
def checkMendsUptoRow : OpenClaim := { program := "ytlmfkfmgnkjlaaagreat", sum := "9005230548d7a6d10bfc84ae0e4870f8e069ad2dd015a416e246622e248729c1", func := "wreckage/wreckagelaw10.CheckMends", spec := "checkMends", unfollowed := true, recurses := true, apart := false, narrowed := true }
def CheckMendsUptoSaid : Prop := checkMendsUptoRow.holds Tryz.pinned (OpenSpec.upto checkMendsSpec)

/-- 'wreckagelaw10.CheckFirst', WHERE WHAT IT READS IS OF BULK AT MOST 1048576: true; the input reads as it did. -/
def checkFirstUptoRow : OpenClaim := { program := "ytlmfkfmgnkjlaaagreat", sum := "9005230548d7a6d10bfc84ae0e4870f8e069ad2dd015a416e246622e248729c1", func := "wreckage/wreckagelaw10.CheckFirst", spec := "checkFirst", unfollowed := true, recurses := true, apart := false, narrowed := true }
def CheckFirstUptoSaid : Prop := checkFirstUptoRow.holds Tryz.pinned (OpenSpec.upto checkFirstSpec)

/-- 'wreckagelaw10.CheckNames', WHERE WHAT IT READS IS OF BULK AT MOST 1048576: true; the input reads as it did. -/
def checkNamesUptoRow : OpenClaim := { program := "ytlmfkfmgnkjlaaagreat", sum := "9005230548d7a6d10bfc84ae0e4870f8e069ad2dd015a416e246622e248729c1", func := "wreckage/wreckagelaw10.CheckNames", spec := "checkNames", unfollowed := true, recurses := true, apart := false, narrowed := true }
def CheckNamesUptoSaid : Prop := checkNamesUptoRow.holds Tryz.pinned (OpenSpec.upto checkNamesSpec)

/-- 'wreckagelaw10.CheckTells', WHERE WHAT IT READS IS OF BULK AT MOST 1048576: true; the input reads as it did. -/
def checkTellsUptoRow : OpenClaim := { program := "ytlmfkfmgnkjlaaagreat", sum := "9005230548d7a6d10bfc84ae0e4870f8e069ad2dd015a416e246622e248729c1", func := "wreckage/wreckagelaw10.CheckTells", spec := "checkTells", unfollowed := true, recurses := true, apart := false, narrowed := true }
def CheckTellsUptoSaid : Prop := checkTellsUptoRow.holds Tryz.pinned (OpenSpec.upto checkTellsSpec)

end Rows
end Go.Proofs.YtlmfkfmgnkjlaaaGreat
