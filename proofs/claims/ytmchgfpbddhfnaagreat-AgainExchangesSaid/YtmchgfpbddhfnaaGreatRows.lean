/-
  NARROWER THAN 'FOR EVERY INPUT', by the rows' own cells (each row's printed sentence says how): LocalsParts: loops.
  DERIVED. THE GIVEN ROWS OF THIS SEAT. 5 by the template 'for every input the law returns true; each argument reads behind the call as it read before'; 0 by the template 'total and deterministic' (their statements: YtmchgfpbddhfnaaGreatTotals.lean).
  GIVEN WITH THE SEED: the statements are not yours to turn. If you find one false, say at which input.
  Laid BY PROGRAM, IN A SANDBOX (cutbox-rows.mjs): the forced cells as the released guide's own fill.sh prints them over the translation 2f3dadf9b9ea5ac3… (all of the seat's roots in one cut). By AI agents, Wed Nov 11 2026. No macro, syntax, notation, axiom, sorry.
-/
import Derived.Test.YtmchgfpbddhfnaaGreatChecked
import GoSem.Claim
import GoSem.ClaimJoined
import GoSem.ClaimMapViews
import Derived.JoinedTies
import Derived.KernelRfl
namespace Go.Proofs.YtmchgfpbddhfnaaGreat
/- THE CELL 'sum', in the pinned program and in every row, IS THE sha256 OF THE DUMP (.gsa) THAT YtmchgfpbddhfnaaGreatProg.lean LOADS. Nothing in Lean hashes anything: it is a label: what it is worth is what the hold of that sum in a sandbox is worth. -/
noncomputable def Tryz.pinned : Pinned := { name := "ytmchgfpbddhfnaagreat", sum := "2f3dadf9b9ea5ac3d6246d304d49cc67b3169eef328a74c404f878e6ed9b5469", checked := Tryz.checked }
namespace Rows
def none {H : Type} : Left H := { results := [], args := [] }

/-- 'wreckagelaw33.ValidNames': WHATEVER THE INPUT: true; the input reads as it did. -/
def validNamesSpec : ChangeSpec := { name := "validNames", fn := fun _ => fun
  | [] => { results := [.lit (.bool true)], args := [] }
  | _ => none }
def validNamesRow : OpenClaim := { program := "ytmchgfpbddhfnaagreat", sum := "2f3dadf9b9ea5ac3d6246d304d49cc67b3169eef328a74c404f878e6ed9b5469", func := "wreckage/wreckagelaw33.ValidNames", spec := "validNames", unfollowed := true, recurses := true, apart := false }
def ValidNamesSaid : Prop := validNamesRow.holds Tryz.pinned (OpenSpec.ofChange validNamesSpec)

/-- ITS FALSE NEIGHBOUR: 'it returns false'. Refute it at one input. -/
def validNamesWrong : ChangeSpec := { name := "validNames", fn := fun _ => fun
  | [] => { results := [.lit (.bool false)], args := [] }
  | _ => none }
def ValidNamesWrongFalsely : Prop := validNamesRow.holds Tryz.pinned (OpenSpec.ofChange validNamesWrong)

/-- 'wreckagelaw35.AgainNames': WHATEVER THE INPUT: true; the input reads as it did. -/
def againNamesSpec : ChangeSpec := { name := "againNames", fn := fun _ => fun
  | [] => { results := [.lit (.bool true)], args := [] }
  | _ => none }
def againNamesRow : OpenClaim := { program := "ytmchgfpbddhfnaagreat", sum := "2f3dadf9b9ea5ac3d6246d304d49cc67b3169eef328a74c404f878e6ed9b5469", func := "wreckage/wreckagelaw35.AgainNames", spec := "againNames", unfollowed := true, recurses := true, apart := false }
def AgainNamesSaid : Prop := againNamesRow.holds Tryz.pinned (OpenSpec.ofChange againNamesSpec)

/-- ITS FALSE NEIGHBOUR: 'it returns false'. Refute it at one input. -/
def againNamesWrong : ChangeSpec := { name := "againNames", fn := fun _ => fun
  | [] => { results := [.lit (.bool false)], args := [] }
  | _ => none }
def AgainNamesWrongFalsely : Prop := againNamesRow.holds Tryz.pinned (OpenSpec.ofChange againNamesWrong)

/-- 'wreckagelaw35.AgainExchanges': WHATEVER THE INPUT: true; the input reads as it did. -/
def againExchangesSpec : ChangeSpec := { name := "againExchanges", fn := fun _ => fun
  | [d1, d2, d3, d4] => { results := [.lit (.bool true)], args := [d1, d2, d3, d4] }
  | _ => none }
def againExchangesRow : OpenClaim := { program := "ytmchgfpbddhfnaagreat", sum := "2f3dadf9b9ea5ac3d6246d304d49cc67b3169eef328a74c404f878e6ed9b5469", func := "wreckage/wreckagelaw35.AgainExchanges", spec := "againExchanges", unfollowed := true, recurses := true, apart := false }
def AgainExchangesSaid : Prop := againExchangesRow.holds Tryz.pinned (OpenSpec.ofChange againExchangesSpec)

/-- ITS FALSE NEIGHBOUR: 'it returns false'. Refute it at one input. -/
def againExchangesWrong : ChangeSpec := { name := "againExchanges", fn := fun _ => fun
  | [d1, d2, d3, d4] => { results := [.lit (.bool false)], args := [d1, d2, d3, d4] }
  | _ => none }
def AgainExchangesWrongFalsely : Prop := againExchangesRow.holds Tryz.pinned (OpenSpec.ofChange againExchangesWrong)

/-- 'wreckagelaw32.LocalsParts': WHATEVER THE INPUT: true; the input reads as it did. -/
def localsPartsSpec : ChangeSpec := { name := "localsParts", fn := fun _ => fun
  | [d] => { results := [.lit (.bool true)], args := [d] }
  | _ => none }
def localsPartsRow : OpenClaim := { program := "ytmchgfpbddhfnaagreat", sum := "2f3dadf9b9ea5ac3d6246d304d49cc67b3169eef328a74c404f878e6ed9b5469", func := "wreckage/wreckagelaw32.LocalsParts", spec := "localsParts", unfollowed := true, recurses := true, loops := true, apart := false }
def LocalsPartsSaid : Prop := localsPartsRow.holds Tryz.pinned (OpenSpec.ofChange localsPartsSpec)

/-- ITS FALSE NEIGHBOUR: 'it returns false'. Refute it at one input. -/
def localsPartsWrong : ChangeSpec := { name := "localsParts", fn := fun _ => fun
  | [d] => { results := [.lit (.bool false)], args := [d] }
  | _ => none }
def LocalsPartsWrongFalsely : Prop := localsPartsRow.holds Tryz.pinned (OpenSpec.ofChange localsPartsWrong)

/-- 'wreckagelaw29.ParseNames': WHATEVER THE INPUT: true; the input reads as it did. -/
def parseNamesSpec : ChangeSpec := { name := "parseNames", fn := fun _ => fun
  | [] => { results := [.lit (.bool true)], args := [] }
  | _ => none }
def parseNamesRow : OpenClaim := { program := "ytmchgfpbddhfnaagreat", sum := "2f3dadf9b9ea5ac3d6246d304d49cc67b3169eef328a74c404f878e6ed9b5469", func := "wreckage/wreckagelaw29.ParseNames", spec := "parseNames", unfollowed := true, recurses := true, apart := false }
def ParseNamesSaid : Prop := parseNamesRow.holds Tryz.pinned (OpenSpec.ofChange parseNamesSpec)

/-- ITS FALSE NEIGHBOUR: 'it returns false'. Refute it at one input. -/
def parseNamesWrong : ChangeSpec := { name := "parseNames", fn := fun _ => fun
  | [] => { results := [.lit (.bool false)], args := [] }
  | _ => none }
def ParseNamesWrongFalsely : Prop := parseNamesRow.holds Tryz.pinned (OpenSpec.ofChange parseNamesWrong)

/- THE SECOND FORM. 'bulk': how many values and letters a reading holds, each counted each time it is reached (what is shared counts as often as it is met; a slice's spare places count too). A statement '..UptoSaid' is the law's where the arguments, and the package variables that the reading takes, are together of bulk at most 1048576: NARROWER than '..Said'. Prove '..Said' where nothing that the law and all that it calls make is longer than what came in: it says more and counts as full. Else prove '..UptoSaid'. A law counts once. -/
mutual
def uptoBulk {H : Type} : DataW H → Nat
  | .lit (.string bytes) => bytes.length + 1
  | .lit _ => 1
  | .nil => 1
  | .ptr d => uptoBulk d + 1
  | .slice elems spare => uptoBulkAll elems + uptoBulkAll spare + 1
  | .agg parts => uptoBulkAll parts + 1
  | .iface _ d => uptoBulk d + 1
  | .map entries => uptoBulkEntries entries + 1
  | .held _ => 1
def uptoBulkAll {H : Type} : List (DataW H) → Nat
  | [] => 0
  | d :: r => uptoBulk d + uptoBulkAll r
def uptoBulkEntries {H : Type} : List (Lit × DataW H) → Nat
  | [] => 0
  | x :: r => uptoBulkEntry x + uptoBulkEntries r
def uptoBulkEntry {H : Type} : Lit × DataW H → Nat
  | (.string bytes, d) => bytes.length + uptoBulk d + 1
  | (_, d) => uptoBulk d + 1
 end
def uptoSmall : (H : Type) → List (DataW H) → Bool := fun _ ds => decide (uptoBulkAll ds ≤ 1048576)
def OpenSpec.upto (s : _root_.Go.ChangeSpec) : _root_.Go.OpenSpec := { _root_.Go.OpenSpec.ofChange s with cond := some uptoSmall }

/-- 'wreckagelaw33.ValidNames', WHERE WHAT IT READS IS OF BULK AT MOST 1048576: true; the input reads as it did. -/
def validNamesUptoRow : OpenClaim := { program := "ytmchgfpbddhfnaagreat", sum := "2f3dadf9b9ea5ac3d6246d304d49cc67b3169eef328a74c404f878e6ed9b5469", func := "wreckage/wreckagelaw33.ValidNames", spec := "validNames", unfollowed := true, recurses := true, apart := false, narrowed := true }
def ValidNamesUptoSaid : Prop := validNamesUptoRow.holds Tryz.pinned (OpenSpec.upto validNamesSpec)

/-- 'wreckagelaw35.AgainNames', WHERE WHAT IT READS IS OF BULK AT MOST 1048576: true; the input reads as it did. -/
def againNamesUptoRow : OpenClaim := { program := "ytmchgfpbddhfnaagreat", sum := "2f3dadf9b9ea5ac3d6246d304d49cc67b3169eef328a74c404f878e6ed9b5469", func := "wreckage/wreckagelaw35.AgainNames", spec := "againNames", unfollowed := true, recurses := true, apart := false, narrowed := true }
def AgainNamesUptoSaid : Prop := againNamesUptoRow.holds Tryz.pinned (OpenSpec.upto againNamesSpec)

/-- 'wreckagelaw35.AgainExchanges', WHERE WHAT IT READS IS OF BULK AT MOST 1048576: true; the input reads as it did. -/
def againExchangesUptoRow : OpenClaim := { program := "ytmchgfpbddhfnaagreat", sum := "2f3dadf9b9ea5ac3d6246d304d49cc67b3169eef328a74c404f878e6ed9b5469", func := "wreckage/wreckagelaw35.AgainExchanges", spec := "againExchanges", unfollowed := true, recurses := true, apart := false, narrowed := true }
def AgainExchangesUptoSaid : Prop := againExchangesUptoRow.holds Tryz.pinned (OpenSpec.upto againExchangesSpec)

/-- 'wreckagelaw32.LocalsParts', WHERE WHAT IT READS IS OF BULK AT MOST 1048576: true; the input reads as it did. -/
def localsPartsUptoRow : OpenClaim := { program := "ytmchgfpbddhfnaagreat", sum := "2f3dadf9b9ea5ac3d6246d304d49cc67b3169eef328a74c404f878e6ed9b5469", func := "wreckage/wreckagelaw32.LocalsParts", spec := "localsParts", unfollowed := true, recurses := true, loops := true, apart := false, narrowed := true }
def LocalsPartsUptoSaid : Prop := localsPartsUptoRow.holds Tryz.pinned (OpenSpec.upto localsPartsSpec)

/-- 'wreckagelaw29.ParseNames', WHERE WHAT IT READS IS OF BULK AT MOST 1048576: true; the input reads as it did. -/
def parseNamesUptoRow : OpenClaim := { program := "ytmchgfpbddhfnaagreat", sum := "2f3dadf9b9ea5ac3d6246d304d49cc67b3169eef328a74c404f878e6ed9b5469", func := "wreckage/wreckagelaw29.ParseNames", spec := "parseNames", unfollowed := true, recurses := true, apart := false, narrowed := true }
def ParseNamesUptoSaid : Prop := parseNamesUptoRow.holds Tryz.pinned (OpenSpec.upto parseNamesSpec)

end Rows
end Go.Proofs.YtmchgfpbddhfnaaGreat
