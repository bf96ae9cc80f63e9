/-
  No cell of these rows narrows 'for every input' (looked for: loops, veiled, ifaces, maps, wideKeys, modest, calm, conditions, laid).
  DERIVED. THE GIVEN ROWS OF THIS SEAT. 12 by the template 'for every input the law returns true; each argument reads behind the call as it read before'; 0 by the template 'total and deterministic' (their statements: YtdmigejeekchiaaGreatTotals.lean).
  GIVEN WITH THE SEED: the statements are not yours to turn. If you find one false, say at which input.
  Laid BY PROGRAM, IN A SANDBOX (cutbox-rows.mjs): the forced cells as the released guide's own fill.sh prints them over the translation f3c72ac015dfaeac… (all of the seat's roots in one cut). By AI agents, Wed Nov 11 2026. No macro, syntax, notation, axiom, sorry.
-/
import Derived.Test.YtdmigejeekchiaaGreatChecked
import GoSem.Claim
import GoSem.ClaimJoined
import GoSem.ClaimMapViews
import Derived.JoinedTies
import Derived.KernelRfl
namespace Go.Proofs.YtdmigejeekchiaaGreat
/- THE CELL 'sum', in the pinned program and in every row, IS THE sha256 OF THE DUMP (.gsa) THAT YtdmigejeekchiaaGreatProg.lean LOADS. Nothing in Lean hashes anything: it is a label: what it is worth is what the hold of that sum in a sandbox is worth. -/
noncomputable def Tryz.pinned : Pinned := { name := "ytdmigejeekchiaagreat", sum := "f3c72ac015dfaeac3a6887361aa63f8b3ad63771a3812d8ef3237bb934b8c402", checked := Tryz.checked }
namespace Rows
def none {H : Type} : Left H := { results := [], args := [] }

/-- 'wreckagelaw30.WalkFrames': WHATEVER THE INPUT: true; the input reads as it did. -/
def walkFramesSpec : ChangeSpec := { name := "walkFrames", fn := fun _ => fun
  | [d1, d2] => { results := [.lit (.bool true)], args := [d1, d2] }
  | _ => none }
def walkFramesRow : OpenClaim := { program := "ytdmigejeekchiaagreat", sum := "f3c72ac015dfaeac3a6887361aa63f8b3ad63771a3812d8ef3237bb934b8c402", func := "wreckage/wreckagelaw30.WalkFrames", spec := "walkFrames", unfollowed := true, recurses := true, apart := false }
def WalkFramesSaid : Prop := walkFramesRow.holds Tryz.pinned (OpenSpec.ofChange walkFramesSpec)

/-- ITS FALSE NEIGHBOUR: 'it returns false'. Refute it at one input. -/
def walkFramesWrong : ChangeSpec := { name := "walkFrames", fn := fun _ => fun
  | [d1, d2] => { results := [.lit (.bool false)], args := [d1, d2] }
  | _ => none }
def WalkFramesWrongFalsely : Prop := walkFramesRow.holds Tryz.pinned (OpenSpec.ofChange walkFramesWrong)

/-- 'wreckagelaw30.WalkFills': WHATEVER THE INPUT: true; the input reads as it did. -/
def walkFillsSpec : ChangeSpec := { name := "walkFills", fn := fun _ => fun
  | [d1, d2] => { results := [.lit (.bool true)], args := [d1, d2] }
  | _ => none }
def walkFillsRow : OpenClaim := { program := "ytdmigejeekchiaagreat", sum := "f3c72ac015dfaeac3a6887361aa63f8b3ad63771a3812d8ef3237bb934b8c402", func := "wreckage/wreckagelaw30.WalkFills", spec := "walkFills", unfollowed := true, recurses := true, apart := false }
def WalkFillsSaid : Prop := walkFillsRow.holds Tryz.pinned (OpenSpec.ofChange walkFillsSpec)

/-- ITS FALSE NEIGHBOUR: 'it returns false'. Refute it at one input. -/
def walkFillsWrong : ChangeSpec := { name := "walkFills", fn := fun _ => fun
  | [d1, d2] => { results := [.lit (.bool false)], args := [d1, d2] }
  | _ => none }
def WalkFillsWrongFalsely : Prop := walkFillsRow.holds Tryz.pinned (OpenSpec.ofChange walkFillsWrong)

/-- 'wreckagelaw30.WalkFits': WHATEVER THE INPUT: true; the input reads as it did. -/
def walkFitsSpec : ChangeSpec := { name := "walkFits", fn := fun _ => fun
  | [d1, d2] => { results := [.lit (.bool true)], args := [d1, d2] }
  | _ => none }
def walkFitsRow : OpenClaim := { program := "ytdmigejeekchiaagreat", sum := "f3c72ac015dfaeac3a6887361aa63f8b3ad63771a3812d8ef3237bb934b8c402", func := "wreckage/wreckagelaw30.WalkFits", spec := "walkFits", unfollowed := true, recurses := true, apart := false }
def WalkFitsSaid : Prop := walkFitsRow.holds Tryz.pinned (OpenSpec.ofChange walkFitsSpec)

/-- ITS FALSE NEIGHBOUR: 'it returns false'. Refute it at one input. -/
def walkFitsWrong : ChangeSpec := { name := "walkFits", fn := fun _ => fun
  | [d1, d2] => { results := [.lit (.bool false)], args := [d1, d2] }
  | _ => none }
def WalkFitsWrongFalsely : Prop := walkFitsRow.holds Tryz.pinned (OpenSpec.ofChange walkFitsWrong)

/-- 'wreckagelaw30.WalkStarts': WHATEVER THE INPUT: true; the input reads as it did. -/
def walkStartsSpec : ChangeSpec := { name := "walkStarts", fn := fun _ => fun
  | [d1, d2, d3] => { results := [.lit (.bool true)], args := [d1, d2, d3] }
  | _ => none }
def walkStartsRow : OpenClaim := { program := "ytdmigejeekchiaagreat", sum := "f3c72ac015dfaeac3a6887361aa63f8b3ad63771a3812d8ef3237bb934b8c402", func := "wreckage/wreckagelaw30.WalkStarts", spec := "walkStarts", unfollowed := true, recurses := true, apart := false }
def WalkStartsSaid : Prop := walkStartsRow.holds Tryz.pinned (OpenSpec.ofChange walkStartsSpec)

/-- ITS FALSE NEIGHBOUR: 'it returns false'. Refute it at one input. -/
def walkStartsWrong : ChangeSpec := { name := "walkStarts", fn := fun _ => fun
  | [d1, d2, d3] => { results := [.lit (.bool false)], args := [d1, d2, d3] }
  | _ => none }
def WalkStartsWrongFalsely : Prop := walkStartsRow.holds Tryz.pinned (OpenSpec.ofChange walkStartsWrong)

/-- 'wreckagelaw28.DumpWrites': WHATEVER THE INPUT: true; the input reads as it did. -/
def dumpWritesSpec : ChangeSpec := { name := "dumpWrites", fn := fun _ => fun
  | [d] => { results := [.lit (.bool true)], args := [d] }
  | _ => none }
def dumpWritesRow : OpenClaim := { program := "ytdmigejeekchiaagreat", sum := "f3c72ac015dfaeac3a6887361aa63f8b3ad63771a3812d8ef3237bb934b8c402", func := "wreckage/wreckagelaw28.DumpWrites", spec := "dumpWrites", unfollowed := true, recurses := true, apart := false }
def DumpWritesSaid : Prop := dumpWritesRow.holds Tryz.pinned (OpenSpec.ofChange dumpWritesSpec)

/-- ITS FALSE NEIGHBOUR: 'it returns false'. Refute it at one input. -/
def dumpWritesWrong : ChangeSpec := { name := "dumpWrites", fn := fun _ => fun
  | [d] => { results := [.lit (.bool false)], args := [d] }
  | _ => none }
def DumpWritesWrongFalsely : Prop := dumpWritesRow.holds Tryz.pinned (OpenSpec.ofChange dumpWritesWrong)

/-- 'wreckagelaw31.ChainFinds': WHATEVER THE INPUT: true; the input reads as it did. -/
def chainFindsSpec : ChangeSpec := { name := "chainFinds", fn := fun _ => fun
  | [d1, d2] => { results := [.lit (.bool true)], args := [d1, d2] }
  | _ => none }
def chainFindsRow : OpenClaim := { program := "ytdmigejeekchiaagreat", sum := "f3c72ac015dfaeac3a6887361aa63f8b3ad63771a3812d8ef3237bb934b8c402", func := "wreckage/wreckagelaw31.ChainFinds", spec := "chainFinds", unfollowed := true, recurses := true, apart := false }
def ChainFindsSaid : Prop := chainFindsRow.holds Tryz.pinned (OpenSpec.ofChange chainFindsSpec)

/-- ITS FALSE NEIGHBOUR: 'it returns false'. Refute it at one input. -/
def chainFindsWrong : ChangeSpec := { name := "chainFinds", fn := fun _ => fun
  | [d1, d2] => { results := [.lit (.bool false)], args := [d1, d2] }
  | _ => none }
def ChainFindsWrongFalsely : Prop := chainFindsRow.holds Tryz.pinned (OpenSpec.ofChange chainFindsWrong)

/-- 'wreckagelaw31.ChainEnds': WHATEVER THE INPUT: true; the input reads as it did. -/
def chainEndsSpec : ChangeSpec := { name := "chainEnds", fn := fun _ => fun
  | [d1, d2, d3] => { results := [.lit (.bool true)], args := [d1, d2, d3] }
  | _ => none }
def chainEndsRow : OpenClaim := { program := "ytdmigejeekchiaagreat", sum := "f3c72ac015dfaeac3a6887361aa63f8b3ad63771a3812d8ef3237bb934b8c402", func := "wreckage/wreckagelaw31.ChainEnds", spec := "chainEnds", unfollowed := true, recurses := true, apart := false }
def ChainEndsSaid : Prop := chainEndsRow.holds Tryz.pinned (OpenSpec.ofChange chainEndsSpec)

/-- ITS FALSE NEIGHBOUR: 'it returns false'. Refute it at one input. -/
def chainEndsWrong : ChangeSpec := { name := "chainEnds", fn := fun _ => fun
  | [d1, d2, d3] => { results := [.lit (.bool false)], args := [d1, d2, d3] }
  | _ => none }
def ChainEndsWrongFalsely : Prop := chainEndsRow.holds Tryz.pinned (OpenSpec.ofChange chainEndsWrong)

/-- 'wreckagelaw31.ChainWords': WHATEVER THE INPUT: true; the input reads as it did. -/
def chainWordsSpec : ChangeSpec := { name := "chainWords", fn := fun _ => fun
  | [d1, d2] => { results := [.lit (.bool true)], args := [d1, d2] }
  | _ => none }
def chainWordsRow : OpenClaim := { program := "ytdmigejeekchiaagreat", sum := "f3c72ac015dfaeac3a6887361aa63f8b3ad63771a3812d8ef3237bb934b8c402", func := "wreckage/wreckagelaw31.ChainWords", spec := "chainWords", unfollowed := true, recurses := true, apart := false }
def ChainWordsSaid : Prop := chainWordsRow.holds Tryz.pinned (OpenSpec.ofChange chainWordsSpec)

/-- ITS FALSE NEIGHBOUR: 'it returns false'. Refute it at one input. -/
def chainWordsWrong : ChangeSpec := { name := "chainWords", fn := fun _ => fun
  | [d1, d2] => { results := [.lit (.bool false)], args := [d1, d2] }
  | _ => none }
def ChainWordsWrongFalsely : Prop := chainWordsRow.holds Tryz.pinned (OpenSpec.ofChange chainWordsWrong)

/-- 'wreckagelaw31.ChainFrames': WHATEVER THE INPUT: true; the input reads as it did. -/
def chainFramesSpec : ChangeSpec := { name := "chainFrames", fn := fun _ => fun
  | [d1, d2] => { results := [.lit (.bool true)], args := [d1, d2] }
  | _ => none }
def chainFramesRow : OpenClaim := { program := "ytdmigejeekchiaagreat", sum := "f3c72ac015dfaeac3a6887361aa63f8b3ad63771a3812d8ef3237bb934b8c402", func := "wreckage/wreckagelaw31.ChainFrames", spec := "chainFrames", unfollowed := true, recurses := true, apart := false }
def ChainFramesSaid : Prop := chainFramesRow.holds Tryz.pinned (OpenSpec.ofChange chainFramesSpec)

/-- ITS FALSE NEIGHBOUR: 'it returns false'. Refute it at one input. -/
def chainFramesWrong : ChangeSpec := { name := "chainFrames", fn := fun _ => fun
  | [d1, d2] => { results := [.lit (.bool false)], args := [d1, d2] }
  | _ => none }
def ChainFramesWrongFalsely : Prop := chainFramesRow.holds Tryz.pinned (OpenSpec.ofChange chainFramesWrong)

/-- 'wreckagelaw32.LocalsFinds': WHATEVER THE INPUT: true; the input reads as it did. -/
def localsFindsSpec : ChangeSpec := { name := "localsFinds", fn := fun _ => fun
  | [d1, d2, d3, d4, d5] => { results := [.lit (.bool true)], args := [d1, d2, d3, d4, d5] }
  | _ => none }
def localsFindsRow : OpenClaim := { program := "ytdmigejeekchiaagreat", sum := "f3c72ac015dfaeac3a6887361aa63f8b3ad63771a3812d8ef3237bb934b8c402", func := "wreckage/wreckagelaw32.LocalsFinds", spec := "localsFinds", unfollowed := true, recurses := true, apart := false }
def LocalsFindsSaid : Prop := localsFindsRow.holds Tryz.pinned (OpenSpec.ofChange localsFindsSpec)

/-- ITS FALSE NEIGHBOUR: 'it returns false'. Refute it at one input. -/
def localsFindsWrong : ChangeSpec := { name := "localsFinds", fn := fun _ => fun
  | [d1, d2, d3, d4, d5] => { results := [.lit (.bool false)], args := [d1, d2, d3, d4, d5] }
  | _ => none }
def LocalsFindsWrongFalsely : Prop := localsFindsRow.holds Tryz.pinned (OpenSpec.ofChange localsFindsWrong)

/-- 'wreckagelaw32.LocalsLive': WHATEVER THE INPUT: true; the input reads as it did. -/
def localsLiveSpec : ChangeSpec := { name := "localsLive", fn := fun _ => fun
  | [d1, d2, d3] => { results := [.lit (.bool true)], args := [d1, d2, d3] }
  | _ => none }
def localsLiveRow : OpenClaim := { program := "ytdmigejeekchiaagreat", sum := "f3c72ac015dfaeac3a6887361aa63f8b3ad63771a3812d8ef3237bb934b8c402", func := "wreckage/wreckagelaw32.LocalsLive", spec := "localsLive", unfollowed := true, recurses := true, apart := false }
def LocalsLiveSaid : Prop := localsLiveRow.holds Tryz.pinned (OpenSpec.ofChange localsLiveSpec)

/-- ITS FALSE NEIGHBOUR: 'it returns false'. Refute it at one input. -/
def localsLiveWrong : ChangeSpec := { name := "localsLive", fn := fun _ => fun
  | [d1, d2, d3] => { results := [.lit (.bool false)], args := [d1, d2, d3] }
  | _ => none }
def LocalsLiveWrongFalsely : Prop := localsLiveRow.holds Tryz.pinned (OpenSpec.ofChange localsLiveWrong)

/-- 'wreckagelaw32.LocalsDepth': WHATEVER THE INPUT: true; the input reads as it did. -/
def localsDepthSpec : ChangeSpec := { name := "localsDepth", fn := fun _ => fun
  | [d1, d2, d3, d4, d5] => { results := [.lit (.bool true)], args := [d1, d2, d3, d4, d5] }
  | _ => none }
def localsDepthRow : OpenClaim := { program := "ytdmigejeekchiaagreat", sum := "f3c72ac015dfaeac3a6887361aa63f8b3ad63771a3812d8ef3237bb934b8c402", func := "wreckage/wreckagelaw32.LocalsDepth", spec := "localsDepth", unfollowed := true, recurses := true, apart := false }
def LocalsDepthSaid : Prop := localsDepthRow.holds Tryz.pinned (OpenSpec.ofChange localsDepthSpec)

/-- ITS FALSE NEIGHBOUR: 'it returns false'. Refute it at one input. -/
def localsDepthWrong : ChangeSpec := { name := "localsDepth", fn := fun _ => fun
  | [d1, d2, d3, d4, d5] => { results := [.lit (.bool false)], args := [d1, d2, d3, d4, d5] }
  | _ => none }
def LocalsDepthWrongFalsely : Prop := localsDepthRow.holds Tryz.pinned (OpenSpec.ofChange localsDepthWrong)

/- THE SECOND FORM. 'bulk': how many values and letters a reading holds, each counted each time it is reached (what is shared counts as often as it is met; a slice's spare places count too). A statement '..UptoSaid' is the law's where the arguments, and the package variables that the reading takes, are together of bulk at most 1048576: NARROWER than '..Said'. Prove '..Said' where nothing that the law and all that it calls make is longer than what came in: it says more and counts as full. Else prove '..UptoSaid'. A law counts once. -/
mutual
def uptoBulk {H : Type} : DataW H → Nat
  | .lit (.string bytes) => bytes.length + 1
  | .lit _ => 1
  | .nil => 1
  | .ptr d => uptoBulk d + 1
  | .slice elems spare => uptoBulkAll elems + uptoBulkAll spare + 1
  | .agg parts => uptoBulkAll parts + 1
  | .iface _ d => uptoBulk d + 1
  | .map entries => uptoBulkEntries entries + 1
  | .held _ => 1
def uptoBulkAll {H : Type} : List (DataW H) → Nat
  | [] => 0
  | d :: r => uptoBulk d + uptoBulkAll r
def uptoBulkEntries {H : Type} : List (Lit × DataW H) → Nat
  | [] => 0
  | x :: r => uptoBulkEntry x + uptoBulkEntries r
def uptoBulkEntry {H : Type} : Lit × DataW H → Nat
  | (.string bytes, d) => bytes.length + uptoBulk d + 1
  | (_, d) => uptoBulk d + 1
 end
def uptoSmall : (H : Type) → List (DataW H) → Bool := fun _ ds => decide (uptoBulkAll ds ≤ 1048576)
def OpenSpec.upto (s : _root_.Go.ChangeSpec) : _root_.Go.OpenSpec := { _root_.Go.OpenSpec.ofChange s with cond := some uptoSmall }

/-- 'wreckagelaw30.WalkFrames', WHERE WHAT IT READS IS OF BULK AT MOST 1048576: true; the input reads as it did. -/
def walkFramesUptoRow : OpenClaim := { program := "ytdmigejeekchiaagreat", sum := "f3c72ac015dfaeac3a6887361aa63f8b3ad63771a3812d8ef3237bb934b8c402", func := "wreckage/wreckagelaw30.WalkFrames", spec := "walkFrames", unfollowed := true, recurses := true, apart := false, narrowed := true }
def WalkFramesUptoSaid : Prop := walkFramesUptoRow.holds Tryz.pinned (OpenSpec.upto walkFramesSpec)

/-- 'wreckagelaw30.WalkFills', WHERE WHAT IT READS IS OF BULK AT MOST 1048576: true; the input reads as it did. -/
def walkFillsUptoRow : OpenClaim := { program := "ytdmigejeekchiaagreat", sum := "f3c72ac015dfaeac3a6887361aa63f8b3ad63771a3812d8ef3237bb934b8c402", func := "wreckage/wreckagelaw30.WalkFills", spec := "walkFills", unfollowed := true, recurses := true, apart := false, narrowed := true }
def WalkFillsUptoSaid : Prop := walkFillsUptoRow.holds Tryz.pinned (OpenSpec.upto walkFillsSpec)

/-- 'wreckagelaw30.WalkFits', WHERE WHAT IT READS IS OF BULK AT MOST 1048576: true; the input reads as it did. -/
def walkFitsUptoRow : OpenClaim := { program := "ytdmigejeekchiaagreat", sum := "f3c72ac015dfaeac3a6887361aa63f8b3ad63771a3812d8ef3237bb934b8c402", func := "wreckage/wreckagelaw30.WalkFits", spec := "walkFits", unfollowed := true, recurses := true, apart := false, narrowed := true }
def WalkFitsUptoSaid : Prop := walkFitsUptoRow.holds Tryz.pinned (OpenSpec.upto walkFitsSpec)

/-- 'wreckagelaw30.WalkStarts', WHERE WHAT IT READS IS OF BULK AT MOST 1048576: true; the input reads as it did. -/
def walkStartsUptoRow : OpenClaim := { program := "ytdmigejeekchiaagreat", sum := "f3c72ac015dfaeac3a6887361aa63f8b3ad63771a3812d8ef3237bb934b8c402", func := "wreckage/wreckagelaw30.WalkStarts", spec := "walkStarts", unfollowed := true, recurses := true, apart := false, narrowed := true }
def WalkStartsUptoSaid : Prop := walkStartsUptoRow.holds Tryz.pinned (OpenSpec.upto walkStartsSpec)

/-- 'wreckagelaw28.DumpWrites', WHERE WHAT IT READS IS OF BULK AT MOST 1048576: true; the input reads as it did. -/
def dumpWritesUptoRow : OpenClaim := { program := "ytdmigejeekchiaagreat", sum := "f3c72ac015dfaeac3a6887361aa63f8b3ad63771a3812d8ef3237bb934b8c402", func := "wreckage/wreckagelaw28.DumpWrites", spec := "dumpWrites", unfollowed := true, recurses := true, apart := false, narrowed := true }
def DumpWritesUptoSaid : Prop := dumpWritesUptoRow.holds Tryz.pinned (OpenSpec.upto dumpWritesSpec)

/-- 'wreckagelaw31.ChainFinds', WHERE WHAT IT READS IS OF BULK AT MOST 1048576: true; the input reads as it did. -/
def chainFindsUptoRow : OpenClaim := { program := "ytdmigejeekchiaagreat", sum := "f3c72ac015dfaeac3a6887361aa63f8b3ad63771a3812d8ef3237bb934b8c402", func := "wreckage/wreckagelaw31.ChainFinds", spec := "chainFinds", unfollowed := true, recurses := true, apart := false, narrowed := true }
def ChainFindsUptoSaid : Prop := chainFindsUptoRow.holds Tryz.pinned (OpenSpec.upto chainFindsSpec)

/-- 'wreckagelaw31.ChainEnds', WHERE WHAT IT READS IS OF BULK AT MOST 1048576: true; the input reads as it did. -/
def chainEndsUptoRow : OpenClaim := { program := "ytdmigejeekchiaagreat", sum := "f3c72ac015dfaeac3a6887361aa63f8b3ad63771a3812d8ef3237bb934b8c402", func := "wreckage/wreckagelaw31.ChainEnds", spec := "chainEnds", unfollowed := true, recurses := true, apart := false, narrowed := true }
def ChainEndsUptoSaid : Prop := chainEndsUptoRow.holds Tryz.pinned (OpenSpec.upto chainEndsSpec)

/-- 'wreckagelaw31.ChainWords', WHERE WHAT IT READS IS OF BULK AT MOST 1048576: true; the input reads as it did. -/
def chainWordsUptoRow : OpenClaim := { program := "ytdmigejeekchiaagreat", sum := "f3c72ac015dfaeac3a6887361aa63f8b3ad63771a3812d8ef3237bb934b8c402", func := "wreckage/wreckagelaw31.ChainWords", spec := "chainWords", unfollowed := true, recurses := true, apart := false, narrowed := true }
def ChainWordsUptoSaid : Prop := chainWordsUptoRow.holds Tryz.pinned (OpenSpec.upto chainWordsSpec)

/-- 'wreckagelaw31.ChainFrames', WHERE WHAT IT READS IS OF BULK AT MOST 1048576: true; the input reads as it did. -/
def chainFramesUptoRow : OpenClaim := { program := "ytdmigejeekchiaagreat", sum := "f3c72ac015dfaeac3a6887361aa63f8b3ad63771a3812d8ef3237bb934b8c402", func := "wreckage/wreckagelaw31.ChainFrames", spec := "chainFrames", unfollowed := true, recurses := true, apart := false, narrowed := true }
def ChainFramesUptoSaid : Prop := chainFramesUptoRow.holds Tryz.pinned (OpenSpec.upto chainFramesSpec)

/-- 'wreckagelaw32.LocalsFinds', WHERE WHAT IT READS IS OF BULK AT MOST 1048576: true; the input reads as it did. -/
def localsFindsUptoRow : OpenClaim := { program := "ytdmigejeekchiaagreat", sum := "f3c72ac015dfaeac3a6887361aa63f8b3ad63771a3812d8ef3237bb934b8c402", func := "wreckage/wreckagelaw32.LocalsFinds", spec := "localsFinds", unfollowed := true, recurses := true, apart := false, narrowed := true }
def LocalsFindsUptoSaid : Prop := localsFindsUptoRow.holds Tryz.pinned (OpenSpec.upto localsFindsSpec)

/-- 'wreckagelaw32.LocalsLive', WHERE WHAT IT READS IS OF BULK AT MOST 1048576: true; the input reads as it did. -/
def localsLiveUptoRow : OpenClaim := { program := "ytdmigejeekchiaagreat", sum := "f3c72ac015dfaeac3a6887361aa63f8b3ad63771a3812d8ef3237bb934b8c402", func := "wreckage/wreckagelaw32.LocalsLive", spec := "localsLive", unfollowed := true, recurses := true, apart := false, narrowed := true }
def LocalsLiveUptoSaid : Prop := localsLiveUptoRow.holds Tryz.pinned (OpenSpec.upto localsLiveSpec)

/-- 'wreckagelaw32.LocalsDepth', WHERE WHAT IT READS IS OF BULK AT MOST 1048576: true; the input reads as it did. -/
def localsDepthUptoRow : OpenClaim := { program := "ytdmigejeekchiaagreat", sum := "f3c72ac015dfaeac3a6887361aa63f8b3ad63771a3812d8ef3237bb934b8c402", func := "wreckage/wreckagelaw32.LocalsDepth", spec := "localsDepth", unfollowed := true, recurses := true, apart := false, narrowed := true }
def LocalsDepthUptoSaid : Prop := localsDepthUptoRow.holds Tryz.pinned (OpenSpec.upto localsDepthSpec)

end Rows
end Go.Proofs.YtdmigejeekchiaaGreat
