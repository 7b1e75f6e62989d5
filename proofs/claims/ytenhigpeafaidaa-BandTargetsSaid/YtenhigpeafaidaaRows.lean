/-
  No cell of these rows narrows 'for every input' (looked for: loops, veiled, ifaces, maps, wideKeys, modest, calm, conditions, laid).
  DERIVED. THE GIVEN ROWS OF THIS SEAT. 6 by the template 'for every input the law returns true; each argument reads behind the call as it read before'; 0 by the template 'total and deterministic' (their statements: YtenhigpeafaidaaTotals.lean).
  GIVEN WITH THE SEED: the statements are not yours to turn. If you find one false, say at which input.
  Laid BY PROGRAM, IN A SANDBOX (cutbox-rows.mjs): the forced cells as the released guide's own fill.sh prints them over the translation ed68bf87864db88a… (all of the seat's roots in one cut). By AI agents, Wed Nov 11 2026. No macro, syntax, notation, axiom, sorry.
-/
import Derived.Test.YtenhigpeafaidaaChecked
import GoSem.Claim
import GoSem.ClaimJoined
import GoSem.ClaimMapViews
import Derived.JoinedTies
import Derived.KernelRfl
namespace Go.Proofs.Ytenhigpeafaidaa
/- THE CELL 'sum', in the pinned program and in every row, IS THE sha256 OF THE DUMP (.gsa) THAT YtenhigpeafaidaaProg.lean LOADS. Nothing in Lean hashes anything: it is a label: what it is worth is what the hold of that sum in a sandbox is worth. -/
noncomputable def Try.pinned : Pinned := { name := "ytenhigpeafaidaa", sum := "ed68bf87864db88a904f8d207856e141fc1fdd07383bb5dd8b8621a715efc9db", checked := Try.checked }
namespace Rows
def none {H : Type} : Left H := { results := [], args := [] }

/-- 'bandplanlaw26.BandRanges': WHATEVER THE INPUT: true; the input reads as it did. -/
def bandRangesSpec : ChangeSpec := { name := "bandRanges", fn := fun _ => fun
  | [d1, d2] => { results := [.lit (.bool true)], args := [d1, d2] }
  | _ => none }
def bandRangesRow : OpenClaim := { program := "ytenhigpeafaidaa", sum := "ed68bf87864db88a904f8d207856e141fc1fdd07383bb5dd8b8621a715efc9db", func := "bandplan/bandplanlaw26.BandRanges", spec := "bandRanges", unfollowed := true, recurses := true, apart := false }
def BandRangesSaid : Prop := bandRangesRow.holds Try.pinned (OpenSpec.ofChange bandRangesSpec)

/-- ITS FALSE NEIGHBOUR: 'it returns false'. Refute it at one input. -/
def bandRangesWrong : ChangeSpec := { name := "bandRanges", fn := fun _ => fun
  | [d1, d2] => { results := [.lit (.bool false)], args := [d1, d2] }
  | _ => none }
def BandRangesWrongFalsely : Prop := bandRangesRow.holds Try.pinned (OpenSpec.ofChange bandRangesWrong)

/-- 'bandplanlaw26.BandChannels': WHATEVER THE INPUT: true; the input reads as it did. -/
def bandChannelsSpec : ChangeSpec := { name := "bandChannels", fn := fun _ => fun
  | [d1, d2] => { results := [.lit (.bool true)], args := [d1, d2] }
  | _ => none }
def bandChannelsRow : OpenClaim := { program := "ytenhigpeafaidaa", sum := "ed68bf87864db88a904f8d207856e141fc1fdd07383bb5dd8b8621a715efc9db", func := "bandplan/bandplanlaw26.BandChannels", spec := "bandChannels", unfollowed := true, recurses := true, apart := false }
def BandChannelsSaid : Prop := bandChannelsRow.holds Try.pinned (OpenSpec.ofChange bandChannelsSpec)

/-- ITS FALSE NEIGHBOUR: 'it returns false'. Refute it at one input. -/
def bandChannelsWrong : ChangeSpec := { name := "bandChannels", fn := fun _ => fun
  | [d1, d2] => { results := [.lit (.bool false)], args := [d1, d2] }
  | _ => none }
def BandChannelsWrongFalsely : Prop := bandChannelsRow.holds Try.pinned (OpenSpec.ofChange bandChannelsWrong)

/-- 'bandplanlaw26.BandProblems': WHATEVER THE INPUT: true; the input reads as it did. -/
def bandProblemsSpec : ChangeSpec := { name := "bandProblems", fn := fun _ => fun
  | [d1, d2, d3] => { results := [.lit (.bool true)], args := [d1, d2, d3] }
  | _ => none }
def bandProblemsRow : OpenClaim := { program := "ytenhigpeafaidaa", sum := "ed68bf87864db88a904f8d207856e141fc1fdd07383bb5dd8b8621a715efc9db", func := "bandplan/bandplanlaw26.BandProblems", spec := "bandProblems", unfollowed := true, recurses := true, apart := false }
def BandProblemsSaid : Prop := bandProblemsRow.holds Try.pinned (OpenSpec.ofChange bandProblemsSpec)

/-- ITS FALSE NEIGHBOUR: 'it returns false'. Refute it at one input. -/
def bandProblemsWrong : ChangeSpec := { name := "bandProblems", fn := fun _ => fun
  | [d1, d2, d3] => { results := [.lit (.bool false)], args := [d1, d2, d3] }
  | _ => none }
def BandProblemsWrongFalsely : Prop := bandProblemsRow.holds Try.pinned (OpenSpec.ofChange bandProblemsWrong)

/-- 'bandplanlaw26.BandTargets': WHATEVER THE INPUT: true; the input reads as it did. -/
def bandTargetsSpec : ChangeSpec := { name := "bandTargets", fn := fun _ => fun
  | [d1, d2] => { results := [.lit (.bool true)], args := [d1, d2] }
  | _ => none }
def bandTargetsRow : OpenClaim := { program := "ytenhigpeafaidaa", sum := "ed68bf87864db88a904f8d207856e141fc1fdd07383bb5dd8b8621a715efc9db", func := "bandplan/bandplanlaw26.BandTargets", spec := "bandTargets", unfollowed := true, recurses := true, apart := false }
def BandTargetsSaid : Prop := bandTargetsRow.holds Try.pinned (OpenSpec.ofChange bandTargetsSpec)

/-- ITS FALSE NEIGHBOUR: 'it returns false'. Refute it at one input. -/
def bandTargetsWrong : ChangeSpec := { name := "bandTargets", fn := fun _ => fun
  | [d1, d2] => { results := [.lit (.bool false)], args := [d1, d2] }
  | _ => none }
def BandTargetsWrongFalsely : Prop := bandTargetsRow.holds Try.pinned (OpenSpec.ofChange bandTargetsWrong)

/-- 'bandplanlaw26.BandLimits': WHATEVER THE INPUT: true; the input reads as it did. -/
def bandLimitsSpec : ChangeSpec := { name := "bandLimits", fn := fun _ => fun
  | [d1, d2] => { results := [.lit (.bool true)], args := [d1, d2] }
  | _ => none }
def bandLimitsRow : OpenClaim := { program := "ytenhigpeafaidaa", sum := "ed68bf87864db88a904f8d207856e141fc1fdd07383bb5dd8b8621a715efc9db", func := "bandplan/bandplanlaw26.BandLimits", spec := "bandLimits", unfollowed := true, recurses := true, apart := false }
def BandLimitsSaid : Prop := bandLimitsRow.holds Try.pinned (OpenSpec.ofChange bandLimitsSpec)

/-- ITS FALSE NEIGHBOUR: 'it returns false'. Refute it at one input. -/
def bandLimitsWrong : ChangeSpec := { name := "bandLimits", fn := fun _ => fun
  | [d1, d2] => { results := [.lit (.bool false)], args := [d1, d2] }
  | _ => none }
def BandLimitsWrongFalsely : Prop := bandLimitsRow.holds Try.pinned (OpenSpec.ofChange bandLimitsWrong)

/-- 'bandplanlaw26.BandHolds': WHATEVER THE INPUT: true; the input reads as it did. -/
def bandHoldsSpec : ChangeSpec := { name := "bandHolds", fn := fun _ => fun
  | [d1, d2, d3, d4, d5] => { results := [.lit (.bool true)], args := [d1, d2, d3, d4, d5] }
  | _ => none }
def bandHoldsRow : OpenClaim := { program := "ytenhigpeafaidaa", sum := "ed68bf87864db88a904f8d207856e141fc1fdd07383bb5dd8b8621a715efc9db", func := "bandplan/bandplanlaw26.BandHolds", spec := "bandHolds", unfollowed := true, recurses := true, apart := false }
def BandHoldsSaid : Prop := bandHoldsRow.holds Try.pinned (OpenSpec.ofChange bandHoldsSpec)

/-- ITS FALSE NEIGHBOUR: 'it returns false'. Refute it at one input. -/
def bandHoldsWrong : ChangeSpec := { name := "bandHolds", fn := fun _ => fun
  | [d1, d2, d3, d4, d5] => { results := [.lit (.bool false)], args := [d1, d2, d3, d4, d5] }
  | _ => none }
def BandHoldsWrongFalsely : Prop := bandHoldsRow.holds Try.pinned (OpenSpec.ofChange bandHoldsWrong)

/- THE SECOND FORM. 'bulk': how many values and letters a reading holds, each counted each time it is reached (what is shared counts as often as it is met; a slice's spare places count too). A statement '..UptoSaid' is the law's where the arguments, and the package variables that the reading takes, are together of bulk at most 1048576: NARROWER than '..Said'. Prove '..Said' where nothing that the law and all that it calls make is longer than what came in: it says more and counts as full. Else prove '..UptoSaid'. A law counts once. -/
mutual
def uptoBulk {H : Type} : DataW H → Nat
  | .lit (.string bytes) => bytes.length + 1
  | .lit _ => 1
  | .nil => 1
  | .ptr d => uptoBulk d + 1
  | .slice elems spare => uptoBulkAll elems + uptoBulkAll spare + 1
  | .agg parts => uptoBulkAll parts + 1
  | .iface _ d => uptoBulk d + 1
  | .map entries => uptoBulkEntries entries + 1
  | .held _ => 1
def uptoBulkAll {H : Type} : List (DataW H) → Nat
  | [] => 0
  | d :: r => uptoBulk d + uptoBulkAll r
def uptoBulkEntries {H : Type} : List (Lit × DataW H) → Nat
  | [] => 0
  | x :: r => uptoBulkEntry x + uptoBulkEntries r
def uptoBulkEntry {H : Type} : Lit × DataW H → Nat
  | (.string bytes, d) => bytes.length + uptoBulk d + 1
  | (_, d) => uptoBulk d + 1
 end
def uptoSmall : (H : Type) → List (DataW H) → Bool := fun _ ds => decide (uptoBulkAll ds ≤ 1048576)
def OpenSpec.upto (s : _root_.Go.ChangeSpec) : _root_.Go.OpenSpec := { _root_.Go.OpenSpec.ofChange s with cond := some uptoSmall }

/-- 'bandplanlaw26.BandRanges', WHERE WHAT IT READS IS OF BULK AT MOST 1048576: true; the input reads as it did. -/
def bandRangesUptoRow : OpenClaim := { program := "ytenhigpeafaidaa", sum := "ed68bf87864db88a904f8d207856e141fc1fdd07383bb5dd8b8621a715efc9db", func := "bandplan/bandplanlaw26.BandRanges", spec := "bandRanges", unfollowed := true, recurses := true, apart := false, narrowed := true }
def BandRangesUptoSaid : Prop := bandRangesUptoRow.holds Try.pinned (OpenSpec.upto bandRangesSpec)

/-- 'bandplanlaw26.BandChannels', WHERE WHAT IT READS IS OF BULK AT MOST 1048576: true; the input reads as it did. -/
def bandChannelsUptoRow : OpenClaim := { program := "ytenhigpeafaidaa", sum := "ed68bf87864db88a904f8d207856e141fc1fdd07383bb5dd8b8621a715efc9db", func := "bandplan/bandplanlaw26.BandChannels", spec := "bandChannels", unfollowed := true, recurses := true, apart := false, narrowed := true }
def BandChannelsUptoSaid : Prop := bandChannelsUptoRow.holds Try.pinned (OpenSpec.upto bandChannelsSpec)

/-- 'bandplanlaw26.BandProblems', WHERE WHAT IT READS IS OF BULK AT MOST 1048576: true; the input reads as it did. -/
def bandProblemsUptoRow : OpenClaim := { program := "ytenhigpeafaidaa", sum := "ed68bf87864db88a904f8d207856e141fc1fdd07383bb5dd8b8621a715efc9db", func := "bandplan/bandplanlaw26.BandProblems", spec := "bandProblems", unfollowed := true, recurses := true, apart := false, narrowed := true }
def BandProblemsUptoSaid : Prop := bandProblemsUptoRow.holds Try.pinned (OpenSpec.upto bandProblemsSpec)

/-- 'bandplanlaw26.BandTargets', WHERE WHAT IT READS IS OF BULK AT MOST 1048576: true; the input reads as it did. -/
def bandTargetsUptoRow : OpenClaim := { program := "ytenhigpeafaidaa", sum := "ed68bf87864db88a904f8d207856e141fc1fdd07383bb5dd8b8621a715efc9db", func := "bandplan/bandplanlaw26.BandTargets", spec := "bandTargets", unfollowed := true, recurses := true, apart := false, narrowed := true }
def BandTargetsUptoSaid : Prop := bandTargetsUptoRow.holds Try.pinned (OpenSpec.upto bandTargetsSpec)

/-- 'bandplanlaw26.BandLimits', WHERE WHAT IT READS IS OF BULK AT MOST 1048576: true; the input reads as it did. -/
def bandLimitsUptoRow : OpenClaim := { program := "ytenhigpeafaidaa", sum := "ed68bf87864db88a904f8d207856e141fc1fdd07383bb5dd8b8621a715efc9db", func := "bandplan/bandplanlaw26.BandLimits", spec := "bandLimits", unfollowed := true, recurses := true, apart := false, narrowed := true }
def BandLimitsUptoSaid : Prop := bandLimitsUptoRow.holds Try.pinned (OpenSpec.upto bandLimitsSpec)

/-- 'bandplanlaw26.BandHolds', WHERE WHAT IT READS IS OF BULK AT MOST 1048576: true; the input reads as it did. -/
def bandHoldsUptoRow : OpenClaim := { program := "ytenhigpeafaidaa", sum := "ed68bf87864db88a904f8d207856e141fc1fdd07383bb5dd8b8621a715efc9db", func := "bandplan/bandplanlaw26.BandHolds", spec := "bandHolds", unfollowed := true, recurses := true, apart := false, narrowed := true }
def BandHoldsUptoSaid : Prop := bandHoldsUptoRow.holds Try.pinned (OpenSpec.upto bandHoldsSpec)

end Rows
end Go.Proofs.Ytenhigpeafaidaa
