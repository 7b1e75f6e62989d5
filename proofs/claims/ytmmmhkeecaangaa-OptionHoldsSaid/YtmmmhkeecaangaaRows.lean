/-
  No cell of these rows narrows 'for every input' (looked for: loops, veiled, ifaces, maps, wideKeys, modest, calm, conditions, laid).
  DERIVED. THE GIVEN ROWS OF THIS SEAT. 7 by the template 'for every input the law returns true; each argument reads behind the call as it read before'; 0 by the template 'total and deterministic' (their statements: YtmmmhkeecaangaaTotals.lean).
  GIVEN WITH THE SEED: the statements are not yours to turn. If you find one false, say at which input.
  Laid BY PROGRAM, IN A SANDBOX (cutbox-rows.mjs): the forced cells as the released guide's own fill.sh prints them over the translation 29d60e265f52010b… (all of the seat's roots in one cut). By AI agents, Wed Nov 11 2026. No macro, syntax, notation, axiom, sorry.
-/
import Derived.Test.YtmmmhkeecaangaaChecked
import GoSem.Claim
import GoSem.ClaimJoined
import GoSem.ClaimMapViews
import Derived.JoinedTies
import Derived.KernelRfl
namespace Go.Proofs.Ytmmmhkeecaangaa
/- THE CELL 'sum', in the pinned program and in every row, IS THE sha256 OF THE DUMP (.gsa) THAT YtmmmhkeecaangaaProg.lean LOADS. Nothing in Lean hashes anything: it is a label: what it is worth is what the hold of that sum in a sandbox is worth. -/
noncomputable def Try.pinned : Pinned := { name := "ytmmmhkeecaangaa", sum := "29d60e265f52010b6febb54563e0a8137bb3d997f8eeff6de8d52f6840ff59d0", checked := Try.checked }
namespace Rows
def none {H : Type} : Left H := { results := [], args := [] }

/-- 'bandplanlaw30.OptionAllowed': WHATEVER THE INPUT: true; the input reads as it did. -/
def optionAllowedSpec : ChangeSpec := { name := "optionAllowed", fn := fun _ => fun
  | [d1, d2, d3] => { results := [.lit (.bool true)], args := [d1, d2, d3] }
  | _ => none }
def optionAllowedRow : OpenClaim := { program := "ytmmmhkeecaangaa", sum := "29d60e265f52010b6febb54563e0a8137bb3d997f8eeff6de8d52f6840ff59d0", func := "bandplan/bandplanlaw30.OptionAllowed", spec := "optionAllowed", unfollowed := true, recurses := true, apart := false }
def OptionAllowedSaid : Prop := optionAllowedRow.holds Try.pinned (OpenSpec.ofChange optionAllowedSpec)

/-- ITS FALSE NEIGHBOUR: 'it returns false'. Refute it at one input. -/
def optionAllowedWrong : ChangeSpec := { name := "optionAllowed", fn := fun _ => fun
  | [d1, d2, d3] => { results := [.lit (.bool false)], args := [d1, d2, d3] }
  | _ => none }
def OptionAllowedWrongFalsely : Prop := optionAllowedRow.holds Try.pinned (OpenSpec.ofChange optionAllowedWrong)

/-- 'bandplanlaw30.OptionOpen': WHATEVER THE INPUT: true; the input reads as it did. -/
def optionOpenSpec : ChangeSpec := { name := "optionOpen", fn := fun _ => fun
  | [d1, d2, d3, d4] => { results := [.lit (.bool true)], args := [d1, d2, d3, d4] }
  | _ => none }
def optionOpenRow : OpenClaim := { program := "ytmmmhkeecaangaa", sum := "29d60e265f52010b6febb54563e0a8137bb3d997f8eeff6de8d52f6840ff59d0", func := "bandplan/bandplanlaw30.OptionOpen", spec := "optionOpen", unfollowed := true, recurses := true, apart := false }
def OptionOpenSaid : Prop := optionOpenRow.holds Try.pinned (OpenSpec.ofChange optionOpenSpec)

/-- ITS FALSE NEIGHBOUR: 'it returns false'. Refute it at one input. -/
def optionOpenWrong : ChangeSpec := { name := "optionOpen", fn := fun _ => fun
  | [d1, d2, d3, d4] => { results := [.lit (.bool false)], args := [d1, d2, d3, d4] }
  | _ => none }
def OptionOpenWrongFalsely : Prop := optionOpenRow.holds Try.pinned (OpenSpec.ofChange optionOpenWrong)

/-- 'bandplanlaw30.OptionValid': WHATEVER THE INPUT: true; the input reads as it did. -/
def optionValidSpec : ChangeSpec := { name := "optionValid", fn := fun _ => fun
  | [d1, d2, d3, d4] => { results := [.lit (.bool true)], args := [d1, d2, d3, d4] }
  | _ => none }
def optionValidRow : OpenClaim := { program := "ytmmmhkeecaangaa", sum := "29d60e265f52010b6febb54563e0a8137bb3d997f8eeff6de8d52f6840ff59d0", func := "bandplan/bandplanlaw30.OptionValid", spec := "optionValid", unfollowed := true, recurses := true, apart := false }
def OptionValidSaid : Prop := optionValidRow.holds Try.pinned (OpenSpec.ofChange optionValidSpec)

/-- ITS FALSE NEIGHBOUR: 'it returns false'. Refute it at one input. -/
def optionValidWrong : ChangeSpec := { name := "optionValid", fn := fun _ => fun
  | [d1, d2, d3, d4] => { results := [.lit (.bool false)], args := [d1, d2, d3, d4] }
  | _ => none }
def OptionValidWrongFalsely : Prop := optionValidRow.holds Try.pinned (OpenSpec.ofChange optionValidWrong)

/-- 'bandplanlaw30.OptionChoose': WHATEVER THE INPUT: true; the input reads as it did. -/
def optionChooseSpec : ChangeSpec := { name := "optionChoose", fn := fun _ => fun
  | [d1, d2, d3, d4] => { results := [.lit (.bool true)], args := [d1, d2, d3, d4] }
  | _ => none }
def optionChooseRow : OpenClaim := { program := "ytmmmhkeecaangaa", sum := "29d60e265f52010b6febb54563e0a8137bb3d997f8eeff6de8d52f6840ff59d0", func := "bandplan/bandplanlaw30.OptionChoose", spec := "optionChoose", unfollowed := true, recurses := true, apart := false }
def OptionChooseSaid : Prop := optionChooseRow.holds Try.pinned (OpenSpec.ofChange optionChooseSpec)

/-- ITS FALSE NEIGHBOUR: 'it returns false'. Refute it at one input. -/
def optionChooseWrong : ChangeSpec := { name := "optionChoose", fn := fun _ => fun
  | [d1, d2, d3, d4] => { results := [.lit (.bool false)], args := [d1, d2, d3, d4] }
  | _ => none }
def OptionChooseWrongFalsely : Prop := optionChooseRow.holds Try.pinned (OpenSpec.ofChange optionChooseWrong)

/-- 'bandplanlaw30.OptionEncode': WHATEVER THE INPUT: true; the input reads as it did. -/
def optionEncodeSpec : ChangeSpec := { name := "optionEncode", fn := fun _ => fun
  | [d] => { results := [.lit (.bool true)], args := [d] }
  | _ => none }
def optionEncodeRow : OpenClaim := { program := "ytmmmhkeecaangaa", sum := "29d60e265f52010b6febb54563e0a8137bb3d997f8eeff6de8d52f6840ff59d0", func := "bandplan/bandplanlaw30.OptionEncode", spec := "optionEncode", unfollowed := true, recurses := true, apart := false }
def OptionEncodeSaid : Prop := optionEncodeRow.holds Try.pinned (OpenSpec.ofChange optionEncodeSpec)

/-- ITS FALSE NEIGHBOUR: 'it returns false'. Refute it at one input. -/
def optionEncodeWrong : ChangeSpec := { name := "optionEncode", fn := fun _ => fun
  | [d] => { results := [.lit (.bool false)], args := [d] }
  | _ => none }
def OptionEncodeWrongFalsely : Prop := optionEncodeRow.holds Try.pinned (OpenSpec.ofChange optionEncodeWrong)

/-- 'bandplanlaw30.OptionDecode': WHATEVER THE INPUT: true; the input reads as it did. -/
def optionDecodeSpec : ChangeSpec := { name := "optionDecode", fn := fun _ => fun
  | [d] => { results := [.lit (.bool true)], args := [d] }
  | _ => none }
def optionDecodeRow : OpenClaim := { program := "ytmmmhkeecaangaa", sum := "29d60e265f52010b6febb54563e0a8137bb3d997f8eeff6de8d52f6840ff59d0", func := "bandplan/bandplanlaw30.OptionDecode", spec := "optionDecode", unfollowed := true, recurses := true, apart := false }
def OptionDecodeSaid : Prop := optionDecodeRow.holds Try.pinned (OpenSpec.ofChange optionDecodeSpec)

/-- ITS FALSE NEIGHBOUR: 'it returns false'. Refute it at one input. -/
def optionDecodeWrong : ChangeSpec := { name := "optionDecode", fn := fun _ => fun
  | [d] => { results := [.lit (.bool false)], args := [d] }
  | _ => none }
def OptionDecodeWrongFalsely : Prop := optionDecodeRow.holds Try.pinned (OpenSpec.ofChange optionDecodeWrong)

/-- 'bandplanlaw30.OptionHolds': WHATEVER THE INPUT: true; the input reads as it did. -/
def optionHoldsSpec : ChangeSpec := { name := "optionHolds", fn := fun _ => fun
  | [d1, d2, d3, d4, d5] => { results := [.lit (.bool true)], args := [d1, d2, d3, d4, d5] }
  | _ => none }
def optionHoldsRow : OpenClaim := { program := "ytmmmhkeecaangaa", sum := "29d60e265f52010b6febb54563e0a8137bb3d997f8eeff6de8d52f6840ff59d0", func := "bandplan/bandplanlaw30.OptionHolds", spec := "optionHolds", unfollowed := true, recurses := true, apart := false }
def OptionHoldsSaid : Prop := optionHoldsRow.holds Try.pinned (OpenSpec.ofChange optionHoldsSpec)

/-- ITS FALSE NEIGHBOUR: 'it returns false'. Refute it at one input. -/
def optionHoldsWrong : ChangeSpec := { name := "optionHolds", fn := fun _ => fun
  | [d1, d2, d3, d4, d5] => { results := [.lit (.bool false)], args := [d1, d2, d3, d4, d5] }
  | _ => none }
def OptionHoldsWrongFalsely : Prop := optionHoldsRow.holds Try.pinned (OpenSpec.ofChange optionHoldsWrong)

/- THE SECOND FORM. 'bulk': how many values and letters a reading holds, each counted each time it is reached (what is shared counts as often as it is met; a slice's spare places count too). A statement '..UptoSaid' is the law's where the arguments, and the package variables that the reading takes, are together of bulk at most 1048576: NARROWER than '..Said'. Prove '..Said' where nothing that the law and all that it calls make is longer than what came in: it says more and counts as full. Else prove '..UptoSaid'. A law counts once. -/
mutual
def uptoBulk {H : Type} : DataW H → Nat
  | .lit (.string bytes) => bytes.length + 1
  | .lit _ => 1
  | .nil => 1
  | .ptr d => uptoBulk d + 1
  | .slice elems spare => uptoBulkAll elems + uptoBulkAll spare + 1
  | .agg parts => uptoBulkAll parts + 1
  | .iface _ d => uptoBulk d + 1
  | .map entries => uptoBulkEntries entries + 1
  | .held _ => 1
def uptoBulkAll {H : Type} : List (DataW H) → Nat
  | [] => 0
  | d :: r => uptoBulk d + uptoBulkAll r
def uptoBulkEntries {H : Type} : List (Lit × DataW H) → Nat
  | [] => 0
  | x :: r => uptoBulkEntry x + uptoBulkEntries r
def uptoBulkEntry {H : Type} : Lit × DataW H → Nat
  | (.string bytes, d) => bytes.length + uptoBulk d + 1
  | (_, d) => uptoBulk d + 1
 end
def uptoSmall : (H : Type) → List (DataW H) → Bool := fun _ ds => decide (uptoBulkAll ds ≤ 1048576)
def OpenSpec.upto (s : _root_.Go.ChangeSpec) : _root_.Go.OpenSpec := { _root_.Go.OpenSpec.ofChange s with cond := some uptoSmall }

/-- 'bandplanlaw30.OptionAllowed', WHERE WHAT IT READS IS OF BULK AT MOST 1048576: true; the input reads as it did. -/
def optionAllowedUptoRow : OpenClaim := { program := "ytmmmhkeecaangaa", sum := "29d60e265f52010b6febb54563e0a8137bb3d997f8eeff6de8d52f6840ff59d0", func := "bandplan/bandplanlaw30.OptionAllowed", spec := "optionAllowed", unfollowed := true, recurses := true, apart := false, narrowed := true }
def OptionAllowedUptoSaid : Prop := optionAllowedUptoRow.holds Try.pinned (OpenSpec.upto optionAllowedSpec)

/-- 'bandplanlaw30.OptionOpen', WHERE WHAT IT READS IS OF BULK AT MOST 1048576: true; the input reads as it did. -/
def optionOpenUptoRow : OpenClaim := { program := "ytmmmhkeecaangaa", sum := "29d60e265f52010b6febb54563e0a8137bb3d997f8eeff6de8d52f6840ff59d0", func := "bandplan/bandplanlaw30.OptionOpen", spec := "optionOpen", unfollowed := true, recurses := true, apart := false, narrowed := true }
def OptionOpenUptoSaid : Prop := optionOpenUptoRow.holds Try.pinned (OpenSpec.upto optionOpenSpec)

/-- 'bandplanlaw30.OptionValid', WHERE WHAT IT READS IS OF BULK AT MOST 1048576: true; the input reads as it did. -/
def optionValidUptoRow : OpenClaim := { program := "ytmmmhkeecaangaa", sum := "29d60e265f52010b6febb54563e0a8137bb3d997f8eeff6de8d52f6840ff59d0", func := "bandplan/bandplanlaw30.OptionValid", spec := "optionValid", unfollowed := true, recurses := true, apart := false, narrowed := true }
def OptionValidUptoSaid : Prop := optionValidUptoRow.holds Try.pinned (OpenSpec.upto optionValidSpec)

/-- 'bandplanlaw30.OptionChoose', WHERE WHAT IT READS IS OF BULK AT MOST 1048576: true; the input reads as it did. -/
def optionChooseUptoRow : OpenClaim := { program := "ytmmmhkeecaangaa", sum := "29d60e265f52010b6febb54563e0a8137bb3d997f8eeff6de8d52f6840ff59d0", func := "bandplan/bandplanlaw30.OptionChoose", spec := "optionChoose", unfollowed := true, recurses := true, apart := false, narrowed := true }
def OptionChooseUptoSaid : Prop := optionChooseUptoRow.holds Try.pinned (OpenSpec.upto optionChooseSpec)

/-- 'bandplanlaw30.OptionEncode', WHERE WHAT IT READS IS OF BULK AT MOST 1048576: true; the input reads as it did. -/
def optionEncodeUptoRow : OpenClaim := { program := "ytmmmhkeecaangaa", sum := "29d60e265f52010b6febb54563e0a8137bb3d997f8eeff6de8d52f6840ff59d0", func := "bandplan/bandplanlaw30.OptionEncode", spec := "optionEncode", unfollowed := true, recurses := true, apart := false, narrowed := true }
def OptionEncodeUptoSaid : Prop := optionEncodeUptoRow.holds Try.pinned (OpenSpec.upto optionEncodeSpec)

/-- 'bandplanlaw30.OptionDecode', WHERE WHAT IT READS IS OF BULK AT MOST 1048576: true; the input reads as it did. -/
def optionDecodeUptoRow : OpenClaim := { program := "ytmmmhkeecaangaa", sum := "29d60e265f52010b6febb54563e0a8137bb3d997f8eeff6de8d52f6840ff59d0", func := "bandplan/bandplanlaw30.OptionDecode", spec := "optionDecode", unfollowed := true, recurses := true, apart := false, narrowed := true }
def OptionDecodeUptoSaid : Prop := optionDecodeUptoRow.holds Try.pinned (OpenSpec.upto optionDecodeSpec)

/-- 'bandplanlaw30.OptionHolds', WHERE WHAT IT READS IS OF BULK AT MOST 1048576: true; the input reads as it did. -/
def optionHoldsUptoRow : OpenClaim := { program := "ytmmmhkeecaangaa", sum := "29d60e265f52010b6febb54563e0a8137bb3d997f8eeff6de8d52f6840ff59d0", func := "bandplan/bandplanlaw30.OptionHolds", spec := "optionHolds", unfollowed := true, recurses := true, apart := false, narrowed := true }
def OptionHoldsUptoSaid : Prop := optionHoldsUptoRow.holds Try.pinned (OpenSpec.upto optionHoldsSpec)

end Rows
end Go.Proofs.Ytmmmhkeecaangaa
