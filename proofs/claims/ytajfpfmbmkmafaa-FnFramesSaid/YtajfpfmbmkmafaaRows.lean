/-
  No cell of these rows narrows 'for every input' (looked for: loops, veiled, ifaces, maps, wideKeys, modest, calm, conditions, laid).
  DERIVED. THE GIVEN ROWS OF THIS SEAT. 10 by the template 'for every input the law returns true; each argument reads behind the call as it read before'; 0 by the template 'total and deterministic' (their statements: YtajfpfmbmkmafaaTotals.lean).
  GIVEN WITH THE SEED: the statements are not yours to turn. If you find one false, say at which input.
  Laid BY PROGRAM, IN A SANDBOX (cutbox-rows.mjs): the forced cells as the released guide's own fill.sh prints them over the translation d75c21880adf3575… (all of the seat's roots in one cut). By AI agents, Wed Nov 11 2026. No macro, syntax, notation, axiom, sorry.
-/
import Derived.Test.YtajfpfmbmkmafaaChecked
import GoSem.Claim
import GoSem.ClaimJoined
import GoSem.ClaimMapViews
import Derived.JoinedTies
import Derived.KernelRfl
namespace Go.Proofs.Ytajfpfmbmkmafaa
/- THE CELL 'sum', in the pinned program and in every row, IS THE sha256 OF THE DUMP (.gsa) THAT YtajfpfmbmkmafaaProg.lean LOADS. Nothing in Lean hashes anything: it is a label: what it is worth is what the hold of that sum in a sandbox is worth. -/
noncomputable def Try.pinned : Pinned := { name := "ytajfpfmbmkmafaa", sum := "d75c21880adf3575b102068ce6ae8a08c5ec4eaaab60d425d0872caf732e468a", checked := Try.checked }
namespace Rows
def none {H : Type} : Left H := { results := [], args := [] }

/-- 'laws.FnExactSkipPart': WHATEVER THE INPUT: true; the input reads as it did. -/
def fnExactSkipPartSpec : ChangeSpec := { name := "fnExactSkipPart", fn := fun _ => fun
  | [d] => { results := [.lit (.bool true)], args := [d] }
  | _ => none }
def fnExactSkipPartRow : OpenClaim := { program := "ytajfpfmbmkmafaa", sum := "d75c21880adf3575b102068ce6ae8a08c5ec4eaaab60d425d0872caf732e468a", func := "loop.example/g00575/laws.FnExactSkipPart", spec := "fnExactSkipPart", apart := false }
def FnExactSkipPartSaid : Prop := fnExactSkipPartRow.holds Try.pinned (OpenSpec.ofChange fnExactSkipPartSpec)

/-- ITS FALSE NEIGHBOUR: 'it returns false'. Refute it at one input. -/
def fnExactSkipPartWrong : ChangeSpec := { name := "fnExactSkipPart", fn := fun _ => fun
  | [d] => { results := [.lit (.bool false)], args := [d] }
  | _ => none }
def FnExactSkipPartWrongFalsely : Prop := fnExactSkipPartRow.holds Try.pinned (OpenSpec.ofChange fnExactSkipPartWrong)

/-- 'laws.FnExactTakeNums': WHATEVER THE INPUT: true; the input reads as it did. -/
def fnExactTakeNumsSpec : ChangeSpec := { name := "fnExactTakeNums", fn := fun _ => fun
  | [d] => { results := [.lit (.bool true)], args := [d] }
  | _ => none }
def fnExactTakeNumsRow : OpenClaim := { program := "ytajfpfmbmkmafaa", sum := "d75c21880adf3575b102068ce6ae8a08c5ec4eaaab60d425d0872caf732e468a", func := "loop.example/g00575/laws.FnExactTakeNums", spec := "fnExactTakeNums", apart := false }
def FnExactTakeNumsSaid : Prop := fnExactTakeNumsRow.holds Try.pinned (OpenSpec.ofChange fnExactTakeNumsSpec)

/-- ITS FALSE NEIGHBOUR: 'it returns false'. Refute it at one input. -/
def fnExactTakeNumsWrong : ChangeSpec := { name := "fnExactTakeNums", fn := fun _ => fun
  | [d] => { results := [.lit (.bool false)], args := [d] }
  | _ => none }
def FnExactTakeNumsWrongFalsely : Prop := fnExactTakeNumsRow.holds Try.pinned (OpenSpec.ofChange fnExactTakeNumsWrong)

/-- 'laws.FnExactPutNums': WHATEVER THE INPUT: true; the input reads as it did. -/
def fnExactPutNumsSpec : ChangeSpec := { name := "fnExactPutNums", fn := fun _ => fun
  | [d] => { results := [.lit (.bool true)], args := [d] }
  | _ => none }
def fnExactPutNumsRow : OpenClaim := { program := "ytajfpfmbmkmafaa", sum := "d75c21880adf3575b102068ce6ae8a08c5ec4eaaab60d425d0872caf732e468a", func := "loop.example/g00575/laws.FnExactPutNums", spec := "fnExactPutNums", apart := false }
def FnExactPutNumsSaid : Prop := fnExactPutNumsRow.holds Try.pinned (OpenSpec.ofChange fnExactPutNumsSpec)

/-- ITS FALSE NEIGHBOUR: 'it returns false'. Refute it at one input. -/
def fnExactPutNumsWrong : ChangeSpec := { name := "fnExactPutNums", fn := fun _ => fun
  | [d] => { results := [.lit (.bool false)], args := [d] }
  | _ => none }
def FnExactPutNumsWrongFalsely : Prop := fnExactPutNumsRow.holds Try.pinned (OpenSpec.ofChange fnExactPutNumsWrong)

/-- 'laws.FnExactGoodPart': WHATEVER THE INPUT: true; the input reads as it did. -/
def fnExactGoodPartSpec : ChangeSpec := { name := "fnExactGoodPart", fn := fun _ => fun
  | [d] => { results := [.lit (.bool true)], args := [d] }
  | _ => none }
def fnExactGoodPartRow : OpenClaim := { program := "ytajfpfmbmkmafaa", sum := "d75c21880adf3575b102068ce6ae8a08c5ec4eaaab60d425d0872caf732e468a", func := "loop.example/g00575/laws.FnExactGoodPart", spec := "fnExactGoodPart", apart := false }
def FnExactGoodPartSaid : Prop := fnExactGoodPartRow.holds Try.pinned (OpenSpec.ofChange fnExactGoodPartSpec)

/-- ITS FALSE NEIGHBOUR: 'it returns false'. Refute it at one input. -/
def fnExactGoodPartWrong : ChangeSpec := { name := "fnExactGoodPart", fn := fun _ => fun
  | [d] => { results := [.lit (.bool false)], args := [d] }
  | _ => none }
def FnExactGoodPartWrongFalsely : Prop := fnExactGoodPartRow.holds Try.pinned (OpenSpec.ofChange fnExactGoodPartWrong)

/-- 'laws.FnExactPartText': WHATEVER THE INPUT: true; the input reads as it did. -/
def fnExactPartTextSpec : ChangeSpec := { name := "fnExactPartText", fn := fun _ => fun
  | [d] => { results := [.lit (.bool true)], args := [d] }
  | _ => none }
def fnExactPartTextRow : OpenClaim := { program := "ytajfpfmbmkmafaa", sum := "d75c21880adf3575b102068ce6ae8a08c5ec4eaaab60d425d0872caf732e468a", func := "loop.example/g00575/laws.FnExactPartText", spec := "fnExactPartText", apart := false }
def FnExactPartTextSaid : Prop := fnExactPartTextRow.holds Try.pinned (OpenSpec.ofChange fnExactPartTextSpec)

/-- ITS FALSE NEIGHBOUR: 'it returns false'. Refute it at one input. -/
def fnExactPartTextWrong : ChangeSpec := { name := "fnExactPartText", fn := fun _ => fun
  | [d] => { results := [.lit (.bool false)], args := [d] }
  | _ => none }
def FnExactPartTextWrongFalsely : Prop := fnExactPartTextRow.holds Try.pinned (OpenSpec.ofChange fnExactPartTextWrong)

/-- 'laws.FnExactPartsOf': WHATEVER THE INPUT: true; the input reads as it did. -/
def fnExactPartsOfSpec : ChangeSpec := { name := "fnExactPartsOf", fn := fun _ => fun
  | [d1, d2] => { results := [.lit (.bool true)], args := [d1, d2] }
  | _ => none }
def fnExactPartsOfRow : OpenClaim := { program := "ytajfpfmbmkmafaa", sum := "d75c21880adf3575b102068ce6ae8a08c5ec4eaaab60d425d0872caf732e468a", func := "loop.example/g00575/laws.FnExactPartsOf", spec := "fnExactPartsOf", apart := false }
def FnExactPartsOfSaid : Prop := fnExactPartsOfRow.holds Try.pinned (OpenSpec.ofChange fnExactPartsOfSpec)

/-- ITS FALSE NEIGHBOUR: 'it returns false'. Refute it at one input. -/
def fnExactPartsOfWrong : ChangeSpec := { name := "fnExactPartsOf", fn := fun _ => fun
  | [d1, d2] => { results := [.lit (.bool false)], args := [d1, d2] }
  | _ => none }
def FnExactPartsOfWrongFalsely : Prop := fnExactPartsOfRow.holds Try.pinned (OpenSpec.ofChange fnExactPartsOfWrong)

/-- 'laws.FnExactFrameText': WHATEVER THE INPUT: true; the input reads as it did. -/
def fnExactFrameTextSpec : ChangeSpec := { name := "fnExactFrameText", fn := fun _ => fun
  | [d] => { results := [.lit (.bool true)], args := [d] }
  | _ => none }
def fnExactFrameTextRow : OpenClaim := { program := "ytajfpfmbmkmafaa", sum := "d75c21880adf3575b102068ce6ae8a08c5ec4eaaab60d425d0872caf732e468a", func := "loop.example/g00575/laws.FnExactFrameText", spec := "fnExactFrameText", apart := false }
def FnExactFrameTextSaid : Prop := fnExactFrameTextRow.holds Try.pinned (OpenSpec.ofChange fnExactFrameTextSpec)

/-- ITS FALSE NEIGHBOUR: 'it returns false'. Refute it at one input. -/
def fnExactFrameTextWrong : ChangeSpec := { name := "fnExactFrameText", fn := fun _ => fun
  | [d] => { results := [.lit (.bool false)], args := [d] }
  | _ => none }
def FnExactFrameTextWrongFalsely : Prop := fnExactFrameTextRow.holds Try.pinned (OpenSpec.ofChange fnExactFrameTextWrong)

/-- 'laws.FnExactReadFrame': WHATEVER THE INPUT: true; the input reads as it did. -/
def fnExactReadFrameSpec : ChangeSpec := { name := "fnExactReadFrame", fn := fun _ => fun
  | [d] => { results := [.lit (.bool true)], args := [d] }
  | _ => none }
def fnExactReadFrameRow : OpenClaim := { program := "ytajfpfmbmkmafaa", sum := "d75c21880adf3575b102068ce6ae8a08c5ec4eaaab60d425d0872caf732e468a", func := "loop.example/g00575/laws.FnExactReadFrame", spec := "fnExactReadFrame", apart := false }
def FnExactReadFrameSaid : Prop := fnExactReadFrameRow.holds Try.pinned (OpenSpec.ofChange fnExactReadFrameSpec)

/-- ITS FALSE NEIGHBOUR: 'it returns false'. Refute it at one input. -/
def fnExactReadFrameWrong : ChangeSpec := { name := "fnExactReadFrame", fn := fun _ => fun
  | [d] => { results := [.lit (.bool false)], args := [d] }
  | _ => none }
def FnExactReadFrameWrongFalsely : Prop := fnExactReadFrameRow.holds Try.pinned (OpenSpec.ofChange fnExactReadFrameWrong)

/-- 'laws.FnNums': WHATEVER THE INPUT: true; the input reads as it did. -/
def fnNumsSpec : ChangeSpec := { name := "fnNums", fn := fun _ => fun
  | [d1, d2] => { results := [.lit (.bool true)], args := [d1, d2] }
  | _ => none }
def fnNumsRow : OpenClaim := { program := "ytajfpfmbmkmafaa", sum := "d75c21880adf3575b102068ce6ae8a08c5ec4eaaab60d425d0872caf732e468a", func := "loop.example/g00575/laws.FnNums", spec := "fnNums", apart := false }
def FnNumsSaid : Prop := fnNumsRow.holds Try.pinned (OpenSpec.ofChange fnNumsSpec)

/-- ITS FALSE NEIGHBOUR: 'it returns false'. Refute it at one input. -/
def fnNumsWrong : ChangeSpec := { name := "fnNums", fn := fun _ => fun
  | [d1, d2] => { results := [.lit (.bool false)], args := [d1, d2] }
  | _ => none }
def FnNumsWrongFalsely : Prop := fnNumsRow.holds Try.pinned (OpenSpec.ofChange fnNumsWrong)

/-- 'laws.FnFrames': WHATEVER THE INPUT: true; the input reads as it did. -/
def fnFramesSpec : ChangeSpec := { name := "fnFrames", fn := fun _ => fun
  | [d1, d2] => { results := [.lit (.bool true)], args := [d1, d2] }
  | _ => none }
def fnFramesRow : OpenClaim := { program := "ytajfpfmbmkmafaa", sum := "d75c21880adf3575b102068ce6ae8a08c5ec4eaaab60d425d0872caf732e468a", func := "loop.example/g00575/laws.FnFrames", spec := "fnFrames", apart := false }
def FnFramesSaid : Prop := fnFramesRow.holds Try.pinned (OpenSpec.ofChange fnFramesSpec)

/-- ITS FALSE NEIGHBOUR: 'it returns false'. Refute it at one input. -/
def fnFramesWrong : ChangeSpec := { name := "fnFrames", fn := fun _ => fun
  | [d1, d2] => { results := [.lit (.bool false)], args := [d1, d2] }
  | _ => none }
def FnFramesWrongFalsely : Prop := fnFramesRow.holds Try.pinned (OpenSpec.ofChange fnFramesWrong)

/- THE SECOND FORM. 'bulk': how many values and letters a reading holds, each counted each time it is reached (what is shared counts as often as it is met; a slice's spare places count too). A statement '..UptoSaid' is the law's where the arguments, and the package variables that the reading takes, are together of bulk at most 1048576: NARROWER than '..Said'. Prove '..Said' where nothing that the law and all that it calls make is longer than what came in: it says more and counts as full. Else prove '..UptoSaid'. A law counts once. -/
mutual
def uptoBulk {H : Type} : DataW H → Nat
  | .lit (.string bytes) => bytes.length + 1
  | .lit _ => 1
  | .nil => 1
  | .ptr d => uptoBulk d + 1
  | .slice elems spare => uptoBulkAll elems + uptoBulkAll spare + 1
  | .agg parts => uptoBulkAll parts + 1
  | .iface _ d => uptoBulk d + 1
  | .map entries => uptoBulkEntries entries + 1
  | .held _ => 1
def uptoBulkAll {H : Type} : List (DataW H) → Nat
  | [] => 0
  | d :: r => uptoBulk d + uptoBulkAll r
def uptoBulkEntries {H : Type} : List (Lit × DataW H) → Nat
  | [] => 0
  | x :: r => uptoBulkEntry x + uptoBulkEntries r
def uptoBulkEntry {H : Type} : Lit × DataW H → Nat
  | (.string bytes, d) => bytes.length + uptoBulk d + 1
  | (_, d) => uptoBulk d + 1
 end
def uptoSmall : (H : Type) → List (DataW H) → Bool := fun _ ds => decide (uptoBulkAll ds ≤ 1048576)
def OpenSpec.upto (s : _root_.Go.ChangeSpec) : _root_.Go.OpenSpec := { _root_.Go.OpenSpec.ofChange s with cond := some uptoSmall }

/-- 'laws.FnExactSkipPart', WHERE WHAT IT READS IS OF BULK AT MOST 1048576: true; the input reads as it did. -/
def fnExactSkipPartUptoRow : OpenClaim := { program := "ytajfpfmbmkmafaa", sum := "d75c21880adf3575b102068ce6ae8a08c5ec4eaaab60d425d0872caf732e468a", func := "loop.example/g00575/laws.FnExactSkipPart", spec := "fnExactSkipPart", apart := false, narrowed := true }
def FnExactSkipPartUptoSaid : Prop := fnExactSkipPartUptoRow.holds Try.pinned (OpenSpec.upto fnExactSkipPartSpec)

/-- 'laws.FnExactTakeNums', WHERE WHAT IT READS IS OF BULK AT MOST 1048576: true; the input reads as it did. -/
def fnExactTakeNumsUptoRow : OpenClaim := { program := "ytajfpfmbmkmafaa", sum := "d75c21880adf3575b102068ce6ae8a08c5ec4eaaab60d425d0872caf732e468a", func := "loop.example/g00575/laws.FnExactTakeNums", spec := "fnExactTakeNums", apart := false, narrowed := true }
def FnExactTakeNumsUptoSaid : Prop := fnExactTakeNumsUptoRow.holds Try.pinned (OpenSpec.upto fnExactTakeNumsSpec)

/-- 'laws.FnExactPutNums', WHERE WHAT IT READS IS OF BULK AT MOST 1048576: true; the input reads as it did. -/
def fnExactPutNumsUptoRow : OpenClaim := { program := "ytajfpfmbmkmafaa", sum := "d75c21880adf3575b102068ce6ae8a08c5ec4eaaab60d425d0872caf732e468a", func := "loop.example/g00575/laws.FnExactPutNums", spec := "fnExactPutNums", apart := false, narrowed := true }
def FnExactPutNumsUptoSaid : Prop := fnExactPutNumsUptoRow.holds Try.pinned (OpenSpec.upto fnExactPutNumsSpec)

/-- 'laws.FnExactGoodPart', WHERE WHAT IT READS IS OF BULK AT MOST 1048576: true; the input reads as it did. -/
def fnExactGoodPartUptoRow : OpenClaim := { program := "ytajfpfmbmkmafaa", sum := "d75c21880adf3575b102068ce6ae8a08c5ec4eaaab60d425d0872caf732e468a", func := "loop.example/g00575/laws.FnExactGoodPart", spec := "fnExactGoodPart", apart := false, narrowed := true }
def FnExactGoodPartUptoSaid : Prop := fnExactGoodPartUptoRow.holds Try.pinned (OpenSpec.upto fnExactGoodPartSpec)

/-- 'laws.FnExactPartText', WHERE WHAT IT READS IS OF BULK AT MOST 1048576: true; the input reads as it did. -/
def fnExactPartTextUptoRow : OpenClaim := { program := "ytajfpfmbmkmafaa", sum := "d75c21880adf3575b102068ce6ae8a08c5ec4eaaab60d425d0872caf732e468a", func := "loop.example/g00575/laws.FnExactPartText", spec := "fnExactPartText", apart := false, narrowed := true }
def FnExactPartTextUptoSaid : Prop := fnExactPartTextUptoRow.holds Try.pinned (OpenSpec.upto fnExactPartTextSpec)

/-- 'laws.FnExactPartsOf', WHERE WHAT IT READS IS OF BULK AT MOST 1048576: true; the input reads as it did. -/
def fnExactPartsOfUptoRow : OpenClaim := { program := "ytajfpfmbmkmafaa", sum := "d75c21880adf3575b102068ce6ae8a08c5ec4eaaab60d425d0872caf732e468a", func := "loop.example/g00575/laws.FnExactPartsOf", spec := "fnExactPartsOf", apart := false, narrowed := true }
def FnExactPartsOfUptoSaid : Prop := fnExactPartsOfUptoRow.holds Try.pinned (OpenSpec.upto fnExactPartsOfSpec)

/-- 'laws.FnExactFrameText', WHERE WHAT IT READS IS OF BULK AT MOST 1048576: true; the input reads as it did. -/
def fnExactFrameTextUptoRow : OpenClaim := { program := "ytajfpfmbmkmafaa", sum := "d75c21880adf3575b102068ce6ae8a08c5ec4eaaab60d425d0872caf732e468a", func := "loop.example/g00575/laws.FnExactFrameText", spec := "fnExactFrameText", apart := false, narrowed := true }
def FnExactFrameTextUptoSaid : Prop := fnExactFrameTextUptoRow.holds Try.pinned (OpenSpec.upto fnExactFrameTextSpec)

/-- 'laws.FnExactReadFrame', WHERE WHAT IT READS IS OF BULK AT MOST 1048576: true; the input reads as it did. -/
def fnExactReadFrameUptoRow : OpenClaim := { program := "ytajfpfmbmkmafaa", sum := "d75c21880adf3575b102068ce6ae8a08c5ec4eaaab60d425d0872caf732e468a", func := "loop.example/g00575/laws.FnExactReadFrame", spec := "fnExactReadFrame", apart := false, narrowed := true }
def FnExactReadFrameUptoSaid : Prop := fnExactReadFrameUptoRow.holds Try.pinned (OpenSpec.upto fnExactReadFrameSpec)

/-- 'laws.FnNums', WHERE WHAT IT READS IS OF BULK AT MOST 1048576: true; the input reads as it did. -/
def fnNumsUptoRow : OpenClaim := { program := "ytajfpfmbmkmafaa", sum := "d75c21880adf3575b102068ce6ae8a08c5ec4eaaab60d425d0872caf732e468a", func := "loop.example/g00575/laws.FnNums", spec := "fnNums", apart := false, narrowed := true }
def FnNumsUptoSaid : Prop := fnNumsUptoRow.holds Try.pinned (OpenSpec.upto fnNumsSpec)

/-- 'laws.FnFrames', WHERE WHAT IT READS IS OF BULK AT MOST 1048576: true; the input reads as it did. -/
def fnFramesUptoRow : OpenClaim := { program := "ytajfpfmbmkmafaa", sum := "d75c21880adf3575b102068ce6ae8a08c5ec4eaaab60d425d0872caf732e468a", func := "loop.example/g00575/laws.FnFrames", spec := "fnFrames", apart := false, narrowed := true }
def FnFramesUptoSaid : Prop := fnFramesUptoRow.holds Try.pinned (OpenSpec.upto fnFramesSpec)

end Rows
end Go.Proofs.Ytajfpfmbmkmafaa
