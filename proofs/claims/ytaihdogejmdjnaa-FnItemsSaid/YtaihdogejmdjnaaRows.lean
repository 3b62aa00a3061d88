/-
  No cell of these rows narrows 'for every input' (looked for: loops, veiled, ifaces, maps, wideKeys, modest, calm, conditions, laid).
  DERIVED. THE GIVEN ROWS OF THIS SEAT. 10 by the template 'for every input the law returns true; each argument reads behind the call as it read before'; 0 by the template 'total and deterministic' (their statements: YtaihdogejmdjnaaTotals.lean).
  GIVEN WITH THE SEED: the statements are not yours to turn. If you find one false, say at which input.
  Laid BY PROGRAM, IN A SANDBOX (cutbox-rows.mjs): the forced cells as the released guide's own fill.sh prints them over the translation 834dc0d01dcc5863… (all of the seat's roots in one cut). By AI agents, Wed Nov 11 2026. No macro, syntax, notation, axiom, sorry.
-/
import Derived.Test.YtaihdogejmdjnaaChecked
import GoSem.Claim
import GoSem.ClaimJoined
import GoSem.ClaimMapViews
import Derived.JoinedTies
import Derived.KernelRfl
namespace Go.Proofs.Ytaihdogejmdjnaa
/- THE CELL 'sum', in the pinned program and in every row, IS THE sha256 OF THE DUMP (.gsa) THAT YtaihdogejmdjnaaProg.lean LOADS. Nothing in Lean hashes anything: it is a label: what it is worth is what the hold of that sum in a sandbox is worth. -/
noncomputable def Try.pinned : Pinned := { name := "ytaihdogejmdjnaa", sum := "834dc0d01dcc58635e337e5bef2a278534a1cd2f39c5659d0c6cca3024a4e6df", checked := Try.checked }
namespace Rows
def none {H : Type} : Left H := { results := [], args := [] }

/-- 'laws.FnExactNextSeq': WHATEVER THE INPUT: true; the input reads as it did. -/
def fnExactNextSeqSpec : ChangeSpec := { name := "fnExactNextSeq", fn := fun _ => fun
  | [d] => { results := [.lit (.bool true)], args := [d] }
  | _ => none }
def fnExactNextSeqRow : OpenClaim := { program := "ytaihdogejmdjnaa", sum := "834dc0d01dcc58635e337e5bef2a278534a1cd2f39c5659d0c6cca3024a4e6df", func := "loop.example/g00575/laws.FnExactNextSeq", spec := "fnExactNextSeq", apart := false }
def FnExactNextSeqSaid : Prop := fnExactNextSeqRow.holds Try.pinned (OpenSpec.ofChange fnExactNextSeqSpec)

/-- ITS FALSE NEIGHBOUR: 'it returns false'. Refute it at one input. -/
def fnExactNextSeqWrong : ChangeSpec := { name := "fnExactNextSeq", fn := fun _ => fun
  | [d] => { results := [.lit (.bool false)], args := [d] }
  | _ => none }
def FnExactNextSeqWrongFalsely : Prop := fnExactNextSeqRow.holds Try.pinned (OpenSpec.ofChange fnExactNextSeqWrong)

/-- 'laws.FnExactStepsTo': WHATEVER THE INPUT: true; the input reads as it did. -/
def fnExactStepsToSpec : ChangeSpec := { name := "fnExactStepsTo", fn := fun _ => fun
  | [d1, d2] => { results := [.lit (.bool true)], args := [d1, d2] }
  | _ => none }
def fnExactStepsToRow : OpenClaim := { program := "ytaihdogejmdjnaa", sum := "834dc0d01dcc58635e337e5bef2a278534a1cd2f39c5659d0c6cca3024a4e6df", func := "loop.example/g00575/laws.FnExactStepsTo", spec := "fnExactStepsTo", apart := false }
def FnExactStepsToSaid : Prop := fnExactStepsToRow.holds Try.pinned (OpenSpec.ofChange fnExactStepsToSpec)

/-- ITS FALSE NEIGHBOUR: 'it returns false'. Refute it at one input. -/
def fnExactStepsToWrong : ChangeSpec := { name := "fnExactStepsTo", fn := fun _ => fun
  | [d1, d2] => { results := [.lit (.bool false)], args := [d1, d2] }
  | _ => none }
def FnExactStepsToWrongFalsely : Prop := fnExactStepsToRow.holds Try.pinned (OpenSpec.ofChange fnExactStepsToWrong)

/-- 'laws.FnExactIsNewer': WHATEVER THE INPUT: true; the input reads as it did. -/
def fnExactIsNewerSpec : ChangeSpec := { name := "fnExactIsNewer", fn := fun _ => fun
  | [d1, d2] => { results := [.lit (.bool true)], args := [d1, d2] }
  | _ => none }
def fnExactIsNewerRow : OpenClaim := { program := "ytaihdogejmdjnaa", sum := "834dc0d01dcc58635e337e5bef2a278534a1cd2f39c5659d0c6cca3024a4e6df", func := "loop.example/g00575/laws.FnExactIsNewer", spec := "fnExactIsNewer", apart := false }
def FnExactIsNewerSaid : Prop := fnExactIsNewerRow.holds Try.pinned (OpenSpec.ofChange fnExactIsNewerSpec)

/-- ITS FALSE NEIGHBOUR: 'it returns false'. Refute it at one input. -/
def fnExactIsNewerWrong : ChangeSpec := { name := "fnExactIsNewer", fn := fun _ => fun
  | [d1, d2] => { results := [.lit (.bool false)], args := [d1, d2] }
  | _ => none }
def FnExactIsNewerWrongFalsely : Prop := fnExactIsNewerRow.holds Try.pinned (OpenSpec.ofChange fnExactIsNewerWrong)

/-- 'laws.FnExactGoodItem': WHATEVER THE INPUT: true; the input reads as it did. -/
def fnExactGoodItemSpec : ChangeSpec := { name := "fnExactGoodItem", fn := fun _ => fun
  | [d] => { results := [.lit (.bool true)], args := [d] }
  | _ => none }
def fnExactGoodItemRow : OpenClaim := { program := "ytaihdogejmdjnaa", sum := "834dc0d01dcc58635e337e5bef2a278534a1cd2f39c5659d0c6cca3024a4e6df", func := "loop.example/g00575/laws.FnExactGoodItem", spec := "fnExactGoodItem", apart := false }
def FnExactGoodItemSaid : Prop := fnExactGoodItemRow.holds Try.pinned (OpenSpec.ofChange fnExactGoodItemSpec)

/-- ITS FALSE NEIGHBOUR: 'it returns false'. Refute it at one input. -/
def fnExactGoodItemWrong : ChangeSpec := { name := "fnExactGoodItem", fn := fun _ => fun
  | [d] => { results := [.lit (.bool false)], args := [d] }
  | _ => none }
def FnExactGoodItemWrongFalsely : Prop := fnExactGoodItemRow.holds Try.pinned (OpenSpec.ofChange fnExactGoodItemWrong)

/-- 'laws.FnExactAgeItem': WHATEVER THE INPUT: true; the input reads as it did. -/
def fnExactAgeItemSpec : ChangeSpec := { name := "fnExactAgeItem", fn := fun _ => fun
  | [d1, d2] => { results := [.lit (.bool true)], args := [d1, d2] }
  | _ => none }
def fnExactAgeItemRow : OpenClaim := { program := "ytaihdogejmdjnaa", sum := "834dc0d01dcc58635e337e5bef2a278534a1cd2f39c5659d0c6cca3024a4e6df", func := "loop.example/g00575/laws.FnExactAgeItem", spec := "fnExactAgeItem", apart := false }
def FnExactAgeItemSaid : Prop := fnExactAgeItemRow.holds Try.pinned (OpenSpec.ofChange fnExactAgeItemSpec)

/-- ITS FALSE NEIGHBOUR: 'it returns false'. Refute it at one input. -/
def fnExactAgeItemWrong : ChangeSpec := { name := "fnExactAgeItem", fn := fun _ => fun
  | [d1, d2] => { results := [.lit (.bool false)], args := [d1, d2] }
  | _ => none }
def FnExactAgeItemWrongFalsely : Prop := fnExactAgeItemRow.holds Try.pinned (OpenSpec.ofChange fnExactAgeItemWrong)

/-- 'laws.FnExactBetter': WHATEVER THE INPUT: true; the input reads as it did. -/
def fnExactBetterSpec : ChangeSpec := { name := "fnExactBetter", fn := fun _ => fun
  | [d1, d2] => { results := [.lit (.bool true)], args := [d1, d2] }
  | _ => none }
def fnExactBetterRow : OpenClaim := { program := "ytaihdogejmdjnaa", sum := "834dc0d01dcc58635e337e5bef2a278534a1cd2f39c5659d0c6cca3024a4e6df", func := "loop.example/g00575/laws.FnExactBetter", spec := "fnExactBetter", apart := false }
def FnExactBetterSaid : Prop := fnExactBetterRow.holds Try.pinned (OpenSpec.ofChange fnExactBetterSpec)

/-- ITS FALSE NEIGHBOUR: 'it returns false'. Refute it at one input. -/
def fnExactBetterWrong : ChangeSpec := { name := "fnExactBetter", fn := fun _ => fun
  | [d1, d2] => { results := [.lit (.bool false)], args := [d1, d2] }
  | _ => none }
def FnExactBetterWrongFalsely : Prop := fnExactBetterRow.holds Try.pinned (OpenSpec.ofChange fnExactBetterWrong)

/-- 'laws.FnExactFitsRing': WHATEVER THE INPUT: true; the input reads as it did. -/
def fnExactFitsRingSpec : ChangeSpec := { name := "fnExactFitsRing", fn := fun _ => fun
  | [d] => { results := [.lit (.bool true)], args := [d] }
  | _ => none }
def fnExactFitsRingRow : OpenClaim := { program := "ytaihdogejmdjnaa", sum := "834dc0d01dcc58635e337e5bef2a278534a1cd2f39c5659d0c6cca3024a4e6df", func := "loop.example/g00575/laws.FnExactFitsRing", spec := "fnExactFitsRing", apart := false }
def FnExactFitsRingSaid : Prop := fnExactFitsRingRow.holds Try.pinned (OpenSpec.ofChange fnExactFitsRingSpec)

/-- ITS FALSE NEIGHBOUR: 'it returns false'. Refute it at one input. -/
def fnExactFitsRingWrong : ChangeSpec := { name := "fnExactFitsRing", fn := fun _ => fun
  | [d] => { results := [.lit (.bool false)], args := [d] }
  | _ => none }
def FnExactFitsRingWrongFalsely : Prop := fnExactFitsRingRow.holds Try.pinned (OpenSpec.ofChange fnExactFitsRingWrong)

/-- 'laws.FnExactNewestOf': WHATEVER THE INPUT: true; the input reads as it did. -/
def fnExactNewestOfSpec : ChangeSpec := { name := "fnExactNewestOf", fn := fun _ => fun
  | [d] => { results := [.lit (.bool true)], args := [d] }
  | _ => none }
def fnExactNewestOfRow : OpenClaim := { program := "ytaihdogejmdjnaa", sum := "834dc0d01dcc58635e337e5bef2a278534a1cd2f39c5659d0c6cca3024a4e6df", func := "loop.example/g00575/laws.FnExactNewestOf", spec := "fnExactNewestOf", apart := false }
def FnExactNewestOfSaid : Prop := fnExactNewestOfRow.holds Try.pinned (OpenSpec.ofChange fnExactNewestOfSpec)

/-- ITS FALSE NEIGHBOUR: 'it returns false'. Refute it at one input. -/
def fnExactNewestOfWrong : ChangeSpec := { name := "fnExactNewestOf", fn := fun _ => fun
  | [d] => { results := [.lit (.bool false)], args := [d] }
  | _ => none }
def FnExactNewestOfWrongFalsely : Prop := fnExactNewestOfRow.holds Try.pinned (OpenSpec.ofChange fnExactNewestOfWrong)

/-- 'laws.FnNewer': WHATEVER THE INPUT: true; the input reads as it did. -/
def fnNewerSpec : ChangeSpec := { name := "fnNewer", fn := fun _ => fun
  | [d1, d2] => { results := [.lit (.bool true)], args := [d1, d2] }
  | _ => none }
def fnNewerRow : OpenClaim := { program := "ytaihdogejmdjnaa", sum := "834dc0d01dcc58635e337e5bef2a278534a1cd2f39c5659d0c6cca3024a4e6df", func := "loop.example/g00575/laws.FnNewer", spec := "fnNewer", apart := false }
def FnNewerSaid : Prop := fnNewerRow.holds Try.pinned (OpenSpec.ofChange fnNewerSpec)

/-- ITS FALSE NEIGHBOUR: 'it returns false'. Refute it at one input. -/
def fnNewerWrong : ChangeSpec := { name := "fnNewer", fn := fun _ => fun
  | [d1, d2] => { results := [.lit (.bool false)], args := [d1, d2] }
  | _ => none }
def FnNewerWrongFalsely : Prop := fnNewerRow.holds Try.pinned (OpenSpec.ofChange fnNewerWrong)

/-- 'laws.FnItems': WHATEVER THE INPUT: true; the input reads as it did. -/
def fnItemsSpec : ChangeSpec := { name := "fnItems", fn := fun _ => fun
  | [d1, d2] => { results := [.lit (.bool true)], args := [d1, d2] }
  | _ => none }
def fnItemsRow : OpenClaim := { program := "ytaihdogejmdjnaa", sum := "834dc0d01dcc58635e337e5bef2a278534a1cd2f39c5659d0c6cca3024a4e6df", func := "loop.example/g00575/laws.FnItems", spec := "fnItems", apart := false }
def FnItemsSaid : Prop := fnItemsRow.holds Try.pinned (OpenSpec.ofChange fnItemsSpec)

/-- ITS FALSE NEIGHBOUR: 'it returns false'. Refute it at one input. -/
def fnItemsWrong : ChangeSpec := { name := "fnItems", fn := fun _ => fun
  | [d1, d2] => { results := [.lit (.bool false)], args := [d1, d2] }
  | _ => none }
def FnItemsWrongFalsely : Prop := fnItemsRow.holds Try.pinned (OpenSpec.ofChange fnItemsWrong)

/- THE SECOND FORM. 'bulk': how many values and letters a reading holds, each counted each time it is reached (what is shared counts as often as it is met; a slice's spare places count too). A statement '..UptoSaid' is the law's where the arguments, and the package variables that the reading takes, are together of bulk at most 1048576: NARROWER than '..Said'. Prove '..Said' where nothing that the law and all that it calls make is longer than what came in: it says more and counts as full. Else prove '..UptoSaid'. A law counts once. -/
mutual
def uptoBulk {H : Type} : DataW H → Nat
  | .lit (.string bytes) => bytes.length + 1
  | .lit _ => 1
  | .nil => 1
  | .ptr d => uptoBulk d + 1
  | .slice elems spare => uptoBulkAll elems + uptoBulkAll spare + 1
  | .agg parts => uptoBulkAll parts + 1
  | .iface _ d => uptoBulk d + 1
  | .map entries => uptoBulkEntries entries + 1
  | .held _ => 1
def uptoBulkAll {H : Type} : List (DataW H) → Nat
  | [] => 0
  | d :: r => uptoBulk d + uptoBulkAll r
def uptoBulkEntries {H : Type} : List (Lit × DataW H) → Nat
  | [] => 0
  | x :: r => uptoBulkEntry x + uptoBulkEntries r
def uptoBulkEntry {H : Type} : Lit × DataW H → Nat
  | (.string bytes, d) => bytes.length + uptoBulk d + 1
  | (_, d) => uptoBulk d + 1
 end
def uptoSmall : (H : Type) → List (DataW H) → Bool := fun _ ds => decide (uptoBulkAll ds ≤ 1048576)
def OpenSpec.upto (s : _root_.Go.ChangeSpec) : _root_.Go.OpenSpec := { _root_.Go.OpenSpec.ofChange s with cond := some uptoSmall }

/-- 'laws.FnExactNextSeq', WHERE WHAT IT READS IS OF BULK AT MOST 1048576: true; the input reads as it did. -/
def fnExactNextSeqUptoRow : OpenClaim := { program := "ytaihdogejmdjnaa", sum := "834dc0d01dcc58635e337e5bef2a278534a1cd2f39c5659d0c6cca3024a4e6df", func := "loop.example/g00575/laws.FnExactNextSeq", spec := "fnExactNextSeq", apart := false, narrowed := true }
def FnExactNextSeqUptoSaid : Prop := fnExactNextSeqUptoRow.holds Try.pinned (OpenSpec.upto fnExactNextSeqSpec)

/-- 'laws.FnExactStepsTo', WHERE WHAT IT READS IS OF BULK AT MOST 1048576: true; the input reads as it did. -/
def fnExactStepsToUptoRow : OpenClaim := { program := "ytaihdogejmdjnaa", sum := "834dc0d01dcc58635e337e5bef2a278534a1cd2f39c5659d0c6cca3024a4e6df", func := "loop.example/g00575/laws.FnExactStepsTo", spec := "fnExactStepsTo", apart := false, narrowed := true }
def FnExactStepsToUptoSaid : Prop := fnExactStepsToUptoRow.holds Try.pinned (OpenSpec.upto fnExactStepsToSpec)

/-- 'laws.FnExactIsNewer', WHERE WHAT IT READS IS OF BULK AT MOST 1048576: true; the input reads as it did. -/
def fnExactIsNewerUptoRow : OpenClaim := { program := "ytaihdogejmdjnaa", sum := "834dc0d01dcc58635e337e5bef2a278534a1cd2f39c5659d0c6cca3024a4e6df", func := "loop.example/g00575/laws.FnExactIsNewer", spec := "fnExactIsNewer", apart := false, narrowed := true }
def FnExactIsNewerUptoSaid : Prop := fnExactIsNewerUptoRow.holds Try.pinned (OpenSpec.upto fnExactIsNewerSpec)

/-- 'laws.FnExactGoodItem', WHERE WHAT IT READS IS OF BULK AT MOST 1048576: true; the input reads as it did. -/
def fnExactGoodItemUptoRow : OpenClaim := { program := "ytaihdogejmdjnaa", sum := "834dc0d01dcc58635e337e5bef2a278534a1cd2f39c5659d0c6cca3024a4e6df", func := "loop.example/g00575/laws.FnExactGoodItem", spec := "fnExactGoodItem", apart := false, narrowed := true }
def FnExactGoodItemUptoSaid : Prop := fnExactGoodItemUptoRow.holds Try.pinned (OpenSpec.upto fnExactGoodItemSpec)

/-- 'laws.FnExactAgeItem', WHERE WHAT IT READS IS OF BULK AT MOST 1048576: true; the input reads as it did. -/
def fnExactAgeItemUptoRow : OpenClaim := { program := "ytaihdogejmdjnaa", sum := "834dc0d01dcc58635e337e5bef2a278534a1cd2f39c5659d0c6cca3024a4e6df", func := "loop.example/g00575/laws.FnExactAgeItem", spec := "fnExactAgeItem", apart := false, narrowed := true }
def FnExactAgeItemUptoSaid : Prop := fnExactAgeItemUptoRow.holds Try.pinned (OpenSpec.upto fnExactAgeItemSpec)

/-- 'laws.FnExactBetter', WHERE WHAT IT READS IS OF BULK AT MOST 1048576: true; the input reads as it did. -/
def fnExactBetterUptoRow : OpenClaim := { program := "ytaihdogejmdjnaa", sum := "834dc0d01dcc58635e337e5bef2a278534a1cd2f39c5659d0c6cca3024a4e6df", func := "loop.example/g00575/laws.FnExactBetter", spec := "fnExactBetter", apart := false, narrowed := true }
def FnExactBetterUptoSaid : Prop := fnExactBetterUptoRow.holds Try.pinned (OpenSpec.upto fnExactBetterSpec)

/-- 'laws.FnExactFitsRing', WHERE WHAT IT READS IS OF BULK AT MOST 1048576: true; the input reads as it did. -/
def fnExactFitsRingUptoRow : OpenClaim := { program := "ytaihdogejmdjnaa", sum := "834dc0d01dcc58635e337e5bef2a278534a1cd2f39c5659d0c6cca3024a4e6df", func := "loop.example/g00575/laws.FnExactFitsRing", spec := "fnExactFitsRing", apart := false, narrowed := true }
def FnExactFitsRingUptoSaid : Prop := fnExactFitsRingUptoRow.holds Try.pinned (OpenSpec.upto fnExactFitsRingSpec)

/-- 'laws.FnExactNewestOf', WHERE WHAT IT READS IS OF BULK AT MOST 1048576: true; the input reads as it did. -/
def fnExactNewestOfUptoRow : OpenClaim := { program := "ytaihdogejmdjnaa", sum := "834dc0d01dcc58635e337e5bef2a278534a1cd2f39c5659d0c6cca3024a4e6df", func := "loop.example/g00575/laws.FnExactNewestOf", spec := "fnExactNewestOf", apart := false, narrowed := true }
def FnExactNewestOfUptoSaid : Prop := fnExactNewestOfUptoRow.holds Try.pinned (OpenSpec.upto fnExactNewestOfSpec)

/-- 'laws.FnNewer', WHERE WHAT IT READS IS OF BULK AT MOST 1048576: true; the input reads as it did. -/
def fnNewerUptoRow : OpenClaim := { program := "ytaihdogejmdjnaa", sum := "834dc0d01dcc58635e337e5bef2a278534a1cd2f39c5659d0c6cca3024a4e6df", func := "loop.example/g00575/laws.FnNewer", spec := "fnNewer", apart := false, narrowed := true }
def FnNewerUptoSaid : Prop := fnNewerUptoRow.holds Try.pinned (OpenSpec.upto fnNewerSpec)

/-- 'laws.FnItems', WHERE WHAT IT READS IS OF BULK AT MOST 1048576: true; the input reads as it did. -/
def fnItemsUptoRow : OpenClaim := { program := "ytaihdogejmdjnaa", sum := "834dc0d01dcc58635e337e5bef2a278534a1cd2f39c5659d0c6cca3024a4e6df", func := "loop.example/g00575/laws.FnItems", spec := "fnItems", apart := false, narrowed := true }
def FnItemsUptoSaid : Prop := fnItemsUptoRow.holds Try.pinned (OpenSpec.upto fnItemsSpec)

end Rows
end Go.Proofs.Ytaihdogejmdjnaa
