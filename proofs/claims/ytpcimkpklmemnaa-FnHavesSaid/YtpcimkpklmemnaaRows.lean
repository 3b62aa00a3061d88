/-
  No cell of these rows narrows 'for every input' (looked for: loops, veiled, ifaces, maps, wideKeys, modest, calm, conditions, laid).
  DERIVED. THE GIVEN ROWS OF THIS SEAT. 6 by the template 'for every input the law returns true; each argument reads behind the call as it read before'; 0 by the template 'total and deterministic' (their statements: YtpcimkpklmemnaaTotals.lean).
  GIVEN WITH THE SEED: the statements are not yours to turn. If you find one false, say at which input.
  Laid BY PROGRAM, IN A SANDBOX (cutbox-rows.mjs): the forced cells as the released guide's own fill.sh prints them over the translation e164ccd804ae18f5… (all of the seat's roots in one cut). By AI agents, Wed Nov 11 2026. No macro, syntax, notation, axiom, sorry.
-/
import Derived.Test.YtpcimkpklmemnaaChecked
import GoSem.Claim
import GoSem.ClaimJoined
import GoSem.ClaimMapViews
import Derived.JoinedTies
import Derived.KernelRfl
namespace Go.Proofs.Ytpcimkpklmemnaa
/- THE CELL 'sum', in the pinned program and in every row, IS THE sha256 OF THE DUMP (.gsa) THAT YtpcimkpklmemnaaProg.lean LOADS. Nothing in Lean hashes anything: it is a label: what it is worth is what the hold of that sum in a sandbox is worth. -/
noncomputable def Try.pinned : Pinned := { name := "ytpcimkpklmemnaa", sum := "e164ccd804ae18f5a5f492818f1afe80f7a49636d7322c881ffdbf52774f857f", checked := Try.checked }
namespace Rows
def none {H : Type} : Left H := { results := [], args := [] }

/-- 'laws.FnExactGoodHaves': WHATEVER THE INPUT: true; the input reads as it did. -/
def fnExactGoodHavesSpec : ChangeSpec := { name := "fnExactGoodHaves", fn := fun _ => fun
  | [d] => { results := [.lit (.bool true)], args := [d] }
  | _ => none }
def fnExactGoodHavesRow : OpenClaim := { program := "ytpcimkpklmemnaa", sum := "e164ccd804ae18f5a5f492818f1afe80f7a49636d7322c881ffdbf52774f857f", func := "loop.example/g00575/laws.FnExactGoodHaves", spec := "fnExactGoodHaves", apart := false }
def FnExactGoodHavesSaid : Prop := fnExactGoodHavesRow.holds Try.pinned (OpenSpec.ofChange fnExactGoodHavesSpec)

/-- ITS FALSE NEIGHBOUR: 'it returns false'. Refute it at one input. -/
def fnExactGoodHavesWrong : ChangeSpec := { name := "fnExactGoodHaves", fn := fun _ => fun
  | [d] => { results := [.lit (.bool false)], args := [d] }
  | _ => none }
def FnExactGoodHavesWrongFalsely : Prop := fnExactGoodHavesRow.holds Try.pinned (OpenSpec.ofChange fnExactGoodHavesWrong)

/-- 'laws.FnExactSeqFor': WHATEVER THE INPUT: true; the input reads as it did. -/
def fnExactSeqForSpec : ChangeSpec := { name := "fnExactSeqFor", fn := fun _ => fun
  | [d1, d2] => { results := [.lit (.bool true)], args := [d1, d2] }
  | _ => none }
def fnExactSeqForRow : OpenClaim := { program := "ytpcimkpklmemnaa", sum := "e164ccd804ae18f5a5f492818f1afe80f7a49636d7322c881ffdbf52774f857f", func := "loop.example/g00575/laws.FnExactSeqFor", spec := "fnExactSeqFor", apart := false }
def FnExactSeqForSaid : Prop := fnExactSeqForRow.holds Try.pinned (OpenSpec.ofChange fnExactSeqForSpec)

/-- ITS FALSE NEIGHBOUR: 'it returns false'. Refute it at one input. -/
def fnExactSeqForWrong : ChangeSpec := { name := "fnExactSeqFor", fn := fun _ => fun
  | [d1, d2] => { results := [.lit (.bool false)], args := [d1, d2] }
  | _ => none }
def FnExactSeqForWrongFalsely : Prop := fnExactSeqForRow.holds Try.pinned (OpenSpec.ofChange fnExactSeqForWrong)

/-- 'laws.FnExactGoodSummary': WHATEVER THE INPUT: true; the input reads as it did. -/
def fnExactGoodSummarySpec : ChangeSpec := { name := "fnExactGoodSummary", fn := fun _ => fun
  | [d] => { results := [.lit (.bool true)], args := [d] }
  | _ => none }
def fnExactGoodSummaryRow : OpenClaim := { program := "ytpcimkpklmemnaa", sum := "e164ccd804ae18f5a5f492818f1afe80f7a49636d7322c881ffdbf52774f857f", func := "loop.example/g00575/laws.FnExactGoodSummary", spec := "fnExactGoodSummary", apart := false }
def FnExactGoodSummarySaid : Prop := fnExactGoodSummaryRow.holds Try.pinned (OpenSpec.ofChange fnExactGoodSummarySpec)

/-- ITS FALSE NEIGHBOUR: 'it returns false'. Refute it at one input. -/
def fnExactGoodSummaryWrong : ChangeSpec := { name := "fnExactGoodSummary", fn := fun _ => fun
  | [d] => { results := [.lit (.bool false)], args := [d] }
  | _ => none }
def FnExactGoodSummaryWrongFalsely : Prop := fnExactGoodSummaryRow.holds Try.pinned (OpenSpec.ofChange fnExactGoodSummaryWrong)

/-- 'laws.FnExactCutHaves': WHATEVER THE INPUT: true; the input reads as it did. -/
def fnExactCutHavesSpec : ChangeSpec := { name := "fnExactCutHaves", fn := fun _ => fun
  | [d1, d2] => { results := [.lit (.bool true)], args := [d1, d2] }
  | _ => none }
def fnExactCutHavesRow : OpenClaim := { program := "ytpcimkpklmemnaa", sum := "e164ccd804ae18f5a5f492818f1afe80f7a49636d7322c881ffdbf52774f857f", func := "loop.example/g00575/laws.FnExactCutHaves", spec := "fnExactCutHaves", apart := false }
def FnExactCutHavesSaid : Prop := fnExactCutHavesRow.holds Try.pinned (OpenSpec.ofChange fnExactCutHavesSpec)

/-- ITS FALSE NEIGHBOUR: 'it returns false'. Refute it at one input. -/
def fnExactCutHavesWrong : ChangeSpec := { name := "fnExactCutHaves", fn := fun _ => fun
  | [d1, d2] => { results := [.lit (.bool false)], args := [d1, d2] }
  | _ => none }
def FnExactCutHavesWrongFalsely : Prop := fnExactCutHavesRow.holds Try.pinned (OpenSpec.ofChange fnExactCutHavesWrong)

/-- 'laws.FnExactMergeHaves': WHATEVER THE INPUT: true; the input reads as it did. -/
def fnExactMergeHavesSpec : ChangeSpec := { name := "fnExactMergeHaves", fn := fun _ => fun
  | [d1, d2] => { results := [.lit (.bool true)], args := [d1, d2] }
  | _ => none }
def fnExactMergeHavesRow : OpenClaim := { program := "ytpcimkpklmemnaa", sum := "e164ccd804ae18f5a5f492818f1afe80f7a49636d7322c881ffdbf52774f857f", func := "loop.example/g00575/laws.FnExactMergeHaves", spec := "fnExactMergeHaves", inPlace := ["slices.overlaps[loop.example/g00575/impl.Have]"], unfollowed := true, recurses := true, apart := false }
def FnExactMergeHavesSaid : Prop := fnExactMergeHavesRow.holds Try.pinned (OpenSpec.ofChange fnExactMergeHavesSpec)

/-- ITS FALSE NEIGHBOUR: 'it returns false'. Refute it at one input. -/
def fnExactMergeHavesWrong : ChangeSpec := { name := "fnExactMergeHaves", fn := fun _ => fun
  | [d1, d2] => { results := [.lit (.bool false)], args := [d1, d2] }
  | _ => none }
def FnExactMergeHavesWrongFalsely : Prop := fnExactMergeHavesRow.holds Try.pinned (OpenSpec.ofChange fnExactMergeHavesWrong)

/-- 'laws.FnHaves': WHATEVER THE INPUT: true; the input reads as it did. -/
def fnHavesSpec : ChangeSpec := { name := "fnHaves", fn := fun _ => fun
  | [d1, d2] => { results := [.lit (.bool true)], args := [d1, d2] }
  | _ => none }
def fnHavesRow : OpenClaim := { program := "ytpcimkpklmemnaa", sum := "e164ccd804ae18f5a5f492818f1afe80f7a49636d7322c881ffdbf52774f857f", func := "loop.example/g00575/laws.FnHaves", spec := "fnHaves", inPlace := ["slices.overlaps[loop.example/g00575/impl.Have]"], unfollowed := true, recurses := true, apart := false }
def FnHavesSaid : Prop := fnHavesRow.holds Try.pinned (OpenSpec.ofChange fnHavesSpec)

/-- ITS FALSE NEIGHBOUR: 'it returns false'. Refute it at one input. -/
def fnHavesWrong : ChangeSpec := { name := "fnHaves", fn := fun _ => fun
  | [d1, d2] => { results := [.lit (.bool false)], args := [d1, d2] }
  | _ => none }
def FnHavesWrongFalsely : Prop := fnHavesRow.holds Try.pinned (OpenSpec.ofChange fnHavesWrong)

/- THE SECOND FORM. 'bulk': how many values and letters a reading holds, each counted each time it is reached (what is shared counts as often as it is met; a slice's spare places count too). A statement '..UptoSaid' is the law's where the arguments, and the package variables that the reading takes, are together of bulk at most 1048576: NARROWER than '..Said'. Prove '..Said' where nothing that the law and all that it calls make is longer than what came in: it says more and counts as full. Else prove '..UptoSaid'. A law counts once. -/
mutual
def uptoBulk {H : Type} : DataW H → Nat
  | .lit (.string bytes) => bytes.length + 1
  | .lit _ => 1
  | .nil => 1
  | .ptr d => uptoBulk d + 1
  | .slice elems spare => uptoBulkAll elems + uptoBulkAll spare + 1
  | .agg parts => uptoBulkAll parts + 1
  | .iface _ d => uptoBulk d + 1
  | .map entries => uptoBulkEntries entries + 1
  | .held _ => 1
def uptoBulkAll {H : Type} : List (DataW H) → Nat
  | [] => 0
  | d :: r => uptoBulk d + uptoBulkAll r
def uptoBulkEntries {H : Type} : List (Lit × DataW H) → Nat
  | [] => 0
  | x :: r => uptoBulkEntry x + uptoBulkEntries r
def uptoBulkEntry {H : Type} : Lit × DataW H → Nat
  | (.string bytes, d) => bytes.length + uptoBulk d + 1
  | (_, d) => uptoBulk d + 1
 end
def uptoSmall : (H : Type) → List (DataW H) → Bool := fun _ ds => decide (uptoBulkAll ds ≤ 1048576)
def OpenSpec.upto (s : _root_.Go.ChangeSpec) : _root_.Go.OpenSpec := { _root_.Go.OpenSpec.ofChange s with cond := some uptoSmall }

/-- 'laws.FnExactGoodHaves', WHERE WHAT IT READS IS OF BULK AT MOST 1048576: true; the input reads as it did. -/
def fnExactGoodHavesUptoRow : OpenClaim := { program := "ytpcimkpklmemnaa", sum := "e164ccd804ae18f5a5f492818f1afe80f7a49636d7322c881ffdbf52774f857f", func := "loop.example/g00575/laws.FnExactGoodHaves", spec := "fnExactGoodHaves", apart := false, narrowed := true }
def FnExactGoodHavesUptoSaid : Prop := fnExactGoodHavesUptoRow.holds Try.pinned (OpenSpec.upto fnExactGoodHavesSpec)

/-- 'laws.FnExactSeqFor', WHERE WHAT IT READS IS OF BULK AT MOST 1048576: true; the input reads as it did. -/
def fnExactSeqForUptoRow : OpenClaim := { program := "ytpcimkpklmemnaa", sum := "e164ccd804ae18f5a5f492818f1afe80f7a49636d7322c881ffdbf52774f857f", func := "loop.example/g00575/laws.FnExactSeqFor", spec := "fnExactSeqFor", apart := false, narrowed := true }
def FnExactSeqForUptoSaid : Prop := fnExactSeqForUptoRow.holds Try.pinned (OpenSpec.upto fnExactSeqForSpec)

/-- 'laws.FnExactGoodSummary', WHERE WHAT IT READS IS OF BULK AT MOST 1048576: true; the input reads as it did. -/
def fnExactGoodSummaryUptoRow : OpenClaim := { program := "ytpcimkpklmemnaa", sum := "e164ccd804ae18f5a5f492818f1afe80f7a49636d7322c881ffdbf52774f857f", func := "loop.example/g00575/laws.FnExactGoodSummary", spec := "fnExactGoodSummary", apart := false, narrowed := true }
def FnExactGoodSummaryUptoSaid : Prop := fnExactGoodSummaryUptoRow.holds Try.pinned (OpenSpec.upto fnExactGoodSummarySpec)

/-- 'laws.FnExactCutHaves', WHERE WHAT IT READS IS OF BULK AT MOST 1048576: true; the input reads as it did. -/
def fnExactCutHavesUptoRow : OpenClaim := { program := "ytpcimkpklmemnaa", sum := "e164ccd804ae18f5a5f492818f1afe80f7a49636d7322c881ffdbf52774f857f", func := "loop.example/g00575/laws.FnExactCutHaves", spec := "fnExactCutHaves", apart := false, narrowed := true }
def FnExactCutHavesUptoSaid : Prop := fnExactCutHavesUptoRow.holds Try.pinned (OpenSpec.upto fnExactCutHavesSpec)

/-- 'laws.FnExactMergeHaves', WHERE WHAT IT READS IS OF BULK AT MOST 1048576: true; the input reads as it did. -/
def fnExactMergeHavesUptoRow : OpenClaim := { program := "ytpcimkpklmemnaa", sum := "e164ccd804ae18f5a5f492818f1afe80f7a49636d7322c881ffdbf52774f857f", func := "loop.example/g00575/laws.FnExactMergeHaves", spec := "fnExactMergeHaves", inPlace := ["slices.overlaps[loop.example/g00575/impl.Have]"], unfollowed := true, recurses := true, apart := false, narrowed := true }
def FnExactMergeHavesUptoSaid : Prop := fnExactMergeHavesUptoRow.holds Try.pinned (OpenSpec.upto fnExactMergeHavesSpec)

/-- 'laws.FnHaves', WHERE WHAT IT READS IS OF BULK AT MOST 1048576: true; the input reads as it did. -/
def fnHavesUptoRow : OpenClaim := { program := "ytpcimkpklmemnaa", sum := "e164ccd804ae18f5a5f492818f1afe80f7a49636d7322c881ffdbf52774f857f", func := "loop.example/g00575/laws.FnHaves", spec := "fnHaves", inPlace := ["slices.overlaps[loop.example/g00575/impl.Have]"], unfollowed := true, recurses := true, apart := false, narrowed := true }
def FnHavesUptoSaid : Prop := fnHavesUptoRow.holds Try.pinned (OpenSpec.upto fnHavesSpec)

end Rows
end Go.Proofs.Ytpcimkpklmemnaa
