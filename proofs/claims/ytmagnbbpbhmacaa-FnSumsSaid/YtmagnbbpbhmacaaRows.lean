/-
  No cell of these rows narrows 'for every input' (looked for: loops, veiled, ifaces, maps, wideKeys, modest, calm, conditions, laid).
  DERIVED. THE GIVEN ROWS OF THIS SEAT. 10 by the template 'for every input the law returns true; each argument reads behind the call as it read before'; 0 by the template 'total and deterministic' (their statements: YtmagnbbpbhmacaaTotals.lean).
  GIVEN WITH THE SEED: the statements are not yours to turn. If you find one false, say at which input.
  Laid BY PROGRAM, IN A SANDBOX (cutbox-rows.mjs): the forced cells as the released guide's own fill.sh prints them over the translation 9ca22ab5fe27f759… (all of the seat's roots in one cut). By AI agents, Wed Nov 11 2026. No macro, syntax, notation, axiom, sorry.
-/
import Derived.Test.YtmagnbbpbhmacaaChecked
import GoSem.Claim
import GoSem.ClaimJoined
import GoSem.ClaimMapViews
import Derived.JoinedTies
import Derived.KernelRfl
namespace Go.Proofs.Ytmagnbbpbhmacaa
/- THE CELL 'sum', in the pinned program and in every row, IS THE sha256 OF THE DUMP (.gsa) THAT YtmagnbbpbhmacaaProg.lean LOADS. Nothing in Lean hashes anything: it is a label: what it is worth is what the hold of that sum in a sandbox is worth. -/
noncomputable def Try.pinned : Pinned := { name := "ytmagnbbpbhmacaa", sum := "9ca22ab5fe27f759b5092d3454c57a7c91a7093e801b6eafd190bae7b20c93d3", checked := Try.checked }
namespace Rows
def none {H : Type} : Left H := { results := [], args := [] }

/-- 'laws.FnExactConstants': WHATEVER THE INPUT: true; the input reads as it did. -/
def fnExactConstantsSpec : ChangeSpec := { name := "fnExactConstants", fn := fun _ => fun
  | [] => { results := [.lit (.bool true)], args := [] }
  | _ => none }
def fnExactConstantsRow : OpenClaim := { program := "ytmagnbbpbhmacaa", sum := "9ca22ab5fe27f759b5092d3454c57a7c91a7093e801b6eafd190bae7b20c93d3", func := "loop.example/g00575/laws.FnExactConstants", spec := "fnExactConstants", apart := false }
def FnExactConstantsSaid : Prop := fnExactConstantsRow.holds Try.pinned (OpenSpec.ofChange fnExactConstantsSpec)

/-- ITS FALSE NEIGHBOUR: 'it returns false'. Refute it at one input. -/
def fnExactConstantsWrong : ChangeSpec := { name := "fnExactConstants", fn := fun _ => fun
  | [] => { results := [.lit (.bool false)], args := [] }
  | _ => none }
def FnExactConstantsWrongFalsely : Prop := fnExactConstantsRow.holds Try.pinned (OpenSpec.ofChange fnExactConstantsWrong)

/-- 'laws.FnExactWeightAt': WHATEVER THE INPUT: true; the input reads as it did. -/
def fnExactWeightAtSpec : ChangeSpec := { name := "fnExactWeightAt", fn := fun _ => fun
  | [d1, d2] => { results := [.lit (.bool true)], args := [d1, d2] }
  | _ => none }
def fnExactWeightAtRow : OpenClaim := { program := "ytmagnbbpbhmacaa", sum := "9ca22ab5fe27f759b5092d3454c57a7c91a7093e801b6eafd190bae7b20c93d3", func := "loop.example/g00575/laws.FnExactWeightAt", spec := "fnExactWeightAt", apart := false }
def FnExactWeightAtSaid : Prop := fnExactWeightAtRow.holds Try.pinned (OpenSpec.ofChange fnExactWeightAtSpec)

/-- ITS FALSE NEIGHBOUR: 'it returns false'. Refute it at one input. -/
def fnExactWeightAtWrong : ChangeSpec := { name := "fnExactWeightAt", fn := fun _ => fun
  | [d1, d2] => { results := [.lit (.bool false)], args := [d1, d2] }
  | _ => none }
def FnExactWeightAtWrongFalsely : Prop := fnExactWeightAtRow.holds Try.pinned (OpenSpec.ofChange fnExactWeightAtWrong)

/-- 'laws.FnExactAddSums': WHATEVER THE INPUT: true; the input reads as it did. -/
def fnExactAddSumsSpec : ChangeSpec := { name := "fnExactAddSums", fn := fun _ => fun
  | [d1, d2, d3, d4, d5] => { results := [.lit (.bool true)], args := [d1, d2, d3, d4, d5] }
  | _ => none }
def fnExactAddSumsRow : OpenClaim := { program := "ytmagnbbpbhmacaa", sum := "9ca22ab5fe27f759b5092d3454c57a7c91a7093e801b6eafd190bae7b20c93d3", func := "loop.example/g00575/laws.FnExactAddSums", spec := "fnExactAddSums", apart := false }
def FnExactAddSumsSaid : Prop := fnExactAddSumsRow.holds Try.pinned (OpenSpec.ofChange fnExactAddSumsSpec)

/-- ITS FALSE NEIGHBOUR: 'it returns false'. Refute it at one input. -/
def fnExactAddSumsWrong : ChangeSpec := { name := "fnExactAddSums", fn := fun _ => fun
  | [d1, d2, d3, d4, d5] => { results := [.lit (.bool false)], args := [d1, d2, d3, d4, d5] }
  | _ => none }
def FnExactAddSumsWrongFalsely : Prop := fnExactAddSumsRow.holds Try.pinned (OpenSpec.ofChange fnExactAddSumsWrong)

/-- 'laws.FnExactSwapTwo': WHATEVER THE INPUT: true; the input reads as it did. -/
def fnExactSwapTwoSpec : ChangeSpec := { name := "fnExactSwapTwo", fn := fun _ => fun
  | [d1, d2] => { results := [.lit (.bool true)], args := [d1, d2] }
  | _ => none }
def fnExactSwapTwoRow : OpenClaim := { program := "ytmagnbbpbhmacaa", sum := "9ca22ab5fe27f759b5092d3454c57a7c91a7093e801b6eafd190bae7b20c93d3", func := "loop.example/g00575/laws.FnExactSwapTwo", spec := "fnExactSwapTwo", apart := false }
def FnExactSwapTwoSaid : Prop := fnExactSwapTwoRow.holds Try.pinned (OpenSpec.ofChange fnExactSwapTwoSpec)

/-- ITS FALSE NEIGHBOUR: 'it returns false'. Refute it at one input. -/
def fnExactSwapTwoWrong : ChangeSpec := { name := "fnExactSwapTwo", fn := fun _ => fun
  | [d1, d2] => { results := [.lit (.bool false)], args := [d1, d2] }
  | _ => none }
def FnExactSwapTwoWrongFalsely : Prop := fnExactSwapTwoRow.holds Try.pinned (OpenSpec.ofChange fnExactSwapTwoWrong)

/-- 'laws.FnExactSumOf': WHATEVER THE INPUT: true; the input reads as it did. -/
def fnExactSumOfSpec : ChangeSpec := { name := "fnExactSumOf", fn := fun _ => fun
  | [d] => { results := [.lit (.bool true)], args := [d] }
  | _ => none }
def fnExactSumOfRow : OpenClaim := { program := "ytmagnbbpbhmacaa", sum := "9ca22ab5fe27f759b5092d3454c57a7c91a7093e801b6eafd190bae7b20c93d3", func := "loop.example/g00575/laws.FnExactSumOf", spec := "fnExactSumOf", apart := false }
def FnExactSumOfSaid : Prop := fnExactSumOfRow.holds Try.pinned (OpenSpec.ofChange fnExactSumOfSpec)

/-- ITS FALSE NEIGHBOUR: 'it returns false'. Refute it at one input. -/
def fnExactSumOfWrong : ChangeSpec := { name := "fnExactSumOf", fn := fun _ => fun
  | [d] => { results := [.lit (.bool false)], args := [d] }
  | _ => none }
def FnExactSumOfWrongFalsely : Prop := fnExactSumOfRow.holds Try.pinned (OpenSpec.ofChange fnExactSumOfWrong)

/-- 'laws.FnExactIsWhole': WHATEVER THE INPUT: true; the input reads as it did. -/
def fnExactIsWholeSpec : ChangeSpec := { name := "fnExactIsWhole", fn := fun _ => fun
  | [d] => { results := [.lit (.bool true)], args := [d] }
  | _ => none }
def fnExactIsWholeRow : OpenClaim := { program := "ytmagnbbpbhmacaa", sum := "9ca22ab5fe27f759b5092d3454c57a7c91a7093e801b6eafd190bae7b20c93d3", func := "loop.example/g00575/laws.FnExactIsWhole", spec := "fnExactIsWhole", apart := false }
def FnExactIsWholeSaid : Prop := fnExactIsWholeRow.holds Try.pinned (OpenSpec.ofChange fnExactIsWholeSpec)

/-- ITS FALSE NEIGHBOUR: 'it returns false'. Refute it at one input. -/
def fnExactIsWholeWrong : ChangeSpec := { name := "fnExactIsWhole", fn := fun _ => fun
  | [d] => { results := [.lit (.bool false)], args := [d] }
  | _ => none }
def FnExactIsWholeWrongFalsely : Prop := fnExactIsWholeRow.holds Try.pinned (OpenSpec.ofChange fnExactIsWholeWrong)

/-- 'laws.FnExactMendByte': WHATEVER THE INPUT: true; the input reads as it did. -/
def fnExactMendByteSpec : ChangeSpec := { name := "fnExactMendByte", fn := fun _ => fun
  | [d1, d2] => { results := [.lit (.bool true)], args := [d1, d2] }
  | _ => none }
def fnExactMendByteRow : OpenClaim := { program := "ytmagnbbpbhmacaa", sum := "9ca22ab5fe27f759b5092d3454c57a7c91a7093e801b6eafd190bae7b20c93d3", func := "loop.example/g00575/laws.FnExactMendByte", spec := "fnExactMendByte", apart := false }
def FnExactMendByteSaid : Prop := fnExactMendByteRow.holds Try.pinned (OpenSpec.ofChange fnExactMendByteSpec)

/-- ITS FALSE NEIGHBOUR: 'it returns false'. Refute it at one input. -/
def fnExactMendByteWrong : ChangeSpec := { name := "fnExactMendByte", fn := fun _ => fun
  | [d1, d2] => { results := [.lit (.bool false)], args := [d1, d2] }
  | _ => none }
def FnExactMendByteWrongFalsely : Prop := fnExactMendByteRow.holds Try.pinned (OpenSpec.ofChange fnExactMendByteWrong)

/-- 'laws.FnExactFillSum': WHATEVER THE INPUT: true; the input reads as it did. -/
def fnExactFillSumSpec : ChangeSpec := { name := "fnExactFillSum", fn := fun _ => fun
  | [d1, d2] => { results := [.lit (.bool true)], args := [d1, d2] }
  | _ => none }
def fnExactFillSumRow : OpenClaim := { program := "ytmagnbbpbhmacaa", sum := "9ca22ab5fe27f759b5092d3454c57a7c91a7093e801b6eafd190bae7b20c93d3", func := "loop.example/g00575/laws.FnExactFillSum", spec := "fnExactFillSum", apart := false }
def FnExactFillSumSaid : Prop := fnExactFillSumRow.holds Try.pinned (OpenSpec.ofChange fnExactFillSumSpec)

/-- ITS FALSE NEIGHBOUR: 'it returns false'. Refute it at one input. -/
def fnExactFillSumWrong : ChangeSpec := { name := "fnExactFillSum", fn := fun _ => fun
  | [d1, d2] => { results := [.lit (.bool false)], args := [d1, d2] }
  | _ => none }
def FnExactFillSumWrongFalsely : Prop := fnExactFillSumRow.holds Try.pinned (OpenSpec.ofChange fnExactFillSumWrong)

/-- 'laws.FnFilled': WHATEVER THE INPUT: true; the input reads as it did. -/
def fnFilledSpec : ChangeSpec := { name := "fnFilled", fn := fun _ => fun
  | [d1, d2] => { results := [.lit (.bool true)], args := [d1, d2] }
  | _ => none }
def fnFilledRow : OpenClaim := { program := "ytmagnbbpbhmacaa", sum := "9ca22ab5fe27f759b5092d3454c57a7c91a7093e801b6eafd190bae7b20c93d3", func := "loop.example/g00575/laws.FnFilled", spec := "fnFilled", apart := false }
def FnFilledSaid : Prop := fnFilledRow.holds Try.pinned (OpenSpec.ofChange fnFilledSpec)

/-- ITS FALSE NEIGHBOUR: 'it returns false'. Refute it at one input. -/
def fnFilledWrong : ChangeSpec := { name := "fnFilled", fn := fun _ => fun
  | [d1, d2] => { results := [.lit (.bool false)], args := [d1, d2] }
  | _ => none }
def FnFilledWrongFalsely : Prop := fnFilledRow.holds Try.pinned (OpenSpec.ofChange fnFilledWrong)

/-- 'laws.FnSums': WHATEVER THE INPUT: true; the input reads as it did. -/
def fnSumsSpec : ChangeSpec := { name := "fnSums", fn := fun _ => fun
  | [d1, d2] => { results := [.lit (.bool true)], args := [d1, d2] }
  | _ => none }
def fnSumsRow : OpenClaim := { program := "ytmagnbbpbhmacaa", sum := "9ca22ab5fe27f759b5092d3454c57a7c91a7093e801b6eafd190bae7b20c93d3", func := "loop.example/g00575/laws.FnSums", spec := "fnSums", apart := false }
def FnSumsSaid : Prop := fnSumsRow.holds Try.pinned (OpenSpec.ofChange fnSumsSpec)

/-- ITS FALSE NEIGHBOUR: 'it returns false'. Refute it at one input. -/
def fnSumsWrong : ChangeSpec := { name := "fnSums", fn := fun _ => fun
  | [d1, d2] => { results := [.lit (.bool false)], args := [d1, d2] }
  | _ => none }
def FnSumsWrongFalsely : Prop := fnSumsRow.holds Try.pinned (OpenSpec.ofChange fnSumsWrong)

/- THE SECOND FORM. 'bulk': how many values and letters a reading holds, each counted each time it is reached (what is shared counts as often as it is met; a slice's spare places count too). A statement '..UptoSaid' is the law's where the arguments, and the package variables that the reading takes, are together of bulk at most 1048576: NARROWER than '..Said'. Prove '..Said' where nothing that the law and all that it calls make is longer than what came in: it says more and counts as full. Else prove '..UptoSaid'. A law counts once. -/
mutual
def uptoBulk {H : Type} : DataW H → Nat
  | .lit (.string bytes) => bytes.length + 1
  | .lit _ => 1
  | .nil => 1
  | .ptr d => uptoBulk d + 1
  | .slice elems spare => uptoBulkAll elems + uptoBulkAll spare + 1
  | .agg parts => uptoBulkAll parts + 1
  | .iface _ d => uptoBulk d + 1
  | .map entries => uptoBulkEntries entries + 1
  | .held _ => 1
def uptoBulkAll {H : Type} : List (DataW H) → Nat
  | [] => 0
  | d :: r => uptoBulk d + uptoBulkAll r
def uptoBulkEntries {H : Type} : List (Lit × DataW H) → Nat
  | [] => 0
  | x :: r => uptoBulkEntry x + uptoBulkEntries r
def uptoBulkEntry {H : Type} : Lit × DataW H → Nat
  | (.string bytes, d) => bytes.length + uptoBulk d + 1
  | (_, d) => uptoBulk d + 1
 end
def uptoSmall : (H : Type) → List (DataW H) → Bool := fun _ ds => decide (uptoBulkAll ds ≤ 1048576)
def OpenSpec.upto (s : _root_.Go.ChangeSpec) : _root_.Go.OpenSpec := { _root_.Go.OpenSpec.ofChange s with cond := some uptoSmall }

/-- 'laws.FnExactConstants', WHERE WHAT IT READS IS OF BULK AT MOST 1048576: true; the input reads as it did. -/
def fnExactConstantsUptoRow : OpenClaim := { program := "ytmagnbbpbhmacaa", sum := "9ca22ab5fe27f759b5092d3454c57a7c91a7093e801b6eafd190bae7b20c93d3", func := "loop.example/g00575/laws.FnExactConstants", spec := "fnExactConstants", apart := false, narrowed := true }
def FnExactConstantsUptoSaid : Prop := fnExactConstantsUptoRow.holds Try.pinned (OpenSpec.upto fnExactConstantsSpec)

/-- 'laws.FnExactWeightAt', WHERE WHAT IT READS IS OF BULK AT MOST 1048576: true; the input reads as it did. -/
def fnExactWeightAtUptoRow : OpenClaim := { program := "ytmagnbbpbhmacaa", sum := "9ca22ab5fe27f759b5092d3454c57a7c91a7093e801b6eafd190bae7b20c93d3", func := "loop.example/g00575/laws.FnExactWeightAt", spec := "fnExactWeightAt", apart := false, narrowed := true }
def FnExactWeightAtUptoSaid : Prop := fnExactWeightAtUptoRow.holds Try.pinned (OpenSpec.upto fnExactWeightAtSpec)

/-- 'laws.FnExactAddSums', WHERE WHAT IT READS IS OF BULK AT MOST 1048576: true; the input reads as it did. -/
def fnExactAddSumsUptoRow : OpenClaim := { program := "ytmagnbbpbhmacaa", sum := "9ca22ab5fe27f759b5092d3454c57a7c91a7093e801b6eafd190bae7b20c93d3", func := "loop.example/g00575/laws.FnExactAddSums", spec := "fnExactAddSums", apart := false, narrowed := true }
def FnExactAddSumsUptoSaid : Prop := fnExactAddSumsUptoRow.holds Try.pinned (OpenSpec.upto fnExactAddSumsSpec)

/-- 'laws.FnExactSwapTwo', WHERE WHAT IT READS IS OF BULK AT MOST 1048576: true; the input reads as it did. -/
def fnExactSwapTwoUptoRow : OpenClaim := { program := "ytmagnbbpbhmacaa", sum := "9ca22ab5fe27f759b5092d3454c57a7c91a7093e801b6eafd190bae7b20c93d3", func := "loop.example/g00575/laws.FnExactSwapTwo", spec := "fnExactSwapTwo", apart := false, narrowed := true }
def FnExactSwapTwoUptoSaid : Prop := fnExactSwapTwoUptoRow.holds Try.pinned (OpenSpec.upto fnExactSwapTwoSpec)

/-- 'laws.FnExactSumOf', WHERE WHAT IT READS IS OF BULK AT MOST 1048576: true; the input reads as it did. -/
def fnExactSumOfUptoRow : OpenClaim := { program := "ytmagnbbpbhmacaa", sum := "9ca22ab5fe27f759b5092d3454c57a7c91a7093e801b6eafd190bae7b20c93d3", func := "loop.example/g00575/laws.FnExactSumOf", spec := "fnExactSumOf", apart := false, narrowed := true }
def FnExactSumOfUptoSaid : Prop := fnExactSumOfUptoRow.holds Try.pinned (OpenSpec.upto fnExactSumOfSpec)

/-- 'laws.FnExactIsWhole', WHERE WHAT IT READS IS OF BULK AT MOST 1048576: true; the input reads as it did. -/
def fnExactIsWholeUptoRow : OpenClaim := { program := "ytmagnbbpbhmacaa", sum := "9ca22ab5fe27f759b5092d3454c57a7c91a7093e801b6eafd190bae7b20c93d3", func := "loop.example/g00575/laws.FnExactIsWhole", spec := "fnExactIsWhole", apart := false, narrowed := true }
def FnExactIsWholeUptoSaid : Prop := fnExactIsWholeUptoRow.holds Try.pinned (OpenSpec.upto fnExactIsWholeSpec)

/-- 'laws.FnExactMendByte', WHERE WHAT IT READS IS OF BULK AT MOST 1048576: true; the input reads as it did. -/
def fnExactMendByteUptoRow : OpenClaim := { program := "ytmagnbbpbhmacaa", sum := "9ca22ab5fe27f759b5092d3454c57a7c91a7093e801b6eafd190bae7b20c93d3", func := "loop.example/g00575/laws.FnExactMendByte", spec := "fnExactMendByte", apart := false, narrowed := true }
def FnExactMendByteUptoSaid : Prop := fnExactMendByteUptoRow.holds Try.pinned (OpenSpec.upto fnExactMendByteSpec)

/-- 'laws.FnExactFillSum', WHERE WHAT IT READS IS OF BULK AT MOST 1048576: true; the input reads as it did. -/
def fnExactFillSumUptoRow : OpenClaim := { program := "ytmagnbbpbhmacaa", sum := "9ca22ab5fe27f759b5092d3454c57a7c91a7093e801b6eafd190bae7b20c93d3", func := "loop.example/g00575/laws.FnExactFillSum", spec := "fnExactFillSum", apart := false, narrowed := true }
def FnExactFillSumUptoSaid : Prop := fnExactFillSumUptoRow.holds Try.pinned (OpenSpec.upto fnExactFillSumSpec)

/-- 'laws.FnFilled', WHERE WHAT IT READS IS OF BULK AT MOST 1048576: true; the input reads as it did. -/
def fnFilledUptoRow : OpenClaim := { program := "ytmagnbbpbhmacaa", sum := "9ca22ab5fe27f759b5092d3454c57a7c91a7093e801b6eafd190bae7b20c93d3", func := "loop.example/g00575/laws.FnFilled", spec := "fnFilled", apart := false, narrowed := true }
def FnFilledUptoSaid : Prop := fnFilledUptoRow.holds Try.pinned (OpenSpec.upto fnFilledSpec)

/-- 'laws.FnSums', WHERE WHAT IT READS IS OF BULK AT MOST 1048576: true; the input reads as it did. -/
def fnSumsUptoRow : OpenClaim := { program := "ytmagnbbpbhmacaa", sum := "9ca22ab5fe27f759b5092d3454c57a7c91a7093e801b6eafd190bae7b20c93d3", func := "loop.example/g00575/laws.FnSums", spec := "fnSums", apart := false, narrowed := true }
def FnSumsUptoSaid : Prop := fnSumsUptoRow.holds Try.pinned (OpenSpec.upto fnSumsSpec)

end Rows
end Go.Proofs.Ytmagnbbpbhmacaa
