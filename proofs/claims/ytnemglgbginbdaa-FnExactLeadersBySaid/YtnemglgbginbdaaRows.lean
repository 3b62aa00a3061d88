/-
  No cell of these rows narrows 'for every input' (looked for: loops, veiled, ifaces, maps, wideKeys, modest, calm, conditions, laid).
  DERIVED. THE GIVEN ROWS OF THIS SEAT. 11 by the template 'for every input the law returns true; each argument reads behind the call as it read before'; 0 by the template 'total and deterministic' (their statements: YtnemglgbginbdaaTotals.lean).
  GIVEN WITH THE SEED: the statements are not yours to turn. If you find one false, say at which input.
  Laid BY PROGRAM, IN A SANDBOX (cutbox-rows.mjs): the forced cells as the released guide's own fill.sh prints them over the translation 43cf216733618d0f… (all of the seat's roots in one cut). By AI agents, Wed Nov 11 2026. No macro, syntax, notation, axiom, sorry.
-/
import Derived.Test.YtnemglgbginbdaaChecked
import GoSem.Claim
import GoSem.ClaimJoined
import GoSem.ClaimMapViews
import Derived.JoinedTies
import Derived.KernelRfl
namespace Go.Proofs.Ytnemglgbginbdaa
/- THE CELL 'sum', in the pinned program and in every row, IS THE sha256 OF THE DUMP (.gsa) THAT YtnemglgbginbdaaProg.lean LOADS. Nothing in Lean hashes anything: it is a label: what it is worth is what the hold of that sum in a sandbox is worth. -/
noncomputable def Try.pinned : Pinned := { name := "ytnemglgbginbdaa", sum := "43cf216733618d0fc1f9b00ef7345c157f82119a5fc16b0be176c82e1989cb03", checked := Try.checked }
namespace Rows
def none {H : Type} : Left H := { results := [], args := [] }

/-- 'laws.FnExactNextState': WHATEVER THE INPUT: true; the input reads as it did. -/
def fnExactNextStateSpec : ChangeSpec := { name := "fnExactNextState", fn := fun _ => fun
  | [d1, d2] => { results := [.lit (.bool true)], args := [d1, d2] }
  | _ => none }
def fnExactNextStateRow : OpenClaim := { program := "ytnemglgbginbdaa", sum := "43cf216733618d0fc1f9b00ef7345c157f82119a5fc16b0be176c82e1989cb03", func := "loop.example/g00575/laws.FnExactNextState", spec := "fnExactNextState", apart := false }
def FnExactNextStateSaid : Prop := fnExactNextStateRow.holds Try.pinned (OpenSpec.ofChange fnExactNextStateSpec)

/-- ITS FALSE NEIGHBOUR: 'it returns false'. Refute it at one input. -/
def fnExactNextStateWrong : ChangeSpec := { name := "fnExactNextState", fn := fun _ => fun
  | [d1, d2] => { results := [.lit (.bool false)], args := [d1, d2] }
  | _ => none }
def FnExactNextStateWrongFalsely : Prop := fnExactNextStateRow.holds Try.pinned (OpenSpec.ofChange fnExactNextStateWrong)

/-- 'laws.FnExactNewPair': WHATEVER THE INPUT: true; the input reads as it did. -/
def fnExactNewPairSpec : ChangeSpec := { name := "fnExactNewPair", fn := fun _ => fun
  | [d] => { results := [.lit (.bool true)], args := [d] }
  | _ => none }
def fnExactNewPairRow : OpenClaim := { program := "ytnemglgbginbdaa", sum := "43cf216733618d0fc1f9b00ef7345c157f82119a5fc16b0be176c82e1989cb03", func := "loop.example/g00575/laws.FnExactNewPair", spec := "fnExactNewPair", apart := false }
def FnExactNewPairSaid : Prop := fnExactNewPairRow.holds Try.pinned (OpenSpec.ofChange fnExactNewPairSpec)

/-- ITS FALSE NEIGHBOUR: 'it returns false'. Refute it at one input. -/
def fnExactNewPairWrong : ChangeSpec := { name := "fnExactNewPair", fn := fun _ => fun
  | [d] => { results := [.lit (.bool false)], args := [d] }
  | _ => none }
def FnExactNewPairWrongFalsely : Prop := fnExactNewPairRow.holds Try.pinned (OpenSpec.ofChange fnExactNewPairWrong)

/-- 'laws.FnExactGoodPair': WHATEVER THE INPUT: true; the input reads as it did. -/
def fnExactGoodPairSpec : ChangeSpec := { name := "fnExactGoodPair", fn := fun _ => fun
  | [d] => { results := [.lit (.bool true)], args := [d] }
  | _ => none }
def fnExactGoodPairRow : OpenClaim := { program := "ytnemglgbginbdaa", sum := "43cf216733618d0fc1f9b00ef7345c157f82119a5fc16b0be176c82e1989cb03", func := "loop.example/g00575/laws.FnExactGoodPair", spec := "fnExactGoodPair", apart := false }
def FnExactGoodPairSaid : Prop := fnExactGoodPairRow.holds Try.pinned (OpenSpec.ofChange fnExactGoodPairSpec)

/-- ITS FALSE NEIGHBOUR: 'it returns false'. Refute it at one input. -/
def fnExactGoodPairWrong : ChangeSpec := { name := "fnExactGoodPair", fn := fun _ => fun
  | [d] => { results := [.lit (.bool false)], args := [d] }
  | _ => none }
def FnExactGoodPairWrongFalsely : Prop := fnExactGoodPairRow.holds Try.pinned (OpenSpec.ofChange fnExactGoodPairWrong)

/-- 'laws.FnExactAreBoth': WHATEVER THE INPUT: true; the input reads as it did. -/
def fnExactAreBothSpec : ChangeSpec := { name := "fnExactAreBoth", fn := fun _ => fun
  | [d] => { results := [.lit (.bool true)], args := [d] }
  | _ => none }
def fnExactAreBothRow : OpenClaim := { program := "ytnemglgbginbdaa", sum := "43cf216733618d0fc1f9b00ef7345c157f82119a5fc16b0be176c82e1989cb03", func := "loop.example/g00575/laws.FnExactAreBoth", spec := "fnExactAreBoth", apart := false }
def FnExactAreBothSaid : Prop := fnExactAreBothRow.holds Try.pinned (OpenSpec.ofChange fnExactAreBothSpec)

/-- ITS FALSE NEIGHBOUR: 'it returns false'. Refute it at one input. -/
def fnExactAreBothWrong : ChangeSpec := { name := "fnExactAreBoth", fn := fun _ => fun
  | [d] => { results := [.lit (.bool false)], args := [d] }
  | _ => none }
def FnExactAreBothWrongFalsely : Prop := fnExactAreBothRow.holds Try.pinned (OpenSpec.ofChange fnExactAreBothWrong)

/-- 'laws.FnExactBeats': WHATEVER THE INPUT: true; the input reads as it did. -/
def fnExactBeatsSpec : ChangeSpec := { name := "fnExactBeats", fn := fun _ => fun
  | [d1, d2] => { results := [.lit (.bool true)], args := [d1, d2] }
  | _ => none }
def fnExactBeatsRow : OpenClaim := { program := "ytnemglgbginbdaa", sum := "43cf216733618d0fc1f9b00ef7345c157f82119a5fc16b0be176c82e1989cb03", func := "loop.example/g00575/laws.FnExactBeats", spec := "fnExactBeats", apart := false }
def FnExactBeatsSaid : Prop := fnExactBeatsRow.holds Try.pinned (OpenSpec.ofChange fnExactBeatsSpec)

/-- ITS FALSE NEIGHBOUR: 'it returns false'. Refute it at one input. -/
def fnExactBeatsWrong : ChangeSpec := { name := "fnExactBeats", fn := fun _ => fun
  | [d1, d2] => { results := [.lit (.bool false)], args := [d1, d2] }
  | _ => none }
def FnExactBeatsWrongFalsely : Prop := fnExactBeatsRow.holds Try.pinned (OpenSpec.ofChange fnExactBeatsWrong)

/-- 'laws.FnExactGoodBridges': WHATEVER THE INPUT: true; the input reads as it did. -/
def fnExactGoodBridgesSpec : ChangeSpec := { name := "fnExactGoodBridges", fn := fun _ => fun
  | [d] => { results := [.lit (.bool true)], args := [d] }
  | _ => none }
def fnExactGoodBridgesRow : OpenClaim := { program := "ytnemglgbginbdaa", sum := "43cf216733618d0fc1f9b00ef7345c157f82119a5fc16b0be176c82e1989cb03", func := "loop.example/g00575/laws.FnExactGoodBridges", spec := "fnExactGoodBridges", apart := false }
def FnExactGoodBridgesSaid : Prop := fnExactGoodBridgesRow.holds Try.pinned (OpenSpec.ofChange fnExactGoodBridgesSpec)

/-- ITS FALSE NEIGHBOUR: 'it returns false'. Refute it at one input. -/
def fnExactGoodBridgesWrong : ChangeSpec := { name := "fnExactGoodBridges", fn := fun _ => fun
  | [d] => { results := [.lit (.bool false)], args := [d] }
  | _ => none }
def FnExactGoodBridgesWrongFalsely : Prop := fnExactGoodBridgesRow.holds Try.pinned (OpenSpec.ofChange fnExactGoodBridgesWrong)

/-- 'laws.FnExactLeaderOf': WHATEVER THE INPUT: true; the input reads as it did. -/
def fnExactLeaderOfSpec : ChangeSpec := { name := "fnExactLeaderOf", fn := fun _ => fun
  | [d] => { results := [.lit (.bool true)], args := [d] }
  | _ => none }
def fnExactLeaderOfRow : OpenClaim := { program := "ytnemglgbginbdaa", sum := "43cf216733618d0fc1f9b00ef7345c157f82119a5fc16b0be176c82e1989cb03", func := "loop.example/g00575/laws.FnExactLeaderOf", spec := "fnExactLeaderOf", apart := false }
def FnExactLeaderOfSaid : Prop := fnExactLeaderOfRow.holds Try.pinned (OpenSpec.ofChange fnExactLeaderOfSpec)

/-- ITS FALSE NEIGHBOUR: 'it returns false'. Refute it at one input. -/
def fnExactLeaderOfWrong : ChangeSpec := { name := "fnExactLeaderOf", fn := fun _ => fun
  | [d] => { results := [.lit (.bool false)], args := [d] }
  | _ => none }
def FnExactLeaderOfWrongFalsely : Prop := fnExactLeaderOfRow.holds Try.pinned (OpenSpec.ofChange fnExactLeaderOfWrong)

/-- 'laws.FnExactSetRank': WHATEVER THE INPUT: true; the input reads as it did. -/
def fnExactSetRankSpec : ChangeSpec := { name := "fnExactSetRank", fn := fun _ => fun
  | [d1, d2, d3] => { results := [.lit (.bool true)], args := [d1, d2, d3] }
  | _ => none }
def fnExactSetRankRow : OpenClaim := { program := "ytnemglgbginbdaa", sum := "43cf216733618d0fc1f9b00ef7345c157f82119a5fc16b0be176c82e1989cb03", func := "loop.example/g00575/laws.FnExactSetRank", spec := "fnExactSetRank", unfollowed := true, recurses := true, apart := false }
def FnExactSetRankSaid : Prop := fnExactSetRankRow.holds Try.pinned (OpenSpec.ofChange fnExactSetRankSpec)

/-- ITS FALSE NEIGHBOUR: 'it returns false'. Refute it at one input. -/
def fnExactSetRankWrong : ChangeSpec := { name := "fnExactSetRank", fn := fun _ => fun
  | [d1, d2, d3] => { results := [.lit (.bool false)], args := [d1, d2, d3] }
  | _ => none }
def FnExactSetRankWrongFalsely : Prop := fnExactSetRankRow.holds Try.pinned (OpenSpec.ofChange fnExactSetRankWrong)

/-- 'laws.FnExactServersOf': WHATEVER THE INPUT: true; the input reads as it did. -/
def fnExactServersOfSpec : ChangeSpec := { name := "fnExactServersOf", fn := fun _ => fun
  | [d1, d2] => { results := [.lit (.bool true)], args := [d1, d2] }
  | _ => none }
def fnExactServersOfRow : OpenClaim := { program := "ytnemglgbginbdaa", sum := "43cf216733618d0fc1f9b00ef7345c157f82119a5fc16b0be176c82e1989cb03", func := "loop.example/g00575/laws.FnExactServersOf", spec := "fnExactServersOf", apart := false }
def FnExactServersOfSaid : Prop := fnExactServersOfRow.holds Try.pinned (OpenSpec.ofChange fnExactServersOfSpec)

/-- ITS FALSE NEIGHBOUR: 'it returns false'. Refute it at one input. -/
def fnExactServersOfWrong : ChangeSpec := { name := "fnExactServersOf", fn := fun _ => fun
  | [d1, d2] => { results := [.lit (.bool false)], args := [d1, d2] }
  | _ => none }
def FnExactServersOfWrongFalsely : Prop := fnExactServersOfRow.holds Try.pinned (OpenSpec.ofChange fnExactServersOfWrong)

/-- 'laws.FnExactMoved': WHATEVER THE INPUT: true; the input reads as it did. -/
def fnExactMovedSpec : ChangeSpec := { name := "fnExactMoved", fn := fun _ => fun
  | [d1, d2, d3] => { results := [.lit (.bool true)], args := [d1, d2, d3] }
  | _ => none }
def fnExactMovedRow : OpenClaim := { program := "ytnemglgbginbdaa", sum := "43cf216733618d0fc1f9b00ef7345c157f82119a5fc16b0be176c82e1989cb03", func := "loop.example/g00575/laws.FnExactMoved", spec := "fnExactMoved", unfollowed := true, recurses := true, apart := false }
def FnExactMovedSaid : Prop := fnExactMovedRow.holds Try.pinned (OpenSpec.ofChange fnExactMovedSpec)

/-- ITS FALSE NEIGHBOUR: 'it returns false'. Refute it at one input. -/
def fnExactMovedWrong : ChangeSpec := { name := "fnExactMoved", fn := fun _ => fun
  | [d1, d2, d3] => { results := [.lit (.bool false)], args := [d1, d2, d3] }
  | _ => none }
def FnExactMovedWrongFalsely : Prop := fnExactMovedRow.holds Try.pinned (OpenSpec.ofChange fnExactMovedWrong)

/-- 'laws.FnExactLeadersBy': WHATEVER THE INPUT: true; the input reads as it did. -/
def fnExactLeadersBySpec : ChangeSpec := { name := "fnExactLeadersBy", fn := fun _ => fun
  | [d1, d2] => { results := [.lit (.bool true)], args := [d1, d2] }
  | _ => none }
def fnExactLeadersByRow : OpenClaim := { program := "ytnemglgbginbdaa", sum := "43cf216733618d0fc1f9b00ef7345c157f82119a5fc16b0be176c82e1989cb03", func := "loop.example/g00575/laws.FnExactLeadersBy", spec := "fnExactLeadersBy", apart := false }
def FnExactLeadersBySaid : Prop := fnExactLeadersByRow.holds Try.pinned (OpenSpec.ofChange fnExactLeadersBySpec)

/-- ITS FALSE NEIGHBOUR: 'it returns false'. Refute it at one input. -/
def fnExactLeadersByWrong : ChangeSpec := { name := "fnExactLeadersBy", fn := fun _ => fun
  | [d1, d2] => { results := [.lit (.bool false)], args := [d1, d2] }
  | _ => none }
def FnExactLeadersByWrongFalsely : Prop := fnExactLeadersByRow.holds Try.pinned (OpenSpec.ofChange fnExactLeadersByWrong)

/- THE SECOND FORM. 'bulk': how many values and letters a reading holds, each counted each time it is reached (what is shared counts as often as it is met; a slice's spare places count too). A statement '..UptoSaid' is the law's where the arguments, and the package variables that the reading takes, are together of bulk at most 1048576: NARROWER than '..Said'. Prove '..Said' where nothing that the law and all that it calls make is longer than what came in: it says more and counts as full. Else prove '..UptoSaid'. A law counts once. -/
mutual
def uptoBulk {H : Type} : DataW H → Nat
  | .lit (.string bytes) => bytes.length + 1
  | .lit _ => 1
  | .nil => 1
  | .ptr d => uptoBulk d + 1
  | .slice elems spare => uptoBulkAll elems + uptoBulkAll spare + 1
  | .agg parts => uptoBulkAll parts + 1
  | .iface _ d => uptoBulk d + 1
  | .map entries => uptoBulkEntries entries + 1
  | .held _ => 1
def uptoBulkAll {H : Type} : List (DataW H) → Nat
  | [] => 0
  | d :: r => uptoBulk d + uptoBulkAll r
def uptoBulkEntries {H : Type} : List (Lit × DataW H) → Nat
  | [] => 0
  | x :: r => uptoBulkEntry x + uptoBulkEntries r
def uptoBulkEntry {H : Type} : Lit × DataW H → Nat
  | (.string bytes, d) => bytes.length + uptoBulk d + 1
  | (_, d) => uptoBulk d + 1
 end
def uptoSmall : (H : Type) → List (DataW H) → Bool := fun _ ds => decide (uptoBulkAll ds ≤ 1048576)
def OpenSpec.upto (s : _root_.Go.ChangeSpec) : _root_.Go.OpenSpec := { _root_.Go.OpenSpec.ofChange s with cond := some uptoSmall }

/-- 'laws.FnExactNextState', WHERE WHAT IT READS IS OF BULK AT MOST 1048576: true; the input reads as it did. -/
def fnExactNextStateUptoRow : OpenClaim := { program := "ytnemglgbginbdaa", sum := "43cf216733618d0fc1f9b00ef7345c157f82119a5fc16b0be176c82e1989cb03", func := "loop.example/g00575/laws.FnExactNextState", spec := "fnExactNextState", apart := false, narrowed := true }
def FnExactNextStateUptoSaid : Prop := fnExactNextStateUptoRow.holds Try.pinned (OpenSpec.upto fnExactNextStateSpec)

/-- 'laws.FnExactNewPair', WHERE WHAT IT READS IS OF BULK AT MOST 1048576: true; the input reads as it did. -/
def fnExactNewPairUptoRow : OpenClaim := { program := "ytnemglgbginbdaa", sum := "43cf216733618d0fc1f9b00ef7345c157f82119a5fc16b0be176c82e1989cb03", func := "loop.example/g00575/laws.FnExactNewPair", spec := "fnExactNewPair", apart := false, narrowed := true }
def FnExactNewPairUptoSaid : Prop := fnExactNewPairUptoRow.holds Try.pinned (OpenSpec.upto fnExactNewPairSpec)

/-- 'laws.FnExactGoodPair', WHERE WHAT IT READS IS OF BULK AT MOST 1048576: true; the input reads as it did. -/
def fnExactGoodPairUptoRow : OpenClaim := { program := "ytnemglgbginbdaa", sum := "43cf216733618d0fc1f9b00ef7345c157f82119a5fc16b0be176c82e1989cb03", func := "loop.example/g00575/laws.FnExactGoodPair", spec := "fnExactGoodPair", apart := false, narrowed := true }
def FnExactGoodPairUptoSaid : Prop := fnExactGoodPairUptoRow.holds Try.pinned (OpenSpec.upto fnExactGoodPairSpec)

/-- 'laws.FnExactAreBoth', WHERE WHAT IT READS IS OF BULK AT MOST 1048576: true; the input reads as it did. -/
def fnExactAreBothUptoRow : OpenClaim := { program := "ytnemglgbginbdaa", sum := "43cf216733618d0fc1f9b00ef7345c157f82119a5fc16b0be176c82e1989cb03", func := "loop.example/g00575/laws.FnExactAreBoth", spec := "fnExactAreBoth", apart := false, narrowed := true }
def FnExactAreBothUptoSaid : Prop := fnExactAreBothUptoRow.holds Try.pinned (OpenSpec.upto fnExactAreBothSpec)

/-- 'laws.FnExactBeats', WHERE WHAT IT READS IS OF BULK AT MOST 1048576: true; the input reads as it did. -/
def fnExactBeatsUptoRow : OpenClaim := { program := "ytnemglgbginbdaa", sum := "43cf216733618d0fc1f9b00ef7345c157f82119a5fc16b0be176c82e1989cb03", func := "loop.example/g00575/laws.FnExactBeats", spec := "fnExactBeats", apart := false, narrowed := true }
def FnExactBeatsUptoSaid : Prop := fnExactBeatsUptoRow.holds Try.pinned (OpenSpec.upto fnExactBeatsSpec)

/-- 'laws.FnExactGoodBridges', WHERE WHAT IT READS IS OF BULK AT MOST 1048576: true; the input reads as it did. -/
def fnExactGoodBridgesUptoRow : OpenClaim := { program := "ytnemglgbginbdaa", sum := "43cf216733618d0fc1f9b00ef7345c157f82119a5fc16b0be176c82e1989cb03", func := "loop.example/g00575/laws.FnExactGoodBridges", spec := "fnExactGoodBridges", apart := false, narrowed := true }
def FnExactGoodBridgesUptoSaid : Prop := fnExactGoodBridgesUptoRow.holds Try.pinned (OpenSpec.upto fnExactGoodBridgesSpec)

/-- 'laws.FnExactLeaderOf', WHERE WHAT IT READS IS OF BULK AT MOST 1048576: true; the input reads as it did. -/
def fnExactLeaderOfUptoRow : OpenClaim := { program := "ytnemglgbginbdaa", sum := "43cf216733618d0fc1f9b00ef7345c157f82119a5fc16b0be176c82e1989cb03", func := "loop.example/g00575/laws.FnExactLeaderOf", spec := "fnExactLeaderOf", apart := false, narrowed := true }
def FnExactLeaderOfUptoSaid : Prop := fnExactLeaderOfUptoRow.holds Try.pinned (OpenSpec.upto fnExactLeaderOfSpec)

/-- 'laws.FnExactSetRank', WHERE WHAT IT READS IS OF BULK AT MOST 1048576: true; the input reads as it did. -/
def fnExactSetRankUptoRow : OpenClaim := { program := "ytnemglgbginbdaa", sum := "43cf216733618d0fc1f9b00ef7345c157f82119a5fc16b0be176c82e1989cb03", func := "loop.example/g00575/laws.FnExactSetRank", spec := "fnExactSetRank", unfollowed := true, recurses := true, apart := false, narrowed := true }
def FnExactSetRankUptoSaid : Prop := fnExactSetRankUptoRow.holds Try.pinned (OpenSpec.upto fnExactSetRankSpec)

/-- 'laws.FnExactServersOf', WHERE WHAT IT READS IS OF BULK AT MOST 1048576: true; the input reads as it did. -/
def fnExactServersOfUptoRow : OpenClaim := { program := "ytnemglgbginbdaa", sum := "43cf216733618d0fc1f9b00ef7345c157f82119a5fc16b0be176c82e1989cb03", func := "loop.example/g00575/laws.FnExactServersOf", spec := "fnExactServersOf", apart := false, narrowed := true }
def FnExactServersOfUptoSaid : Prop := fnExactServersOfUptoRow.holds Try.pinned (OpenSpec.upto fnExactServersOfSpec)

/-- 'laws.FnExactMoved', WHERE WHAT IT READS IS OF BULK AT MOST 1048576: true; the input reads as it did. -/
def fnExactMovedUptoRow : OpenClaim := { program := "ytnemglgbginbdaa", sum := "43cf216733618d0fc1f9b00ef7345c157f82119a5fc16b0be176c82e1989cb03", func := "loop.example/g00575/laws.FnExactMoved", spec := "fnExactMoved", unfollowed := true, recurses := true, apart := false, narrowed := true }
def FnExactMovedUptoSaid : Prop := fnExactMovedUptoRow.holds Try.pinned (OpenSpec.upto fnExactMovedSpec)

/-- 'laws.FnExactLeadersBy', WHERE WHAT IT READS IS OF BULK AT MOST 1048576: true; the input reads as it did. -/
def fnExactLeadersByUptoRow : OpenClaim := { program := "ytnemglgbginbdaa", sum := "43cf216733618d0fc1f9b00ef7345c157f82119a5fc16b0be176c82e1989cb03", func := "loop.example/g00575/laws.FnExactLeadersBy", spec := "fnExactLeadersBy", apart := false, narrowed := true }
def FnExactLeadersByUptoSaid : Prop := fnExactLeadersByUptoRow.holds Try.pinned (OpenSpec.upto fnExactLeadersBySpec)

end Rows
end Go.Proofs.Ytnemglgbginbdaa
