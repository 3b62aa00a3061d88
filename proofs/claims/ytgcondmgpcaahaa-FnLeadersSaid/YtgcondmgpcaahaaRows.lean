/-
  No cell of these rows narrows 'for every input' (looked for: loops, veiled, ifaces, maps, wideKeys, modest, calm, conditions, laid).
  DERIVED. THE GIVEN ROWS OF THIS SEAT. 4 by the template 'for every input the law returns true; each argument reads behind the call as it read before'; 0 by the template 'total and deterministic' (their statements: YtgcondmgpcaahaaTotals.lean).
  GIVEN WITH THE SEED: the statements are not yours to turn. If you find one false, say at which input.
  Laid BY PROGRAM, IN A SANDBOX (cutbox-rows.mjs): the forced cells as the released guide's own fill.sh prints them over the translation 6033579f9209c076… (all of the seat's roots in one cut). By AI agents, Wed Nov 11 2026. No macro, syntax, notation, axiom, sorry.
-/
import Derived.Test.YtgcondmgpcaahaaChecked
import GoSem.Claim
import GoSem.ClaimJoined
import GoSem.ClaimMapViews
import Derived.JoinedTies
import Derived.KernelRfl
namespace Go.Proofs.Ytgcondmgpcaahaa
/- THE CELL 'sum', in the pinned program and in every row, IS THE sha256 OF THE DUMP (.gsa) THAT YtgcondmgpcaahaaProg.lean LOADS. Nothing in Lean hashes anything: it is a label: what it is worth is what the hold of that sum in a sandbox is worth. -/
noncomputable def Try.pinned : Pinned := { name := "ytgcondmgpcaahaa", sum := "6033579f9209c07622990085ce03aaffe5bfbabeab2e1846216e266f9e000e9a", checked := Try.checked }
namespace Rows
def none {H : Type} : Left H := { results := [], args := [] }

/-- 'laws.FnLeaders': WHATEVER THE INPUT: true; the input reads as it did. -/
def fnLeadersSpec : ChangeSpec := { name := "fnLeaders", fn := fun _ => fun
  | [d1, d2] => { results := [.lit (.bool true)], args := [d1, d2] }
  | _ => none }
def fnLeadersRow : OpenClaim := { program := "ytgcondmgpcaahaa", sum := "6033579f9209c07622990085ce03aaffe5bfbabeab2e1846216e266f9e000e9a", func := "loop.example/g00575/laws.FnLeaders", spec := "fnLeaders", apart := false }
def FnLeadersSaid : Prop := fnLeadersRow.holds Try.pinned (OpenSpec.ofChange fnLeadersSpec)

/-- ITS FALSE NEIGHBOUR: 'it returns false'. Refute it at one input. -/
def fnLeadersWrong : ChangeSpec := { name := "fnLeaders", fn := fun _ => fun
  | [d1, d2] => { results := [.lit (.bool false)], args := [d1, d2] }
  | _ => none }
def FnLeadersWrongFalsely : Prop := fnLeadersRow.holds Try.pinned (OpenSpec.ofChange fnLeadersWrong)

/-- 'laws.FnServers': WHATEVER THE INPUT: true; the input reads as it did. -/
def fnServersSpec : ChangeSpec := { name := "fnServers", fn := fun _ => fun
  | [d1, d2] => { results := [.lit (.bool true)], args := [d1, d2] }
  | _ => none }
def fnServersRow : OpenClaim := { program := "ytgcondmgpcaahaa", sum := "6033579f9209c07622990085ce03aaffe5bfbabeab2e1846216e266f9e000e9a", func := "loop.example/g00575/laws.FnServers", spec := "fnServers", unfollowed := true, recurses := true, apart := false }
def FnServersSaid : Prop := fnServersRow.holds Try.pinned (OpenSpec.ofChange fnServersSpec)

/-- ITS FALSE NEIGHBOUR: 'it returns false'. Refute it at one input. -/
def fnServersWrong : ChangeSpec := { name := "fnServers", fn := fun _ => fun
  | [d1, d2] => { results := [.lit (.bool false)], args := [d1, d2] }
  | _ => none }
def FnServersWrongFalsely : Prop := fnServersRow.holds Try.pinned (OpenSpec.ofChange fnServersWrong)

/-- 'laws.FnExactGoodEdges': WHATEVER THE INPUT: true; the input reads as it did. -/
def fnExactGoodEdgesSpec : ChangeSpec := { name := "fnExactGoodEdges", fn := fun _ => fun
  | [d1, d2] => { results := [.lit (.bool true)], args := [d1, d2] }
  | _ => none }
def fnExactGoodEdgesRow : OpenClaim := { program := "ytgcondmgpcaahaa", sum := "6033579f9209c07622990085ce03aaffe5bfbabeab2e1846216e266f9e000e9a", func := "loop.example/g00575/laws.FnExactGoodEdges", spec := "fnExactGoodEdges", apart := false }
def FnExactGoodEdgesSaid : Prop := fnExactGoodEdgesRow.holds Try.pinned (OpenSpec.ofChange fnExactGoodEdgesSpec)

/-- ITS FALSE NEIGHBOUR: 'it returns false'. Refute it at one input. -/
def fnExactGoodEdgesWrong : ChangeSpec := { name := "fnExactGoodEdges", fn := fun _ => fun
  | [d1, d2] => { results := [.lit (.bool false)], args := [d1, d2] }
  | _ => none }
def FnExactGoodEdgesWrongFalsely : Prop := fnExactGoodEdgesRow.holds Try.pinned (OpenSpec.ofChange fnExactGoodEdgesWrong)

/-- 'laws.FnExactWithoutEdge': WHATEVER THE INPUT: true; the input reads as it did. -/
def fnExactWithoutEdgeSpec : ChangeSpec := { name := "fnExactWithoutEdge", fn := fun _ => fun
  | [d1, d2, d3] => { results := [.lit (.bool true)], args := [d1, d2, d3] }
  | _ => none }
def fnExactWithoutEdgeRow : OpenClaim := { program := "ytgcondmgpcaahaa", sum := "6033579f9209c07622990085ce03aaffe5bfbabeab2e1846216e266f9e000e9a", func := "loop.example/g00575/laws.FnExactWithoutEdge", spec := "fnExactWithoutEdge", apart := false }
def FnExactWithoutEdgeSaid : Prop := fnExactWithoutEdgeRow.holds Try.pinned (OpenSpec.ofChange fnExactWithoutEdgeSpec)

/-- ITS FALSE NEIGHBOUR: 'it returns false'. Refute it at one input. -/
def fnExactWithoutEdgeWrong : ChangeSpec := { name := "fnExactWithoutEdge", fn := fun _ => fun
  | [d1, d2, d3] => { results := [.lit (.bool false)], args := [d1, d2, d3] }
  | _ => none }
def FnExactWithoutEdgeWrongFalsely : Prop := fnExactWithoutEdgeRow.holds Try.pinned (OpenSpec.ofChange fnExactWithoutEdgeWrong)

/- THE SECOND FORM. 'bulk': how many values and letters a reading holds, each counted each time it is reached (what is shared counts as often as it is met; a slice's spare places count too). A statement '..UptoSaid' is the law's where the arguments, and the package variables that the reading takes, are together of bulk at most 1048576: NARROWER than '..Said'. Prove '..Said' where nothing that the law and all that it calls make is longer than what came in: it says more and counts as full. Else prove '..UptoSaid'. A law counts once. -/
mutual
def uptoBulk {H : Type} : DataW H → Nat
  | .lit (.string bytes) => bytes.length + 1
  | .lit _ => 1
  | .nil => 1
  | .ptr d => uptoBulk d + 1
  | .slice elems spare => uptoBulkAll elems + uptoBulkAll spare + 1
  | .agg parts => uptoBulkAll parts + 1
  | .iface _ d => uptoBulk d + 1
  | .map entries => uptoBulkEntries entries + 1
  | .held _ => 1
def uptoBulkAll {H : Type} : List (DataW H) → Nat
  | [] => 0
  | d :: r => uptoBulk d + uptoBulkAll r
def uptoBulkEntries {H : Type} : List (Lit × DataW H) → Nat
  | [] => 0
  | x :: r => uptoBulkEntry x + uptoBulkEntries r
def uptoBulkEntry {H : Type} : Lit × DataW H → Nat
  | (.string bytes, d) => bytes.length + uptoBulk d + 1
  | (_, d) => uptoBulk d + 1
 end
def uptoSmall : (H : Type) → List (DataW H) → Bool := fun _ ds => decide (uptoBulkAll ds ≤ 1048576)
def OpenSpec.upto (s : _root_.Go.ChangeSpec) : _root_.Go.OpenSpec := { _root_.Go.OpenSpec.ofChange s with cond := some uptoSmall }

/-- 'laws.FnLeaders', WHERE WHAT IT READS IS OF BULK AT MOST 1048576: true; the input reads as it did. -/
def fnLeadersUptoRow : OpenClaim := { program := "ytgcondmgpcaahaa", sum := "6033579f9209c07622990085ce03aaffe5bfbabeab2e1846216e266f9e000e9a", func := "loop.example/g00575/laws.FnLeaders", spec := "fnLeaders", apart := false, narrowed := true }
def FnLeadersUptoSaid : Prop := fnLeadersUptoRow.holds Try.pinned (OpenSpec.upto fnLeadersSpec)

/-- 'laws.FnServers', WHERE WHAT IT READS IS OF BULK AT MOST 1048576: true; the input reads as it did. -/
def fnServersUptoRow : OpenClaim := { program := "ytgcondmgpcaahaa", sum := "6033579f9209c07622990085ce03aaffe5bfbabeab2e1846216e266f9e000e9a", func := "loop.example/g00575/laws.FnServers", spec := "fnServers", unfollowed := true, recurses := true, apart := false, narrowed := true }
def FnServersUptoSaid : Prop := fnServersUptoRow.holds Try.pinned (OpenSpec.upto fnServersSpec)

/-- 'laws.FnExactGoodEdges', WHERE WHAT IT READS IS OF BULK AT MOST 1048576: true; the input reads as it did. -/
def fnExactGoodEdgesUptoRow : OpenClaim := { program := "ytgcondmgpcaahaa", sum := "6033579f9209c07622990085ce03aaffe5bfbabeab2e1846216e266f9e000e9a", func := "loop.example/g00575/laws.FnExactGoodEdges", spec := "fnExactGoodEdges", apart := false, narrowed := true }
def FnExactGoodEdgesUptoSaid : Prop := fnExactGoodEdgesUptoRow.holds Try.pinned (OpenSpec.upto fnExactGoodEdgesSpec)

/-- 'laws.FnExactWithoutEdge', WHERE WHAT IT READS IS OF BULK AT MOST 1048576: true; the input reads as it did. -/
def fnExactWithoutEdgeUptoRow : OpenClaim := { program := "ytgcondmgpcaahaa", sum := "6033579f9209c07622990085ce03aaffe5bfbabeab2e1846216e266f9e000e9a", func := "loop.example/g00575/laws.FnExactWithoutEdge", spec := "fnExactWithoutEdge", apart := false, narrowed := true }
def FnExactWithoutEdgeUptoSaid : Prop := fnExactWithoutEdgeUptoRow.holds Try.pinned (OpenSpec.upto fnExactWithoutEdgeSpec)

end Rows
end Go.Proofs.Ytgcondmgpcaahaa
