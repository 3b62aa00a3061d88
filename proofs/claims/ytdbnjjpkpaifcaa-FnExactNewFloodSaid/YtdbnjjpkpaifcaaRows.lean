/-
  No cell of these rows narrows 'for every input' (looked for: loops, veiled, ifaces, maps, wideKeys, modest, calm, conditions, laid).
  DERIVED. THE GIVEN ROWS OF THIS SEAT. 4 by the template 'for every input the law returns true; each argument reads behind the call as it read before'; 0 by the template 'total and deterministic' (their statements: YtdbnjjpkpaifcaaTotals.lean).
  GIVEN WITH THE SEED: the statements are not yours to turn. If you find one false, say at which input.
  Laid BY PROGRAM, IN A SANDBOX (cutbox-rows.mjs): the forced cells as the released guide's own fill.sh prints them over the translation 3e6f8acf82a8d31e… (all of the seat's roots in one cut). By AI agents, Wed Nov 11 2026. No macro, syntax, notation, axiom, sorry.
-/
import Derived.Test.YtdbnjjpkpaifcaaChecked
import GoSem.Claim
import GoSem.ClaimJoined
import GoSem.ClaimMapViews
import Derived.JoinedTies
import Derived.KernelRfl
namespace Go.Proofs.Ytdbnjjpkpaifcaa
/- THE CELL 'sum', in the pinned program and in every row, IS THE sha256 OF THE DUMP (.gsa) THAT YtdbnjjpkpaifcaaProg.lean LOADS. Nothing in Lean hashes anything: it is a label: what it is worth is what the hold of that sum in a sandbox is worth. -/
noncomputable def Try.pinned : Pinned := { name := "ytdbnjjpkpaifcaa", sum := "3e6f8acf82a8d31e7dd034289ead92203b3d283a06bb83645689ee6c6419664a", checked := Try.checked }
namespace Rows
def none {H : Type} : Left H := { results := [], args := [] }

/-- 'laws.FnExactNewFlood': WHATEVER THE INPUT: true; the input reads as it did. -/
def fnExactNewFloodSpec : ChangeSpec := { name := "fnExactNewFlood", fn := fun _ => fun
  | [d1, d2] => { results := [.lit (.bool true)], args := [d1, d2] }
  | _ => none }
def fnExactNewFloodRow : OpenClaim := { program := "ytdbnjjpkpaifcaa", sum := "3e6f8acf82a8d31e7dd034289ead92203b3d283a06bb83645689ee6c6419664a", func := "loop.example/g00575/laws.FnExactNewFlood", spec := "fnExactNewFlood", unfollowed := true, recurses := true, apart := false }
def FnExactNewFloodSaid : Prop := fnExactNewFloodRow.holds Try.pinned (OpenSpec.ofChange fnExactNewFloodSpec)

/-- ITS FALSE NEIGHBOUR: 'it returns false'. Refute it at one input. -/
def fnExactNewFloodWrong : ChangeSpec := { name := "fnExactNewFlood", fn := fun _ => fun
  | [d1, d2] => { results := [.lit (.bool false)], args := [d1, d2] }
  | _ => none }
def FnExactNewFloodWrongFalsely : Prop := fnExactNewFloodRow.holds Try.pinned (OpenSpec.ofChange fnExactNewFloodWrong)

/-- 'laws.FnExactOwedIn': WHATEVER THE INPUT: true; the input reads as it did. -/
def fnExactOwedInSpec : ChangeSpec := { name := "fnExactOwedIn", fn := fun _ => fun
  | [d] => { results := [.lit (.bool true)], args := [d] }
  | _ => none }
def fnExactOwedInRow : OpenClaim := { program := "ytdbnjjpkpaifcaa", sum := "3e6f8acf82a8d31e7dd034289ead92203b3d283a06bb83645689ee6c6419664a", func := "loop.example/g00575/laws.FnExactOwedIn", spec := "fnExactOwedIn", unfollowed := true, recurses := true, apart := false }
def FnExactOwedInSaid : Prop := fnExactOwedInRow.holds Try.pinned (OpenSpec.ofChange fnExactOwedInSpec)

/-- ITS FALSE NEIGHBOUR: 'it returns false'. Refute it at one input. -/
def fnExactOwedInWrong : ChangeSpec := { name := "fnExactOwedIn", fn := fun _ => fun
  | [d] => { results := [.lit (.bool false)], args := [d] }
  | _ => none }
def FnExactOwedInWrongFalsely : Prop := fnExactOwedInRow.holds Try.pinned (OpenSpec.ofChange fnExactOwedInWrong)

/-- 'laws.FnExactAllSame': WHATEVER THE INPUT: true; the input reads as it did. -/
def fnExactAllSameSpec : ChangeSpec := { name := "fnExactAllSame", fn := fun _ => fun
  | [d] => { results := [.lit (.bool true)], args := [d] }
  | _ => none }
def fnExactAllSameRow : OpenClaim := { program := "ytdbnjjpkpaifcaa", sum := "3e6f8acf82a8d31e7dd034289ead92203b3d283a06bb83645689ee6c6419664a", func := "loop.example/g00575/laws.FnExactAllSame", spec := "fnExactAllSame", unfollowed := true, recurses := true, apart := false }
def FnExactAllSameSaid : Prop := fnExactAllSameRow.holds Try.pinned (OpenSpec.ofChange fnExactAllSameSpec)

/-- ITS FALSE NEIGHBOUR: 'it returns false'. Refute it at one input. -/
def fnExactAllSameWrong : ChangeSpec := { name := "fnExactAllSame", fn := fun _ => fun
  | [d] => { results := [.lit (.bool false)], args := [d] }
  | _ => none }
def FnExactAllSameWrongFalsely : Prop := fnExactAllSameRow.holds Try.pinned (OpenSpec.ofChange fnExactAllSameWrong)

/-- 'laws.FnExactGoodFlood': WHATEVER THE INPUT: true; the input reads as it did. -/
def fnExactGoodFloodSpec : ChangeSpec := { name := "fnExactGoodFlood", fn := fun _ => fun
  | [d] => { results := [.lit (.bool true)], args := [d] }
  | _ => none }
def fnExactGoodFloodRow : OpenClaim := { program := "ytdbnjjpkpaifcaa", sum := "3e6f8acf82a8d31e7dd034289ead92203b3d283a06bb83645689ee6c6419664a", func := "loop.example/g00575/laws.FnExactGoodFlood", spec := "fnExactGoodFlood", unfollowed := true, recurses := true, apart := false }
def FnExactGoodFloodSaid : Prop := fnExactGoodFloodRow.holds Try.pinned (OpenSpec.ofChange fnExactGoodFloodSpec)

/-- ITS FALSE NEIGHBOUR: 'it returns false'. Refute it at one input. -/
def fnExactGoodFloodWrong : ChangeSpec := { name := "fnExactGoodFlood", fn := fun _ => fun
  | [d] => { results := [.lit (.bool false)], args := [d] }
  | _ => none }
def FnExactGoodFloodWrongFalsely : Prop := fnExactGoodFloodRow.holds Try.pinned (OpenSpec.ofChange fnExactGoodFloodWrong)

/- THE SECOND FORM. 'bulk': how many values and letters a reading holds, each counted each time it is reached (what is shared counts as often as it is met; a slice's spare places count too). A statement '..UptoSaid' is the law's where the arguments, and the package variables that the reading takes, are together of bulk at most 1048576: NARROWER than '..Said'. Prove '..Said' where nothing that the law and all that it calls make is longer than what came in: it says more and counts as full. Else prove '..UptoSaid'. A law counts once. -/
mutual
def uptoBulk {H : Type} : DataW H → Nat
  | .lit (.string bytes) => bytes.length + 1
  | .lit _ => 1
  | .nil => 1
  | .ptr d => uptoBulk d + 1
  | .slice elems spare => uptoBulkAll elems + uptoBulkAll spare + 1
  | .agg parts => uptoBulkAll parts + 1
  | .iface _ d => uptoBulk d + 1
  | .map entries => uptoBulkEntries entries + 1
  | .held _ => 1
def uptoBulkAll {H : Type} : List (DataW H) → Nat
  | [] => 0
  | d :: r => uptoBulk d + uptoBulkAll r
def uptoBulkEntries {H : Type} : List (Lit × DataW H) → Nat
  | [] => 0
  | x :: r => uptoBulkEntry x + uptoBulkEntries r
def uptoBulkEntry {H : Type} : Lit × DataW H → Nat
  | (.string bytes, d) => bytes.length + uptoBulk d + 1
  | (_, d) => uptoBulk d + 1
 end
def uptoSmall : (H : Type) → List (DataW H) → Bool := fun _ ds => decide (uptoBulkAll ds ≤ 1048576)
def OpenSpec.upto (s : _root_.Go.ChangeSpec) : _root_.Go.OpenSpec := { _root_.Go.OpenSpec.ofChange s with cond := some uptoSmall }

/-- 'laws.FnExactNewFlood', WHERE WHAT IT READS IS OF BULK AT MOST 1048576: true; the input reads as it did. -/
def fnExactNewFloodUptoRow : OpenClaim := { program := "ytdbnjjpkpaifcaa", sum := "3e6f8acf82a8d31e7dd034289ead92203b3d283a06bb83645689ee6c6419664a", func := "loop.example/g00575/laws.FnExactNewFlood", spec := "fnExactNewFlood", unfollowed := true, recurses := true, apart := false, narrowed := true }
def FnExactNewFloodUptoSaid : Prop := fnExactNewFloodUptoRow.holds Try.pinned (OpenSpec.upto fnExactNewFloodSpec)

/-- 'laws.FnExactOwedIn', WHERE WHAT IT READS IS OF BULK AT MOST 1048576: true; the input reads as it did. -/
def fnExactOwedInUptoRow : OpenClaim := { program := "ytdbnjjpkpaifcaa", sum := "3e6f8acf82a8d31e7dd034289ead92203b3d283a06bb83645689ee6c6419664a", func := "loop.example/g00575/laws.FnExactOwedIn", spec := "fnExactOwedIn", unfollowed := true, recurses := true, apart := false, narrowed := true }
def FnExactOwedInUptoSaid : Prop := fnExactOwedInUptoRow.holds Try.pinned (OpenSpec.upto fnExactOwedInSpec)

/-- 'laws.FnExactAllSame', WHERE WHAT IT READS IS OF BULK AT MOST 1048576: true; the input reads as it did. -/
def fnExactAllSameUptoRow : OpenClaim := { program := "ytdbnjjpkpaifcaa", sum := "3e6f8acf82a8d31e7dd034289ead92203b3d283a06bb83645689ee6c6419664a", func := "loop.example/g00575/laws.FnExactAllSame", spec := "fnExactAllSame", unfollowed := true, recurses := true, apart := false, narrowed := true }
def FnExactAllSameUptoSaid : Prop := fnExactAllSameUptoRow.holds Try.pinned (OpenSpec.upto fnExactAllSameSpec)

/-- 'laws.FnExactGoodFlood', WHERE WHAT IT READS IS OF BULK AT MOST 1048576: true; the input reads as it did. -/
def fnExactGoodFloodUptoRow : OpenClaim := { program := "ytdbnjjpkpaifcaa", sum := "3e6f8acf82a8d31e7dd034289ead92203b3d283a06bb83645689ee6c6419664a", func := "loop.example/g00575/laws.FnExactGoodFlood", spec := "fnExactGoodFlood", unfollowed := true, recurses := true, apart := false, narrowed := true }
def FnExactGoodFloodUptoSaid : Prop := fnExactGoodFloodUptoRow.holds Try.pinned (OpenSpec.upto fnExactGoodFloodSpec)

end Rows
end Go.Proofs.Ytdbnjjpkpaifcaa
