/-
  No cell of these rows narrows 'for every input' (looked for: loops, veiled, ifaces, maps, wideKeys, modest, calm, conditions, laid).
  DERIVED. THE GIVEN ROWS OF THIS SEAT. 7 by the template 'for every input the law returns true; each argument reads behind the call as it read before'; 0 by the template 'total and deterministic' (their statements: YtaeiikielelicaaTotals.lean).
  GIVEN WITH THE SEED: the statements are not yours to turn. If you find one false, say at which input.
  Laid BY PROGRAM, IN A SANDBOX (cutbox-rows.mjs): the forced cells as the released guide's own fill.sh prints them over the translation f55d336f8b19b42e… (all of the seat's roots in one cut). By AI agents, Wed Nov 11 2026. No macro, syntax, notation, axiom, sorry.
-/
import Derived.Test.YtaeiikielelicaaChecked
import GoSem.Claim
import GoSem.ClaimJoined
import GoSem.ClaimMapViews
import Derived.JoinedTies
import Derived.KernelRfl
namespace Go.Proofs.Ytaeiikielelicaa
/- THE CELL 'sum', in the pinned program and in every row, IS THE sha256 OF THE DUMP (.gsa) THAT YtaeiikielelicaaProg.lean LOADS. Nothing in Lean hashes anything: it is a label: what it is worth is what the hold of that sum in a sandbox is worth. -/
noncomputable def Try.pinned : Pinned := { name := "ytaeiikielelicaa", sum := "f55d336f8b19b42e927f10bc03e871db87535ebc970604736c57e8757e39bce7", checked := Try.checked }
namespace Rows
def none {H : Type} : Left H := { results := [], args := [] }

/-- 'triadlaw17.PathEnds': WHATEVER THE INPUT: true; the input reads as it did. -/
def pathEndsSpec : ChangeSpec := { name := "pathEnds", fn := fun _ => fun
  | [d1, d2] => { results := [.lit (.bool true)], args := [d1, d2] }
  | _ => none }
def pathEndsRow : OpenClaim := { program := "ytaeiikielelicaa", sum := "f55d336f8b19b42e927f10bc03e871db87535ebc970604736c57e8757e39bce7", func := "triad/triadlaw17.PathEnds", spec := "pathEnds", inPlace := ["maps.clone"], unfollowed := true, recurses := true, plainKeys := false, apart := false }
def PathEndsSaid : Prop := pathEndsRow.holds Try.pinned (OpenSpec.ofChange pathEndsSpec)

/-- ITS FALSE NEIGHBOUR: 'it returns false'. Refute it at one input. -/
def pathEndsWrong : ChangeSpec := { name := "pathEnds", fn := fun _ => fun
  | [d1, d2] => { results := [.lit (.bool false)], args := [d1, d2] }
  | _ => none }
def PathEndsWrongFalsely : Prop := pathEndsRow.holds Try.pinned (OpenSpec.ofChange pathEndsWrong)

/-- 'triadlaw17.PathLaws': WHATEVER THE INPUT: true; the input reads as it did. -/
def pathLawsSpec : ChangeSpec := { name := "pathLaws", fn := fun _ => fun
  | [d1, d2, d3, d4] => { results := [.lit (.bool true)], args := [d1, d2, d3, d4] }
  | _ => none }
def pathLawsRow : OpenClaim := { program := "ytaeiikielelicaa", sum := "f55d336f8b19b42e927f10bc03e871db87535ebc970604736c57e8757e39bce7", func := "triad/triadlaw17.PathLaws", spec := "pathLaws", inPlace := ["maps.clone"], unfollowed := true, recurses := true, plainKeys := false, apart := false }
def PathLawsSaid : Prop := pathLawsRow.holds Try.pinned (OpenSpec.ofChange pathLawsSpec)

/-- ITS FALSE NEIGHBOUR: 'it returns false'. Refute it at one input. -/
def pathLawsWrong : ChangeSpec := { name := "pathLaws", fn := fun _ => fun
  | [d1, d2, d3, d4] => { results := [.lit (.bool false)], args := [d1, d2, d3, d4] }
  | _ => none }
def PathLawsWrongFalsely : Prop := pathLawsRow.holds Try.pinned (OpenSpec.ofChange pathLawsWrong)

/-- 'triadlaw17.PathSames': WHATEVER THE INPUT: true; the input reads as it did. -/
def pathSamesSpec : ChangeSpec := { name := "pathSames", fn := fun _ => fun
  | [d1, d2, d3] => { results := [.lit (.bool true)], args := [d1, d2, d3] }
  | _ => none }
def pathSamesRow : OpenClaim := { program := "ytaeiikielelicaa", sum := "f55d336f8b19b42e927f10bc03e871db87535ebc970604736c57e8757e39bce7", func := "triad/triadlaw17.PathSames", spec := "pathSames", inPlace := ["maps.clone"], unfollowed := true, recurses := true, plainKeys := false, apart := false }
def PathSamesSaid : Prop := pathSamesRow.holds Try.pinned (OpenSpec.ofChange pathSamesSpec)

/-- ITS FALSE NEIGHBOUR: 'it returns false'. Refute it at one input. -/
def pathSamesWrong : ChangeSpec := { name := "pathSames", fn := fun _ => fun
  | [d1, d2, d3] => { results := [.lit (.bool false)], args := [d1, d2, d3] }
  | _ => none }
def PathSamesWrongFalsely : Prop := pathSamesRow.holds Try.pinned (OpenSpec.ofChange pathSamesWrong)

/-- 'triadlaw17.PathReach': WHATEVER THE INPUT: true; the input reads as it did. -/
def pathReachSpec : ChangeSpec := { name := "pathReach", fn := fun _ => fun
  | [d1, d2] => { results := [.lit (.bool true)], args := [d1, d2] }
  | _ => none }
def pathReachRow : OpenClaim := { program := "ytaeiikielelicaa", sum := "f55d336f8b19b42e927f10bc03e871db87535ebc970604736c57e8757e39bce7", func := "triad/triadlaw17.PathReach", spec := "pathReach", inPlace := ["maps.clone"], unfollowed := true, recurses := true, plainKeys := false, apart := false }
def PathReachSaid : Prop := pathReachRow.holds Try.pinned (OpenSpec.ofChange pathReachSpec)

/-- ITS FALSE NEIGHBOUR: 'it returns false'. Refute it at one input. -/
def pathReachWrong : ChangeSpec := { name := "pathReach", fn := fun _ => fun
  | [d1, d2] => { results := [.lit (.bool false)], args := [d1, d2] }
  | _ => none }
def PathReachWrongFalsely : Prop := pathReachRow.holds Try.pinned (OpenSpec.ofChange pathReachWrong)

/-- 'triadlaw17.PathOrder': WHATEVER THE INPUT: true; the input reads as it did. -/
def pathOrderSpec : ChangeSpec := { name := "pathOrder", fn := fun _ => fun
  | [d1, d2] => { results := [.lit (.bool true)], args := [d1, d2] }
  | _ => none }
def pathOrderRow : OpenClaim := { program := "ytaeiikielelicaa", sum := "f55d336f8b19b42e927f10bc03e871db87535ebc970604736c57e8757e39bce7", func := "triad/triadlaw17.PathOrder", spec := "pathOrder", inPlace := ["maps.clone"], unfollowed := true, recurses := true, plainKeys := false, apart := false }
def PathOrderSaid : Prop := pathOrderRow.holds Try.pinned (OpenSpec.ofChange pathOrderSpec)

/-- ITS FALSE NEIGHBOUR: 'it returns false'. Refute it at one input. -/
def pathOrderWrong : ChangeSpec := { name := "pathOrder", fn := fun _ => fun
  | [d1, d2] => { results := [.lit (.bool false)], args := [d1, d2] }
  | _ => none }
def PathOrderWrongFalsely : Prop := pathOrderRow.holds Try.pinned (OpenSpec.ofChange pathOrderWrong)

/-- 'triadlaw17.PathMore': WHATEVER THE INPUT: true; the input reads as it did. -/
def pathMoreSpec : ChangeSpec := { name := "pathMore", fn := fun _ => fun
  | [d1, d2, d3] => { results := [.lit (.bool true)], args := [d1, d2, d3] }
  | _ => none }
def pathMoreRow : OpenClaim := { program := "ytaeiikielelicaa", sum := "f55d336f8b19b42e927f10bc03e871db87535ebc970604736c57e8757e39bce7", func := "triad/triadlaw17.PathMore", spec := "pathMore", inPlace := ["maps.clone"], unfollowed := true, recurses := true, plainKeys := false, apart := false }
def PathMoreSaid : Prop := pathMoreRow.holds Try.pinned (OpenSpec.ofChange pathMoreSpec)

/-- ITS FALSE NEIGHBOUR: 'it returns false'. Refute it at one input. -/
def pathMoreWrong : ChangeSpec := { name := "pathMore", fn := fun _ => fun
  | [d1, d2, d3] => { results := [.lit (.bool false)], args := [d1, d2, d3] }
  | _ => none }
def PathMoreWrongFalsely : Prop := pathMoreRow.holds Try.pinned (OpenSpec.ofChange pathMoreWrong)

/-- 'triadlaw17.PathChain': WHATEVER THE INPUT: true; the input reads as it did. -/
def pathChainSpec : ChangeSpec := { name := "pathChain", fn := fun _ => fun
  | [d1, d2] => { results := [.lit (.bool true)], args := [d1, d2] }
  | _ => none }
def pathChainRow : OpenClaim := { program := "ytaeiikielelicaa", sum := "f55d336f8b19b42e927f10bc03e871db87535ebc970604736c57e8757e39bce7", func := "triad/triadlaw17.PathChain", spec := "pathChain", inPlace := ["maps.clone"], unfollowed := true, recurses := true, plainKeys := false, apart := false }
def PathChainSaid : Prop := pathChainRow.holds Try.pinned (OpenSpec.ofChange pathChainSpec)

/-- ITS FALSE NEIGHBOUR: 'it returns false'. Refute it at one input. -/
def pathChainWrong : ChangeSpec := { name := "pathChain", fn := fun _ => fun
  | [d1, d2] => { results := [.lit (.bool false)], args := [d1, d2] }
  | _ => none }
def PathChainWrongFalsely : Prop := pathChainRow.holds Try.pinned (OpenSpec.ofChange pathChainWrong)

/- THE SECOND FORM. 'bulk': how many values and letters a reading holds, each counted each time it is reached (what is shared counts as often as it is met; a slice's spare places count too). A statement '..UptoSaid' is the law's where the arguments, and the package variables that the reading takes, are together of bulk at most 1048576: NARROWER than '..Said'. Prove '..Said' where nothing that the law and all that it calls make is longer than what came in: it says more and counts as full. Else prove '..UptoSaid'. A law counts once. -/
mutual
def uptoBulk {H : Type} : DataW H → Nat
  | .lit (.string bytes) => bytes.length + 1
  | .lit _ => 1
  | .nil => 1
  | .ptr d => uptoBulk d + 1
  | .slice elems spare => uptoBulkAll elems + uptoBulkAll spare + 1
  | .agg parts => uptoBulkAll parts + 1
  | .iface _ d => uptoBulk d + 1
  | .map entries => uptoBulkEntries entries + 1
  | .held _ => 1
def uptoBulkAll {H : Type} : List (DataW H) → Nat
  | [] => 0
  | d :: r => uptoBulk d + uptoBulkAll r
def uptoBulkEntries {H : Type} : List (Lit × DataW H) → Nat
  | [] => 0
  | x :: r => uptoBulkEntry x + uptoBulkEntries r
def uptoBulkEntry {H : Type} : Lit × DataW H → Nat
  | (.string bytes, d) => bytes.length + uptoBulk d + 1
  | (_, d) => uptoBulk d + 1
 end
def uptoSmall : (H : Type) → List (DataW H) → Bool := fun _ ds => decide (uptoBulkAll ds ≤ 1048576)
def OpenSpec.upto (s : _root_.Go.ChangeSpec) : _root_.Go.OpenSpec := { _root_.Go.OpenSpec.ofChange s with cond := some uptoSmall }

/-- 'triadlaw17.PathEnds', WHERE WHAT IT READS IS OF BULK AT MOST 1048576: true; the input reads as it did. -/
def pathEndsUptoRow : OpenClaim := { program := "ytaeiikielelicaa", sum := "f55d336f8b19b42e927f10bc03e871db87535ebc970604736c57e8757e39bce7", func := "triad/triadlaw17.PathEnds", spec := "pathEnds", inPlace := ["maps.clone"], unfollowed := true, recurses := true, plainKeys := false, apart := false, narrowed := true }
def PathEndsUptoSaid : Prop := pathEndsUptoRow.holds Try.pinned (OpenSpec.upto pathEndsSpec)

/-- 'triadlaw17.PathLaws', WHERE WHAT IT READS IS OF BULK AT MOST 1048576: true; the input reads as it did. -/
def pathLawsUptoRow : OpenClaim := { program := "ytaeiikielelicaa", sum := "f55d336f8b19b42e927f10bc03e871db87535ebc970604736c57e8757e39bce7", func := "triad/triadlaw17.PathLaws", spec := "pathLaws", inPlace := ["maps.clone"], unfollowed := true, recurses := true, plainKeys := false, apart := false, narrowed := true }
def PathLawsUptoSaid : Prop := pathLawsUptoRow.holds Try.pinned (OpenSpec.upto pathLawsSpec)

/-- 'triadlaw17.PathSames', WHERE WHAT IT READS IS OF BULK AT MOST 1048576: true; the input reads as it did. -/
def pathSamesUptoRow : OpenClaim := { program := "ytaeiikielelicaa", sum := "f55d336f8b19b42e927f10bc03e871db87535ebc970604736c57e8757e39bce7", func := "triad/triadlaw17.PathSames", spec := "pathSames", inPlace := ["maps.clone"], unfollowed := true, recurses := true, plainKeys := false, apart := false, narrowed := true }
def PathSamesUptoSaid : Prop := pathSamesUptoRow.holds Try.pinned (OpenSpec.upto pathSamesSpec)

/-- 'triadlaw17.PathReach', WHERE WHAT IT READS IS OF BULK AT MOST 1048576: true; the input reads as it did. -/
def pathReachUptoRow : OpenClaim := { program := "ytaeiikielelicaa", sum := "f55d336f8b19b42e927f10bc03e871db87535ebc970604736c57e8757e39bce7", func := "triad/triadlaw17.PathReach", spec := "pathReach", inPlace := ["maps.clone"], unfollowed := true, recurses := true, plainKeys := false, apart := false, narrowed := true }
def PathReachUptoSaid : Prop := pathReachUptoRow.holds Try.pinned (OpenSpec.upto pathReachSpec)

/-- 'triadlaw17.PathOrder', WHERE WHAT IT READS IS OF BULK AT MOST 1048576: true; the input reads as it did. -/
def pathOrderUptoRow : OpenClaim := { program := "ytaeiikielelicaa", sum := "f55d336f8b19b42e927f10bc03e871db87535ebc970604736c57e8757e39bce7", func := "triad/triadlaw17.PathOrder", spec := "pathOrder", inPlace := ["maps.clone"], unfollowed := true, recurses := true, plainKeys := false, apart := false, narrowed := true }
def PathOrderUptoSaid : Prop := pathOrderUptoRow.holds Try.pinned (OpenSpec.upto pathOrderSpec)

/-- 'triadlaw17.PathMore', WHERE WHAT IT READS IS OF BULK AT MOST 1048576: true; the input reads as it did. -/
def pathMoreUptoRow : OpenClaim := { program := "ytaeiikielelicaa", sum := "f55d336f8b19b42e927f10bc03e871db87535ebc970604736c57e8757e39bce7", func := "triad/triadlaw17.PathMore", spec := "pathMore", inPlace := ["maps.clone"], unfollowed := true, recurses := true, plainKeys := false, apart := false, narrowed := true }
def PathMoreUptoSaid : Prop := pathMoreUptoRow.holds Try.pinned (OpenSpec.upto pathMoreSpec)

/-- 'triadlaw17.PathChain', WHERE WHAT IT READS IS OF BULK AT MOST 1048576: true; the input reads as it did. -/
def pathChainUptoRow : OpenClaim := { program := "ytaeiikielelicaa", sum := "f55d336f8b19b42e927f10bc03e871db87535ebc970604736c57e8757e39bce7", func := "triad/triadlaw17.PathChain", spec := "pathChain", inPlace := ["maps.clone"], unfollowed := true, recurses := true, plainKeys := false, apart := false, narrowed := true }
def PathChainUptoSaid : Prop := pathChainUptoRow.holds Try.pinned (OpenSpec.upto pathChainSpec)

end Rows
end Go.Proofs.Ytaeiikielelicaa
