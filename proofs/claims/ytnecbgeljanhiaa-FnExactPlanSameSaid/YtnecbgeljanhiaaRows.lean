/-
  No cell of these rows narrows 'for every input' (looked for: loops, veiled, ifaces, maps, wideKeys, modest, calm, conditions, laid).
  DERIVED. THE GIVEN ROWS OF THIS SEAT. 12 by the template 'for every input the law returns true; each argument reads behind the call as it read before'; 0 by the template 'total and deterministic' (their statements: YtnecbgeljanhiaaTotals.lean).
  GIVEN WITH THE SEED: the statements are not yours to turn. If you find one false, say at which input.
  Laid BY PROGRAM, IN A SANDBOX (cutbox-rows.mjs): the forced cells as the released guide's own fill.sh prints them over the translation 16f51e4b2d41a044… (all of the seat's roots in one cut). By AI agents, Wed Nov 11 2026. No macro, syntax, notation, axiom, sorry.
-/
import Derived.Test.YtnecbgeljanhiaaChecked
import GoSem.Claim
import GoSem.ClaimJoined
import GoSem.ClaimMapViews
import Derived.JoinedTies
import Derived.KernelRfl
namespace Go.Proofs.Ytnecbgeljanhiaa
/- THE CELL 'sum', in the pinned program and in every row, IS THE sha256 OF THE DUMP (.gsa) THAT YtnecbgeljanhiaaProg.lean LOADS. Nothing in Lean hashes anything: it is a label: what it is worth is what the hold of that sum in a sandbox is worth. -/
noncomputable def Try.pinned : Pinned := { name := "ytnecbgeljanhiaa", sum := "16f51e4b2d41a04456ce0d82d53cc161f8fbf80359c2008a26cc70cfa782aa69", checked := Try.checked }
namespace Rows
def none {H : Type} : Left H := { results := [], args := [] }

/-- 'laws.FnExactReduced': WHATEVER THE INPUT: true; the input reads as it did. -/
def fnExactReducedSpec : ChangeSpec := { name := "fnExactReduced", fn := fun _ => fun
  | [d1, d2] => { results := [.lit (.bool true)], args := [d1, d2] }
  | _ => none }
def fnExactReducedRow : OpenClaim := { program := "ytnecbgeljanhiaa", sum := "16f51e4b2d41a04456ce0d82d53cc161f8fbf80359c2008a26cc70cfa782aa69", func := "loop.example/g00070/laws.FnExactReduced", spec := "fnExactReduced", plainKeys := false, apart := false }
def FnExactReducedSaid : Prop := fnExactReducedRow.holds Try.pinned (OpenSpec.ofChange fnExactReducedSpec)

/-- ITS FALSE NEIGHBOUR: 'it returns false'. Refute it at one input. -/
def fnExactReducedWrong : ChangeSpec := { name := "fnExactReduced", fn := fun _ => fun
  | [d1, d2] => { results := [.lit (.bool false)], args := [d1, d2] }
  | _ => none }
def FnExactReducedWrongFalsely : Prop := fnExactReducedRow.holds Try.pinned (OpenSpec.ofChange fnExactReducedWrong)

/-- 'laws.FnExactPoolMoves': WHATEVER THE INPUT: true; the input reads as it did. -/
def fnExactPoolMovesSpec : ChangeSpec := { name := "fnExactPoolMoves", fn := fun _ => fun
  | [d1, d2, d3, d4] => { results := [.lit (.bool true)], args := [d1, d2, d3, d4] }
  | _ => none }
def fnExactPoolMovesRow : OpenClaim := { program := "ytnecbgeljanhiaa", sum := "16f51e4b2d41a04456ce0d82d53cc161f8fbf80359c2008a26cc70cfa782aa69", func := "loop.example/g00070/laws.FnExactPoolMoves", spec := "fnExactPoolMoves", unfollowed := true, recurses := true, plainKeys := false, apart := false }
def FnExactPoolMovesSaid : Prop := fnExactPoolMovesRow.holds Try.pinned (OpenSpec.ofChange fnExactPoolMovesSpec)

/-- ITS FALSE NEIGHBOUR: 'it returns false'. Refute it at one input. -/
def fnExactPoolMovesWrong : ChangeSpec := { name := "fnExactPoolMoves", fn := fun _ => fun
  | [d1, d2, d3, d4] => { results := [.lit (.bool false)], args := [d1, d2, d3, d4] }
  | _ => none }
def FnExactPoolMovesWrongFalsely : Prop := fnExactPoolMovesRow.holds Try.pinned (OpenSpec.ofChange fnExactPoolMovesWrong)

/-- 'laws.FnMoves': WHATEVER THE INPUT: true; the input reads as it did. -/
def fnMovesSpec : ChangeSpec := { name := "fnMoves", fn := fun _ => fun
  | [d] => { results := [.lit (.bool true)], args := [d] }
  | _ => none }
def fnMovesRow : OpenClaim := { program := "ytnecbgeljanhiaa", sum := "16f51e4b2d41a04456ce0d82d53cc161f8fbf80359c2008a26cc70cfa782aa69", func := "loop.example/g00070/laws.FnMoves", spec := "fnMoves", unfollowed := true, recurses := true, plainKeys := false, apart := false }
def FnMovesSaid : Prop := fnMovesRow.holds Try.pinned (OpenSpec.ofChange fnMovesSpec)

/-- ITS FALSE NEIGHBOUR: 'it returns false'. Refute it at one input. -/
def fnMovesWrong : ChangeSpec := { name := "fnMoves", fn := fun _ => fun
  | [d] => { results := [.lit (.bool false)], args := [d] }
  | _ => none }
def FnMovesWrongFalsely : Prop := fnMovesRow.holds Try.pinned (OpenSpec.ofChange fnMovesWrong)

/-- 'laws.FnExactMeet': WHATEVER THE INPUT: true; the input reads as it did. -/
def fnExactMeetSpec : ChangeSpec := { name := "fnExactMeet", fn := fun _ => fun
  | [d1, d2, d3, d4, d5] => { results := [.lit (.bool true)], args := [d1, d2, d3, d4, d5] }
  | _ => none }
def fnExactMeetRow : OpenClaim := { program := "ytnecbgeljanhiaa", sum := "16f51e4b2d41a04456ce0d82d53cc161f8fbf80359c2008a26cc70cfa782aa69", func := "loop.example/g00070/laws.FnExactMeet", spec := "fnExactMeet", unfollowed := true, recurses := true, plainKeys := false, apart := false }
def FnExactMeetSaid : Prop := fnExactMeetRow.holds Try.pinned (OpenSpec.ofChange fnExactMeetSpec)

/-- ITS FALSE NEIGHBOUR: 'it returns false'. Refute it at one input. -/
def fnExactMeetWrong : ChangeSpec := { name := "fnExactMeet", fn := fun _ => fun
  | [d1, d2, d3, d4, d5] => { results := [.lit (.bool false)], args := [d1, d2, d3, d4, d5] }
  | _ => none }
def FnExactMeetWrongFalsely : Prop := fnExactMeetRow.holds Try.pinned (OpenSpec.ofChange fnExactMeetWrong)

/-- 'laws.FnCanonFirst': WHATEVER THE INPUT: true; the input reads as it did. -/
def fnCanonFirstSpec : ChangeSpec := { name := "fnCanonFirst", fn := fun _ => fun
  | [d] => { results := [.lit (.bool true)], args := [d] }
  | _ => none }
def fnCanonFirstRow : OpenClaim := { program := "ytnecbgeljanhiaa", sum := "16f51e4b2d41a04456ce0d82d53cc161f8fbf80359c2008a26cc70cfa782aa69", func := "loop.example/g00070/laws.FnCanonFirst", spec := "fnCanonFirst", recurses := true, plainKeys := false, apart := false }
def FnCanonFirstSaid : Prop := fnCanonFirstRow.holds Try.pinned (OpenSpec.ofChange fnCanonFirstSpec)

/-- ITS FALSE NEIGHBOUR: 'it returns false'. Refute it at one input. -/
def fnCanonFirstWrong : ChangeSpec := { name := "fnCanonFirst", fn := fun _ => fun
  | [d] => { results := [.lit (.bool false)], args := [d] }
  | _ => none }
def FnCanonFirstWrongFalsely : Prop := fnCanonFirstRow.holds Try.pinned (OpenSpec.ofChange fnCanonFirstWrong)

/-- 'laws.FnExactPoolRun': WHATEVER THE INPUT: true; the input reads as it did. -/
def fnExactPoolRunSpec : ChangeSpec := { name := "fnExactPoolRun", fn := fun _ => fun
  | [d1, d2, d3, d4] => { results := [.lit (.bool true)], args := [d1, d2, d3, d4] }
  | _ => none }
def fnExactPoolRunRow : OpenClaim := { program := "ytnecbgeljanhiaa", sum := "16f51e4b2d41a04456ce0d82d53cc161f8fbf80359c2008a26cc70cfa782aa69", func := "loop.example/g00070/laws.FnExactPoolRun", spec := "fnExactPoolRun", unfollowed := true, recurses := true, plainKeys := false, apart := false }
def FnExactPoolRunSaid : Prop := fnExactPoolRunRow.holds Try.pinned (OpenSpec.ofChange fnExactPoolRunSpec)

/-- ITS FALSE NEIGHBOUR: 'it returns false'. Refute it at one input. -/
def fnExactPoolRunWrong : ChangeSpec := { name := "fnExactPoolRun", fn := fun _ => fun
  | [d1, d2, d3, d4] => { results := [.lit (.bool false)], args := [d1, d2, d3, d4] }
  | _ => none }
def FnExactPoolRunWrongFalsely : Prop := fnExactPoolRunRow.holds Try.pinned (OpenSpec.ofChange fnExactPoolRunWrong)

/-- 'laws.FnReduced': WHATEVER THE INPUT: true; the input reads as it did. -/
def fnReducedSpec : ChangeSpec := { name := "fnReduced", fn := fun _ => fun
  | [d] => { results := [.lit (.bool true)], args := [d] }
  | _ => none }
def fnReducedRow : OpenClaim := { program := "ytnecbgeljanhiaa", sum := "16f51e4b2d41a04456ce0d82d53cc161f8fbf80359c2008a26cc70cfa782aa69", func := "loop.example/g00070/laws.FnReduced", spec := "fnReduced", recurses := true, plainKeys := false, apart := false }
def FnReducedSaid : Prop := fnReducedRow.holds Try.pinned (OpenSpec.ofChange fnReducedSpec)

/-- ITS FALSE NEIGHBOUR: 'it returns false'. Refute it at one input. -/
def fnReducedWrong : ChangeSpec := { name := "fnReduced", fn := fun _ => fun
  | [d] => { results := [.lit (.bool false)], args := [d] }
  | _ => none }
def FnReducedWrongFalsely : Prop := fnReducedRow.holds Try.pinned (OpenSpec.ofChange fnReducedWrong)

/-- 'laws.FnExactPlanSame': WHATEVER THE INPUT: true; the input reads as it did. -/
def fnExactPlanSameSpec : ChangeSpec := { name := "fnExactPlanSame", fn := fun _ => fun
  | [d1, d2] => { results := [.lit (.bool true)], args := [d1, d2] }
  | _ => none }
def fnExactPlanSameRow : OpenClaim := { program := "ytnecbgeljanhiaa", sum := "16f51e4b2d41a04456ce0d82d53cc161f8fbf80359c2008a26cc70cfa782aa69", func := "loop.example/g00070/laws.FnExactPlanSame", spec := "fnExactPlanSame", unfollowed := true, recurses := true, plainKeys := false, apart := false }
def FnExactPlanSameSaid : Prop := fnExactPlanSameRow.holds Try.pinned (OpenSpec.ofChange fnExactPlanSameSpec)

/-- ITS FALSE NEIGHBOUR: 'it returns false'. Refute it at one input. -/
def fnExactPlanSameWrong : ChangeSpec := { name := "fnExactPlanSame", fn := fun _ => fun
  | [d1, d2] => { results := [.lit (.bool false)], args := [d1, d2] }
  | _ => none }
def FnExactPlanSameWrongFalsely : Prop := fnExactPlanSameRow.holds Try.pinned (OpenSpec.ofChange fnExactPlanSameWrong)

/-- 'laws.FnExactLex': WHATEVER THE INPUT: true; the input reads as it did. -/
def fnExactLexSpec : ChangeSpec := { name := "fnExactLex", fn := fun _ => fun
  | [d] => { results := [.lit (.bool true)], args := [d] }
  | _ => none }
def fnExactLexRow : OpenClaim := { program := "ytnecbgeljanhiaa", sum := "16f51e4b2d41a04456ce0d82d53cc161f8fbf80359c2008a26cc70cfa782aa69", func := "loop.example/g00070/laws.FnExactLex", spec := "fnExactLex", unfollowed := true, recurses := true, plainKeys := false, apart := false }
def FnExactLexSaid : Prop := fnExactLexRow.holds Try.pinned (OpenSpec.ofChange fnExactLexSpec)

/-- ITS FALSE NEIGHBOUR: 'it returns false'. Refute it at one input. -/
def fnExactLexWrong : ChangeSpec := { name := "fnExactLex", fn := fun _ => fun
  | [d] => { results := [.lit (.bool false)], args := [d] }
  | _ => none }
def FnExactLexWrongFalsely : Prop := fnExactLexRow.holds Try.pinned (OpenSpec.ofChange fnExactLexWrong)

/-- 'laws.FnExactWidest': WHATEVER THE INPUT: true; the input reads as it did. -/
def fnExactWidestSpec : ChangeSpec := { name := "fnExactWidest", fn := fun _ => fun
  | [d] => { results := [.lit (.bool true)], args := [d] }
  | _ => none }
def fnExactWidestRow : OpenClaim := { program := "ytnecbgeljanhiaa", sum := "16f51e4b2d41a04456ce0d82d53cc161f8fbf80359c2008a26cc70cfa782aa69", func := "loop.example/g00070/laws.FnExactWidest", spec := "fnExactWidest", unfollowed := true, recurses := true, plainKeys := false, apart := false }
def FnExactWidestSaid : Prop := fnExactWidestRow.holds Try.pinned (OpenSpec.ofChange fnExactWidestSpec)

/-- ITS FALSE NEIGHBOUR: 'it returns false'. Refute it at one input. -/
def fnExactWidestWrong : ChangeSpec := { name := "fnExactWidest", fn := fun _ => fun
  | [d] => { results := [.lit (.bool false)], args := [d] }
  | _ => none }
def FnExactWidestWrongFalsely : Prop := fnExactWidestRow.holds Try.pinned (OpenSpec.ofChange fnExactWidestWrong)

/-- 'laws.FnExactRunning': WHATEVER THE INPUT: true; the input reads as it did. -/
def fnExactRunningSpec : ChangeSpec := { name := "fnExactRunning", fn := fun _ => fun
  | [d] => { results := [.lit (.bool true)], args := [d] }
  | _ => none }
def fnExactRunningRow : OpenClaim := { program := "ytnecbgeljanhiaa", sum := "16f51e4b2d41a04456ce0d82d53cc161f8fbf80359c2008a26cc70cfa782aa69", func := "loop.example/g00070/laws.FnExactRunning", spec := "fnExactRunning", unfollowed := true, recurses := true, plainKeys := false, apart := false }
def FnExactRunningSaid : Prop := fnExactRunningRow.holds Try.pinned (OpenSpec.ofChange fnExactRunningSpec)

/-- ITS FALSE NEIGHBOUR: 'it returns false'. Refute it at one input. -/
def fnExactRunningWrong : ChangeSpec := { name := "fnExactRunning", fn := fun _ => fun
  | [d] => { results := [.lit (.bool false)], args := [d] }
  | _ => none }
def FnExactRunningWrongFalsely : Prop := fnExactRunningRow.holds Try.pinned (OpenSpec.ofChange fnExactRunningWrong)

/-- 'laws.FnExactTreeOk': WHATEVER THE INPUT: true; the input reads as it did. -/
def fnExactTreeOkSpec : ChangeSpec := { name := "fnExactTreeOk", fn := fun _ => fun
  | [d] => { results := [.lit (.bool true)], args := [d] }
  | _ => none }
def fnExactTreeOkRow : OpenClaim := { program := "ytnecbgeljanhiaa", sum := "16f51e4b2d41a04456ce0d82d53cc161f8fbf80359c2008a26cc70cfa782aa69", func := "loop.example/g00070/laws.FnExactTreeOk", spec := "fnExactTreeOk", unfollowed := true, recurses := true, plainKeys := false, apart := false }
def FnExactTreeOkSaid : Prop := fnExactTreeOkRow.holds Try.pinned (OpenSpec.ofChange fnExactTreeOkSpec)

/-- ITS FALSE NEIGHBOUR: 'it returns false'. Refute it at one input. -/
def fnExactTreeOkWrong : ChangeSpec := { name := "fnExactTreeOk", fn := fun _ => fun
  | [d] => { results := [.lit (.bool false)], args := [d] }
  | _ => none }
def FnExactTreeOkWrongFalsely : Prop := fnExactTreeOkRow.holds Try.pinned (OpenSpec.ofChange fnExactTreeOkWrong)

/- THE SECOND FORM. 'bulk': how many values and letters a reading holds, each counted each time it is reached (what is shared counts as often as it is met; a slice's spare places count too). A statement '..UptoSaid' is the law's where the arguments, and the package variables that the reading takes, are together of bulk at most 1048576: NARROWER than '..Said'. Prove '..Said' where nothing that the law and all that it calls make is longer than what came in: it says more and counts as full. Else prove '..UptoSaid'. A law counts once. -/
mutual
def uptoBulk {H : Type} : DataW H → Nat
  | .lit (.string bytes) => bytes.length + 1
  | .lit _ => 1
  | .nil => 1
  | .ptr d => uptoBulk d + 1
  | .slice elems spare => uptoBulkAll elems + uptoBulkAll spare + 1
  | .agg parts => uptoBulkAll parts + 1
  | .iface _ d => uptoBulk d + 1
  | .map entries => uptoBulkEntries entries + 1
  | .held _ => 1
def uptoBulkAll {H : Type} : List (DataW H) → Nat
  | [] => 0
  | d :: r => uptoBulk d + uptoBulkAll r
def uptoBulkEntries {H : Type} : List (Lit × DataW H) → Nat
  | [] => 0
  | x :: r => uptoBulkEntry x + uptoBulkEntries r
def uptoBulkEntry {H : Type} : Lit × DataW H → Nat
  | (.string bytes, d) => bytes.length + uptoBulk d + 1
  | (_, d) => uptoBulk d + 1
 end
def uptoSmall : (H : Type) → List (DataW H) → Bool := fun _ ds => decide (uptoBulkAll ds ≤ 1048576)
def OpenSpec.upto (s : _root_.Go.ChangeSpec) : _root_.Go.OpenSpec := { _root_.Go.OpenSpec.ofChange s with cond := some uptoSmall }

/-- 'laws.FnExactReduced', WHERE WHAT IT READS IS OF BULK AT MOST 1048576: true; the input reads as it did. -/
def fnExactReducedUptoRow : OpenClaim := { program := "ytnecbgeljanhiaa", sum := "16f51e4b2d41a04456ce0d82d53cc161f8fbf80359c2008a26cc70cfa782aa69", func := "loop.example/g00070/laws.FnExactReduced", spec := "fnExactReduced", plainKeys := false, apart := false, narrowed := true }
def FnExactReducedUptoSaid : Prop := fnExactReducedUptoRow.holds Try.pinned (OpenSpec.upto fnExactReducedSpec)

/-- 'laws.FnExactPoolMoves', WHERE WHAT IT READS IS OF BULK AT MOST 1048576: true; the input reads as it did. -/
def fnExactPoolMovesUptoRow : OpenClaim := { program := "ytnecbgeljanhiaa", sum := "16f51e4b2d41a04456ce0d82d53cc161f8fbf80359c2008a26cc70cfa782aa69", func := "loop.example/g00070/laws.FnExactPoolMoves", spec := "fnExactPoolMoves", unfollowed := true, recurses := true, plainKeys := false, apart := false, narrowed := true }
def FnExactPoolMovesUptoSaid : Prop := fnExactPoolMovesUptoRow.holds Try.pinned (OpenSpec.upto fnExactPoolMovesSpec)

/-- 'laws.FnMoves', WHERE WHAT IT READS IS OF BULK AT MOST 1048576: true; the input reads as it did. -/
def fnMovesUptoRow : OpenClaim := { program := "ytnecbgeljanhiaa", sum := "16f51e4b2d41a04456ce0d82d53cc161f8fbf80359c2008a26cc70cfa782aa69", func := "loop.example/g00070/laws.FnMoves", spec := "fnMoves", unfollowed := true, recurses := true, plainKeys := false, apart := false, narrowed := true }
def FnMovesUptoSaid : Prop := fnMovesUptoRow.holds Try.pinned (OpenSpec.upto fnMovesSpec)

/-- 'laws.FnExactMeet', WHERE WHAT IT READS IS OF BULK AT MOST 1048576: true; the input reads as it did. -/
def fnExactMeetUptoRow : OpenClaim := { program := "ytnecbgeljanhiaa", sum := "16f51e4b2d41a04456ce0d82d53cc161f8fbf80359c2008a26cc70cfa782aa69", func := "loop.example/g00070/laws.FnExactMeet", spec := "fnExactMeet", unfollowed := true, recurses := true, plainKeys := false, apart := false, narrowed := true }
def FnExactMeetUptoSaid : Prop := fnExactMeetUptoRow.holds Try.pinned (OpenSpec.upto fnExactMeetSpec)

/-- 'laws.FnCanonFirst', WHERE WHAT IT READS IS OF BULK AT MOST 1048576: true; the input reads as it did. -/
def fnCanonFirstUptoRow : OpenClaim := { program := "ytnecbgeljanhiaa", sum := "16f51e4b2d41a04456ce0d82d53cc161f8fbf80359c2008a26cc70cfa782aa69", func := "loop.example/g00070/laws.FnCanonFirst", spec := "fnCanonFirst", recurses := true, plainKeys := false, apart := false, narrowed := true }
def FnCanonFirstUptoSaid : Prop := fnCanonFirstUptoRow.holds Try.pinned (OpenSpec.upto fnCanonFirstSpec)

/-- 'laws.FnExactPoolRun', WHERE WHAT IT READS IS OF BULK AT MOST 1048576: true; the input reads as it did. -/
def fnExactPoolRunUptoRow : OpenClaim := { program := "ytnecbgeljanhiaa", sum := "16f51e4b2d41a04456ce0d82d53cc161f8fbf80359c2008a26cc70cfa782aa69", func := "loop.example/g00070/laws.FnExactPoolRun", spec := "fnExactPoolRun", unfollowed := true, recurses := true, plainKeys := false, apart := false, narrowed := true }
def FnExactPoolRunUptoSaid : Prop := fnExactPoolRunUptoRow.holds Try.pinned (OpenSpec.upto fnExactPoolRunSpec)

/-- 'laws.FnReduced', WHERE WHAT IT READS IS OF BULK AT MOST 1048576: true; the input reads as it did. -/
def fnReducedUptoRow : OpenClaim := { program := "ytnecbgeljanhiaa", sum := "16f51e4b2d41a04456ce0d82d53cc161f8fbf80359c2008a26cc70cfa782aa69", func := "loop.example/g00070/laws.FnReduced", spec := "fnReduced", recurses := true, plainKeys := false, apart := false, narrowed := true }
def FnReducedUptoSaid : Prop := fnReducedUptoRow.holds Try.pinned (OpenSpec.upto fnReducedSpec)

/-- 'laws.FnExactPlanSame', WHERE WHAT IT READS IS OF BULK AT MOST 1048576: true; the input reads as it did. -/
def fnExactPlanSameUptoRow : OpenClaim := { program := "ytnecbgeljanhiaa", sum := "16f51e4b2d41a04456ce0d82d53cc161f8fbf80359c2008a26cc70cfa782aa69", func := "loop.example/g00070/laws.FnExactPlanSame", spec := "fnExactPlanSame", unfollowed := true, recurses := true, plainKeys := false, apart := false, narrowed := true }
def FnExactPlanSameUptoSaid : Prop := fnExactPlanSameUptoRow.holds Try.pinned (OpenSpec.upto fnExactPlanSameSpec)

/-- 'laws.FnExactLex', WHERE WHAT IT READS IS OF BULK AT MOST 1048576: true; the input reads as it did. -/
def fnExactLexUptoRow : OpenClaim := { program := "ytnecbgeljanhiaa", sum := "16f51e4b2d41a04456ce0d82d53cc161f8fbf80359c2008a26cc70cfa782aa69", func := "loop.example/g00070/laws.FnExactLex", spec := "fnExactLex", unfollowed := true, recurses := true, plainKeys := false, apart := false, narrowed := true }
def FnExactLexUptoSaid : Prop := fnExactLexUptoRow.holds Try.pinned (OpenSpec.upto fnExactLexSpec)

/-- 'laws.FnExactWidest', WHERE WHAT IT READS IS OF BULK AT MOST 1048576: true; the input reads as it did. -/
def fnExactWidestUptoRow : OpenClaim := { program := "ytnecbgeljanhiaa", sum := "16f51e4b2d41a04456ce0d82d53cc161f8fbf80359c2008a26cc70cfa782aa69", func := "loop.example/g00070/laws.FnExactWidest", spec := "fnExactWidest", unfollowed := true, recurses := true, plainKeys := false, apart := false, narrowed := true }
def FnExactWidestUptoSaid : Prop := fnExactWidestUptoRow.holds Try.pinned (OpenSpec.upto fnExactWidestSpec)

/-- 'laws.FnExactRunning', WHERE WHAT IT READS IS OF BULK AT MOST 1048576: true; the input reads as it did. -/
def fnExactRunningUptoRow : OpenClaim := { program := "ytnecbgeljanhiaa", sum := "16f51e4b2d41a04456ce0d82d53cc161f8fbf80359c2008a26cc70cfa782aa69", func := "loop.example/g00070/laws.FnExactRunning", spec := "fnExactRunning", unfollowed := true, recurses := true, plainKeys := false, apart := false, narrowed := true }
def FnExactRunningUptoSaid : Prop := fnExactRunningUptoRow.holds Try.pinned (OpenSpec.upto fnExactRunningSpec)

/-- 'laws.FnExactTreeOk', WHERE WHAT IT READS IS OF BULK AT MOST 1048576: true; the input reads as it did. -/
def fnExactTreeOkUptoRow : OpenClaim := { program := "ytnecbgeljanhiaa", sum := "16f51e4b2d41a04456ce0d82d53cc161f8fbf80359c2008a26cc70cfa782aa69", func := "loop.example/g00070/laws.FnExactTreeOk", spec := "fnExactTreeOk", unfollowed := true, recurses := true, plainKeys := false, apart := false, narrowed := true }
def FnExactTreeOkUptoSaid : Prop := fnExactTreeOkUptoRow.holds Try.pinned (OpenSpec.upto fnExactTreeOkSpec)

end Rows
end Go.Proofs.Ytnecbgeljanhiaa
