/-
  No cell of these rows narrows 'for every input' (looked for: loops, veiled, ifaces, maps, wideKeys, modest, calm, conditions, laid).
  DERIVED. THE GIVEN ROWS OF THIS SEAT. 12 by the template 'for every input the law returns true; each argument reads behind the call as it read before'; 0 by the template 'total and deterministic' (their statements: YtapbpfbhghheeaaTotals.lean).
  GIVEN WITH THE SEED: the statements are not yours to turn. If you find one false, say at which input.
  Laid BY PROGRAM, IN A SANDBOX (cutbox-rows.mjs): the forced cells as the released guide's own fill.sh prints them over the translation 9a0bbbcf1e8e37d2… (all of the seat's roots in one cut). By AI agents, Wed Nov 11 2026. No macro, syntax, notation, axiom, sorry.
-/
import Derived.Test.YtapbpfbhghheeaaChecked
import GoSem.Claim
import GoSem.ClaimJoined
import GoSem.ClaimMapViews
import Derived.JoinedTies
import Derived.KernelRfl
namespace Go.Proofs.Ytapbpfbhghheeaa
/- THE CELL 'sum', in the pinned program and in every row, IS THE sha256 OF THE DUMP (.gsa) THAT YtapbpfbhghheeaaProg.lean LOADS. Nothing in Lean hashes anything: it is a label: what it is worth is what the hold of that sum in a sandbox is worth. -/
noncomputable def Try.pinned : Pinned := { name := "ytapbpfbhghheeaa", sum := "9a0bbbcf1e8e37d2bba94a0238348edbbbc6b4c2760859b3197d3b94dfffd745", checked := Try.checked }
namespace Rows
def none {H : Type} : Left H := { results := [], args := [] }

/-- 'laws.FnExactGraphOk': WHATEVER THE INPUT: true; the input reads as it did. -/
def fnExactGraphOkSpec : ChangeSpec := { name := "fnExactGraphOk", fn := fun _ => fun
  | [d1, d2] => { results := [.lit (.bool true)], args := [d1, d2] }
  | _ => none }
def fnExactGraphOkRow : OpenClaim := { program := "ytapbpfbhghheeaa", sum := "9a0bbbcf1e8e37d2bba94a0238348edbbbc6b4c2760859b3197d3b94dfffd745", func := "loop.example/g00070/laws.FnExactGraphOk", spec := "fnExactGraphOk", plainKeys := false, apart := false }
def FnExactGraphOkSaid : Prop := fnExactGraphOkRow.holds Try.pinned (OpenSpec.ofChange fnExactGraphOkSpec)

/-- ITS FALSE NEIGHBOUR: 'it returns false'. Refute it at one input. -/
def fnExactGraphOkWrong : ChangeSpec := { name := "fnExactGraphOk", fn := fun _ => fun
  | [d1, d2] => { results := [.lit (.bool false)], args := [d1, d2] }
  | _ => none }
def FnExactGraphOkWrongFalsely : Prop := fnExactGraphOkRow.holds Try.pinned (OpenSpec.ofChange fnExactGraphOkWrong)

/-- 'laws.FnExactRealOf': WHATEVER THE INPUT: true; the input reads as it did. -/
def fnExactRealOfSpec : ChangeSpec := { name := "fnExactRealOf", fn := fun _ => fun
  | [d] => { results := [.lit (.bool true)], args := [d] }
  | _ => none }
def fnExactRealOfRow : OpenClaim := { program := "ytapbpfbhghheeaa", sum := "9a0bbbcf1e8e37d2bba94a0238348edbbbc6b4c2760859b3197d3b94dfffd745", func := "loop.example/g00070/laws.FnExactRealOf", spec := "fnExactRealOf", unfollowed := true, recurses := true, plainKeys := false, apart := false }
def FnExactRealOfSaid : Prop := fnExactRealOfRow.holds Try.pinned (OpenSpec.ofChange fnExactRealOfSpec)

/-- ITS FALSE NEIGHBOUR: 'it returns false'. Refute it at one input. -/
def fnExactRealOfWrong : ChangeSpec := { name := "fnExactRealOf", fn := fun _ => fun
  | [d] => { results := [.lit (.bool false)], args := [d] }
  | _ => none }
def FnExactRealOfWrongFalsely : Prop := fnExactRealOfRow.holds Try.pinned (OpenSpec.ofChange fnExactRealOfWrong)

/-- 'laws.FnExactAhead': WHATEVER THE INPUT: true; the input reads as it did. -/
def fnExactAheadSpec : ChangeSpec := { name := "fnExactAhead", fn := fun _ => fun
  | [d1, d2, d3, d4] => { results := [.lit (.bool true)], args := [d1, d2, d3, d4] }
  | _ => none }
def fnExactAheadRow : OpenClaim := { program := "ytapbpfbhghheeaa", sum := "9a0bbbcf1e8e37d2bba94a0238348edbbbc6b4c2760859b3197d3b94dfffd745", func := "loop.example/g00070/laws.FnExactAhead", spec := "fnExactAhead", plainKeys := false, apart := false }
def FnExactAheadSaid : Prop := fnExactAheadRow.holds Try.pinned (OpenSpec.ofChange fnExactAheadSpec)

/-- ITS FALSE NEIGHBOUR: 'it returns false'. Refute it at one input. -/
def fnExactAheadWrong : ChangeSpec := { name := "fnExactAhead", fn := fun _ => fun
  | [d1, d2, d3, d4] => { results := [.lit (.bool false)], args := [d1, d2, d3, d4] }
  | _ => none }
def FnExactAheadWrongFalsely : Prop := fnExactAheadRow.holds Try.pinned (OpenSpec.ofChange fnExactAheadWrong)

/-- 'laws.FnExactLinearOk': WHATEVER THE INPUT: true; the input reads as it did. -/
def fnExactLinearOkSpec : ChangeSpec := { name := "fnExactLinearOk", fn := fun _ => fun
  | [d1, d2, d3] => { results := [.lit (.bool true)], args := [d1, d2, d3] }
  | _ => none }
def fnExactLinearOkRow : OpenClaim := { program := "ytapbpfbhghheeaa", sum := "9a0bbbcf1e8e37d2bba94a0238348edbbbc6b4c2760859b3197d3b94dfffd745", func := "loop.example/g00070/laws.FnExactLinearOk", spec := "fnExactLinearOk", plainKeys := false, apart := false }
def FnExactLinearOkSaid : Prop := fnExactLinearOkRow.holds Try.pinned (OpenSpec.ofChange fnExactLinearOkSpec)

/-- ITS FALSE NEIGHBOUR: 'it returns false'. Refute it at one input. -/
def fnExactLinearOkWrong : ChangeSpec := { name := "fnExactLinearOk", fn := fun _ => fun
  | [d1, d2, d3] => { results := [.lit (.bool false)], args := [d1, d2, d3] }
  | _ => none }
def FnExactLinearOkWrongFalsely : Prop := fnExactLinearOkRow.holds Try.pinned (OpenSpec.ofChange fnExactLinearOkWrong)

/-- 'laws.FnExactLinears': WHATEVER THE INPUT: true; the input reads as it did. -/
def fnExactLinearsSpec : ChangeSpec := { name := "fnExactLinears", fn := fun _ => fun
  | [d1, d2] => { results := [.lit (.bool true)], args := [d1, d2] }
  | _ => none }
def fnExactLinearsRow : OpenClaim := { program := "ytapbpfbhghheeaa", sum := "9a0bbbcf1e8e37d2bba94a0238348edbbbc6b4c2760859b3197d3b94dfffd745", func := "loop.example/g00070/laws.FnExactLinears", spec := "fnExactLinears", recurses := true, plainKeys := false, apart := false }
def FnExactLinearsSaid : Prop := fnExactLinearsRow.holds Try.pinned (OpenSpec.ofChange fnExactLinearsSpec)

/-- ITS FALSE NEIGHBOUR: 'it returns false'. Refute it at one input. -/
def fnExactLinearsWrong : ChangeSpec := { name := "fnExactLinears", fn := fun _ => fun
  | [d1, d2] => { results := [.lit (.bool false)], args := [d1, d2] }
  | _ => none }
def FnExactLinearsWrongFalsely : Prop := fnExactLinearsRow.holds Try.pinned (OpenSpec.ofChange fnExactLinearsWrong)

/-- 'laws.FnExactCanon': WHATEVER THE INPUT: true; the input reads as it did. -/
def fnExactCanonSpec : ChangeSpec := { name := "fnExactCanon", fn := fun _ => fun
  | [d1, d2] => { results := [.lit (.bool true)], args := [d1, d2] }
  | _ => none }
def fnExactCanonRow : OpenClaim := { program := "ytapbpfbhghheeaa", sum := "9a0bbbcf1e8e37d2bba94a0238348edbbbc6b4c2760859b3197d3b94dfffd745", func := "loop.example/g00070/laws.FnExactCanon", spec := "fnExactCanon", plainKeys := false, apart := false }
def FnExactCanonSaid : Prop := fnExactCanonRow.holds Try.pinned (OpenSpec.ofChange fnExactCanonSpec)

/-- ITS FALSE NEIGHBOUR: 'it returns false'. Refute it at one input. -/
def fnExactCanonWrong : ChangeSpec := { name := "fnExactCanon", fn := fun _ => fun
  | [d1, d2] => { results := [.lit (.bool false)], args := [d1, d2] }
  | _ => none }
def FnExactCanonWrongFalsely : Prop := fnExactCanonRow.holds Try.pinned (OpenSpec.ofChange fnExactCanonWrong)

/-- 'laws.FnMeet': WHATEVER THE INPUT: true; the input reads as it did. -/
def fnMeetSpec : ChangeSpec := { name := "fnMeet", fn := fun _ => fun
  | [d] => { results := [.lit (.bool true)], args := [d] }
  | _ => none }
def fnMeetRow : OpenClaim := { program := "ytapbpfbhghheeaa", sum := "9a0bbbcf1e8e37d2bba94a0238348edbbbc6b4c2760859b3197d3b94dfffd745", func := "loop.example/g00070/laws.FnMeet", spec := "fnMeet", unfollowed := true, recurses := true, plainKeys := false, apart := false }
def FnMeetSaid : Prop := fnMeetRow.holds Try.pinned (OpenSpec.ofChange fnMeetSpec)

/-- ITS FALSE NEIGHBOUR: 'it returns false'. Refute it at one input. -/
def fnMeetWrong : ChangeSpec := { name := "fnMeet", fn := fun _ => fun
  | [d] => { results := [.lit (.bool false)], args := [d] }
  | _ => none }
def FnMeetWrongFalsely : Prop := fnMeetRow.holds Try.pinned (OpenSpec.ofChange fnMeetWrong)

/-- 'laws.FnCircle': WHATEVER THE INPUT: true; the input reads as it did. -/
def fnCircleSpec : ChangeSpec := { name := "fnCircle", fn := fun _ => fun
  | [d] => { results := [.lit (.bool true)], args := [d] }
  | _ => none }
def fnCircleRow : OpenClaim := { program := "ytapbpfbhghheeaa", sum := "9a0bbbcf1e8e37d2bba94a0238348edbbbc6b4c2760859b3197d3b94dfffd745", func := "loop.example/g00070/laws.FnCircle", spec := "fnCircle", plainKeys := false, apart := false }
def FnCircleSaid : Prop := fnCircleRow.holds Try.pinned (OpenSpec.ofChange fnCircleSpec)

/-- ITS FALSE NEIGHBOUR: 'it returns false'. Refute it at one input. -/
def fnCircleWrong : ChangeSpec := { name := "fnCircle", fn := fun _ => fun
  | [d] => { results := [.lit (.bool false)], args := [d] }
  | _ => none }
def FnCircleWrongFalsely : Prop := fnCircleRow.holds Try.pinned (OpenSpec.ofChange fnCircleWrong)

/-- 'laws.FnExactCircle': WHATEVER THE INPUT: true; the input reads as it did. -/
def fnExactCircleSpec : ChangeSpec := { name := "fnExactCircle", fn := fun _ => fun
  | [d1, d2] => { results := [.lit (.bool true)], args := [d1, d2] }
  | _ => none }
def fnExactCircleRow : OpenClaim := { program := "ytapbpfbhghheeaa", sum := "9a0bbbcf1e8e37d2bba94a0238348edbbbc6b4c2760859b3197d3b94dfffd745", func := "loop.example/g00070/laws.FnExactCircle", spec := "fnExactCircle", plainKeys := false, apart := false }
def FnExactCircleSaid : Prop := fnExactCircleRow.holds Try.pinned (OpenSpec.ofChange fnExactCircleSpec)

/-- ITS FALSE NEIGHBOUR: 'it returns false'. Refute it at one input. -/
def fnExactCircleWrong : ChangeSpec := { name := "fnExactCircle", fn := fun _ => fun
  | [d1, d2] => { results := [.lit (.bool false)], args := [d1, d2] }
  | _ => none }
def FnExactCircleWrongFalsely : Prop := fnExactCircleRow.holds Try.pinned (OpenSpec.ofChange fnExactCircleWrong)

/-- 'laws.FnExactLinear': WHATEVER THE INPUT: true; the input reads as it did. -/
def fnExactLinearSpec : ChangeSpec := { name := "fnExactLinear", fn := fun _ => fun
  | [d1, d2, d3] => { results := [.lit (.bool true)], args := [d1, d2, d3] }
  | _ => none }
def fnExactLinearRow : OpenClaim := { program := "ytapbpfbhghheeaa", sum := "9a0bbbcf1e8e37d2bba94a0238348edbbbc6b4c2760859b3197d3b94dfffd745", func := "loop.example/g00070/laws.FnExactLinear", spec := "fnExactLinear", recurses := true, plainKeys := false, apart := false }
def FnExactLinearSaid : Prop := fnExactLinearRow.holds Try.pinned (OpenSpec.ofChange fnExactLinearSpec)

/-- ITS FALSE NEIGHBOUR: 'it returns false'. Refute it at one input. -/
def fnExactLinearWrong : ChangeSpec := { name := "fnExactLinear", fn := fun _ => fun
  | [d1, d2, d3] => { results := [.lit (.bool false)], args := [d1, d2, d3] }
  | _ => none }
def FnExactLinearWrongFalsely : Prop := fnExactLinearRow.holds Try.pinned (OpenSpec.ofChange fnExactLinearWrong)

/-- 'laws.FnLinears': WHATEVER THE INPUT: true; the input reads as it did. -/
def fnLinearsSpec : ChangeSpec := { name := "fnLinears", fn := fun _ => fun
  | [d] => { results := [.lit (.bool true)], args := [d] }
  | _ => none }
def fnLinearsRow : OpenClaim := { program := "ytapbpfbhghheeaa", sum := "9a0bbbcf1e8e37d2bba94a0238348edbbbc6b4c2760859b3197d3b94dfffd745", func := "loop.example/g00070/laws.FnLinears", spec := "fnLinears", recurses := true, plainKeys := false, apart := false }
def FnLinearsSaid : Prop := fnLinearsRow.holds Try.pinned (OpenSpec.ofChange fnLinearsSpec)

/-- ITS FALSE NEIGHBOUR: 'it returns false'. Refute it at one input. -/
def fnLinearsWrong : ChangeSpec := { name := "fnLinears", fn := fun _ => fun
  | [d] => { results := [.lit (.bool false)], args := [d] }
  | _ => none }
def FnLinearsWrongFalsely : Prop := fnLinearsRow.holds Try.pinned (OpenSpec.ofChange fnLinearsWrong)

/-- 'laws.FnExactStages': WHATEVER THE INPUT: true; the input reads as it did. -/
def fnExactStagesSpec : ChangeSpec := { name := "fnExactStages", fn := fun _ => fun
  | [d] => { results := [.lit (.bool true)], args := [d] }
  | _ => none }
def fnExactStagesRow : OpenClaim := { program := "ytapbpfbhghheeaa", sum := "9a0bbbcf1e8e37d2bba94a0238348edbbbc6b4c2760859b3197d3b94dfffd745", func := "loop.example/g00070/laws.FnExactStages", spec := "fnExactStages", plainKeys := false, apart := false }
def FnExactStagesSaid : Prop := fnExactStagesRow.holds Try.pinned (OpenSpec.ofChange fnExactStagesSpec)

/-- ITS FALSE NEIGHBOUR: 'it returns false'. Refute it at one input. -/
def fnExactStagesWrong : ChangeSpec := { name := "fnExactStages", fn := fun _ => fun
  | [d] => { results := [.lit (.bool false)], args := [d] }
  | _ => none }
def FnExactStagesWrongFalsely : Prop := fnExactStagesRow.holds Try.pinned (OpenSpec.ofChange fnExactStagesWrong)

/- THE SECOND FORM. 'bulk': how many values and letters a reading holds, each counted each time it is reached (what is shared counts as often as it is met; a slice's spare places count too). A statement '..UptoSaid' is the law's where the arguments, and the package variables that the reading takes, are together of bulk at most 1048576: NARROWER than '..Said'. Prove '..Said' where nothing that the law and all that it calls make is longer than what came in: it says more and counts as full. Else prove '..UptoSaid'. A law counts once. -/
mutual
def uptoBulk {H : Type} : DataW H → Nat
  | .lit (.string bytes) => bytes.length + 1
  | .lit _ => 1
  | .nil => 1
  | .ptr d => uptoBulk d + 1
  | .slice elems spare => uptoBulkAll elems + uptoBulkAll spare + 1
  | .agg parts => uptoBulkAll parts + 1
  | .iface _ d => uptoBulk d + 1
  | .map entries => uptoBulkEntries entries + 1
  | .held _ => 1
def uptoBulkAll {H : Type} : List (DataW H) → Nat
  | [] => 0
  | d :: r => uptoBulk d + uptoBulkAll r
def uptoBulkEntries {H : Type} : List (Lit × DataW H) → Nat
  | [] => 0
  | x :: r => uptoBulkEntry x + uptoBulkEntries r
def uptoBulkEntry {H : Type} : Lit × DataW H → Nat
  | (.string bytes, d) => bytes.length + uptoBulk d + 1
  | (_, d) => uptoBulk d + 1
 end
def uptoSmall : (H : Type) → List (DataW H) → Bool := fun _ ds => decide (uptoBulkAll ds ≤ 1048576)
def OpenSpec.upto (s : _root_.Go.ChangeSpec) : _root_.Go.OpenSpec := { _root_.Go.OpenSpec.ofChange s with cond := some uptoSmall }

/-- 'laws.FnExactGraphOk', WHERE WHAT IT READS IS OF BULK AT MOST 1048576: true; the input reads as it did. -/
def fnExactGraphOkUptoRow : OpenClaim := { program := "ytapbpfbhghheeaa", sum := "9a0bbbcf1e8e37d2bba94a0238348edbbbc6b4c2760859b3197d3b94dfffd745", func := "loop.example/g00070/laws.FnExactGraphOk", spec := "fnExactGraphOk", plainKeys := false, apart := false, narrowed := true }
def FnExactGraphOkUptoSaid : Prop := fnExactGraphOkUptoRow.holds Try.pinned (OpenSpec.upto fnExactGraphOkSpec)

/-- 'laws.FnExactRealOf', WHERE WHAT IT READS IS OF BULK AT MOST 1048576: true; the input reads as it did. -/
def fnExactRealOfUptoRow : OpenClaim := { program := "ytapbpfbhghheeaa", sum := "9a0bbbcf1e8e37d2bba94a0238348edbbbc6b4c2760859b3197d3b94dfffd745", func := "loop.example/g00070/laws.FnExactRealOf", spec := "fnExactRealOf", unfollowed := true, recurses := true, plainKeys := false, apart := false, narrowed := true }
def FnExactRealOfUptoSaid : Prop := fnExactRealOfUptoRow.holds Try.pinned (OpenSpec.upto fnExactRealOfSpec)

/-- 'laws.FnExactAhead', WHERE WHAT IT READS IS OF BULK AT MOST 1048576: true; the input reads as it did. -/
def fnExactAheadUptoRow : OpenClaim := { program := "ytapbpfbhghheeaa", sum := "9a0bbbcf1e8e37d2bba94a0238348edbbbc6b4c2760859b3197d3b94dfffd745", func := "loop.example/g00070/laws.FnExactAhead", spec := "fnExactAhead", plainKeys := false, apart := false, narrowed := true }
def FnExactAheadUptoSaid : Prop := fnExactAheadUptoRow.holds Try.pinned (OpenSpec.upto fnExactAheadSpec)

/-- 'laws.FnExactLinearOk', WHERE WHAT IT READS IS OF BULK AT MOST 1048576: true; the input reads as it did. -/
def fnExactLinearOkUptoRow : OpenClaim := { program := "ytapbpfbhghheeaa", sum := "9a0bbbcf1e8e37d2bba94a0238348edbbbc6b4c2760859b3197d3b94dfffd745", func := "loop.example/g00070/laws.FnExactLinearOk", spec := "fnExactLinearOk", plainKeys := false, apart := false, narrowed := true }
def FnExactLinearOkUptoSaid : Prop := fnExactLinearOkUptoRow.holds Try.pinned (OpenSpec.upto fnExactLinearOkSpec)

/-- 'laws.FnExactLinears', WHERE WHAT IT READS IS OF BULK AT MOST 1048576: true; the input reads as it did. -/
def fnExactLinearsUptoRow : OpenClaim := { program := "ytapbpfbhghheeaa", sum := "9a0bbbcf1e8e37d2bba94a0238348edbbbc6b4c2760859b3197d3b94dfffd745", func := "loop.example/g00070/laws.FnExactLinears", spec := "fnExactLinears", recurses := true, plainKeys := false, apart := false, narrowed := true }
def FnExactLinearsUptoSaid : Prop := fnExactLinearsUptoRow.holds Try.pinned (OpenSpec.upto fnExactLinearsSpec)

/-- 'laws.FnExactCanon', WHERE WHAT IT READS IS OF BULK AT MOST 1048576: true; the input reads as it did. -/
def fnExactCanonUptoRow : OpenClaim := { program := "ytapbpfbhghheeaa", sum := "9a0bbbcf1e8e37d2bba94a0238348edbbbc6b4c2760859b3197d3b94dfffd745", func := "loop.example/g00070/laws.FnExactCanon", spec := "fnExactCanon", plainKeys := false, apart := false, narrowed := true }
def FnExactCanonUptoSaid : Prop := fnExactCanonUptoRow.holds Try.pinned (OpenSpec.upto fnExactCanonSpec)

/-- 'laws.FnMeet', WHERE WHAT IT READS IS OF BULK AT MOST 1048576: true; the input reads as it did. -/
def fnMeetUptoRow : OpenClaim := { program := "ytapbpfbhghheeaa", sum := "9a0bbbcf1e8e37d2bba94a0238348edbbbc6b4c2760859b3197d3b94dfffd745", func := "loop.example/g00070/laws.FnMeet", spec := "fnMeet", unfollowed := true, recurses := true, plainKeys := false, apart := false, narrowed := true }
def FnMeetUptoSaid : Prop := fnMeetUptoRow.holds Try.pinned (OpenSpec.upto fnMeetSpec)

/-- 'laws.FnCircle', WHERE WHAT IT READS IS OF BULK AT MOST 1048576: true; the input reads as it did. -/
def fnCircleUptoRow : OpenClaim := { program := "ytapbpfbhghheeaa", sum := "9a0bbbcf1e8e37d2bba94a0238348edbbbc6b4c2760859b3197d3b94dfffd745", func := "loop.example/g00070/laws.FnCircle", spec := "fnCircle", plainKeys := false, apart := false, narrowed := true }
def FnCircleUptoSaid : Prop := fnCircleUptoRow.holds Try.pinned (OpenSpec.upto fnCircleSpec)

/-- 'laws.FnExactCircle', WHERE WHAT IT READS IS OF BULK AT MOST 1048576: true; the input reads as it did. -/
def fnExactCircleUptoRow : OpenClaim := { program := "ytapbpfbhghheeaa", sum := "9a0bbbcf1e8e37d2bba94a0238348edbbbc6b4c2760859b3197d3b94dfffd745", func := "loop.example/g00070/laws.FnExactCircle", spec := "fnExactCircle", plainKeys := false, apart := false, narrowed := true }
def FnExactCircleUptoSaid : Prop := fnExactCircleUptoRow.holds Try.pinned (OpenSpec.upto fnExactCircleSpec)

/-- 'laws.FnExactLinear', WHERE WHAT IT READS IS OF BULK AT MOST 1048576: true; the input reads as it did. -/
def fnExactLinearUptoRow : OpenClaim := { program := "ytapbpfbhghheeaa", sum := "9a0bbbcf1e8e37d2bba94a0238348edbbbc6b4c2760859b3197d3b94dfffd745", func := "loop.example/g00070/laws.FnExactLinear", spec := "fnExactLinear", recurses := true, plainKeys := false, apart := false, narrowed := true }
def FnExactLinearUptoSaid : Prop := fnExactLinearUptoRow.holds Try.pinned (OpenSpec.upto fnExactLinearSpec)

/-- 'laws.FnLinears', WHERE WHAT IT READS IS OF BULK AT MOST 1048576: true; the input reads as it did. -/
def fnLinearsUptoRow : OpenClaim := { program := "ytapbpfbhghheeaa", sum := "9a0bbbcf1e8e37d2bba94a0238348edbbbc6b4c2760859b3197d3b94dfffd745", func := "loop.example/g00070/laws.FnLinears", spec := "fnLinears", recurses := true, plainKeys := false, apart := false, narrowed := true }
def FnLinearsUptoSaid : Prop := fnLinearsUptoRow.holds Try.pinned (OpenSpec.upto fnLinearsSpec)

/-- 'laws.FnExactStages', WHERE WHAT IT READS IS OF BULK AT MOST 1048576: true; the input reads as it did. -/
def fnExactStagesUptoRow : OpenClaim := { program := "ytapbpfbhghheeaa", sum := "9a0bbbcf1e8e37d2bba94a0238348edbbbc6b4c2760859b3197d3b94dfffd745", func := "loop.example/g00070/laws.FnExactStages", spec := "fnExactStages", plainKeys := false, apart := false, narrowed := true }
def FnExactStagesUptoSaid : Prop := fnExactStagesUptoRow.holds Try.pinned (OpenSpec.upto fnExactStagesSpec)

end Rows
end Go.Proofs.Ytapbpfbhghheeaa
