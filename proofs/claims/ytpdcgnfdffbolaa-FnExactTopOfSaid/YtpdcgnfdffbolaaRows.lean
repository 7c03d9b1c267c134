/-
  No cell of these rows narrows 'for every input' (looked for: loops, veiled, ifaces, maps, wideKeys, modest, calm, conditions, laid).
  DERIVED. THE GIVEN ROWS OF THIS SEAT. 12 by the template 'for every input the law returns true; each argument reads behind the call as it read before'; 0 by the template 'total and deterministic' (their statements: YtpdcgnfdffbolaaTotals.lean).
  GIVEN WITH THE SEED: the statements are not yours to turn. If you find one false, say at which input.
  Laid BY PROGRAM, IN A SANDBOX (cutbox-rows.mjs): the forced cells as the released guide's own fill.sh prints them over the translation 8af3d2378a17257a… (all of the seat's roots in one cut). By AI agents, Wed Nov 11 2026. No macro, syntax, notation, axiom, sorry.
-/
import Derived.Test.YtpdcgnfdffbolaaChecked
import GoSem.Claim
import GoSem.ClaimJoined
import GoSem.ClaimMapViews
import Derived.JoinedTies
import Derived.KernelRfl
namespace Go.Proofs.Ytpdcgnfdffbolaa
/- THE CELL 'sum', in the pinned program and in every row, IS THE sha256 OF THE DUMP (.gsa) THAT YtpdcgnfdffbolaaProg.lean LOADS. Nothing in Lean hashes anything: it is a label: what it is worth is what the hold of that sum in a sandbox is worth. -/
noncomputable def Try.pinned : Pinned := { name := "ytpdcgnfdffbolaa", sum := "8af3d2378a17257a3dd8adc6c186c4e3d509831be1b873416e223903cb14beb4", checked := Try.checked }
namespace Rows
def none {H : Type} : Left H := { results := [], args := [] }

/-- 'laws.FnExactRealOf': WHATEVER THE INPUT: true; the input reads as it did. -/
def fnExactRealOfSpec : ChangeSpec := { name := "fnExactRealOf", fn := fun _ => fun
  | [d] => { results := [.lit (.bool true)], args := [d] }
  | _ => none }
def fnExactRealOfRow : OpenClaim := { program := "ytpdcgnfdffbolaa", sum := "8af3d2378a17257a3dd8adc6c186c4e3d509831be1b873416e223903cb14beb4", func := "loop.example/g00070/laws.FnExactRealOf", spec := "fnExactRealOf", unfollowed := true, recurses := true, plainKeys := false, apart := false }
def FnExactRealOfSaid : Prop := fnExactRealOfRow.holds Try.pinned (OpenSpec.ofChange fnExactRealOfSpec)

/-- ITS FALSE NEIGHBOUR: 'it returns false'. Refute it at one input. -/
def fnExactRealOfWrong : ChangeSpec := { name := "fnExactRealOf", fn := fun _ => fun
  | [d] => { results := [.lit (.bool false)], args := [d] }
  | _ => none }
def FnExactRealOfWrongFalsely : Prop := fnExactRealOfRow.holds Try.pinned (OpenSpec.ofChange fnExactRealOfWrong)

/-- 'laws.FnMeet': WHATEVER THE INPUT: true; the input reads as it did. -/
def fnMeetSpec : ChangeSpec := { name := "fnMeet", fn := fun _ => fun
  | [d] => { results := [.lit (.bool true)], args := [d] }
  | _ => none }
def fnMeetRow : OpenClaim := { program := "ytpdcgnfdffbolaa", sum := "8af3d2378a17257a3dd8adc6c186c4e3d509831be1b873416e223903cb14beb4", func := "loop.example/g00070/laws.FnMeet", spec := "fnMeet", unfollowed := true, recurses := true, plainKeys := false, apart := false }
def FnMeetSaid : Prop := fnMeetRow.holds Try.pinned (OpenSpec.ofChange fnMeetSpec)

/-- ITS FALSE NEIGHBOUR: 'it returns false'. Refute it at one input. -/
def fnMeetWrong : ChangeSpec := { name := "fnMeet", fn := fun _ => fun
  | [d] => { results := [.lit (.bool false)], args := [d] }
  | _ => none }
def FnMeetWrongFalsely : Prop := fnMeetRow.holds Try.pinned (OpenSpec.ofChange fnMeetWrong)

/-- 'laws.FnClashes': WHATEVER THE INPUT: true; the input reads as it did. -/
def fnClashesSpec : ChangeSpec := { name := "fnClashes", fn := fun _ => fun
  | [d] => { results := [.lit (.bool true)], args := [d] }
  | _ => none }
def fnClashesRow : OpenClaim := { program := "ytpdcgnfdffbolaa", sum := "8af3d2378a17257a3dd8adc6c186c4e3d509831be1b873416e223903cb14beb4", func := "loop.example/g00070/laws.FnClashes", spec := "fnClashes", recurses := true, plainKeys := false, apart := false }
def FnClashesSaid : Prop := fnClashesRow.holds Try.pinned (OpenSpec.ofChange fnClashesSpec)

/-- ITS FALSE NEIGHBOUR: 'it returns false'. Refute it at one input. -/
def fnClashesWrong : ChangeSpec := { name := "fnClashes", fn := fun _ => fun
  | [d] => { results := [.lit (.bool false)], args := [d] }
  | _ => none }
def FnClashesWrongFalsely : Prop := fnClashesRow.holds Try.pinned (OpenSpec.ofChange fnClashesWrong)

/-- 'laws.FnExactTopOf': WHATEVER THE INPUT: true; the input reads as it did. -/
def fnExactTopOfSpec : ChangeSpec := { name := "fnExactTopOf", fn := fun _ => fun
  | [d1, d2] => { results := [.lit (.bool true)], args := [d1, d2] }
  | _ => none }
def fnExactTopOfRow : OpenClaim := { program := "ytpdcgnfdffbolaa", sum := "8af3d2378a17257a3dd8adc6c186c4e3d509831be1b873416e223903cb14beb4", func := "loop.example/g00070/laws.FnExactTopOf", spec := "fnExactTopOf", unfollowed := true, recurses := true, plainKeys := false, apart := false }
def FnExactTopOfSaid : Prop := fnExactTopOfRow.holds Try.pinned (OpenSpec.ofChange fnExactTopOfSpec)

/-- ITS FALSE NEIGHBOUR: 'it returns false'. Refute it at one input. -/
def fnExactTopOfWrong : ChangeSpec := { name := "fnExactTopOf", fn := fun _ => fun
  | [d1, d2] => { results := [.lit (.bool false)], args := [d1, d2] }
  | _ => none }
def FnExactTopOfWrongFalsely : Prop := fnExactTopOfRow.holds Try.pinned (OpenSpec.ofChange fnExactTopOfWrong)

/-- 'laws.FnExactApart': WHATEVER THE INPUT: true; the input reads as it did. -/
def fnExactApartSpec : ChangeSpec := { name := "fnExactApart", fn := fun _ => fun
  | [d1, d2] => { results := [.lit (.bool true)], args := [d1, d2] }
  | _ => none }
def fnExactApartRow : OpenClaim := { program := "ytpdcgnfdffbolaa", sum := "8af3d2378a17257a3dd8adc6c186c4e3d509831be1b873416e223903cb14beb4", func := "loop.example/g00070/laws.FnExactApart", spec := "fnExactApart", recurses := true, plainKeys := false, apart := false }
def FnExactApartSaid : Prop := fnExactApartRow.holds Try.pinned (OpenSpec.ofChange fnExactApartSpec)

/-- ITS FALSE NEIGHBOUR: 'it returns false'. Refute it at one input. -/
def fnExactApartWrong : ChangeSpec := { name := "fnExactApart", fn := fun _ => fun
  | [d1, d2] => { results := [.lit (.bool false)], args := [d1, d2] }
  | _ => none }
def FnExactApartWrongFalsely : Prop := fnExactApartRow.holds Try.pinned (OpenSpec.ofChange fnExactApartWrong)

/-- 'laws.FnBinds': WHATEVER THE INPUT: true; the input reads as it did. -/
def fnBindsSpec : ChangeSpec := { name := "fnBinds", fn := fun _ => fun
  | [d] => { results := [.lit (.bool true)], args := [d] }
  | _ => none }
def fnBindsRow : OpenClaim := { program := "ytpdcgnfdffbolaa", sum := "8af3d2378a17257a3dd8adc6c186c4e3d509831be1b873416e223903cb14beb4", func := "loop.example/g00070/laws.FnBinds", spec := "fnBinds", unfollowed := true, recurses := true, plainKeys := false, apart := false }
def FnBindsSaid : Prop := fnBindsRow.holds Try.pinned (OpenSpec.ofChange fnBindsSpec)

/-- ITS FALSE NEIGHBOUR: 'it returns false'. Refute it at one input. -/
def fnBindsWrong : ChangeSpec := { name := "fnBinds", fn := fun _ => fun
  | [d] => { results := [.lit (.bool false)], args := [d] }
  | _ => none }
def FnBindsWrongFalsely : Prop := fnBindsRow.holds Try.pinned (OpenSpec.ofChange fnBindsWrong)

/-- 'laws.FnExactSizes': WHATEVER THE INPUT: true; the input reads as it did. -/
def fnExactSizesSpec : ChangeSpec := { name := "fnExactSizes", fn := fun _ => fun
  | [d] => { results := [.lit (.bool true)], args := [d] }
  | _ => none }
def fnExactSizesRow : OpenClaim := { program := "ytpdcgnfdffbolaa", sum := "8af3d2378a17257a3dd8adc6c186c4e3d509831be1b873416e223903cb14beb4", func := "loop.example/g00070/laws.FnExactSizes", spec := "fnExactSizes", unfollowed := true, recurses := true, plainKeys := false, apart := false }
def FnExactSizesSaid : Prop := fnExactSizesRow.holds Try.pinned (OpenSpec.ofChange fnExactSizesSpec)

/-- ITS FALSE NEIGHBOUR: 'it returns false'. Refute it at one input. -/
def fnExactSizesWrong : ChangeSpec := { name := "fnExactSizes", fn := fun _ => fun
  | [d] => { results := [.lit (.bool false)], args := [d] }
  | _ => none }
def FnExactSizesWrongFalsely : Prop := fnExactSizesRow.holds Try.pinned (OpenSpec.ofChange fnExactSizesWrong)

/-- 'laws.FnExactClashes': WHATEVER THE INPUT: true; the input reads as it did. -/
def fnExactClashesSpec : ChangeSpec := { name := "fnExactClashes", fn := fun _ => fun
  | [d1, d2] => { results := [.lit (.bool true)], args := [d1, d2] }
  | _ => none }
def fnExactClashesRow : OpenClaim := { program := "ytpdcgnfdffbolaa", sum := "8af3d2378a17257a3dd8adc6c186c4e3d509831be1b873416e223903cb14beb4", func := "loop.example/g00070/laws.FnExactClashes", spec := "fnExactClashes", recurses := true, plainKeys := false, apart := false }
def FnExactClashesSaid : Prop := fnExactClashesRow.holds Try.pinned (OpenSpec.ofChange fnExactClashesSpec)

/-- ITS FALSE NEIGHBOUR: 'it returns false'. Refute it at one input. -/
def fnExactClashesWrong : ChangeSpec := { name := "fnExactClashes", fn := fun _ => fun
  | [d1, d2] => { results := [.lit (.bool false)], args := [d1, d2] }
  | _ => none }
def FnExactClashesWrongFalsely : Prop := fnExactClashesRow.holds Try.pinned (OpenSpec.ofChange fnExactClashesWrong)

/-- 'laws.FnLexAgain': WHATEVER THE INPUT: true; the input reads as it did. -/
def fnLexAgainSpec : ChangeSpec := { name := "fnLexAgain", fn := fun _ => fun
  | [d] => { results := [.lit (.bool true)], args := [d] }
  | _ => none }
def fnLexAgainRow : OpenClaim := { program := "ytpdcgnfdffbolaa", sum := "8af3d2378a17257a3dd8adc6c186c4e3d509831be1b873416e223903cb14beb4", func := "loop.example/g00070/laws.FnLexAgain", spec := "fnLexAgain", unfollowed := true, recurses := true, plainKeys := false, apart := false }
def FnLexAgainSaid : Prop := fnLexAgainRow.holds Try.pinned (OpenSpec.ofChange fnLexAgainSpec)

/-- ITS FALSE NEIGHBOUR: 'it returns false'. Refute it at one input. -/
def fnLexAgainWrong : ChangeSpec := { name := "fnLexAgain", fn := fun _ => fun
  | [d] => { results := [.lit (.bool false)], args := [d] }
  | _ => none }
def FnLexAgainWrongFalsely : Prop := fnLexAgainRow.holds Try.pinned (OpenSpec.ofChange fnLexAgainWrong)

/-- 'laws.FnExactStrictly': WHATEVER THE INPUT: true; the input reads as it did. -/
def fnExactStrictlySpec : ChangeSpec := { name := "fnExactStrictly", fn := fun _ => fun
  | [d1, d2, d3] => { results := [.lit (.bool true)], args := [d1, d2, d3] }
  | _ => none }
def fnExactStrictlyRow : OpenClaim := { program := "ytpdcgnfdffbolaa", sum := "8af3d2378a17257a3dd8adc6c186c4e3d509831be1b873416e223903cb14beb4", func := "loop.example/g00070/laws.FnExactStrictly", spec := "fnExactStrictly", recurses := true, plainKeys := false, apart := false }
def FnExactStrictlySaid : Prop := fnExactStrictlyRow.holds Try.pinned (OpenSpec.ofChange fnExactStrictlySpec)

/-- ITS FALSE NEIGHBOUR: 'it returns false'. Refute it at one input. -/
def fnExactStrictlyWrong : ChangeSpec := { name := "fnExactStrictly", fn := fun _ => fun
  | [d1, d2, d3] => { results := [.lit (.bool false)], args := [d1, d2, d3] }
  | _ => none }
def FnExactStrictlyWrongFalsely : Prop := fnExactStrictlyRow.holds Try.pinned (OpenSpec.ofChange fnExactStrictlyWrong)

/-- 'laws.FnNoStuck': WHATEVER THE INPUT: true; the input reads as it did. -/
def fnNoStuckSpec : ChangeSpec := { name := "fnNoStuck", fn := fun _ => fun
  | [d] => { results := [.lit (.bool true)], args := [d] }
  | _ => none }
def fnNoStuckRow : OpenClaim := { program := "ytpdcgnfdffbolaa", sum := "8af3d2378a17257a3dd8adc6c186c4e3d509831be1b873416e223903cb14beb4", func := "loop.example/g00070/laws.FnNoStuck", spec := "fnNoStuck", unfollowed := true, recurses := true, plainKeys := false, apart := false }
def FnNoStuckSaid : Prop := fnNoStuckRow.holds Try.pinned (OpenSpec.ofChange fnNoStuckSpec)

/-- ITS FALSE NEIGHBOUR: 'it returns false'. Refute it at one input. -/
def fnNoStuckWrong : ChangeSpec := { name := "fnNoStuck", fn := fun _ => fun
  | [d] => { results := [.lit (.bool false)], args := [d] }
  | _ => none }
def FnNoStuckWrongFalsely : Prop := fnNoStuckRow.holds Try.pinned (OpenSpec.ofChange fnNoStuckWrong)

/-- 'laws.FnSizes': WHATEVER THE INPUT: true; the input reads as it did. -/
def fnSizesSpec : ChangeSpec := { name := "fnSizes", fn := fun _ => fun
  | [d] => { results := [.lit (.bool true)], args := [d] }
  | _ => none }
def fnSizesRow : OpenClaim := { program := "ytpdcgnfdffbolaa", sum := "8af3d2378a17257a3dd8adc6c186c4e3d509831be1b873416e223903cb14beb4", func := "loop.example/g00070/laws.FnSizes", spec := "fnSizes", unfollowed := true, recurses := true, plainKeys := false, apart := false }
def FnSizesSaid : Prop := fnSizesRow.holds Try.pinned (OpenSpec.ofChange fnSizesSpec)

/-- ITS FALSE NEIGHBOUR: 'it returns false'. Refute it at one input. -/
def fnSizesWrong : ChangeSpec := { name := "fnSizes", fn := fun _ => fun
  | [d] => { results := [.lit (.bool false)], args := [d] }
  | _ => none }
def FnSizesWrongFalsely : Prop := fnSizesRow.holds Try.pinned (OpenSpec.ofChange fnSizesWrong)

/- THE SECOND FORM. 'bulk': how many values and letters a reading holds, each counted each time it is reached (what is shared counts as often as it is met; a slice's spare places count too). A statement '..UptoSaid' is the law's where the arguments, and the package variables that the reading takes, are together of bulk at most 1048576: NARROWER than '..Said'. Prove '..Said' where nothing that the law and all that it calls make is longer than what came in: it says more and counts as full. Else prove '..UptoSaid'. A law counts once. -/
mutual
def uptoBulk {H : Type} : DataW H → Nat
  | .lit (.string bytes) => bytes.length + 1
  | .lit _ => 1
  | .nil => 1
  | .ptr d => uptoBulk d + 1
  | .slice elems spare => uptoBulkAll elems + uptoBulkAll spare + 1
  | .agg parts => uptoBulkAll parts + 1
  | .iface _ d => uptoBulk d + 1
  | .map entries => uptoBulkEntries entries + 1
  | .held _ => 1
def uptoBulkAll {H : Type} : List (DataW H) → Nat
  | [] => 0
  | d :: r => uptoBulk d + uptoBulkAll r
def uptoBulkEntries {H : Type} : List (Lit × DataW H) → Nat
  | [] => 0
  | x :: r => uptoBulkEntry x + uptoBulkEntries r
def uptoBulkEntry {H : Type} : Lit × DataW H → Nat
  | (.string bytes, d) => bytes.length + uptoBulk d + 1
  | (_, d) => uptoBulk d + 1
 end
def uptoSmall : (H : Type) → List (DataW H) → Bool := fun _ ds => decide (uptoBulkAll ds ≤ 1048576)
def OpenSpec.upto (s : _root_.Go.ChangeSpec) : _root_.Go.OpenSpec := { _root_.Go.OpenSpec.ofChange s with cond := some uptoSmall }

/-- 'laws.FnExactRealOf', WHERE WHAT IT READS IS OF BULK AT MOST 1048576: true; the input reads as it did. -/
def fnExactRealOfUptoRow : OpenClaim := { program := "ytpdcgnfdffbolaa", sum := "8af3d2378a17257a3dd8adc6c186c4e3d509831be1b873416e223903cb14beb4", func := "loop.example/g00070/laws.FnExactRealOf", spec := "fnExactRealOf", unfollowed := true, recurses := true, plainKeys := false, apart := false, narrowed := true }
def FnExactRealOfUptoSaid : Prop := fnExactRealOfUptoRow.holds Try.pinned (OpenSpec.upto fnExactRealOfSpec)

/-- 'laws.FnMeet', WHERE WHAT IT READS IS OF BULK AT MOST 1048576: true; the input reads as it did. -/
def fnMeetUptoRow : OpenClaim := { program := "ytpdcgnfdffbolaa", sum := "8af3d2378a17257a3dd8adc6c186c4e3d509831be1b873416e223903cb14beb4", func := "loop.example/g00070/laws.FnMeet", spec := "fnMeet", unfollowed := true, recurses := true, plainKeys := false, apart := false, narrowed := true }
def FnMeetUptoSaid : Prop := fnMeetUptoRow.holds Try.pinned (OpenSpec.upto fnMeetSpec)

/-- 'laws.FnClashes', WHERE WHAT IT READS IS OF BULK AT MOST 1048576: true; the input reads as it did. -/
def fnClashesUptoRow : OpenClaim := { program := "ytpdcgnfdffbolaa", sum := "8af3d2378a17257a3dd8adc6c186c4e3d509831be1b873416e223903cb14beb4", func := "loop.example/g00070/laws.FnClashes", spec := "fnClashes", recurses := true, plainKeys := false, apart := false, narrowed := true }
def FnClashesUptoSaid : Prop := fnClashesUptoRow.holds Try.pinned (OpenSpec.upto fnClashesSpec)

/-- 'laws.FnExactTopOf', WHERE WHAT IT READS IS OF BULK AT MOST 1048576: true; the input reads as it did. -/
def fnExactTopOfUptoRow : OpenClaim := { program := "ytpdcgnfdffbolaa", sum := "8af3d2378a17257a3dd8adc6c186c4e3d509831be1b873416e223903cb14beb4", func := "loop.example/g00070/laws.FnExactTopOf", spec := "fnExactTopOf", unfollowed := true, recurses := true, plainKeys := false, apart := false, narrowed := true }
def FnExactTopOfUptoSaid : Prop := fnExactTopOfUptoRow.holds Try.pinned (OpenSpec.upto fnExactTopOfSpec)

/-- 'laws.FnExactApart', WHERE WHAT IT READS IS OF BULK AT MOST 1048576: true; the input reads as it did. -/
def fnExactApartUptoRow : OpenClaim := { program := "ytpdcgnfdffbolaa", sum := "8af3d2378a17257a3dd8adc6c186c4e3d509831be1b873416e223903cb14beb4", func := "loop.example/g00070/laws.FnExactApart", spec := "fnExactApart", recurses := true, plainKeys := false, apart := false, narrowed := true }
def FnExactApartUptoSaid : Prop := fnExactApartUptoRow.holds Try.pinned (OpenSpec.upto fnExactApartSpec)

/-- 'laws.FnBinds', WHERE WHAT IT READS IS OF BULK AT MOST 1048576: true; the input reads as it did. -/
def fnBindsUptoRow : OpenClaim := { program := "ytpdcgnfdffbolaa", sum := "8af3d2378a17257a3dd8adc6c186c4e3d509831be1b873416e223903cb14beb4", func := "loop.example/g00070/laws.FnBinds", spec := "fnBinds", unfollowed := true, recurses := true, plainKeys := false, apart := false, narrowed := true }
def FnBindsUptoSaid : Prop := fnBindsUptoRow.holds Try.pinned (OpenSpec.upto fnBindsSpec)

/-- 'laws.FnExactSizes', WHERE WHAT IT READS IS OF BULK AT MOST 1048576: true; the input reads as it did. -/
def fnExactSizesUptoRow : OpenClaim := { program := "ytpdcgnfdffbolaa", sum := "8af3d2378a17257a3dd8adc6c186c4e3d509831be1b873416e223903cb14beb4", func := "loop.example/g00070/laws.FnExactSizes", spec := "fnExactSizes", unfollowed := true, recurses := true, plainKeys := false, apart := false, narrowed := true }
def FnExactSizesUptoSaid : Prop := fnExactSizesUptoRow.holds Try.pinned (OpenSpec.upto fnExactSizesSpec)

/-- 'laws.FnExactClashes', WHERE WHAT IT READS IS OF BULK AT MOST 1048576: true; the input reads as it did. -/
def fnExactClashesUptoRow : OpenClaim := { program := "ytpdcgnfdffbolaa", sum := "8af3d2378a17257a3dd8adc6c186c4e3d509831be1b873416e223903cb14beb4", func := "loop.example/g00070/laws.FnExactClashes", spec := "fnExactClashes", recurses := true, plainKeys := false, apart := false, narrowed := true }
def FnExactClashesUptoSaid : Prop := fnExactClashesUptoRow.holds Try.pinned (OpenSpec.upto fnExactClashesSpec)

/-- 'laws.FnLexAgain', WHERE WHAT IT READS IS OF BULK AT MOST 1048576: true; the input reads as it did. -/
def fnLexAgainUptoRow : OpenClaim := { program := "ytpdcgnfdffbolaa", sum := "8af3d2378a17257a3dd8adc6c186c4e3d509831be1b873416e223903cb14beb4", func := "loop.example/g00070/laws.FnLexAgain", spec := "fnLexAgain", unfollowed := true, recurses := true, plainKeys := false, apart := false, narrowed := true }
def FnLexAgainUptoSaid : Prop := fnLexAgainUptoRow.holds Try.pinned (OpenSpec.upto fnLexAgainSpec)

/-- 'laws.FnExactStrictly', WHERE WHAT IT READS IS OF BULK AT MOST 1048576: true; the input reads as it did. -/
def fnExactStrictlyUptoRow : OpenClaim := { program := "ytpdcgnfdffbolaa", sum := "8af3d2378a17257a3dd8adc6c186c4e3d509831be1b873416e223903cb14beb4", func := "loop.example/g00070/laws.FnExactStrictly", spec := "fnExactStrictly", recurses := true, plainKeys := false, apart := false, narrowed := true }
def FnExactStrictlyUptoSaid : Prop := fnExactStrictlyUptoRow.holds Try.pinned (OpenSpec.upto fnExactStrictlySpec)

/-- 'laws.FnNoStuck', WHERE WHAT IT READS IS OF BULK AT MOST 1048576: true; the input reads as it did. -/
def fnNoStuckUptoRow : OpenClaim := { program := "ytpdcgnfdffbolaa", sum := "8af3d2378a17257a3dd8adc6c186c4e3d509831be1b873416e223903cb14beb4", func := "loop.example/g00070/laws.FnNoStuck", spec := "fnNoStuck", unfollowed := true, recurses := true, plainKeys := false, apart := false, narrowed := true }
def FnNoStuckUptoSaid : Prop := fnNoStuckUptoRow.holds Try.pinned (OpenSpec.upto fnNoStuckSpec)

/-- 'laws.FnSizes', WHERE WHAT IT READS IS OF BULK AT MOST 1048576: true; the input reads as it did. -/
def fnSizesUptoRow : OpenClaim := { program := "ytpdcgnfdffbolaa", sum := "8af3d2378a17257a3dd8adc6c186c4e3d509831be1b873416e223903cb14beb4", func := "loop.example/g00070/laws.FnSizes", spec := "fnSizes", unfollowed := true, recurses := true, plainKeys := false, apart := false, narrowed := true }
def FnSizesUptoSaid : Prop := fnSizesUptoRow.holds Try.pinned (OpenSpec.upto fnSizesSpec)

end Rows
end Go.Proofs.Ytpdcgnfdffbolaa
