/-
  No cell of these rows narrows 'for every input' (looked for: loops, veiled, ifaces, maps, wideKeys, modest, calm, conditions, laid).
  DERIVED. THE GIVEN ROWS OF THIS SEAT. 9 by the template 'for every input the law returns true; each argument reads behind the call as it read before'; 0 by the template 'total and deterministic' (their statements: YtpndenfhglaikaaTotals.lean).
  GIVEN WITH THE SEED: the statements are not yours to turn. If you find one false, say at which input.
  Laid BY PROGRAM, IN A SANDBOX (cutbox-rows.mjs): the forced cells as the released guide's own fill.sh prints them over the translation 53773f4ca8da34d2… (all of the seat's roots in one cut). By AI agents, Wed Nov 11 2026. No macro, syntax, notation, axiom, sorry.
-/
import Derived.Test.YtpndenfhglaikaaChecked
import GoSem.Claim
import GoSem.ClaimJoined
import GoSem.ClaimMapViews
import Derived.JoinedTies
import Derived.KernelRfl
namespace Go.Proofs.Ytpndenfhglaikaa
/- THE CELL 'sum', in the pinned program and in every row, IS THE sha256 OF THE DUMP (.gsa) THAT YtpndenfhglaikaaProg.lean LOADS. Nothing in Lean hashes anything: it is a label: what it is worth is what the hold of that sum in a sandbox is worth. -/
noncomputable def Try.pinned : Pinned := { name := "ytpndenfhglaikaa", sum := "53773f4ca8da34d278edf77180fb103fc0d95c9d8a0266c01bdd138cf9deabd3", checked := Try.checked }
namespace Rows
def none {H : Type} : Left H := { results := [], args := [] }

/-- 'switchgearlaw03.GuardHolds': WHATEVER THE INPUT: true; the input reads as it did. -/
def guardHoldsSpec : ChangeSpec := { name := "guardHolds", fn := fun _ => fun
  | [d1, d2, d3] => { results := [.lit (.bool true)], args := [d1, d2, d3] }
  | _ => none }
def guardHoldsRow : OpenClaim := { program := "ytpndenfhglaikaa", sum := "53773f4ca8da34d278edf77180fb103fc0d95c9d8a0266c01bdd138cf9deabd3", func := "switchgear/switchgearlaw03.GuardHolds", spec := "guardHolds", unfollowed := true, recurses := true, plainKeys := false, apart := false }
def GuardHoldsSaid : Prop := guardHoldsRow.holds Try.pinned (OpenSpec.ofChange guardHoldsSpec)

/-- ITS FALSE NEIGHBOUR: 'it returns false'. Refute it at one input. -/
def guardHoldsWrong : ChangeSpec := { name := "guardHolds", fn := fun _ => fun
  | [d1, d2, d3] => { results := [.lit (.bool false)], args := [d1, d2, d3] }
  | _ => none }
def GuardHoldsWrongFalsely : Prop := guardHoldsRow.holds Try.pinned (OpenSpec.ofChange guardHoldsWrong)

/-- 'switchgearlaw03.GuardOpens': WHATEVER THE INPUT: true; the input reads as it did. -/
def guardOpensSpec : ChangeSpec := { name := "guardOpens", fn := fun _ => fun
  | [d1, d2, d3] => { results := [.lit (.bool true)], args := [d1, d2, d3] }
  | _ => none }
def guardOpensRow : OpenClaim := { program := "ytpndenfhglaikaa", sum := "53773f4ca8da34d278edf77180fb103fc0d95c9d8a0266c01bdd138cf9deabd3", func := "switchgear/switchgearlaw03.GuardOpens", spec := "guardOpens", unfollowed := true, recurses := true, plainKeys := false, apart := false }
def GuardOpensSaid : Prop := guardOpensRow.holds Try.pinned (OpenSpec.ofChange guardOpensSpec)

/-- ITS FALSE NEIGHBOUR: 'it returns false'. Refute it at one input. -/
def guardOpensWrong : ChangeSpec := { name := "guardOpens", fn := fun _ => fun
  | [d1, d2, d3] => { results := [.lit (.bool false)], args := [d1, d2, d3] }
  | _ => none }
def GuardOpensWrongFalsely : Prop := guardOpensRow.holds Try.pinned (OpenSpec.ofChange guardOpensWrong)

/-- 'switchgearlaw03.GuardSurveys': WHATEVER THE INPUT: true; the input reads as it did. -/
def guardSurveysSpec : ChangeSpec := { name := "guardSurveys", fn := fun _ => fun
  | [d1, d2, d3, d4] => { results := [.lit (.bool true)], args := [d1, d2, d3, d4] }
  | _ => none }
def guardSurveysRow : OpenClaim := { program := "ytpndenfhglaikaa", sum := "53773f4ca8da34d278edf77180fb103fc0d95c9d8a0266c01bdd138cf9deabd3", func := "switchgear/switchgearlaw03.GuardSurveys", spec := "guardSurveys", unfollowed := true, recurses := true, plainKeys := false, apart := false }
def GuardSurveysSaid : Prop := guardSurveysRow.holds Try.pinned (OpenSpec.ofChange guardSurveysSpec)

/-- ITS FALSE NEIGHBOUR: 'it returns false'. Refute it at one input. -/
def guardSurveysWrong : ChangeSpec := { name := "guardSurveys", fn := fun _ => fun
  | [d1, d2, d3, d4] => { results := [.lit (.bool false)], args := [d1, d2, d3, d4] }
  | _ => none }
def GuardSurveysWrongFalsely : Prop := guardSurveysRow.holds Try.pinned (OpenSpec.ofChange guardSurveysWrong)

/-- 'switchgearlaw02.FlowServes': WHATEVER THE INPUT: true; the input reads as it did. -/
def flowServesSpec : ChangeSpec := { name := "flowServes", fn := fun _ => fun
  | [d1, d2] => { results := [.lit (.bool true)], args := [d1, d2] }
  | _ => none }
def flowServesRow : OpenClaim := { program := "ytpndenfhglaikaa", sum := "53773f4ca8da34d278edf77180fb103fc0d95c9d8a0266c01bdd138cf9deabd3", func := "switchgear/switchgearlaw02.FlowServes", spec := "flowServes", unfollowed := true, recurses := true, plainKeys := false, apart := false }
def FlowServesSaid : Prop := flowServesRow.holds Try.pinned (OpenSpec.ofChange flowServesSpec)

/-- ITS FALSE NEIGHBOUR: 'it returns false'. Refute it at one input. -/
def flowServesWrong : ChangeSpec := { name := "flowServes", fn := fun _ => fun
  | [d1, d2] => { results := [.lit (.bool false)], args := [d1, d2] }
  | _ => none }
def FlowServesWrongFalsely : Prop := flowServesRow.holds Try.pinned (OpenSpec.ofChange flowServesWrong)

/-- 'switchgearlaw02.FlowChecks': WHATEVER THE INPUT: true; the input reads as it did. -/
def flowChecksSpec : ChangeSpec := { name := "flowChecks", fn := fun _ => fun
  | [d1, d2, d3, d4] => { results := [.lit (.bool true)], args := [d1, d2, d3, d4] }
  | _ => none }
def flowChecksRow : OpenClaim := { program := "ytpndenfhglaikaa", sum := "53773f4ca8da34d278edf77180fb103fc0d95c9d8a0266c01bdd138cf9deabd3", func := "switchgear/switchgearlaw02.FlowChecks", spec := "flowChecks", unfollowed := true, recurses := true, plainKeys := false, apart := false }
def FlowChecksSaid : Prop := flowChecksRow.holds Try.pinned (OpenSpec.ofChange flowChecksSpec)

/-- ITS FALSE NEIGHBOUR: 'it returns false'. Refute it at one input. -/
def flowChecksWrong : ChangeSpec := { name := "flowChecks", fn := fun _ => fun
  | [d1, d2, d3, d4] => { results := [.lit (.bool false)], args := [d1, d2, d3, d4] }
  | _ => none }
def FlowChecksWrongFalsely : Prop := flowChecksRow.holds Try.pinned (OpenSpec.ofChange flowChecksWrong)

/-- 'switchgearlaw02.FlowShorts': WHATEVER THE INPUT: true; the input reads as it did. -/
def flowShortsSpec : ChangeSpec := { name := "flowShorts", fn := fun _ => fun
  | [d1, d2, d3, d4] => { results := [.lit (.bool true)], args := [d1, d2, d3, d4] }
  | _ => none }
def flowShortsRow : OpenClaim := { program := "ytpndenfhglaikaa", sum := "53773f4ca8da34d278edf77180fb103fc0d95c9d8a0266c01bdd138cf9deabd3", func := "switchgear/switchgearlaw02.FlowShorts", spec := "flowShorts", unfollowed := true, recurses := true, plainKeys := false, apart := false }
def FlowShortsSaid : Prop := flowShortsRow.holds Try.pinned (OpenSpec.ofChange flowShortsSpec)

/-- ITS FALSE NEIGHBOUR: 'it returns false'. Refute it at one input. -/
def flowShortsWrong : ChangeSpec := { name := "flowShorts", fn := fun _ => fun
  | [d1, d2, d3, d4] => { results := [.lit (.bool false)], args := [d1, d2, d3, d4] }
  | _ => none }
def FlowShortsWrongFalsely : Prop := flowShortsRow.holds Try.pinned (OpenSpec.ofChange flowShortsWrong)

/-- 'switchgearlaw02.FlowProves': WHATEVER THE INPUT: true; the input reads as it did. -/
def flowProvesSpec : ChangeSpec := { name := "flowProves", fn := fun _ => fun
  | [d1, d2, d3] => { results := [.lit (.bool true)], args := [d1, d2, d3] }
  | _ => none }
def flowProvesRow : OpenClaim := { program := "ytpndenfhglaikaa", sum := "53773f4ca8da34d278edf77180fb103fc0d95c9d8a0266c01bdd138cf9deabd3", func := "switchgear/switchgearlaw02.FlowProves", spec := "flowProves", unfollowed := true, recurses := true, plainKeys := false, apart := false }
def FlowProvesSaid : Prop := flowProvesRow.holds Try.pinned (OpenSpec.ofChange flowProvesSpec)

/-- ITS FALSE NEIGHBOUR: 'it returns false'. Refute it at one input. -/
def flowProvesWrong : ChangeSpec := { name := "flowProves", fn := fun _ => fun
  | [d1, d2, d3] => { results := [.lit (.bool false)], args := [d1, d2, d3] }
  | _ => none }
def FlowProvesWrongFalsely : Prop := flowProvesRow.holds Try.pinned (OpenSpec.ofChange flowProvesWrong)

/-- 'switchgearlaw02.FlowGrows': WHATEVER THE INPUT: true; the input reads as it did. -/
def flowGrowsSpec : ChangeSpec := { name := "flowGrows", fn := fun _ => fun
  | [d1, d2, d3, d4, d5] => { results := [.lit (.bool true)], args := [d1, d2, d3, d4, d5] }
  | _ => none }
def flowGrowsRow : OpenClaim := { program := "ytpndenfhglaikaa", sum := "53773f4ca8da34d278edf77180fb103fc0d95c9d8a0266c01bdd138cf9deabd3", func := "switchgear/switchgearlaw02.FlowGrows", spec := "flowGrows", unfollowed := true, recurses := true, plainKeys := false, apart := false }
def FlowGrowsSaid : Prop := flowGrowsRow.holds Try.pinned (OpenSpec.ofChange flowGrowsSpec)

/-- ITS FALSE NEIGHBOUR: 'it returns false'. Refute it at one input. -/
def flowGrowsWrong : ChangeSpec := { name := "flowGrows", fn := fun _ => fun
  | [d1, d2, d3, d4, d5] => { results := [.lit (.bool false)], args := [d1, d2, d3, d4, d5] }
  | _ => none }
def FlowGrowsWrongFalsely : Prop := flowGrowsRow.holds Try.pinned (OpenSpec.ofChange flowGrowsWrong)

/-- 'switchgearlaw02.FlowWays': WHATEVER THE INPUT: true; the input reads as it did. -/
def flowWaysSpec : ChangeSpec := { name := "flowWays", fn := fun _ => fun
  | [d1, d2, d3] => { results := [.lit (.bool true)], args := [d1, d2, d3] }
  | _ => none }
def flowWaysRow : OpenClaim := { program := "ytpndenfhglaikaa", sum := "53773f4ca8da34d278edf77180fb103fc0d95c9d8a0266c01bdd138cf9deabd3", func := "switchgear/switchgearlaw02.FlowWays", spec := "flowWays", unfollowed := true, recurses := true, plainKeys := false, apart := false }
def FlowWaysSaid : Prop := flowWaysRow.holds Try.pinned (OpenSpec.ofChange flowWaysSpec)

/-- ITS FALSE NEIGHBOUR: 'it returns false'. Refute it at one input. -/
def flowWaysWrong : ChangeSpec := { name := "flowWays", fn := fun _ => fun
  | [d1, d2, d3] => { results := [.lit (.bool false)], args := [d1, d2, d3] }
  | _ => none }
def FlowWaysWrongFalsely : Prop := flowWaysRow.holds Try.pinned (OpenSpec.ofChange flowWaysWrong)

/- THE SECOND FORM. 'bulk': how many values and letters a reading holds, each counted each time it is reached (what is shared counts as often as it is met; a slice's spare places count too). A statement '..UptoSaid' is the law's where the arguments, and the package variables that the reading takes, are together of bulk at most 1048576: NARROWER than '..Said'. Prove '..Said' where nothing that the law and all that it calls make is longer than what came in: it says more and counts as full. Else prove '..UptoSaid'. A law counts once. -/
mutual
def uptoBulk {H : Type} : DataW H → Nat
  | .lit (.string bytes) => bytes.length + 1
  | .lit _ => 1
  | .nil => 1
  | .ptr d => uptoBulk d + 1
  | .slice elems spare => uptoBulkAll elems + uptoBulkAll spare + 1
  | .agg parts => uptoBulkAll parts + 1
  | .iface _ d => uptoBulk d + 1
  | .map entries => uptoBulkEntries entries + 1
  | .held _ => 1
def uptoBulkAll {H : Type} : List (DataW H) → Nat
  | [] => 0
  | d :: r => uptoBulk d + uptoBulkAll r
def uptoBulkEntries {H : Type} : List (Lit × DataW H) → Nat
  | [] => 0
  | x :: r => uptoBulkEntry x + uptoBulkEntries r
def uptoBulkEntry {H : Type} : Lit × DataW H → Nat
  | (.string bytes, d) => bytes.length + uptoBulk d + 1
  | (_, d) => uptoBulk d + 1
 end
def uptoSmall : (H : Type) → List (DataW H) → Bool := fun _ ds => decide (uptoBulkAll ds ≤ 1048576)
def OpenSpec.upto (s : _root_.Go.ChangeSpec) : _root_.Go.OpenSpec := { _root_.Go.OpenSpec.ofChange s with cond := some uptoSmall }

/-- 'switchgearlaw03.GuardHolds', WHERE WHAT IT READS IS OF BULK AT MOST 1048576: true; the input reads as it did. -/
def guardHoldsUptoRow : OpenClaim := { program := "ytpndenfhglaikaa", sum := "53773f4ca8da34d278edf77180fb103fc0d95c9d8a0266c01bdd138cf9deabd3", func := "switchgear/switchgearlaw03.GuardHolds", spec := "guardHolds", unfollowed := true, recurses := true, plainKeys := false, apart := false, narrowed := true }
def GuardHoldsUptoSaid : Prop := guardHoldsUptoRow.holds Try.pinned (OpenSpec.upto guardHoldsSpec)

/-- 'switchgearlaw03.GuardOpens', WHERE WHAT IT READS IS OF BULK AT MOST 1048576: true; the input reads as it did. -/
def guardOpensUptoRow : OpenClaim := { program := "ytpndenfhglaikaa", sum := "53773f4ca8da34d278edf77180fb103fc0d95c9d8a0266c01bdd138cf9deabd3", func := "switchgear/switchgearlaw03.GuardOpens", spec := "guardOpens", unfollowed := true, recurses := true, plainKeys := false, apart := false, narrowed := true }
def GuardOpensUptoSaid : Prop := guardOpensUptoRow.holds Try.pinned (OpenSpec.upto guardOpensSpec)

/-- 'switchgearlaw03.GuardSurveys', WHERE WHAT IT READS IS OF BULK AT MOST 1048576: true; the input reads as it did. -/
def guardSurveysUptoRow : OpenClaim := { program := "ytpndenfhglaikaa", sum := "53773f4ca8da34d278edf77180fb103fc0d95c9d8a0266c01bdd138cf9deabd3", func := "switchgear/switchgearlaw03.GuardSurveys", spec := "guardSurveys", unfollowed := true, recurses := true, plainKeys := false, apart := false, narrowed := true }
def GuardSurveysUptoSaid : Prop := guardSurveysUptoRow.holds Try.pinned (OpenSpec.upto guardSurveysSpec)

/-- 'switchgearlaw02.FlowServes', WHERE WHAT IT READS IS OF BULK AT MOST 1048576: true; the input reads as it did. -/
def flowServesUptoRow : OpenClaim := { program := "ytpndenfhglaikaa", sum := "53773f4ca8da34d278edf77180fb103fc0d95c9d8a0266c01bdd138cf9deabd3", func := "switchgear/switchgearlaw02.FlowServes", spec := "flowServes", unfollowed := true, recurses := true, plainKeys := false, apart := false, narrowed := true }
def FlowServesUptoSaid : Prop := flowServesUptoRow.holds Try.pinned (OpenSpec.upto flowServesSpec)

/-- 'switchgearlaw02.FlowChecks', WHERE WHAT IT READS IS OF BULK AT MOST 1048576: true; the input reads as it did. -/
def flowChecksUptoRow : OpenClaim := { program := "ytpndenfhglaikaa", sum := "53773f4ca8da34d278edf77180fb103fc0d95c9d8a0266c01bdd138cf9deabd3", func := "switchgear/switchgearlaw02.FlowChecks", spec := "flowChecks", unfollowed := true, recurses := true, plainKeys := false, apart := false, narrowed := true }
def FlowChecksUptoSaid : Prop := flowChecksUptoRow.holds Try.pinned (OpenSpec.upto flowChecksSpec)

/-- 'switchgearlaw02.FlowShorts', WHERE WHAT IT READS IS OF BULK AT MOST 1048576: true; the input reads as it did. -/
def flowShortsUptoRow : OpenClaim := { program := "ytpndenfhglaikaa", sum := "53773f4ca8da34d278edf77180fb103fc0d95c9d8a0266c01bdd138cf9deabd3", func := "switchgear/switchgearlaw02.FlowShorts", spec := "flowShorts", unfollowed := true, recurses := true, plainKeys := false, apart := false, narrowed := true }
def FlowShortsUptoSaid : Prop := flowShortsUptoRow.holds Try.pinned (OpenSpec.upto flowShortsSpec)

/-- 'switchgearlaw02.FlowProves', WHERE WHAT IT READS IS OF BULK AT MOST 1048576: true; the input reads as it did. -/
def flowProvesUptoRow : OpenClaim := { program := "ytpndenfhglaikaa", sum := "53773f4ca8da34d278edf77180fb103fc0d95c9d8a0266c01bdd138cf9deabd3", func := "switchgear/switchgearlaw02.FlowProves", spec := "flowProves", unfollowed := true, recurses := true, plainKeys := false, apart := false, narrowed := true }
def FlowProvesUptoSaid : Prop := flowProvesUptoRow.holds Try.pinned (OpenSpec.upto flowProvesSpec)

/-- 'switchgearlaw02.FlowGrows', WHERE WHAT IT READS IS OF BULK AT MOST 1048576: true; the input reads as it did. -/
def flowGrowsUptoRow : OpenClaim := { program := "ytpndenfhglaikaa", sum := "53773f4ca8da34d278edf77180fb103fc0d95c9d8a0266c01bdd138cf9deabd3", func := "switchgear/switchgearlaw02.FlowGrows", spec := "flowGrows", unfollowed := true, recurses := true, plainKeys := false, apart := false, narrowed := true }
def FlowGrowsUptoSaid : Prop := flowGrowsUptoRow.holds Try.pinned (OpenSpec.upto flowGrowsSpec)

/-- 'switchgearlaw02.FlowWays', WHERE WHAT IT READS IS OF BULK AT MOST 1048576: true; the input reads as it did. -/
def flowWaysUptoRow : OpenClaim := { program := "ytpndenfhglaikaa", sum := "53773f4ca8da34d278edf77180fb103fc0d95c9d8a0266c01bdd138cf9deabd3", func := "switchgear/switchgearlaw02.FlowWays", spec := "flowWays", unfollowed := true, recurses := true, plainKeys := false, apart := false, narrowed := true }
def FlowWaysUptoSaid : Prop := flowWaysUptoRow.holds Try.pinned (OpenSpec.upto flowWaysSpec)

end Rows
end Go.Proofs.Ytpndenfhglaikaa
