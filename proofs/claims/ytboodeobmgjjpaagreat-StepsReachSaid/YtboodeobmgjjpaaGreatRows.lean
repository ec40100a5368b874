/-
  No cell of these rows narrows 'for every input' (looked for: loops, veiled, ifaces, maps, wideKeys, modest, calm, conditions, laid).
  DERIVED. THE GIVEN ROWS OF THIS SEAT. 8 by the template 'for every input the law returns true; each argument reads behind the call as it read before'; 0 by the template 'total and deterministic' (their statements: YtboodeobmgjjpaaGreatTotals.lean).
  GIVEN WITH THE SEED: the statements are not yours to turn. If you find one false, say at which input.
  Laid BY PROGRAM, IN A SANDBOX (cutbox-rows.mjs): the forced cells as the released guide's own fill.sh prints them over the translation a2adefe990a69017… (all of the seat's roots in one cut). By AI agents, Wed Nov 11 2026. No macro, syntax, notation, axiom, sorry.
-/
import Derived.Test.YtboodeobmgjjpaaGreatChecked
import GoSem.Claim
import GoSem.ClaimJoined
import GoSem.ClaimMapViews
import Derived.JoinedTies
import Derived.KernelRfl
namespace Go.Proofs.YtboodeobmgjjpaaGreat
/- THE CELL 'sum', in the pinned program and in every row, IS THE sha256 OF THE DUMP (.gsa) THAT YtboodeobmgjjpaaGreatProg.lean LOADS. Nothing in Lean hashes anything: it is a label: what it is worth is what the hold of that sum in a sandbox is worth. -/
noncomputable def Tryz.pinned : Pinned := { name := "ytboodeobmgjjpaagreat", sum := "a2adefe990a690173141e492ba570a0f30b274588feafbd17db48e074f5bb84b", checked := Tryz.checked }
namespace Rows
def none {H : Type} : Left H := { results := [], args := [] }

/-- 'switchgearlaw04.StepsFinds': WHATEVER THE INPUT: true; the input reads as it did. -/
def stepsFindsSpec : ChangeSpec := { name := "stepsFinds", fn := fun _ => fun
  | [d1, d2, d3, d4] => { results := [.lit (.bool true)], args := [d1, d2, d3, d4] }
  | _ => none }
def stepsFindsRow : OpenClaim := { program := "ytboodeobmgjjpaagreat", sum := "a2adefe990a690173141e492ba570a0f30b274588feafbd17db48e074f5bb84b", func := "switchgear/switchgearlaw04.StepsFinds", spec := "stepsFinds", unfollowed := true, recurses := true, plainKeys := false, apart := false }
def StepsFindsSaid : Prop := stepsFindsRow.holds Tryz.pinned (OpenSpec.ofChange stepsFindsSpec)

/-- ITS FALSE NEIGHBOUR: 'it returns false'. Refute it at one input. -/
def stepsFindsWrong : ChangeSpec := { name := "stepsFinds", fn := fun _ => fun
  | [d1, d2, d3, d4] => { results := [.lit (.bool false)], args := [d1, d2, d3, d4] }
  | _ => none }
def StepsFindsWrongFalsely : Prop := stepsFindsRow.holds Tryz.pinned (OpenSpec.ofChange stepsFindsWrong)

/-- 'switchgearlaw04.StepsProves': WHATEVER THE INPUT: true; the input reads as it did. -/
def stepsProvesSpec : ChangeSpec := { name := "stepsProves", fn := fun _ => fun
  | [d1, d2, d3, d4] => { results := [.lit (.bool true)], args := [d1, d2, d3, d4] }
  | _ => none }
def stepsProvesRow : OpenClaim := { program := "ytboodeobmgjjpaagreat", sum := "a2adefe990a690173141e492ba570a0f30b274588feafbd17db48e074f5bb84b", func := "switchgear/switchgearlaw04.StepsProves", spec := "stepsProves", unfollowed := true, recurses := true, plainKeys := false, apart := false }
def StepsProvesSaid : Prop := stepsProvesRow.holds Tryz.pinned (OpenSpec.ofChange stepsProvesSpec)

/-- ITS FALSE NEIGHBOUR: 'it returns false'. Refute it at one input. -/
def stepsProvesWrong : ChangeSpec := { name := "stepsProves", fn := fun _ => fun
  | [d1, d2, d3, d4] => { results := [.lit (.bool false)], args := [d1, d2, d3, d4] }
  | _ => none }
def StepsProvesWrongFalsely : Prop := stepsProvesRow.holds Tryz.pinned (OpenSpec.ofChange stepsProvesWrong)

/-- 'switchgearlaw04.StepsSmall': WHATEVER THE INPUT: true; the input reads as it did. -/
def stepsSmallSpec : ChangeSpec := { name := "stepsSmall", fn := fun _ => fun
  | [] => { results := [.lit (.bool true)], args := [] }
  | _ => none }
def stepsSmallRow : OpenClaim := { program := "ytboodeobmgjjpaagreat", sum := "a2adefe990a690173141e492ba570a0f30b274588feafbd17db48e074f5bb84b", func := "switchgear/switchgearlaw04.StepsSmall", spec := "stepsSmall", unfollowed := true, recurses := true, plainKeys := false, apart := false }
def StepsSmallSaid : Prop := stepsSmallRow.holds Tryz.pinned (OpenSpec.ofChange stepsSmallSpec)

/-- ITS FALSE NEIGHBOUR: 'it returns false'. Refute it at one input. -/
def stepsSmallWrong : ChangeSpec := { name := "stepsSmall", fn := fun _ => fun
  | [] => { results := [.lit (.bool false)], args := [] }
  | _ => none }
def StepsSmallWrongFalsely : Prop := stepsSmallRow.holds Tryz.pinned (OpenSpec.ofChange stepsSmallWrong)

/-- 'switchgearlaw04.StepsSafe': WHATEVER THE INPUT: true; the input reads as it did. -/
def stepsSafeSpec : ChangeSpec := { name := "stepsSafe", fn := fun _ => fun
  | [d1, d2, d3, d4] => { results := [.lit (.bool true)], args := [d1, d2, d3, d4] }
  | _ => none }
def stepsSafeRow : OpenClaim := { program := "ytboodeobmgjjpaagreat", sum := "a2adefe990a690173141e492ba570a0f30b274588feafbd17db48e074f5bb84b", func := "switchgear/switchgearlaw04.StepsSafe", spec := "stepsSafe", unfollowed := true, recurses := true, plainKeys := false, apart := false }
def StepsSafeSaid : Prop := stepsSafeRow.holds Tryz.pinned (OpenSpec.ofChange stepsSafeSpec)

/-- ITS FALSE NEIGHBOUR: 'it returns false'. Refute it at one input. -/
def stepsSafeWrong : ChangeSpec := { name := "stepsSafe", fn := fun _ => fun
  | [d1, d2, d3, d4] => { results := [.lit (.bool false)], args := [d1, d2, d3, d4] }
  | _ => none }
def StepsSafeWrongFalsely : Prop := stepsSafeRow.holds Tryz.pinned (OpenSpec.ofChange stepsSafeWrong)

/-- 'switchgearlaw04.StepsReach': WHATEVER THE INPUT: true; the input reads as it did. -/
def stepsReachSpec : ChangeSpec := { name := "stepsReach", fn := fun _ => fun
  | [d1, d2, d3, d4] => { results := [.lit (.bool true)], args := [d1, d2, d3, d4] }
  | _ => none }
def stepsReachRow : OpenClaim := { program := "ytboodeobmgjjpaagreat", sum := "a2adefe990a690173141e492ba570a0f30b274588feafbd17db48e074f5bb84b", func := "switchgear/switchgearlaw04.StepsReach", spec := "stepsReach", unfollowed := true, recurses := true, plainKeys := false, apart := false }
def StepsReachSaid : Prop := stepsReachRow.holds Tryz.pinned (OpenSpec.ofChange stepsReachSpec)

/-- ITS FALSE NEIGHBOUR: 'it returns false'. Refute it at one input. -/
def stepsReachWrong : ChangeSpec := { name := "stepsReach", fn := fun _ => fun
  | [d1, d2, d3, d4] => { results := [.lit (.bool false)], args := [d1, d2, d3, d4] }
  | _ => none }
def StepsReachWrongFalsely : Prop := stepsReachRow.holds Tryz.pinned (OpenSpec.ofChange stepsReachWrong)

/-- 'switchgearlaw04.StepsVerifies': WHATEVER THE INPUT: true; the input reads as it did. -/
def stepsVerifiesSpec : ChangeSpec := { name := "stepsVerifies", fn := fun _ => fun
  | [d1, d2, d3, d4, d5] => { results := [.lit (.bool true)], args := [d1, d2, d3, d4, d5] }
  | _ => none }
def stepsVerifiesRow : OpenClaim := { program := "ytboodeobmgjjpaagreat", sum := "a2adefe990a690173141e492ba570a0f30b274588feafbd17db48e074f5bb84b", func := "switchgear/switchgearlaw04.StepsVerifies", spec := "stepsVerifies", unfollowed := true, recurses := true, plainKeys := false, apart := false }
def StepsVerifiesSaid : Prop := stepsVerifiesRow.holds Tryz.pinned (OpenSpec.ofChange stepsVerifiesSpec)

/-- ITS FALSE NEIGHBOUR: 'it returns false'. Refute it at one input. -/
def stepsVerifiesWrong : ChangeSpec := { name := "stepsVerifies", fn := fun _ => fun
  | [d1, d2, d3, d4, d5] => { results := [.lit (.bool false)], args := [d1, d2, d3, d4, d5] }
  | _ => none }
def StepsVerifiesWrongFalsely : Prop := stepsVerifiesRow.holds Tryz.pinned (OpenSpec.ofChange stepsVerifiesWrong)

/-- 'switchgearlaw04.StepsBack': WHATEVER THE INPUT: true; the input reads as it did. -/
def stepsBackSpec : ChangeSpec := { name := "stepsBack", fn := fun _ => fun
  | [d1, d2, d3, d4] => { results := [.lit (.bool true)], args := [d1, d2, d3, d4] }
  | _ => none }
def stepsBackRow : OpenClaim := { program := "ytboodeobmgjjpaagreat", sum := "a2adefe990a690173141e492ba570a0f30b274588feafbd17db48e074f5bb84b", func := "switchgear/switchgearlaw04.StepsBack", spec := "stepsBack", unfollowed := true, recurses := true, plainKeys := false, apart := false }
def StepsBackSaid : Prop := stepsBackRow.holds Tryz.pinned (OpenSpec.ofChange stepsBackSpec)

/-- ITS FALSE NEIGHBOUR: 'it returns false'. Refute it at one input. -/
def stepsBackWrong : ChangeSpec := { name := "stepsBack", fn := fun _ => fun
  | [d1, d2, d3, d4] => { results := [.lit (.bool false)], args := [d1, d2, d3, d4] }
  | _ => none }
def StepsBackWrongFalsely : Prop := stepsBackRow.holds Tryz.pinned (OpenSpec.ofChange stepsBackWrong)

/-- 'switchgearlaw04.StepsChecks': WHATEVER THE INPUT: true; the input reads as it did. -/
def stepsChecksSpec : ChangeSpec := { name := "stepsChecks", fn := fun _ => fun
  | [d1, d2, d3, d4] => { results := [.lit (.bool true)], args := [d1, d2, d3, d4] }
  | _ => none }
def stepsChecksRow : OpenClaim := { program := "ytboodeobmgjjpaagreat", sum := "a2adefe990a690173141e492ba570a0f30b274588feafbd17db48e074f5bb84b", func := "switchgear/switchgearlaw04.StepsChecks", spec := "stepsChecks", unfollowed := true, recurses := true, plainKeys := false, apart := false }
def StepsChecksSaid : Prop := stepsChecksRow.holds Tryz.pinned (OpenSpec.ofChange stepsChecksSpec)

/-- ITS FALSE NEIGHBOUR: 'it returns false'. Refute it at one input. -/
def stepsChecksWrong : ChangeSpec := { name := "stepsChecks", fn := fun _ => fun
  | [d1, d2, d3, d4] => { results := [.lit (.bool false)], args := [d1, d2, d3, d4] }
  | _ => none }
def StepsChecksWrongFalsely : Prop := stepsChecksRow.holds Tryz.pinned (OpenSpec.ofChange stepsChecksWrong)

/- THE SECOND FORM. 'bulk': how many values and letters a reading holds, each counted each time it is reached (what is shared counts as often as it is met; a slice's spare places count too). A statement '..UptoSaid' is the law's where the arguments, and the package variables that the reading takes, are together of bulk at most 1048576: NARROWER than '..Said'. Prove '..Said' where nothing that the law and all that it calls make is longer than what came in: it says more and counts as full. Else prove '..UptoSaid'. A law counts once. -/
mutual
def uptoBulk {H : Type} : DataW H → Nat
  | .lit (.string bytes) => bytes.length + 1
  | .lit _ => 1
  | .nil => 1
  | .ptr d => uptoBulk d + 1
  | .slice elems spare => uptoBulkAll elems + uptoBulkAll spare + 1
  | .agg parts => uptoBulkAll parts + 1
  | .iface _ d => uptoBulk d + 1
  | .map entries => uptoBulkEntries entries + 1
  | .held _ => 1
def uptoBulkAll {H : Type} : List (DataW H) → Nat
  | [] => 0
  | d :: r => uptoBulk d + uptoBulkAll r
def uptoBulkEntries {H : Type} : List (Lit × DataW H) → Nat
  | [] => 0
  | x :: r => uptoBulkEntry x + uptoBulkEntries r
def uptoBulkEntry {H : Type} : Lit × DataW H → Nat
  | (.string bytes, d) => bytes.length + uptoBulk d + 1
  | (_, d) => uptoBulk d + 1
 end
def uptoSmall : (H : Type) → List (DataW H) → Bool := fun _ ds => decide (uptoBulkAll ds ≤ 1048576)
def OpenSpec.upto (s : _root_.Go.ChangeSpec) : _root_.Go.OpenSpec := { _root_.Go.OpenSpec.ofChange s with cond := some uptoSmall }

/-- 'switchgearlaw04.StepsFinds', WHERE WHAT IT READS IS OF BULK AT MOST 1048576: true; the input reads as it did. -/
def stepsFindsUptoRow : OpenClaim := { program := "ytboodeobmgjjpaagreat", sum := "a2adefe990a690173141e492ba570a0f30b274588feafbd17db48e074f5bb84b", func := "switchgear/switchgearlaw04.StepsFinds", spec := "stepsFinds", unfollowed := true, recurses := true, plainKeys := false, apart := false, narrowed := true }
def StepsFindsUptoSaid : Prop := stepsFindsUptoRow.holds Tryz.pinned (OpenSpec.upto stepsFindsSpec)

/-- 'switchgearlaw04.StepsProves', WHERE WHAT IT READS IS OF BULK AT MOST 1048576: true; the input reads as it did. -/
def stepsProvesUptoRow : OpenClaim := { program := "ytboodeobmgjjpaagreat", sum := "a2adefe990a690173141e492ba570a0f30b274588feafbd17db48e074f5bb84b", func := "switchgear/switchgearlaw04.StepsProves", spec := "stepsProves", unfollowed := true, recurses := true, plainKeys := false, apart := false, narrowed := true }
def StepsProvesUptoSaid : Prop := stepsProvesUptoRow.holds Tryz.pinned (OpenSpec.upto stepsProvesSpec)

/-- 'switchgearlaw04.StepsSmall', WHERE WHAT IT READS IS OF BULK AT MOST 1048576: true; the input reads as it did. -/
def stepsSmallUptoRow : OpenClaim := { program := "ytboodeobmgjjpaagreat", sum := "a2adefe990a690173141e492ba570a0f30b274588feafbd17db48e074f5bb84b", func := "switchgear/switchgearlaw04.StepsSmall", spec := "stepsSmall", unfollowed := true, recurses := true, plainKeys := false, apart := false, narrowed := true }
def StepsSmallUptoSaid : Prop := stepsSmallUptoRow.holds Tryz.pinned (OpenSpec.upto stepsSmallSpec)

/-- 'switchgearlaw04.StepsSafe', WHERE WHAT IT READS IS OF BULK AT MOST 1048576: true; the input reads as it did. -/
def stepsSafeUptoRow : OpenClaim := { program := "ytboodeobmgjjpaagreat", sum := "a2adefe990a690173141e492ba570a0f30b274588feafbd17db48e074f5bb84b", func := "switchgear/switchgearlaw04.StepsSafe", spec := "stepsSafe", unfollowed := true, recurses := true, plainKeys := false, apart := false, narrowed := true }
def StepsSafeUptoSaid : Prop := stepsSafeUptoRow.holds Tryz.pinned (OpenSpec.upto stepsSafeSpec)

/-- 'switchgearlaw04.StepsReach', WHERE WHAT IT READS IS OF BULK AT MOST 1048576: true; the input reads as it did. -/
def stepsReachUptoRow : OpenClaim := { program := "ytboodeobmgjjpaagreat", sum := "a2adefe990a690173141e492ba570a0f30b274588feafbd17db48e074f5bb84b", func := "switchgear/switchgearlaw04.StepsReach", spec := "stepsReach", unfollowed := true, recurses := true, plainKeys := false, apart := false, narrowed := true }
def StepsReachUptoSaid : Prop := stepsReachUptoRow.holds Tryz.pinned (OpenSpec.upto stepsReachSpec)

/-- 'switchgearlaw04.StepsVerifies', WHERE WHAT IT READS IS OF BULK AT MOST 1048576: true; the input reads as it did. -/
def stepsVerifiesUptoRow : OpenClaim := { program := "ytboodeobmgjjpaagreat", sum := "a2adefe990a690173141e492ba570a0f30b274588feafbd17db48e074f5bb84b", func := "switchgear/switchgearlaw04.StepsVerifies", spec := "stepsVerifies", unfollowed := true, recurses := true, plainKeys := false, apart := false, narrowed := true }
def StepsVerifiesUptoSaid : Prop := stepsVerifiesUptoRow.holds Tryz.pinned (OpenSpec.upto stepsVerifiesSpec)

/-- 'switchgearlaw04.StepsBack', WHERE WHAT IT READS IS OF BULK AT MOST 1048576: true; the input reads as it did. -/
def stepsBackUptoRow : OpenClaim := { program := "ytboodeobmgjjpaagreat", sum := "a2adefe990a690173141e492ba570a0f30b274588feafbd17db48e074f5bb84b", func := "switchgear/switchgearlaw04.StepsBack", spec := "stepsBack", unfollowed := true, recurses := true, plainKeys := false, apart := false, narrowed := true }
def StepsBackUptoSaid : Prop := stepsBackUptoRow.holds Tryz.pinned (OpenSpec.upto stepsBackSpec)

/-- 'switchgearlaw04.StepsChecks', WHERE WHAT IT READS IS OF BULK AT MOST 1048576: true; the input reads as it did. -/
def stepsChecksUptoRow : OpenClaim := { program := "ytboodeobmgjjpaagreat", sum := "a2adefe990a690173141e492ba570a0f30b274588feafbd17db48e074f5bb84b", func := "switchgear/switchgearlaw04.StepsChecks", spec := "stepsChecks", unfollowed := true, recurses := true, plainKeys := false, apart := false, narrowed := true }
def StepsChecksUptoSaid : Prop := stepsChecksUptoRow.holds Tryz.pinned (OpenSpec.upto stepsChecksSpec)

end Rows
end Go.Proofs.YtboodeobmgjjpaaGreat
