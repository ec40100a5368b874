/-
  No cell of these rows narrows 'for every input' (looked for: loops, veiled, ifaces, maps, wideKeys, modest, calm, conditions, laid).
  DERIVED. THE GIVEN ROWS OF THIS SEAT. 7 by the template 'for every input the law returns true; each argument reads behind the call as it read before'; 0 by the template 'total and deterministic' (their statements: YtbjhjmcpfmhgdaaGreatTotals.lean).
  GIVEN WITH THE SEED: the statements are not yours to turn. If you find one false, say at which input.
  Laid BY PROGRAM, IN A SANDBOX (cutbox-rows.mjs): the forced cells as the released guide's own fill.sh prints them over the translation 7b74abdff84274a1… (all of the seat's roots in one cut). By AI agents, Wed Nov 11 2026. No macro, syntax, notation, axiom, sorry.
-/
import Derived.Test.YtbjhjmcpfmhgdaaGreatChecked
import GoSem.Claim
import GoSem.ClaimJoined
import GoSem.ClaimMapViews
import Derived.JoinedTies
import Derived.KernelRfl
namespace Go.Proofs.YtbjhjmcpfmhgdaaGreat
/- THE CELL 'sum', in the pinned program and in every row, IS THE sha256 OF THE DUMP (.gsa) THAT YtbjhjmcpfmhgdaaGreatProg.lean LOADS. Nothing in Lean hashes anything: it is a label: what it is worth is what the hold of that sum in a sandbox is worth. -/
noncomputable def Tryz.pinned : Pinned := { name := "ytbjhjmcpfmhgdaagreat", sum := "7b74abdff84274a12983b210c685872a576a7c3b478fc9fe8d28e7d0f8c9f909", checked := Tryz.checked }
namespace Rows
def none {H : Type} : Left H := { results := [], args := [] }

/-- 'switchgearlaw04.StepsSmall': WHATEVER THE INPUT: true; the input reads as it did. -/
def stepsSmallSpec : ChangeSpec := { name := "stepsSmall", fn := fun _ => fun
  | [] => { results := [.lit (.bool true)], args := [] }
  | _ => none }
def stepsSmallRow : OpenClaim := { program := "ytbjhjmcpfmhgdaagreat", sum := "7b74abdff84274a12983b210c685872a576a7c3b478fc9fe8d28e7d0f8c9f909", func := "switchgear/switchgearlaw04.StepsSmall", spec := "stepsSmall", unfollowed := true, recurses := true, plainKeys := false, apart := false }
def StepsSmallSaid : Prop := stepsSmallRow.holds Tryz.pinned (OpenSpec.ofChange stepsSmallSpec)

/-- ITS FALSE NEIGHBOUR: 'it returns false'. Refute it at one input. -/
def stepsSmallWrong : ChangeSpec := { name := "stepsSmall", fn := fun _ => fun
  | [] => { results := [.lit (.bool false)], args := [] }
  | _ => none }
def StepsSmallWrongFalsely : Prop := stepsSmallRow.holds Tryz.pinned (OpenSpec.ofChange stepsSmallWrong)

/-- 'switchgearlaw12.WorkSmall': WHATEVER THE INPUT: true; the input reads as it did. -/
def workSmallSpec : ChangeSpec := { name := "workSmall", fn := fun _ => fun
  | [] => { results := [.lit (.bool true)], args := [] }
  | _ => none }
def workSmallRow : OpenClaim := { program := "ytbjhjmcpfmhgdaagreat", sum := "7b74abdff84274a12983b210c685872a576a7c3b478fc9fe8d28e7d0f8c9f909", func := "switchgear/switchgearlaw12.WorkSmall", spec := "workSmall", unfollowed := true, recurses := true, plainKeys := false, apart := false }
def WorkSmallSaid : Prop := workSmallRow.holds Tryz.pinned (OpenSpec.ofChange workSmallSpec)

/-- ITS FALSE NEIGHBOUR: 'it returns false'. Refute it at one input. -/
def workSmallWrong : ChangeSpec := { name := "workSmall", fn := fun _ => fun
  | [] => { results := [.lit (.bool false)], args := [] }
  | _ => none }
def WorkSmallWrongFalsely : Prop := workSmallRow.holds Tryz.pinned (OpenSpec.ofChange workSmallWrong)

/-- 'switchgearlaw12.WorkKeeps': WHATEVER THE INPUT: true; the input reads as it did. -/
def workKeepsSpec : ChangeSpec := { name := "workKeeps", fn := fun _ => fun
  | [d1, d2] => { results := [.lit (.bool true)], args := [d1, d2] }
  | _ => none }
def workKeepsRow : OpenClaim := { program := "ytbjhjmcpfmhgdaagreat", sum := "7b74abdff84274a12983b210c685872a576a7c3b478fc9fe8d28e7d0f8c9f909", func := "switchgear/switchgearlaw12.WorkKeeps", spec := "workKeeps", unfollowed := true, recurses := true, plainKeys := false, apart := false }
def WorkKeepsSaid : Prop := workKeepsRow.holds Tryz.pinned (OpenSpec.ofChange workKeepsSpec)

/-- ITS FALSE NEIGHBOUR: 'it returns false'. Refute it at one input. -/
def workKeepsWrong : ChangeSpec := { name := "workKeeps", fn := fun _ => fun
  | [d1, d2] => { results := [.lit (.bool false)], args := [d1, d2] }
  | _ => none }
def WorkKeepsWrongFalsely : Prop := workKeepsRow.holds Tryz.pinned (OpenSpec.ofChange workKeepsWrong)

/-- 'switchgearlaw12.WorkNames': WHATEVER THE INPUT: true; the input reads as it did. -/
def workNamesSpec : ChangeSpec := { name := "workNames", fn := fun _ => fun
  | [d1, d2] => { results := [.lit (.bool true)], args := [d1, d2] }
  | _ => none }
def workNamesRow : OpenClaim := { program := "ytbjhjmcpfmhgdaagreat", sum := "7b74abdff84274a12983b210c685872a576a7c3b478fc9fe8d28e7d0f8c9f909", func := "switchgear/switchgearlaw12.WorkNames", spec := "workNames", unfollowed := true, recurses := true, plainKeys := false, apart := false }
def WorkNamesSaid : Prop := workNamesRow.holds Tryz.pinned (OpenSpec.ofChange workNamesSpec)

/-- ITS FALSE NEIGHBOUR: 'it returns false'. Refute it at one input. -/
def workNamesWrong : ChangeSpec := { name := "workNames", fn := fun _ => fun
  | [d1, d2] => { results := [.lit (.bool false)], args := [d1, d2] }
  | _ => none }
def WorkNamesWrongFalsely : Prop := workNamesRow.holds Tryz.pinned (OpenSpec.ofChange workNamesWrong)

/-- 'switchgearlaw13.ActsBack': WHATEVER THE INPUT: true; the input reads as it did. -/
def actsBackSpec : ChangeSpec := { name := "actsBack", fn := fun _ => fun
  | [d1, d2, d3, d4, d5] => { results := [.lit (.bool true)], args := [d1, d2, d3, d4, d5] }
  | _ => none }
def actsBackRow : OpenClaim := { program := "ytbjhjmcpfmhgdaagreat", sum := "7b74abdff84274a12983b210c685872a576a7c3b478fc9fe8d28e7d0f8c9f909", func := "switchgear/switchgearlaw13.ActsBack", spec := "actsBack", unfollowed := true, recurses := true, plainKeys := false, apart := false }
def ActsBackSaid : Prop := actsBackRow.holds Tryz.pinned (OpenSpec.ofChange actsBackSpec)

/-- ITS FALSE NEIGHBOUR: 'it returns false'. Refute it at one input. -/
def actsBackWrong : ChangeSpec := { name := "actsBack", fn := fun _ => fun
  | [d1, d2, d3, d4, d5] => { results := [.lit (.bool false)], args := [d1, d2, d3, d4, d5] }
  | _ => none }
def ActsBackWrongFalsely : Prop := actsBackRow.holds Tryz.pinned (OpenSpec.ofChange actsBackWrong)

/-- 'switchgearlaw13.ActsAgain': WHATEVER THE INPUT: true; the input reads as it did. -/
def actsAgainSpec : ChangeSpec := { name := "actsAgain", fn := fun _ => fun
  | [d1, d2, d3, d4, d5] => { results := [.lit (.bool true)], args := [d1, d2, d3, d4, d5] }
  | _ => none }
def actsAgainRow : OpenClaim := { program := "ytbjhjmcpfmhgdaagreat", sum := "7b74abdff84274a12983b210c685872a576a7c3b478fc9fe8d28e7d0f8c9f909", func := "switchgear/switchgearlaw13.ActsAgain", spec := "actsAgain", unfollowed := true, recurses := true, plainKeys := false, apart := false }
def ActsAgainSaid : Prop := actsAgainRow.holds Tryz.pinned (OpenSpec.ofChange actsAgainSpec)

/-- ITS FALSE NEIGHBOUR: 'it returns false'. Refute it at one input. -/
def actsAgainWrong : ChangeSpec := { name := "actsAgain", fn := fun _ => fun
  | [d1, d2, d3, d4, d5] => { results := [.lit (.bool false)], args := [d1, d2, d3, d4, d5] }
  | _ => none }
def ActsAgainWrongFalsely : Prop := actsAgainRow.holds Tryz.pinned (OpenSpec.ofChange actsAgainWrong)

/-- 'switchgearlaw13.ActsSmall': WHATEVER THE INPUT: true; the input reads as it did. -/
def actsSmallSpec : ChangeSpec := { name := "actsSmall", fn := fun _ => fun
  | [] => { results := [.lit (.bool true)], args := [] }
  | _ => none }
def actsSmallRow : OpenClaim := { program := "ytbjhjmcpfmhgdaagreat", sum := "7b74abdff84274a12983b210c685872a576a7c3b478fc9fe8d28e7d0f8c9f909", func := "switchgear/switchgearlaw13.ActsSmall", spec := "actsSmall", unfollowed := true, recurses := true, plainKeys := false, apart := false }
def ActsSmallSaid : Prop := actsSmallRow.holds Tryz.pinned (OpenSpec.ofChange actsSmallSpec)

/-- ITS FALSE NEIGHBOUR: 'it returns false'. Refute it at one input. -/
def actsSmallWrong : ChangeSpec := { name := "actsSmall", fn := fun _ => fun
  | [] => { results := [.lit (.bool false)], args := [] }
  | _ => none }
def ActsSmallWrongFalsely : Prop := actsSmallRow.holds Tryz.pinned (OpenSpec.ofChange actsSmallWrong)

/- THE SECOND FORM. 'bulk': how many values and letters a reading holds, each counted each time it is reached (what is shared counts as often as it is met; a slice's spare places count too). A statement '..UptoSaid' is the law's where the arguments, and the package variables that the reading takes, are together of bulk at most 1048576: NARROWER than '..Said'. Prove '..Said' where nothing that the law and all that it calls make is longer than what came in: it says more and counts as full. Else prove '..UptoSaid'. A law counts once. -/
mutual
def uptoBulk {H : Type} : DataW H → Nat
  | .lit (.string bytes) => bytes.length + 1
  | .lit _ => 1
  | .nil => 1
  | .ptr d => uptoBulk d + 1
  | .slice elems spare => uptoBulkAll elems + uptoBulkAll spare + 1
  | .agg parts => uptoBulkAll parts + 1
  | .iface _ d => uptoBulk d + 1
  | .map entries => uptoBulkEntries entries + 1
  | .held _ => 1
def uptoBulkAll {H : Type} : List (DataW H) → Nat
  | [] => 0
  | d :: r => uptoBulk d + uptoBulkAll r
def uptoBulkEntries {H : Type} : List (Lit × DataW H) → Nat
  | [] => 0
  | x :: r => uptoBulkEntry x + uptoBulkEntries r
def uptoBulkEntry {H : Type} : Lit × DataW H → Nat
  | (.string bytes, d) => bytes.length + uptoBulk d + 1
  | (_, d) => uptoBulk d + 1
 end
def uptoSmall : (H : Type) → List (DataW H) → Bool := fun _ ds => decide (uptoBulkAll ds ≤ 1048576)
def OpenSpec.upto (s : _root_.Go.ChangeSpec) : _root_.Go.OpenSpec := { _root_.Go.OpenSpec.ofChange s with cond := some uptoSmall }

/-- 'switchgearlaw04.StepsSmall', WHERE WHAT IT READS IS OF BULK AT MOST 1048576: true; the input reads as it did. -/
def stepsSmallUptoRow : OpenClaim := { program := "ytbjhjmcpfmhgdaagreat", sum := "7b74abdff84274a12983b210c685872a576a7c3b478fc9fe8d28e7d0f8c9f909", func := "switchgear/switchgearlaw04.StepsSmall", spec := "stepsSmall", unfollowed := true, recurses := true, plainKeys := false, apart := false, narrowed := true }
def StepsSmallUptoSaid : Prop := stepsSmallUptoRow.holds Tryz.pinned (OpenSpec.upto stepsSmallSpec)

/-- 'switchgearlaw12.WorkSmall', WHERE WHAT IT READS IS OF BULK AT MOST 1048576: true; the input reads as it did. -/
def workSmallUptoRow : OpenClaim := { program := "ytbjhjmcpfmhgdaagreat", sum := "7b74abdff84274a12983b210c685872a576a7c3b478fc9fe8d28e7d0f8c9f909", func := "switchgear/switchgearlaw12.WorkSmall", spec := "workSmall", unfollowed := true, recurses := true, plainKeys := false, apart := false, narrowed := true }
def WorkSmallUptoSaid : Prop := workSmallUptoRow.holds Tryz.pinned (OpenSpec.upto workSmallSpec)

/-- 'switchgearlaw12.WorkKeeps', WHERE WHAT IT READS IS OF BULK AT MOST 1048576: true; the input reads as it did. -/
def workKeepsUptoRow : OpenClaim := { program := "ytbjhjmcpfmhgdaagreat", sum := "7b74abdff84274a12983b210c685872a576a7c3b478fc9fe8d28e7d0f8c9f909", func := "switchgear/switchgearlaw12.WorkKeeps", spec := "workKeeps", unfollowed := true, recurses := true, plainKeys := false, apart := false, narrowed := true }
def WorkKeepsUptoSaid : Prop := workKeepsUptoRow.holds Tryz.pinned (OpenSpec.upto workKeepsSpec)

/-- 'switchgearlaw12.WorkNames', WHERE WHAT IT READS IS OF BULK AT MOST 1048576: true; the input reads as it did. -/
def workNamesUptoRow : OpenClaim := { program := "ytbjhjmcpfmhgdaagreat", sum := "7b74abdff84274a12983b210c685872a576a7c3b478fc9fe8d28e7d0f8c9f909", func := "switchgear/switchgearlaw12.WorkNames", spec := "workNames", unfollowed := true, recurses := true, plainKeys := false, apart := false, narrowed := true }
def WorkNamesUptoSaid : Prop := workNamesUptoRow.holds Tryz.pinned (OpenSpec.upto workNamesSpec)

/-- 'switchgearlaw13.ActsBack', WHERE WHAT IT READS IS OF BULK AT MOST 1048576: true; the input reads as it did. -/
def actsBackUptoRow : OpenClaim := { program := "ytbjhjmcpfmhgdaagreat", sum := "7b74abdff84274a12983b210c685872a576a7c3b478fc9fe8d28e7d0f8c9f909", func := "switchgear/switchgearlaw13.ActsBack", spec := "actsBack", unfollowed := true, recurses := true, plainKeys := false, apart := false, narrowed := true }
def ActsBackUptoSaid : Prop := actsBackUptoRow.holds Tryz.pinned (OpenSpec.upto actsBackSpec)

/-- 'switchgearlaw13.ActsAgain', WHERE WHAT IT READS IS OF BULK AT MOST 1048576: true; the input reads as it did. -/
def actsAgainUptoRow : OpenClaim := { program := "ytbjhjmcpfmhgdaagreat", sum := "7b74abdff84274a12983b210c685872a576a7c3b478fc9fe8d28e7d0f8c9f909", func := "switchgear/switchgearlaw13.ActsAgain", spec := "actsAgain", unfollowed := true, recurses := true, plainKeys := false, apart := false, narrowed := true }
def ActsAgainUptoSaid : Prop := actsAgainUptoRow.holds Tryz.pinned (OpenSpec.upto actsAgainSpec)

/-- 'switchgearlaw13.ActsSmall', WHERE WHAT IT READS IS OF BULK AT MOST 1048576: true; the input reads as it did. -/
def actsSmallUptoRow : OpenClaim := { program := "ytbjhjmcpfmhgdaagreat", sum := "7b74abdff84274a12983b210c685872a576a7c3b478fc9fe8d28e7d0f8c9f909", func := "switchgear/switchgearlaw13.ActsSmall", spec := "actsSmall", unfollowed := true, recurses := true, plainKeys := false, apart := false, narrowed := true }
def ActsSmallUptoSaid : Prop := actsSmallUptoRow.holds Tryz.pinned (OpenSpec.upto actsSmallSpec)

end Rows
end Go.Proofs.YtbjhjmcpfmhgdaaGreat
