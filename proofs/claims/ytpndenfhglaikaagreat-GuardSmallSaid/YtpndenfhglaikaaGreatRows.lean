/-
  No cell of these rows narrows 'for every input' (looked for: loops, veiled, ifaces, maps, wideKeys, modest, calm, conditions, laid).
  DERIVED. THE GIVEN ROWS OF THIS SEAT. 3 by the template 'for every input the law returns true; each argument reads behind the call as it read before'; 0 by the template 'total and deterministic' (their statements: YtpndenfhglaikaaGreatTotals.lean).
  GIVEN WITH THE SEED: the statements are not yours to turn. If you find one false, say at which input.
  Laid BY PROGRAM, IN A SANDBOX (cutbox-rows.mjs): the forced cells as the released guide's own fill.sh prints them over the translation 50f19d4ee2f022a0… (all of the seat's roots in one cut). By AI agents, Wed Nov 11 2026. No macro, syntax, notation, axiom, sorry.
-/
import Derived.Test.YtpndenfhglaikaaGreatChecked
import GoSem.Claim
import GoSem.ClaimJoined
import GoSem.ClaimMapViews
import Derived.JoinedTies
import Derived.KernelRfl
namespace Go.Proofs.YtpndenfhglaikaaGreat
/- THE CELL 'sum', in the pinned program and in every row, IS THE sha256 OF THE DUMP (.gsa) THAT YtpndenfhglaikaaGreatProg.lean LOADS. Nothing in Lean hashes anything: it is a label: what it is worth is what the hold of that sum in a sandbox is worth. -/
noncomputable def Tryz.pinned : Pinned := { name := "ytpndenfhglaikaagreat", sum := "50f19d4ee2f022a0eb4da3881bf7ac8dc9f3a5242917472cadcab90f55500340", checked := Tryz.checked }
namespace Rows
def none {H : Type} : Left H := { results := [], args := [] }

/-- 'switchgearlaw03.GuardClears': WHATEVER THE INPUT: true; the input reads as it did. -/
def guardClearsSpec : ChangeSpec := { name := "guardClears", fn := fun _ => fun
  | [d1, d2, d3] => { results := [.lit (.bool true)], args := [d1, d2, d3] }
  | _ => none }
def guardClearsRow : OpenClaim := { program := "ytpndenfhglaikaagreat", sum := "50f19d4ee2f022a0eb4da3881bf7ac8dc9f3a5242917472cadcab90f55500340", func := "switchgear/switchgearlaw03.GuardClears", spec := "guardClears", unfollowed := true, recurses := true, plainKeys := false, apart := false }
def GuardClearsSaid : Prop := guardClearsRow.holds Tryz.pinned (OpenSpec.ofChange guardClearsSpec)

/-- ITS FALSE NEIGHBOUR: 'it returns false'. Refute it at one input. -/
def guardClearsWrong : ChangeSpec := { name := "guardClears", fn := fun _ => fun
  | [d1, d2, d3] => { results := [.lit (.bool false)], args := [d1, d2, d3] }
  | _ => none }
def GuardClearsWrongFalsely : Prop := guardClearsRow.holds Tryz.pinned (OpenSpec.ofChange guardClearsWrong)

/-- 'switchgearlaw03.GuardSmall': WHATEVER THE INPUT: true; the input reads as it did. -/
def guardSmallSpec : ChangeSpec := { name := "guardSmall", fn := fun _ => fun
  | [] => { results := [.lit (.bool true)], args := [] }
  | _ => none }
def guardSmallRow : OpenClaim := { program := "ytpndenfhglaikaagreat", sum := "50f19d4ee2f022a0eb4da3881bf7ac8dc9f3a5242917472cadcab90f55500340", func := "switchgear/switchgearlaw03.GuardSmall", spec := "guardSmall", unfollowed := true, recurses := true, plainKeys := false, apart := false }
def GuardSmallSaid : Prop := guardSmallRow.holds Tryz.pinned (OpenSpec.ofChange guardSmallSpec)

/-- ITS FALSE NEIGHBOUR: 'it returns false'. Refute it at one input. -/
def guardSmallWrong : ChangeSpec := { name := "guardSmall", fn := fun _ => fun
  | [] => { results := [.lit (.bool false)], args := [] }
  | _ => none }
def GuardSmallWrongFalsely : Prop := guardSmallRow.holds Tryz.pinned (OpenSpec.ofChange guardSmallWrong)

/-- 'switchgearlaw02.FlowSmall': WHATEVER THE INPUT: true; the input reads as it did. -/
def flowSmallSpec : ChangeSpec := { name := "flowSmall", fn := fun _ => fun
  | [] => { results := [.lit (.bool true)], args := [] }
  | _ => none }
def flowSmallRow : OpenClaim := { program := "ytpndenfhglaikaagreat", sum := "50f19d4ee2f022a0eb4da3881bf7ac8dc9f3a5242917472cadcab90f55500340", func := "switchgear/switchgearlaw02.FlowSmall", spec := "flowSmall", unfollowed := true, recurses := true, plainKeys := false, apart := false }
def FlowSmallSaid : Prop := flowSmallRow.holds Tryz.pinned (OpenSpec.ofChange flowSmallSpec)

/-- ITS FALSE NEIGHBOUR: 'it returns false'. Refute it at one input. -/
def flowSmallWrong : ChangeSpec := { name := "flowSmall", fn := fun _ => fun
  | [] => { results := [.lit (.bool false)], args := [] }
  | _ => none }
def FlowSmallWrongFalsely : Prop := flowSmallRow.holds Tryz.pinned (OpenSpec.ofChange flowSmallWrong)

/- THE SECOND FORM. 'bulk': how many values and letters a reading holds, each counted each time it is reached (what is shared counts as often as it is met; a slice's spare places count too). A statement '..UptoSaid' is the law's where the arguments, and the package variables that the reading takes, are together of bulk at most 1048576: NARROWER than '..Said'. Prove '..Said' where nothing that the law and all that it calls make is longer than what came in: it says more and counts as full. Else prove '..UptoSaid'. A law counts once. -/
mutual
def uptoBulk {H : Type} : DataW H → Nat
  | .lit (.string bytes) => bytes.length + 1
  | .lit _ => 1
  | .nil => 1
  | .ptr d => uptoBulk d + 1
  | .slice elems spare => uptoBulkAll elems + uptoBulkAll spare + 1
  | .agg parts => uptoBulkAll parts + 1
  | .iface _ d => uptoBulk d + 1
  | .map entries => uptoBulkEntries entries + 1
  | .held _ => 1
def uptoBulkAll {H : Type} : List (DataW H) → Nat
  | [] => 0
  | d :: r => uptoBulk d + uptoBulkAll r
def uptoBulkEntries {H : Type} : List (Lit × DataW H) → Nat
  | [] => 0
  | x :: r => uptoBulkEntry x + uptoBulkEntries r
def uptoBulkEntry {H : Type} : Lit × DataW H → Nat
  | (.string bytes, d) => bytes.length + uptoBulk d + 1
  | (_, d) => uptoBulk d + 1
 end
def uptoSmall : (H : Type) → List (DataW H) → Bool := fun _ ds => decide (uptoBulkAll ds ≤ 1048576)
def OpenSpec.upto (s : _root_.Go.ChangeSpec) : _root_.Go.OpenSpec := { _root_.Go.OpenSpec.ofChange s with cond := some uptoSmall }

/-- 'switchgearlaw03.GuardClears', WHERE WHAT IT READS IS OF BULK AT MOST 1048576: true; the input reads as it did. -/
def guardClearsUptoRow : OpenClaim := { program := "ytpndenfhglaikaagreat", sum := "50f19d4ee2f022a0eb4da3881bf7ac8dc9f3a5242917472cadcab90f55500340", func := "switchgear/switchgearlaw03.GuardClears", spec := "guardClears", unfollowed := true, recurses := true, plainKeys := false, apart := false, narrowed := true }
def GuardClearsUptoSaid : Prop := guardClearsUptoRow.holds Tryz.pinned (OpenSpec.upto guardClearsSpec)

/-- 'switchgearlaw03.GuardSmall', WHERE WHAT IT READS IS OF BULK AT MOST 1048576: true; the input reads as it did. -/
def guardSmallUptoRow : OpenClaim := { program := "ytpndenfhglaikaagreat", sum := "50f19d4ee2f022a0eb4da3881bf7ac8dc9f3a5242917472cadcab90f55500340", func := "switchgear/switchgearlaw03.GuardSmall", spec := "guardSmall", unfollowed := true, recurses := true, plainKeys := false, apart := false, narrowed := true }
def GuardSmallUptoSaid : Prop := guardSmallUptoRow.holds Tryz.pinned (OpenSpec.upto guardSmallSpec)

/-- 'switchgearlaw02.FlowSmall', WHERE WHAT IT READS IS OF BULK AT MOST 1048576: true; the input reads as it did. -/
def flowSmallUptoRow : OpenClaim := { program := "ytpndenfhglaikaagreat", sum := "50f19d4ee2f022a0eb4da3881bf7ac8dc9f3a5242917472cadcab90f55500340", func := "switchgear/switchgearlaw02.FlowSmall", spec := "flowSmall", unfollowed := true, recurses := true, plainKeys := false, apart := false, narrowed := true }
def FlowSmallUptoSaid : Prop := flowSmallUptoRow.holds Tryz.pinned (OpenSpec.upto flowSmallSpec)

end Rows
end Go.Proofs.YtpndenfhglaikaaGreat
