/-
  No cell of these rows narrows 'for every input' (looked for: loops, veiled, ifaces, maps, wideKeys, modest, calm, conditions, laid).
  DERIVED. THE GIVEN ROWS OF THIS SEAT. 7 by the template 'for every input the law returns true; each argument reads behind the call as it read before'; 0 by the template 'total and deterministic' (their statements: YtklofnlffikpgaaGreatTotals.lean).
  GIVEN WITH THE SEED: the statements are not yours to turn. If you find one false, say at which input.
  Laid BY PROGRAM, IN A SANDBOX (cutbox-rows.mjs): the forced cells as the released guide's own fill.sh prints them over the translation a43850a16662177c… (all of the seat's roots in one cut). By AI agents, Wed Nov 11 2026. No macro, syntax, notation, axiom, sorry.
-/
import Derived.Test.YtklofnlffikpgaaGreatChecked
import GoSem.Claim
import GoSem.ClaimJoined
import GoSem.ClaimMapViews
import Derived.JoinedTies
import Derived.KernelRfl
namespace Go.Proofs.YtklofnlffikpgaaGreat
/- THE CELL 'sum', in the pinned program and in every row, IS THE sha256 OF THE DUMP (.gsa) THAT YtklofnlffikpgaaGreatProg.lean LOADS. Nothing in Lean hashes anything: it is a label: what it is worth is what the hold of that sum in a sandbox is worth. -/
noncomputable def Tryz.pinned : Pinned := { name := "ytklofnlffikpgaagreat", sum := "a43850a16662177c97afb77042d2886e480976f69d48fb0b618c11f78b38961d", checked := Tryz.checked }
namespace Rows
def none {H : Type} : Left H := { results := [], args := [] }

/-- 'switchgearlaw05.PathsHarmless': WHATEVER THE INPUT: true; the input reads as it did. -/
def pathsHarmlessSpec : ChangeSpec := { name := "pathsHarmless", fn := fun _ => fun
  | [d1, d2, d3] => { results := [.lit (.bool true)], args := [d1, d2, d3] }
  | _ => none }
def pathsHarmlessRow : OpenClaim := { program := "ytklofnlffikpgaagreat", sum := "a43850a16662177c97afb77042d2886e480976f69d48fb0b618c11f78b38961d", func := "switchgear/switchgearlaw05.PathsHarmless", spec := "pathsHarmless", unfollowed := true, recurses := true, apart := false }
def PathsHarmlessSaid : Prop := pathsHarmlessRow.holds Tryz.pinned (OpenSpec.ofChange pathsHarmlessSpec)

/-- ITS FALSE NEIGHBOUR: 'it returns false'. Refute it at one input. -/
def pathsHarmlessWrong : ChangeSpec := { name := "pathsHarmless", fn := fun _ => fun
  | [d1, d2, d3] => { results := [.lit (.bool false)], args := [d1, d2, d3] }
  | _ => none }
def PathsHarmlessWrongFalsely : Prop := pathsHarmlessRow.holds Tryz.pinned (OpenSpec.ofChange pathsHarmlessWrong)

/-- 'switchgearlaw05.PathsSettles': WHATEVER THE INPUT: true; the input reads as it did. -/
def pathsSettlesSpec : ChangeSpec := { name := "pathsSettles", fn := fun _ => fun
  | [d1, d2, d3, d4] => { results := [.lit (.bool true)], args := [d1, d2, d3, d4] }
  | _ => none }
def pathsSettlesRow : OpenClaim := { program := "ytklofnlffikpgaagreat", sum := "a43850a16662177c97afb77042d2886e480976f69d48fb0b618c11f78b38961d", func := "switchgear/switchgearlaw05.PathsSettles", spec := "pathsSettles", unfollowed := true, recurses := true, apart := false }
def PathsSettlesSaid : Prop := pathsSettlesRow.holds Tryz.pinned (OpenSpec.ofChange pathsSettlesSpec)

/-- ITS FALSE NEIGHBOUR: 'it returns false'. Refute it at one input. -/
def pathsSettlesWrong : ChangeSpec := { name := "pathsSettles", fn := fun _ => fun
  | [d1, d2, d3, d4] => { results := [.lit (.bool false)], args := [d1, d2, d3, d4] }
  | _ => none }
def PathsSettlesWrongFalsely : Prop := pathsSettlesRow.holds Tryz.pinned (OpenSpec.ofChange pathsSettlesWrong)

/-- 'switchgearlaw05.PathsCounts': WHATEVER THE INPUT: true; the input reads as it did. -/
def pathsCountsSpec : ChangeSpec := { name := "pathsCounts", fn := fun _ => fun
  | [d1, d2, d3, d4] => { results := [.lit (.bool true)], args := [d1, d2, d3, d4] }
  | _ => none }
def pathsCountsRow : OpenClaim := { program := "ytklofnlffikpgaagreat", sum := "a43850a16662177c97afb77042d2886e480976f69d48fb0b618c11f78b38961d", func := "switchgear/switchgearlaw05.PathsCounts", spec := "pathsCounts", unfollowed := true, recurses := true, apart := false }
def PathsCountsSaid : Prop := pathsCountsRow.holds Tryz.pinned (OpenSpec.ofChange pathsCountsSpec)

/-- ITS FALSE NEIGHBOUR: 'it returns false'. Refute it at one input. -/
def pathsCountsWrong : ChangeSpec := { name := "pathsCounts", fn := fun _ => fun
  | [d1, d2, d3, d4] => { results := [.lit (.bool false)], args := [d1, d2, d3, d4] }
  | _ => none }
def PathsCountsWrongFalsely : Prop := pathsCountsRow.holds Tryz.pinned (OpenSpec.ofChange pathsCountsWrong)

/-- 'switchgearlaw05.PathsFails': WHATEVER THE INPUT: true; the input reads as it did. -/
def pathsFailsSpec : ChangeSpec := { name := "pathsFails", fn := fun _ => fun
  | [d1, d2, d3, d4] => { results := [.lit (.bool true)], args := [d1, d2, d3, d4] }
  | _ => none }
def pathsFailsRow : OpenClaim := { program := "ytklofnlffikpgaagreat", sum := "a43850a16662177c97afb77042d2886e480976f69d48fb0b618c11f78b38961d", func := "switchgear/switchgearlaw05.PathsFails", spec := "pathsFails", unfollowed := true, recurses := true, apart := false }
def PathsFailsSaid : Prop := pathsFailsRow.holds Tryz.pinned (OpenSpec.ofChange pathsFailsSpec)

/-- ITS FALSE NEIGHBOUR: 'it returns false'. Refute it at one input. -/
def pathsFailsWrong : ChangeSpec := { name := "pathsFails", fn := fun _ => fun
  | [d1, d2, d3, d4] => { results := [.lit (.bool false)], args := [d1, d2, d3, d4] }
  | _ => none }
def PathsFailsWrongFalsely : Prop := pathsFailsRow.holds Tryz.pinned (OpenSpec.ofChange pathsFailsWrong)

/-- 'switchgearlaw05.PathsTwo': WHATEVER THE INPUT: true; the input reads as it did. -/
def pathsTwoSpec : ChangeSpec := { name := "pathsTwo", fn := fun _ => fun
  | [d1, d2, d3, d4] => { results := [.lit (.bool true)], args := [d1, d2, d3, d4] }
  | _ => none }
def pathsTwoRow : OpenClaim := { program := "ytklofnlffikpgaagreat", sum := "a43850a16662177c97afb77042d2886e480976f69d48fb0b618c11f78b38961d", func := "switchgear/switchgearlaw05.PathsTwo", spec := "pathsTwo", unfollowed := true, recurses := true, apart := false }
def PathsTwoSaid : Prop := pathsTwoRow.holds Tryz.pinned (OpenSpec.ofChange pathsTwoSpec)

/-- ITS FALSE NEIGHBOUR: 'it returns false'. Refute it at one input. -/
def pathsTwoWrong : ChangeSpec := { name := "pathsTwo", fn := fun _ => fun
  | [d1, d2, d3, d4] => { results := [.lit (.bool false)], args := [d1, d2, d3, d4] }
  | _ => none }
def PathsTwoWrongFalsely : Prop := pathsTwoRow.holds Tryz.pinned (OpenSpec.ofChange pathsTwoWrong)

/-- 'switchgearlaw05.PathsBroken': WHATEVER THE INPUT: true; the input reads as it did. -/
def pathsBrokenSpec : ChangeSpec := { name := "pathsBroken", fn := fun _ => fun
  | [d1, d2, d3] => { results := [.lit (.bool true)], args := [d1, d2, d3] }
  | _ => none }
def pathsBrokenRow : OpenClaim := { program := "ytklofnlffikpgaagreat", sum := "a43850a16662177c97afb77042d2886e480976f69d48fb0b618c11f78b38961d", func := "switchgear/switchgearlaw05.PathsBroken", spec := "pathsBroken", unfollowed := true, recurses := true, apart := false }
def PathsBrokenSaid : Prop := pathsBrokenRow.holds Tryz.pinned (OpenSpec.ofChange pathsBrokenSpec)

/-- ITS FALSE NEIGHBOUR: 'it returns false'. Refute it at one input. -/
def pathsBrokenWrong : ChangeSpec := { name := "pathsBroken", fn := fun _ => fun
  | [d1, d2, d3] => { results := [.lit (.bool false)], args := [d1, d2, d3] }
  | _ => none }
def PathsBrokenWrongFalsely : Prop := pathsBrokenRow.holds Tryz.pinned (OpenSpec.ofChange pathsBrokenWrong)

/-- 'switchgearlaw05.PathsSmall': WHATEVER THE INPUT: true; the input reads as it did. -/
def pathsSmallSpec : ChangeSpec := { name := "pathsSmall", fn := fun _ => fun
  | [] => { results := [.lit (.bool true)], args := [] }
  | _ => none }
def pathsSmallRow : OpenClaim := { program := "ytklofnlffikpgaagreat", sum := "a43850a16662177c97afb77042d2886e480976f69d48fb0b618c11f78b38961d", func := "switchgear/switchgearlaw05.PathsSmall", spec := "pathsSmall", unfollowed := true, recurses := true, apart := false }
def PathsSmallSaid : Prop := pathsSmallRow.holds Tryz.pinned (OpenSpec.ofChange pathsSmallSpec)

/-- ITS FALSE NEIGHBOUR: 'it returns false'. Refute it at one input. -/
def pathsSmallWrong : ChangeSpec := { name := "pathsSmall", fn := fun _ => fun
  | [] => { results := [.lit (.bool false)], args := [] }
  | _ => none }
def PathsSmallWrongFalsely : Prop := pathsSmallRow.holds Tryz.pinned (OpenSpec.ofChange pathsSmallWrong)

/- THE SECOND FORM. 'bulk': how many values and letters a reading holds, each counted each time it is reached (what is shared counts as often as it is met; a slice's spare places count too). A statement '..UptoSaid' is the law's where the arguments, and the package variables that the reading takes, are together of bulk at most 1048576: NARROWER than '..Said'. Prove '..Said' where nothing that the law and all that it calls make is longer than what came in: it says more and counts as full. Else prove '..UptoSaid'. A law counts once. -/
mutual
def uptoBulk {H : Type} : DataW H → Nat
  | .lit (.string bytes) => bytes.length + 1
  | .lit _ => 1
  | .nil => 1
  | .ptr d => uptoBulk d + 1
  | .slice elems spare => uptoBulkAll elems + uptoBulkAll spare + 1
  | .agg parts => uptoBulkAll parts + 1
  | .iface _ d => uptoBulk d + 1
  | .map entries => uptoBulkEntries entries + 1
  | .held _ => 1
def uptoBulkAll {H : Type} : List (DataW H) → Nat
  | [] => 0
  | d :: r => uptoBulk d + uptoBulkAll r
def uptoBulkEntries {H : Type} : List (Lit × DataW H) → Nat
  | [] => 0
  | x :: r => uptoBulkEntry x + uptoBulkEntries r
def uptoBulkEntry {H : Type} : Lit × DataW H → Nat
  | (.string bytes, d) => bytes.length + uptoBulk d + 1
  | (_, d) => uptoBulk d + 1
 end
def uptoSmall : (H : Type) → List (DataW H) → Bool := fun _ ds => decide (uptoBulkAll ds ≤ 1048576)
def OpenSpec.upto (s : _root_.Go.ChangeSpec) : _root_.Go.OpenSpec := { _root_.Go.OpenSpec.ofChange s with cond := some uptoSmall }

/-- 'switchgearlaw05.PathsHarmless', WHERE WHAT IT READS IS OF BULK AT MOST 1048576: true; the input reads as it did. -/
def pathsHarmlessUptoRow : OpenClaim := { program := "ytklofnlffikpgaagreat", sum := "a43850a16662177c97afb77042d2886e480976f69d48fb0b618c11f78b38961d", func := "switchgear/switchgearlaw05.PathsHarmless", spec := "pathsHarmless", unfollowed := true, recurses := true, apart := false, narrowed := true }
def PathsHarmlessUptoSaid : Prop := pathsHarmlessUptoRow.holds Tryz.pinned (OpenSpec.upto pathsHarmlessSpec)

/-- 'switchgearlaw05.PathsSettles', WHERE WHAT IT READS IS OF BULK AT MOST 1048576: true; the input reads as it did. -/
def pathsSettlesUptoRow : OpenClaim := { program := "ytklofnlffikpgaagreat", sum := "a43850a16662177c97afb77042d2886e480976f69d48fb0b618c11f78b38961d", func := "switchgear/switchgearlaw05.PathsSettles", spec := "pathsSettles", unfollowed := true, recurses := true, apart := false, narrowed := true }
def PathsSettlesUptoSaid : Prop := pathsSettlesUptoRow.holds Tryz.pinned (OpenSpec.upto pathsSettlesSpec)

/-- 'switchgearlaw05.PathsCounts', WHERE WHAT IT READS IS OF BULK AT MOST 1048576: true; the input reads as it did. -/
def pathsCountsUptoRow : OpenClaim := { program := "ytklofnlffikpgaagreat", sum := "a43850a16662177c97afb77042d2886e480976f69d48fb0b618c11f78b38961d", func := "switchgear/switchgearlaw05.PathsCounts", spec := "pathsCounts", unfollowed := true, recurses := true, apart := false, narrowed := true }
def PathsCountsUptoSaid : Prop := pathsCountsUptoRow.holds Tryz.pinned (OpenSpec.upto pathsCountsSpec)

/-- 'switchgearlaw05.PathsFails', WHERE WHAT IT READS IS OF BULK AT MOST 1048576: true; the input reads as it did. -/
def pathsFailsUptoRow : OpenClaim := { program := "ytklofnlffikpgaagreat", sum := "a43850a16662177c97afb77042d2886e480976f69d48fb0b618c11f78b38961d", func := "switchgear/switchgearlaw05.PathsFails", spec := "pathsFails", unfollowed := true, recurses := true, apart := false, narrowed := true }
def PathsFailsUptoSaid : Prop := pathsFailsUptoRow.holds Tryz.pinned (OpenSpec.upto pathsFailsSpec)

/-- 'switchgearlaw05.PathsTwo', WHERE WHAT IT READS IS OF BULK AT MOST 1048576: true; the input reads as it did. -/
def pathsTwoUptoRow : OpenClaim := { program := "ytklofnlffikpgaagreat", sum := "a43850a16662177c97afb77042d2886e480976f69d48fb0b618c11f78b38961d", func := "switchgear/switchgearlaw05.PathsTwo", spec := "pathsTwo", unfollowed := true, recurses := true, apart := false, narrowed := true }
def PathsTwoUptoSaid : Prop := pathsTwoUptoRow.holds Tryz.pinned (OpenSpec.upto pathsTwoSpec)

/-- 'switchgearlaw05.PathsBroken', WHERE WHAT IT READS IS OF BULK AT MOST 1048576: true; the input reads as it did. -/
def pathsBrokenUptoRow : OpenClaim := { program := "ytklofnlffikpgaagreat", sum := "a43850a16662177c97afb77042d2886e480976f69d48fb0b618c11f78b38961d", func := "switchgear/switchgearlaw05.PathsBroken", spec := "pathsBroken", unfollowed := true, recurses := true, apart := false, narrowed := true }
def PathsBrokenUptoSaid : Prop := pathsBrokenUptoRow.holds Tryz.pinned (OpenSpec.upto pathsBrokenSpec)

/-- 'switchgearlaw05.PathsSmall', WHERE WHAT IT READS IS OF BULK AT MOST 1048576: true; the input reads as it did. -/
def pathsSmallUptoRow : OpenClaim := { program := "ytklofnlffikpgaagreat", sum := "a43850a16662177c97afb77042d2886e480976f69d48fb0b618c11f78b38961d", func := "switchgear/switchgearlaw05.PathsSmall", spec := "pathsSmall", unfollowed := true, recurses := true, apart := false, narrowed := true }
def PathsSmallUptoSaid : Prop := pathsSmallUptoRow.holds Tryz.pinned (OpenSpec.upto pathsSmallSpec)

end Rows
end Go.Proofs.YtklofnlffikpgaaGreat
