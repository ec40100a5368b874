/- Every run of GuardOpens on arguments that meet the statement's conditions ends and answers true. There is no condition beyond the statement's own. -/
import Derived.Test.YtpndenfhglaikaaRows
import Derived.ProofKit
import Derived.Test.YtpndenfhglaikaaRd
import Derived.Test.YtpndenfhglaikaaPu4
import Derived.Test.YtpndenfhglaikaaW2
namespace Sg
open Go Go.Proofs Go.Proofs.Ytpndenfhglaikaa Go.ChangeShapes Go.WideShapes Go.RowKit
set_option linter.all false
set_option maxRecDepth 20000
theorem rd3 : Rd Try.prog 3 1 (intC .i64) (fun n : Int => -9223372036854775808 ≤ n ∧ n ≤ 9223372036854775807) := Rd.int Try.underlying3 (by kernel_rfl)
theorem rd124 : Rd Try.prog 124 1 (intC .i64) (fun n : Int => -9223372036854775808 ≤ n ∧ n ≤ 9223372036854775807) := Rd.int Try.underlying124 (by kernel_rfl)
def sd126 (x : Source) : Prop := (fun n : Int => -9223372036854775808 ≤ n ∧ n ≤ 9223372036854775807) x.bus ∧ (fun n : Int => -9223372036854775808 ≤ n ∧ n ≤ 9223372036854775807) x.kind ∧ (fun n : Int => -9223372036854775808 ≤ n ∧ n ≤ 9223372036854775807) x.power ∧ (fun n : Int => -9223372036854775808 ≤ n ∧ n ≤ 9223372036854775807) x.sync ∧ (fun n : Int => -9223372036854775808 ≤ n ∧ n ≤ 9223372036854775807) x.ohm
theorem rd126 : Rd Try.prog 126 5 Source.cell sd126 := by
 refine ⟨by kernel_rfl, fun h => ?_⟩
 obtain ⟨hl, hf⟩ := Rd.fields Try.underlying126 (n := 5) (by kernel_rfl) h
 obtain ⟨a0, s0, c0⟩ := Rd.field (off := 0) rd3 (hf 0 _ rfl)
 obtain ⟨a1, s1, c1⟩ := Rd.field (off := 1) rd124 (hf 1 _ rfl)
 obtain ⟨a2, s2, c2⟩ := Rd.field (off := 2) rd3 (hf 2 _ rfl)
 obtain ⟨a3, s3, c3⟩ := Rd.field (off := 3) rd3 (hf 3 _ rfl)
 obtain ⟨a4, s4, c4⟩ := Rd.field (off := 4) rd3 (hf 4 _ rfl)
 exact ⟨⟨a0, a1, a2, a3, a4⟩, ⟨s0, s1, s2, s3, s4⟩, hl, fun j hj => match j, hj with | 0, _ => c0 0 (by decide) | 1, _ => c1 0 (by decide) | 2, _ => c2 0 (by decide) | 3, _ => c3 0 (by decide) | 4, _ => c4 0 (by decide)⟩
def sd22 (l : List Source) : Prop := l.length ≤ 9223372036854775807 ∧ ∀ x ∈ l, sd126 x
theorem rd22 : Rd Try.prog 22 1 (slC 5 Source.cell) sd22 := Rd.slice Try.underlying22 (by kernel_rfl) (by decide) rd126
theorem rd50 : Rd Try.prog 50 1 (intC .i64) (fun n : Int => -9223372036854775808 ≤ n ∧ n ≤ 9223372036854775807) := Rd.int Try.underlying50 (by kernel_rfl)
def sd148 (x : Trip) : Prop := (fun n : Int => -9223372036854775808 ≤ n ∧ n ≤ 9223372036854775807) x.amps ∧ (fun n : Int => -9223372036854775808 ≤ n ∧ n ≤ 9223372036854775807) x.millis
theorem rd148 : Rd Try.prog 148 2 Trip.cell sd148 := by
 refine ⟨by kernel_rfl, fun h => ?_⟩
 obtain ⟨hl, hf⟩ := Rd.fields Try.underlying148 (n := 2) (by kernel_rfl) h
 obtain ⟨a0, s0, c0⟩ := Rd.field (off := 0) rd3 (hf 0 _ rfl)
 obtain ⟨a1, s1, c1⟩ := Rd.field (off := 1) rd3 (hf 1 _ rfl)
 exact ⟨⟨a0, a1⟩, ⟨s0, s1⟩, hl, fun j hj => match j, hj with | 0, _ => c0 0 (by decide) | 1, _ => c1 0 (by decide)⟩
def sd51 (l : List Trip) : Prop := l.length ≤ 9223372036854775807 ∧ ∀ x ∈ l, sd148 x
theorem rd51 : Rd Try.prog 51 1 (slC 2 Trip.cell) sd51 := Rd.slice Try.underlying51 (by kernel_rfl) (by decide) rd148
def sd53 (x : Link) : Prop := (fun n : Int => -9223372036854775808 ≤ n ∧ n ≤ 9223372036854775807) x.a ∧ (fun n : Int => -9223372036854775808 ≤ n ∧ n ≤ 9223372036854775807) x.b ∧ (fun n : Int => -9223372036854775808 ≤ n ∧ n ≤ 9223372036854775807) x.kind ∧ (fun n : Int => -9223372036854775808 ≤ n ∧ n ≤ 9223372036854775807) x.most ∧ (fun n : Int => -9223372036854775808 ≤ n ∧ n ≤ 9223372036854775807) x.ohm ∧ sd51 x.trip
theorem rd53 : Rd Try.prog 53 6 Link.cell sd53 := by
 refine ⟨by kernel_rfl, fun h => ?_⟩
 obtain ⟨hl, hf⟩ := Rd.fields Try.underlying53 (n := 6) (by kernel_rfl) h
 obtain ⟨a0, s0, c0⟩ := Rd.field (off := 0) rd3 (hf 0 _ rfl)
 obtain ⟨a1, s1, c1⟩ := Rd.field (off := 1) rd3 (hf 1 _ rfl)
 obtain ⟨a2, s2, c2⟩ := Rd.field (off := 2) rd50 (hf 2 _ rfl)
 obtain ⟨a3, s3, c3⟩ := Rd.field (off := 3) rd3 (hf 3 _ rfl)
 obtain ⟨a4, s4, c4⟩ := Rd.field (off := 4) rd3 (hf 4 _ rfl)
 obtain ⟨a5, s5, c5⟩ := Rd.field (off := 5) rd51 (hf 5 _ rfl)
 exact ⟨⟨a0, a1, a2, a3, a4, a5⟩, ⟨s0, s1, s2, s3, s4, s5⟩, hl, fun j hj => match j, hj with | 0, _ => c0 0 (by decide) | 1, _ => c1 0 (by decide) | 2, _ => c2 0 (by decide) | 3, _ => c3 0 (by decide) | 4, _ => c4 0 (by decide) | 5, _ => c5 0 (by decide)⟩
def sd23 (l : List Link) : Prop := l.length ≤ 9223372036854775807 ∧ ∀ x ∈ l, sd53 x
theorem rd23 : Rd Try.prog 23 1 (slC 6 Link.cell) sd23 := Rd.slice Try.underlying23 (by kernel_rfl) (by decide) rd53
def sd164 (x : Arr2Int) : Prop := (fun n : Int => -9223372036854775808 ≤ n ∧ n ≤ 9223372036854775807) x.e0 ∧ (fun n : Int => -9223372036854775808 ≤ n ∧ n ≤ 9223372036854775807) x.e1
theorem rd164 : Rd Try.prog 164 2 Arr2Int.cell sd164 := by
 refine ⟨by kernel_rfl, fun h => ?_⟩
 obtain ⟨hl, hf⟩ := Rd.elems Try.underlying164 (n := 2) (by kernel_rfl) h
 obtain ⟨a0, s0, c0⟩ := Rd.field (off := 0) rd3 (hf 0 (by decide))
 obtain ⟨a1, s1, c1⟩ := Rd.field (off := 1) rd3 (hf 1 (by decide))
 exact ⟨⟨a0, a1⟩, ⟨s0, s1⟩, hl, fun j hj => match j, hj with | 0, _ => c0 0 (by decide) | 1, _ => c1 0 (by decide)⟩
def sd166 (x : Rack) : Prop := sd164 x.feeds ∧ (fun n : Int => -9223372036854775808 ≤ n ∧ n ≤ 9223372036854775807) x.power ∧ (fun n : Int => -9223372036854775808 ≤ n ∧ n ≤ 9223372036854775807) x.paths
theorem rd166 : Rd Try.prog 166 4 Rack.cell sd166 := by
 refine ⟨by kernel_rfl, fun h => ?_⟩
 obtain ⟨hl, hf⟩ := Rd.fields Try.underlying166 (n := 4) (by kernel_rfl) h
 obtain ⟨a0, s0, c0⟩ := Rd.field (off := 0) rd164 (hf 0 _ rfl)
 obtain ⟨a1, s1, c1⟩ := Rd.field (off := 2) rd3 (hf 1 _ rfl)
 obtain ⟨a2, s2, c2⟩ := Rd.field (off := 3) rd3 (hf 2 _ rfl)
 exact ⟨⟨a0, a1, a2⟩, ⟨s0, s1, s2⟩, hl, fun j hj => match j, hj with | 0, _ => c0 0 (by decide) | 1, _ => c0 1 (by decide) | 2, _ => c1 0 (by decide) | 3, _ => c2 0 (by decide)⟩
def sd24 (l : List Rack) : Prop := l.length ≤ 9223372036854775807 ∧ ∀ x ∈ l, sd166 x
theorem rd24 : Rd Try.prog 24 1 (slC 4 Rack.cell) sd24 := Rd.slice Try.underlying24 (by kernel_rfl) (by decide) rd166
def sd26 (x : Plant) : Prop := (fun n : Int => -9223372036854775808 ≤ n ∧ n ≤ 9223372036854775807) x.buses ∧ sd22 x.sources ∧ sd23 x.links ∧ sd24 x.racks
theorem rd26 : Rd Try.prog 26 4 Plant.cell sd26 := by
 refine ⟨by kernel_rfl, fun h => ?_⟩
 obtain ⟨hl, hf⟩ := Rd.fields Try.underlying26 (n := 4) (by kernel_rfl) h
 obtain ⟨a0, s0, c0⟩ := Rd.field (off := 0) rd3 (hf 0 _ rfl)
 obtain ⟨a1, s1, c1⟩ := Rd.field (off := 1) rd22 (hf 1 _ rfl)
 obtain ⟨a2, s2, c2⟩ := Rd.field (off := 2) rd23 (hf 2 _ rfl)
 obtain ⟨a3, s3, c3⟩ := Rd.field (off := 3) rd24 (hf 3 _ rfl)
 exact ⟨⟨a0, a1, a2, a3⟩, ⟨s0, s1, s2, s3⟩, hl, fun j hj => match j, hj with | 0, _ => c0 0 (by decide) | 1, _ => c1 0 (by decide) | 2, _ => c2 0 (by decide) | 3, _ => c3 0 (by decide)⟩
theorem rd4 : Rd Try.prog 4 1 boolC (fun _ : Bool => True) := Rd.bool Try.underlying4 (by kernel_rfl)
def sd27 (l : List Bool) : Prop := l.length ≤ 9223372036854775807 ∧ ∀ x ∈ l, (fun _ : Bool => True) x
theorem rd27 : Rd Try.prog 27 1 (slC 1 boolC) sd27 := Rd.slice Try.underlying27 (by kernel_rfl) (by decide) rd4
def sd29 (x : State) : Prop := sd27 x.closed ∧ sd27 x.locked ∧ sd27 x.badLink ∧ sd27 x.on_ ∧ sd27 x.badSource ∧ sd27 x.earthed ∧ sd27 x.badBus
theorem rd29 : Rd Try.prog 29 7 State.cell sd29 := by
 refine ⟨by kernel_rfl, fun h => ?_⟩
 obtain ⟨hl, hf⟩ := Rd.fields Try.underlying29 (n := 7) (by kernel_rfl) h
 obtain ⟨a0, s0, c0⟩ := Rd.field (off := 0) rd27 (hf 0 _ rfl)
 obtain ⟨a1, s1, c1⟩ := Rd.field (off := 1) rd27 (hf 1 _ rfl)
 obtain ⟨a2, s2, c2⟩ := Rd.field (off := 2) rd27 (hf 2 _ rfl)
 obtain ⟨a3, s3, c3⟩ := Rd.field (off := 3) rd27 (hf 3 _ rfl)
 obtain ⟨a4, s4, c4⟩ := Rd.field (off := 4) rd27 (hf 4 _ rfl)
 obtain ⟨a5, s5, c5⟩ := Rd.field (off := 5) rd27 (hf 5 _ rfl)
 obtain ⟨a6, s6, c6⟩ := Rd.field (off := 6) rd27 (hf 6 _ rfl)
 exact ⟨⟨a0, a1, a2, a3, a4, a5, a6⟩, ⟨s0, s1, s2, s3, s4, s5, s6⟩, hl, fun j hj => match j, hj with | 0, _ => c0 0 (by decide) | 1, _ => c1 0 (by decide) | 2, _ => c2 0 (by decide) | 3, _ => c3 0 (by decide) | 4, _ => c4 0 (by decide) | 5, _ => c5 0 (by decide) | 6, _ => c6 0 (by decide)⟩
end Sg
namespace Go.Proofs.Ytpndenfhglaikaa
open Sg Go.ChangeShapes Go.WideShapes Go.ChangeAt Go.RowKit
set_option linter.all false
theorem Try.own : ownKnob Try.prog.godebug = none := by kernel_rfl
theorem Try.laidOut : laidOutB Try.prog = true := by kernel_rfl
set_option maxRecDepth 100000 in
theorem guardOpens_contract (H : Type) (enc : TypeId × Value → H) (W : World) (base : Nat) (args : Array Value) (ds gs : List (DataW H)) (before : List MemPlace)
  (hval : ∀ (j : Nat) t v, Try.f4.params[j]? = some t → args[j]? = some v → Value.okWide Try.prog W .any base t v)
  (hW : DataW.Whole enc Try.prog Try.f4.params.toList Rows.guardOpensSpec.vars false W args.toList ds gs before) :
  Calls Try.prog 4 args W fun e W' => ∃ v, e = .returned v ∧ Rows.guardOpensSpec.post enc Try.prog Try.f4 false true false false W args v W' := by
 have hW' := hW
 obtain ⟨p, q, hA0, hV, rfl, hfz, hnd⟩ := hW
 have hA : DataW.TrodAll enc Try.prog W 0 (fun _ => true) true Try.f4.params.toList args.toList ds p := hA0
 rw [Try.params4] at hA hval
 obtain ⟨v0, l0, d0, e0, p0, q0, hv0, hd0, hp0, h0, r0⟩ := trodAll_cons hA
 obtain ⟨v1, l1, d1, e1, p1, q1, hv1, hd1, hp1, h1, r1⟩ := trodAll_cons r0
 obtain ⟨v2, l2, d2, e2, p2, q2, hv2, hd2, hp2, h2, r2⟩ := trodAll_cons r1
 obtain ⟨hvz, hdz, hpz⟩ := trodAll_nil r2
 have hgs := (trodVars_none hV).1
 have hargs : args = #[v0, v1, v2] := by
  have : args.toList = [v0, v1, v2] := by rw [hv0, hv1, hv2, hvz]
  cases args; simp at this; rw [this]
 have hds : ds = [d0, d1, d2] := by rw [hd0, hd1, hd2, hdz]
 subst hargs
 obtain ⟨a0, s0, c0⟩ := Rd.agg rd26 Try.underlying26 (hval 0 26 v0 rfl rfl) h0
 obtain ⟨a1, s1, c1⟩ := Rd.agg rd29 Try.underlying29 (hval 1 29 v1 rfl rfl) h1
 obtain ⟨a2, s2, c2⟩ := Rd.one rd3 (one_int Try.underlying3 (hval 2 3 v2 rfl rfl)) h2
 have hm : m_law03_GuardOpens a0 a1 a2 = some true := guardOpens_true a0 a1 a2 ⟨s0.2.1.1, s0.2.2.1.1, s0.2.2.2.1, fun x hx => (s0.2.2.1.2 x hx).2.2.2.2.2.1⟩
 refine (law_calls (vs := [v0, v1, v2]) (m_law03_GuardOpens_ok a0 a1 a2 hm) ⟨c0, c1, c2, trivial⟩).mono fun e W' ⟨he, hb⟩ => ⟨_, he, ?_⟩
 refine law_post (t4 := 4) rfl hW' ?_ ?_ ?_ rfl Try.underlying4 Try.laidOut ?_ hb
 ·rw [hds, hgs]; rfl
 ·rw [hds, hgs]; rfl
 ·rw [hds, hgs]; rfl
 ·intro t ht
  rw [Try.params4] at ht
  simp at ht
  rcases ht with rfl | rfl | rfl <;> exact ⟨by kernel_rfl, of_decide_eq_true (by kernel_rfl)⟩
set_option maxRecDepth 100000 in
theorem guardOpens_lifted (os : Os) (started : os.Started) (H : Type) (enc : TypeId × Value → H) :
  ReturnsInHanded {} Try.checked os 4 .any (Rows.guardOpensSpec.pre6 enc Try.prog Try.f4 Rows.guardOpensRow.domain false) (Rows.guardOpensSpec.post enc Try.prog Try.f4 false true false false) := by
 refine returnsInHanded_of_change (C := Try.checked) Try.own started (by kernel_rfl) Try.func4
  (ChangeSpec.witness6 (enc := enc) (C := Try.checked) false ⟨#[], #[.agg #[.int .i64 0, .slice none 0 0, .slice none 0 0, .slice none 0 0], .agg #[.slice none 0 0, .slice none 0 0, .slice none 0 0, .slice none 0 0, .slice none 0 0, .slice none 0 0, .slice none 0 0], .int .i64 0], []⟩ 16 (by kernel_rfl) (by kernel_rfl) (by kernel_rfl) (by kernel_rfl)) ?_
 intro W base args ds gs before hval hW _ _
 exact guardOpens_contract H enc W base args ds gs before hval hW
theorem guardOpens_holds : Rows.GuardOpensSaid :=
 OpenClaim.holds_of_wide 4 Try.f4 rfl rfl rfl rfl rfl rfl rfl ⟨rfl, rfl, rfl, rfl, rfl⟩ rfl rfl rfl rfl rfl (by kernel_rfl) Try.func4 (by kernel_rfl)
  (of_decide_eq_true (by kernel_rfl)) (by unfold Func.isWrapper; first | (rw [if_pos (by decide +kernel)]; kernel_rfl) | (rw [if_neg (by decide +kernel)]; exact ⟨rfl, rfl⟩))
  (fun os started H enc _ => guardOpens_lifted os started H enc)
end Go.Proofs.Ytpndenfhglaikaa
