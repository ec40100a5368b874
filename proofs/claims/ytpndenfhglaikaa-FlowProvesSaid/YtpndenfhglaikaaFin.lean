/- FlowProves: for every plant, state and cuts, the law that holds what Serve returns against Certify and against other cuts returns true (no conditions). -/
import Derived.Test.YtpndenfhglaikaaRows
import Derived.ProofKit
import Derived.Test.YtpndenfhglaikaaLc
import Derived.Test.YtpndenfhglaikaaLd
import Derived.Test.YtpndenfhglaikaaW2
set_option linter.all false
namespace Sg
open Go Go.Proofs Go.Proofs.Ytpndenfhglaikaa Go.ChangeShapes Go.WideShapes Go.RowKit
set_option maxRecDepth 20000
theorem Pm:Rd Try.prog 3 1 (au .i64) (fun n:Int=> -9223372036854775808≤n∧n≤9223372036854775807):=Rd.int Try.underlying3 (by kernel_rfl)
theorem afG:Rd Try.prog 124 1 (au .i64) (fun n:Int=> -9223372036854775808≤n∧n≤9223372036854775807):=Rd.int Try.underlying124 (by kernel_rfl)
def Yk (x:Source):Prop:=(fun n:Int=> -9223372036854775808≤n∧n≤9223372036854775807) x.bus∧(fun n:Int=> -9223372036854775808≤n∧n≤9223372036854775807) x.kind∧(fun n:Int=> -9223372036854775808≤n∧n≤9223372036854775807) x.power∧(fun n:Int=> -9223372036854775808≤n∧n≤9223372036854775807) x.sync∧(fun n:Int=> -9223372036854775808≤n∧n≤9223372036854775807) x.iL
theorem abK:Rd Try.prog 126 5 Source.cell Yk:=by
 refine⟨by kernel_rfl,fun h=> ?_⟩
 obtain⟨hl,hf⟩:=Rd.fields Try.underlying126 (n:=5) (by kernel_rfl) h
 obtain⟨a0,s0,c0⟩:=Rd.field (off:=0) Pm (hf 0 _ rfl)
 obtain⟨a1,s1,c1⟩:=Rd.field (off:=1) afG (hf 1 _ rfl)
 obtain⟨a2,s2,c2⟩:=Rd.field (off:=2) Pm (hf 2 _ rfl)
 obtain⟨a3,s3,c3⟩:=Rd.field (off:=3) Pm (hf 3 _ rfl)
 obtain⟨a4,s4,c4⟩:=Rd.field (off:=4) Pm (hf 4 _ rfl)
 exact⟨⟨a0,a1,a2,a3,a4⟩,⟨s0,s1,s2,s3,s4⟩,hl,fun j hj=>match j,hj with|0,_=>c0 0 (by decide)|1,_=>c1 0 (by decide)|2,_=>c2 0 (by decide)|3,_=>c3 0 (by decide)|4,_=>c4 0 (by decide)⟩
def adA (l:List Source):Prop:=l.length≤9223372036854775807∧ ∀x∈l,Yk x
theorem ahh:Rd Try.prog 22 1 (IU 5 Source.cell) adA:=Rd.slice Try.underlying22 (by kernel_rfl) (by decide) abK
theorem ahd:Rd Try.prog 50 1 (au .i64) (fun n:Int=> -9223372036854775808≤n∧n≤9223372036854775807):=Rd.int Try.underlying50 (by kernel_rfl)
def YB (x:iQ):Prop:=(fun n:Int=> -9223372036854775808≤n∧n≤9223372036854775807) x.amps∧(fun n:Int=> -9223372036854775808≤n∧n≤9223372036854775807) x.millis
theorem agu:Rd Try.prog 148 2 iQ.cell YB:=by
 refine⟨by kernel_rfl,fun h=> ?_⟩
 obtain⟨hl,hf⟩:=Rd.fields Try.underlying148 (n:=2) (by kernel_rfl) h
 obtain⟨a0,s0,c0⟩:=Rd.field (off:=0) Pm (hf 0 _ rfl)
 obtain⟨a1,s1,c1⟩:=Rd.field (off:=1) Pm (hf 1 _ rfl)
 exact⟨⟨a0,a1⟩,⟨s0,s1⟩,hl,fun j hj=>match j,hj with|0,_=>c0 0 (by decide)|1,_=>c1 0 (by decide)⟩
def agi (l:List iQ):Prop:=l.length≤9223372036854775807∧ ∀x∈l,YB x
theorem ag0:Rd Try.prog 51 1 (IU 2 iQ.cell) agi:=Rd.slice Try.underlying51 (by kernel_rfl) (by decide) agu
def aco (x:Link):Prop:=(fun n:Int=> -9223372036854775808≤n∧n≤9223372036854775807) x.a∧(fun n:Int=> -9223372036854775808≤n∧n≤9223372036854775807) x.b∧(fun n:Int=> -9223372036854775808≤n∧n≤9223372036854775807) x.kind∧(fun n:Int=> -9223372036854775808≤n∧n≤9223372036854775807) x.most∧(fun n:Int=> -9223372036854775808≤n∧n≤9223372036854775807) x.iL∧agi x.trip
theorem ag5:Rd Try.prog 53 6 Link.cell aco:=by
 refine⟨by kernel_rfl,fun h=> ?_⟩
 obtain⟨hl,hf⟩:=Rd.fields Try.underlying53 (n:=6) (by kernel_rfl) h
 obtain⟨a0,s0,c0⟩:=Rd.field (off:=0) Pm (hf 0 _ rfl)
 obtain⟨a1,s1,c1⟩:=Rd.field (off:=1) Pm (hf 1 _ rfl)
 obtain⟨a2,s2,c2⟩:=Rd.field (off:=2) ahd (hf 2 _ rfl)
 obtain⟨a3,s3,c3⟩:=Rd.field (off:=3) Pm (hf 3 _ rfl)
 obtain⟨a4,s4,c4⟩:=Rd.field (off:=4) Pm (hf 4 _ rfl)
 obtain⟨a5,s5,c5⟩:=Rd.field (off:=5) ag0 (hf 5 _ rfl)
 exact⟨⟨a0,a1,a2,a3,a4,a5⟩,⟨s0,s1,s2,s3,s4,s5⟩,hl,fun j hj=>match j,hj with|0,_=>c0 0 (by decide)|1,_=>c1 0 (by decide)|2,_=>c2 0 (by decide)|3,_=>c3 0 (by decide)|4,_=>c4 0 (by decide)|5,_=>c5 0 (by decide)⟩
def acS (l:List Link):Prop:=l.length≤9223372036854775807∧ ∀x∈l,aco x
theorem agY:Rd Try.prog 23 1 (IU 6 Link.cell) acS:=Rd.slice Try.underlying23 (by kernel_rfl) (by decide) ag5
def Yn (x:af):Prop:=(fun n:Int=> -9223372036854775808≤n∧n≤9223372036854775807) x.e0∧(fun n:Int=> -9223372036854775808≤n∧n≤9223372036854775807) x.e1
theorem aeR:Rd Try.prog 164 2 af.cell Yn:=by
 refine⟨by kernel_rfl,fun h=> ?_⟩
 obtain⟨hl,hf⟩:=Rd.elems Try.underlying164 (n:=2) (by kernel_rfl) h
 obtain⟨a0,s0,c0⟩:=Rd.field (off:=0) Pm (hf 0 (by decide))
 obtain⟨a1,s1,c1⟩:=Rd.field (off:=1) Pm (hf 1 (by decide))
 exact⟨⟨a0,a1⟩,⟨s0,s1⟩,hl,fun j hj=>match j,hj with|0,_=>c0 0 (by decide)|1,_=>c1 0 (by decide)⟩
def Yh (x:ay):Prop:=Yn x.feeds∧(fun n:Int=> -9223372036854775808≤n∧n≤9223372036854775807) x.power∧(fun n:Int=> -9223372036854775808≤n∧n≤9223372036854775807) x.paths
theorem agF:Rd Try.prog 166 4 ay.cell Yh:=by
 refine⟨by kernel_rfl,fun h=> ?_⟩
 obtain⟨hl,hf⟩:=Rd.fields Try.underlying166 (n:=4) (by kernel_rfl) h
 obtain⟨a0,s0,c0⟩:=Rd.field (off:=0) aeR (hf 0 _ rfl)
 obtain⟨a1,s1,c1⟩:=Rd.field (off:=2) Pm (hf 1 _ rfl)
 obtain⟨a2,s2,c2⟩:=Rd.field (off:=3) Pm (hf 2 _ rfl)
 exact⟨⟨a0,a1,a2⟩,⟨s0,s1,s2⟩,hl,fun j hj=>match j,hj with|0,_=>c0 0 (by decide)|1,_=>c0 1 (by decide)|2,_=>c1 0 (by decide)|3,_=>c2 0 (by decide)⟩
def afE (l:List ay):Prop:=l.length≤9223372036854775807∧ ∀x∈l,Yh x
theorem ag3:Rd Try.prog 24 1 (IU 4 ay.cell) afE:=Rd.slice Try.underlying24 (by kernel_rfl) (by decide) agF
def ahi (x:ah):Prop:=(fun n:Int=> -9223372036854775808≤n∧n≤9223372036854775807) x.buses∧adA x.sources∧acS x.links∧afE x.racks
theorem ahb:Rd Try.prog 26 4 ah.cell ahi:=by
 refine⟨by kernel_rfl,fun h=> ?_⟩
 obtain⟨hl,hf⟩:=Rd.fields Try.underlying26 (n:=4) (by kernel_rfl) h
 obtain⟨a0,s0,c0⟩:=Rd.field (off:=0) Pm (hf 0 _ rfl)
 obtain⟨a1,s1,c1⟩:=Rd.field (off:=1) ahh (hf 1 _ rfl)
 obtain⟨a2,s2,c2⟩:=Rd.field (off:=2) agY (hf 2 _ rfl)
 obtain⟨a3,s3,c3⟩:=Rd.field (off:=3) ag3 (hf 3 _ rfl)
 exact⟨⟨a0,a1,a2,a3⟩,⟨s0,s1,s2,s3⟩,hl,fun j hj=>match j,hj with|0,_=>c0 0 (by decide)|1,_=>c1 0 (by decide)|2,_=>c2 0 (by decide)|3,_=>c3 0 (by decide)⟩
theorem rd4:Rd Try.prog 4 1 aj (fun _:Bool=>True):=Rd.bool Try.underlying4 (by kernel_rfl)
def Lh (l:List Bool):Prop:=l.length≤9223372036854775807∧ ∀x∈l,(fun _:Bool=>True) x
theorem Oh:Rd Try.prog 27 1 (IU 1 aj) Lh:=Rd.slice Try.underlying27 (by kernel_rfl) (by decide) rd4
def ahk (x:State):Prop:=Lh x.closed∧Lh x.locked∧Lh x.badLink∧Lh x.on_∧Lh x.badSource∧Lh x.earthed∧Lh x.badBus
theorem ag2:Rd Try.prog 29 7 State.cell ahk:=by
 refine⟨by kernel_rfl,fun h=> ?_⟩
 obtain⟨hl,hf⟩:=Rd.fields Try.underlying29 (n:=7) (by kernel_rfl) h
 obtain⟨a0,s0,c0⟩:=Rd.field (off:=0) Oh (hf 0 _ rfl)
 obtain⟨a1,s1,c1⟩:=Rd.field (off:=1) Oh (hf 1 _ rfl)
 obtain⟨a2,s2,c2⟩:=Rd.field (off:=2) Oh (hf 2 _ rfl)
 obtain⟨a3,s3,c3⟩:=Rd.field (off:=3) Oh (hf 3 _ rfl)
 obtain⟨a4,s4,c4⟩:=Rd.field (off:=4) Oh (hf 4 _ rfl)
 obtain⟨a5,s5,c5⟩:=Rd.field (off:=5) Oh (hf 5 _ rfl)
 obtain⟨a6,s6,c6⟩:=Rd.field (off:=6) Oh (hf 6 _ rfl)
 exact⟨⟨a0,a1,a2,a3,a4,a5,a6⟩,⟨s0,s1,s2,s3,s4,s5,s6⟩,hl,fun j hj=>match j,hj with|0,_=>c0 0 (by decide)|1,_=>c1 0 (by decide)|2,_=>c2 0 (by decide)|3,_=>c3 0 (by decide)|4,_=>c4 0 (by decide)|5,_=>c5 0 (by decide)|6,_=>c6 0 (by decide)⟩
def aeu (l:List (List Bool)):Prop:=l.length≤9223372036854775807∧ ∀x∈l,Lh x
theorem ae5:Rd Try.prog 110 1 (IU 1 (IU 1 aj)) aeu:=Rd.slice Try.underlying110 (by kernel_rfl) (by decide) Oh
end Sg
namespace Go.Proofs.Ytpndenfhglaikaa
open Sg Go.ChangeShapes Go.WideShapes Go.ChangeAt Go.RowKit
theorem Try.own:ownKnob Try.prog.godebug=none:=by kernel_rfl
theorem Try.laidOut:laidOutB Try.prog=true:=by kernel_rfl
set_option maxRecDepth 100000 in
theorem Bw (H:Type) (enc:TypeId × Value→H) (W:World) (base:Nat) (args:Array Value) (ds gs:List (DataW H)) (before:List MemPlace)
  (hval: ∀(j:Nat) t v,Try.f9.params[j]? =some t→args[j]? =some v→Value.okWide Try.prog W .any base t v)
  (hW:DataW.Whole enc Try.prog Try.f9.params.toList Rows.flowProvesSpec.vars false W args.toList ds gs before):
  Calls Try.prog 9 args W fun e W'=> ∃v,e= .returned v∧Rows.flowProvesSpec.post enc Try.prog Try.f9 false true false false W args v W':=by
 have hW':=hW
 obtain⟨p,q,hA0,hV,rfl,hfz,hnd⟩:=hW
 have hA:DataW.TrodAll enc Try.prog W 0 (fun _=>true) true Try.f9.params.toList args.toList ds p:=hA0
 rw [Try.params9]at hA hval
 obtain⟨v0,l0,d0,e0,p0,q0,hv0,hd0,hp0,h0,r0⟩:=trodAll_cons hA
 obtain⟨v1,l1,d1,e1,p1,q1,hv1,hd1,hp1,h1,r1⟩:=trodAll_cons r0
 obtain⟨v2,l2,d2,e2,p2,q2,hv2,hd2,hp2,h2,r2⟩:=trodAll_cons r1
 obtain⟨hvz,hdz,hpz⟩:=trodAll_nil r2
 have hgs:=(trodVars_none hV).1
 have hargs:args= #[v0,v1,v2]:=by
  have:args.toList=[v0,v1,v2]:=by rw [hv0,hv1,hv2,hvz]
  cases args;simp at this;rw [this]
 have hds:ds=[d0,d1,d2]:=by rw [hd0,hd1,hd2,hdz]
 subst hargs
 obtain⟨a0,s0,c0⟩:=Rd.agg ahb Try.underlying26 (hval 0 26 v0 rfl rfl) h0
 obtain⟨a1,s1,c1⟩:=Rd.agg ag2 Try.underlying29 (hval 1 29 v1 rfl rfl) h1
 obtain⟨a2,s2,c2⟩:=Rd.one ae5 (Sn Try.underlying110 (hval 2 110 v2 rfl rfl)) h2
 have hm:iW a0 a1 a2=some true:=Gu a0 a1 a2 ⟨s0.2.1.1,s0.2.2.1.1,s0.2.2.2.1,fun x hx=>(s0.2.2.1.2 x hx).2.2.2.2.2.1⟩
 refine(SS (vs:=[v0,v1,v2]) (Ab a0 a1 a2 hm) ⟨c0,c1,c2,trivial⟩).mono fun e W' ⟨he,hb⟩=> ⟨_,he, ?_⟩
 refine Ua (t4:=4) rfl hW' ?_ ?_ ?_ rfl Try.underlying4 Try.laidOut ?_ hb
 ·rw [hds,hgs];rfl
 ·rw [hds,hgs];rfl
 ·rw [hds,hgs];rfl
 ·intro t ht
  rw [Try.params9]at ht
  simp at ht
  rcases ht with rfl|rfl|rfl<;>exact⟨by kernel_rfl,of_decide_eq_true (by kernel_rfl)⟩
set_option maxRecDepth 100000 in
theorem DW (os:Os) (started:os.Started) (H:Type) (enc:TypeId × Value→H):
  ReturnsInHanded {} Try.checked os 9 .any (Rows.flowProvesSpec.pre6 enc Try.prog Try.f9 Rows.flowProvesRow.domain false) (Rows.flowProvesSpec.post enc Try.prog Try.f9 false true false false):=by
 refine returnsInHanded_of_change (C:=Try.checked) Try.own started (by kernel_rfl) Try.func9
  (ChangeSpec.witness6 (enc:=enc) (C:=Try.checked) false ⟨#[], #[.agg #[.int .i64 0, .slice none 0 0, .slice none 0 0, .slice none 0 0], .agg #[.slice none 0 0, .slice none 0 0, .slice none 0 0, .slice none 0 0, .slice none 0 0, .slice none 0 0, .slice none 0 0], .slice none 0 0],[]⟩ 16 (by kernel_rfl) (by kernel_rfl) (by kernel_rfl) (by kernel_rfl)) ?_
 intro W base args ds gs before hval hW _ _
 exact Bw H enc W base args ds gs before hval hW
theorem flowProves_holds:Rows.FlowProvesSaid:=
 OpenClaim.holds_of_wide 9 Try.f9 rfl rfl rfl rfl rfl rfl rfl ⟨rfl,rfl,rfl,rfl,rfl⟩ rfl rfl rfl rfl rfl (by kernel_rfl) Try.func9 (by kernel_rfl)
  (of_decide_eq_true (by kernel_rfl)) (by unfold Func.isWrapper;first|(rw [if_pos (by decide+kernel)];kernel_rfl)|(rw [if_neg (by decide+kernel)];exact⟨rfl,rfl⟩))
  (fun os started H enc _=>DW os started H enc)
end Go.Proofs.Ytpndenfhglaikaa
