/- FlowChecks: for every plant, state, serving and cut, the law that compares which servings are possible, the capacity of a cut and the certificates with the reference returns true (no conditions). -/
import Derived.Test.YtpndenfhglaikaaRows
import Derived.ProofKit
import Derived.Test.YtpndenfhglaikaaLc
import Derived.Test.YtpndenfhglaikaaLd
import Derived.Test.YtpndenfhglaikaaW2
set_option linter.all false
namespace Sg
open Go Go.Proofs Go.Proofs.Ytpndenfhglaikaa Go.ChangeShapes Go.WideShapes Go.RowKit
set_option maxRecDepth 20000
theorem Qn:Rd Try.prog 3 1 (au .i64) (fun n:Int=> -9223372036854775808≤n∧n≤9223372036854775807):=Rd.int Try.underlying3 (by kernel_rfl)
theorem aij:Rd Try.prog 124 1 (au .i64) (fun n:Int=> -9223372036854775808≤n∧n≤9223372036854775807):=Rd.int Try.underlying124 (by kernel_rfl)
def ZX (x:Source):Prop:=(fun n:Int=> -9223372036854775808≤n∧n≤9223372036854775807) x.bus∧(fun n:Int=> -9223372036854775808≤n∧n≤9223372036854775807) x.kind∧(fun n:Int=> -9223372036854775808≤n∧n≤9223372036854775807) x.power∧(fun n:Int=> -9223372036854775808≤n∧n≤9223372036854775807) x.sync∧(fun n:Int=> -9223372036854775808≤n∧n≤9223372036854775807) x.fT
theorem adJ:Rd Try.prog 126 5 Source.cell ZX:=by
 refine⟨by kernel_rfl,fun h=> ?_⟩
 obtain⟨hl,hf⟩:=Rd.fields Try.underlying126 (n:=5) (by kernel_rfl) h
 obtain⟨a0,s0,c0⟩:=Rd.field (off:=0) Qn (hf 0 _ rfl)
 obtain⟨a1,s1,c1⟩:=Rd.field (off:=1) aij (hf 1 _ rfl)
 obtain⟨a2,s2,c2⟩:=Rd.field (off:=2) Qn (hf 2 _ rfl)
 obtain⟨a3,s3,c3⟩:=Rd.field (off:=3) Qn (hf 3 _ rfl)
 obtain⟨a4,s4,c4⟩:=Rd.field (off:=4) Qn (hf 4 _ rfl)
 exact⟨⟨a0,a1,a2,a3,a4⟩,⟨s0,s1,s2,s3,s4⟩,hl,fun j hj=>match j,hj with|0,_=>c0 0 (by decide)|1,_=>c1 0 (by decide)|2,_=>c2 0 (by decide)|3,_=>c3 0 (by decide)|4,_=>c4 0 (by decide)⟩
def adQ (l:List Source):Prop:=l.length≤9223372036854775807∧ ∀x∈l,ZX x
theorem ai8:Rd Try.prog 22 1 (LA 5 Source.cell) adQ:=Rd.slice Try.underlying22 (by kernel_rfl) (by decide) adJ
theorem aiV:Rd Try.prog 50 1 (au .i64) (fun n:Int=> -9223372036854775808≤n∧n≤9223372036854775807):=Rd.int Try.underlying50 (by kernel_rfl)
def ZL (x:iL):Prop:=(fun n:Int=> -9223372036854775808≤n∧n≤9223372036854775807) x.amps∧(fun n:Int=> -9223372036854775808≤n∧n≤9223372036854775807) x.millis
theorem ah5:Rd Try.prog 148 2 iL.cell ZL:=by
 refine⟨by kernel_rfl,fun h=> ?_⟩
 obtain⟨hl,hf⟩:=Rd.fields Try.underlying148 (n:=2) (by kernel_rfl) h
 obtain⟨a0,s0,c0⟩:=Rd.field (off:=0) Qn (hf 0 _ rfl)
 obtain⟨a1,s1,c1⟩:=Rd.field (off:=1) Qn (hf 1 _ rfl)
 exact⟨⟨a0,a1⟩,⟨s0,s1⟩,hl,fun j hj=>match j,hj with|0,_=>c0 0 (by decide)|1,_=>c1 0 (by decide)⟩
def agZ (l:List iL):Prop:=l.length≤9223372036854775807∧ ∀x∈l,ZL x
theorem ajj:Rd Try.prog 51 1 (LA 2 iL.cell) agZ:=Rd.slice Try.underlying51 (by kernel_rfl) (by decide) ah5
def agF (x:Link):Prop:=(fun n:Int=> -9223372036854775808≤n∧n≤9223372036854775807) x.a∧(fun n:Int=> -9223372036854775808≤n∧n≤9223372036854775807) x.b∧(fun n:Int=> -9223372036854775808≤n∧n≤9223372036854775807) x.kind∧(fun n:Int=> -9223372036854775808≤n∧n≤9223372036854775807) x.most∧(fun n:Int=> -9223372036854775808≤n∧n≤9223372036854775807) x.fT∧agZ x.trip
theorem ai9:Rd Try.prog 53 6 Link.cell agF:=by
 refine⟨by kernel_rfl,fun h=> ?_⟩
 obtain⟨hl,hf⟩:=Rd.fields Try.underlying53 (n:=6) (by kernel_rfl) h
 obtain⟨a0,s0,c0⟩:=Rd.field (off:=0) Qn (hf 0 _ rfl)
 obtain⟨a1,s1,c1⟩:=Rd.field (off:=1) Qn (hf 1 _ rfl)
 obtain⟨a2,s2,c2⟩:=Rd.field (off:=2) aiV (hf 2 _ rfl)
 obtain⟨a3,s3,c3⟩:=Rd.field (off:=3) Qn (hf 3 _ rfl)
 obtain⟨a4,s4,c4⟩:=Rd.field (off:=4) Qn (hf 4 _ rfl)
 obtain⟨a5,s5,c5⟩:=Rd.field (off:=5) ajj (hf 5 _ rfl)
 exact⟨⟨a0,a1,a2,a3,a4,a5⟩,⟨s0,s1,s2,s3,s4,s5⟩,hl,fun j hj=>match j,hj with|0,_=>c0 0 (by decide)|1,_=>c1 0 (by decide)|2,_=>c2 0 (by decide)|3,_=>c3 0 (by decide)|4,_=>c4 0 (by decide)|5,_=>c5 0 (by decide)⟩
def aeC (l:List Link):Prop:=l.length≤9223372036854775807∧ ∀x∈l,agF x
theorem aje:Rd Try.prog 23 1 (LA 6 Link.cell) aeC:=Rd.slice Try.underlying23 (by kernel_rfl) (by decide) ai9
def V3 (x:af):Prop:=(fun n:Int=> -9223372036854775808≤n∧n≤9223372036854775807) x.e0∧(fun n:Int=> -9223372036854775808≤n∧n≤9223372036854775807) x.e1
theorem aai:Rd Try.prog 164 2 af.cell V3:=by
 refine⟨by kernel_rfl,fun h=> ?_⟩
 obtain⟨hl,hf⟩:=Rd.elems Try.underlying164 (n:=2) (by kernel_rfl) h
 obtain⟨a0,s0,c0⟩:=Rd.field (off:=0) Qn (hf 0 (by decide))
 obtain⟨a1,s1,c1⟩:=Rd.field (off:=1) Qn (hf 1 (by decide))
 exact⟨⟨a0,a1⟩,⟨s0,s1⟩,hl,fun j hj=>match j,hj with|0,_=>c0 0 (by decide)|1,_=>c1 0 (by decide)⟩
def aap (x:ay):Prop:=V3 x.feeds∧(fun n:Int=> -9223372036854775808≤n∧n≤9223372036854775807) x.power∧(fun n:Int=> -9223372036854775808≤n∧n≤9223372036854775807) x.paths
theorem ahP:Rd Try.prog 166 4 ay.cell aap:=by
 refine⟨by kernel_rfl,fun h=> ?_⟩
 obtain⟨hl,hf⟩:=Rd.fields Try.underlying166 (n:=4) (by kernel_rfl) h
 obtain⟨a0,s0,c0⟩:=Rd.field (off:=0) aai (hf 0 _ rfl)
 obtain⟨a1,s1,c1⟩:=Rd.field (off:=2) Qn (hf 1 _ rfl)
 obtain⟨a2,s2,c2⟩:=Rd.field (off:=3) Qn (hf 2 _ rfl)
 exact⟨⟨a0,a1,a2⟩,⟨s0,s1,s2⟩,hl,fun j hj=>match j,hj with|0,_=>c0 0 (by decide)|1,_=>c0 1 (by decide)|2,_=>c1 0 (by decide)|3,_=>c2 0 (by decide)⟩
def aeH (l:List ay):Prop:=l.length≤9223372036854775807∧ ∀x∈l,aap x
theorem ai0:Rd Try.prog 24 1 (LA 4 ay.cell) aeH:=Rd.slice Try.underlying24 (by kernel_rfl) (by decide) ahP
def ai5 (x:ah):Prop:=(fun n:Int=> -9223372036854775808≤n∧n≤9223372036854775807) x.buses∧adQ x.sources∧aeC x.links∧aeH x.racks
theorem ajl:Rd Try.prog 26 4 ah.cell ai5:=by
 refine⟨by kernel_rfl,fun h=> ?_⟩
 obtain⟨hl,hf⟩:=Rd.fields Try.underlying26 (n:=4) (by kernel_rfl) h
 obtain⟨a0,s0,c0⟩:=Rd.field (off:=0) Qn (hf 0 _ rfl)
 obtain⟨a1,s1,c1⟩:=Rd.field (off:=1) ai8 (hf 1 _ rfl)
 obtain⟨a2,s2,c2⟩:=Rd.field (off:=2) aje (hf 2 _ rfl)
 obtain⟨a3,s3,c3⟩:=Rd.field (off:=3) ai0 (hf 3 _ rfl)
 exact⟨⟨a0,a1,a2,a3⟩,⟨s0,s1,s2,s3⟩,hl,fun j hj=>match j,hj with|0,_=>c0 0 (by decide)|1,_=>c1 0 (by decide)|2,_=>c2 0 (by decide)|3,_=>c3 0 (by decide)⟩
theorem rd4:Rd Try.prog 4 1 aj (fun _:Bool=>True):=Rd.bool Try.underlying4 (by kernel_rfl)
def Oy (l:List Bool):Prop:=l.length≤9223372036854775807∧ ∀x∈l,(fun _:Bool=>True) x
theorem Pj:Rd Try.prog 27 1 (LA 1 aj) Oy:=Rd.slice Try.underlying27 (by kernel_rfl) (by decide) rd4
def ajq (x:State):Prop:=Oy x.closed∧Oy x.locked∧Oy x.badLink∧Oy x.on_∧Oy x.badSource∧Oy x.earthed∧Oy x.badBus
theorem ajf:Rd Try.prog 29 7 State.cell ajq:=by
 refine⟨by kernel_rfl,fun h=> ?_⟩
 obtain⟨hl,hf⟩:=Rd.fields Try.underlying29 (n:=7) (by kernel_rfl) h
 obtain⟨a0,s0,c0⟩:=Rd.field (off:=0) Pj (hf 0 _ rfl)
 obtain⟨a1,s1,c1⟩:=Rd.field (off:=1) Pj (hf 1 _ rfl)
 obtain⟨a2,s2,c2⟩:=Rd.field (off:=2) Pj (hf 2 _ rfl)
 obtain⟨a3,s3,c3⟩:=Rd.field (off:=3) Pj (hf 3 _ rfl)
 obtain⟨a4,s4,c4⟩:=Rd.field (off:=4) Pj (hf 4 _ rfl)
 obtain⟨a5,s5,c5⟩:=Rd.field (off:=5) Pj (hf 5 _ rfl)
 obtain⟨a6,s6,c6⟩:=Rd.field (off:=6) Pj (hf 6 _ rfl)
 exact⟨⟨a0,a1,a2,a3,a4,a5,a6⟩,⟨s0,s1,s2,s3,s4,s5,s6⟩,hl,fun j hj=>match j,hj with|0,_=>c0 0 (by decide)|1,_=>c1 0 (by decide)|2,_=>c2 0 (by decide)|3,_=>c3 0 (by decide)|4,_=>c4 0 (by decide)|5,_=>c5 0 (by decide)|6,_=>c6 0 (by decide)⟩
def aa4 (l:List Int):Prop:=l.length≤9223372036854775807∧ ∀x∈l,(fun n:Int=> -9223372036854775808≤n∧n≤9223372036854775807) x
theorem ahM:Rd Try.prog 40 1 (LA 1 (au .i64)) aa4:=Rd.slice Try.underlying40 (by kernel_rfl) (by decide) Qn
def agx (l:List af):Prop:=l.length≤9223372036854775807∧ ∀x∈l,V3 x
theorem ajn:Rd Try.prog 75 1 (LA 2 af.cell) agx:=Rd.slice Try.underlying75 (by kernel_rfl) (by decide) aai
def aiY (x:ai):Prop:=aa4 x.sources∧aa4 x.links∧agx x.racks
theorem ajh:Rd Try.prog 92 3 ai.cell aiY:=by
 refine⟨by kernel_rfl,fun h=> ?_⟩
 obtain⟨hl,hf⟩:=Rd.fields Try.underlying92 (n:=3) (by kernel_rfl) h
 obtain⟨a0,s0,c0⟩:=Rd.field (off:=0) ahM (hf 0 _ rfl)
 obtain⟨a1,s1,c1⟩:=Rd.field (off:=1) ahM (hf 1 _ rfl)
 obtain⟨a2,s2,c2⟩:=Rd.field (off:=2) ajn (hf 2 _ rfl)
 exact⟨⟨a0,a1,a2⟩,⟨s0,s1,s2⟩,hl,fun j hj=>match j,hj with|0,_=>c0 0 (by decide)|1,_=>c1 0 (by decide)|2,_=>c2 0 (by decide)⟩
end Sg
namespace Go.Proofs.Ytpndenfhglaikaa
open Sg Go.ChangeShapes Go.WideShapes Go.ChangeAt Go.RowKit
theorem Try.own:ownKnob Try.prog.godebug=none:=by kernel_rfl
theorem Try.laidOut:laidOutB Try.prog=true:=by kernel_rfl
set_option maxRecDepth 100000 in
theorem Dr (H:Type) (enc:TypeId × Value→H) (W:World) (base:Nat) (args:Array Value) (ds gs:List (DataW H)) (before:List MemPlace)
  (hval: ∀(j:Nat) t v,Try.f7.params[j]? =some t→args[j]? =some v→Value.okWide Try.prog W .any base t v)
  (hW:DataW.Whole enc Try.prog Try.f7.params.toList Rows.flowChecksSpec.vars false W args.toList ds gs before):
  Calls Try.prog 7 args W fun e W'=> ∃v,e= .returned v∧Rows.flowChecksSpec.post enc Try.prog Try.f7 false true false false W args v W':=by
 have hW':=hW
 obtain⟨p,q,hA0,hV,rfl,hfz,hnd⟩:=hW
 have hA:DataW.TrodAll enc Try.prog W 0 (fun _=>true) true Try.f7.params.toList args.toList ds p:=hA0
 rw [Try.params7]at hA hval
 obtain⟨v0,l0,d0,e0,p0,q0,hv0,hd0,hp0,h0,r0⟩:=trodAll_cons hA
 obtain⟨v1,l1,d1,e1,p1,q1,hv1,hd1,hp1,h1,r1⟩:=trodAll_cons r0
 obtain⟨v2,l2,d2,e2,p2,q2,hv2,hd2,hp2,h2,r2⟩:=trodAll_cons r1
 obtain⟨v3,l3,d3,e3,p3,q3,hv3,hd3,hp3,h3,r3⟩:=trodAll_cons r2
 obtain⟨hvz,hdz,hpz⟩:=trodAll_nil r3
 have hgs:=(trodVars_none hV).1
 have hargs:args= #[v0,v1,v2,v3]:=by
  have:args.toList=[v0,v1,v2,v3]:=by rw [hv0,hv1,hv2,hv3,hvz]
  cases args;simp at this;rw [this]
 have hds:ds=[d0,d1,d2,d3]:=by rw [hd0,hd1,hd2,hd3,hdz]
 subst hargs
 obtain⟨a0,s0,c0⟩:=Rd.agg ajl Try.underlying26 (hval 0 26 v0 rfl rfl) h0
 obtain⟨a1,s1,c1⟩:=Rd.agg ajf Try.underlying29 (hval 1 29 v1 rfl rfl) h1
 obtain⟨a2,s2,c2⟩:=Rd.agg ajh Try.underlying92 (hval 2 92 v2 rfl rfl) h2
 obtain⟨a3,s3,c3⟩:=Rd.one Pj (SN Try.underlying27 (hval 3 27 v3 rfl rfl)) h3
 have hm:iE a0 a1 a2 a3=some true:=Jc a0 a1 a2 a3 ⟨s0.2.1.1,s0.2.2.1.1,s0.2.2.2.1,fun x hx=>(s0.2.2.1.2 x hx).2.2.2.2.2.1⟩
 refine(UQ (vs:=[v0,v1,v2,v3]) (A9 a0 a1 a2 a3 hm) ⟨c0,c1,c2,c3,trivial⟩).mono fun e W' ⟨he,hb⟩=> ⟨_,he, ?_⟩
 refine Vq (t4:=4) rfl hW' ?_ ?_ ?_ rfl Try.underlying4 Try.laidOut ?_ hb
 ·rw [hds,hgs];rfl
 ·rw [hds,hgs];rfl
 ·rw [hds,hgs];rfl
 ·intro t ht
  rw [Try.params7]at ht
  simp at ht
  rcases ht with rfl|rfl|rfl|rfl<;>exact⟨by kernel_rfl,of_decide_eq_true (by kernel_rfl)⟩
set_option maxRecDepth 100000 in
theorem EZ (os:Os) (started:os.Started) (H:Type) (enc:TypeId × Value→H):
  ReturnsInHanded {} Try.checked os 7 .any (Rows.flowChecksSpec.pre6 enc Try.prog Try.f7 Rows.flowChecksRow.domain false) (Rows.flowChecksSpec.post enc Try.prog Try.f7 false true false false):=by
 refine returnsInHanded_of_change (C:=Try.checked) Try.own started (by kernel_rfl) Try.func7
  (ChangeSpec.witness6 (enc:=enc) (C:=Try.checked) false ⟨#[], #[.agg #[.int .i64 0, .slice none 0 0, .slice none 0 0, .slice none 0 0], .agg #[.slice none 0 0, .slice none 0 0, .slice none 0 0, .slice none 0 0, .slice none 0 0, .slice none 0 0, .slice none 0 0], .agg #[.slice none 0 0, .slice none 0 0, .slice none 0 0], .slice none 0 0],[]⟩ 16 (by kernel_rfl) (by kernel_rfl) (by kernel_rfl) (by kernel_rfl)) ?_
 intro W base args ds gs before hval hW _ _
 exact Dr H enc W base args ds gs before hval hW
theorem flowChecks_holds:Rows.FlowChecksSaid:=
 OpenClaim.holds_of_wide 7 Try.f7 rfl rfl rfl rfl rfl rfl rfl ⟨rfl,rfl,rfl,rfl,rfl⟩ rfl rfl rfl rfl rfl (by kernel_rfl) Try.func7 (by kernel_rfl)
  (of_decide_eq_true (by kernel_rfl)) (by unfold Func.isWrapper;first|(rw [if_pos (by decide+kernel)];kernel_rfl)|(rw [if_neg (by decide+kernel)];exact⟨rfl,rfl⟩))
  (fun os started H enc _=>EZ os started H enc)
end Go.Proofs.Ytpndenfhglaikaa
