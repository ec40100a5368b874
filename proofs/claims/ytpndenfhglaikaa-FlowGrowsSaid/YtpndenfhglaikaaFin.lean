/- FlowGrows: for every plant, state, part, link and source, the law that compares the greatest amounts before and after a failure, a start and a closing returns true (no conditions). -/
import Derived.Test.YtpndenfhglaikaaRows
import Derived.ProofKit
import Derived.Test.YtpndenfhglaikaaLc
import Derived.Test.YtpndenfhglaikaaLd
import Derived.Test.YtpndenfhglaikaaW2
set_option linter.all false
namespace Sg
open Go Go.Proofs Go.Proofs.Ytpndenfhglaikaa Go.ChangeShapes Go.WideShapes Go.RowKit
set_option maxRecDepth 20000
theorem OB:Rd Try.prog 3 1 (au .i64) (fun n:Int=> -9223372036854775808≤n∧n≤9223372036854775807):=Rd.int Try.underlying3 (by kernel_rfl)
theorem afE:Rd Try.prog 124 1 (au .i64) (fun n:Int=> -9223372036854775808≤n∧n≤9223372036854775807):=Rd.int Try.underlying124 (by kernel_rfl)
def abH (x:Source):Prop:=(fun n:Int=> -9223372036854775808≤n∧n≤9223372036854775807) x.bus∧(fun n:Int=> -9223372036854775808≤n∧n≤9223372036854775807) x.kind∧(fun n:Int=> -9223372036854775808≤n∧n≤9223372036854775807) x.power∧(fun n:Int=> -9223372036854775808≤n∧n≤9223372036854775807) x.sync∧(fun n:Int=> -9223372036854775808≤n∧n≤9223372036854775807) x.iR
theorem afQ:Rd Try.prog 126 5 Source.cell abH:=by
 refine⟨by kernel_rfl,fun h=> ?_⟩
 obtain⟨hl,hf⟩:=Rd.fields Try.underlying126 (n:=5) (by kernel_rfl) h
 obtain⟨a0,s0,c0⟩:=Rd.field (off:=0) OB (hf 0 _ rfl)
 obtain⟨a1,s1,c1⟩:=Rd.field (off:=1) afE (hf 1 _ rfl)
 obtain⟨a2,s2,c2⟩:=Rd.field (off:=2) OB (hf 2 _ rfl)
 obtain⟨a3,s3,c3⟩:=Rd.field (off:=3) OB (hf 3 _ rfl)
 obtain⟨a4,s4,c4⟩:=Rd.field (off:=4) OB (hf 4 _ rfl)
 exact⟨⟨a0,a1,a2,a3,a4⟩,⟨s0,s1,s2,s3,s4⟩,hl,fun j hj=>match j,hj with|0,_=>c0 0 (by decide)|1,_=>c1 0 (by decide)|2,_=>c2 0 (by decide)|3,_=>c3 0 (by decide)|4,_=>c4 0 (by decide)⟩
def ahY (l:List Source):Prop:=l.length≤9223372036854775807∧ ∀x∈l,abH x
theorem akG:Rd Try.prog 22 1 (ML 5 Source.cell) ahY:=Rd.slice Try.underlying22 (by kernel_rfl) (by decide) afQ
theorem akL:Rd Try.prog 50 1 (au .i64) (fun n:Int=> -9223372036854775808≤n∧n≤9223372036854775807):=Rd.int Try.underlying50 (by kernel_rfl)
def abl (x:je):Prop:=(fun n:Int=> -9223372036854775808≤n∧n≤9223372036854775807) x.amps∧(fun n:Int=> -9223372036854775808≤n∧n≤9223372036854775807) x.millis
theorem ahu:Rd Try.prog 148 2 je.cell abl:=by
 refine⟨by kernel_rfl,fun h=> ?_⟩
 obtain⟨hl,hf⟩:=Rd.fields Try.underlying148 (n:=2) (by kernel_rfl) h
 obtain⟨a0,s0,c0⟩:=Rd.field (off:=0) OB (hf 0 _ rfl)
 obtain⟨a1,s1,c1⟩:=Rd.field (off:=1) OB (hf 1 _ rfl)
 exact⟨⟨a0,a1⟩,⟨s0,s1⟩,hl,fun j hj=>match j,hj with|0,_=>c0 0 (by decide)|1,_=>c1 0 (by decide)⟩
def ajh (l:List je):Prop:=l.length≤9223372036854775807∧ ∀x∈l,abl x
theorem akR:Rd Try.prog 51 1 (ML 2 je.cell) ajh:=Rd.slice Try.underlying51 (by kernel_rfl) (by decide) ahu
def ajo (x:Link):Prop:=(fun n:Int=> -9223372036854775808≤n∧n≤9223372036854775807) x.a∧(fun n:Int=> -9223372036854775808≤n∧n≤9223372036854775807) x.b∧(fun n:Int=> -9223372036854775808≤n∧n≤9223372036854775807) x.kind∧(fun n:Int=> -9223372036854775808≤n∧n≤9223372036854775807) x.most∧(fun n:Int=> -9223372036854775808≤n∧n≤9223372036854775807) x.iR∧ajh x.trip
theorem akH:Rd Try.prog 53 6 Link.cell ajo:=by
 refine⟨by kernel_rfl,fun h=> ?_⟩
 obtain⟨hl,hf⟩:=Rd.fields Try.underlying53 (n:=6) (by kernel_rfl) h
 obtain⟨a0,s0,c0⟩:=Rd.field (off:=0) OB (hf 0 _ rfl)
 obtain⟨a1,s1,c1⟩:=Rd.field (off:=1) OB (hf 1 _ rfl)
 obtain⟨a2,s2,c2⟩:=Rd.field (off:=2) akL (hf 2 _ rfl)
 obtain⟨a3,s3,c3⟩:=Rd.field (off:=3) OB (hf 3 _ rfl)
 obtain⟨a4,s4,c4⟩:=Rd.field (off:=4) OB (hf 4 _ rfl)
 obtain⟨a5,s5,c5⟩:=Rd.field (off:=5) akR (hf 5 _ rfl)
 exact⟨⟨a0,a1,a2,a3,a4,a5⟩,⟨s0,s1,s2,s3,s4,s5⟩,hl,fun j hj=>match j,hj with|0,_=>c0 0 (by decide)|1,_=>c1 0 (by decide)|2,_=>c2 0 (by decide)|3,_=>c3 0 (by decide)|4,_=>c4 0 (by decide)|5,_=>c5 0 (by decide)⟩
def ah9 (l:List Link):Prop:=l.length≤9223372036854775807∧ ∀x∈l,ajo x
theorem akv:Rd Try.prog 23 1 (ML 6 Link.cell) ah9:=Rd.slice Try.underlying23 (by kernel_rfl) (by decide) akH
def aaQ (x:af):Prop:=(fun n:Int=> -9223372036854775808≤n∧n≤9223372036854775807) x.e0∧(fun n:Int=> -9223372036854775808≤n∧n≤9223372036854775807) x.e1
theorem aiH:Rd Try.prog 164 2 af.cell aaQ:=by
 refine⟨by kernel_rfl,fun h=> ?_⟩
 obtain⟨hl,hf⟩:=Rd.elems Try.underlying164 (n:=2) (by kernel_rfl) h
 obtain⟨a0,s0,c0⟩:=Rd.field (off:=0) OB (hf 0 (by decide))
 obtain⟨a1,s1,c1⟩:=Rd.field (off:=1) OB (hf 1 (by decide))
 exact⟨⟨a0,a1⟩,⟨s0,s1⟩,hl,fun j hj=>match j,hj with|0,_=>c0 0 (by decide)|1,_=>c1 0 (by decide)⟩
def abK (x:ax):Prop:=aaQ x.feeds∧(fun n:Int=> -9223372036854775808≤n∧n≤9223372036854775807) x.power∧(fun n:Int=> -9223372036854775808≤n∧n≤9223372036854775807) x.paths
theorem agT:Rd Try.prog 166 4 ax.cell abK:=by
 refine⟨by kernel_rfl,fun h=> ?_⟩
 obtain⟨hl,hf⟩:=Rd.fields Try.underlying166 (n:=4) (by kernel_rfl) h
 obtain⟨a0,s0,c0⟩:=Rd.field (off:=0) aiH (hf 0 _ rfl)
 obtain⟨a1,s1,c1⟩:=Rd.field (off:=2) OB (hf 1 _ rfl)
 obtain⟨a2,s2,c2⟩:=Rd.field (off:=3) OB (hf 2 _ rfl)
 exact⟨⟨a0,a1,a2⟩,⟨s0,s1,s2⟩,hl,fun j hj=>match j,hj with|0,_=>c0 0 (by decide)|1,_=>c0 1 (by decide)|2,_=>c1 0 (by decide)|3,_=>c2 0 (by decide)⟩
def ahG (l:List ax):Prop:=l.length≤9223372036854775807∧ ∀x∈l,abK x
theorem akS:Rd Try.prog 24 1 (ML 4 ax.cell) ahG:=Rd.slice Try.underlying24 (by kernel_rfl) (by decide) agT
def aky (x:ai):Prop:=(fun n:Int=> -9223372036854775808≤n∧n≤9223372036854775807) x.buses∧ahY x.sources∧ah9 x.links∧ahG x.racks
theorem akT:Rd Try.prog 26 4 ai.cell aky:=by
 refine⟨by kernel_rfl,fun h=> ?_⟩
 obtain⟨hl,hf⟩:=Rd.fields Try.underlying26 (n:=4) (by kernel_rfl) h
 obtain⟨a0,s0,c0⟩:=Rd.field (off:=0) OB (hf 0 _ rfl)
 obtain⟨a1,s1,c1⟩:=Rd.field (off:=1) akG (hf 1 _ rfl)
 obtain⟨a2,s2,c2⟩:=Rd.field (off:=2) akv (hf 2 _ rfl)
 obtain⟨a3,s3,c3⟩:=Rd.field (off:=3) akS (hf 3 _ rfl)
 exact⟨⟨a0,a1,a2,a3⟩,⟨s0,s1,s2,s3⟩,hl,fun j hj=>match j,hj with|0,_=>c0 0 (by decide)|1,_=>c1 0 (by decide)|2,_=>c2 0 (by decide)|3,_=>c3 0 (by decide)⟩
theorem rd4:Rd Try.prog 4 1 ah (fun _:Bool=>True):=Rd.bool Try.underlying4 (by kernel_rfl)
def O5 (l:List Bool):Prop:=l.length≤9223372036854775807∧ ∀x∈l,(fun _:Bool=>True) x
theorem SE:Rd Try.prog 27 1 (ML 1 ah) O5:=Rd.slice Try.underlying27 (by kernel_rfl) (by decide) rd4
def akE (x:State):Prop:=O5 x.closed∧O5 x.locked∧O5 x.badLink∧O5 x.on_∧O5 x.badSource∧O5 x.earthed∧O5 x.badBus
theorem akF:Rd Try.prog 29 7 State.cell akE:=by
 refine⟨by kernel_rfl,fun h=> ?_⟩
 obtain⟨hl,hf⟩:=Rd.fields Try.underlying29 (n:=7) (by kernel_rfl) h
 obtain⟨a0,s0,c0⟩:=Rd.field (off:=0) SE (hf 0 _ rfl)
 obtain⟨a1,s1,c1⟩:=Rd.field (off:=1) SE (hf 1 _ rfl)
 obtain⟨a2,s2,c2⟩:=Rd.field (off:=2) SE (hf 2 _ rfl)
 obtain⟨a3,s3,c3⟩:=Rd.field (off:=3) SE (hf 3 _ rfl)
 obtain⟨a4,s4,c4⟩:=Rd.field (off:=4) SE (hf 4 _ rfl)
 obtain⟨a5,s5,c5⟩:=Rd.field (off:=5) SE (hf 5 _ rfl)
 obtain⟨a6,s6,c6⟩:=Rd.field (off:=6) SE (hf 6 _ rfl)
 exact⟨⟨a0,a1,a2,a3,a4,a5,a6⟩,⟨s0,s1,s2,s3,s4,s5,s6⟩,hl,fun j hj=>match j,hj with|0,_=>c0 0 (by decide)|1,_=>c1 0 (by decide)|2,_=>c2 0 (by decide)|3,_=>c3 0 (by decide)|4,_=>c4 0 (by decide)|5,_=>c5 0 (by decide)|6,_=>c6 0 (by decide)⟩
end Sg
namespace Go.Proofs.Ytpndenfhglaikaa
open Sg Go.ChangeShapes Go.WideShapes Go.ChangeAt Go.RowKit
theorem Try.own:ownKnob Try.prog.godebug=none:=by kernel_rfl
theorem Try.laidOut:laidOutB Try.prog=true:=by kernel_rfl
set_option maxRecDepth 100000 in
theorem Ew (H:Type) (enc:TypeId × Value→H) (W:World) (base:Nat) (args:Array Value) (ds gs:List (DataW H)) (before:List MemPlace)
  (hval: ∀(j:Nat) t v,Try.f10.params[j]? =some t→args[j]? =some v→Value.okWide Try.prog W .any base t v)
  (hW:DataW.Whole enc Try.prog Try.f10.params.toList Rows.flowGrowsSpec.vars false W args.toList ds gs before):
  Calls Try.prog 10 args W fun e W'=> ∃v,e= .returned v∧Rows.flowGrowsSpec.post enc Try.prog Try.f10 false true false false W args v W':=by
 have hW':=hW
 obtain⟨p,q,hA0,hV,rfl,hfz,hnd⟩:=hW
 have hA:DataW.TrodAll enc Try.prog W 0 (fun _=>true) true Try.f10.params.toList args.toList ds p:=hA0
 rw [Try.params10]at hA hval
 obtain⟨v0,l0,d0,e0,p0,q0,hv0,hd0,hp0,h0,r0⟩:=trodAll_cons hA
 obtain⟨v1,l1,d1,e1,p1,q1,hv1,hd1,hp1,h1,r1⟩:=trodAll_cons r0
 obtain⟨v2,l2,d2,e2,p2,q2,hv2,hd2,hp2,h2,r2⟩:=trodAll_cons r1
 obtain⟨v3,l3,d3,e3,p3,q3,hv3,hd3,hp3,h3,r3⟩:=trodAll_cons r2
 obtain⟨v4,l4,d4,e4,p4,q4,hv4,hd4,hp4,h4,r4⟩:=trodAll_cons r3
 obtain⟨hvz,hdz,hpz⟩:=trodAll_nil r4
 have hgs:=(trodVars_none hV).1
 have hargs:args= #[v0,v1,v2,v3,v4]:=by
  have:args.toList=[v0,v1,v2,v3,v4]:=by rw [hv0,hv1,hv2,hv3,hv4,hvz]
  cases args;simp at this;rw [this]
 have hds:ds=[d0,d1,d2,d3,d4]:=by rw [hd0,hd1,hd2,hd3,hd4,hdz]
 subst hargs
 obtain⟨a0,s0,c0⟩:=Rd.agg akT Try.underlying26 (hval 0 26 v0 rfl rfl) h0
 obtain⟨a1,s1,c1⟩:=Rd.agg akF Try.underlying29 (hval 1 29 v1 rfl rfl) h1
 obtain⟨a2,s2,c2⟩:=Rd.one OB (Ov Try.underlying3 (hval 2 3 v2 rfl rfl)) h2
 obtain⟨a3,s3,c3⟩:=Rd.one OB (Ov Try.underlying3 (hval 3 3 v3 rfl rfl)) h3
 obtain⟨a4,s4,c4⟩:=Rd.one OB (Ov Try.underlying3 (hval 4 3 v4 rfl rfl)) h4
 have hm:jQ a0 a1 a2 a3 a4=some true:=Ki a0 a1 a2 a3 a4 ⟨s0.2.1.1,s0.2.2.1.1,s0.2.2.2.1,fun x hx=>(s0.2.2.1.2 x hx).2.2.2.2.2.1⟩
 refine(VH (vs:=[v0,v1,v2,v3,v4]) (BK a0 a1 a2 a3 a4 hm) ⟨c0,c1,c2,c3,c4,trivial⟩).mono fun e W' ⟨he,hb⟩=> ⟨_,he, ?_⟩
 refine YR (t4:=4) rfl hW' ?_ ?_ ?_ rfl Try.underlying4 Try.laidOut ?_ hb
 ·rw [hds,hgs];rfl
 ·rw [hds,hgs];rfl
 ·rw [hds,hgs];rfl
 ·intro t ht
  rw [Try.params10]at ht
  simp at ht
  rcases ht with rfl|rfl|rfl|rfl|rfl<;>exact⟨by kernel_rfl,of_decide_eq_true (by kernel_rfl)⟩
set_option maxRecDepth 100000 in
theorem GZ (os:Os) (started:os.Started) (H:Type) (enc:TypeId × Value→H):
  ReturnsInHanded {} Try.checked os 10 .any (Rows.flowGrowsSpec.pre6 enc Try.prog Try.f10 Rows.flowGrowsRow.domain false) (Rows.flowGrowsSpec.post enc Try.prog Try.f10 false true false false):=by
 refine returnsInHanded_of_change (C:=Try.checked) Try.own started (by kernel_rfl) Try.func10
  (ChangeSpec.witness6 (enc:=enc) (C:=Try.checked) false ⟨#[], #[.agg #[.int .i64 0, .slice none 0 0, .slice none 0 0, .slice none 0 0], .agg #[.slice none 0 0, .slice none 0 0, .slice none 0 0, .slice none 0 0, .slice none 0 0, .slice none 0 0, .slice none 0 0], .int .i64 0, .int .i64 0, .int .i64 0],[]⟩ 16 (by kernel_rfl) (by kernel_rfl) (by kernel_rfl) (by kernel_rfl)) ?_
 intro W base args ds gs before hval hW _ _
 exact Ew H enc W base args ds gs before hval hW
theorem flowGrows_holds:Rows.FlowGrowsSaid:=
 OpenClaim.holds_of_wide 10 Try.f10 rfl rfl rfl rfl rfl rfl rfl ⟨rfl,rfl,rfl,rfl,rfl⟩ rfl rfl rfl rfl rfl (by kernel_rfl) Try.func10 (by kernel_rfl)
  (of_decide_eq_true (by kernel_rfl)) (by unfold Func.isWrapper;first|(rw [if_pos (by decide+kernel)];kernel_rfl)|(rw [if_neg (by decide+kernel)];exact⟨rfl,rfl⟩))
  (fun os started H enc _=>GZ os started H enc)
end Go.Proofs.Ytpndenfhglaikaa
