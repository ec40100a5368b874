/- FlowShorts: for every plant, state, bus and list of shorts, the law that compares the currents of a short circuit and the currents through links with the reference returns true (no conditions). -/
import Derived.Test.YtpndenfhglaikaaRows
import Derived.ProofKit
import Derived.Test.YtpndenfhglaikaaLc
import Derived.Test.YtpndenfhglaikaaLd
import Derived.Test.YtpndenfhglaikaaW2
set_option linter.all false
namespace Sg
open Go Go.Proofs Go.Proofs.Ytpndenfhglaikaa Go.ChangeShapes Go.WideShapes Go.RowKit
set_option maxRecDepth 20000
theorem Mx:Rd Try.prog 3 1 (aj .i64) (fun n:Int=> -9223372036854775808≤n∧n≤9223372036854775807):=Rd.int Try.underlying3 (by kernel_rfl)
theorem afs:Rd Try.prog 124 1 (aj .i64) (fun n:Int=> -9223372036854775808≤n∧n≤9223372036854775807):=Rd.int Try.underlying124 (by kernel_rfl)
def aaZ (x:Source):Prop:=(fun n:Int=> -9223372036854775808≤n∧n≤9223372036854775807) x.bus∧(fun n:Int=> -9223372036854775808≤n∧n≤9223372036854775807) x.kind∧(fun n:Int=> -9223372036854775808≤n∧n≤9223372036854775807) x.power∧(fun n:Int=> -9223372036854775808≤n∧n≤9223372036854775807) x.sync∧(fun n:Int=> -9223372036854775808≤n∧n≤9223372036854775807) x.bg
theorem agV:Rd Try.prog 126 5 Source.cell aaZ:=by
 refine⟨by kernel_rfl,fun h=> ?_⟩
 obtain⟨hl,hf⟩:=Rd.fields Try.underlying126 (n:=5) (by kernel_rfl) h
 obtain⟨a0,s0,c0⟩:=Rd.field (off:=0) Mx (hf 0 _ rfl)
 obtain⟨a1,s1,c1⟩:=Rd.field (off:=1) afs (hf 1 _ rfl)
 obtain⟨a2,s2,c2⟩:=Rd.field (off:=2) Mx (hf 2 _ rfl)
 obtain⟨a3,s3,c3⟩:=Rd.field (off:=3) Mx (hf 3 _ rfl)
 obtain⟨a4,s4,c4⟩:=Rd.field (off:=4) Mx (hf 4 _ rfl)
 exact⟨⟨a0,a1,a2,a3,a4⟩,⟨s0,s1,s2,s3,s4⟩,hl,fun j hj=>match j,hj with|0,_=>c0 0 (by decide)|1,_=>c1 0 (by decide)|2,_=>c2 0 (by decide)|3,_=>c3 0 (by decide)|4,_=>c4 0 (by decide)⟩
def ahQ (l:List Source):Prop:=l.length≤9223372036854775807∧ ∀x∈l,aaZ x
theorem ajG:Rd Try.prog 22 1 (L8 5 Source.cell) ahQ:=Rd.slice Try.underlying22 (by kernel_rfl) (by decide) agV
theorem ajC:Rd Try.prog 50 1 (aj .i64) (fun n:Int=> -9223372036854775808≤n∧n≤9223372036854775807):=Rd.int Try.underlying50 (by kernel_rfl)
def aaE (x:iD):Prop:=(fun n:Int=> -9223372036854775808≤n∧n≤9223372036854775807) x.amps∧(fun n:Int=> -9223372036854775808≤n∧n≤9223372036854775807) x.millis
theorem aiH:Rd Try.prog 148 2 iD.cell aaE:=by
 refine⟨by kernel_rfl,fun h=> ?_⟩
 obtain⟨hl,hf⟩:=Rd.fields Try.underlying148 (n:=2) (by kernel_rfl) h
 obtain⟨a0,s0,c0⟩:=Rd.field (off:=0) Mx (hf 0 _ rfl)
 obtain⟨a1,s1,c1⟩:=Rd.field (off:=1) Mx (hf 1 _ rfl)
 exact⟨⟨a0,a1⟩,⟨s0,s1⟩,hl,fun j hj=>match j,hj with|0,_=>c0 0 (by decide)|1,_=>c1 0 (by decide)⟩
def aiy (l:List iD):Prop:=l.length≤9223372036854775807∧ ∀x∈l,aaE x
theorem ajX:Rd Try.prog 51 1 (L8 2 iD.cell) aiy:=Rd.slice Try.underlying51 (by kernel_rfl) (by decide) aiH
def ajo (x:Link):Prop:=(fun n:Int=> -9223372036854775808≤n∧n≤9223372036854775807) x.a∧(fun n:Int=> -9223372036854775808≤n∧n≤9223372036854775807) x.b∧(fun n:Int=> -9223372036854775808≤n∧n≤9223372036854775807) x.kind∧(fun n:Int=> -9223372036854775808≤n∧n≤9223372036854775807) x.most∧(fun n:Int=> -9223372036854775808≤n∧n≤9223372036854775807) x.bg∧aiy x.trip
theorem ajL:Rd Try.prog 53 6 Link.cell ajo:=by
 refine⟨by kernel_rfl,fun h=> ?_⟩
 obtain⟨hl,hf⟩:=Rd.fields Try.underlying53 (n:=6) (by kernel_rfl) h
 obtain⟨a0,s0,c0⟩:=Rd.field (off:=0) Mx (hf 0 _ rfl)
 obtain⟨a1,s1,c1⟩:=Rd.field (off:=1) Mx (hf 1 _ rfl)
 obtain⟨a2,s2,c2⟩:=Rd.field (off:=2) ajC (hf 2 _ rfl)
 obtain⟨a3,s3,c3⟩:=Rd.field (off:=3) Mx (hf 3 _ rfl)
 obtain⟨a4,s4,c4⟩:=Rd.field (off:=4) Mx (hf 4 _ rfl)
 obtain⟨a5,s5,c5⟩:=Rd.field (off:=5) ajX (hf 5 _ rfl)
 exact⟨⟨a0,a1,a2,a3,a4,a5⟩,⟨s0,s1,s2,s3,s4,s5⟩,hl,fun j hj=>match j,hj with|0,_=>c0 0 (by decide)|1,_=>c1 0 (by decide)|2,_=>c2 0 (by decide)|3,_=>c3 0 (by decide)|4,_=>c4 0 (by decide)|5,_=>c5 0 (by decide)⟩
def afR (l:List Link):Prop:=l.length≤9223372036854775807∧ ∀x∈l,ajo x
theorem ajV:Rd Try.prog 23 1 (L8 6 Link.cell) afR:=Rd.slice Try.underlying23 (by kernel_rfl) (by decide) ajL
def aaD (x:af):Prop:=(fun n:Int=> -9223372036854775808≤n∧n≤9223372036854775807) x.e0∧(fun n:Int=> -9223372036854775808≤n∧n≤9223372036854775807) x.e1
theorem ahn:Rd Try.prog 164 2 af.cell aaD:=by
 refine⟨by kernel_rfl,fun h=> ?_⟩
 obtain⟨hl,hf⟩:=Rd.elems Try.underlying164 (n:=2) (by kernel_rfl) h
 obtain⟨a0,s0,c0⟩:=Rd.field (off:=0) Mx (hf 0 (by decide))
 obtain⟨a1,s1,c1⟩:=Rd.field (off:=1) Mx (hf 1 (by decide))
 exact⟨⟨a0,a1⟩,⟨s0,s1⟩,hl,fun j hj=>match j,hj with|0,_=>c0 0 (by decide)|1,_=>c1 0 (by decide)⟩
def aaW (x:ay):Prop:=aaD x.feeds∧(fun n:Int=> -9223372036854775808≤n∧n≤9223372036854775807) x.power∧(fun n:Int=> -9223372036854775808≤n∧n≤9223372036854775807) x.paths
theorem afx:Rd Try.prog 166 4 ay.cell aaW:=by
 refine⟨by kernel_rfl,fun h=> ?_⟩
 obtain⟨hl,hf⟩:=Rd.fields Try.underlying166 (n:=4) (by kernel_rfl) h
 obtain⟨a0,s0,c0⟩:=Rd.field (off:=0) ahn (hf 0 _ rfl)
 obtain⟨a1,s1,c1⟩:=Rd.field (off:=2) Mx (hf 1 _ rfl)
 obtain⟨a2,s2,c2⟩:=Rd.field (off:=3) Mx (hf 2 _ rfl)
 exact⟨⟨a0,a1,a2⟩,⟨s0,s1,s2⟩,hl,fun j hj=>match j,hj with|0,_=>c0 0 (by decide)|1,_=>c0 1 (by decide)|2,_=>c1 0 (by decide)|3,_=>c2 0 (by decide)⟩
def afv (l:List ay):Prop:=l.length≤9223372036854775807∧ ∀x∈l,aaW x
theorem ajF:Rd Try.prog 24 1 (L8 4 ay.cell) afv:=Rd.slice Try.underlying24 (by kernel_rfl) (by decide) afx
def ajI (x:ah):Prop:=(fun n:Int=> -9223372036854775808≤n∧n≤9223372036854775807) x.buses∧ahQ x.sources∧afR x.links∧afv x.racks
theorem ajU:Rd Try.prog 26 4 ah.cell ajI:=by
 refine⟨by kernel_rfl,fun h=> ?_⟩
 obtain⟨hl,hf⟩:=Rd.fields Try.underlying26 (n:=4) (by kernel_rfl) h
 obtain⟨a0,s0,c0⟩:=Rd.field (off:=0) Mx (hf 0 _ rfl)
 obtain⟨a1,s1,c1⟩:=Rd.field (off:=1) ajG (hf 1 _ rfl)
 obtain⟨a2,s2,c2⟩:=Rd.field (off:=2) ajV (hf 2 _ rfl)
 obtain⟨a3,s3,c3⟩:=Rd.field (off:=3) ajF (hf 3 _ rfl)
 exact⟨⟨a0,a1,a2,a3⟩,⟨s0,s1,s2,s3⟩,hl,fun j hj=>match j,hj with|0,_=>c0 0 (by decide)|1,_=>c1 0 (by decide)|2,_=>c2 0 (by decide)|3,_=>c3 0 (by decide)⟩
theorem rd4:Rd Try.prog 4 1 ai (fun _:Bool=>True):=Rd.bool Try.underlying4 (by kernel_rfl)
def P7 (l:List Bool):Prop:=l.length≤9223372036854775807∧ ∀x∈l,(fun _:Bool=>True) x
theorem Rw:Rd Try.prog 27 1 (L8 1 ai) P7:=Rd.slice Try.underlying27 (by kernel_rfl) (by decide) rd4
def ajY (x:State):Prop:=P7 x.closed∧P7 x.locked∧P7 x.badLink∧P7 x.on_∧P7 x.badSource∧P7 x.earthed∧P7 x.badBus
theorem ajZ:Rd Try.prog 29 7 State.cell ajY:=by
 refine⟨by kernel_rfl,fun h=> ?_⟩
 obtain⟨hl,hf⟩:=Rd.fields Try.underlying29 (n:=7) (by kernel_rfl) h
 obtain⟨a0,s0,c0⟩:=Rd.field (off:=0) Rw (hf 0 _ rfl)
 obtain⟨a1,s1,c1⟩:=Rd.field (off:=1) Rw (hf 1 _ rfl)
 obtain⟨a2,s2,c2⟩:=Rd.field (off:=2) Rw (hf 2 _ rfl)
 obtain⟨a3,s3,c3⟩:=Rd.field (off:=3) Rw (hf 3 _ rfl)
 obtain⟨a4,s4,c4⟩:=Rd.field (off:=4) Rw (hf 4 _ rfl)
 obtain⟨a5,s5,c5⟩:=Rd.field (off:=5) Rw (hf 5 _ rfl)
 obtain⟨a6,s6,c6⟩:=Rd.field (off:=6) Rw (hf 6 _ rfl)
 exact⟨⟨a0,a1,a2,a3,a4,a5,a6⟩,⟨s0,s1,s2,s3,s4,s5,s6⟩,hl,fun j hj=>match j,hj with|0,_=>c0 0 (by decide)|1,_=>c1 0 (by decide)|2,_=>c2 0 (by decide)|3,_=>c3 0 (by decide)|4,_=>c4 0 (by decide)|5,_=>c5 0 (by decide)|6,_=>c6 0 (by decide)⟩
def aeX (l:List Int):Prop:=l.length≤9223372036854775807∧ ∀x∈l,(fun n:Int=> -9223372036854775808≤n∧n≤9223372036854775807) x
theorem aj0:Rd Try.prog 40 1 (L8 1 (aj .i64)) aeX:=Rd.slice Try.underlying40 (by kernel_rfl) (by decide) Mx
def aaN (x:Short):Prop:=(fun n:Int=> -9223372036854775808≤n∧n≤9223372036854775807) x.source∧(fun n:Int=> -9223372036854775808≤n∧n≤9223372036854775807) x.bg∧(fun n:Int=> -9223372036854775808≤n∧n≤9223372036854775807) x.amps∧aeX x.links
theorem agS:Rd Try.prog 103 4 Short.cell aaN:=by
 refine⟨by kernel_rfl,fun h=> ?_⟩
 obtain⟨hl,hf⟩:=Rd.fields Try.underlying103 (n:=4) (by kernel_rfl) h
 obtain⟨a0,s0,c0⟩:=Rd.field (off:=0) Mx (hf 0 _ rfl)
 obtain⟨a1,s1,c1⟩:=Rd.field (off:=1) Mx (hf 1 _ rfl)
 obtain⟨a2,s2,c2⟩:=Rd.field (off:=2) Mx (hf 2 _ rfl)
 obtain⟨a3,s3,c3⟩:=Rd.field (off:=3) aj0 (hf 3 _ rfl)
 exact⟨⟨a0,a1,a2,a3⟩,⟨s0,s1,s2,s3⟩,hl,fun j hj=>match j,hj with|0,_=>c0 0 (by decide)|1,_=>c1 0 (by decide)|2,_=>c2 0 (by decide)|3,_=>c3 0 (by decide)⟩
def ain (l:List Short):Prop:=l.length≤9223372036854775807∧ ∀x∈l,aaN x
theorem ahv:Rd Try.prog 102 1 (L8 4 Short.cell) ain:=Rd.slice Try.underlying102 (by kernel_rfl) (by decide) agS
end Sg
namespace Go.Proofs.Ytpndenfhglaikaa
open Sg Go.ChangeShapes Go.WideShapes Go.ChangeAt Go.RowKit
theorem Try.own:ownKnob Try.prog.godebug=none:=by kernel_rfl
theorem Try.laidOut:laidOutB Try.prog=true:=by kernel_rfl
set_option maxRecDepth 100000 in
theorem Dp (H:Type) (enc:TypeId × Value→H) (W:World) (base:Nat) (args:Array Value) (ds gs:List (DataW H)) (before:List MemPlace)
  (hval: ∀(j:Nat) t v,Try.f8.params[j]? =some t→args[j]? =some v→Value.okWide Try.prog W .any base t v)
  (hW:DataW.Whole enc Try.prog Try.f8.params.toList Rows.flowShortsSpec.vars false W args.toList ds gs before):
  Calls Try.prog 8 args W fun e W'=> ∃v,e= .returned v∧Rows.flowShortsSpec.post enc Try.prog Try.f8 false true false false W args v W':=by
 have hW':=hW
 obtain⟨p,q,hA0,hV,rfl,hfz,hnd⟩:=hW
 have hA:DataW.TrodAll enc Try.prog W 0 (fun _=>true) true Try.f8.params.toList args.toList ds p:=hA0
 rw [Try.params8]at hA hval
 obtain⟨v0,l0,d0,e0,p0,q0,hv0,hd0,hp0,h0,r0⟩:=trodAll_cons hA
 obtain⟨v1,l1,d1,e1,p1,q1,hv1,hd1,hp1,h1,r1⟩:=trodAll_cons r0
 obtain⟨v2,l2,d2,e2,p2,q2,hv2,hd2,hp2,h2,r2⟩:=trodAll_cons r1
 obtain⟨v3,l3,d3,e3,p3,q3,hv3,hd3,hp3,h3,r3⟩:=trodAll_cons r2
 obtain⟨hvz,hdz,hpz⟩:=trodAll_nil r3
 have hgs:=(trodVars_none hV).1
 have hargs:args= #[v0,v1,v2,v3]:=by
  have:args.toList=[v0,v1,v2,v3]:=by rw [hv0,hv1,hv2,hv3,hvz]
  cases args;simp at this;rw [this]
 have hds:ds=[d0,d1,d2,d3]:=by rw [hd0,hd1,hd2,hd3,hdz]
 subst hargs
 obtain⟨a0,s0,c0⟩:=Rd.agg ajU Try.underlying26 (hval 0 26 v0 rfl rfl) h0
 obtain⟨a1,s1,c1⟩:=Rd.agg ajZ Try.underlying29 (hval 1 29 v1 rfl rfl) h1
 obtain⟨a2,s2,c2⟩:=Rd.one Mx (ZB Try.underlying3 (hval 2 3 v2 rfl rfl)) h2
 obtain⟨a3,s3,c3⟩:=Rd.one ahv (Ua Try.underlying102 (hval 3 102 v3 rfl rfl)) h3
 have hm:iH a0 a1 a2 a3=some true:=Jj a0 a1 a2 a3 ⟨s0.2.1.1,s0.2.2.1.1,s0.2.2.2.1,fun x hx=>(s0.2.2.1.2 x hx).2.2.2.2.2.1⟩
 refine(Vp (vs:=[v0,v1,v2,v3]) (BI a0 a1 a2 a3 hm) ⟨c0,c1,c2,c3,trivial⟩).mono fun e W' ⟨he,hb⟩=> ⟨_,he, ?_⟩
 refine Xt (t4:=4) rfl hW' ?_ ?_ ?_ rfl Try.underlying4 Try.laidOut ?_ hb
 ·rw [hds,hgs];rfl
 ·rw [hds,hgs];rfl
 ·rw [hds,hgs];rfl
 ·intro t ht
  rw [Try.params8]at ht
  simp at ht
  rcases ht with rfl|rfl|rfl|rfl<;>exact⟨by kernel_rfl,of_decide_eq_true (by kernel_rfl)⟩
set_option maxRecDepth 100000 in
theorem Gy (os:Os) (started:os.Started) (H:Type) (enc:TypeId × Value→H):
  ReturnsInHanded {} Try.checked os 8 .any (Rows.flowShortsSpec.pre6 enc Try.prog Try.f8 Rows.flowShortsRow.domain false) (Rows.flowShortsSpec.post enc Try.prog Try.f8 false true false false):=by
 refine returnsInHanded_of_change (C:=Try.checked) Try.own started (by kernel_rfl) Try.func8
  (ChangeSpec.witness6 (enc:=enc) (C:=Try.checked) false ⟨#[], #[.agg #[.int .i64 0, .slice none 0 0, .slice none 0 0, .slice none 0 0], .agg #[.slice none 0 0, .slice none 0 0, .slice none 0 0, .slice none 0 0, .slice none 0 0, .slice none 0 0, .slice none 0 0], .int .i64 0, .slice none 0 0],[]⟩ 16 (by kernel_rfl) (by kernel_rfl) (by kernel_rfl) (by kernel_rfl)) ?_
 intro W base args ds gs before hval hW _ _
 exact Dp H enc W base args ds gs before hval hW
theorem flowShorts_holds:Rows.FlowShortsSaid:=
 OpenClaim.holds_of_wide 8 Try.f8 rfl rfl rfl rfl rfl rfl rfl ⟨rfl,rfl,rfl,rfl,rfl⟩ rfl rfl rfl rfl rfl (by kernel_rfl) Try.func8 (by kernel_rfl)
  (of_decide_eq_true (by kernel_rfl)) (by unfold Func.isWrapper;first|(rw [if_pos (by decide+kernel)];kernel_rfl)|(rw [if_neg (by decide+kernel)];exact⟨rfl,rfl⟩))
  (fun os started H enc _=>Gy os started H enc)
end Go.Proofs.Ytpndenfhglaikaa
