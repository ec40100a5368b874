/- TopServed: for every plant, state and rack, the law that a rack is fed just if it would be served alone, and just if its strength is positive, returns true (no conditions). -/
import Derived.Test.YtfndnfioogkdaaaGreatRows
import Derived.ProofKit
import Derived.Test.YtfndnfioogkdaaaGreatSvLc
import Derived.Test.YtfndnfioogkdaaaGreatSvLh
import Derived.Test.YtfndnfioogkdaaaGreatSvW3
set_option linter.all false
namespace Sg
open Go Go.Proofs Go.Proofs.YtfndnfioogkdaaaGreat Go.ChangeShapes Go.WideShapes Go.RowKit
set_option maxRecDepth 20000
theorem MX:Rd Tryz.prog 3 1 (aF .i64) (fun n:Int=> -9223372036854775808≤n∧n≤9223372036854775807):=Rd.int Tryz.underlying3 (by kernel_rfl)
theorem acC:Rd Tryz.prog 96 1 (aF .i64) (fun n:Int=> -9223372036854775808≤n∧n≤9223372036854775807):=Rd.int Tryz.underlying96 (by kernel_rfl)
def Ze (x:Source):Prop:=(fun n:Int=> -9223372036854775808≤n∧n≤9223372036854775807) x.bus∧(fun n:Int=> -9223372036854775808≤n∧n≤9223372036854775807) x.kind∧(fun n:Int=> -9223372036854775808≤n∧n≤9223372036854775807) x.power∧(fun n:Int=> -9223372036854775808≤n∧n≤9223372036854775807) x.sync∧(fun n:Int=> -9223372036854775808≤n∧n≤9223372036854775807) x.ohm
theorem acu:Rd Tryz.prog 98 5 Source.cell Ze:=by
 refine⟨by kernel_rfl,fun h=> ?_⟩
 obtain⟨hl,hf⟩:=Rd.fields Tryz.underlying98 (n:=5) (by kernel_rfl) h
 obtain⟨a0,s0,c0⟩:=Rd.field (off:=0) MX (hf 0 _ rfl)
 obtain⟨a1,s1,c1⟩:=Rd.field (off:=1) acC (hf 1 _ rfl)
 obtain⟨a2,s2,c2⟩:=Rd.field (off:=2) MX (hf 2 _ rfl)
 obtain⟨a3,s3,c3⟩:=Rd.field (off:=3) MX (hf 3 _ rfl)
 obtain⟨a4,s4,c4⟩:=Rd.field (off:=4) MX (hf 4 _ rfl)
 exact⟨⟨a0,a1,a2,a3,a4⟩,⟨s0,s1,s2,s3,s4⟩,hl,fun j hj=>match j,hj with|0,_=>c0 0 (by decide)|1,_=>c1 0 (by decide)|2,_=>c2 0 (by decide)|3,_=>c3 0 (by decide)|4,_=>c4 0 (by decide)⟩
def aaI (l:List Source):Prop:=l.length≤9223372036854775807∧ ∀x∈l,Ze x
theorem acj:Rd Tryz.prog 22 1 (zX 5 Source.cell) aaI:=Rd.slice Tryz.underlying22 (by kernel_rfl) (by decide) acu
theorem acy:Rd Tryz.prog 67 1 (aF .i64) (fun n:Int=> -9223372036854775808≤n∧n≤9223372036854775807):=Rd.int Tryz.underlying67 (by kernel_rfl)
def Wi (x:lW):Prop:=(fun n:Int=> -9223372036854775808≤n∧n≤9223372036854775807) x.amps∧(fun n:Int=> -9223372036854775808≤n∧n≤9223372036854775807) x.millis
theorem Zf:Rd Tryz.prog 163 2 lW.cell Wi:=by
 refine⟨by kernel_rfl,fun h=> ?_⟩
 obtain⟨hl,hf⟩:=Rd.fields Tryz.underlying163 (n:=2) (by kernel_rfl) h
 obtain⟨a0,s0,c0⟩:=Rd.field (off:=0) MX (hf 0 _ rfl)
 obtain⟨a1,s1,c1⟩:=Rd.field (off:=1) MX (hf 1 _ rfl)
 exact⟨⟨a0,a1⟩,⟨s0,s1⟩,hl,fun j hj=>match j,hj with|0,_=>c0 0 (by decide)|1,_=>c1 0 (by decide)⟩
def ZO (l:List lW):Prop:=l.length≤9223372036854775807∧ ∀x∈l,Wi x
theorem acs:Rd Tryz.prog 68 1 (zX 2 lW.cell) ZO:=Rd.slice Tryz.underlying68 (by kernel_rfl) (by decide) Zf
def Zn (x:Link):Prop:=(fun n:Int=> -9223372036854775808≤n∧n≤9223372036854775807) x.a∧(fun n:Int=> -9223372036854775808≤n∧n≤9223372036854775807) x.b∧(fun n:Int=> -9223372036854775808≤n∧n≤9223372036854775807) x.kind∧(fun n:Int=> -9223372036854775808≤n∧n≤9223372036854775807) x.most∧(fun n:Int=> -9223372036854775808≤n∧n≤9223372036854775807) x.ohm∧ZO x.trip
theorem ab3:Rd Tryz.prog 70 6 Link.cell Zn:=by
 refine⟨by kernel_rfl,fun h=> ?_⟩
 obtain⟨hl,hf⟩:=Rd.fields Tryz.underlying70 (n:=6) (by kernel_rfl) h
 obtain⟨a0,s0,c0⟩:=Rd.field (off:=0) MX (hf 0 _ rfl)
 obtain⟨a1,s1,c1⟩:=Rd.field (off:=1) MX (hf 1 _ rfl)
 obtain⟨a2,s2,c2⟩:=Rd.field (off:=2) acy (hf 2 _ rfl)
 obtain⟨a3,s3,c3⟩:=Rd.field (off:=3) MX (hf 3 _ rfl)
 obtain⟨a4,s4,c4⟩:=Rd.field (off:=4) MX (hf 4 _ rfl)
 obtain⟨a5,s5,c5⟩:=Rd.field (off:=5) acs (hf 5 _ rfl)
 exact⟨⟨a0,a1,a2,a3,a4,a5⟩,⟨s0,s1,s2,s3,s4,s5⟩,hl,fun j hj=>match j,hj with|0,_=>c0 0 (by decide)|1,_=>c1 0 (by decide)|2,_=>c2 0 (by decide)|3,_=>c3 0 (by decide)|4,_=>c4 0 (by decide)|5,_=>c5 0 (by decide)⟩
def YV (l:List Link):Prop:=l.length≤9223372036854775807∧ ∀x∈l,Zn x
theorem abW:Rd Tryz.prog 23 1 (zX 6 Link.cell) YV:=Rd.slice Tryz.underlying23 (by kernel_rfl) (by decide) ab3
def aaS (x:ah):Prop:=(fun n:Int=> -9223372036854775808≤n∧n≤9223372036854775807) x.e0∧(fun n:Int=> -9223372036854775808≤n∧n≤9223372036854775807) x.e1
theorem ab2:Rd Tryz.prog 41 2 ah.cell aaS:=by
 refine⟨by kernel_rfl,fun h=> ?_⟩
 obtain⟨hl,hf⟩:=Rd.elems Tryz.underlying41 (n:=2) (by kernel_rfl) h
 obtain⟨a0,s0,c0⟩:=Rd.field (off:=0) MX (hf 0 (by decide))
 obtain⟨a1,s1,c1⟩:=Rd.field (off:=1) MX (hf 1 (by decide))
 exact⟨⟨a0,a1⟩,⟨s0,s1⟩,hl,fun j hj=>match j,hj with|0,_=>c0 0 (by decide)|1,_=>c1 0 (by decide)⟩
def aaX (x:aT):Prop:=aaS x.feeds∧(fun n:Int=> -9223372036854775808≤n∧n≤9223372036854775807) x.power∧(fun n:Int=> -9223372036854775808≤n∧n≤9223372036854775807) x.paths
theorem acg:Rd Tryz.prog 43 4 aT.cell aaX:=by
 refine⟨by kernel_rfl,fun h=> ?_⟩
 obtain⟨hl,hf⟩:=Rd.fields Tryz.underlying43 (n:=4) (by kernel_rfl) h
 obtain⟨a0,s0,c0⟩:=Rd.field (off:=0) ab2 (hf 0 _ rfl)
 obtain⟨a1,s1,c1⟩:=Rd.field (off:=2) MX (hf 1 _ rfl)
 obtain⟨a2,s2,c2⟩:=Rd.field (off:=3) MX (hf 2 _ rfl)
 exact⟨⟨a0,a1,a2⟩,⟨s0,s1,s2⟩,hl,fun j hj=>match j,hj with|0,_=>c0 0 (by decide)|1,_=>c0 1 (by decide)|2,_=>c1 0 (by decide)|3,_=>c2 0 (by decide)⟩
def aag (l:List aT):Prop:=l.length≤9223372036854775807∧ ∀x∈l,aaX x
theorem acF:Rd Tryz.prog 24 1 (zX 4 aT.cell) aag:=Rd.slice Tryz.underlying24 (by kernel_rfl) (by decide) acg
def acn (x:au):Prop:=(fun n:Int=> -9223372036854775808≤n∧n≤9223372036854775807) x.buses∧aaI x.sources∧YV x.links∧aag x.racks
theorem abL:Rd Tryz.prog 26 4 au.cell acn:=by
 refine⟨by kernel_rfl,fun h=> ?_⟩
 obtain⟨hl,hf⟩:=Rd.fields Tryz.underlying26 (n:=4) (by kernel_rfl) h
 obtain⟨a0,s0,c0⟩:=Rd.field (off:=0) MX (hf 0 _ rfl)
 obtain⟨a1,s1,c1⟩:=Rd.field (off:=1) acj (hf 1 _ rfl)
 obtain⟨a2,s2,c2⟩:=Rd.field (off:=2) abW (hf 2 _ rfl)
 obtain⟨a3,s3,c3⟩:=Rd.field (off:=3) acF (hf 3 _ rfl)
 exact⟨⟨a0,a1,a2,a3⟩,⟨s0,s1,s2,s3⟩,hl,fun j hj=>match j,hj with|0,_=>c0 0 (by decide)|1,_=>c1 0 (by decide)|2,_=>c2 0 (by decide)|3,_=>c3 0 (by decide)⟩
theorem rd4:Rd Tryz.prog 4 1 ai (fun _:Bool=>True):=Rd.bool Tryz.underlying4 (by kernel_rfl)
def Lm (l:List Bool):Prop:=l.length≤9223372036854775807∧ ∀x∈l,(fun _:Bool=>True) x
theorem NP:Rd Tryz.prog 27 1 (zX 1 ai) Lm:=Rd.slice Tryz.underlying27 (by kernel_rfl) (by decide) rd4
def abR (x:State):Prop:=Lm x.closed∧Lm x.locked∧Lm x.badLink∧Lm x.on_∧Lm x.badSource∧Lm x.earthed∧Lm x.badBus
theorem abP:Rd Tryz.prog 29 7 State.cell abR:=by
 refine⟨by kernel_rfl,fun h=> ?_⟩
 obtain⟨hl,hf⟩:=Rd.fields Tryz.underlying29 (n:=7) (by kernel_rfl) h
 obtain⟨a0,s0,c0⟩:=Rd.field (off:=0) NP (hf 0 _ rfl)
 obtain⟨a1,s1,c1⟩:=Rd.field (off:=1) NP (hf 1 _ rfl)
 obtain⟨a2,s2,c2⟩:=Rd.field (off:=2) NP (hf 2 _ rfl)
 obtain⟨a3,s3,c3⟩:=Rd.field (off:=3) NP (hf 3 _ rfl)
 obtain⟨a4,s4,c4⟩:=Rd.field (off:=4) NP (hf 4 _ rfl)
 obtain⟨a5,s5,c5⟩:=Rd.field (off:=5) NP (hf 5 _ rfl)
 obtain⟨a6,s6,c6⟩:=Rd.field (off:=6) NP (hf 6 _ rfl)
 exact⟨⟨a0,a1,a2,a3,a4,a5,a6⟩,⟨s0,s1,s2,s3,s4,s5,s6⟩,hl,fun j hj=>match j,hj with|0,_=>c0 0 (by decide)|1,_=>c1 0 (by decide)|2,_=>c2 0 (by decide)|3,_=>c3 0 (by decide)|4,_=>c4 0 (by decide)|5,_=>c5 0 (by decide)|6,_=>c6 0 (by decide)⟩
end Sg
namespace Go.Proofs.YtfndnfioogkdaaaGreat
open Sg Go.ChangeShapes Go.WideShapes Go.ChangeAt Go.RowKit
theorem Tryz.own:ownKnob Tryz.prog.godebug=none:=by kernel_rfl
theorem Tryz.laidOut:laidOutB Tryz.prog=true:=by kernel_rfl
set_option maxRecDepth 100000 in
theorem A8 (H:Type) (enc:TypeId × Value→H) (W:World) (base:Nat) (args:Array Value) (ds gs:List (DataW H)) (before:List MemPlace)
  (hval: ∀(j:Nat) t v,Tryz.f3.params[j]? =some t→args[j]? =some v→Value.okWide Tryz.prog W .any base t v)
  (hW:DataW.Whole enc Tryz.prog Tryz.f3.params.toList Rows.topServedSpec.vars false W args.toList ds gs before):
  Calls Tryz.prog 3 args W fun e W'=> ∃v,e= .returned v∧Rows.topServedSpec.post enc Tryz.prog Tryz.f3 false true false false W args v W':=by
 have hW':=hW
 obtain⟨p,q,hA0,hV,rfl,hfz,hnd⟩:=hW
 have hA:DataW.TrodAll enc Tryz.prog W 0 (fun _=>true) true Tryz.f3.params.toList args.toList ds p:=hA0
 rw [Tryz.params3]at hA hval
 obtain⟨v0,l0,d0,e0,p0,q0,hv0,hd0,hp0,h0,r0⟩:=trodAll_cons hA
 obtain⟨v1,l1,d1,e1,p1,q1,hv1,hd1,hp1,h1,r1⟩:=trodAll_cons r0
 obtain⟨v2,l2,d2,e2,p2,q2,hv2,hd2,hp2,h2,r2⟩:=trodAll_cons r1
 obtain⟨hvz,hdz,hpz⟩:=trodAll_nil r2
 have hgs:=(trodVars_none hV).1
 have hargs:args= #[v0,v1,v2]:=by
  have:args.toList=[v0,v1,v2]:=by rw [hv0,hv1,hv2,hvz]
  cases args;simp at this;rw [this]
 have hds:ds=[d0,d1,d2]:=by rw [hd0,hd1,hd2,hdz]
 subst hargs
 obtain⟨a0,s0,c0⟩:=Rd.agg abL Tryz.underlying26 (hval 0 26 v0 rfl rfl) h0
 obtain⟨a1,s1,c1⟩:=Rd.agg abP Tryz.underlying29 (hval 1 29 v1 rfl rfl) h1
 obtain⟨a2,s2,c2⟩:=Rd.one MX (VN Tryz.underlying3 (hval 2 3 v2 rfl rfl)) h2
 have hm:mE a0 a1 a2=some true:=Gw a0 a1 a2 ⟨s0.2.1.1,s0.2.2.1.1,s0.2.2.2.1,fun x hx=>(s0.2.2.1.2 x hx).2.2.2.2.2.1⟩
 refine(QA (vs:=[v0,v1,v2]) (Bt a0 a1 a2 hm) ⟨c0,c1,c2,trivial⟩ (fun _ h=>by cases h)).mono fun e W' ⟨he,hb⟩=> ⟨_,he, ?_⟩
 refine RG (t4:=4) rfl hW' ?_ ?_ ?_ rfl Tryz.underlying4 Tryz.laidOut ?_ hb
 ·rw [hds,hgs];rfl
 ·rw [hds,hgs];rfl
 ·rw [hds,hgs];rfl
 ·intro t ht
  rw [Tryz.params3]at ht
  simp at ht
  rcases ht with rfl|rfl|rfl<;>exact⟨by kernel_rfl,of_decide_eq_true (by kernel_rfl)⟩
set_option maxRecDepth 100000 in
theorem Dx (os:Os) (started:os.Started) (H:Type) (enc:TypeId × Value→H):
  ReturnsInHanded {} Tryz.checked os 3 .any (Rows.topServedSpec.pre6 enc Tryz.prog Tryz.f3 Rows.topServedRow.domain false) (Rows.topServedSpec.post enc Tryz.prog Tryz.f3 false true false false):=by
 refine returnsInHanded_of_change (C:=Tryz.checked) Tryz.own started (by kernel_rfl) Tryz.func3
  (ChangeSpec.witness6 (enc:=enc) (C:=Tryz.checked) false ⟨#[], #[.agg #[.int .i64 0, .slice none 0 0, .slice none 0 0, .slice none 0 0], .agg #[.slice none 0 0, .slice none 0 0, .slice none 0 0, .slice none 0 0, .slice none 0 0, .slice none 0 0, .slice none 0 0], .int .i64 0],[]⟩ 16 (by kernel_rfl) (by kernel_rfl) (by kernel_rfl) (by kernel_rfl)) ?_
 intro W base args ds gs before hval hW _ _
 exact A8 H enc W base args ds gs before hval hW
theorem topServed_holds:Rows.TopServedSaid:=
 OpenClaim.holds_of_wide 3 Tryz.f3 rfl rfl rfl rfl rfl rfl rfl ⟨rfl,rfl,rfl,rfl,rfl⟩ rfl rfl rfl rfl rfl (by kernel_rfl) Tryz.func3 (by kernel_rfl)
  (of_decide_eq_true (by kernel_rfl)) (by unfold Func.isWrapper;first|(rw [if_pos (by decide+kernel)];kernel_rfl)|(rw [if_neg (by decide+kernel)];exact⟨rfl,rfl⟩))
  (fun os started H enc _=>Dx os started H enc)
end Go.Proofs.YtfndnfioogkdaaaGreat
