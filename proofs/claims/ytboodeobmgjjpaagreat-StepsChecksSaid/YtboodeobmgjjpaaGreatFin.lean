/- StepsChecks: for every plant, state, task and step, the law that compares what holds, the checks of tasks, what is legal and the inverse step with the reference returns true (no conditions). -/
import Derived.Test.YtboodeobmgjjpaaGreatRows
import Derived.ProofKit
import Derived.Test.YtboodeobmgjjpaaGreatLc
import Derived.Test.YtboodeobmgjjpaaGreatLf
import Derived.Test.YtboodeobmgjjpaaGreatW4
set_option linter.all false
namespace Sg
open Go Go.Proofs Go.Proofs.YtboodeobmgjjpaaGreat Go.ChangeShapes Go.WideShapes Go.RowKit
set_option maxRecDepth 20000
theorem KL:Rd Tryz.prog 3 1 (bJ .i64) (fun n:Int=> -9223372036854775808≤n∧n≤9223372036854775807):=Rd.int Tryz.underlying3 (by kernel_rfl)
theorem aai:Rd Tryz.prog 56 1 (bJ .i64) (fun n:Int=> -9223372036854775808≤n∧n≤9223372036854775807):=Rd.int Tryz.underlying56 (by kernel_rfl)
def Yy (x:Source):Prop:=(fun n:Int=> -9223372036854775808≤n∧n≤9223372036854775807) x.bus∧(fun n:Int=> -9223372036854775808≤n∧n≤9223372036854775807) x.kind∧(fun n:Int=> -9223372036854775808≤n∧n≤9223372036854775807) x.power∧(fun n:Int=> -9223372036854775808≤n∧n≤9223372036854775807) x.sync∧(fun n:Int=> -9223372036854775808≤n∧n≤9223372036854775807) x.ohm
theorem aaL:Rd Tryz.prog 58 5 Source.cell Yy:=by
 refine⟨by kernel_rfl,fun h=> ?_⟩
 obtain⟨hl,hf⟩:=Rd.fields Tryz.underlying58 (n:=5) (by kernel_rfl) h
 obtain⟨a0,s0,c0⟩:=Rd.field (off:=0) KL (hf 0 _ rfl)
 obtain⟨a1,s1,c1⟩:=Rd.field (off:=1) aai (hf 1 _ rfl)
 obtain⟨a2,s2,c2⟩:=Rd.field (off:=2) KL (hf 2 _ rfl)
 obtain⟨a3,s3,c3⟩:=Rd.field (off:=3) KL (hf 3 _ rfl)
 obtain⟨a4,s4,c4⟩:=Rd.field (off:=4) KL (hf 4 _ rfl)
 exact⟨⟨a0,a1,a2,a3,a4⟩,⟨s0,s1,s2,s3,s4⟩,hl,fun j hj=>match j,hj with|0,_=>c0 0 (by decide)|1,_=>c1 0 (by decide)|2,_=>c2 0 (by decide)|3,_=>c3 0 (by decide)|4,_=>c4 0 (by decide)⟩
def X0 (l:List Source):Prop:=l.length≤9223372036854775807∧ ∀x∈l,Yy x
theorem aag:Rd Tryz.prog 22 1 (Uu 5 Source.cell) X0:=Rd.slice Tryz.underlying22 (by kernel_rfl) (by decide) aaL
theorem ZU:Rd Tryz.prog 52 1 (bJ .i64) (fun n:Int=> -9223372036854775808≤n∧n≤9223372036854775807):=Rd.int Tryz.underlying52 (by kernel_rfl)
def Um (x:oQ):Prop:=(fun n:Int=> -9223372036854775808≤n∧n≤9223372036854775807) x.amps∧(fun n:Int=> -9223372036854775808≤n∧n≤9223372036854775807) x.millis
theorem YM:Rd Tryz.prog 220 2 oQ.cell Um:=by
 refine⟨by kernel_rfl,fun h=> ?_⟩
 obtain⟨hl,hf⟩:=Rd.fields Tryz.underlying220 (n:=2) (by kernel_rfl) h
 obtain⟨a0,s0,c0⟩:=Rd.field (off:=0) KL (hf 0 _ rfl)
 obtain⟨a1,s1,c1⟩:=Rd.field (off:=1) KL (hf 1 _ rfl)
 exact⟨⟨a0,a1⟩,⟨s0,s1⟩,hl,fun j hj=>match j,hj with|0,_=>c0 0 (by decide)|1,_=>c1 0 (by decide)⟩
def Yp (l:List oQ):Prop:=l.length≤9223372036854775807∧ ∀x∈l,Um x
theorem aaZ:Rd Tryz.prog 53 1 (Uu 2 oQ.cell) Yp:=Rd.slice Tryz.underlying53 (by kernel_rfl) (by decide) YM
def YI (x:Link):Prop:=(fun n:Int=> -9223372036854775808≤n∧n≤9223372036854775807) x.a∧(fun n:Int=> -9223372036854775808≤n∧n≤9223372036854775807) x.b∧(fun n:Int=> -9223372036854775808≤n∧n≤9223372036854775807) x.kind∧(fun n:Int=> -9223372036854775808≤n∧n≤9223372036854775807) x.most∧(fun n:Int=> -9223372036854775808≤n∧n≤9223372036854775807) x.ohm∧Yp x.trip
theorem aat:Rd Tryz.prog 55 6 Link.cell YI:=by
 refine⟨by kernel_rfl,fun h=> ?_⟩
 obtain⟨hl,hf⟩:=Rd.fields Tryz.underlying55 (n:=6) (by kernel_rfl) h
 obtain⟨a0,s0,c0⟩:=Rd.field (off:=0) KL (hf 0 _ rfl)
 obtain⟨a1,s1,c1⟩:=Rd.field (off:=1) KL (hf 1 _ rfl)
 obtain⟨a2,s2,c2⟩:=Rd.field (off:=2) ZU (hf 2 _ rfl)
 obtain⟨a3,s3,c3⟩:=Rd.field (off:=3) KL (hf 3 _ rfl)
 obtain⟨a4,s4,c4⟩:=Rd.field (off:=4) KL (hf 4 _ rfl)
 obtain⟨a5,s5,c5⟩:=Rd.field (off:=5) aaZ (hf 5 _ rfl)
 exact⟨⟨a0,a1,a2,a3,a4,a5⟩,⟨s0,s1,s2,s3,s4,s5⟩,hl,fun j hj=>match j,hj with|0,_=>c0 0 (by decide)|1,_=>c1 0 (by decide)|2,_=>c2 0 (by decide)|3,_=>c3 0 (by decide)|4,_=>c4 0 (by decide)|5,_=>c5 0 (by decide)⟩
def XU (l:List Link):Prop:=l.length≤9223372036854775807∧ ∀x∈l,YI x
theorem ZW:Rd Tryz.prog 23 1 (Uu 6 Link.cell) XU:=Rd.slice Tryz.underlying23 (by kernel_rfl) (by decide) aat
def Uz (x:ay):Prop:=(fun n:Int=> -9223372036854775808≤n∧n≤9223372036854775807) x.e0∧(fun n:Int=> -9223372036854775808≤n∧n≤9223372036854775807) x.e1
theorem Xc:Rd Tryz.prog 117 2 ay.cell Uz:=by
 refine⟨by kernel_rfl,fun h=> ?_⟩
 obtain⟨hl,hf⟩:=Rd.elems Tryz.underlying117 (n:=2) (by kernel_rfl) h
 obtain⟨a0,s0,c0⟩:=Rd.field (off:=0) KL (hf 0 (by decide))
 obtain⟨a1,s1,c1⟩:=Rd.field (off:=1) KL (hf 1 (by decide))
 exact⟨⟨a0,a1⟩,⟨s0,s1⟩,hl,fun j hj=>match j,hj with|0,_=>c0 0 (by decide)|1,_=>c1 0 (by decide)⟩
def Uw (x:aT):Prop:=Uz x.feeds∧(fun n:Int=> -9223372036854775808≤n∧n≤9223372036854775807) x.power∧(fun n:Int=> -9223372036854775808≤n∧n≤9223372036854775807) x.paths
theorem YJ:Rd Tryz.prog 119 4 aT.cell Uw:=by
 refine⟨by kernel_rfl,fun h=> ?_⟩
 obtain⟨hl,hf⟩:=Rd.fields Tryz.underlying119 (n:=4) (by kernel_rfl) h
 obtain⟨a0,s0,c0⟩:=Rd.field (off:=0) Xc (hf 0 _ rfl)
 obtain⟨a1,s1,c1⟩:=Rd.field (off:=2) KL (hf 1 _ rfl)
 obtain⟨a2,s2,c2⟩:=Rd.field (off:=3) KL (hf 2 _ rfl)
 exact⟨⟨a0,a1,a2⟩,⟨s0,s1,s2⟩,hl,fun j hj=>match j,hj with|0,_=>c0 0 (by decide)|1,_=>c0 1 (by decide)|2,_=>c1 0 (by decide)|3,_=>c2 0 (by decide)⟩
def Wx (l:List aT):Prop:=l.length≤9223372036854775807∧ ∀x∈l,Uw x
theorem aas:Rd Tryz.prog 24 1 (Uu 4 aT.cell) Wx:=Rd.slice Tryz.underlying24 (by kernel_rfl) (by decide) YJ
def ZR (x:au):Prop:=(fun n:Int=> -9223372036854775808≤n∧n≤9223372036854775807) x.buses∧X0 x.sources∧XU x.links∧Wx x.racks
theorem aaX:Rd Tryz.prog 26 4 au.cell ZR:=by
 refine⟨by kernel_rfl,fun h=> ?_⟩
 obtain⟨hl,hf⟩:=Rd.fields Tryz.underlying26 (n:=4) (by kernel_rfl) h
 obtain⟨a0,s0,c0⟩:=Rd.field (off:=0) KL (hf 0 _ rfl)
 obtain⟨a1,s1,c1⟩:=Rd.field (off:=1) aag (hf 1 _ rfl)
 obtain⟨a2,s2,c2⟩:=Rd.field (off:=2) ZW (hf 2 _ rfl)
 obtain⟨a3,s3,c3⟩:=Rd.field (off:=3) aas (hf 3 _ rfl)
 exact⟨⟨a0,a1,a2,a3⟩,⟨s0,s1,s2,s3⟩,hl,fun j hj=>match j,hj with|0,_=>c0 0 (by decide)|1,_=>c1 0 (by decide)|2,_=>c2 0 (by decide)|3,_=>c3 0 (by decide)⟩
theorem rd4:Rd Tryz.prog 4 1 ai (fun _:Bool=>True):=Rd.bool Tryz.underlying4 (by kernel_rfl)
def JH (l:List Bool):Prop:=l.length≤9223372036854775807∧ ∀x∈l,(fun _:Bool=>True) x
theorem ML:Rd Tryz.prog 27 1 (Uu 1 ai) JH:=Rd.slice Tryz.underlying27 (by kernel_rfl) (by decide) rd4
def aaN (x:State):Prop:=JH x.closed∧JH x.locked∧JH x.badLink∧JH x.on_∧JH x.badSource∧JH x.earthed∧JH x.badBus
theorem ZE:Rd Tryz.prog 29 7 State.cell aaN:=by
 refine⟨by kernel_rfl,fun h=> ?_⟩
 obtain⟨hl,hf⟩:=Rd.fields Tryz.underlying29 (n:=7) (by kernel_rfl) h
 obtain⟨a0,s0,c0⟩:=Rd.field (off:=0) ML (hf 0 _ rfl)
 obtain⟨a1,s1,c1⟩:=Rd.field (off:=1) ML (hf 1 _ rfl)
 obtain⟨a2,s2,c2⟩:=Rd.field (off:=2) ML (hf 2 _ rfl)
 obtain⟨a3,s3,c3⟩:=Rd.field (off:=3) ML (hf 3 _ rfl)
 obtain⟨a4,s4,c4⟩:=Rd.field (off:=4) ML (hf 4 _ rfl)
 obtain⟨a5,s5,c5⟩:=Rd.field (off:=5) ML (hf 5 _ rfl)
 obtain⟨a6,s6,c6⟩:=Rd.field (off:=6) ML (hf 6 _ rfl)
 exact⟨⟨a0,a1,a2,a3,a4,a5,a6⟩,⟨s0,s1,s2,s3,s4,s5,s6⟩,hl,fun j hj=>match j,hj with|0,_=>c0 0 (by decide)|1,_=>c1 0 (by decide)|2,_=>c2 0 (by decide)|3,_=>c3 0 (by decide)|4,_=>c4 0 (by decide)|5,_=>c5 0 (by decide)|6,_=>c6 0 (by decide)⟩
def UR (l:List Int):Prop:=l.length≤9223372036854775807∧ ∀x∈l,(fun n:Int=> -9223372036854775808≤n∧n≤9223372036854775807) x
theorem WG:Rd Tryz.prog 30 1 (Uu 1 (bJ .i64)) UR:=Rd.slice Tryz.underlying30 (by kernel_rfl) (by decide) KL
theorem aah:Rd Tryz.prog 59 1 (bJ .i64) (fun n:Int=> -9223372036854775808≤n∧n≤9223372036854775807):=Rd.int Tryz.underlying59 (by kernel_rfl)
def Yb (x:af):Prop:=(fun n:Int=> -9223372036854775808≤n∧n≤9223372036854775807) x.deed∧(fun n:Int=> -9223372036854775808≤n∧n≤9223372036854775807) x.index
theorem YP:Rd Tryz.prog 61 2 af.cell Yb:=by
 refine⟨by kernel_rfl,fun h=> ?_⟩
 obtain⟨hl,hf⟩:=Rd.fields Tryz.underlying61 (n:=2) (by kernel_rfl) h
 obtain⟨a0,s0,c0⟩:=Rd.field (off:=0) aah (hf 0 _ rfl)
 obtain⟨a1,s1,c1⟩:=Rd.field (off:=1) KL (hf 1 _ rfl)
 exact⟨⟨a0,a1⟩,⟨s0,s1⟩,hl,fun j hj=>match j,hj with|0,_=>c0 0 (by decide)|1,_=>c1 0 (by decide)⟩
def VD (l:List af):Prop:=l.length≤9223372036854775807∧ ∀x∈l,Yb x
theorem Xh:Rd Tryz.prog 31 1 (Uu 2 af.cell) VD:=Rd.slice Tryz.underlying31 (by kernel_rfl) (by decide) YP
def aaz (x:Task):Prop:=UR x.fed∧UR x.crew∧VD x.allowed∧VD x.goal
theorem aaU:Rd Tryz.prog 33 4 Task.cell aaz:=by
 refine⟨by kernel_rfl,fun h=> ?_⟩
 obtain⟨hl,hf⟩:=Rd.fields Tryz.underlying33 (n:=4) (by kernel_rfl) h
 obtain⟨a0,s0,c0⟩:=Rd.field (off:=0) WG (hf 0 _ rfl)
 obtain⟨a1,s1,c1⟩:=Rd.field (off:=1) WG (hf 1 _ rfl)
 obtain⟨a2,s2,c2⟩:=Rd.field (off:=2) Xh (hf 2 _ rfl)
 obtain⟨a3,s3,c3⟩:=Rd.field (off:=3) Xh (hf 3 _ rfl)
 exact⟨⟨a0,a1,a2,a3⟩,⟨s0,s1,s2,s3⟩,hl,fun j hj=>match j,hj with|0,_=>c0 0 (by decide)|1,_=>c1 0 (by decide)|2,_=>c2 0 (by decide)|3,_=>c3 0 (by decide)⟩
end Sg
namespace Go.Proofs.YtboodeobmgjjpaaGreat
open Sg Go.ChangeShapes Go.WideShapes Go.ChangeAt Go.RowKit
theorem Tryz.own:ownKnob Tryz.prog.godebug=none:=by kernel_rfl
theorem Tryz.laidOut:laidOutB Tryz.prog=true:=by kernel_rfl
set_option maxRecDepth 100000 in
theorem yF (H:Type) (enc:TypeId × Value→H) (W:World) (base:Nat) (args:Array Value) (ds gs:List (DataW H)) (before:List MemPlace)
  (hval: ∀(j:Nat) t v,Tryz.f10.params[j]? =some t→args[j]? =some v→Value.okWide Tryz.prog W .any base t v)
  (hW:DataW.Whole enc Tryz.prog Tryz.f10.params.toList Rows.stepsChecksSpec.vars false W args.toList ds gs before):
  Calls Tryz.prog 10 args W fun e W'=> ∃v,e= .returned v∧Rows.stepsChecksSpec.post enc Tryz.prog Tryz.f10 false true false false W args v W':=by
 have hW':=hW
 obtain⟨p,q,hA0,hV,rfl,hfz,hnd⟩:=hW
 have hA:DataW.TrodAll enc Tryz.prog W 0 (fun _=>true) true Tryz.f10.params.toList args.toList ds p:=hA0
 rw [Tryz.params10]at hA hval
 obtain⟨v0,l0,d0,e0,p0,q0,hv0,hd0,hp0,h0,r0⟩:=trodAll_cons hA
 obtain⟨v1,l1,d1,e1,p1,q1,hv1,hd1,hp1,h1,r1⟩:=trodAll_cons r0
 obtain⟨v2,l2,d2,e2,p2,q2,hv2,hd2,hp2,h2,r2⟩:=trodAll_cons r1
 obtain⟨v3,l3,d3,e3,p3,q3,hv3,hd3,hp3,h3,r3⟩:=trodAll_cons r2
 obtain⟨hvz,hdz,hpz⟩:=trodAll_nil r3
 have hgs:=(trodVars_none hV).1
 have hargs:args= #[v0,v1,v2,v3]:=by
  have:args.toList=[v0,v1,v2,v3]:=by rw [hv0,hv1,hv2,hv3,hvz]
  cases args;simp at this;rw [this]
 have hds:ds=[d0,d1,d2,d3]:=by rw [hd0,hd1,hd2,hd3,hdz]
 subst hargs
 obtain⟨a0,s0,c0⟩:=Rd.agg aaX Tryz.underlying26 (hval 0 26 v0 rfl rfl) h0
 obtain⟨a1,s1,c1⟩:=Rd.agg ZE Tryz.underlying29 (hval 1 29 v1 rfl rfl) h1
 obtain⟨a2,s2,c2⟩:=Rd.agg aaU Tryz.underlying33 (hval 2 33 v2 rfl rfl) h2
 obtain⟨a3,s3,c3⟩:=Rd.agg YP Tryz.underlying61 (hval 3 61 v3 rfl rfl) h3
 have hm:jy a0 a1 a2 a3=some true:=CR a1 a2 a3 ⟨s0.2.1.1,s0.2.2.1.1,s0.2.2.2.1,fun x hx=>(s0.2.2.1.2 x hx).2.2.2.2.2.1⟩
 refine(Oo (vs:=[v0,v1,v2,v3]) (wL a0 a1 a2 a3 hm) ⟨c0,c1,c2,c3,trivial⟩).mono fun e W' ⟨he,hb⟩=> ⟨_,he, ?_⟩
 refine QA (t4:=4) rfl hW' ?_ ?_ ?_ rfl Tryz.underlying4 Tryz.laidOut ?_ hb
 ·rw [hds,hgs];rfl
 ·rw [hds,hgs];rfl
 ·rw [hds,hgs];rfl
 ·intro t ht
  rw [Tryz.params10]at ht
  simp at ht
  rcases ht with rfl|rfl|rfl|rfl<;>exact⟨by kernel_rfl,of_decide_eq_true (by kernel_rfl)⟩
set_option maxRecDepth 100000 in
theorem Al (os:Os) (started:os.Started) (H:Type) (enc:TypeId × Value→H):
  ReturnsInHanded {} Tryz.checked os 10 .any (Rows.stepsChecksSpec.pre6 enc Tryz.prog Tryz.f10 Rows.stepsChecksRow.domain false) (Rows.stepsChecksSpec.post enc Tryz.prog Tryz.f10 false true false false):=by
 refine returnsInHanded_of_change (C:=Tryz.checked) Tryz.own started (by kernel_rfl) Tryz.func10
  (ChangeSpec.witness6 (enc:=enc) (C:=Tryz.checked) false ⟨#[], #[.agg #[.int .i64 0, .slice none 0 0, .slice none 0 0, .slice none 0 0], .agg #[.slice none 0 0, .slice none 0 0, .slice none 0 0, .slice none 0 0, .slice none 0 0, .slice none 0 0, .slice none 0 0], .agg #[.slice none 0 0, .slice none 0 0, .slice none 0 0, .slice none 0 0], .agg #[.int .i64 0, .int .i64 0]],[]⟩ 16 (by kernel_rfl) (by kernel_rfl) (by kernel_rfl) (by kernel_rfl)) ?_
 intro W base args ds gs before hval hW _ _
 exact yF H enc W base args ds gs before hval hW
theorem stepsChecks_holds:Rows.StepsChecksSaid:=
 OpenClaim.holds_of_wide 10 Tryz.f10 rfl rfl rfl rfl rfl rfl rfl ⟨rfl,rfl,rfl,rfl,rfl⟩ rfl rfl rfl rfl rfl (by kernel_rfl) Tryz.func10 (by kernel_rfl)
  (of_decide_eq_true (by kernel_rfl)) (by unfold Func.isWrapper;first|(rw [if_pos (by decide+kernel)];kernel_rfl)|(rw [if_neg (by decide+kernel)];exact⟨rfl,rfl⟩))
  (fun os started H enc _=>Al os started H enc)
end Go.Proofs.YtboodeobmgjjpaaGreat
