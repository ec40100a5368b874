/- StepsFinds: for every plant, state, task and bound, the law that compares the program found, the states that prove that there is none and their check with the reference returns true (no conditions). -/
import Derived.Test.YtboodeobmgjjpaaGreatRows
import Derived.ProofKit
import Derived.Test.YtboodeobmgjjpaaGreatFaLc
import Derived.Test.YtboodeobmgjjpaaGreatFaLf
import Derived.Test.YtboodeobmgjjpaaGreatFaW3
set_option linter.all false
namespace Sg
open Go Go.Proofs Go.Proofs.YtboodeobmgjjpaaGreat Go.ChangeShapes Go.WideShapes Go.RowKit
set_option maxRecDepth 20000
theorem JK:Rd Tryz.prog 3 1 (bM .i64) (fun n:Int=> -9223372036854775808≤n∧n≤9223372036854775807):=Rd.int Tryz.underlying3 (by kernel_rfl)
theorem aat:Rd Tryz.prog 56 1 (bM .i64) (fun n:Int=> -9223372036854775808≤n∧n≤9223372036854775807):=Rd.int Tryz.underlying56 (by kernel_rfl)
def Xv (x:Source):Prop:=(fun n:Int=> -9223372036854775808≤n∧n≤9223372036854775807) x.bus∧(fun n:Int=> -9223372036854775808≤n∧n≤9223372036854775807) x.kind∧(fun n:Int=> -9223372036854775808≤n∧n≤9223372036854775807) x.power∧(fun n:Int=> -9223372036854775808≤n∧n≤9223372036854775807) x.sync∧(fun n:Int=> -9223372036854775808≤n∧n≤9223372036854775807) x.ohm
theorem ZY:Rd Tryz.prog 58 5 Source.cell Xv:=by
 refine⟨by kernel_rfl,fun h=> ?_⟩
 obtain⟨hl,hf⟩:=Rd.fields Tryz.underlying58 (n:=5) (by kernel_rfl) h
 obtain⟨a0,s0,c0⟩:=Rd.field (off:=0) JK (hf 0 _ rfl)
 obtain⟨a1,s1,c1⟩:=Rd.field (off:=1) aat (hf 1 _ rfl)
 obtain⟨a2,s2,c2⟩:=Rd.field (off:=2) JK (hf 2 _ rfl)
 obtain⟨a3,s3,c3⟩:=Rd.field (off:=3) JK (hf 3 _ rfl)
 obtain⟨a4,s4,c4⟩:=Rd.field (off:=4) JK (hf 4 _ rfl)
 exact⟨⟨a0,a1,a2,a3,a4⟩,⟨s0,s1,s2,s3,s4⟩,hl,fun j hj=>match j,hj with|0,_=>c0 0 (by decide)|1,_=>c1 0 (by decide)|2,_=>c2 0 (by decide)|3,_=>c3 0 (by decide)|4,_=>c4 0 (by decide)⟩
def YH (l:List Source):Prop:=l.length≤9223372036854775807∧ ∀x∈l,Xv x
theorem Z8:Rd Tryz.prog 22 1 (NI 5 Source.cell) YH:=Rd.slice Tryz.underlying22 (by kernel_rfl) (by decide) ZY
theorem aaS:Rd Tryz.prog 52 1 (bM .i64) (fun n:Int=> -9223372036854775808≤n∧n≤9223372036854775807):=Rd.int Tryz.underlying52 (by kernel_rfl)
def Ut (x:oD):Prop:=(fun n:Int=> -9223372036854775808≤n∧n≤9223372036854775807) x.amps∧(fun n:Int=> -9223372036854775808≤n∧n≤9223372036854775807) x.millis
theorem Y5:Rd Tryz.prog 220 2 oD.cell Ut:=by
 refine⟨by kernel_rfl,fun h=> ?_⟩
 obtain⟨hl,hf⟩:=Rd.fields Tryz.underlying220 (n:=2) (by kernel_rfl) h
 obtain⟨a0,s0,c0⟩:=Rd.field (off:=0) JK (hf 0 _ rfl)
 obtain⟨a1,s1,c1⟩:=Rd.field (off:=1) JK (hf 1 _ rfl)
 exact⟨⟨a0,a1⟩,⟨s0,s1⟩,hl,fun j hj=>match j,hj with|0,_=>c0 0 (by decide)|1,_=>c1 0 (by decide)⟩
def WX (l:List oD):Prop:=l.length≤9223372036854775807∧ ∀x∈l,Ut x
theorem aaZ:Rd Tryz.prog 53 1 (NI 2 oD.cell) WX:=Rd.slice Tryz.underlying53 (by kernel_rfl) (by decide) Y5
def XY (x:Link):Prop:=(fun n:Int=> -9223372036854775808≤n∧n≤9223372036854775807) x.a∧(fun n:Int=> -9223372036854775808≤n∧n≤9223372036854775807) x.b∧(fun n:Int=> -9223372036854775808≤n∧n≤9223372036854775807) x.kind∧(fun n:Int=> -9223372036854775808≤n∧n≤9223372036854775807) x.most∧(fun n:Int=> -9223372036854775808≤n∧n≤9223372036854775807) x.ohm∧WX x.trip
theorem ZC:Rd Tryz.prog 55 6 Link.cell XY:=by
 refine⟨by kernel_rfl,fun h=> ?_⟩
 obtain⟨hl,hf⟩:=Rd.fields Tryz.underlying55 (n:=6) (by kernel_rfl) h
 obtain⟨a0,s0,c0⟩:=Rd.field (off:=0) JK (hf 0 _ rfl)
 obtain⟨a1,s1,c1⟩:=Rd.field (off:=1) JK (hf 1 _ rfl)
 obtain⟨a2,s2,c2⟩:=Rd.field (off:=2) aaS (hf 2 _ rfl)
 obtain⟨a3,s3,c3⟩:=Rd.field (off:=3) JK (hf 3 _ rfl)
 obtain⟨a4,s4,c4⟩:=Rd.field (off:=4) JK (hf 4 _ rfl)
 obtain⟨a5,s5,c5⟩:=Rd.field (off:=5) aaZ (hf 5 _ rfl)
 exact⟨⟨a0,a1,a2,a3,a4,a5⟩,⟨s0,s1,s2,s3,s4,s5⟩,hl,fun j hj=>match j,hj with|0,_=>c0 0 (by decide)|1,_=>c1 0 (by decide)|2,_=>c2 0 (by decide)|3,_=>c3 0 (by decide)|4,_=>c4 0 (by decide)|5,_=>c5 0 (by decide)⟩
def Y6 (l:List Link):Prop:=l.length≤9223372036854775807∧ ∀x∈l,XY x
theorem aap:Rd Tryz.prog 23 1 (NI 6 Link.cell) Y6:=Rd.slice Tryz.underlying23 (by kernel_rfl) (by decide) ZC
def UO (x:aA):Prop:=(fun n:Int=> -9223372036854775808≤n∧n≤9223372036854775807) x.e0∧(fun n:Int=> -9223372036854775808≤n∧n≤9223372036854775807) x.e1
theorem Yv:Rd Tryz.prog 117 2 aA.cell UO:=by
 refine⟨by kernel_rfl,fun h=> ?_⟩
 obtain⟨hl,hf⟩:=Rd.elems Tryz.underlying117 (n:=2) (by kernel_rfl) h
 obtain⟨a0,s0,c0⟩:=Rd.field (off:=0) JK (hf 0 (by decide))
 obtain⟨a1,s1,c1⟩:=Rd.field (off:=1) JK (hf 1 (by decide))
 exact⟨⟨a0,a1⟩,⟨s0,s1⟩,hl,fun j hj=>match j,hj with|0,_=>c0 0 (by decide)|1,_=>c1 0 (by decide)⟩
def UC (x:aV):Prop:=UO x.feeds∧(fun n:Int=> -9223372036854775808≤n∧n≤9223372036854775807) x.power∧(fun n:Int=> -9223372036854775808≤n∧n≤9223372036854775807) x.paths
theorem WU:Rd Tryz.prog 119 4 aV.cell UC:=by
 refine⟨by kernel_rfl,fun h=> ?_⟩
 obtain⟨hl,hf⟩:=Rd.fields Tryz.underlying119 (n:=4) (by kernel_rfl) h
 obtain⟨a0,s0,c0⟩:=Rd.field (off:=0) Yv (hf 0 _ rfl)
 obtain⟨a1,s1,c1⟩:=Rd.field (off:=2) JK (hf 1 _ rfl)
 obtain⟨a2,s2,c2⟩:=Rd.field (off:=3) JK (hf 2 _ rfl)
 exact⟨⟨a0,a1,a2⟩,⟨s0,s1,s2⟩,hl,fun j hj=>match j,hj with|0,_=>c0 0 (by decide)|1,_=>c0 1 (by decide)|2,_=>c1 0 (by decide)|3,_=>c2 0 (by decide)⟩
def X5 (l:List aV):Prop:=l.length≤9223372036854775807∧ ∀x∈l,UC x
theorem aaW:Rd Tryz.prog 24 1 (NI 4 aV.cell) X5:=Rd.slice Tryz.underlying24 (by kernel_rfl) (by decide) WU
def ZI (x:au):Prop:=(fun n:Int=> -9223372036854775808≤n∧n≤9223372036854775807) x.buses∧YH x.sources∧Y6 x.links∧X5 x.racks
theorem aay:Rd Tryz.prog 26 4 au.cell ZI:=by
 refine⟨by kernel_rfl,fun h=> ?_⟩
 obtain⟨hl,hf⟩:=Rd.fields Tryz.underlying26 (n:=4) (by kernel_rfl) h
 obtain⟨a0,s0,c0⟩:=Rd.field (off:=0) JK (hf 0 _ rfl)
 obtain⟨a1,s1,c1⟩:=Rd.field (off:=1) Z8 (hf 1 _ rfl)
 obtain⟨a2,s2,c2⟩:=Rd.field (off:=2) aap (hf 2 _ rfl)
 obtain⟨a3,s3,c3⟩:=Rd.field (off:=3) aaW (hf 3 _ rfl)
 exact⟨⟨a0,a1,a2,a3⟩,⟨s0,s1,s2,s3⟩,hl,fun j hj=>match j,hj with|0,_=>c0 0 (by decide)|1,_=>c1 0 (by decide)|2,_=>c2 0 (by decide)|3,_=>c3 0 (by decide)⟩
theorem rd4:Rd Tryz.prog 4 1 ah (fun _:Bool=>True):=Rd.bool Tryz.underlying4 (by kernel_rfl)
def LX (l:List Bool):Prop:=l.length≤9223372036854775807∧ ∀x∈l,(fun _:Bool=>True) x
theorem Mx:Rd Tryz.prog 27 1 (NI 1 ah) LX:=Rd.slice Tryz.underlying27 (by kernel_rfl) (by decide) rd4
def aaK (x:State):Prop:=LX x.closed∧LX x.locked∧LX x.badLink∧LX x.on_∧LX x.badSource∧LX x.earthed∧LX x.badBus
theorem Z6:Rd Tryz.prog 29 7 State.cell aaK:=by
 refine⟨by kernel_rfl,fun h=> ?_⟩
 obtain⟨hl,hf⟩:=Rd.fields Tryz.underlying29 (n:=7) (by kernel_rfl) h
 obtain⟨a0,s0,c0⟩:=Rd.field (off:=0) Mx (hf 0 _ rfl)
 obtain⟨a1,s1,c1⟩:=Rd.field (off:=1) Mx (hf 1 _ rfl)
 obtain⟨a2,s2,c2⟩:=Rd.field (off:=2) Mx (hf 2 _ rfl)
 obtain⟨a3,s3,c3⟩:=Rd.field (off:=3) Mx (hf 3 _ rfl)
 obtain⟨a4,s4,c4⟩:=Rd.field (off:=4) Mx (hf 4 _ rfl)
 obtain⟨a5,s5,c5⟩:=Rd.field (off:=5) Mx (hf 5 _ rfl)
 obtain⟨a6,s6,c6⟩:=Rd.field (off:=6) Mx (hf 6 _ rfl)
 exact⟨⟨a0,a1,a2,a3,a4,a5,a6⟩,⟨s0,s1,s2,s3,s4,s5,s6⟩,hl,fun j hj=>match j,hj with|0,_=>c0 0 (by decide)|1,_=>c1 0 (by decide)|2,_=>c2 0 (by decide)|3,_=>c3 0 (by decide)|4,_=>c4 0 (by decide)|5,_=>c5 0 (by decide)|6,_=>c6 0 (by decide)⟩
def Vb (l:List Int):Prop:=l.length≤9223372036854775807∧ ∀x∈l,(fun n:Int=> -9223372036854775808≤n∧n≤9223372036854775807) x
theorem YX:Rd Tryz.prog 30 1 (NI 1 (bM .i64)) Vb:=Rd.slice Tryz.underlying30 (by kernel_rfl) (by decide) JK
theorem Z5:Rd Tryz.prog 59 1 (bM .i64) (fun n:Int=> -9223372036854775808≤n∧n≤9223372036854775807):=Rd.int Tryz.underlying59 (by kernel_rfl)
def Zk (x:af):Prop:=(fun n:Int=> -9223372036854775808≤n∧n≤9223372036854775807) x.deed∧(fun n:Int=> -9223372036854775808≤n∧n≤9223372036854775807) x.index
theorem aam:Rd Tryz.prog 61 2 af.cell Zk:=by
 refine⟨by kernel_rfl,fun h=> ?_⟩
 obtain⟨hl,hf⟩:=Rd.fields Tryz.underlying61 (n:=2) (by kernel_rfl) h
 obtain⟨a0,s0,c0⟩:=Rd.field (off:=0) Z5 (hf 0 _ rfl)
 obtain⟨a1,s1,c1⟩:=Rd.field (off:=1) JK (hf 1 _ rfl)
 exact⟨⟨a0,a1⟩,⟨s0,s1⟩,hl,fun j hj=>match j,hj with|0,_=>c0 0 (by decide)|1,_=>c1 0 (by decide)⟩
def VK (l:List af):Prop:=l.length≤9223372036854775807∧ ∀x∈l,Zk x
theorem YA:Rd Tryz.prog 31 1 (NI 2 af.cell) VK:=Rd.slice Tryz.underlying31 (by kernel_rfl) (by decide) aam
def aaQ (x:Task):Prop:=Vb x.fed∧Vb x.crew∧VK x.allowed∧VK x.goal
theorem aae:Rd Tryz.prog 33 4 Task.cell aaQ:=by
 refine⟨by kernel_rfl,fun h=> ?_⟩
 obtain⟨hl,hf⟩:=Rd.fields Tryz.underlying33 (n:=4) (by kernel_rfl) h
 obtain⟨a0,s0,c0⟩:=Rd.field (off:=0) YX (hf 0 _ rfl)
 obtain⟨a1,s1,c1⟩:=Rd.field (off:=1) YX (hf 1 _ rfl)
 obtain⟨a2,s2,c2⟩:=Rd.field (off:=2) YA (hf 2 _ rfl)
 obtain⟨a3,s3,c3⟩:=Rd.field (off:=3) YA (hf 3 _ rfl)
 exact⟨⟨a0,a1,a2,a3⟩,⟨s0,s1,s2,s3⟩,hl,fun j hj=>match j,hj with|0,_=>c0 0 (by decide)|1,_=>c1 0 (by decide)|2,_=>c2 0 (by decide)|3,_=>c3 0 (by decide)⟩
end Sg
namespace Go.Proofs.YtboodeobmgjjpaaGreat
open Sg Go.ChangeShapes Go.WideShapes Go.ChangeAt Go.RowKit
theorem Tryz.own:ownKnob Tryz.prog.godebug=none:=by kernel_rfl
theorem Tryz.laidOut:laidOutB Tryz.prog=true:=by kernel_rfl
set_option maxRecDepth 100000 in
theorem zL (H:Type) (enc:TypeId × Value→H) (W:World) (base:Nat) (args:Array Value) (ds gs:List (DataW H)) (before:List MemPlace)
  (hval: ∀(j:Nat) t v,Tryz.f3.params[j]? =some t→args[j]? =some v→Value.okWide Tryz.prog W .any base t v)
  (hW:DataW.Whole enc Tryz.prog Tryz.f3.params.toList Rows.stepsFindsSpec.vars false W args.toList ds gs before):
  Calls Tryz.prog 3 args W fun e W'=> ∃v,e= .returned v∧Rows.stepsFindsSpec.post enc Tryz.prog Tryz.f3 false true false false W args v W':=by
 have hW':=hW
 obtain⟨p,q,hA0,hV,rfl,hfz,hnd⟩:=hW
 have hA:DataW.TrodAll enc Tryz.prog W 0 (fun _=>true) true Tryz.f3.params.toList args.toList ds p:=hA0
 rw [Tryz.params3]at hA hval
 obtain⟨v0,l0,d0,e0,p0,q0,hv0,hd0,hp0,h0,r0⟩:=trodAll_cons hA
 obtain⟨v1,l1,d1,e1,p1,q1,hv1,hd1,hp1,h1,r1⟩:=trodAll_cons r0
 obtain⟨v2,l2,d2,e2,p2,q2,hv2,hd2,hp2,h2,r2⟩:=trodAll_cons r1
 obtain⟨v3,l3,d3,e3,p3,q3,hv3,hd3,hp3,h3,r3⟩:=trodAll_cons r2
 obtain⟨hvz,hdz,hpz⟩:=trodAll_nil r3
 have hgs:=(trodVars_none hV).1
 have hargs:args= #[v0,v1,v2,v3]:=by
  have:args.toList=[v0,v1,v2,v3]:=by rw [hv0,hv1,hv2,hv3,hvz]
  cases args;simp at this;rw [this]
 have hds:ds=[d0,d1,d2,d3]:=by rw [hd0,hd1,hd2,hd3,hdz]
 subst hargs
 obtain⟨a0,s0,c0⟩:=Rd.agg aay Tryz.underlying26 (hval 0 26 v0 rfl rfl) h0
 obtain⟨a1,s1,c1⟩:=Rd.agg Z6 Tryz.underlying29 (hval 1 29 v1 rfl rfl) h1
 obtain⟨a2,s2,c2⟩:=Rd.agg aae Tryz.underlying33 (hval 2 33 v2 rfl rfl) h2
 obtain⟨a3,s3,c3⟩:=Rd.one JK (R5 Tryz.underlying3 (hval 3 3 v3 rfl rfl)) h3
 have hm:j6 a0 a1 a2 a3=some true:=DL a1 a2 a3 ⟨s0.2.1.1,s0.2.2.1.1,s0.2.2.2.1,fun x hx=>(s0.2.2.1.2 x hx).2.2.2.2.2.1⟩
 refine(Oi (vs:=[v0,v1,v2,v3]) (xV a0 a1 a2 a3 hm) ⟨c0,c1,c2,c3,trivial⟩).mono fun e W' ⟨he,hb⟩=> ⟨_,he, ?_⟩
 refine Q8 (t4:=4) rfl hW' ?_ ?_ ?_ rfl Tryz.underlying4 Tryz.laidOut ?_ hb
 ·rw [hds,hgs];rfl
 ·rw [hds,hgs];rfl
 ·rw [hds,hgs];rfl
 ·intro t ht
  rw [Tryz.params3]at ht
  simp at ht
  rcases ht with rfl|rfl|rfl|rfl<;>exact⟨by kernel_rfl,of_decide_eq_true (by kernel_rfl)⟩
set_option maxRecDepth 100000 in
theorem Br (os:Os) (started:os.Started) (H:Type) (enc:TypeId × Value→H):
  ReturnsInHanded {} Tryz.checked os 3 .any (Rows.stepsFindsSpec.pre6 enc Tryz.prog Tryz.f3 Rows.stepsFindsRow.domain false) (Rows.stepsFindsSpec.post enc Tryz.prog Tryz.f3 false true false false):=by
 refine returnsInHanded_of_change (C:=Tryz.checked) Tryz.own started (by kernel_rfl) Tryz.func3
  (ChangeSpec.witness6 (enc:=enc) (C:=Tryz.checked) false ⟨#[], #[.agg #[.int .i64 0, .slice none 0 0, .slice none 0 0, .slice none 0 0], .agg #[.slice none 0 0, .slice none 0 0, .slice none 0 0, .slice none 0 0, .slice none 0 0, .slice none 0 0, .slice none 0 0], .agg #[.slice none 0 0, .slice none 0 0, .slice none 0 0, .slice none 0 0], .int .i64 0],[]⟩ 16 (by kernel_rfl) (by kernel_rfl) (by kernel_rfl) (by kernel_rfl)) ?_
 intro W base args ds gs before hval hW _ _
 exact zL H enc W base args ds gs before hval hW
theorem stepsFinds_holds:Rows.StepsFindsSaid:=
 OpenClaim.holds_of_wide 3 Tryz.f3 rfl rfl rfl rfl rfl rfl rfl ⟨rfl,rfl,rfl,rfl,rfl⟩ rfl rfl rfl rfl rfl (by kernel_rfl) Tryz.func3 (by kernel_rfl)
  (of_decide_eq_true (by kernel_rfl)) (by unfold Func.isWrapper;first|(rw [if_pos (by decide+kernel)];kernel_rfl)|(rw [if_neg (by decide+kernel)];exact⟨rfl,rfl⟩))
  (fun os started H enc _=>Br os started H enc)
end Go.Proofs.YtboodeobmgjjpaaGreat
