/- StepsVerifies: for every plant, state, task, step and program, the law that compares a step, the check of a program and its reverse with the reference returns true (no conditions). -/
import Derived.Test.YtboodeobmgjjpaaGreatRows
import Derived.ProofKit
import Derived.Test.YtboodeobmgjjpaaGreatVeLf
import Derived.Test.YtboodeobmgjjpaaGreatVeW4
set_option linter.all false
namespace Sg
open Go Go.Proofs Go.Proofs.YtboodeobmgjjpaaGreat Go.ChangeShapes Go.WideShapes Go.RowKit
set_option maxRecDepth 20000
theorem KT:Rz Tryz.prog 3 1 (bL .i64) (fun n:Int=> -9223372036854775808≤n∧n≤9223372036854775807):=(Rd.int Tryz.underlying3 (by kernel_rfl)).z
theorem acd:Rz Tryz.prog 56 1 (bL .i64) (fun n:Int=> -9223372036854775808≤n∧n≤9223372036854775807):=(Rd.int Tryz.underlying56 (by kernel_rfl)).z
def ZC (x:Source):Prop:=(fun n:Int=> -9223372036854775808≤n∧n≤9223372036854775807) x.bus∧(fun n:Int=> -9223372036854775808≤n∧n≤9223372036854775807) x.kind∧(fun n:Int=> -9223372036854775808≤n∧n≤9223372036854775807) x.power∧(fun n:Int=> -9223372036854775808≤n∧n≤9223372036854775807) x.sync∧(fun n:Int=> -9223372036854775808≤n∧n≤9223372036854775807) x.ohm
theorem abK:Rz Tryz.prog 58 5 Source.cell ZC:=by
 refine⟨by kernel_rfl,fun h hz=> ?_⟩
 obtain⟨hl,hf⟩:=Rz.fields Tryz.underlying58 (n:=5) (by kernel_rfl) h hz
 obtain⟨a0,s0,c0⟩:=Rz.field (off:=0) KT (hf 0 _ rfl)
 obtain⟨a1,s1,c1⟩:=Rz.field (off:=1) acd (hf 1 _ rfl)
 obtain⟨a2,s2,c2⟩:=Rz.field (off:=2) KT (hf 2 _ rfl)
 obtain⟨a3,s3,c3⟩:=Rz.field (off:=3) KT (hf 3 _ rfl)
 obtain⟨a4,s4,c4⟩:=Rz.field (off:=4) KT (hf 4 _ rfl)
 exact⟨⟨a0,a1,a2,a3,a4⟩,⟨s0,s1,s2,s3,s4⟩,hl,fun j hj=>match j,hj with|0,_=>c0 0 (by decide)|1,_=>c1 0 (by decide)|2,_=>c2 0 (by decide)|3,_=>c3 0 (by decide)|4,_=>c4 0 (by decide)⟩
def ZA (l:List Source):Prop:=l.length≤9223372036854775807∧(∀x∈l,ZC x)∧l.length*40≤140737488351232
theorem abl:Rz Tryz.prog 22 1 (UL 5 Source.cell) ZA:=Rz.slice Tryz.underlying22 (by kernel_rfl) (by decide) (b:=40) (by kernel_rfl) abK
theorem aa5:Rz Tryz.prog 52 1 (bL .i64) (fun n:Int=> -9223372036854775808≤n∧n≤9223372036854775807):=(Rd.int Tryz.underlying52 (by kernel_rfl)).z
def V5 (x:iC):Prop:=(fun n:Int=> -9223372036854775808≤n∧n≤9223372036854775807) x.amps∧(fun n:Int=> -9223372036854775808≤n∧n≤9223372036854775807) x.millis
theorem aar:Rz Tryz.prog 220 2 iC.cell V5:=by
 refine⟨by kernel_rfl,fun h hz=> ?_⟩
 obtain⟨hl,hf⟩:=Rz.fields Tryz.underlying220 (n:=2) (by kernel_rfl) h hz
 obtain⟨a0,s0,c0⟩:=Rz.field (off:=0) KT (hf 0 _ rfl)
 obtain⟨a1,s1,c1⟩:=Rz.field (off:=1) KT (hf 1 _ rfl)
 exact⟨⟨a0,a1⟩,⟨s0,s1⟩,hl,fun j hj=>match j,hj with|0,_=>c0 0 (by decide)|1,_=>c1 0 (by decide)⟩
def Yy (l:List iC):Prop:=l.length≤9223372036854775807∧(∀x∈l,V5 x)∧l.length*16≤140737488351232
theorem aa4:Rz Tryz.prog 53 1 (UL 2 iC.cell) Yy:=Rz.slice Tryz.underlying53 (by kernel_rfl) (by decide) (b:=16) (by kernel_rfl) aar
def aaP (x:Link):Prop:=(fun n:Int=> -9223372036854775808≤n∧n≤9223372036854775807) x.a∧(fun n:Int=> -9223372036854775808≤n∧n≤9223372036854775807) x.b∧(fun n:Int=> -9223372036854775808≤n∧n≤9223372036854775807) x.kind∧(fun n:Int=> -9223372036854775808≤n∧n≤9223372036854775807) x.most∧(fun n:Int=> -9223372036854775808≤n∧n≤9223372036854775807) x.ohm∧Yy x.trip
theorem abx:Rz Tryz.prog 55 6 Link.cell aaP:=by
 refine⟨by kernel_rfl,fun h hz=> ?_⟩
 obtain⟨hl,hf⟩:=Rz.fields Tryz.underlying55 (n:=6) (by kernel_rfl) h hz
 obtain⟨a0,s0,c0⟩:=Rz.field (off:=0) KT (hf 0 _ rfl)
 obtain⟨a1,s1,c1⟩:=Rz.field (off:=1) KT (hf 1 _ rfl)
 obtain⟨a2,s2,c2⟩:=Rz.field (off:=2) aa5 (hf 2 _ rfl)
 obtain⟨a3,s3,c3⟩:=Rz.field (off:=3) KT (hf 3 _ rfl)
 obtain⟨a4,s4,c4⟩:=Rz.field (off:=4) KT (hf 4 _ rfl)
 obtain⟨a5,s5,c5⟩:=Rz.field (off:=5) aa4 (hf 5 _ rfl)
 exact⟨⟨a0,a1,a2,a3,a4,a5⟩,⟨s0,s1,s2,s3,s4,s5⟩,hl,fun j hj=>match j,hj with|0,_=>c0 0 (by decide)|1,_=>c1 0 (by decide)|2,_=>c2 0 (by decide)|3,_=>c3 0 (by decide)|4,_=>c4 0 (by decide)|5,_=>c5 0 (by decide)⟩
def Z5 (l:List Link):Prop:=l.length≤9223372036854775807∧(∀x∈l,aaP x)∧l.length*64≤140737488351232
theorem ab0:Rz Tryz.prog 23 1 (UL 6 Link.cell) Z5:=Rz.slice Tryz.underlying23 (by kernel_rfl) (by decide) (b:=64) (by kernel_rfl) abx
def VF (x:aA):Prop:=(fun n:Int=> -9223372036854775808≤n∧n≤9223372036854775807) x.e0∧(fun n:Int=> -9223372036854775808≤n∧n≤9223372036854775807) x.e1
theorem YH:Rz Tryz.prog 117 2 aA.cell VF:=by
 refine⟨by kernel_rfl,fun h hz=> ?_⟩
 obtain⟨hl,hf⟩:=Rz.elems Tryz.underlying117 (n:=2) (by kernel_rfl) h hz
 obtain⟨a0,s0,c0⟩:=Rz.field (off:=0) KT (hf 0 (by decide))
 obtain⟨a1,s1,c1⟩:=Rz.field (off:=1) KT (hf 1 (by decide))
 exact⟨⟨a0,a1⟩,⟨s0,s1⟩,hl,fun j hj=>match j,hj with|0,_=>c0 0 (by decide)|1,_=>c1 0 (by decide)⟩
def V3 (x:aN):Prop:=VF x.feeds∧(fun n:Int=> -9223372036854775808≤n∧n≤9223372036854775807) x.power∧(fun n:Int=> -9223372036854775808≤n∧n≤9223372036854775807) x.paths
theorem ZM:Rz Tryz.prog 119 4 aN.cell V3:=by
 refine⟨by kernel_rfl,fun h hz=> ?_⟩
 obtain⟨hl,hf⟩:=Rz.fields Tryz.underlying119 (n:=4) (by kernel_rfl) h hz
 obtain⟨a0,s0,c0⟩:=Rz.field (off:=0) YH (hf 0 _ rfl)
 obtain⟨a1,s1,c1⟩:=Rz.field (off:=2) KT (hf 1 _ rfl)
 obtain⟨a2,s2,c2⟩:=Rz.field (off:=3) KT (hf 2 _ rfl)
 exact⟨⟨a0,a1,a2⟩,⟨s0,s1,s2⟩,hl,fun j hj=>match j,hj with|0,_=>c0 0 (by decide)|1,_=>c0 1 (by decide)|2,_=>c1 0 (by decide)|3,_=>c2 0 (by decide)⟩
def Ze (l:List aN):Prop:=l.length≤9223372036854775807∧(∀x∈l,V3 x)∧l.length*32≤140737488351232
theorem abN:Rz Tryz.prog 24 1 (UL 4 aN.cell) Ze:=Rz.slice Tryz.underlying24 (by kernel_rfl) (by decide) (b:=32) (by kernel_rfl) ZM
def acf (x:aj):Prop:=(fun n:Int=> -9223372036854775808≤n∧n≤9223372036854775807) x.buses∧ZA x.sources∧Z5 x.links∧Ze x.racks
theorem ab7:Rz Tryz.prog 26 4 aj.cell acf:=by
 refine⟨by kernel_rfl,fun h hz=> ?_⟩
 obtain⟨hl,hf⟩:=Rz.fields Tryz.underlying26 (n:=4) (by kernel_rfl) h hz
 obtain⟨a0,s0,c0⟩:=Rz.field (off:=0) KT (hf 0 _ rfl)
 obtain⟨a1,s1,c1⟩:=Rz.field (off:=1) abl (hf 1 _ rfl)
 obtain⟨a2,s2,c2⟩:=Rz.field (off:=2) ab0 (hf 2 _ rfl)
 obtain⟨a3,s3,c3⟩:=Rz.field (off:=3) abN (hf 3 _ rfl)
 exact⟨⟨a0,a1,a2,a3⟩,⟨s0,s1,s2,s3⟩,hl,fun j hj=>match j,hj with|0,_=>c0 0 (by decide)|1,_=>c1 0 (by decide)|2,_=>c2 0 (by decide)|3,_=>c3 0 (by decide)⟩
theorem rd4:Rz Tryz.prog 4 1 ah (fun _:Bool=>True):=(Rd.bool Tryz.underlying4 (by kernel_rfl)).z
def Nc (l:List Bool):Prop:=l.length≤9223372036854775807∧(∀x∈l,(fun _:Bool=>True) x)∧l.length*1≤140737488351232
theorem Oc:Rz Tryz.prog 27 1 (UL 1 ah) Nc:=Rz.slice Tryz.underlying27 (by kernel_rfl) (by decide) (b:=1) (by kernel_rfl) rd4
def abS (x:State):Prop:=Nc x.closed∧Nc x.locked∧Nc x.badLink∧Nc x.on_∧Nc x.badSource∧Nc x.earthed∧Nc x.badBus
theorem abB:Rz Tryz.prog 29 7 State.cell abS:=by
 refine⟨by kernel_rfl,fun h hz=> ?_⟩
 obtain⟨hl,hf⟩:=Rz.fields Tryz.underlying29 (n:=7) (by kernel_rfl) h hz
 obtain⟨a0,s0,c0⟩:=Rz.field (off:=0) Oc (hf 0 _ rfl)
 obtain⟨a1,s1,c1⟩:=Rz.field (off:=1) Oc (hf 1 _ rfl)
 obtain⟨a2,s2,c2⟩:=Rz.field (off:=2) Oc (hf 2 _ rfl)
 obtain⟨a3,s3,c3⟩:=Rz.field (off:=3) Oc (hf 3 _ rfl)
 obtain⟨a4,s4,c4⟩:=Rz.field (off:=4) Oc (hf 4 _ rfl)
 obtain⟨a5,s5,c5⟩:=Rz.field (off:=5) Oc (hf 5 _ rfl)
 obtain⟨a6,s6,c6⟩:=Rz.field (off:=6) Oc (hf 6 _ rfl)
 exact⟨⟨a0,a1,a2,a3,a4,a5,a6⟩,⟨s0,s1,s2,s3,s4,s5,s6⟩,hl,fun j hj=>match j,hj with|0,_=>c0 0 (by decide)|1,_=>c1 0 (by decide)|2,_=>c2 0 (by decide)|3,_=>c3 0 (by decide)|4,_=>c4 0 (by decide)|5,_=>c5 0 (by decide)|6,_=>c6 0 (by decide)⟩
def Xj (l:List Int):Prop:=l.length≤9223372036854775807∧(∀x∈l,(fun n:Int=> -9223372036854775808≤n∧n≤9223372036854775807) x)∧l.length*8≤140737488351232
theorem YV:Rz Tryz.prog 30 1 (UL 1 (bL .i64)) Xj:=Rz.slice Tryz.underlying30 (by kernel_rfl) (by decide) (b:=8) (by kernel_rfl) KT
theorem acv:Rz Tryz.prog 59 1 (bL .i64) (fun n:Int=> -9223372036854775808≤n∧n≤9223372036854775807):=(Rd.int Tryz.underlying59 (by kernel_rfl)).z
def aad (x:af):Prop:=(fun n:Int=> -9223372036854775808≤n∧n≤9223372036854775807) x.deed∧(fun n:Int=> -9223372036854775808≤n∧n≤9223372036854775807) x.index
theorem Zu:Rz Tryz.prog 61 2 af.cell aad:=by
 refine⟨by kernel_rfl,fun h hz=> ?_⟩
 obtain⟨hl,hf⟩:=Rz.fields Tryz.underlying61 (n:=2) (by kernel_rfl) h hz
 obtain⟨a0,s0,c0⟩:=Rz.field (off:=0) acv (hf 0 _ rfl)
 obtain⟨a1,s1,c1⟩:=Rz.field (off:=1) KT (hf 1 _ rfl)
 exact⟨⟨a0,a1⟩,⟨s0,s1⟩,hl,fun j hj=>match j,hj with|0,_=>c0 0 (by decide)|1,_=>c1 0 (by decide)⟩
def W9 (l:List af):Prop:=l.length≤9223372036854775807∧(∀x∈l,aad x)∧l.length*16≤140737488351232
theorem Wy:Rz Tryz.prog 31 1 (UL 2 af.cell) W9:=Rz.slice Tryz.underlying31 (by kernel_rfl) (by decide) (b:=16) (by kernel_rfl) Zu
def abC (x:Task):Prop:=Xj x.fed∧Xj x.crew∧W9 x.allowed∧W9 x.goal
theorem ab2:Rz Tryz.prog 33 4 Task.cell abC:=by
 refine⟨by kernel_rfl,fun h hz=> ?_⟩
 obtain⟨hl,hf⟩:=Rz.fields Tryz.underlying33 (n:=4) (by kernel_rfl) h hz
 obtain⟨a0,s0,c0⟩:=Rz.field (off:=0) YV (hf 0 _ rfl)
 obtain⟨a1,s1,c1⟩:=Rz.field (off:=1) YV (hf 1 _ rfl)
 obtain⟨a2,s2,c2⟩:=Rz.field (off:=2) Wy (hf 2 _ rfl)
 obtain⟨a3,s3,c3⟩:=Rz.field (off:=3) Wy (hf 3 _ rfl)
 exact⟨⟨a0,a1,a2,a3⟩,⟨s0,s1,s2,s3⟩,hl,fun j hj=>match j,hj with|0,_=>c0 0 (by decide)|1,_=>c1 0 (by decide)|2,_=>c2 0 (by decide)|3,_=>c3 0 (by decide)⟩
end Sg
namespace Go.Proofs.YtboodeobmgjjpaaGreat
open Sg Go.ChangeShapes Go.WideShapes Go.ChangeAt Go.RowKit
theorem Tryz.own:ownKnob Tryz.prog.godebug=none:=by kernel_rfl
theorem Tryz.laidOut:laidOutB Tryz.prog=true:=by kernel_rfl
set_option maxRecDepth 100000 in
theorem xZ (H:Type) (enc:TypeId × Value→H) (W:World) (base:Nat) (args:Array Value) (ds gs:List (DataW H)) (before:List MemPlace)
  (hval: ∀(j:Nat) t v,Tryz.f8.params[j]? =some t→args[j]? =some v→Value.okWide Tryz.prog W .any base t v)
  (hW:DataW.Whole enc Tryz.prog Tryz.f8.params.toList Rows.stepsVerifiesSpec.vars false W args.toList ds gs before)
  (hsz:(DataW.weightsEach Tryz.prog (Tryz.f8.params.toList++Rows.stepsVerifiesSpec.plain.varTypes Tryz.prog) (ds++gs)).all (· ≤reachBytes)=true):
  Calls Tryz.prog 8 args W fun e W'=> ∃v,e= .returned v∧Rows.stepsVerifiesSpec.post enc Tryz.prog Tryz.f8 false true false false W args v W':=by
 have hW':=hW
 obtain⟨p,q,hA0,hV,rfl,hfz,hnd⟩:=hW
 have hA:DataW.TrodAll enc Tryz.prog W 0 (fun _=>true) true Tryz.f8.params.toList args.toList ds p:=hA0
 rw [Tryz.params8]at hA hval
 obtain⟨v0,l0,d0,e0,p0,q0,hv0,hd0,hp0,h0,r0⟩:=trodAll_cons hA
 obtain⟨v1,l1,d1,e1,p1,q1,hv1,hd1,hp1,h1,r1⟩:=trodAll_cons r0
 obtain⟨v2,l2,d2,e2,p2,q2,hv2,hd2,hp2,h2,r2⟩:=trodAll_cons r1
 obtain⟨v3,l3,d3,e3,p3,q3,hv3,hd3,hp3,h3,r3⟩:=trodAll_cons r2
 obtain⟨v4,l4,d4,e4,p4,q4,hv4,hd4,hp4,h4,r4⟩:=trodAll_cons r3
 obtain⟨hvz,hdz,hpz⟩:=trodAll_nil r4
 have hgs:=(trodVars_none hV).1
 have hargs:args= #[v0,v1,v2,v3,v4]:=by
  have:args.toList=[v0,v1,v2,v3,v4]:=by rw [hv0,hv1,hv2,hv3,hv4,hvz]
  cases args;simp at this;rw [this]
 have hds:ds=[d0,d1,d2,d3,d4]:=by rw [hd0,hd1,hd2,hd3,hd4,hdz]
 subst hargs
 have hsz1:(DataW.weightsEach Tryz.prog [26,29,33,61,31] [d0,d1,d2,d3,d4]).all (fun x=>decide (x≤reachBytes))=true:=by rw [hds,hgs,Tryz.params8]at hsz;exact hsz
 obtain⟨a0,s0,c0⟩:=Rz.agg ab7 Tryz.underlying26 (hval 0 26 v0 rfl rfl) h0 (fun q hq=>of_decide_eq_true (List.all_eq_true.1 hsz1 q (DataW.weights_mem_each (j:=0) rfl rfl q hq)))
 obtain⟨a1,s1,c1⟩:=Rz.agg abB Tryz.underlying29 (hval 1 29 v1 rfl rfl) h1 (fun q hq=>of_decide_eq_true (List.all_eq_true.1 hsz1 q (DataW.weights_mem_each (j:=1) rfl rfl q hq)))
 obtain⟨a2,s2,c2⟩:=Rz.agg ab2 Tryz.underlying33 (hval 2 33 v2 rfl rfl) h2 (fun q hq=>of_decide_eq_true (List.all_eq_true.1 hsz1 q (DataW.weights_mem_each (j:=2) rfl rfl q hq)))
 obtain⟨a3,s3,c3⟩:=Rz.agg Zu Tryz.underlying61 (hval 3 61 v3 rfl rfl) h3 (fun q hq=>of_decide_eq_true (List.all_eq_true.1 hsz1 q (DataW.weights_mem_each (j:=3) rfl rfl q hq)))
 obtain⟨a4,s4,c4⟩:=Rz.one Wy (PV Tryz.underlying31 (hval 4 31 v4 rfl rfl)) h4 (fun q hq=>of_decide_eq_true (List.all_eq_true.1 hsz1 q (DataW.weights_mem_each (j:=4) rfl rfl q hq)))
 have hm:iM a0 a1 a2 a3 a4=some true:=Ce a1 a2 a3 a4 ⟨s0.2.1.1,s0.2.2.1.1,s0.2.2.2.1,fun x hx=>(s0.2.2.1.2.1 x hx).2.2.2.2.2.1⟩ (fun x hx=>by have:=(s0.2.2.1.2.1 x hx).2.2.2.2.2.2.2;omega) ⟨by have:=s1.1.2.2;omega,by have:=s1.2.1.2.2;omega,by have:=s1.2.2.1.2.2;omega,by have:=s1.2.2.2.1.2.2;omega,by have:=s1.2.2.2.2.1.2.2;omega,by have:=s1.2.2.2.2.2.1.2.2;omega,by have:=s1.2.2.2.2.2.2.2.2;omega⟩
 refine(Qh (vs:=[v0,v1,v2,v3,v4]) (wJ a0 a1 a2 a3 a4 hm) ⟨c0,c1,c2,c3,c4,trivial⟩).mono fun e W' ⟨he,hb⟩=> ⟨_,he, ?_⟩
 refine Si (t4:=4) rfl hW' ?_ ?_ ?_ rfl Tryz.underlying4 Tryz.laidOut ?_ hb
 ·rw [hds,hgs];rfl
 ·rw [hds,hgs];rfl
 ·rw [hds,hgs];rfl
 ·intro t ht
  rw [Tryz.params8]at ht
  simp at ht
  rcases ht with rfl|rfl|rfl|rfl|rfl<;>exact⟨by kernel_rfl,of_decide_eq_true (by kernel_rfl)⟩
set_option maxRecDepth 100000 in
theorem zD (os:Os) (started:os.Started) (H:Type) (enc:TypeId × Value→H):
  ReturnsInHanded {} Tryz.checked os 8 .any (Rows.stepsVerifiesSpec.pre6 enc Tryz.prog Tryz.f8 Rows.stepsVerifiesRow.domain false) (Rows.stepsVerifiesSpec.post enc Tryz.prog Tryz.f8 false true false false):=by
 refine returnsInHanded_of_change_sized (C:=Tryz.checked) Tryz.own started (by kernel_rfl) Tryz.func8
  (ChangeSpec.witness6 (enc:=enc) (C:=Tryz.checked) false ⟨#[], #[.agg #[.int .i64 0, .slice none 0 0, .slice none 0 0, .slice none 0 0], .agg #[.slice none 0 0, .slice none 0 0, .slice none 0 0, .slice none 0 0, .slice none 0 0, .slice none 0 0, .slice none 0 0], .agg #[.slice none 0 0, .slice none 0 0, .slice none 0 0, .slice none 0 0], .agg #[.int .i64 0, .int .i64 0], .slice none 0 0],[]⟩ 16 (by kernel_rfl) (by kernel_rfl) (by kernel_rfl) (by kernel_rfl)) ?_
 intro W base args ds gs before hval hW _ hsz _
 exact xZ H enc W base args ds gs before hval hW hsz
theorem stepsVerifies_holds:Rows.StepsVerifiesSaid:=
 OpenClaim.holds_of_wide 8 Tryz.f8 rfl rfl rfl rfl rfl rfl rfl ⟨rfl,rfl,rfl,rfl,rfl⟩ rfl rfl rfl rfl rfl (by kernel_rfl) Tryz.func8 (by kernel_rfl)
  (of_decide_eq_true (by kernel_rfl)) (by unfold Func.isWrapper;first|(rw [if_pos (by decide+kernel)];kernel_rfl)|(rw [if_neg (by decide+kernel)];exact⟨rfl,rfl⟩))
  (fun os started H enc _=>zD os started H enc)
end Go.Proofs.YtboodeobmgjjpaaGreat
