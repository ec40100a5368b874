/- StepsSafe: for every plant, state, task and list of steps, each legal step leaves no live bus earthed, every fed rack fed and every crew safe, and changes one thing: the law returns true (no conditions). -/
import Derived.Test.YtboodeobmgjjpaaGreatRows
import Derived.ProofKit
import Derived.Test.YtboodeobmgjjpaaGreatSaLf
import Derived.Test.YtboodeobmgjjpaaGreatSaW4
set_option linter.all false
namespace Sg
open Go Go.Proofs Go.Proofs.YtboodeobmgjjpaaGreat Go.ChangeShapes Go.WideShapes Go.RowKit
set_option maxRecDepth 20000
theorem Mq:Rz Tryz.prog 3 1 (aY .i64) (fun n:Int=> -9223372036854775808≤n∧n≤9223372036854775807):=(Rd.int Tryz.underlying3 (by kernel_rfl)).z
theorem abg:Rz Tryz.prog 56 1 (aY .i64) (fun n:Int=> -9223372036854775808≤n∧n≤9223372036854775807):=(Rd.int Tryz.underlying56 (by kernel_rfl)).z
def Zh (x:Source):Prop:=(fun n:Int=> -9223372036854775808≤n∧n≤9223372036854775807) x.bus∧(fun n:Int=> -9223372036854775808≤n∧n≤9223372036854775807) x.kind∧(fun n:Int=> -9223372036854775808≤n∧n≤9223372036854775807) x.power∧(fun n:Int=> -9223372036854775808≤n∧n≤9223372036854775807) x.sync∧(fun n:Int=> -9223372036854775808≤n∧n≤9223372036854775807) x.ohm
theorem aaG:Rz Tryz.prog 58 5 Source.cell Zh:=by
 refine⟨by kernel_rfl,fun h hz=> ?_⟩
 obtain⟨hl,hf⟩:=Rz.fields Tryz.underlying58 (n:=5) (by kernel_rfl) h hz
 obtain⟨a0,s0,c0⟩:=Rz.field (off:=0) Mq (hf 0 _ rfl)
 obtain⟨a1,s1,c1⟩:=Rz.field (off:=1) abg (hf 1 _ rfl)
 obtain⟨a2,s2,c2⟩:=Rz.field (off:=2) Mq (hf 2 _ rfl)
 obtain⟨a3,s3,c3⟩:=Rz.field (off:=3) Mq (hf 3 _ rfl)
 obtain⟨a4,s4,c4⟩:=Rz.field (off:=4) Mq (hf 4 _ rfl)
 exact⟨⟨a0,a1,a2,a3,a4⟩,⟨s0,s1,s2,s3,s4⟩,hl,fun j hj=>match j,hj with|0,_=>c0 0 (by decide)|1,_=>c1 0 (by decide)|2,_=>c2 0 (by decide)|3,_=>c3 0 (by decide)|4,_=>c4 0 (by decide)⟩
def ZE (l:List Source):Prop:=l.length≤9223372036854775807∧(∀x∈l,Zh x)∧l.length*40≤140737488351232
theorem abw:Rz Tryz.prog 22 1 (TN 5 Source.cell) ZE:=Rz.slice Tryz.underlying22 (by kernel_rfl) (by decide) (b:=40) (by kernel_rfl) aaG
theorem aaY:Rz Tryz.prog 52 1 (aY .i64) (fun n:Int=> -9223372036854775808≤n∧n≤9223372036854775807):=(Rd.int Tryz.underlying52 (by kernel_rfl)).z
def Vj (x:oO):Prop:=(fun n:Int=> -9223372036854775808≤n∧n≤9223372036854775807) x.amps∧(fun n:Int=> -9223372036854775808≤n∧n≤9223372036854775807) x.millis
theorem Zd:Rz Tryz.prog 220 2 oO.cell Vj:=by
 refine⟨by kernel_rfl,fun h hz=> ?_⟩
 obtain⟨hl,hf⟩:=Rz.fields Tryz.underlying220 (n:=2) (by kernel_rfl) h hz
 obtain⟨a0,s0,c0⟩:=Rz.field (off:=0) Mq (hf 0 _ rfl)
 obtain⟨a1,s1,c1⟩:=Rz.field (off:=1) Mq (hf 1 _ rfl)
 exact⟨⟨a0,a1⟩,⟨s0,s1⟩,hl,fun j hj=>match j,hj with|0,_=>c0 0 (by decide)|1,_=>c1 0 (by decide)⟩
def Xu (l:List oO):Prop:=l.length≤9223372036854775807∧(∀x∈l,Vj x)∧l.length*16≤140737488351232
theorem aaQ:Rz Tryz.prog 53 1 (TN 2 oO.cell) Xu:=Rz.slice Tryz.underlying53 (by kernel_rfl) (by decide) (b:=16) (by kernel_rfl) Zd
def aag (x:Link):Prop:=(fun n:Int=> -9223372036854775808≤n∧n≤9223372036854775807) x.a∧(fun n:Int=> -9223372036854775808≤n∧n≤9223372036854775807) x.b∧(fun n:Int=> -9223372036854775808≤n∧n≤9223372036854775807) x.kind∧(fun n:Int=> -9223372036854775808≤n∧n≤9223372036854775807) x.most∧(fun n:Int=> -9223372036854775808≤n∧n≤9223372036854775807) x.ohm∧Xu x.trip
theorem aa8:Rz Tryz.prog 55 6 Link.cell aag:=by
 refine⟨by kernel_rfl,fun h hz=> ?_⟩
 obtain⟨hl,hf⟩:=Rz.fields Tryz.underlying55 (n:=6) (by kernel_rfl) h hz
 obtain⟨a0,s0,c0⟩:=Rz.field (off:=0) Mq (hf 0 _ rfl)
 obtain⟨a1,s1,c1⟩:=Rz.field (off:=1) Mq (hf 1 _ rfl)
 obtain⟨a2,s2,c2⟩:=Rz.field (off:=2) aaY (hf 2 _ rfl)
 obtain⟨a3,s3,c3⟩:=Rz.field (off:=3) Mq (hf 3 _ rfl)
 obtain⟨a4,s4,c4⟩:=Rz.field (off:=4) Mq (hf 4 _ rfl)
 obtain⟨a5,s5,c5⟩:=Rz.field (off:=5) aaQ (hf 5 _ rfl)
 exact⟨⟨a0,a1,a2,a3,a4,a5⟩,⟨s0,s1,s2,s3,s4,s5⟩,hl,fun j hj=>match j,hj with|0,_=>c0 0 (by decide)|1,_=>c1 0 (by decide)|2,_=>c2 0 (by decide)|3,_=>c3 0 (by decide)|4,_=>c4 0 (by decide)|5,_=>c5 0 (by decide)⟩
def Zj (l:List Link):Prop:=l.length≤9223372036854775807∧(∀x∈l,aag x)∧l.length*64≤140737488351232
theorem abj:Rz Tryz.prog 23 1 (TN 6 Link.cell) Zj:=Rz.slice Tryz.underlying23 (by kernel_rfl) (by decide) (b:=64) (by kernel_rfl) aa8
def Vk (x:ay):Prop:=(fun n:Int=> -9223372036854775808≤n∧n≤9223372036854775807) x.e0∧(fun n:Int=> -9223372036854775808≤n∧n≤9223372036854775807) x.e1
theorem Y6:Rz Tryz.prog 117 2 ay.cell Vk:=by
 refine⟨by kernel_rfl,fun h hz=> ?_⟩
 obtain⟨hl,hf⟩:=Rz.elems Tryz.underlying117 (n:=2) (by kernel_rfl) h hz
 obtain⟨a0,s0,c0⟩:=Rz.field (off:=0) Mq (hf 0 (by decide))
 obtain⟨a1,s1,c1⟩:=Rz.field (off:=1) Mq (hf 1 (by decide))
 exact⟨⟨a0,a1⟩,⟨s0,s1⟩,hl,fun j hj=>match j,hj with|0,_=>c0 0 (by decide)|1,_=>c1 0 (by decide)⟩
def Vb (x:aV):Prop:=Vk x.feeds∧(fun n:Int=> -9223372036854775808≤n∧n≤9223372036854775807) x.power∧(fun n:Int=> -9223372036854775808≤n∧n≤9223372036854775807) x.paths
theorem XY:Rz Tryz.prog 119 4 aV.cell Vb:=by
 refine⟨by kernel_rfl,fun h hz=> ?_⟩
 obtain⟨hl,hf⟩:=Rz.fields Tryz.underlying119 (n:=4) (by kernel_rfl) h hz
 obtain⟨a0,s0,c0⟩:=Rz.field (off:=0) Y6 (hf 0 _ rfl)
 obtain⟨a1,s1,c1⟩:=Rz.field (off:=2) Mq (hf 1 _ rfl)
 obtain⟨a2,s2,c2⟩:=Rz.field (off:=3) Mq (hf 2 _ rfl)
 exact⟨⟨a0,a1,a2⟩,⟨s0,s1,s2⟩,hl,fun j hj=>match j,hj with|0,_=>c0 0 (by decide)|1,_=>c0 1 (by decide)|2,_=>c1 0 (by decide)|3,_=>c2 0 (by decide)⟩
def Yg (l:List aV):Prop:=l.length≤9223372036854775807∧(∀x∈l,Vb x)∧l.length*32≤140737488351232
theorem aa5:Rz Tryz.prog 24 1 (TN 4 aV.cell) Yg:=Rz.slice Tryz.underlying24 (by kernel_rfl) (by decide) (b:=32) (by kernel_rfl) XY
def abq (x:aj):Prop:=(fun n:Int=> -9223372036854775808≤n∧n≤9223372036854775807) x.buses∧ZE x.sources∧Zj x.links∧Yg x.racks
theorem aaR:Rz Tryz.prog 26 4 aj.cell abq:=by
 refine⟨by kernel_rfl,fun h hz=> ?_⟩
 obtain⟨hl,hf⟩:=Rz.fields Tryz.underlying26 (n:=4) (by kernel_rfl) h hz
 obtain⟨a0,s0,c0⟩:=Rz.field (off:=0) Mq (hf 0 _ rfl)
 obtain⟨a1,s1,c1⟩:=Rz.field (off:=1) abw (hf 1 _ rfl)
 obtain⟨a2,s2,c2⟩:=Rz.field (off:=2) abj (hf 2 _ rfl)
 obtain⟨a3,s3,c3⟩:=Rz.field (off:=3) aa5 (hf 3 _ rfl)
 exact⟨⟨a0,a1,a2,a3⟩,⟨s0,s1,s2,s3⟩,hl,fun j hj=>match j,hj with|0,_=>c0 0 (by decide)|1,_=>c1 0 (by decide)|2,_=>c2 0 (by decide)|3,_=>c3 0 (by decide)⟩
theorem rd4:Rz Tryz.prog 4 1 ai (fun _:Bool=>True):=(Rd.bool Tryz.underlying4 (by kernel_rfl)).z
def Mk (l:List Bool):Prop:=l.length≤9223372036854775807∧(∀x∈l,(fun _:Bool=>True) x)∧l.length*1≤140737488351232
theorem MX:Rz Tryz.prog 27 1 (TN 1 ai) Mk:=Rz.slice Tryz.underlying27 (by kernel_rfl) (by decide) (b:=1) (by kernel_rfl) rd4
def abu (x:State):Prop:=Mk x.closed∧Mk x.locked∧Mk x.badLink∧Mk x.on_∧Mk x.badSource∧Mk x.earthed∧Mk x.badBus
theorem aaE:Rz Tryz.prog 29 7 State.cell abu:=by
 refine⟨by kernel_rfl,fun h hz=> ?_⟩
 obtain⟨hl,hf⟩:=Rz.fields Tryz.underlying29 (n:=7) (by kernel_rfl) h hz
 obtain⟨a0,s0,c0⟩:=Rz.field (off:=0) MX (hf 0 _ rfl)
 obtain⟨a1,s1,c1⟩:=Rz.field (off:=1) MX (hf 1 _ rfl)
 obtain⟨a2,s2,c2⟩:=Rz.field (off:=2) MX (hf 2 _ rfl)
 obtain⟨a3,s3,c3⟩:=Rz.field (off:=3) MX (hf 3 _ rfl)
 obtain⟨a4,s4,c4⟩:=Rz.field (off:=4) MX (hf 4 _ rfl)
 obtain⟨a5,s5,c5⟩:=Rz.field (off:=5) MX (hf 5 _ rfl)
 obtain⟨a6,s6,c6⟩:=Rz.field (off:=6) MX (hf 6 _ rfl)
 exact⟨⟨a0,a1,a2,a3,a4,a5,a6⟩,⟨s0,s1,s2,s3,s4,s5,s6⟩,hl,fun j hj=>match j,hj with|0,_=>c0 0 (by decide)|1,_=>c1 0 (by decide)|2,_=>c2 0 (by decide)|3,_=>c3 0 (by decide)|4,_=>c4 0 (by decide)|5,_=>c5 0 (by decide)|6,_=>c6 0 (by decide)⟩
def VJ (l:List Int):Prop:=l.length≤9223372036854775807∧(∀x∈l,(fun n:Int=> -9223372036854775808≤n∧n≤9223372036854775807) x)∧l.length*8≤140737488351232
theorem YF:Rz Tryz.prog 30 1 (TN 1 (aY .i64)) VJ:=Rz.slice Tryz.underlying30 (by kernel_rfl) (by decide) (b:=8) (by kernel_rfl) Mq
theorem abl:Rz Tryz.prog 59 1 (aY .i64) (fun n:Int=> -9223372036854775808≤n∧n≤9223372036854775807):=(Rd.int Tryz.underlying59 (by kernel_rfl)).z
def Xz (x:af):Prop:=(fun n:Int=> -9223372036854775808≤n∧n≤9223372036854775807) x.deed∧(fun n:Int=> -9223372036854775808≤n∧n≤9223372036854775807) x.index
theorem abn:Rz Tryz.prog 61 2 af.cell Xz:=by
 refine⟨by kernel_rfl,fun h hz=> ?_⟩
 obtain⟨hl,hf⟩:=Rz.fields Tryz.underlying61 (n:=2) (by kernel_rfl) h hz
 obtain⟨a0,s0,c0⟩:=Rz.field (off:=0) abl (hf 0 _ rfl)
 obtain⟨a1,s1,c1⟩:=Rz.field (off:=1) Mq (hf 1 _ rfl)
 exact⟨⟨a0,a1⟩,⟨s0,s1⟩,hl,fun j hj=>match j,hj with|0,_=>c0 0 (by decide)|1,_=>c1 0 (by decide)⟩
def WJ (l:List af):Prop:=l.length≤9223372036854775807∧(∀x∈l,Xz x)∧l.length*16≤140737488351232
theorem VE:Rz Tryz.prog 31 1 (TN 2 af.cell) WJ:=Rz.slice Tryz.underlying31 (by kernel_rfl) (by decide) (b:=16) (by kernel_rfl) abn
def aa0 (x:Task):Prop:=VJ x.fed∧VJ x.crew∧WJ x.allowed∧WJ x.goal
theorem aaO:Rz Tryz.prog 33 4 Task.cell aa0:=by
 refine⟨by kernel_rfl,fun h hz=> ?_⟩
 obtain⟨hl,hf⟩:=Rz.fields Tryz.underlying33 (n:=4) (by kernel_rfl) h hz
 obtain⟨a0,s0,c0⟩:=Rz.field (off:=0) YF (hf 0 _ rfl)
 obtain⟨a1,s1,c1⟩:=Rz.field (off:=1) YF (hf 1 _ rfl)
 obtain⟨a2,s2,c2⟩:=Rz.field (off:=2) VE (hf 2 _ rfl)
 obtain⟨a3,s3,c3⟩:=Rz.field (off:=3) VE (hf 3 _ rfl)
 exact⟨⟨a0,a1,a2,a3⟩,⟨s0,s1,s2,s3⟩,hl,fun j hj=>match j,hj with|0,_=>c0 0 (by decide)|1,_=>c1 0 (by decide)|2,_=>c2 0 (by decide)|3,_=>c3 0 (by decide)⟩
end Sg
namespace Go.Proofs.YtboodeobmgjjpaaGreat
open Sg Go.ChangeShapes Go.WideShapes Go.ChangeAt Go.RowKit
theorem Tryz.own:ownKnob Tryz.prog.godebug=none:=by kernel_rfl
theorem Tryz.laidOut:laidOutB Tryz.prog=true:=by kernel_rfl
set_option maxRecDepth 100000 in
theorem A7 (H:Type) (enc:TypeId × Value→H) (W:World) (base:Nat) (args:Array Value) (ds gs:List (DataW H)) (before:List MemPlace)
  (hval: ∀(j:Nat) t v,Tryz.f6.params[j]? =some t→args[j]? =some v→Value.okWide Tryz.prog W .any base t v)
  (hW:DataW.Whole enc Tryz.prog Tryz.f6.params.toList Rows.stepsSafeSpec.vars false W args.toList ds gs before)
  (hsz:(DataW.weightsEach Tryz.prog (Tryz.f6.params.toList++Rows.stepsSafeSpec.plain.varTypes Tryz.prog) (ds++gs)).all (· ≤reachBytes)=true):
  Calls Tryz.prog 6 args W fun e W'=> ∃v,e= .returned v∧Rows.stepsSafeSpec.post enc Tryz.prog Tryz.f6 false true false false W args v W':=by
 have hW':=hW
 obtain⟨p,q,hA0,hV,rfl,hfz,hnd⟩:=hW
 have hA:DataW.TrodAll enc Tryz.prog W 0 (fun _=>true) true Tryz.f6.params.toList args.toList ds p:=hA0
 rw [Tryz.params6]at hA hval
 obtain⟨v0,l0,d0,e0,p0,q0,hv0,hd0,hp0,h0,r0⟩:=trodAll_cons hA
 obtain⟨v1,l1,d1,e1,p1,q1,hv1,hd1,hp1,h1,r1⟩:=trodAll_cons r0
 obtain⟨v2,l2,d2,e2,p2,q2,hv2,hd2,hp2,h2,r2⟩:=trodAll_cons r1
 obtain⟨v3,l3,d3,e3,p3,q3,hv3,hd3,hp3,h3,r3⟩:=trodAll_cons r2
 obtain⟨hvz,hdz,hpz⟩:=trodAll_nil r3
 have hgs:=(trodVars_none hV).1
 have hargs:args= #[v0,v1,v2,v3]:=by
  have:args.toList=[v0,v1,v2,v3]:=by rw [hv0,hv1,hv2,hv3,hvz]
  cases args;simp at this;rw [this]
 have hds:ds=[d0,d1,d2,d3]:=by rw [hd0,hd1,hd2,hd3,hdz]
 subst hargs
 have hsz1:(DataW.weightsEach Tryz.prog [26,29,33,31] [d0,d1,d2,d3]).all (fun x=>decide (x≤reachBytes))=true:=by rw [hds,hgs,Tryz.params6]at hsz;exact hsz
 obtain⟨a0,s0,c0⟩:=Rz.agg aaR Tryz.underlying26 (hval 0 26 v0 rfl rfl) h0 (fun q hq=>of_decide_eq_true (List.all_eq_true.1 hsz1 q (DataW.weights_mem_each (j:=0) rfl rfl q hq)))
 obtain⟨a1,s1,c1⟩:=Rz.agg aaE Tryz.underlying29 (hval 1 29 v1 rfl rfl) h1 (fun q hq=>of_decide_eq_true (List.all_eq_true.1 hsz1 q (DataW.weights_mem_each (j:=1) rfl rfl q hq)))
 obtain⟨a2,s2,c2⟩:=Rz.agg aaO Tryz.underlying33 (hval 2 33 v2 rfl rfl) h2 (fun q hq=>of_decide_eq_true (List.all_eq_true.1 hsz1 q (DataW.weights_mem_each (j:=2) rfl rfl q hq)))
 obtain⟨a3,s3,c3⟩:=Rz.one VE (Oz Tryz.underlying31 (hval 3 31 v3 rfl rfl)) h3 (fun q hq=>of_decide_eq_true (List.all_eq_true.1 hsz1 q (DataW.weights_mem_each (j:=3) rfl rfl q hq)))
 have hm:lV a0 a1 a2 a3=some true:=EN a1 a2 a3 ⟨s0.2.1.1,s0.2.2.1.1,s0.2.2.2.1,fun x hx=>(s0.2.2.1.2.1 x hx).2.2.2.2.2.1⟩ ⟨by have:=s2.1.2.2;omega,by have:=s2.2.1.2.2;omega,by have:=s2.2.2.1.2.2;omega,by have:=s2.2.2.2.2.2;omega⟩
 refine(Pb (vs:=[v0,v1,v2,v3]) (zC a0 a1 a2 a3 hm) ⟨c0,c1,c2,c3,trivial⟩).mono fun e W' ⟨he,hb⟩=> ⟨_,he, ?_⟩
 refine Sq (t4:=4) rfl hW' ?_ ?_ ?_ rfl Tryz.underlying4 Tryz.laidOut ?_ hb
 ·rw [hds,hgs];rfl
 ·rw [hds,hgs];rfl
 ·rw [hds,hgs];rfl
 ·intro t ht
  rw [Tryz.params6]at ht
  simp at ht
  rcases ht with rfl|rfl|rfl|rfl<;>exact⟨by kernel_rfl,of_decide_eq_true (by kernel_rfl)⟩
set_option maxRecDepth 100000 in
theorem DI (os:Os) (started:os.Started) (H:Type) (enc:TypeId × Value→H):
  ReturnsInHanded {} Tryz.checked os 6 .any (Rows.stepsSafeSpec.pre6 enc Tryz.prog Tryz.f6 Rows.stepsSafeRow.domain false) (Rows.stepsSafeSpec.post enc Tryz.prog Tryz.f6 false true false false):=by
 refine returnsInHanded_of_change_sized (C:=Tryz.checked) Tryz.own started (by kernel_rfl) Tryz.func6
  (ChangeSpec.witness6 (enc:=enc) (C:=Tryz.checked) false ⟨#[], #[.agg #[.int .i64 0, .slice none 0 0, .slice none 0 0, .slice none 0 0], .agg #[.slice none 0 0, .slice none 0 0, .slice none 0 0, .slice none 0 0, .slice none 0 0, .slice none 0 0, .slice none 0 0], .agg #[.slice none 0 0, .slice none 0 0, .slice none 0 0, .slice none 0 0], .slice none 0 0],[]⟩ 16 (by kernel_rfl) (by kernel_rfl) (by kernel_rfl) (by kernel_rfl)) ?_
 intro W base args ds gs before hval hW _ hsz _
 exact A7 H enc W base args ds gs before hval hW hsz
theorem stepsSafe_holds:Rows.StepsSafeSaid:=
 OpenClaim.holds_of_wide 6 Tryz.f6 rfl rfl rfl rfl rfl rfl rfl ⟨rfl,rfl,rfl,rfl,rfl⟩ rfl rfl rfl rfl rfl (by kernel_rfl) Tryz.func6 (by kernel_rfl)
  (of_decide_eq_true (by kernel_rfl)) (by unfold Func.isWrapper;first|(rw [if_pos (by decide+kernel)];kernel_rfl)|(rw [if_neg (by decide+kernel)];exact⟨rfl,rfl⟩))
  (fun os started H enc _=>DI os started H enc)
end Go.Proofs.YtboodeobmgjjpaaGreat
