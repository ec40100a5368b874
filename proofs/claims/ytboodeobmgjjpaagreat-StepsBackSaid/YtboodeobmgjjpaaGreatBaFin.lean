/- StepsBack: for every plant, state, task and list of steps, each legal program leads back by its reverse: the law returns true (no conditions). -/
import Derived.Test.YtboodeobmgjjpaaGreatRows
import Derived.ProofKit
import Derived.Test.YtboodeobmgjjpaaGreatBaLf
import Derived.Test.YtboodeobmgjjpaaGreatBaW4
set_option linter.all false
namespace Sg
open Go Go.Proofs Go.Proofs.YtboodeobmgjjpaaGreat Go.ChangeShapes Go.WideShapes Go.RowKit
set_option maxRecDepth 20000
theorem Kb:Rz Tryz.prog 3 1 (bM .i64) (fun n:Int=> -9223372036854775808≤n∧n≤9223372036854775807):=(Rd.int Tryz.underlying3 (by kernel_rfl)).z
theorem ZT:Rz Tryz.prog 56 1 (bM .i64) (fun n:Int=> -9223372036854775808≤n∧n≤9223372036854775807):=(Rd.int Tryz.underlying56 (by kernel_rfl)).z
def Yw (x:Source):Prop:=(fun n:Int=> -9223372036854775808≤n∧n≤9223372036854775807) x.bus∧(fun n:Int=> -9223372036854775808≤n∧n≤9223372036854775807) x.kind∧(fun n:Int=> -9223372036854775808≤n∧n≤9223372036854775807) x.power∧(fun n:Int=> -9223372036854775808≤n∧n≤9223372036854775807) x.sync∧(fun n:Int=> -9223372036854775808≤n∧n≤9223372036854775807) x.ohm
theorem aaI:Rz Tryz.prog 58 5 Source.cell Yw:=by
 refine⟨by kernel_rfl,fun h hz=> ?_⟩
 obtain⟨hl,hf⟩:=Rz.fields Tryz.underlying58 (n:=5) (by kernel_rfl) h hz
 obtain⟨a0,s0,c0⟩:=Rz.field (off:=0) Kb (hf 0 _ rfl)
 obtain⟨a1,s1,c1⟩:=Rz.field (off:=1) ZT (hf 1 _ rfl)
 obtain⟨a2,s2,c2⟩:=Rz.field (off:=2) Kb (hf 2 _ rfl)
 obtain⟨a3,s3,c3⟩:=Rz.field (off:=3) Kb (hf 3 _ rfl)
 obtain⟨a4,s4,c4⟩:=Rz.field (off:=4) Kb (hf 4 _ rfl)
 exact⟨⟨a0,a1,a2,a3,a4⟩,⟨s0,s1,s2,s3,s4⟩,hl,fun j hj=>match j,hj with|0,_=>c0 0 (by decide)|1,_=>c1 0 (by decide)|2,_=>c2 0 (by decide)|3,_=>c3 0 (by decide)|4,_=>c4 0 (by decide)⟩
def WS (l:List Source):Prop:=l.length≤9223372036854775807∧(∀x∈l,Yw x)∧l.length*40≤140737488351232
theorem aap:Rz Tryz.prog 22 1 (Tj 5 Source.cell) WS:=Rz.slice Tryz.underlying22 (by kernel_rfl) (by decide) (b:=40) (by kernel_rfl) aaI
theorem Zm:Rz Tryz.prog 52 1 (bM .i64) (fun n:Int=> -9223372036854775808≤n∧n≤9223372036854775807):=(Rd.int Tryz.underlying52 (by kernel_rfl)).z
def UI (x:oZ):Prop:=(fun n:Int=> -9223372036854775808≤n∧n≤9223372036854775807) x.amps∧(fun n:Int=> -9223372036854775808≤n∧n≤9223372036854775807) x.millis
theorem YK:Rz Tryz.prog 220 2 oZ.cell UI:=by
 refine⟨by kernel_rfl,fun h hz=> ?_⟩
 obtain⟨hl,hf⟩:=Rz.fields Tryz.underlying220 (n:=2) (by kernel_rfl) h hz
 obtain⟨a0,s0,c0⟩:=Rz.field (off:=0) Kb (hf 0 _ rfl)
 obtain⟨a1,s1,c1⟩:=Rz.field (off:=1) Kb (hf 1 _ rfl)
 exact⟨⟨a0,a1⟩,⟨s0,s1⟩,hl,fun j hj=>match j,hj with|0,_=>c0 0 (by decide)|1,_=>c1 0 (by decide)⟩
def YP (l:List oZ):Prop:=l.length≤9223372036854775807∧(∀x∈l,UI x)∧l.length*16≤140737488351232
theorem aaL:Rz Tryz.prog 53 1 (Tj 2 oZ.cell) YP:=Rz.slice Tryz.underlying53 (by kernel_rfl) (by decide) (b:=16) (by kernel_rfl) YK
def Yq (x:Link):Prop:=(fun n:Int=> -9223372036854775808≤n∧n≤9223372036854775807) x.a∧(fun n:Int=> -9223372036854775808≤n∧n≤9223372036854775807) x.b∧(fun n:Int=> -9223372036854775808≤n∧n≤9223372036854775807) x.kind∧(fun n:Int=> -9223372036854775808≤n∧n≤9223372036854775807) x.most∧(fun n:Int=> -9223372036854775808≤n∧n≤9223372036854775807) x.ohm∧YP x.trip
theorem aac:Rz Tryz.prog 55 6 Link.cell Yq:=by
 refine⟨by kernel_rfl,fun h hz=> ?_⟩
 obtain⟨hl,hf⟩:=Rz.fields Tryz.underlying55 (n:=6) (by kernel_rfl) h hz
 obtain⟨a0,s0,c0⟩:=Rz.field (off:=0) Kb (hf 0 _ rfl)
 obtain⟨a1,s1,c1⟩:=Rz.field (off:=1) Kb (hf 1 _ rfl)
 obtain⟨a2,s2,c2⟩:=Rz.field (off:=2) Zm (hf 2 _ rfl)
 obtain⟨a3,s3,c3⟩:=Rz.field (off:=3) Kb (hf 3 _ rfl)
 obtain⟨a4,s4,c4⟩:=Rz.field (off:=4) Kb (hf 4 _ rfl)
 obtain⟨a5,s5,c5⟩:=Rz.field (off:=5) aaL (hf 5 _ rfl)
 exact⟨⟨a0,a1,a2,a3,a4,a5⟩,⟨s0,s1,s2,s3,s4,s5⟩,hl,fun j hj=>match j,hj with|0,_=>c0 0 (by decide)|1,_=>c1 0 (by decide)|2,_=>c2 0 (by decide)|3,_=>c3 0 (by decide)|4,_=>c4 0 (by decide)|5,_=>c5 0 (by decide)⟩
def Yk (l:List Link):Prop:=l.length≤9223372036854775807∧(∀x∈l,Yq x)∧l.length*64≤140737488351232
theorem aaX:Rz Tryz.prog 23 1 (Tj 6 Link.cell) Yk:=Rz.slice Tryz.underlying23 (by kernel_rfl) (by decide) (b:=64) (by kernel_rfl) aac
def Um (x:aC):Prop:=(fun n:Int=> -9223372036854775808≤n∧n≤9223372036854775807) x.e0∧(fun n:Int=> -9223372036854775808≤n∧n≤9223372036854775807) x.e1
theorem Y4:Rz Tryz.prog 117 2 aC.cell Um:=by
 refine⟨by kernel_rfl,fun h hz=> ?_⟩
 obtain⟨hl,hf⟩:=Rz.elems Tryz.underlying117 (n:=2) (by kernel_rfl) h hz
 obtain⟨a0,s0,c0⟩:=Rz.field (off:=0) Kb (hf 0 (by decide))
 obtain⟨a1,s1,c1⟩:=Rz.field (off:=1) Kb (hf 1 (by decide))
 exact⟨⟨a0,a1⟩,⟨s0,s1⟩,hl,fun j hj=>match j,hj with|0,_=>c0 0 (by decide)|1,_=>c1 0 (by decide)⟩
def Ul (x:aU):Prop:=Um x.feeds∧(fun n:Int=> -9223372036854775808≤n∧n≤9223372036854775807) x.power∧(fun n:Int=> -9223372036854775808≤n∧n≤9223372036854775807) x.paths
theorem YR:Rz Tryz.prog 119 4 aU.cell Ul:=by
 refine⟨by kernel_rfl,fun h hz=> ?_⟩
 obtain⟨hl,hf⟩:=Rz.fields Tryz.underlying119 (n:=4) (by kernel_rfl) h hz
 obtain⟨a0,s0,c0⟩:=Rz.field (off:=0) Y4 (hf 0 _ rfl)
 obtain⟨a1,s1,c1⟩:=Rz.field (off:=2) Kb (hf 1 _ rfl)
 obtain⟨a2,s2,c2⟩:=Rz.field (off:=3) Kb (hf 2 _ rfl)
 exact⟨⟨a0,a1,a2⟩,⟨s0,s1,s2⟩,hl,fun j hj=>match j,hj with|0,_=>c0 0 (by decide)|1,_=>c0 1 (by decide)|2,_=>c1 0 (by decide)|3,_=>c2 0 (by decide)⟩
def YE (l:List aU):Prop:=l.length≤9223372036854775807∧(∀x∈l,Ul x)∧l.length*32≤140737488351232
theorem aaP:Rz Tryz.prog 24 1 (Tj 4 aU.cell) YE:=Rz.slice Tryz.underlying24 (by kernel_rfl) (by decide) (b:=32) (by kernel_rfl) YR
def aaC (x:au):Prop:=(fun n:Int=> -9223372036854775808≤n∧n≤9223372036854775807) x.buses∧WS x.sources∧Yk x.links∧YE x.racks
theorem aaW:Rz Tryz.prog 26 4 au.cell aaC:=by
 refine⟨by kernel_rfl,fun h hz=> ?_⟩
 obtain⟨hl,hf⟩:=Rz.fields Tryz.underlying26 (n:=4) (by kernel_rfl) h hz
 obtain⟨a0,s0,c0⟩:=Rz.field (off:=0) Kb (hf 0 _ rfl)
 obtain⟨a1,s1,c1⟩:=Rz.field (off:=1) aap (hf 1 _ rfl)
 obtain⟨a2,s2,c2⟩:=Rz.field (off:=2) aaX (hf 2 _ rfl)
 obtain⟨a3,s3,c3⟩:=Rz.field (off:=3) aaP (hf 3 _ rfl)
 exact⟨⟨a0,a1,a2,a3⟩,⟨s0,s1,s2,s3⟩,hl,fun j hj=>match j,hj with|0,_=>c0 0 (by decide)|1,_=>c1 0 (by decide)|2,_=>c2 0 (by decide)|3,_=>c3 0 (by decide)⟩
theorem rd4:Rz Tryz.prog 4 1 ai (fun _:Bool=>True):=(Rd.bool Tryz.underlying4 (by kernel_rfl)).z
def J6 (l:List Bool):Prop:=l.length≤9223372036854775807∧(∀x∈l,(fun _:Bool=>True) x)∧l.length*1≤140737488351232
theorem Mr:Rz Tryz.prog 27 1 (Tj 1 ai) J6:=Rz.slice Tryz.underlying27 (by kernel_rfl) (by decide) (b:=1) (by kernel_rfl) rd4
def Zy (x:State):Prop:=J6 x.closed∧J6 x.locked∧J6 x.badLink∧J6 x.on_∧J6 x.badSource∧J6 x.earthed∧J6 x.badBus
theorem ZA:Rz Tryz.prog 29 7 State.cell Zy:=by
 refine⟨by kernel_rfl,fun h hz=> ?_⟩
 obtain⟨hl,hf⟩:=Rz.fields Tryz.underlying29 (n:=7) (by kernel_rfl) h hz
 obtain⟨a0,s0,c0⟩:=Rz.field (off:=0) Mr (hf 0 _ rfl)
 obtain⟨a1,s1,c1⟩:=Rz.field (off:=1) Mr (hf 1 _ rfl)
 obtain⟨a2,s2,c2⟩:=Rz.field (off:=2) Mr (hf 2 _ rfl)
 obtain⟨a3,s3,c3⟩:=Rz.field (off:=3) Mr (hf 3 _ rfl)
 obtain⟨a4,s4,c4⟩:=Rz.field (off:=4) Mr (hf 4 _ rfl)
 obtain⟨a5,s5,c5⟩:=Rz.field (off:=5) Mr (hf 5 _ rfl)
 obtain⟨a6,s6,c6⟩:=Rz.field (off:=6) Mr (hf 6 _ rfl)
 exact⟨⟨a0,a1,a2,a3,a4,a5,a6⟩,⟨s0,s1,s2,s3,s4,s5,s6⟩,hl,fun j hj=>match j,hj with|0,_=>c0 0 (by decide)|1,_=>c1 0 (by decide)|2,_=>c2 0 (by decide)|3,_=>c3 0 (by decide)|4,_=>c4 0 (by decide)|5,_=>c5 0 (by decide)|6,_=>c6 0 (by decide)⟩
def U9 (l:List Int):Prop:=l.length≤9223372036854775807∧(∀x∈l,(fun n:Int=> -9223372036854775808≤n∧n≤9223372036854775807) x)∧l.length*8≤140737488351232
theorem YG:Rz Tryz.prog 30 1 (Tj 1 (bM .i64)) U9:=Rz.slice Tryz.underlying30 (by kernel_rfl) (by decide) (b:=8) (by kernel_rfl) Kb
theorem Zp:Rz Tryz.prog 59 1 (bM .i64) (fun n:Int=> -9223372036854775808≤n∧n≤9223372036854775807):=(Rd.int Tryz.underlying59 (by kernel_rfl)).z
def WB (x:af):Prop:=(fun n:Int=> -9223372036854775808≤n∧n≤9223372036854775807) x.deed∧(fun n:Int=> -9223372036854775808≤n∧n≤9223372036854775807) x.index
theorem Zo:Rz Tryz.prog 61 2 af.cell WB:=by
 refine⟨by kernel_rfl,fun h hz=> ?_⟩
 obtain⟨hl,hf⟩:=Rz.fields Tryz.underlying61 (n:=2) (by kernel_rfl) h hz
 obtain⟨a0,s0,c0⟩:=Rz.field (off:=0) Zp (hf 0 _ rfl)
 obtain⟨a1,s1,c1⟩:=Rz.field (off:=1) Kb (hf 1 _ rfl)
 exact⟨⟨a0,a1⟩,⟨s0,s1⟩,hl,fun j hj=>match j,hj with|0,_=>c0 0 (by decide)|1,_=>c1 0 (by decide)⟩
def Va (l:List af):Prop:=l.length≤9223372036854775807∧(∀x∈l,WB x)∧l.length*16≤140737488351232
theorem U6:Rz Tryz.prog 31 1 (Tj 2 af.cell) Va:=Rz.slice Tryz.underlying31 (by kernel_rfl) (by decide) (b:=16) (by kernel_rfl) Zo
def aaO (x:Task):Prop:=U9 x.fed∧U9 x.crew∧Va x.allowed∧Va x.goal
theorem aaw:Rz Tryz.prog 33 4 Task.cell aaO:=by
 refine⟨by kernel_rfl,fun h hz=> ?_⟩
 obtain⟨hl,hf⟩:=Rz.fields Tryz.underlying33 (n:=4) (by kernel_rfl) h hz
 obtain⟨a0,s0,c0⟩:=Rz.field (off:=0) YG (hf 0 _ rfl)
 obtain⟨a1,s1,c1⟩:=Rz.field (off:=1) YG (hf 1 _ rfl)
 obtain⟨a2,s2,c2⟩:=Rz.field (off:=2) U6 (hf 2 _ rfl)
 obtain⟨a3,s3,c3⟩:=Rz.field (off:=3) U6 (hf 3 _ rfl)
 exact⟨⟨a0,a1,a2,a3⟩,⟨s0,s1,s2,s3⟩,hl,fun j hj=>match j,hj with|0,_=>c0 0 (by decide)|1,_=>c1 0 (by decide)|2,_=>c2 0 (by decide)|3,_=>c3 0 (by decide)⟩
end Sg
namespace Go.Proofs.YtboodeobmgjjpaaGreat
open Sg Go.ChangeShapes Go.WideShapes Go.ChangeAt Go.RowKit
theorem Tryz.own:ownKnob Tryz.prog.godebug=none:=by kernel_rfl
theorem Tryz.laidOut:laidOutB Tryz.prog=true:=by kernel_rfl
set_option maxRecDepth 100000 in
theorem Au (H:Type) (enc:TypeId × Value→H) (W:World) (base:Nat) (args:Array Value) (ds gs:List (DataW H)) (before:List MemPlace)
  (hval: ∀(j:Nat) t v,Tryz.f9.params[j]? =some t→args[j]? =some v→Value.okWide Tryz.prog W .any base t v)
  (hW:DataW.Whole enc Tryz.prog Tryz.f9.params.toList Rows.stepsBackSpec.vars false W args.toList ds gs before)
  (hsz:(DataW.weightsEach Tryz.prog (Tryz.f9.params.toList++Rows.stepsBackSpec.plain.varTypes Tryz.prog) (ds++gs)).all (· ≤reachBytes)=true):
  Calls Tryz.prog 9 args W fun e W'=> ∃v,e= .returned v∧Rows.stepsBackSpec.post enc Tryz.prog Tryz.f9 false true false false W args v W':=by
 have hW':=hW
 obtain⟨p,q,hA0,hV,rfl,hfz,hnd⟩:=hW
 have hA:DataW.TrodAll enc Tryz.prog W 0 (fun _=>true) true Tryz.f9.params.toList args.toList ds p:=hA0
 rw [Tryz.params9]at hA hval
 obtain⟨v0,l0,d0,e0,p0,q0,hv0,hd0,hp0,h0,r0⟩:=trodAll_cons hA
 obtain⟨v1,l1,d1,e1,p1,q1,hv1,hd1,hp1,h1,r1⟩:=trodAll_cons r0
 obtain⟨v2,l2,d2,e2,p2,q2,hv2,hd2,hp2,h2,r2⟩:=trodAll_cons r1
 obtain⟨v3,l3,d3,e3,p3,q3,hv3,hd3,hp3,h3,r3⟩:=trodAll_cons r2
 obtain⟨hvz,hdz,hpz⟩:=trodAll_nil r3
 have hgs:=(trodVars_none hV).1
 have hargs:args= #[v0,v1,v2,v3]:=by
  have:args.toList=[v0,v1,v2,v3]:=by rw [hv0,hv1,hv2,hv3,hvz]
  cases args;simp at this;rw [this]
 have hds:ds=[d0,d1,d2,d3]:=by rw [hd0,hd1,hd2,hd3,hdz]
 subst hargs
 have hsz1:(DataW.weightsEach Tryz.prog [26,29,33,31] [d0,d1,d2,d3]).all (fun x=>decide (x≤reachBytes))=true:=by rw [hds,hgs,Tryz.params9]at hsz;exact hsz
 obtain⟨a0,s0,c0⟩:=Rz.agg aaW Tryz.underlying26 (hval 0 26 v0 rfl rfl) h0 (fun q hq=>of_decide_eq_true (List.all_eq_true.1 hsz1 q (DataW.weights_mem_each (j:=0) rfl rfl q hq)))
 obtain⟨a1,s1,c1⟩:=Rz.agg ZA Tryz.underlying29 (hval 1 29 v1 rfl rfl) h1 (fun q hq=>of_decide_eq_true (List.all_eq_true.1 hsz1 q (DataW.weights_mem_each (j:=1) rfl rfl q hq)))
 obtain⟨a2,s2,c2⟩:=Rz.agg aaw Tryz.underlying33 (hval 2 33 v2 rfl rfl) h2 (fun q hq=>of_decide_eq_true (List.all_eq_true.1 hsz1 q (DataW.weights_mem_each (j:=2) rfl rfl q hq)))
 obtain⟨a3,s3,c3⟩:=Rz.one U6 (Oz Tryz.underlying31 (hval 3 31 v3 rfl rfl)) h3 (fun q hq=>of_decide_eq_true (List.all_eq_true.1 hsz1 q (DataW.weights_mem_each (j:=3) rfl rfl q hq)))
 have hm:lm a0 a1 a2 a3=some true:=E8 a1 a2 a3 ⟨s0.2.1.1,s0.2.2.1.1,s0.2.2.2.1,fun x hx=>(s0.2.2.1.2.1 x hx).2.2.2.2.2.1⟩ ⟨by have:=s2.1.2.2;omega,by have:=s2.2.1.2.2;omega,by have:=s2.2.2.1.2.2;omega,by have:=s2.2.2.2.2.2;omega⟩
 refine(O7 (vs:=[v0,v1,v2,v3]) (y9 a0 a1 a2 a3 hm) ⟨c0,c1,c2,c3,trivial⟩).mono fun e W' ⟨he,hb⟩=> ⟨_,he, ?_⟩
 refine QX (t4:=4) rfl hW' ?_ ?_ ?_ rfl Tryz.underlying4 Tryz.laidOut ?_ hb
 ·rw [hds,hgs];rfl
 ·rw [hds,hgs];rfl
 ·rw [hds,hgs];rfl
 ·intro t ht
  rw [Tryz.params9]at ht
  simp at ht
  rcases ht with rfl|rfl|rfl|rfl<;>exact⟨by kernel_rfl,of_decide_eq_true (by kernel_rfl)⟩
set_option maxRecDepth 100000 in
theorem CO (os:Os) (started:os.Started) (H:Type) (enc:TypeId × Value→H):
  ReturnsInHanded {} Tryz.checked os 9 .any (Rows.stepsBackSpec.pre6 enc Tryz.prog Tryz.f9 Rows.stepsBackRow.domain false) (Rows.stepsBackSpec.post enc Tryz.prog Tryz.f9 false true false false):=by
 refine returnsInHanded_of_change_sized (C:=Tryz.checked) Tryz.own started (by kernel_rfl) Tryz.func9
  (ChangeSpec.witness6 (enc:=enc) (C:=Tryz.checked) false ⟨#[], #[.agg #[.int .i64 0, .slice none 0 0, .slice none 0 0, .slice none 0 0], .agg #[.slice none 0 0, .slice none 0 0, .slice none 0 0, .slice none 0 0, .slice none 0 0, .slice none 0 0, .slice none 0 0], .agg #[.slice none 0 0, .slice none 0 0, .slice none 0 0, .slice none 0 0], .slice none 0 0],[]⟩ 16 (by kernel_rfl) (by kernel_rfl) (by kernel_rfl) (by kernel_rfl)) ?_
 intro W base args ds gs before hval hW _ hsz _
 exact Au H enc W base args ds gs before hval hW hsz
theorem stepsBack_holds:Rows.StepsBackSaid:=
 OpenClaim.holds_of_wide 9 Tryz.f9 rfl rfl rfl rfl rfl rfl rfl ⟨rfl,rfl,rfl,rfl,rfl⟩ rfl rfl rfl rfl rfl (by kernel_rfl) Tryz.func9 (by kernel_rfl)
  (of_decide_eq_true (by kernel_rfl)) (by unfold Func.isWrapper;first|(rw [if_pos (by decide+kernel)];kernel_rfl)|(rw [if_neg (by decide+kernel)];exact⟨rfl,rfl⟩))
  (fun os started H enc _=>CO os started H enc)
end Go.Proofs.YtboodeobmgjjpaaGreat
