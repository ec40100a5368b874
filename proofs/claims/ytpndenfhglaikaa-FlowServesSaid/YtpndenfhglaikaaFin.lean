/- FlowServes: for every plant and state, the law that compares the greatest amount, the least cut, what limits it and whether all racks are served with the reference returns true (no conditions). -/
import Derived.Test.YtpndenfhglaikaaRows
import Derived.ProofKit
import Derived.Test.YtpndenfhglaikaaLe
import Derived.Test.YtpndenfhglaikaaW2
set_option linter.all false
namespace Sg
open Go Go.Proofs Go.Proofs.Ytpndenfhglaikaa Go.ChangeShapes Go.WideShapes Go.RowKit
set_option maxRecDepth 20000
theorem Xh:Rz Try.prog 3 1 (aT .i64) (fun n:Int=> -9223372036854775808≤n∧n≤9223372036854775807):=(Rd.int Try.underlying3 (by kernel_rfl)).z
theorem ajo:Rz Try.prog 124 1 (aT .i64) (fun n:Int=> -9223372036854775808≤n∧n≤9223372036854775807):=(Rd.int Try.underlying124 (by kernel_rfl)).z
def ae9 (x:ay):Prop:=(fun n:Int=> -9223372036854775808≤n∧n≤9223372036854775807) x.bus∧(fun n:Int=> -9223372036854775808≤n∧n≤9223372036854775807) x.kind∧(fun n:Int=> -9223372036854775808≤n∧n≤9223372036854775807) x.aV∧(fun n:Int=> -9223372036854775808≤n∧n≤9223372036854775807) x.sync∧(fun n:Int=> -9223372036854775808≤n∧n≤9223372036854775807) x.gM
theorem am7:Rz Try.prog 126 5 ay.cell ae9:=by
 refine⟨by kernel_rfl,fun h hz=> ?_⟩
 obtain⟨hl,hf⟩:=Rz.fields Try.underlying126 (n:=5) (by kernel_rfl) h hz
 obtain⟨a0,s0,c0⟩:=Rz.field (off:=0) Xh (hf 0 _ rfl)
 obtain⟨a1,s1,c1⟩:=Rz.field (off:=1) ajo (hf 1 _ rfl)
 obtain⟨a2,s2,c2⟩:=Rz.field (off:=2) Xh (hf 2 _ rfl)
 obtain⟨a3,s3,c3⟩:=Rz.field (off:=3) Xh (hf 3 _ rfl)
 obtain⟨a4,s4,c4⟩:=Rz.field (off:=4) Xh (hf 4 _ rfl)
 exact⟨⟨a0,a1,a2,a3,a4⟩,⟨s0,s1,s2,s3,s4⟩,hl,fun j hj=>match j,hj with|0,_=>c0 0 (by decide)|1,_=>c1 0 (by decide)|2,_=>c2 0 (by decide)|3,_=>c3 0 (by decide)|4,_=>c4 0 (by decide)⟩
def akl (l:List ay):Prop:=l.length≤9223372036854775807∧(∀x∈l,ae9 x)∧l.length*40≤140737488351232
theorem aod:Rz Try.prog 22 1 (Rf 5 ay.cell) akl:=Rz.slice Try.underlying22 (by kernel_rfl) (by decide) (b:=40) (by kernel_rfl) am7
theorem aoC:Rz Try.prog 50 1 (aT .i64) (fun n:Int=> -9223372036854775808≤n∧n≤9223372036854775807):=(Rd.int Try.underlying50 (by kernel_rfl)).z
def aeM (x:dV):Prop:=(fun n:Int=> -9223372036854775808≤n∧n≤9223372036854775807) x.amps∧(fun n:Int=> -9223372036854775808≤n∧n≤9223372036854775807) x.jd
theorem alQ:Rz Try.prog 148 2 dV.cell aeM:=by
 refine⟨by kernel_rfl,fun h hz=> ?_⟩
 obtain⟨hl,hf⟩:=Rz.fields Try.underlying148 (n:=2) (by kernel_rfl) h hz
 obtain⟨a0,s0,c0⟩:=Rz.field (off:=0) Xh (hf 0 _ rfl)
 obtain⟨a1,s1,c1⟩:=Rz.field (off:=1) Xh (hf 1 _ rfl)
 exact⟨⟨a0,a1⟩,⟨s0,s1⟩,hl,fun j hj=>match j,hj with|0,_=>c0 0 (by decide)|1,_=>c1 0 (by decide)⟩
def alu (l:List dV):Prop:=l.length≤9223372036854775807∧(∀x∈l,aeM x)∧l.length*16≤140737488351232
theorem aoa:Rz Try.prog 51 1 (Rf 2 dV.cell) alu:=Rz.slice Try.underlying51 (by kernel_rfl) (by decide) (b:=16) (by kernel_rfl) alQ
def alH (x:aH):Prop:=(fun n:Int=> -9223372036854775808≤n∧n≤9223372036854775807) x.a∧(fun n:Int=> -9223372036854775808≤n∧n≤9223372036854775807) x.b∧(fun n:Int=> -9223372036854775808≤n∧n≤9223372036854775807) x.kind∧(fun n:Int=> -9223372036854775808≤n∧n≤9223372036854775807) x.most∧(fun n:Int=> -9223372036854775808≤n∧n≤9223372036854775807) x.gM∧alu x.trip
theorem an6:Rz Try.prog 53 6 aH.cell alH:=by
 refine⟨by kernel_rfl,fun h hz=> ?_⟩
 obtain⟨hl,hf⟩:=Rz.fields Try.underlying53 (n:=6) (by kernel_rfl) h hz
 obtain⟨a0,s0,c0⟩:=Rz.field (off:=0) Xh (hf 0 _ rfl)
 obtain⟨a1,s1,c1⟩:=Rz.field (off:=1) Xh (hf 1 _ rfl)
 obtain⟨a2,s2,c2⟩:=Rz.field (off:=2) aoC (hf 2 _ rfl)
 obtain⟨a3,s3,c3⟩:=Rz.field (off:=3) Xh (hf 3 _ rfl)
 obtain⟨a4,s4,c4⟩:=Rz.field (off:=4) Xh (hf 4 _ rfl)
 obtain⟨a5,s5,c5⟩:=Rz.field (off:=5) aoa (hf 5 _ rfl)
 exact⟨⟨a0,a1,a2,a3,a4,a5⟩,⟨s0,s1,s2,s3,s4,s5⟩,hl,fun j hj=>match j,hj with|0,_=>c0 0 (by decide)|1,_=>c1 0 (by decide)|2,_=>c2 0 (by decide)|3,_=>c3 0 (by decide)|4,_=>c4 0 (by decide)|5,_=>c5 0 (by decide)⟩
def ajs (l:List aH):Prop:=l.length≤9223372036854775807∧(∀x∈l,alH x)∧l.length*64≤140737488351232
theorem aof:Rz Try.prog 23 1 (Rf 6 aH.cell) ajs:=Rz.slice Try.underlying23 (by kernel_rfl) (by decide) (b:=64) (by kernel_rfl) an6
def aeO (x:aj):Prop:=(fun n:Int=> -9223372036854775808≤n∧n≤9223372036854775807) x.e0∧(fun n:Int=> -9223372036854775808≤n∧n≤9223372036854775807) x.e1
theorem aj3:Rz Try.prog 164 2 aj.cell aeO:=by
 refine⟨by kernel_rfl,fun h hz=> ?_⟩
 obtain⟨hl,hf⟩:=Rz.elems Try.underlying164 (n:=2) (by kernel_rfl) h hz
 obtain⟨a0,s0,c0⟩:=Rz.field (off:=0) Xh (hf 0 (by decide))
 obtain⟨a1,s1,c1⟩:=Rz.field (off:=1) Xh (hf 1 (by decide))
 exact⟨⟨a0,a1⟩,⟨s0,s1⟩,hl,fun j hj=>match j,hj with|0,_=>c0 0 (by decide)|1,_=>c1 0 (by decide)⟩
def ae4 (x:aK):Prop:=aeO x.aC∧(fun n:Int=> -9223372036854775808≤n∧n≤9223372036854775807) x.aV∧(fun n:Int=> -9223372036854775808≤n∧n≤9223372036854775807) x.kJ
theorem akn:Rz Try.prog 166 4 aK.cell ae4:=by
 refine⟨by kernel_rfl,fun h hz=> ?_⟩
 obtain⟨hl,hf⟩:=Rz.fields Try.underlying166 (n:=4) (by kernel_rfl) h hz
 obtain⟨a0,s0,c0⟩:=Rz.field (off:=0) aj3 (hf 0 _ rfl)
 obtain⟨a1,s1,c1⟩:=Rz.field (off:=2) Xh (hf 1 _ rfl)
 obtain⟨a2,s2,c2⟩:=Rz.field (off:=3) Xh (hf 2 _ rfl)
 exact⟨⟨a0,a1,a2⟩,⟨s0,s1,s2⟩,hl,fun j hj=>match j,hj with|0,_=>c0 0 (by decide)|1,_=>c0 1 (by decide)|2,_=>c1 0 (by decide)|3,_=>c2 0 (by decide)⟩
def am5 (l:List aK):Prop:=l.length≤9223372036854775807∧(∀x∈l,ae4 x)∧l.length*32≤140737488351232
theorem aot:Rz Try.prog 24 1 (Rf 4 aK.cell) am5:=Rz.slice Try.underlying24 (by kernel_rfl) (by decide) (b:=32) (by kernel_rfl) akn
def aoB (x:au):Prop:=(fun n:Int=> -9223372036854775808≤n∧n≤9223372036854775807) x.ax∧akl x.ah∧ajs x.ai∧am5 x.af
theorem an4:Rz Try.prog 26 4 au.cell aoB:=by
 refine⟨by kernel_rfl,fun h hz=> ?_⟩
 obtain⟨hl,hf⟩:=Rz.fields Try.underlying26 (n:=4) (by kernel_rfl) h hz
 obtain⟨a0,s0,c0⟩:=Rz.field (off:=0) Xh (hf 0 _ rfl)
 obtain⟨a1,s1,c1⟩:=Rz.field (off:=1) aod (hf 1 _ rfl)
 obtain⟨a2,s2,c2⟩:=Rz.field (off:=2) aof (hf 2 _ rfl)
 obtain⟨a3,s3,c3⟩:=Rz.field (off:=3) aot (hf 3 _ rfl)
 exact⟨⟨a0,a1,a2,a3⟩,⟨s0,s1,s2,s3⟩,hl,fun j hj=>match j,hj with|0,_=>c0 0 (by decide)|1,_=>c1 0 (by decide)|2,_=>c2 0 (by decide)|3,_=>c3 0 (by decide)⟩
theorem rd4:Rz Try.prog 4 1 aF (fun _:Bool=>True):=(Rd.bool Try.underlying4 (by kernel_rfl)).z
def Ua (l:List Bool):Prop:=l.length≤9223372036854775807∧(∀x∈l,(fun _:Bool=>True) x)∧l.length*1≤140737488351232
theorem V5:Rz Try.prog 27 1 (Rf 1 aF) Ua:=Rz.slice Try.underlying27 (by kernel_rfl) (by decide) (b:=1) (by kernel_rfl) rd4
def aog (x:aA):Prop:=Ua x.bH∧Ua x.bZ∧Ua x.bN∧Ua x.on_∧Ua x.bD∧Ua x.cK∧Ua x.aW
theorem aop:Rz Try.prog 29 7 aA.cell aog:=by
 refine⟨by kernel_rfl,fun h hz=> ?_⟩
 obtain⟨hl,hf⟩:=Rz.fields Try.underlying29 (n:=7) (by kernel_rfl) h hz
 obtain⟨a0,s0,c0⟩:=Rz.field (off:=0) V5 (hf 0 _ rfl)
 obtain⟨a1,s1,c1⟩:=Rz.field (off:=1) V5 (hf 1 _ rfl)
 obtain⟨a2,s2,c2⟩:=Rz.field (off:=2) V5 (hf 2 _ rfl)
 obtain⟨a3,s3,c3⟩:=Rz.field (off:=3) V5 (hf 3 _ rfl)
 obtain⟨a4,s4,c4⟩:=Rz.field (off:=4) V5 (hf 4 _ rfl)
 obtain⟨a5,s5,c5⟩:=Rz.field (off:=5) V5 (hf 5 _ rfl)
 obtain⟨a6,s6,c6⟩:=Rz.field (off:=6) V5 (hf 6 _ rfl)
 exact⟨⟨a0,a1,a2,a3,a4,a5,a6⟩,⟨s0,s1,s2,s3,s4,s5,s6⟩,hl,fun j hj=>match j,hj with|0,_=>c0 0 (by decide)|1,_=>c1 0 (by decide)|2,_=>c2 0 (by decide)|3,_=>c3 0 (by decide)|4,_=>c4 0 (by decide)|5,_=>c5 0 (by decide)|6,_=>c6 0 (by decide)⟩
end Sg
namespace Go.Proofs.Ytpndenfhglaikaa
open Sg Go.ChangeShapes Go.WideShapes Go.ChangeAt Go.RowKit
theorem Try.own:ownKnob Try.prog.godebug=none:=by kernel_rfl
theorem Try.laidOut:laidOutB Try.prog=true:=by kernel_rfl
set_option maxRecDepth 100000 in
theorem FY (H:Type) (enc:TypeId × Value→H) (W:World) (base:Nat) (args:Array Value) (ds gs:List (DataW H)) (before:List MemPlace)
  (hval: ∀(j:Nat) t v,Try.f6.params[j]? =some t→args[j]? =some v→Value.okWide Try.prog W .any base t v)
  (hW:DataW.Whole enc Try.prog Try.f6.params.toList Rows.flowServesSpec.vars false W args.toList ds gs before)
  (hsz:(DataW.weightsEach Try.prog (Try.f6.params.toList++Rows.flowServesSpec.plain.varTypes Try.prog) (ds++gs)).all (· ≤reachBytes)=true):
  Calls Try.prog 6 args W fun e W'=> ∃v,e= .returned v∧Rows.flowServesSpec.post enc Try.prog Try.f6 false true false false W args v W':=by
 have hW':=hW
 obtain⟨p,q,hA0,hV,rfl,hfz,hnd⟩:=hW
 have hA:DataW.TrodAll enc Try.prog W 0 (fun _=>true) true Try.f6.params.toList args.toList ds p:=hA0
 rw [Try.params6]at hA hval
 obtain⟨v0,l0,d0,e0,p0,q0,hv0,hd0,hp0,h0,r0⟩:=trodAll_cons hA
 obtain⟨v1,l1,d1,e1,p1,q1,hv1,hd1,hp1,h1,r1⟩:=trodAll_cons r0
 obtain⟨hvz,hdz,hpz⟩:=trodAll_nil r1
 have hgs:=(trodVars_none hV).1
 have hargs:args= #[v0,v1]:=by
  have:args.toList=[v0,v1]:=by rw [hv0,hv1,hvz]
  cases args;simp at this;rw [this]
 have hds:ds=[d0,d1]:=by rw [hd0,hd1,hdz]
 subst hargs
 have hsz1:(DataW.weightsEach Try.prog [26,29] [d0,d1]).all (fun x=>decide (x≤reachBytes))=true:=by rw [hds,hgs,Try.params6]at hsz;exact hsz
 obtain⟨a0,s0,c0⟩:=Rz.agg an4 Try.underlying26 (hval 0 26 v0 rfl rfl) h0 (fun q hq=>of_decide_eq_true (List.all_eq_true.1 hsz1 q (DataW.weights_mem_each (j:=0) rfl rfl q hq)))
 obtain⟨a1,s1,c1⟩:=Rz.agg aop Try.underlying29 (hval 1 29 v1 rfl rfl) h1 (fun q hq=>of_decide_eq_true (List.all_eq_true.1 hsz1 q (DataW.weights_mem_each (j:=1) rfl rfl q hq)))
 have hm:jS a0 a1=some true:=MP a0 a1 ⟨s0.2.1.1,s0.2.2.1.1,s0.2.2.2.1,fun x hx=>(s0.2.2.1.2.1 x hx).2.2.2.2.2.1⟩ ⟨by have:=s1.1.2.2;omega,by have:=s1.2.1.2.2;omega,by have:=s1.2.2.1.2.2;omega,by have:=s1.2.2.2.1.2.2;omega,by have:=s1.2.2.2.2.1.2.2;omega,by have:=s1.2.2.2.2.2.1.2.2;omega,by have:=s1.2.2.2.2.2.2.2.2;omega⟩ (fun x hx=>by have:=(s0.2.2.1.2.1 x hx).2.2.2.2.2.2.2;omega)
 refine(ZB (vs:=[v0,v1]) (Ef a0 a1 hm) ⟨c0,c1,trivial⟩).mono fun e W' ⟨he,hb⟩=> ⟨_,he, ?_⟩
 refine acf (t4:=4) rfl hW' ?_ ?_ ?_ rfl Try.underlying4 Try.laidOut ?_ hb
 ·rw [hds,hgs];rfl
 ·rw [hds,hgs];rfl
 ·rw [hds,hgs];rfl
 ·intro t ht
  rw [Try.params6]at ht
  simp at ht
  rcases ht with rfl|rfl<;>exact⟨by kernel_rfl,of_decide_eq_true (by kernel_rfl)⟩
set_option maxRecDepth 100000 in
theorem JY (os:Os) (started:os.Started) (H:Type) (enc:TypeId × Value→H):
  ReturnsInHanded {} Try.checked os 6 .any (Rows.flowServesSpec.pre6 enc Try.prog Try.f6 Rows.flowServesRow.domain false) (Rows.flowServesSpec.post enc Try.prog Try.f6 false true false false):=by
 refine returnsInHanded_of_change_sized (C:=Try.checked) Try.own started (by kernel_rfl) Try.func6
  (ChangeSpec.witness6 (enc:=enc) (C:=Try.checked) false ⟨#[], #[.agg #[.int .i64 0, .slice none 0 0, .slice none 0 0, .slice none 0 0], .agg #[.slice none 0 0, .slice none 0 0, .slice none 0 0, .slice none 0 0, .slice none 0 0, .slice none 0 0, .slice none 0 0]],[]⟩ 16 (by kernel_rfl) (by kernel_rfl) (by kernel_rfl) (by kernel_rfl)) ?_
 intro W base args ds gs before hval hW _ hsz _
 exact FY H enc W base args ds gs before hval hW hsz
theorem flowServes_holds:Rows.FlowServesSaid:=
 OpenClaim.holds_of_wide 6 Try.f6 rfl rfl rfl rfl rfl rfl rfl ⟨rfl,rfl,rfl,rfl,rfl⟩ rfl rfl rfl rfl rfl (by kernel_rfl) Try.func6 (by kernel_rfl)
  (of_decide_eq_true (by kernel_rfl)) (by unfold Func.isWrapper;first|(rw [if_pos (by decide+kernel)];kernel_rfl)|(rw [if_neg (by decide+kernel)];exact⟨rfl,rfl⟩))
  (fun os started H enc _=>JY os started H enc)
end Go.Proofs.Ytpndenfhglaikaa
