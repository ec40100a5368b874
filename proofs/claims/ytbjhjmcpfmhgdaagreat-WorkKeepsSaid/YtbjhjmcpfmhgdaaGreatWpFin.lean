/- WorkKeeps: for every yard and all starts, the law that a plan that is found or verified keeps all promises in each of its hours returns true (no conditions). -/
import Derived.Test.YtbjhjmcpfmhgdaaGreatRows
import Derived.ProofKit
import Derived.Test.YtbjhjmcpfmhgdaaGreatWpLg
import Derived.Test.YtbjhjmcpfmhgdaaGreatWpLh
import Derived.Test.YtbjhjmcpfmhgdaaGreatWpW2
set_option linter.all false
namespace Sg
open Go Go.Proofs Go.Proofs.YtbjhjmcpfmhgdaaGreat Go.ChangeShapes Go.WideShapes Go.RowKit
set_option maxRecDepth 20000
theorem DY:Rz Tryz.prog 3 1 (aF .i64) (fun n:Int=> -9223372036854775808≤n∧n≤9223372036854775807):=(Rd.int Tryz.underlying3 (by kernel_rfl)).z
theorem ZW:Rz Tryz.prog 36 1 (aF .i64) (fun n:Int=> -9223372036854775808≤n∧n≤9223372036854775807):=(Rd.int Tryz.underlying36 (by kernel_rfl)).z
def XY (x:Source):Prop:=(fun n:Int=> -9223372036854775808≤n∧n≤9223372036854775807) x.bus∧(fun n:Int=> -9223372036854775808≤n∧n≤9223372036854775807) x.kind∧(fun n:Int=> -9223372036854775808≤n∧n≤9223372036854775807) x.power∧(fun n:Int=> -9223372036854775808≤n∧n≤9223372036854775807) x.sync∧(fun n:Int=> -9223372036854775808≤n∧n≤9223372036854775807) x.ohm
theorem Z0:Rz Tryz.prog 38 5 Source.cell XY:=by
 refine⟨by kernel_rfl,fun h hz=> ?_⟩
 obtain⟨hl,hf⟩:=Rz.fields Tryz.underlying38 (n:=5) (by kernel_rfl) h hz
 obtain⟨a0,s0,c0⟩:=Rz.field (off:=0) DY (hf 0 _ rfl)
 obtain⟨a1,s1,c1⟩:=Rz.field (off:=1) ZW (hf 1 _ rfl)
 obtain⟨a2,s2,c2⟩:=Rz.field (off:=2) DY (hf 2 _ rfl)
 obtain⟨a3,s3,c3⟩:=Rz.field (off:=3) DY (hf 3 _ rfl)
 obtain⟨a4,s4,c4⟩:=Rz.field (off:=4) DY (hf 4 _ rfl)
 exact⟨⟨a0,a1,a2,a3,a4⟩,⟨s0,s1,s2,s3,s4⟩,hl,fun j hj=>match j,hj with|0,_=>c0 0 (by decide)|1,_=>c1 0 (by decide)|2,_=>c2 0 (by decide)|3,_=>c3 0 (by decide)|4,_=>c4 0 (by decide)⟩
def Zi (l:List Source):Prop:=l.length≤9223372036854775807∧(∀x∈l,XY x)∧l.length*40≤140737488351232
theorem aat:Rz Tryz.prog 22 1 (Az 5 Source.cell) Zi:=Rz.slice Tryz.underlying22 (by kernel_rfl) (by decide) (b:=40) (by kernel_rfl) Z0
theorem aar:Rz Tryz.prog 32 1 (aF .i64) (fun n:Int=> -9223372036854775808≤n∧n≤9223372036854775807):=(Rd.int Tryz.underlying32 (by kernel_rfl)).z
def Vq (x:nJ):Prop:=(fun n:Int=> -9223372036854775808≤n∧n≤9223372036854775807) x.amps∧(fun n:Int=> -9223372036854775808≤n∧n≤9223372036854775807) x.millis
theorem X9:Rz Tryz.prog 282 2 nJ.cell Vq:=by
 refine⟨by kernel_rfl,fun h hz=> ?_⟩
 obtain⟨hl,hf⟩:=Rz.fields Tryz.underlying282 (n:=2) (by kernel_rfl) h hz
 obtain⟨a0,s0,c0⟩:=Rz.field (off:=0) DY (hf 0 _ rfl)
 obtain⟨a1,s1,c1⟩:=Rz.field (off:=1) DY (hf 1 _ rfl)
 exact⟨⟨a0,a1⟩,⟨s0,s1⟩,hl,fun j hj=>match j,hj with|0,_=>c0 0 (by decide)|1,_=>c1 0 (by decide)⟩
def X5 (l:List nJ):Prop:=l.length≤9223372036854775807∧(∀x∈l,Vq x)∧l.length*16≤140737488351232
theorem aap:Rz Tryz.prog 33 1 (Az 2 nJ.cell) X5:=Rz.slice Tryz.underlying33 (by kernel_rfl) (by decide) (b:=16) (by kernel_rfl) X9
def Ya (x:Link):Prop:=(fun n:Int=> -9223372036854775808≤n∧n≤9223372036854775807) x.a∧(fun n:Int=> -9223372036854775808≤n∧n≤9223372036854775807) x.b∧(fun n:Int=> -9223372036854775808≤n∧n≤9223372036854775807) x.kind∧(fun n:Int=> -9223372036854775808≤n∧n≤9223372036854775807) x.most∧(fun n:Int=> -9223372036854775808≤n∧n≤9223372036854775807) x.ohm∧X5 x.trip
theorem aay:Rz Tryz.prog 35 6 Link.cell Ya:=by
 refine⟨by kernel_rfl,fun h hz=> ?_⟩
 obtain⟨hl,hf⟩:=Rz.fields Tryz.underlying35 (n:=6) (by kernel_rfl) h hz
 obtain⟨a0,s0,c0⟩:=Rz.field (off:=0) DY (hf 0 _ rfl)
 obtain⟨a1,s1,c1⟩:=Rz.field (off:=1) DY (hf 1 _ rfl)
 obtain⟨a2,s2,c2⟩:=Rz.field (off:=2) aar (hf 2 _ rfl)
 obtain⟨a3,s3,c3⟩:=Rz.field (off:=3) DY (hf 3 _ rfl)
 obtain⟨a4,s4,c4⟩:=Rz.field (off:=4) DY (hf 4 _ rfl)
 obtain⟨a5,s5,c5⟩:=Rz.field (off:=5) aap (hf 5 _ rfl)
 exact⟨⟨a0,a1,a2,a3,a4,a5⟩,⟨s0,s1,s2,s3,s4,s5⟩,hl,fun j hj=>match j,hj with|0,_=>c0 0 (by decide)|1,_=>c1 0 (by decide)|2,_=>c2 0 (by decide)|3,_=>c3 0 (by decide)|4,_=>c4 0 (by decide)|5,_=>c5 0 (by decide)⟩
def Yi (l:List Link):Prop:=l.length≤9223372036854775807∧(∀x∈l,Ya x)∧l.length*64≤140737488351232
theorem ZV:Rz Tryz.prog 23 1 (Az 6 Link.cell) Yi:=Rz.slice Tryz.underlying23 (by kernel_rfl) (by decide) (b:=64) (by kernel_rfl) aay
def Vt (x:ay):Prop:=(fun n:Int=> -9223372036854775808≤n∧n≤9223372036854775807) x.e0∧(fun n:Int=> -9223372036854775808≤n∧n≤9223372036854775807) x.e1
theorem Y6:Rz Tryz.prog 145 2 ay.cell Vt:=by
 refine⟨by kernel_rfl,fun h hz=> ?_⟩
 obtain⟨hl,hf⟩:=Rz.elems Tryz.underlying145 (n:=2) (by kernel_rfl) h hz
 obtain⟨a0,s0,c0⟩:=Rz.field (off:=0) DY (hf 0 (by decide))
 obtain⟨a1,s1,c1⟩:=Rz.field (off:=1) DY (hf 1 (by decide))
 exact⟨⟨a0,a1⟩,⟨s0,s1⟩,hl,fun j hj=>match j,hj with|0,_=>c0 0 (by decide)|1,_=>c1 0 (by decide)⟩
def Vk (x:aN):Prop:=Vt x.feeds∧(fun n:Int=> -9223372036854775808≤n∧n≤9223372036854775807) x.power∧(fun n:Int=> -9223372036854775808≤n∧n≤9223372036854775807) x.paths
theorem XL:Rz Tryz.prog 147 4 aN.cell Vk:=by
 refine⟨by kernel_rfl,fun h hz=> ?_⟩
 obtain⟨hl,hf⟩:=Rz.fields Tryz.underlying147 (n:=4) (by kernel_rfl) h hz
 obtain⟨a0,s0,c0⟩:=Rz.field (off:=0) Y6 (hf 0 _ rfl)
 obtain⟨a1,s1,c1⟩:=Rz.field (off:=2) DY (hf 1 _ rfl)
 obtain⟨a2,s2,c2⟩:=Rz.field (off:=3) DY (hf 2 _ rfl)
 exact⟨⟨a0,a1,a2⟩,⟨s0,s1,s2⟩,hl,fun j hj=>match j,hj with|0,_=>c0 0 (by decide)|1,_=>c0 1 (by decide)|2,_=>c1 0 (by decide)|3,_=>c2 0 (by decide)⟩
def Zk (l:List aN):Prop:=l.length≤9223372036854775807∧(∀x∈l,Vk x)∧l.length*32≤140737488351232
theorem aaJ:Rz Tryz.prog 24 1 (Az 4 aN.cell) Zk:=Rz.slice Tryz.underlying24 (by kernel_rfl) (by decide) (b:=32) (by kernel_rfl) XL
def YB (x:aD):Prop:=(fun n:Int=> -9223372036854775808≤n∧n≤9223372036854775807) x.buses∧Zi x.sources∧Yi x.links∧Zk x.racks
theorem aav:Rz Tryz.prog 26 4 aD.cell YB:=by
 refine⟨by kernel_rfl,fun h hz=> ?_⟩
 obtain⟨hl,hf⟩:=Rz.fields Tryz.underlying26 (n:=4) (by kernel_rfl) h hz
 obtain⟨a0,s0,c0⟩:=Rz.field (off:=0) DY (hf 0 _ rfl)
 obtain⟨a1,s1,c1⟩:=Rz.field (off:=1) aat (hf 1 _ rfl)
 obtain⟨a2,s2,c2⟩:=Rz.field (off:=2) ZV (hf 2 _ rfl)
 obtain⟨a3,s3,c3⟩:=Rz.field (off:=3) aaJ (hf 3 _ rfl)
 exact⟨⟨a0,a1,a2,a3⟩,⟨s0,s1,s2,s3⟩,hl,fun j hj=>match j,hj with|0,_=>c0 0 (by decide)|1,_=>c1 0 (by decide)|2,_=>c2 0 (by decide)|3,_=>c3 0 (by decide)⟩
theorem rd4:Rz Tryz.prog 4 1 ai (fun _:Bool=>True):=(Rd.bool Tryz.underlying4 (by kernel_rfl)).z
def Lf (l:List Bool):Prop:=l.length≤9223372036854775807∧(∀x∈l,(fun _:Bool=>True) x)∧l.length*1≤140737488351232
theorem MI:Rz Tryz.prog 27 1 (Az 1 ai) Lf:=Rz.slice Tryz.underlying27 (by kernel_rfl) (by decide) (b:=1) (by kernel_rfl) rd4
def Yf (x:State):Prop:=Lf x.closed∧Lf x.locked∧Lf x.badLink∧Lf x.on_∧Lf x.badSource∧Lf x.earthed∧Lf x.badBus
theorem aao:Rz Tryz.prog 29 7 State.cell Yf:=by
 refine⟨by kernel_rfl,fun h hz=> ?_⟩
 obtain⟨hl,hf⟩:=Rz.fields Tryz.underlying29 (n:=7) (by kernel_rfl) h hz
 obtain⟨a0,s0,c0⟩:=Rz.field (off:=0) MI (hf 0 _ rfl)
 obtain⟨a1,s1,c1⟩:=Rz.field (off:=1) MI (hf 1 _ rfl)
 obtain⟨a2,s2,c2⟩:=Rz.field (off:=2) MI (hf 2 _ rfl)
 obtain⟨a3,s3,c3⟩:=Rz.field (off:=3) MI (hf 3 _ rfl)
 obtain⟨a4,s4,c4⟩:=Rz.field (off:=4) MI (hf 4 _ rfl)
 obtain⟨a5,s5,c5⟩:=Rz.field (off:=5) MI (hf 5 _ rfl)
 obtain⟨a6,s6,c6⟩:=Rz.field (off:=6) MI (hf 6 _ rfl)
 exact⟨⟨a0,a1,a2,a3,a4,a5,a6⟩,⟨s0,s1,s2,s3,s4,s5,s6⟩,hl,fun j hj=>match j,hj with|0,_=>c0 0 (by decide)|1,_=>c1 0 (by decide)|2,_=>c2 0 (by decide)|3,_=>c3 0 (by decide)|4,_=>c4 0 (by decide)|5,_=>c5 0 (by decide)|6,_=>c6 0 (by decide)⟩
def Vl (x:Transfer):Prop:=(fun n:Int=> -9223372036854775808≤n∧n≤9223372036854775807) x.watch∧(fun n:Int=> -9223372036854775808≤n∧n≤9223372036854775807) x.open_∧(fun n:Int=> -9223372036854775808≤n∧n≤9223372036854775807) x.close
theorem Yz:Rz Tryz.prog 191 3 Transfer.cell Vl:=by
 refine⟨by kernel_rfl,fun h hz=> ?_⟩
 obtain⟨hl,hf⟩:=Rz.fields Tryz.underlying191 (n:=3) (by kernel_rfl) h hz
 obtain⟨a0,s0,c0⟩:=Rz.field (off:=0) DY (hf 0 _ rfl)
 obtain⟨a1,s1,c1⟩:=Rz.field (off:=1) DY (hf 1 _ rfl)
 obtain⟨a2,s2,c2⟩:=Rz.field (off:=2) DY (hf 2 _ rfl)
 exact⟨⟨a0,a1,a2⟩,⟨s0,s1,s2⟩,hl,fun j hj=>match j,hj with|0,_=>c0 0 (by decide)|1,_=>c1 0 (by decide)|2,_=>c2 0 (by decide)⟩
def Y2 (l:List Transfer):Prop:=l.length≤9223372036854775807∧(∀x∈l,Vl x)∧l.length*24≤140737488351232
theorem aam:Rz Tryz.prog 62 1 (Az 3 Transfer.cell) Y2:=Rz.slice Tryz.underlying62 (by kernel_rfl) (by decide) (b:=24) (by kernel_rfl) Yz
theorem aaq:Rz Tryz.prog 76 1 (aF .i64) (fun n:Int=> -9223372036854775808≤n∧n≤9223372036854775807):=(Rd.int Tryz.underlying76 (by kernel_rfl)).z
def YF (x:Part):Prop:=(fun n:Int=> -9223372036854775808≤n∧n≤9223372036854775807) x.kind∧(fun n:Int=> -9223372036854775808≤n∧n≤9223372036854775807) x.index
theorem aax:Rz Tryz.prog 78 2 Part.cell YF:=by
 refine⟨by kernel_rfl,fun h hz=> ?_⟩
 obtain⟨hl,hf⟩:=Rz.fields Tryz.underlying78 (n:=2) (by kernel_rfl) h hz
 obtain⟨a0,s0,c0⟩:=Rz.field (off:=0) aaq (hf 0 _ rfl)
 obtain⟨a1,s1,c1⟩:=Rz.field (off:=1) DY (hf 1 _ rfl)
 exact⟨⟨a0,a1⟩,⟨s0,s1⟩,hl,fun j hj=>match j,hj with|0,_=>c0 0 (by decide)|1,_=>c1 0 (by decide)⟩
def Yj (l:List Part):Prop:=l.length≤9223372036854775807∧(∀x∈l,YF x)∧l.length*16≤140737488351232
theorem aaD:Rz Tryz.prog 79 1 (Az 2 Part.cell) Yj:=Rz.slice Tryz.underlying79 (by kernel_rfl) (by decide) (b:=16) (by kernel_rfl) aax
def XF (l:List Int):Prop:=l.length≤9223372036854775807∧(∀x∈l,(fun n:Int=> -9223372036854775808≤n∧n≤9223372036854775807) x)∧l.length*8≤140737488351232
theorem Ym:Rz Tryz.prog 39 1 (Az 1 (aF .i64)) XF:=Rz.slice Tryz.underlying39 (by kernel_rfl) (by decide) (b:=8) (by kernel_rfl) DY
def Xv (x:eP):Prop:=Yj x.parts∧(fun n:Int=> -9223372036854775808≤n∧n≤9223372036854775807) x.hours∧(fun n:Int=> -9223372036854775808≤n∧n≤9223372036854775807) x.from_∧(fun n:Int=> -9223372036854775808≤n∧n≤9223372036854775807) x.to_∧(fun n:Int=> -9223372036854775808≤n∧n≤9223372036854775807) x.people∧XF x.after
theorem Z7:Rz Tryz.prog 81 6 eP.cell Xv:=by
 refine⟨by kernel_rfl,fun h hz=> ?_⟩
 obtain⟨hl,hf⟩:=Rz.fields Tryz.underlying81 (n:=6) (by kernel_rfl) h hz
 obtain⟨a0,s0,c0⟩:=Rz.field (off:=0) aaD (hf 0 _ rfl)
 obtain⟨a1,s1,c1⟩:=Rz.field (off:=1) DY (hf 1 _ rfl)
 obtain⟨a2,s2,c2⟩:=Rz.field (off:=2) DY (hf 2 _ rfl)
 obtain⟨a3,s3,c3⟩:=Rz.field (off:=3) DY (hf 3 _ rfl)
 obtain⟨a4,s4,c4⟩:=Rz.field (off:=4) DY (hf 4 _ rfl)
 obtain⟨a5,s5,c5⟩:=Rz.field (off:=5) Ym (hf 5 _ rfl)
 exact⟨⟨a0,a1,a2,a3,a4,a5⟩,⟨s0,s1,s2,s3,s4,s5⟩,hl,fun j hj=>match j,hj with|0,_=>c0 0 (by decide)|1,_=>c1 0 (by decide)|2,_=>c2 0 (by decide)|3,_=>c3 0 (by decide)|4,_=>c4 0 (by decide)|5,_=>c5 0 (by decide)⟩
def Zo (l:List eP):Prop:=l.length≤9223372036854775807∧(∀x∈l,Xv x)∧l.length*80≤140737488351232
theorem aau:Rz Tryz.prog 63 1 (Az 6 eP.cell) Zo:=Rz.slice Tryz.underlying63 (by kernel_rfl) (by decide) (b:=80) (by kernel_rfl) Z7
def aaG (x:xH):Prop:=YB x.plant∧Yf x.state∧Y2 x.transfers∧Zo x.jobs∧(fun n:Int=> -9223372036854775808≤n∧n≤9223372036854775807) x.people∧(fun _:Bool=>True) x.redundant
theorem ZU:Rz Tryz.prog 65 15 xH.cell aaG:=by
 refine⟨by kernel_rfl,fun h hz=> ?_⟩
 obtain⟨hl,hf⟩:=Rz.fields Tryz.underlying65 (n:=15) (by kernel_rfl) h hz
 obtain⟨a0,s0,c0⟩:=Rz.field (off:=0) aav (hf 0 _ rfl)
 obtain⟨a1,s1,c1⟩:=Rz.field (off:=4) aao (hf 1 _ rfl)
 obtain⟨a2,s2,c2⟩:=Rz.field (off:=11) aam (hf 2 _ rfl)
 obtain⟨a3,s3,c3⟩:=Rz.field (off:=12) aau (hf 3 _ rfl)
 obtain⟨a4,s4,c4⟩:=Rz.field (off:=13) DY (hf 4 _ rfl)
 obtain⟨a5,s5,c5⟩:=Rz.field (off:=14) rd4 (hf 5 _ rfl)
 exact⟨⟨a0,a1,a2,a3,a4,a5⟩,⟨s0,s1,s2,s3,s4,s5⟩,hl,fun j hj=>match j,hj with|0,_=>c0 0 (by decide)|1,_=>c0 1 (by decide)|2,_=>c0 2 (by decide)|3,_=>c0 3 (by decide)|4,_=>c1 0 (by decide)|5,_=>c1 1 (by decide)|6,_=>c1 2 (by decide)|7,_=>c1 3 (by decide)|8,_=>c1 4 (by decide)|9,_=>c1 5 (by decide)|10,_=>c1 6 (by decide)|11,_=>c2 0 (by decide)|12,_=>c3 0 (by decide)|13,_=>c4 0 (by decide)|14,_=>c5 0 (by decide)⟩
end Sg
namespace Go.Proofs.YtbjhjmcpfmhgdaaGreat
open Sg Go.ChangeShapes Go.WideShapes Go.ChangeAt Go.RowKit
theorem Tryz.own:ownKnob Tryz.prog.godebug=none:=by kernel_rfl
theorem Tryz.laidOut:laidOutB Tryz.prog=true:=by kernel_rfl
set_option maxRecDepth 100000 in
theorem AX (H:Type) (enc:TypeId × Value→H) (W:World) (base:Nat) (args:Array Value) (ds gs:List (DataW H)) (before:List MemPlace)
  (hval: ∀(j:Nat) t v,Tryz.f5.params[j]? =some t→args[j]? =some v→Value.okWide Tryz.prog W .any base t v)
  (hW:DataW.Whole enc Tryz.prog Tryz.f5.params.toList Rows.workKeepsSpec.vars false W args.toList ds gs before)
  (hsz:(DataW.weightsEach Tryz.prog (Tryz.f5.params.toList++Rows.workKeepsSpec.plain.varTypes Tryz.prog) (ds++gs)).all (· ≤reachBytes)=true):
  Calls Tryz.prog 5 args W fun e W'=> ∃v,e= .returned v∧Rows.workKeepsSpec.post enc Tryz.prog Tryz.f5 false true false false W args v W':=by
 have hW':=hW
 obtain⟨p,q,hA0,hV,rfl,hfz,hnd⟩:=hW
 have hA:DataW.TrodAll enc Tryz.prog W 0 (fun _=>true) true Tryz.f5.params.toList args.toList ds p:=hA0
 rw [Tryz.params5]at hA hval
 obtain⟨v0,l0,d0,e0,p0,q0,hv0,hd0,hp0,h0,r0⟩:=trodAll_cons hA
 obtain⟨v1,l1,d1,e1,p1,q1,hv1,hd1,hp1,h1,r1⟩:=trodAll_cons r0
 obtain⟨hvz,hdz,hpz⟩:=trodAll_nil r1
 have hgs:=(trodVars_none hV).1
 have hargs:args= #[v0,v1]:=by
  have:args.toList=[v0,v1]:=by rw [hv0,hv1,hvz]
  cases args;simp at this;rw [this]
 have hds:ds=[d0,d1]:=by rw [hd0,hd1,hdz]
 subst hargs
 have hsz1:(DataW.weightsEach Tryz.prog [65,39] [d0,d1]).all (fun x=>decide (x≤reachBytes))=true:=by rw [hds,hgs,Tryz.params5]at hsz;exact hsz
 obtain⟨a0,s0,c0⟩:=Rz.agg ZU Tryz.underlying65 (hval 0 65 v0 rfl rfl) h0 (fun q hq=>of_decide_eq_true (List.all_eq_true.1 hsz1 q (DataW.weights_mem_each (j:=0) rfl rfl q hq)))
 obtain⟨a1,s1,c1⟩:=Rz.one Ym (Ol Tryz.underlying39 (hval 1 39 v1 rfl rfl)) h1 (fun q hq=>of_decide_eq_true (List.all_eq_true.1 hsz1 q (DataW.weights_mem_each (j:=1) rfl rfl q hq)))
 have hm:lu a0 a1=some true:=ET a0 a1 ⟨s0.1.2.1.1,s0.1.2.2.1.1,s0.1.2.2.2.1,fun x hx=>(s0.1.2.2.1.2.1 x hx).2.2.2.2.2.1⟩ (fun x hx=>by have:=(s0.1.2.2.1.2.1 x hx).2.2.2.2.2.2.2;omega) ⟨by have:=s0.2.1.1.2.2;omega,by have:=s0.2.1.2.1.2.2;omega,by have:=s0.2.1.2.2.1.2.2;omega,by have:=s0.2.1.2.2.2.1.2.2;omega,by have:=s0.2.1.2.2.2.2.1.2.2;omega,by have:=s0.2.1.2.2.2.2.2.1.2.2;omega,by have:=s0.2.1.2.2.2.2.2.2.2.2;omega⟩ (fun x hx=>by have h:=s0.2.2.2.1.2.1 x hx;have h1:=h.1.2.2;have h2:=h.2.2.2.2.2.2.2;exact⟨by omega,by omega⟩)
 refine(OP (vs:=[v0,v1]) (yx a0 a1 hm) ⟨c0,c1,trivial⟩ (fun _ h=>by cases h)).mono fun e W' ⟨he,hb⟩=> ⟨_,he, ?_⟩
 refine Rs (t4:=4) rfl hW' ?_ ?_ ?_ rfl Tryz.underlying4 Tryz.laidOut ?_ hb
 ·rw [hds,hgs];rfl
 ·rw [hds,hgs];rfl
 ·rw [hds,hgs];rfl
 ·intro t ht
  rw [Tryz.params5]at ht
  simp at ht
  rcases ht with rfl|rfl<;>exact⟨by kernel_rfl,of_decide_eq_true (by kernel_rfl)⟩
set_option maxRecDepth 100000 in
theorem C9 (os:Os) (started:os.Started) (H:Type) (enc:TypeId × Value→H):
  ReturnsInHanded {} Tryz.checked os 5 .any (Rows.workKeepsSpec.pre6 enc Tryz.prog Tryz.f5 Rows.workKeepsRow.domain false) (Rows.workKeepsSpec.post enc Tryz.prog Tryz.f5 false true false false):=by
 refine returnsInHanded_of_change_sized (C:=Tryz.checked) Tryz.own started (by kernel_rfl) Tryz.func5
  (ChangeSpec.witness6 (enc:=enc) (C:=Tryz.checked) false ⟨#[], #[.agg #[.int .i64 0, .slice none 0 0, .slice none 0 0, .slice none 0 0, .slice none 0 0, .slice none 0 0, .slice none 0 0, .slice none 0 0, .slice none 0 0, .slice none 0 0, .slice none 0 0, .slice none 0 0, .slice none 0 0, .int .i64 0, .bool false], .slice none 0 0],[]⟩ 16 (by kernel_rfl) (by kernel_rfl) (by kernel_rfl) (by kernel_rfl)) ?_
 intro W base args ds gs before hval hW _ hsz _
 exact AX H enc W base args ds gs before hval hW hsz
set_option maxRecDepth 100000
theorem IA:(Rows.workKeepsRow.inPlace==Tryz.prog.inPlace 5)=true:=by kernel_rfl
theorem Je:(Rows.workKeepsRow.unfollowed==Tryz.prog.unfollowed 5)=true:=by kernel_rfl
theorem JG:(Rows.workKeepsRow.recurses==Tryz.prog.recurses 5)=true:=by kernel_rfl
theorem Jf:(Rows.workKeepsRow.named==Tryz.prog.varsNamed 5)=true:=by kernel_rfl
theorem D5:joinedFacts Tryz.prog 5 Tryz.f5 Rows.workKeepsSpec Rows.workKeepsRow=true:=by
 unfold joinedFacts
 rw [IA,Je,JG,Jf]
 kernel_rfl
theorem workKeeps_holds:Rows.WorkKeepsSaid:=
 OpenClaim.holds_of_wide 5 Tryz.f5 rfl rfl rfl rfl rfl rfl rfl ⟨rfl,rfl,rfl,rfl,rfl⟩ rfl rfl rfl rfl rfl (by kernel_rfl) Tryz.func5 D5
  (of_decide_eq_true (by kernel_rfl)) (by unfold Func.isWrapper;first|(rw [if_pos (by decide+kernel)];kernel_rfl)|(rw [if_neg (by decide+kernel)];exact⟨rfl,rfl⟩))
  (fun os started H enc _=>C9 os started H enc)
end Go.Proofs.YtbjhjmcpfmhgdaaGreat
