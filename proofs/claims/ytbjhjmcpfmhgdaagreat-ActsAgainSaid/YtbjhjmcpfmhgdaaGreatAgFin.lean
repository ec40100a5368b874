/- ActsAgain: for every plant, state, task, procedure and log of changes, the law that replaying a log gives the run again, with its causes, returns true (no conditions). -/
import Derived.Test.YtbjhjmcpfmhgdaaGreatRows
import Derived.ProofKit
import Derived.Test.YtbjhjmcpfmhgdaaGreatAgLc
import Derived.Test.YtbjhjmcpfmhgdaaGreatAgLg
import Derived.Test.YtbjhjmcpfmhgdaaGreatAgW3
set_option linter.all false
namespace Sg
open Go Go.Proofs Go.Proofs.YtbjhjmcpfmhgdaaGreat Go.ChangeShapes Go.WideShapes Go.RowKit
set_option maxRecDepth 20000
theorem FY:Rd Tryz.prog 3 1 (aS .i64) (fun n:Int=> -9223372036854775808≤n∧n≤9223372036854775807):=Rd.int Tryz.underlying3 (by kernel_rfl)
theorem Zg:Rd Tryz.prog 36 1 (aS .i64) (fun n:Int=> -9223372036854775808≤n∧n≤9223372036854775807):=Rd.int Tryz.underlying36 (by kernel_rfl)
def Xk (x:Source):Prop:=(fun n:Int=> -9223372036854775808≤n∧n≤9223372036854775807) x.bus∧(fun n:Int=> -9223372036854775808≤n∧n≤9223372036854775807) x.kind∧(fun n:Int=> -9223372036854775808≤n∧n≤9223372036854775807) x.power∧(fun n:Int=> -9223372036854775808≤n∧n≤9223372036854775807) x.sync∧(fun n:Int=> -9223372036854775808≤n∧n≤9223372036854775807) x.ohm
theorem Zk:Rd Tryz.prog 38 5 Source.cell Xk:=by
 refine⟨by kernel_rfl,fun h=> ?_⟩
 obtain⟨hl,hf⟩:=Rd.fields Tryz.underlying38 (n:=5) (by kernel_rfl) h
 obtain⟨a0,s0,c0⟩:=Rd.field (off:=0) FY (hf 0 _ rfl)
 obtain⟨a1,s1,c1⟩:=Rd.field (off:=1) Zg (hf 1 _ rfl)
 obtain⟨a2,s2,c2⟩:=Rd.field (off:=2) FY (hf 2 _ rfl)
 obtain⟨a3,s3,c3⟩:=Rd.field (off:=3) FY (hf 3 _ rfl)
 obtain⟨a4,s4,c4⟩:=Rd.field (off:=4) FY (hf 4 _ rfl)
 exact⟨⟨a0,a1,a2,a3,a4⟩,⟨s0,s1,s2,s3,s4⟩,hl,fun j hj=>match j,hj with|0,_=>c0 0 (by decide)|1,_=>c1 0 (by decide)|2,_=>c2 0 (by decide)|3,_=>c3 0 (by decide)|4,_=>c4 0 (by decide)⟩
def Xl (l:List Source):Prop:=l.length≤9223372036854775807∧ ∀x∈l,Xk x
theorem YX:Rd Tryz.prog 22 1 (Rw 5 Source.cell) Xl:=Rd.slice Tryz.underlying22 (by kernel_rfl) (by decide) Zk
theorem YN:Rd Tryz.prog 32 1 (aS .i64) (fun n:Int=> -9223372036854775808≤n∧n≤9223372036854775807):=Rd.int Tryz.underlying32 (by kernel_rfl)
def Ua (x:dO):Prop:=(fun n:Int=> -9223372036854775808≤n∧n≤9223372036854775807) x.amps∧(fun n:Int=> -9223372036854775808≤n∧n≤9223372036854775807) x.millis
theorem XP:Rd Tryz.prog 282 2 dO.cell Ua:=by
 refine⟨by kernel_rfl,fun h=> ?_⟩
 obtain⟨hl,hf⟩:=Rd.fields Tryz.underlying282 (n:=2) (by kernel_rfl) h
 obtain⟨a0,s0,c0⟩:=Rd.field (off:=0) FY (hf 0 _ rfl)
 obtain⟨a1,s1,c1⟩:=Rd.field (off:=1) FY (hf 1 _ rfl)
 exact⟨⟨a0,a1⟩,⟨s0,s1⟩,hl,fun j hj=>match j,hj with|0,_=>c0 0 (by decide)|1,_=>c1 0 (by decide)⟩
def Xw (l:List dO):Prop:=l.length≤9223372036854775807∧ ∀x∈l,Ua x
theorem YP:Rd Tryz.prog 33 1 (Rw 2 dO.cell) Xw:=Rd.slice Tryz.underlying33 (by kernel_rfl) (by decide) XP
def Ws (x:Link):Prop:=(fun n:Int=> -9223372036854775808≤n∧n≤9223372036854775807) x.a∧(fun n:Int=> -9223372036854775808≤n∧n≤9223372036854775807) x.b∧(fun n:Int=> -9223372036854775808≤n∧n≤9223372036854775807) x.kind∧(fun n:Int=> -9223372036854775808≤n∧n≤9223372036854775807) x.most∧(fun n:Int=> -9223372036854775808≤n∧n≤9223372036854775807) x.ohm∧Xw x.trip
theorem ZB:Rd Tryz.prog 35 6 Link.cell Ws:=by
 refine⟨by kernel_rfl,fun h=> ?_⟩
 obtain⟨hl,hf⟩:=Rd.fields Tryz.underlying35 (n:=6) (by kernel_rfl) h
 obtain⟨a0,s0,c0⟩:=Rd.field (off:=0) FY (hf 0 _ rfl)
 obtain⟨a1,s1,c1⟩:=Rd.field (off:=1) FY (hf 1 _ rfl)
 obtain⟨a2,s2,c2⟩:=Rd.field (off:=2) YN (hf 2 _ rfl)
 obtain⟨a3,s3,c3⟩:=Rd.field (off:=3) FY (hf 3 _ rfl)
 obtain⟨a4,s4,c4⟩:=Rd.field (off:=4) FY (hf 4 _ rfl)
 obtain⟨a5,s5,c5⟩:=Rd.field (off:=5) YP (hf 5 _ rfl)
 exact⟨⟨a0,a1,a2,a3,a4,a5⟩,⟨s0,s1,s2,s3,s4,s5⟩,hl,fun j hj=>match j,hj with|0,_=>c0 0 (by decide)|1,_=>c1 0 (by decide)|2,_=>c2 0 (by decide)|3,_=>c3 0 (by decide)|4,_=>c4 0 (by decide)|5,_=>c5 0 (by decide)⟩
def XA (l:List Link):Prop:=l.length≤9223372036854775807∧ ∀x∈l,Ws x
theorem Y7:Rd Tryz.prog 23 1 (Rw 6 Link.cell) XA:=Rd.slice Tryz.underlying23 (by kernel_rfl) (by decide) ZB
def Uh (x:aN):Prop:=(fun n:Int=> -9223372036854775808≤n∧n≤9223372036854775807) x.e0∧(fun n:Int=> -9223372036854775808≤n∧n≤9223372036854775807) x.e1
theorem XT:Rd Tryz.prog 145 2 aN.cell Uh:=by
 refine⟨by kernel_rfl,fun h=> ?_⟩
 obtain⟨hl,hf⟩:=Rd.elems Tryz.underlying145 (n:=2) (by kernel_rfl) h
 obtain⟨a0,s0,c0⟩:=Rd.field (off:=0) FY (hf 0 (by decide))
 obtain⟨a1,s1,c1⟩:=Rd.field (off:=1) FY (hf 1 (by decide))
 exact⟨⟨a0,a1⟩,⟨s0,s1⟩,hl,fun j hj=>match j,hj with|0,_=>c0 0 (by decide)|1,_=>c1 0 (by decide)⟩
def Uf (x:aL):Prop:=Uh x.feeds∧(fun n:Int=> -9223372036854775808≤n∧n≤9223372036854775807) x.power∧(fun n:Int=> -9223372036854775808≤n∧n≤9223372036854775807) x.paths
theorem Yc:Rd Tryz.prog 147 4 aL.cell Uf:=by
 refine⟨by kernel_rfl,fun h=> ?_⟩
 obtain⟨hl,hf⟩:=Rd.fields Tryz.underlying147 (n:=4) (by kernel_rfl) h
 obtain⟨a0,s0,c0⟩:=Rd.field (off:=0) XT (hf 0 _ rfl)
 obtain⟨a1,s1,c1⟩:=Rd.field (off:=2) FY (hf 1 _ rfl)
 obtain⟨a2,s2,c2⟩:=Rd.field (off:=3) FY (hf 2 _ rfl)
 exact⟨⟨a0,a1,a2⟩,⟨s0,s1,s2⟩,hl,fun j hj=>match j,hj with|0,_=>c0 0 (by decide)|1,_=>c0 1 (by decide)|2,_=>c1 0 (by decide)|3,_=>c2 0 (by decide)⟩
def XV (l:List aL):Prop:=l.length≤9223372036854775807∧ ∀x∈l,Uf x
theorem YL:Rd Tryz.prog 24 1 (Rw 4 aL.cell) XV:=Rd.slice Tryz.underlying24 (by kernel_rfl) (by decide) Yc
def YK (x:ay):Prop:=(fun n:Int=> -9223372036854775808≤n∧n≤9223372036854775807) x.buses∧Xl x.sources∧XA x.links∧XV x.racks
theorem Y4:Rd Tryz.prog 26 4 ay.cell YK:=by
 refine⟨by kernel_rfl,fun h=> ?_⟩
 obtain⟨hl,hf⟩:=Rd.fields Tryz.underlying26 (n:=4) (by kernel_rfl) h
 obtain⟨a0,s0,c0⟩:=Rd.field (off:=0) FY (hf 0 _ rfl)
 obtain⟨a1,s1,c1⟩:=Rd.field (off:=1) YX (hf 1 _ rfl)
 obtain⟨a2,s2,c2⟩:=Rd.field (off:=2) Y7 (hf 2 _ rfl)
 obtain⟨a3,s3,c3⟩:=Rd.field (off:=3) YL (hf 3 _ rfl)
 exact⟨⟨a0,a1,a2,a3⟩,⟨s0,s1,s2,s3⟩,hl,fun j hj=>match j,hj with|0,_=>c0 0 (by decide)|1,_=>c1 0 (by decide)|2,_=>c2 0 (by decide)|3,_=>c3 0 (by decide)⟩
theorem ZT:Rd Tryz.prog 4 1 af (fun _:Bool=>True):=Rd.bool Tryz.underlying4 (by kernel_rfl)
def KG (l:List Bool):Prop:=l.length≤9223372036854775807∧ ∀x∈l,(fun _:Bool=>True) x
theorem Lv:Rd Tryz.prog 27 1 (Rw 1 af) KG:=Rd.slice Tryz.underlying27 (by kernel_rfl) (by decide) ZT
def Zm (x:State):Prop:=KG x.closed∧KG x.locked∧KG x.badLink∧KG x.on_∧KG x.badSource∧KG x.earthed∧KG x.badBus
theorem Zr:Rd Tryz.prog 29 7 State.cell Zm:=by
 refine⟨by kernel_rfl,fun h=> ?_⟩
 obtain⟨hl,hf⟩:=Rd.fields Tryz.underlying29 (n:=7) (by kernel_rfl) h
 obtain⟨a0,s0,c0⟩:=Rd.field (off:=0) Lv (hf 0 _ rfl)
 obtain⟨a1,s1,c1⟩:=Rd.field (off:=1) Lv (hf 1 _ rfl)
 obtain⟨a2,s2,c2⟩:=Rd.field (off:=2) Lv (hf 2 _ rfl)
 obtain⟨a3,s3,c3⟩:=Rd.field (off:=3) Lv (hf 3 _ rfl)
 obtain⟨a4,s4,c4⟩:=Rd.field (off:=4) Lv (hf 4 _ rfl)
 obtain⟨a5,s5,c5⟩:=Rd.field (off:=5) Lv (hf 5 _ rfl)
 obtain⟨a6,s6,c6⟩:=Rd.field (off:=6) Lv (hf 6 _ rfl)
 exact⟨⟨a0,a1,a2,a3,a4,a5,a6⟩,⟨s0,s1,s2,s3,s4,s5,s6⟩,hl,fun j hj=>match j,hj with|0,_=>c0 0 (by decide)|1,_=>c1 0 (by decide)|2,_=>c2 0 (by decide)|3,_=>c3 0 (by decide)|4,_=>c4 0 (by decide)|5,_=>c5 0 (by decide)|6,_=>c6 0 (by decide)⟩
def UC (l:List Int):Prop:=l.length≤9223372036854775807∧ ∀x∈l,(fun n:Int=> -9223372036854775808≤n∧n≤9223372036854775807) x
theorem XO:Rd Tryz.prog 39 1 (Rw 1 (aS .i64)) UC:=Rd.slice Tryz.underlying39 (by kernel_rfl) (by decide) FY
theorem YV:Rd Tryz.prog 43 1 (aS .i64) (fun n:Int=> -9223372036854775808≤n∧n≤9223372036854775807):=Rd.int Tryz.underlying43 (by kernel_rfl)
def SN (x:aj):Prop:=(fun n:Int=> -9223372036854775808≤n∧n≤9223372036854775807) x.deed∧(fun n:Int=> -9223372036854775808≤n∧n≤9223372036854775807) x.index
theorem Vw:Rd Tryz.prog 45 2 aj.cell SN:=by
 refine⟨by kernel_rfl,fun h=> ?_⟩
 obtain⟨hl,hf⟩:=Rd.fields Tryz.underlying45 (n:=2) (by kernel_rfl) h
 obtain⟨a0,s0,c0⟩:=Rd.field (off:=0) YV (hf 0 _ rfl)
 obtain⟨a1,s1,c1⟩:=Rd.field (off:=1) FY (hf 1 _ rfl)
 exact⟨⟨a0,a1⟩,⟨s0,s1⟩,hl,fun j hj=>match j,hj with|0,_=>c0 0 (by decide)|1,_=>c1 0 (by decide)⟩
def UX (l:List aj):Prop:=l.length≤9223372036854775807∧ ∀x∈l,SN x
theorem Wp:Rd Tryz.prog 40 1 (Rw 2 aj.cell) UX:=Rd.slice Tryz.underlying40 (by kernel_rfl) (by decide) Vw
def Zu (x:Task):Prop:=UC x.fed∧UC x.crew∧UX x.allowed∧UX x.goal
theorem Zt:Rd Tryz.prog 42 4 Task.cell Zu:=by
 refine⟨by kernel_rfl,fun h=> ?_⟩
 obtain⟨hl,hf⟩:=Rd.fields Tryz.underlying42 (n:=4) (by kernel_rfl) h
 obtain⟨a0,s0,c0⟩:=Rd.field (off:=0) XO (hf 0 _ rfl)
 obtain⟨a1,s1,c1⟩:=Rd.field (off:=1) XO (hf 1 _ rfl)
 obtain⟨a2,s2,c2⟩:=Rd.field (off:=2) Wp (hf 2 _ rfl)
 obtain⟨a3,s3,c3⟩:=Rd.field (off:=3) Wp (hf 3 _ rfl)
 exact⟨⟨a0,a1,a2,a3⟩,⟨s0,s1,s2,s3⟩,hl,fun j hj=>match j,hj with|0,_=>c0 0 (by decide)|1,_=>c1 0 (by decide)|2,_=>c2 0 (by decide)|3,_=>c3 0 (by decide)⟩
def TS (x:Item):Prop:=SN x.step∧(fun _:Bool=>True) x.ack
theorem XW:Rd Tryz.prog 108 3 Item.cell TS:=by
 refine⟨by kernel_rfl,fun h=> ?_⟩
 obtain⟨hl,hf⟩:=Rd.fields Tryz.underlying108 (n:=3) (by kernel_rfl) h
 obtain⟨a0,s0,c0⟩:=Rd.field (off:=0) Vw (hf 0 _ rfl)
 obtain⟨a1,s1,c1⟩:=Rd.field (off:=2) ZT (hf 1 _ rfl)
 exact⟨⟨a0,a1⟩,⟨s0,s1⟩,hl,fun j hj=>match j,hj with|0,_=>c0 0 (by decide)|1,_=>c0 1 (by decide)|2,_=>c1 0 (by decide)⟩
def Y1 (l:List Item):Prop:=l.length≤9223372036854775807∧ ∀x∈l,TS x
theorem Y8:Rd Tryz.prog 99 1 (Rw 3 Item.cell) Y1:=Rd.slice Tryz.underlying99 (by kernel_rfl) (by decide) XW
theorem Zw:Rd Tryz.prog 76 1 (aS .i64) (fun n:Int=> -9223372036854775808≤n∧n≤9223372036854775807):=Rd.int Tryz.underlying76 (by kernel_rfl)
def Yh (x:Part):Prop:=(fun n:Int=> -9223372036854775808≤n∧n≤9223372036854775807) x.kind∧(fun n:Int=> -9223372036854775808≤n∧n≤9223372036854775807) x.index
theorem Zi:Rd Tryz.prog 78 2 Part.cell Yh:=by
 refine⟨by kernel_rfl,fun h=> ?_⟩
 obtain⟨hl,hf⟩:=Rd.fields Tryz.underlying78 (n:=2) (by kernel_rfl) h
 obtain⟨a0,s0,c0⟩:=Rd.field (off:=0) Zw (hf 0 _ rfl)
 obtain⟨a1,s1,c1⟩:=Rd.field (off:=1) FY (hf 1 _ rfl)
 exact⟨⟨a0,a1⟩,⟨s0,s1⟩,hl,fun j hj=>match j,hj with|0,_=>c0 0 (by decide)|1,_=>c1 0 (by decide)⟩
def Ub (x:Event):Prop:=(fun n:Int=> -9223372036854775808≤n∧n≤9223372036854775807) x.kind∧SN x.step∧Yh x.part∧(fun n:Int=> -9223372036854775808≤n∧n≤9223372036854775807) x.who
theorem Wi:Rd Tryz.prog 119 6 Event.cell Ub:=by
 refine⟨by kernel_rfl,fun h=> ?_⟩
 obtain⟨hl,hf⟩:=Rd.fields Tryz.underlying119 (n:=6) (by kernel_rfl) h
 obtain⟨a0,s0,c0⟩:=Rd.field (off:=0) FY (hf 0 _ rfl)
 obtain⟨a1,s1,c1⟩:=Rd.field (off:=1) Vw (hf 1 _ rfl)
 obtain⟨a2,s2,c2⟩:=Rd.field (off:=3) Zi (hf 2 _ rfl)
 obtain⟨a3,s3,c3⟩:=Rd.field (off:=5) FY (hf 3 _ rfl)
 exact⟨⟨a0,a1,a2,a3⟩,⟨s0,s1,s2,s3⟩,hl,fun j hj=>match j,hj with|0,_=>c0 0 (by decide)|1,_=>c1 0 (by decide)|2,_=>c1 1 (by decide)|3,_=>c2 0 (by decide)|4,_=>c2 1 (by decide)|5,_=>c3 0 (by decide)⟩
def XC (l:List Event):Prop:=l.length≤9223372036854775807∧ ∀x∈l,Ub x
theorem Xi:Rd Tryz.prog 116 1 (Rw 6 Event.cell) XC:=Rd.slice Tryz.underlying116 (by kernel_rfl) (by decide) Wi
end Sg
namespace Go.Proofs.YtbjhjmcpfmhgdaaGreat
open Sg Go.ChangeShapes Go.WideShapes Go.ChangeAt Go.RowKit
theorem Tryz.own:ownKnob Tryz.prog.godebug=none:=by kernel_rfl
theorem Tryz.laidOut:laidOutB Tryz.prog=true:=by kernel_rfl
set_option maxRecDepth 100000 in
theorem zR (H:Type) (enc:TypeId × Value→H) (W:World) (base:Nat) (args:Array Value) (ds gs:List (DataW H)) (before:List MemPlace)
  (hval: ∀(j:Nat) t v,Tryz.f8.params[j]? =some t→args[j]? =some v→Value.okWide Tryz.prog W .any base t v)
  (hW:DataW.Whole enc Tryz.prog Tryz.f8.params.toList Rows.actsAgainSpec.vars false W args.toList ds gs before):
  Calls Tryz.prog 8 args W fun e W'=> ∃v,e= .returned v∧Rows.actsAgainSpec.post enc Tryz.prog Tryz.f8 false true false false W args v W':=by
 have hW':=hW
 obtain⟨p,q,hA0,hV,rfl,hfz,hnd⟩:=hW
 have hA:DataW.TrodAll enc Tryz.prog W 0 (fun _=>true) true Tryz.f8.params.toList args.toList ds p:=hA0
 rw [Tryz.params8]at hA hval
 obtain⟨v0,l0,d0,e0,p0,q0,hv0,hd0,hp0,h0,r0⟩:=trodAll_cons hA
 obtain⟨v1,l1,d1,e1,p1,q1,hv1,hd1,hp1,h1,r1⟩:=trodAll_cons r0
 obtain⟨v2,l2,d2,e2,p2,q2,hv2,hd2,hp2,h2,r2⟩:=trodAll_cons r1
 obtain⟨v3,l3,d3,e3,p3,q3,hv3,hd3,hp3,h3,r3⟩:=trodAll_cons r2
 obtain⟨v4,l4,d4,e4,p4,q4,hv4,hd4,hp4,h4,r4⟩:=trodAll_cons r3
 obtain⟨hvz,hdz,hpz⟩:=trodAll_nil r4
 have hgs:=(trodVars_none hV).1
 have hargs:args= #[v0,v1,v2,v3,v4]:=by
  have:args.toList=[v0,v1,v2,v3,v4]:=by rw [hv0,hv1,hv2,hv3,hv4,hvz]
  cases args;simp at this;rw [this]
 have hds:ds=[d0,d1,d2,d3,d4]:=by rw [hd0,hd1,hd2,hd3,hd4,hdz]
 subst hargs
 obtain⟨a0,s0,c0⟩:=Rd.agg Y4 Tryz.underlying26 (hval 0 26 v0 rfl rfl) h0
 obtain⟨a1,s1,c1⟩:=Rd.agg Zr Tryz.underlying29 (hval 1 29 v1 rfl rfl) h1
 obtain⟨a2,s2,c2⟩:=Rd.agg Zt Tryz.underlying42 (hval 2 42 v2 rfl rfl) h2
 obtain⟨a3,s3,c3⟩:=Rd.one Y8 (FQ Tryz.underlying99 (hval 3 99 v3 rfl rfl)) h3
 obtain⟨a4,s4,c4⟩:=Rd.one Xi (FQ Tryz.underlying116 (hval 4 116 v4 rfl rfl)) h4
 have hm:kS a0 a1 a2 a3 a4=some true:=Ep a1 a2 a3 a4 ⟨s0.2.1.1,s0.2.2.1.1,s0.2.2.2.1,fun x hx=>(s0.2.2.1.2 x hx).2.2.2.2.2.1⟩
 refine(NW (vs:=[v0,v1,v2,v3,v4]) (yF a0 a1 a2 a3 a4 hm) ⟨c0,c1,c2,c3,c4,trivial⟩ (fun _ h=>by cases h)).mono fun e W' ⟨he,hb⟩=> ⟨_,he, ?_⟩
 refine PS (t4:=4) rfl hW' ?_ ?_ ?_ rfl Tryz.underlying4 Tryz.laidOut ?_ hb
 ·rw [hds,hgs];rfl
 ·rw [hds,hgs];rfl
 ·rw [hds,hgs];rfl
 ·intro t ht
  rw [Tryz.params8]at ht
  simp at ht
  rcases ht with rfl|rfl|rfl|rfl|rfl<;>exact⟨by kernel_rfl,of_decide_eq_true (by kernel_rfl)⟩
set_option maxRecDepth 100000 in
theorem Cb (os:Os) (started:os.Started) (H:Type) (enc:TypeId × Value→H):
  ReturnsInHanded {} Tryz.checked os 8 .any (Rows.actsAgainSpec.pre6 enc Tryz.prog Tryz.f8 Rows.actsAgainRow.domain false) (Rows.actsAgainSpec.post enc Tryz.prog Tryz.f8 false true false false):=by
 refine returnsInHanded_of_change (C:=Tryz.checked) Tryz.own started (by kernel_rfl) Tryz.func8
  (ChangeSpec.witness6 (enc:=enc) (C:=Tryz.checked) false ⟨#[], #[.agg #[.int .i64 0, .slice none 0 0, .slice none 0 0, .slice none 0 0], .agg #[.slice none 0 0, .slice none 0 0, .slice none 0 0, .slice none 0 0, .slice none 0 0, .slice none 0 0, .slice none 0 0], .agg #[.slice none 0 0, .slice none 0 0, .slice none 0 0, .slice none 0 0], .slice none 0 0, .slice none 0 0],[]⟩ 16 (by kernel_rfl) (by kernel_rfl) (by kernel_rfl) (by kernel_rfl)) ?_
 intro W base args ds gs before hval hW _ _
 exact zR H enc W base args ds gs before hval hW
set_option maxRecDepth 100000
theorem Iz:(Rows.actsAgainRow.inPlace==Tryz.prog.inPlace 8)=true:=by kernel_rfl
theorem HV:(Rows.actsAgainRow.unfollowed==Tryz.prog.unfollowed 8)=true:=by kernel_rfl
theorem H9:(Rows.actsAgainRow.recurses==Tryz.prog.recurses 8)=true:=by kernel_rfl
theorem Ht:(Rows.actsAgainRow.named==Tryz.prog.varsNamed 8)=true:=by kernel_rfl
theorem C9:joinedFacts Tryz.prog 8 Tryz.f8 Rows.actsAgainSpec Rows.actsAgainRow=true:=by
 unfold joinedFacts
 rw [Iz,HV,H9,Ht]
 kernel_rfl
theorem actsAgain_holds:Rows.ActsAgainSaid:=
 OpenClaim.holds_of_wide 8 Tryz.f8 rfl rfl rfl rfl rfl rfl rfl ⟨rfl,rfl,rfl,rfl,rfl⟩ rfl rfl rfl rfl rfl (by kernel_rfl) Tryz.func8 C9
  (of_decide_eq_true (by kernel_rfl)) (by unfold Func.isWrapper;first|(rw [if_pos (by decide+kernel)];kernel_rfl)|(rw [if_neg (by decide+kernel)];exact⟨rfl,rfl⟩))
  (fun os started H enc _=>Cb os started H enc)
end Go.Proofs.YtbjhjmcpfmhgdaaGreat
