/- ActsBack: for every plant, state, task, procedure and number of items, the law that a run can go back to the state at its beginning, over legal states, returns true (no conditions). -/
import Derived.Test.YtbjhjmcpfmhgdaaGreatRows
import Derived.ProofKit
import Derived.Test.YtbjhjmcpfmhgdaaGreatAbLc
import Derived.Test.YtbjhjmcpfmhgdaaGreatAbLg
import Derived.Test.YtbjhjmcpfmhgdaaGreatAbW3
set_option linter.all false
namespace Sg
open Go Go.Proofs Go.Proofs.YtbjhjmcpfmhgdaaGreat Go.ChangeShapes Go.WideShapes Go.RowKit
set_option maxRecDepth 20000
theorem Km:Rd Tryz.prog 3 1 (aT .i64) (fun n:Int=> -9223372036854775808≤n∧n≤9223372036854775807):=Rd.int Tryz.underlying3 (by kernel_rfl)
theorem XV:Rd Tryz.prog 36 1 (aT .i64) (fun n:Int=> -9223372036854775808≤n∧n≤9223372036854775807):=Rd.int Tryz.underlying36 (by kernel_rfl)
def Wx (x:Source):Prop:=(fun n:Int=> -9223372036854775808≤n∧n≤9223372036854775807) x.bus∧(fun n:Int=> -9223372036854775808≤n∧n≤9223372036854775807) x.kind∧(fun n:Int=> -9223372036854775808≤n∧n≤9223372036854775807) x.power∧(fun n:Int=> -9223372036854775808≤n∧n≤9223372036854775807) x.sync∧(fun n:Int=> -9223372036854775808≤n∧n≤9223372036854775807) x.ohm
theorem X0:Rd Tryz.prog 38 5 Source.cell Wx:=by
 refine⟨by kernel_rfl,fun h=> ?_⟩
 obtain⟨hl,hf⟩:=Rd.fields Tryz.underlying38 (n:=5) (by kernel_rfl) h
 obtain⟨a0,s0,c0⟩:=Rd.field (off:=0) Km (hf 0 _ rfl)
 obtain⟨a1,s1,c1⟩:=Rd.field (off:=1) XV (hf 1 _ rfl)
 obtain⟨a2,s2,c2⟩:=Rd.field (off:=2) Km (hf 2 _ rfl)
 obtain⟨a3,s3,c3⟩:=Rd.field (off:=3) Km (hf 3 _ rfl)
 obtain⟨a4,s4,c4⟩:=Rd.field (off:=4) Km (hf 4 _ rfl)
 exact⟨⟨a0,a1,a2,a3,a4⟩,⟨s0,s1,s2,s3,s4⟩,hl,fun j hj=>match j,hj with|0,_=>c0 0 (by decide)|1,_=>c1 0 (by decide)|2,_=>c2 0 (by decide)|3,_=>c3 0 (by decide)|4,_=>c4 0 (by decide)⟩
def Vm (l:List Source):Prop:=l.length≤9223372036854775807∧ ∀x∈l,Wx x
theorem XT:Rd Tryz.prog 22 1 (QO 5 Source.cell) Vm:=Rd.slice Tryz.underlying22 (by kernel_rfl) (by decide) X0
theorem Xn:Rd Tryz.prog 32 1 (aT .i64) (fun n:Int=> -9223372036854775808≤n∧n≤9223372036854775807):=Rd.int Tryz.underlying32 (by kernel_rfl)
def SE (x:dJ):Prop:=(fun n:Int=> -9223372036854775808≤n∧n≤9223372036854775807) x.amps∧(fun n:Int=> -9223372036854775808≤n∧n≤9223372036854775807) x.millis
theorem WI:Rd Tryz.prog 282 2 dJ.cell SE:=by
 refine⟨by kernel_rfl,fun h=> ?_⟩
 obtain⟨hl,hf⟩:=Rd.fields Tryz.underlying282 (n:=2) (by kernel_rfl) h
 obtain⟨a0,s0,c0⟩:=Rd.field (off:=0) Km (hf 0 _ rfl)
 obtain⟨a1,s1,c1⟩:=Rd.field (off:=1) Km (hf 1 _ rfl)
 exact⟨⟨a0,a1⟩,⟨s0,s1⟩,hl,fun j hj=>match j,hj with|0,_=>c0 0 (by decide)|1,_=>c1 0 (by decide)⟩
def Vt (l:List dJ):Prop:=l.length≤9223372036854775807∧ ∀x∈l,SE x
theorem XZ:Rd Tryz.prog 33 1 (QO 2 dJ.cell) Vt:=Rd.slice Tryz.underlying33 (by kernel_rfl) (by decide) WI
def V7 (x:Link):Prop:=(fun n:Int=> -9223372036854775808≤n∧n≤9223372036854775807) x.a∧(fun n:Int=> -9223372036854775808≤n∧n≤9223372036854775807) x.b∧(fun n:Int=> -9223372036854775808≤n∧n≤9223372036854775807) x.kind∧(fun n:Int=> -9223372036854775808≤n∧n≤9223372036854775807) x.most∧(fun n:Int=> -9223372036854775808≤n∧n≤9223372036854775807) x.ohm∧Vt x.trip
theorem XG:Rd Tryz.prog 35 6 Link.cell V7:=by
 refine⟨by kernel_rfl,fun h=> ?_⟩
 obtain⟨hl,hf⟩:=Rd.fields Tryz.underlying35 (n:=6) (by kernel_rfl) h
 obtain⟨a0,s0,c0⟩:=Rd.field (off:=0) Km (hf 0 _ rfl)
 obtain⟨a1,s1,c1⟩:=Rd.field (off:=1) Km (hf 1 _ rfl)
 obtain⟨a2,s2,c2⟩:=Rd.field (off:=2) Xn (hf 2 _ rfl)
 obtain⟨a3,s3,c3⟩:=Rd.field (off:=3) Km (hf 3 _ rfl)
 obtain⟨a4,s4,c4⟩:=Rd.field (off:=4) Km (hf 4 _ rfl)
 obtain⟨a5,s5,c5⟩:=Rd.field (off:=5) XZ (hf 5 _ rfl)
 exact⟨⟨a0,a1,a2,a3,a4,a5⟩,⟨s0,s1,s2,s3,s4,s5⟩,hl,fun j hj=>match j,hj with|0,_=>c0 0 (by decide)|1,_=>c1 0 (by decide)|2,_=>c2 0 (by decide)|3,_=>c3 0 (by decide)|4,_=>c4 0 (by decide)|5,_=>c5 0 (by decide)⟩
def Vj (l:List Link):Prop:=l.length≤9223372036854775807∧ ∀x∈l,V7 x
theorem Xv:Rd Tryz.prog 23 1 (QO 6 Link.cell) Vj:=Rd.slice Tryz.underlying23 (by kernel_rfl) (by decide) XG
def Sq (x:aN):Prop:=(fun n:Int=> -9223372036854775808≤n∧n≤9223372036854775807) x.e0∧(fun n:Int=> -9223372036854775808≤n∧n≤9223372036854775807) x.e1
theorem Vd:Rd Tryz.prog 145 2 aN.cell Sq:=by
 refine⟨by kernel_rfl,fun h=> ?_⟩
 obtain⟨hl,hf⟩:=Rd.elems Tryz.underlying145 (n:=2) (by kernel_rfl) h
 obtain⟨a0,s0,c0⟩:=Rd.field (off:=0) Km (hf 0 (by decide))
 obtain⟨a1,s1,c1⟩:=Rd.field (off:=1) Km (hf 1 (by decide))
 exact⟨⟨a0,a1⟩,⟨s0,s1⟩,hl,fun j hj=>match j,hj with|0,_=>c0 0 (by decide)|1,_=>c1 0 (by decide)⟩
def Sm (x:aJ):Prop:=Sq x.feeds∧(fun n:Int=> -9223372036854775808≤n∧n≤9223372036854775807) x.power∧(fun n:Int=> -9223372036854775808≤n∧n≤9223372036854775807) x.paths
theorem U2:Rd Tryz.prog 147 4 aJ.cell Sm:=by
 refine⟨by kernel_rfl,fun h=> ?_⟩
 obtain⟨hl,hf⟩:=Rd.fields Tryz.underlying147 (n:=4) (by kernel_rfl) h
 obtain⟨a0,s0,c0⟩:=Rd.field (off:=0) Vd (hf 0 _ rfl)
 obtain⟨a1,s1,c1⟩:=Rd.field (off:=2) Km (hf 1 _ rfl)
 obtain⟨a2,s2,c2⟩:=Rd.field (off:=3) Km (hf 2 _ rfl)
 exact⟨⟨a0,a1,a2⟩,⟨s0,s1,s2⟩,hl,fun j hj=>match j,hj with|0,_=>c0 0 (by decide)|1,_=>c0 1 (by decide)|2,_=>c1 0 (by decide)|3,_=>c2 0 (by decide)⟩
def VG (l:List aJ):Prop:=l.length≤9223372036854775807∧ ∀x∈l,Sm x
theorem XW:Rd Tryz.prog 24 1 (QO 4 aJ.cell) VG:=Rd.slice Tryz.underlying24 (by kernel_rfl) (by decide) U2
def XE (x:av):Prop:=(fun n:Int=> -9223372036854775808≤n∧n≤9223372036854775807) x.buses∧Vm x.sources∧Vj x.links∧VG x.racks
theorem XU:Rd Tryz.prog 26 4 av.cell XE:=by
 refine⟨by kernel_rfl,fun h=> ?_⟩
 obtain⟨hl,hf⟩:=Rd.fields Tryz.underlying26 (n:=4) (by kernel_rfl) h
 obtain⟨a0,s0,c0⟩:=Rd.field (off:=0) Km (hf 0 _ rfl)
 obtain⟨a1,s1,c1⟩:=Rd.field (off:=1) XT (hf 1 _ rfl)
 obtain⟨a2,s2,c2⟩:=Rd.field (off:=2) Xv (hf 2 _ rfl)
 obtain⟨a3,s3,c3⟩:=Rd.field (off:=3) XW (hf 3 _ rfl)
 exact⟨⟨a0,a1,a2,a3⟩,⟨s0,s1,s2,s3⟩,hl,fun j hj=>match j,hj with|0,_=>c0 0 (by decide)|1,_=>c1 0 (by decide)|2,_=>c2 0 (by decide)|3,_=>c3 0 (by decide)⟩
theorem YL:Rd Tryz.prog 4 1 af (fun _:Bool=>True):=Rd.bool Tryz.underlying4 (by kernel_rfl)
def JF (l:List Bool):Prop:=l.length≤9223372036854775807∧ ∀x∈l,(fun _:Bool=>True) x
theorem Ky:Rd Tryz.prog 27 1 (QO 1 af) JF:=Rd.slice Tryz.underlying27 (by kernel_rfl) (by decide) YL
def XH (x:State):Prop:=JF x.closed∧JF x.locked∧JF x.badLink∧JF x.on_∧JF x.badSource∧JF x.earthed∧JF x.badBus
theorem XL:Rd Tryz.prog 29 7 State.cell XH:=by
 refine⟨by kernel_rfl,fun h=> ?_⟩
 obtain⟨hl,hf⟩:=Rd.fields Tryz.underlying29 (n:=7) (by kernel_rfl) h
 obtain⟨a0,s0,c0⟩:=Rd.field (off:=0) Ky (hf 0 _ rfl)
 obtain⟨a1,s1,c1⟩:=Rd.field (off:=1) Ky (hf 1 _ rfl)
 obtain⟨a2,s2,c2⟩:=Rd.field (off:=2) Ky (hf 2 _ rfl)
 obtain⟨a3,s3,c3⟩:=Rd.field (off:=3) Ky (hf 3 _ rfl)
 obtain⟨a4,s4,c4⟩:=Rd.field (off:=4) Ky (hf 4 _ rfl)
 obtain⟨a5,s5,c5⟩:=Rd.field (off:=5) Ky (hf 5 _ rfl)
 obtain⟨a6,s6,c6⟩:=Rd.field (off:=6) Ky (hf 6 _ rfl)
 exact⟨⟨a0,a1,a2,a3,a4,a5,a6⟩,⟨s0,s1,s2,s3,s4,s5,s6⟩,hl,fun j hj=>match j,hj with|0,_=>c0 0 (by decide)|1,_=>c1 0 (by decide)|2,_=>c2 0 (by decide)|3,_=>c3 0 (by decide)|4,_=>c4 0 (by decide)|5,_=>c5 0 (by decide)|6,_=>c6 0 (by decide)⟩
def Tz (l:List Int):Prop:=l.length≤9223372036854775807∧ ∀x∈l,(fun n:Int=> -9223372036854775808≤n∧n≤9223372036854775807) x
theorem Vy:Rd Tryz.prog 39 1 (QO 1 (aT .i64)) Tz:=Rd.slice Tryz.underlying39 (by kernel_rfl) (by decide) Km
theorem XP:Rd Tryz.prog 43 1 (aT .i64) (fun n:Int=> -9223372036854775808≤n∧n≤9223372036854775807):=Rd.int Tryz.underlying43 (by kernel_rfl)
def Tv (x:aj):Prop:=(fun n:Int=> -9223372036854775808≤n∧n≤9223372036854775807) x.deed∧(fun n:Int=> -9223372036854775808≤n∧n≤9223372036854775807) x.index
theorem Vz:Rd Tryz.prog 45 2 aj.cell Tv:=by
 refine⟨by kernel_rfl,fun h=> ?_⟩
 obtain⟨hl,hf⟩:=Rd.fields Tryz.underlying45 (n:=2) (by kernel_rfl) h
 obtain⟨a0,s0,c0⟩:=Rd.field (off:=0) XP (hf 0 _ rfl)
 obtain⟨a1,s1,c1⟩:=Rd.field (off:=1) Km (hf 1 _ rfl)
 exact⟨⟨a0,a1⟩,⟨s0,s1⟩,hl,fun j hj=>match j,hj with|0,_=>c0 0 (by decide)|1,_=>c1 0 (by decide)⟩
def TG (l:List aj):Prop:=l.length≤9223372036854775807∧ ∀x∈l,Tv x
theorem U1:Rd Tryz.prog 40 1 (QO 2 aj.cell) TG:=Rd.slice Tryz.underlying40 (by kernel_rfl) (by decide) Vz
def XF (x:Task):Prop:=Tz x.fed∧Tz x.crew∧TG x.allowed∧TG x.goal
theorem X5:Rd Tryz.prog 42 4 Task.cell XF:=by
 refine⟨by kernel_rfl,fun h=> ?_⟩
 obtain⟨hl,hf⟩:=Rd.fields Tryz.underlying42 (n:=4) (by kernel_rfl) h
 obtain⟨a0,s0,c0⟩:=Rd.field (off:=0) Vy (hf 0 _ rfl)
 obtain⟨a1,s1,c1⟩:=Rd.field (off:=1) Vy (hf 1 _ rfl)
 obtain⟨a2,s2,c2⟩:=Rd.field (off:=2) U1 (hf 2 _ rfl)
 obtain⟨a3,s3,c3⟩:=Rd.field (off:=3) U1 (hf 3 _ rfl)
 exact⟨⟨a0,a1,a2,a3⟩,⟨s0,s1,s2,s3⟩,hl,fun j hj=>match j,hj with|0,_=>c0 0 (by decide)|1,_=>c1 0 (by decide)|2,_=>c2 0 (by decide)|3,_=>c3 0 (by decide)⟩
def Sv (x:Item):Prop:=Tv x.step∧(fun _:Bool=>True) x.ack
theorem Wd:Rd Tryz.prog 108 3 Item.cell Sv:=by
 refine⟨by kernel_rfl,fun h=> ?_⟩
 obtain⟨hl,hf⟩:=Rd.fields Tryz.underlying108 (n:=3) (by kernel_rfl) h
 obtain⟨a0,s0,c0⟩:=Rd.field (off:=0) Vz (hf 0 _ rfl)
 obtain⟨a1,s1,c1⟩:=Rd.field (off:=2) YL (hf 1 _ rfl)
 exact⟨⟨a0,a1⟩,⟨s0,s1⟩,hl,fun j hj=>match j,hj with|0,_=>c0 0 (by decide)|1,_=>c0 1 (by decide)|2,_=>c1 0 (by decide)⟩
def Yc (l:List Item):Prop:=l.length≤9223372036854775807∧ ∀x∈l,Sv x
theorem XA:Rd Tryz.prog 99 1 (QO 3 Item.cell) Yc:=Rd.slice Tryz.underlying99 (by kernel_rfl) (by decide) Wd
theorem Rd.u8 {P:Program} {t:TypeId} (ht:P.underlying t=some (.int .u8)) (hs:P.cellsOf t=1):Rd P t 1 (aT .u8) (fun n:Int=>0≤n∧n≤255):=by
 refine⟨hs,fun h=> ?_⟩
 obtain⟨n,rfl,_,hw⟩:=DataW.trod_int ht h
 refine⟨n,by simpa [Lit.wf,IntKind.min,IntKind.max,IntKind.signed,IntKind.bits]using hw,rfl,fun j hj=> ?_⟩
 have:j=0:=by omega
 subst this;exact⟨_,rfl,rfl⟩
theorem Y8:Rd Tryz.prog 5 1 (aT .u8) (fun n:Int=>0≤n∧n≤255):=Rd.u8 Tryz.underlying5 (by kernel_rfl)
end Sg
namespace Go.Proofs.YtbjhjmcpfmhgdaaGreat
open Sg Go.ChangeShapes Go.WideShapes Go.ChangeAt Go.RowKit
theorem Tryz.own:ownKnob Tryz.prog.godebug=none:=by kernel_rfl
theorem Tryz.laidOut:laidOutB Tryz.prog=true:=by kernel_rfl
set_option maxRecDepth 100000 in
theorem A8 (H:Type) (enc:TypeId × Value→H) (W:World) (base:Nat) (args:Array Value) (ds gs:List (DataW H)) (before:List MemPlace)
  (hval: ∀(j:Nat) t v,Tryz.f7.params[j]? =some t→args[j]? =some v→Value.okWide Tryz.prog W .any base t v)
  (hW:DataW.Whole enc Tryz.prog Tryz.f7.params.toList Rows.actsBackSpec.vars false W args.toList ds gs before):
  Calls Tryz.prog 7 args W fun e W'=> ∃v,e= .returned v∧Rows.actsBackSpec.post enc Tryz.prog Tryz.f7 false true false false W args v W':=by
 have hW':=hW
 obtain⟨p,q,hA0,hV,rfl,hfz,hnd⟩:=hW
 have hA:DataW.TrodAll enc Tryz.prog W 0 (fun _=>true) true Tryz.f7.params.toList args.toList ds p:=hA0
 rw [Tryz.params7]at hA hval
 obtain⟨v0,l0,d0,e0,p0,q0,hv0,hd0,hp0,h0,r0⟩:=trodAll_cons hA
 obtain⟨v1,l1,d1,e1,p1,q1,hv1,hd1,hp1,h1,r1⟩:=trodAll_cons r0
 obtain⟨v2,l2,d2,e2,p2,q2,hv2,hd2,hp2,h2,r2⟩:=trodAll_cons r1
 obtain⟨v3,l3,d3,e3,p3,q3,hv3,hd3,hp3,h3,r3⟩:=trodAll_cons r2
 obtain⟨v4,l4,d4,e4,p4,q4,hv4,hd4,hp4,h4,r4⟩:=trodAll_cons r3
 obtain⟨hvz,hdz,hpz⟩:=trodAll_nil r4
 have hgs:=(trodVars_none hV).1
 have hargs:args= #[v0,v1,v2,v3,v4]:=by
  have:args.toList=[v0,v1,v2,v3,v4]:=by rw [hv0,hv1,hv2,hv3,hv4,hvz]
  cases args;simp at this;rw [this]
 have hds:ds=[d0,d1,d2,d3,d4]:=by rw [hd0,hd1,hd2,hd3,hd4,hdz]
 subst hargs
 obtain⟨a0,s0,c0⟩:=Rd.agg XU Tryz.underlying26 (hval 0 26 v0 rfl rfl) h0
 obtain⟨a1,s1,c1⟩:=Rd.agg XL Tryz.underlying29 (hval 1 29 v1 rfl rfl) h1
 obtain⟨a2,s2,c2⟩:=Rd.agg X5 Tryz.underlying42 (hval 2 42 v2 rfl rfl) h2
 obtain⟨a3,s3,c3⟩:=Rd.one XA (M5 Tryz.underlying99 (hval 3 99 v3 rfl rfl)) h3
 obtain⟨a4,s4,c4⟩:=Rd.one Y8 (QS Tryz.underlying5 (hval 4 5 v4 rfl rfl)) h4
 have hm:kS a0 a1 a2 a3 a4=some true:=E9 a1 a2 a3 a4 ⟨s0.2.1.1,s0.2.2.1.1,s0.2.2.2.1,fun x hx=>(s0.2.2.1.2 x hx).2.2.2.2.2.1⟩
 refine(NI (vs:=[v0,v1,v2,v3,v4]) (yL a0 a1 a2 a3 a4 hm) ⟨c0,c1,c2,c3,c4,trivial⟩ (fun _ h=>by cases h)).mono fun e W' ⟨he,hb⟩=> ⟨_,he, ?_⟩
 refine Og (t4:=4) rfl hW' ?_ ?_ ?_ rfl Tryz.underlying4 Tryz.laidOut ?_ hb
 ·rw [hds,hgs];rfl
 ·rw [hds,hgs];rfl
 ·rw [hds,hgs];rfl
 ·intro t ht
  rw [Tryz.params7]at ht
  simp at ht
  rcases ht with rfl|rfl|rfl|rfl|rfl<;>exact⟨by kernel_rfl,of_decide_eq_true (by kernel_rfl)⟩
set_option maxRecDepth 100000 in
theorem CW (os:Os) (started:os.Started) (H:Type) (enc:TypeId × Value→H):
  ReturnsInHanded {} Tryz.checked os 7 .any (Rows.actsBackSpec.pre6 enc Tryz.prog Tryz.f7 Rows.actsBackRow.domain false) (Rows.actsBackSpec.post enc Tryz.prog Tryz.f7 false true false false):=by
 refine returnsInHanded_of_change (C:=Tryz.checked) Tryz.own started (by kernel_rfl) Tryz.func7
  (ChangeSpec.witness6 (enc:=enc) (C:=Tryz.checked) false ⟨#[], #[.agg #[.int .i64 0, .slice none 0 0, .slice none 0 0, .slice none 0 0], .agg #[.slice none 0 0, .slice none 0 0, .slice none 0 0, .slice none 0 0, .slice none 0 0, .slice none 0 0, .slice none 0 0], .agg #[.slice none 0 0, .slice none 0 0, .slice none 0 0, .slice none 0 0], .slice none 0 0, .int .u8 0],[]⟩ 16 (by kernel_rfl) (by kernel_rfl) (by kernel_rfl) (by kernel_rfl)) ?_
 intro W base args ds gs before hval hW _ _
 exact A8 H enc W base args ds gs before hval hW
set_option maxRecDepth 100000
theorem IW:(Rows.actsBackRow.inPlace==Tryz.prog.inPlace 7)=true:=by kernel_rfl
theorem IK:(Rows.actsBackRow.unfollowed==Tryz.prog.unfollowed 7)=true:=by kernel_rfl
theorem Ij:(Rows.actsBackRow.recurses==Tryz.prog.recurses 7)=true:=by kernel_rfl
theorem Jz:(Rows.actsBackRow.named==Tryz.prog.varsNamed 7)=true:=by kernel_rfl
theorem EJ:joinedFacts Tryz.prog 7 Tryz.f7 Rows.actsBackSpec Rows.actsBackRow=true:=by
 unfold joinedFacts
 rw [IW,IK,Ij,Jz]
 kernel_rfl
theorem actsBack_holds:Rows.ActsBackSaid:=
 OpenClaim.holds_of_wide 7 Tryz.f7 rfl rfl rfl rfl rfl rfl rfl ⟨rfl,rfl,rfl,rfl,rfl⟩ rfl rfl rfl rfl rfl (by kernel_rfl) Tryz.func7 EJ
  (of_decide_eq_true (by kernel_rfl)) (by unfold Func.isWrapper;first|(rw [if_pos (by decide+kernel)];kernel_rfl)|(rw [if_neg (by decide+kernel)];exact⟨rfl,rfl⟩))
  (fun os started H enc _=>CW os started H enc)
end Go.Proofs.YtbjhjmcpfmhgdaaGreat
