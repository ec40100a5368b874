/- WorkNames: for every yard and every set of jobs, the law that a set is bearable just if no named set is part of it returns true (no conditions). -/
import Derived.Test.YtbjhjmcpfmhgdaaGreatRows
import Derived.ProofKit
import Derived.Test.YtbjhjmcpfmhgdaaGreatWnLg
import Derived.Test.YtbjhjmcpfmhgdaaGreatWnW2
set_option linter.all false
namespace Sg
open Go Go.Proofs Go.Proofs.YtbjhjmcpfmhgdaaGreat Go.ChangeShapes Go.WideShapes Go.RowKit
set_option maxRecDepth 20000
theorem DJ:Rz Tryz.prog 3 1 (aB .i64) (fun n:Int=> -9223372036854775808≤n∧n≤9223372036854775807):=(Rd.int Tryz.underlying3 (by kernel_rfl)).z
theorem ZB:Rz Tryz.prog 36 1 (aB .i64) (fun n:Int=> -9223372036854775808≤n∧n≤9223372036854775807):=(Rd.int Tryz.underlying36 (by kernel_rfl)).z
def Yb (x:Source):Prop:=(fun n:Int=> -9223372036854775808≤n∧n≤9223372036854775807) x.bus∧(fun n:Int=> -9223372036854775808≤n∧n≤9223372036854775807) x.kind∧(fun n:Int=> -9223372036854775808≤n∧n≤9223372036854775807) x.power∧(fun n:Int=> -9223372036854775808≤n∧n≤9223372036854775807) x.sync∧(fun n:Int=> -9223372036854775808≤n∧n≤9223372036854775807) x.ohm
theorem Zj:Rz Tryz.prog 38 5 Source.cell Yb:=by
 refine⟨by kernel_rfl,fun h hz=> ?_⟩
 obtain⟨hl,hf⟩:=Rz.fields Tryz.underlying38 (n:=5) (by kernel_rfl) h hz
 obtain⟨a0,s0,c0⟩:=Rz.field (off:=0) DJ (hf 0 _ rfl)
 obtain⟨a1,s1,c1⟩:=Rz.field (off:=1) ZB (hf 1 _ rfl)
 obtain⟨a2,s2,c2⟩:=Rz.field (off:=2) DJ (hf 2 _ rfl)
 obtain⟨a3,s3,c3⟩:=Rz.field (off:=3) DJ (hf 3 _ rfl)
 obtain⟨a4,s4,c4⟩:=Rz.field (off:=4) DJ (hf 4 _ rfl)
 exact⟨⟨a0,a1,a2,a3,a4⟩,⟨s0,s1,s2,s3,s4⟩,hl,fun j hj=>match j,hj with|0,_=>c0 0 (by decide)|1,_=>c1 0 (by decide)|2,_=>c2 0 (by decide)|3,_=>c3 0 (by decide)|4,_=>c4 0 (by decide)⟩
def Yq (l:List Source):Prop:=l.length≤9223372036854775807∧(∀x∈l,Yb x)∧l.length*40≤140737488351232
theorem ZI:Rz Tryz.prog 22 1 (zR 5 Source.cell) Yq:=Rz.slice Tryz.underlying22 (by kernel_rfl) (by decide) (b:=40) (by kernel_rfl) Zj
theorem Zl:Rz Tryz.prog 32 1 (aB .i64) (fun n:Int=> -9223372036854775808≤n∧n≤9223372036854775807):=(Rd.int Tryz.underlying32 (by kernel_rfl)).z
def Um (x:mE):Prop:=(fun n:Int=> -9223372036854775808≤n∧n≤9223372036854775807) x.amps∧(fun n:Int=> -9223372036854775808≤n∧n≤9223372036854775807) x.millis
theorem Xx:Rz Tryz.prog 282 2 mE.cell Um:=by
 refine⟨by kernel_rfl,fun h hz=> ?_⟩
 obtain⟨hl,hf⟩:=Rz.fields Tryz.underlying282 (n:=2) (by kernel_rfl) h hz
 obtain⟨a0,s0,c0⟩:=Rz.field (off:=0) DJ (hf 0 _ rfl)
 obtain⟨a1,s1,c1⟩:=Rz.field (off:=1) DJ (hf 1 _ rfl)
 exact⟨⟨a0,a1⟩,⟨s0,s1⟩,hl,fun j hj=>match j,hj with|0,_=>c0 0 (by decide)|1,_=>c1 0 (by decide)⟩
def XW (l:List mE):Prop:=l.length≤9223372036854775807∧(∀x∈l,Um x)∧l.length*16≤140737488351232
theorem Zb:Rz Tryz.prog 33 1 (zR 2 mE.cell) XW:=Rz.slice Tryz.underlying33 (by kernel_rfl) (by decide) (b:=16) (by kernel_rfl) Xx
def X4 (x:Link):Prop:=(fun n:Int=> -9223372036854775808≤n∧n≤9223372036854775807) x.a∧(fun n:Int=> -9223372036854775808≤n∧n≤9223372036854775807) x.b∧(fun n:Int=> -9223372036854775808≤n∧n≤9223372036854775807) x.kind∧(fun n:Int=> -9223372036854775808≤n∧n≤9223372036854775807) x.most∧(fun n:Int=> -9223372036854775808≤n∧n≤9223372036854775807) x.ohm∧XW x.trip
theorem Zf:Rz Tryz.prog 35 6 Link.cell X4:=by
 refine⟨by kernel_rfl,fun h hz=> ?_⟩
 obtain⟨hl,hf⟩:=Rz.fields Tryz.underlying35 (n:=6) (by kernel_rfl) h hz
 obtain⟨a0,s0,c0⟩:=Rz.field (off:=0) DJ (hf 0 _ rfl)
 obtain⟨a1,s1,c1⟩:=Rz.field (off:=1) DJ (hf 1 _ rfl)
 obtain⟨a2,s2,c2⟩:=Rz.field (off:=2) Zl (hf 2 _ rfl)
 obtain⟨a3,s3,c3⟩:=Rz.field (off:=3) DJ (hf 3 _ rfl)
 obtain⟨a4,s4,c4⟩:=Rz.field (off:=4) DJ (hf 4 _ rfl)
 obtain⟨a5,s5,c5⟩:=Rz.field (off:=5) Zb (hf 5 _ rfl)
 exact⟨⟨a0,a1,a2,a3,a4,a5⟩,⟨s0,s1,s2,s3,s4,s5⟩,hl,fun j hj=>match j,hj with|0,_=>c0 0 (by decide)|1,_=>c1 0 (by decide)|2,_=>c2 0 (by decide)|3,_=>c3 0 (by decide)|4,_=>c4 0 (by decide)|5,_=>c5 0 (by decide)⟩
def Xt (l:List Link):Prop:=l.length≤9223372036854775807∧(∀x∈l,X4 x)∧l.length*64≤140737488351232
theorem Zu:Rz Tryz.prog 23 1 (zR 6 Link.cell) Xt:=Rz.slice Tryz.underlying23 (by kernel_rfl) (by decide) (b:=64) (by kernel_rfl) Zf
def Uv (x:au):Prop:=(fun n:Int=> -9223372036854775808≤n∧n≤9223372036854775807) x.e0∧(fun n:Int=> -9223372036854775808≤n∧n≤9223372036854775807) x.e1
theorem WM:Rz Tryz.prog 145 2 au.cell Uv:=by
 refine⟨by kernel_rfl,fun h hz=> ?_⟩
 obtain⟨hl,hf⟩:=Rz.elems Tryz.underlying145 (n:=2) (by kernel_rfl) h hz
 obtain⟨a0,s0,c0⟩:=Rz.field (off:=0) DJ (hf 0 (by decide))
 obtain⟨a1,s1,c1⟩:=Rz.field (off:=1) DJ (hf 1 (by decide))
 exact⟨⟨a0,a1⟩,⟨s0,s1⟩,hl,fun j hj=>match j,hj with|0,_=>c0 0 (by decide)|1,_=>c1 0 (by decide)⟩
def Ur (x:aM):Prop:=Uv x.feeds∧(fun n:Int=> -9223372036854775808≤n∧n≤9223372036854775807) x.power∧(fun n:Int=> -9223372036854775808≤n∧n≤9223372036854775807) x.paths
theorem Yx:Rz Tryz.prog 147 4 aM.cell Ur:=by
 refine⟨by kernel_rfl,fun h hz=> ?_⟩
 obtain⟨hl,hf⟩:=Rz.fields Tryz.underlying147 (n:=4) (by kernel_rfl) h hz
 obtain⟨a0,s0,c0⟩:=Rz.field (off:=0) WM (hf 0 _ rfl)
 obtain⟨a1,s1,c1⟩:=Rz.field (off:=2) DJ (hf 1 _ rfl)
 obtain⟨a2,s2,c2⟩:=Rz.field (off:=3) DJ (hf 2 _ rfl)
 exact⟨⟨a0,a1,a2⟩,⟨s0,s1,s2⟩,hl,fun j hj=>match j,hj with|0,_=>c0 0 (by decide)|1,_=>c0 1 (by decide)|2,_=>c1 0 (by decide)|3,_=>c2 0 (by decide)⟩
def Xn (l:List aM):Prop:=l.length≤9223372036854775807∧(∀x∈l,Ur x)∧l.length*32≤140737488351232
theorem Y2:Rz Tryz.prog 24 1 (zR 4 aM.cell) Xn:=Rz.slice Tryz.underlying24 (by kernel_rfl) (by decide) (b:=32) (by kernel_rfl) Yx
def WU (x:aC):Prop:=(fun n:Int=> -9223372036854775808≤n∧n≤9223372036854775807) x.buses∧Yq x.sources∧Xt x.links∧Xn x.racks
theorem Zm:Rz Tryz.prog 26 4 aC.cell WU:=by
 refine⟨by kernel_rfl,fun h hz=> ?_⟩
 obtain⟨hl,hf⟩:=Rz.fields Tryz.underlying26 (n:=4) (by kernel_rfl) h hz
 obtain⟨a0,s0,c0⟩:=Rz.field (off:=0) DJ (hf 0 _ rfl)
 obtain⟨a1,s1,c1⟩:=Rz.field (off:=1) ZI (hf 1 _ rfl)
 obtain⟨a2,s2,c2⟩:=Rz.field (off:=2) Zu (hf 2 _ rfl)
 obtain⟨a3,s3,c3⟩:=Rz.field (off:=3) Y2 (hf 3 _ rfl)
 exact⟨⟨a0,a1,a2,a3⟩,⟨s0,s1,s2,s3⟩,hl,fun j hj=>match j,hj with|0,_=>c0 0 (by decide)|1,_=>c1 0 (by decide)|2,_=>c2 0 (by decide)|3,_=>c3 0 (by decide)⟩
theorem Z6:Rz Tryz.prog 4 1 af (fun _:Bool=>True):=(Rd.bool Tryz.underlying4 (by kernel_rfl)).z
def KH (l:List Bool):Prop:=l.length≤9223372036854775807∧(∀x∈l,(fun _:Bool=>True) x)∧l.length*1≤140737488351232
theorem Li:Rz Tryz.prog 27 1 (zR 1 af) KH:=Rz.slice Tryz.underlying27 (by kernel_rfl) (by decide) (b:=1) (by kernel_rfl) Z6
def Yt (x:State):Prop:=KH x.closed∧KH x.locked∧KH x.badLink∧KH x.on_∧KH x.badSource∧KH x.earthed∧KH x.badBus
theorem Y9:Rz Tryz.prog 29 7 State.cell Yt:=by
 refine⟨by kernel_rfl,fun h hz=> ?_⟩
 obtain⟨hl,hf⟩:=Rz.fields Tryz.underlying29 (n:=7) (by kernel_rfl) h hz
 obtain⟨a0,s0,c0⟩:=Rz.field (off:=0) Li (hf 0 _ rfl)
 obtain⟨a1,s1,c1⟩:=Rz.field (off:=1) Li (hf 1 _ rfl)
 obtain⟨a2,s2,c2⟩:=Rz.field (off:=2) Li (hf 2 _ rfl)
 obtain⟨a3,s3,c3⟩:=Rz.field (off:=3) Li (hf 3 _ rfl)
 obtain⟨a4,s4,c4⟩:=Rz.field (off:=4) Li (hf 4 _ rfl)
 obtain⟨a5,s5,c5⟩:=Rz.field (off:=5) Li (hf 5 _ rfl)
 obtain⟨a6,s6,c6⟩:=Rz.field (off:=6) Li (hf 6 _ rfl)
 exact⟨⟨a0,a1,a2,a3,a4,a5,a6⟩,⟨s0,s1,s2,s3,s4,s5,s6⟩,hl,fun j hj=>match j,hj with|0,_=>c0 0 (by decide)|1,_=>c1 0 (by decide)|2,_=>c2 0 (by decide)|3,_=>c3 0 (by decide)|4,_=>c4 0 (by decide)|5,_=>c5 0 (by decide)|6,_=>c6 0 (by decide)⟩
def Un (x:Transfer):Prop:=(fun n:Int=> -9223372036854775808≤n∧n≤9223372036854775807) x.watch∧(fun n:Int=> -9223372036854775808≤n∧n≤9223372036854775807) x.open_∧(fun n:Int=> -9223372036854775808≤n∧n≤9223372036854775807) x.close
theorem Yz:Rz Tryz.prog 191 3 Transfer.cell Un:=by
 refine⟨by kernel_rfl,fun h hz=> ?_⟩
 obtain⟨hl,hf⟩:=Rz.fields Tryz.underlying191 (n:=3) (by kernel_rfl) h hz
 obtain⟨a0,s0,c0⟩:=Rz.field (off:=0) DJ (hf 0 _ rfl)
 obtain⟨a1,s1,c1⟩:=Rz.field (off:=1) DJ (hf 1 _ rfl)
 obtain⟨a2,s2,c2⟩:=Rz.field (off:=2) DJ (hf 2 _ rfl)
 exact⟨⟨a0,a1,a2⟩,⟨s0,s1,s2⟩,hl,fun j hj=>match j,hj with|0,_=>c0 0 (by decide)|1,_=>c1 0 (by decide)|2,_=>c2 0 (by decide)⟩
def Xc (l:List Transfer):Prop:=l.length≤9223372036854775807∧(∀x∈l,Un x)∧l.length*24≤140737488351232
theorem Zh:Rz Tryz.prog 62 1 (zR 3 Transfer.cell) Xc:=Rz.slice Tryz.underlying62 (by kernel_rfl) (by decide) (b:=24) (by kernel_rfl) Yz
theorem Ze:Rz Tryz.prog 76 1 (aB .i64) (fun n:Int=> -9223372036854775808≤n∧n≤9223372036854775807):=(Rd.int Tryz.underlying76 (by kernel_rfl)).z
def Yn (x:Part):Prop:=(fun n:Int=> -9223372036854775808≤n∧n≤9223372036854775807) x.kind∧(fun n:Int=> -9223372036854775808≤n∧n≤9223372036854775807) x.index
theorem Y7:Rz Tryz.prog 78 2 Part.cell Yn:=by
 refine⟨by kernel_rfl,fun h hz=> ?_⟩
 obtain⟨hl,hf⟩:=Rz.fields Tryz.underlying78 (n:=2) (by kernel_rfl) h hz
 obtain⟨a0,s0,c0⟩:=Rz.field (off:=0) Ze (hf 0 _ rfl)
 obtain⟨a1,s1,c1⟩:=Rz.field (off:=1) DJ (hf 1 _ rfl)
 exact⟨⟨a0,a1⟩,⟨s0,s1⟩,hl,fun j hj=>match j,hj with|0,_=>c0 0 (by decide)|1,_=>c1 0 (by decide)⟩
def XR (l:List Part):Prop:=l.length≤9223372036854775807∧(∀x∈l,Yn x)∧l.length*16≤140737488351232
theorem ZH:Rz Tryz.prog 79 1 (zR 2 Part.cell) XR:=Rz.slice Tryz.underlying79 (by kernel_rfl) (by decide) (b:=16) (by kernel_rfl) Y7
def WI (l:List Int):Prop:=l.length≤9223372036854775807∧(∀x∈l,(fun n:Int=> -9223372036854775808≤n∧n≤9223372036854775807) x)∧l.length*8≤140737488351232
theorem Zw:Rz Tryz.prog 39 1 (zR 1 (aB .i64)) WI:=Rz.slice Tryz.underlying39 (by kernel_rfl) (by decide) (b:=8) (by kernel_rfl) DJ
def Yr (x:dP):Prop:=XR x.parts∧(fun n:Int=> -9223372036854775808≤n∧n≤9223372036854775807) x.hours∧(fun n:Int=> -9223372036854775808≤n∧n≤9223372036854775807) x.from_∧(fun n:Int=> -9223372036854775808≤n∧n≤9223372036854775807) x.to_∧(fun n:Int=> -9223372036854775808≤n∧n≤9223372036854775807) x.people∧WI x.after
theorem Za:Rz Tryz.prog 81 6 dP.cell Yr:=by
 refine⟨by kernel_rfl,fun h hz=> ?_⟩
 obtain⟨hl,hf⟩:=Rz.fields Tryz.underlying81 (n:=6) (by kernel_rfl) h hz
 obtain⟨a0,s0,c0⟩:=Rz.field (off:=0) ZH (hf 0 _ rfl)
 obtain⟨a1,s1,c1⟩:=Rz.field (off:=1) DJ (hf 1 _ rfl)
 obtain⟨a2,s2,c2⟩:=Rz.field (off:=2) DJ (hf 2 _ rfl)
 obtain⟨a3,s3,c3⟩:=Rz.field (off:=3) DJ (hf 3 _ rfl)
 obtain⟨a4,s4,c4⟩:=Rz.field (off:=4) DJ (hf 4 _ rfl)
 obtain⟨a5,s5,c5⟩:=Rz.field (off:=5) Zw (hf 5 _ rfl)
 exact⟨⟨a0,a1,a2,a3,a4,a5⟩,⟨s0,s1,s2,s3,s4,s5⟩,hl,fun j hj=>match j,hj with|0,_=>c0 0 (by decide)|1,_=>c1 0 (by decide)|2,_=>c2 0 (by decide)|3,_=>c3 0 (by decide)|4,_=>c4 0 (by decide)|5,_=>c5 0 (by decide)⟩
def WS (l:List dP):Prop:=l.length≤9223372036854775807∧(∀x∈l,Yr x)∧l.length*80≤140737488351232
theorem Zz:Rz Tryz.prog 63 1 (zR 6 dP.cell) WS:=Rz.slice Tryz.underlying63 (by kernel_rfl) (by decide) (b:=80) (by kernel_rfl) Za
def Zk (x:wX):Prop:=WU x.plant∧Yt x.state∧Xc x.transfers∧WS x.jobs∧(fun n:Int=> -9223372036854775808≤n∧n≤9223372036854775807) x.people∧(fun _:Bool=>True) x.redundant
theorem Y8:Rz Tryz.prog 65 15 wX.cell Zk:=by
 refine⟨by kernel_rfl,fun h hz=> ?_⟩
 obtain⟨hl,hf⟩:=Rz.fields Tryz.underlying65 (n:=15) (by kernel_rfl) h hz
 obtain⟨a0,s0,c0⟩:=Rz.field (off:=0) Zm (hf 0 _ rfl)
 obtain⟨a1,s1,c1⟩:=Rz.field (off:=4) Y9 (hf 1 _ rfl)
 obtain⟨a2,s2,c2⟩:=Rz.field (off:=11) Zh (hf 2 _ rfl)
 obtain⟨a3,s3,c3⟩:=Rz.field (off:=12) Zz (hf 3 _ rfl)
 obtain⟨a4,s4,c4⟩:=Rz.field (off:=13) DJ (hf 4 _ rfl)
 obtain⟨a5,s5,c5⟩:=Rz.field (off:=14) Z6 (hf 5 _ rfl)
 exact⟨⟨a0,a1,a2,a3,a4,a5⟩,⟨s0,s1,s2,s3,s4,s5⟩,hl,fun j hj=>match j,hj with|0,_=>c0 0 (by decide)|1,_=>c0 1 (by decide)|2,_=>c0 2 (by decide)|3,_=>c0 3 (by decide)|4,_=>c1 0 (by decide)|5,_=>c1 1 (by decide)|6,_=>c1 2 (by decide)|7,_=>c1 3 (by decide)|8,_=>c1 4 (by decide)|9,_=>c1 5 (by decide)|10,_=>c1 6 (by decide)|11,_=>c2 0 (by decide)|12,_=>c3 0 (by decide)|13,_=>c4 0 (by decide)|14,_=>c5 0 (by decide)⟩
theorem Rd.u8 {P:Program} {t:TypeId} (ht:P.underlying t=some (.int .u8)) (hs:P.cellsOf t=1):Rd P t 1 (aB .u8) (fun n:Int=>0≤n∧n≤255):=by
 refine⟨hs,fun h=> ?_⟩
 obtain⟨n,rfl,_,hw⟩:=DataW.trod_int ht h
 refine⟨n,by simpa [Lit.wf,IntKind.min,IntKind.max,IntKind.signed,IntKind.bits]using hw,rfl,fun j hj=> ?_⟩
 have:j=0:=by omega
 subst this;exact⟨_,rfl,rfl⟩
theorem rd5:Rz Tryz.prog 5 1 (aB .u8) (fun n:Int=>0≤n∧n≤255):=(Rd.u8 Tryz.underlying5 (by kernel_rfl)).z
end Sg
namespace Go.Proofs.YtbjhjmcpfmhgdaaGreat
open Sg Go.ChangeShapes Go.WideShapes Go.ChangeAt Go.RowKit
theorem Tryz.own:ownKnob Tryz.prog.godebug=none:=by kernel_rfl
theorem Tryz.laidOut:laidOutB Tryz.prog=true:=by kernel_rfl
set_option maxRecDepth 100000 in
theorem zQ (H:Type) (enc:TypeId × Value→H) (W:World) (base:Nat) (args:Array Value) (ds gs:List (DataW H)) (before:List MemPlace)
  (hval: ∀(j:Nat) t v,Tryz.f6.params[j]? =some t→args[j]? =some v→Value.okWide Tryz.prog W .any base t v)
  (hW:DataW.Whole enc Tryz.prog Tryz.f6.params.toList Rows.workNamesSpec.vars false W args.toList ds gs before)
  (hsz:(DataW.weightsEach Tryz.prog (Tryz.f6.params.toList++Rows.workNamesSpec.plain.varTypes Tryz.prog) (ds++gs)).all (· ≤reachBytes)=true):
  Calls Tryz.prog 6 args W fun e W'=> ∃v,e= .returned v∧Rows.workNamesSpec.post enc Tryz.prog Tryz.f6 false true false false W args v W':=by
 have hW':=hW
 obtain⟨p,q,hA0,hV,rfl,hfz,hnd⟩:=hW
 have hA:DataW.TrodAll enc Tryz.prog W 0 (fun _=>true) true Tryz.f6.params.toList args.toList ds p:=hA0
 rw [Tryz.params6]at hA hval
 obtain⟨v0,l0,d0,e0,p0,q0,hv0,hd0,hp0,h0,r0⟩:=trodAll_cons hA
 obtain⟨v1,l1,d1,e1,p1,q1,hv1,hd1,hp1,h1,r1⟩:=trodAll_cons r0
 obtain⟨hvz,hdz,hpz⟩:=trodAll_nil r1
 have hgs:=(trodVars_none hV).1
 have hargs:args= #[v0,v1]:=by
  have:args.toList=[v0,v1]:=by rw [hv0,hv1,hvz]
  cases args;simp at this;rw [this]
 have hds:ds=[d0,d1]:=by rw [hd0,hd1,hdz]
 subst hargs
 have hsz1:(DataW.weightsEach Tryz.prog [65,5] [d0,d1]).all (fun x=>decide (x≤reachBytes))=true:=by rw [hds,hgs,Tryz.params6]at hsz;exact hsz
 obtain⟨a0,s0,c0⟩:=Rz.agg Y8 Tryz.underlying65 (hval 0 65 v0 rfl rfl) h0 (fun q hq=>of_decide_eq_true (List.all_eq_true.1 hsz1 q (DataW.weights_mem_each (j:=0) rfl rfl q hq)))
 obtain⟨a1,s1,c1⟩:=Rz.one rd5 (Uf Tryz.underlying5 (hval 1 5 v1 rfl rfl)) h1 (fun q hq=>of_decide_eq_true (List.all_eq_true.1 hsz1 q (DataW.weights_mem_each (j:=1) rfl rfl q hq)))
 have hm:kr a0 a1=some true:=Em a0 a1 s1 ⟨s0.1.2.1.1,s0.1.2.2.1.1,s0.1.2.2.2.1,fun x hx=>(s0.1.2.2.1.2.1 x hx).2.2.2.2.2.1⟩ (fun x hx=>by have:=(s0.1.2.2.1.2.1 x hx).2.2.2.2.2.2.2;omega) ⟨by have:=s0.2.1.1.2.2;omega,by have:=s0.2.1.2.1.2.2;omega,by have:=s0.2.1.2.2.1.2.2;omega,by have:=s0.2.1.2.2.2.1.2.2;omega,by have:=s0.2.1.2.2.2.2.1.2.2;omega,by have:=s0.2.1.2.2.2.2.2.1.2.2;omega,by have:=s0.2.1.2.2.2.2.2.2.2.2;omega⟩ (fun x hx=>by have h:=s0.2.2.2.1.2.1 x hx;have h1:=h.1.2.2;have h2:=h.2.2.2.2.2.2.2;exact⟨by omega,by omega⟩)
 refine(Nr (vs:=[v0,v1]) (xQ a0 a1 hm) ⟨c0,c1,trivial⟩ (fun _ h=>by cases h)).mono fun e W' ⟨he,hb⟩=> ⟨_,he, ?_⟩
 refine RF (t4:=4) rfl hW' ?_ ?_ ?_ rfl Tryz.underlying4 Tryz.laidOut ?_ hb
 ·rw [hds,hgs];rfl
 ·rw [hds,hgs];rfl
 ·rw [hds,hgs];rfl
 ·intro t ht
  rw [Tryz.params6]at ht
  simp at ht
  rcases ht with rfl|rfl<;>exact⟨by kernel_rfl,of_decide_eq_true (by kernel_rfl)⟩
set_option maxRecDepth 100000 in
theorem CK (os:Os) (started:os.Started) (H:Type) (enc:TypeId × Value→H):
  ReturnsInHanded {} Tryz.checked os 6 .any (Rows.workNamesSpec.pre6 enc Tryz.prog Tryz.f6 Rows.workNamesRow.domain false) (Rows.workNamesSpec.post enc Tryz.prog Tryz.f6 false true false false):=by
 refine returnsInHanded_of_change_sized (C:=Tryz.checked) Tryz.own started (by kernel_rfl) Tryz.func6
  (ChangeSpec.witness6 (enc:=enc) (C:=Tryz.checked) false ⟨#[], #[.agg #[.int .i64 0, .slice none 0 0, .slice none 0 0, .slice none 0 0, .slice none 0 0, .slice none 0 0, .slice none 0 0, .slice none 0 0, .slice none 0 0, .slice none 0 0, .slice none 0 0, .slice none 0 0, .slice none 0 0, .int .i64 0, .bool false], .int .u8 0],[]⟩ 16 (by kernel_rfl) (by kernel_rfl) (by kernel_rfl) (by kernel_rfl)) ?_
 intro W base args ds gs before hval hW _ hsz _
 exact zQ H enc W base args ds gs before hval hW hsz
set_option maxRecDepth 100000
theorem HY:(Rows.workNamesRow.inPlace==Tryz.prog.inPlace 6)=true:=by kernel_rfl
theorem HZ:(Rows.workNamesRow.unfollowed==Tryz.prog.unfollowed 6)=true:=by kernel_rfl
theorem IU:(Rows.workNamesRow.recurses==Tryz.prog.recurses 6)=true:=by kernel_rfl
theorem H6:(Rows.workNamesRow.named==Tryz.prog.varsNamed 6)=true:=by kernel_rfl
theorem Dw:joinedFacts Tryz.prog 6 Tryz.f6 Rows.workNamesSpec Rows.workNamesRow=true:=by
 unfold joinedFacts
 rw [HY,HZ,IU,H6]
 kernel_rfl
theorem workNames_holds:Rows.WorkNamesSaid:=
 OpenClaim.holds_of_wide 6 Tryz.f6 rfl rfl rfl rfl rfl rfl rfl ⟨rfl,rfl,rfl,rfl,rfl⟩ rfl rfl rfl rfl rfl (by kernel_rfl) Tryz.func6 Dw
  (of_decide_eq_true (by kernel_rfl)) (by unfold Func.isWrapper;first|(rw [if_pos (by decide+kernel)];kernel_rfl)|(rw [if_neg (by decide+kernel)];exact⟨rfl,rfl⟩))
  (fun os started H enc _=>CK os started H enc)
end Go.Proofs.YtbjhjmcpfmhgdaaGreat
