import Derived.Test.YtolddefbejdanaaGreatDoorFaGm
import Derived.Test.YtolddefbejdanaaGreatDoorProg
import Derived.Test.YtolddefbejdanaaGreatDoorFaLd
set_option linter.all false
namespace Sg
open Go Go.Proofs
set_option maxRecDepth 20000
noncomputable section
noncomputable def TT:List (Nat × TI):=[(3,⟨Tryz.t3.desc,Tryz.t3.size,Tryz.t3.bytes,zl Tryz.t3,false⟩),
  (4,⟨Tryz.t4.desc,Tryz.t4.size,Tryz.t4.bytes,zl Tryz.t4,false⟩),
  (9,⟨Tryz.t9.desc,Tryz.t9.size,Tryz.t9.bytes,zl Tryz.t9,false⟩),
  (22,⟨Tryz.t22.desc,Tryz.t22.size,Tryz.t22.bytes,zl Tryz.t22,false⟩),
  (23,⟨Tryz.t23.desc,Tryz.t23.size,Tryz.t23.bytes,zl Tryz.t23,false⟩),
  (24,⟨Tryz.t24.desc,Tryz.t24.size,Tryz.t24.bytes,zl Tryz.t24,false⟩),
  (26,⟨Tryz.t25.desc,Tryz.t26.size,Tryz.t26.bytes,zl Tryz.t26,false⟩),
  (27,⟨Tryz.t27.desc,Tryz.t27.size,Tryz.t27.bytes,zl Tryz.t27,false⟩),
  (29,⟨Tryz.t28.desc,Tryz.t29.size,Tryz.t29.bytes,zl Tryz.t29,false⟩),
  (34,⟨Tryz.t3.desc,Tryz.t34.size,Tryz.t34.bytes,zl Tryz.t34,false⟩),
  (37,⟨Tryz.t37.desc,Tryz.t37.size,Tryz.t37.bytes,zl Tryz.t37,false⟩),
  (40,⟨Tryz.t40.desc,Tryz.t40.size,Tryz.t40.bytes,zl Tryz.t40,false⟩),
  (47,⟨Tryz.t47.desc,Tryz.t47.size,Tryz.t47.bytes,zl Tryz.t47,false⟩),
  (51,⟨Tryz.t51.desc,Tryz.t51.size,Tryz.t51.bytes,zl Tryz.t51,false⟩),
  (58,⟨Tryz.t3.desc,Tryz.t58.size,Tryz.t58.bytes,zl Tryz.t58,false⟩),
  (60,⟨Tryz.t59.desc,Tryz.t60.size,Tryz.t60.bytes,zl Tryz.t60,true⟩),
  (63,⟨Tryz.t63.desc,Tryz.t63.size,Tryz.t63.bytes,zl Tryz.t63,false⟩),
  (70,⟨Tryz.t3.desc,Tryz.t70.size,Tryz.t70.bytes,zl Tryz.t70,false⟩),
  (71,⟨Tryz.t71.desc,Tryz.t71.size,Tryz.t71.bytes,zl Tryz.t71,false⟩),
  (73,⟨Tryz.t72.desc,Tryz.t73.size,Tryz.t73.bytes,zl Tryz.t73,false⟩),
  (75,⟨Tryz.t75.desc,Tryz.t75.size,Tryz.t75.bytes,zl Tryz.t75,true⟩),
  (76,⟨Tryz.t76.desc,Tryz.t76.size,Tryz.t76.bytes,zl Tryz.t76,false⟩),
  (78,⟨Tryz.t77.desc,Tryz.t78.size,Tryz.t78.bytes,zl Tryz.t78,false⟩),
  (79,⟨Tryz.t79.desc,Tryz.t79.size,Tryz.t79.bytes,zl Tryz.t79,true⟩),
  (88,⟨Tryz.t3.desc,Tryz.t88.size,Tryz.t88.bytes,zl Tryz.t88,false⟩),
  (90,⟨Tryz.t89.desc,Tryz.t90.size,Tryz.t90.bytes,zl Tryz.t90,true⟩),
  (91,⟨Tryz.t91.desc,Tryz.t91.size,Tryz.t91.bytes,zl Tryz.t91,false⟩),
  (94,⟨Tryz.t94.desc,Tryz.t94.size,Tryz.t94.bytes,zl Tryz.t94,false⟩),
  (98,⟨Tryz.t97.desc,Tryz.t98.size,Tryz.t98.bytes,zl Tryz.t98,true⟩),
  (99,⟨Tryz.t99.desc,Tryz.t99.size,Tryz.t99.bytes,zl Tryz.t99,false⟩),
  (102,⟨Tryz.t102.desc,Tryz.t102.size,Tryz.t102.bytes,zl Tryz.t102,false⟩),
  (103,⟨Tryz.t103.desc,Tryz.t103.size,Tryz.t103.bytes,zl Tryz.t103,false⟩),
  (108,⟨Tryz.t77.desc,Tryz.t108.size,Tryz.t108.bytes,zl Tryz.t108,false⟩),
  (119,⟨Tryz.t118.desc,Tryz.t119.size,Tryz.t119.bytes,zl Tryz.t119,true⟩),
  (121,⟨Tryz.t121.desc,Tryz.t121.size,Tryz.t121.bytes,zl Tryz.t121,false⟩),
  (133,⟨Tryz.t133.desc,Tryz.t133.size,Tryz.t133.bytes,zl Tryz.t133,false⟩),
  (136,⟨Tryz.t136.desc,Tryz.t136.size,Tryz.t136.bytes,zl Tryz.t136,false⟩),
  (144,⟨Tryz.t144.desc,Tryz.t144.size,Tryz.t144.bytes,zl Tryz.t144,false⟩),
  (146,⟨Tryz.t145.desc,Tryz.t146.size,Tryz.t146.bytes,zl Tryz.t146,false⟩),
  (158,⟨Tryz.t158.desc,Tryz.t158.size,Tryz.t158.bytes,zl Tryz.t158,false⟩),
  (177,⟨Tryz.t177.desc,Tryz.t177.size,Tryz.t177.bytes,zl Tryz.t177,false⟩),
  (178,⟨Tryz.t178.desc,Tryz.t178.size,Tryz.t178.bytes,zl Tryz.t178,false⟩)]
theorem tT:lD Tryz.prog TT:=⟨fC (by kernel_rfl) (by kernel_rfl) (by kernel_rfl),⟨ic,bZ (by kernel_rfl)⟩,fC (by kernel_rfl) (by kernel_rfl) (by kernel_rfl),⟨ic,bZ (by kernel_rfl)⟩,fC (by kernel_rfl) (by kernel_rfl) (by kernel_rfl),⟨ic,bZ (by kernel_rfl)⟩,fC (by kernel_rfl) (by kernel_rfl) (by kernel_rfl),⟨ic,bZ (by kernel_rfl)⟩,fC (by kernel_rfl) (by kernel_rfl) (by kernel_rfl),⟨ic,bZ (by kernel_rfl)⟩,fC (by kernel_rfl) (by kernel_rfl) (by kernel_rfl),⟨ic,bZ (by kernel_rfl)⟩,fC (by kernel_rfl) (by kernel_rfl) (by kernel_rfl),⟨ic,bZ (by kernel_rfl)⟩,fC (by kernel_rfl) (by kernel_rfl) (by kernel_rfl),⟨ic,bZ (by kernel_rfl)⟩,fC (by kernel_rfl) (by kernel_rfl) (by kernel_rfl),⟨ic,bZ (by kernel_rfl)⟩,fC (by kernel_rfl) (by kernel_rfl) (by kernel_rfl),⟨ic,bZ (by kernel_rfl)⟩,fC (by kernel_rfl) (by kernel_rfl) (by kernel_rfl),⟨ic,bZ (by kernel_rfl)⟩,fC (by kernel_rfl) (by kernel_rfl) (by kernel_rfl),⟨ic,bZ (by kernel_rfl)⟩,fC (by kernel_rfl) (by kernel_rfl) (by kernel_rfl),⟨ic,bZ (by kernel_rfl)⟩,fC (by kernel_rfl) (by kernel_rfl) (by kernel_rfl),⟨ic,bZ (by kernel_rfl)⟩,fC (by kernel_rfl) (by kernel_rfl) (by kernel_rfl),⟨ic,bZ (by kernel_rfl)⟩,fC (by kernel_rfl) (by kernel_rfl) (by kernel_rfl),⟨fun _=> ⟨by kernel_rfl,by kernel_rfl⟩,bZ (by kernel_rfl)⟩,fC (by kernel_rfl) (by kernel_rfl) (by kernel_rfl),⟨ic,bZ (by kernel_rfl)⟩,fC (by kernel_rfl) (by kernel_rfl) (by kernel_rfl),⟨ic,bZ (by kernel_rfl)⟩,fC (by kernel_rfl) (by kernel_rfl) (by kernel_rfl),⟨ic,bZ (by kernel_rfl)⟩,fC (by kernel_rfl) (by kernel_rfl) (by kernel_rfl),⟨ic,bZ (by kernel_rfl)⟩,fC (by kernel_rfl) (by kernel_rfl) (by kernel_rfl),⟨fun _=> ⟨by kernel_rfl,by kernel_rfl⟩,bZ (by kernel_rfl)⟩,fC (by kernel_rfl) (by kernel_rfl) (by kernel_rfl),⟨ic,bZ (by kernel_rfl)⟩,fC (by kernel_rfl) (by kernel_rfl) (by kernel_rfl),⟨ic,bZ (by kernel_rfl)⟩,fC (by kernel_rfl) (by kernel_rfl) (by kernel_rfl),⟨fun _=> ⟨by kernel_rfl,by kernel_rfl⟩,bZ (by kernel_rfl)⟩,fC (by kernel_rfl) (by kernel_rfl) (by kernel_rfl),⟨ic,bZ (by kernel_rfl)⟩,fC (by kernel_rfl) (by kernel_rfl) (by kernel_rfl),⟨fun _=> ⟨by kernel_rfl,by kernel_rfl⟩,bZ (by kernel_rfl)⟩,fC (by kernel_rfl) (by kernel_rfl) (by kernel_rfl),⟨ic,bZ (by kernel_rfl)⟩,fC (by kernel_rfl) (by kernel_rfl) (by kernel_rfl),⟨ic,bZ (by kernel_rfl)⟩,fC (by kernel_rfl) (by kernel_rfl) (by kernel_rfl),⟨fun _=> ⟨by kernel_rfl,by kernel_rfl⟩,bZ (by kernel_rfl)⟩,fC (by kernel_rfl) (by kernel_rfl) (by kernel_rfl),⟨ic,bZ (by kernel_rfl)⟩,fC (by kernel_rfl) (by kernel_rfl) (by kernel_rfl),⟨ic,bZ (by kernel_rfl)⟩,fC (by kernel_rfl) (by kernel_rfl) (by kernel_rfl),⟨ic,bZ (by kernel_rfl)⟩,fC (by kernel_rfl) (by kernel_rfl) (by kernel_rfl),⟨ic,bZ (by kernel_rfl)⟩,fC (by kernel_rfl) (by kernel_rfl) (by kernel_rfl),⟨fun _=> ⟨by kernel_rfl,by kernel_rfl⟩,bZ (by kernel_rfl)⟩,fC (by kernel_rfl) (by kernel_rfl) (by kernel_rfl),⟨ic,bZ (by kernel_rfl)⟩,fC (by kernel_rfl) (by kernel_rfl) (by kernel_rfl),⟨ic,bZ (by kernel_rfl)⟩,fC (by kernel_rfl) (by kernel_rfl) (by kernel_rfl),⟨ic,bZ (by kernel_rfl)⟩,fC (by kernel_rfl) (by kernel_rfl) (by kernel_rfl),⟨ic,bZ (by kernel_rfl)⟩,fC (by kernel_rfl) (by kernel_rfl) (by kernel_rfl),⟨ic,bZ (by kernel_rfl)⟩,fC (by kernel_rfl) (by kernel_rfl) (by kernel_rfl),⟨ic,bZ (by kernel_rfl)⟩,fC (by kernel_rfl) (by kernel_rfl) (by kernel_rfl),⟨ic,bZ (by kernel_rfl)⟩,fC (by kernel_rfl) (by kernel_rfl) (by kernel_rfl),⟨ic,bZ (by kernel_rfl)⟩,trivial⟩
theorem mX:Tryz.prog.follows .mixedOrders=true:=by kernel_rfl
def Ba:Go.Shelf.Ren:=⟨fun|6=>54|14=>88|15=>89|20=>100|21=>101|22=>102|23=>103|24=>104|25=>105|26=>106|27=>107|28=>108|29=>109|46=>115|47=>116|48=>117|49=>118|50=>119|57=>124|n=>n,fun|0=>0|3=>3|4=>4|5=>5|9=>9|22=>51|24=>79|25=>111|39=>155|45=>165|46=>166|50=>152|53=>172|55=>174|66=>182|70=>186|76=>192|77=>193|n=>n,fun n=>n⟩
theorem Hr:Go.Proofs.SlLaysF0.n6 Tryz.prog Ba:=⟨by kernel_rfl,⟨Tryz.f54.name,by kernel_rfl,Tryz.func54.trans (congrArg some (by kernel_rfl))⟩,⟨Tryz.f88.name,by kernel_rfl,Tryz.func88.trans (congrArg some (by kernel_rfl))⟩,Tryz.func89.trans (congrArg some (by kernel_rfl)),⟨Tryz.f100.name,by kernel_rfl,Tryz.func100.trans (congrArg some (by kernel_rfl))⟩,⟨Tryz.f101.name,by kernel_rfl,Tryz.func101.trans (congrArg some (by kernel_rfl))⟩,⟨Tryz.f102.name,by kernel_rfl,Tryz.func102.trans (congrArg some (by kernel_rfl))⟩,⟨Tryz.f103.name,by kernel_rfl,Tryz.func103.trans (congrArg some (by kernel_rfl))⟩,⟨Tryz.f104.name,by kernel_rfl,Tryz.func104.trans (congrArg some (by kernel_rfl))⟩,⟨Tryz.f105.name,by kernel_rfl,Tryz.func105.trans (congrArg some (by kernel_rfl))⟩,⟨Tryz.f106.name,by kernel_rfl,Tryz.func106.trans (congrArg some (by kernel_rfl))⟩,⟨Tryz.f107.name,by kernel_rfl,Tryz.func107.trans (congrArg some (by kernel_rfl))⟩,Tryz.func108.trans (congrArg some (by kernel_rfl)),Tryz.func109.trans (congrArg some (by kernel_rfl)),⟨Tryz.f115.name,by kernel_rfl,Tryz.func115.trans (congrArg some (by kernel_rfl))⟩,Tryz.func116.trans (congrArg some (by kernel_rfl)),Tryz.func117.trans (congrArg some (by kernel_rfl)),⟨Tryz.f118.name,by kernel_rfl,Tryz.func118.trans (congrArg some (by kernel_rfl))⟩,⟨Tryz.f119.name,by kernel_rfl,Tryz.func119.trans (congrArg some (by kernel_rfl))⟩,⟨Tryz.f124.name,by kernel_rfl,Tryz.func124.trans (congrArg some (by kernel_rfl))⟩,Tryz.underlying0,Tryz.isAgg0,Tryz.sizeOf0,Tryz.zeroValue0,Tryz.underlying3,Tryz.isAgg3,Tryz.sizeOf3,Tryz.zeroValue3,Tryz.underlying4,Tryz.isAgg4,Tryz.sizeOf4,Tryz.zeroValue4,Tryz.underlying5,Tryz.isAgg5,Tryz.sizeOf5,Tryz.zeroValue5,Tryz.underlying9,Tryz.isAgg9,Tryz.sizeOf9,Tryz.zeroValue9,Tryz.underlying51,Tryz.isAgg51,Tryz.sizeOf51,Tryz.zeroValue51,Tryz.underlying111,Tryz.isAgg111,Tryz.sizeOf111,Tryz.zeroValue111,Tryz.underlying155,Tryz.isAgg155,Tryz.sizeOf155,Tryz.zeroValue155,Tryz.underlying165,Tryz.isAgg165,Tryz.sizeOf165,Tryz.zeroValue165,Tryz.underlying166,Tryz.isAgg166,Tryz.sizeOf166,Tryz.zeroValue166,Tryz.underlying152,Tryz.isAgg152,Tryz.sizeOf152,Tryz.zeroValue152,Tryz.underlying172,Tryz.isAgg172,Tryz.sizeOf172,Tryz.zeroValue172,Tryz.underlying174,Tryz.isAgg174,Tryz.sizeOf174,Tryz.zeroValue174,Tryz.underlying182,Tryz.isAgg182,Tryz.sizeOf182,Tryz.zeroValue182,Tryz.underlying186,Tryz.isAgg186,Tryz.sizeOf186,Tryz.zeroValue186,Tryz.underlying192,Tryz.isAgg192,Tryz.sizeOf192,Tryz.zeroValue192,Tryz.underlying193,Tryz.isAgg193,Tryz.sizeOf193,Tryz.zeroValue193⟩
theorem KG (w:World):(isAgg (Ba.t 24)).run Tryz.prog w= .ok true w:=Tryz.isAgg79 w
theorem I8 (w:World):(Go.sizeOf (Ba.t 24)).run Tryz.prog w= .ok 2 w:=Tryz.sizeOf79 w
section
variable (p:au) (i:Int)
abbrev k1:List CV:=[(cI p.buses),(.d (bg none 5 Source.cell p.sources)),(.d (bg none 6 Link.cell p.links)),(.d (bg none 4 aL.cell p.racks))]
abbrev k0:List SV:=[(.agg (k1 p))]
abbrev k2:=((0:Int)≤i∧i<(p.links.length:Int))
abbrev k3:=(IntKind.wrap .i64 (i+1))
end
theorem xR (p:au):gG Tryz.prog 5 (k0 p) [] (fun r=>(vB r)) (fun _=>[]) (mE p):=
  iP tT mX Tryz.func5 (
  .rg {fr:=[(0,1)],fz:=[1]} []<| .r<| .it (.r<| .e true)
  (.r<| .lp (σ:=Int) (β:=Unit) (0) [] [] ⟨[1],[],fun i=>[(3,(vI i))],fun i=>[]⟩ ⟨[],[],fun _=>[],fun _=>[]⟩
  (fun i=> .r<| .it (.a1 (k2 p i)<| .r<| .it (.r<| .e (.done (.ret true)))
  (.r<| .e (.next (k3 i))))
  (.e (.done (.brk ()))))
  (fun _=> .r<| .e false)))
theorem aB (n:Int) (u0:Int) (u1:Int):gG Tryz.prog 41 [(sI n),(sI u0),(sI u1)] [] (fun r=>(vB r)) (fun _=>[]) (aF n u0 u1):=
  iP tT mX Tryz.func41 (
  .r<| .r<| .e (bif (decide (u0≤n))then(decide (n≤u1))else false))
theorem vg (p:au):gG Tryz.prog 43 (k0 p) [] (fun r=>(vD (.fn 76 1 (ve [(G7 [(.int .i64 r.1),(bg none 5 Source.cell r.2.1),(bg none 6 Link.cell r.2.2.1),(bg none 4 aL.cell r.2.2.2)] 0)])))) (fun _=>[]) (lV p):=
  iP tT mX Tryz.func43 (
  .rg {fr:=[(0,1)],fz:=[1]} []<| .r<| .e (p.buses,p.sources,p.links,p.racks))
theorem wX (p:au):gG Tryz.prog 45 (k0 p) [] (fun r=>(vD (.fn 79 1 (ve [(G7 [(.int .i64 r.1),(bg none 5 Source.cell r.2.1),(bg none 6 Link.cell r.2.2.1),(bg none 4 aL.cell r.2.2.2)] 0)])))) (fun _=>[]) (oL p):=
  iP tT mX Tryz.func45 (
  .rg {fr:=[(0,1)],fz:=[1]} []<| .r<| .e (p.buses,p.sources,p.links,p.racks))
theorem xh (p:au):gG Tryz.prog 47 (k0 p) [] (fun r=>(vD (.fn 82 1 (ve [(G7 [(.int .i64 r.1),(bg none 5 Source.cell r.2.1),(bg none 6 Link.cell r.2.2.1),(bg none 4 aL.cell r.2.2.2)] 0)])))) (fun _=>[]) (om p):=
  iP tT mX Tryz.func47 (
  .rg {fr:=[(0,1)],fz:=[1]} []<| .r<| .e (p.buses,p.sources,p.links,p.racks))
section
variable (x1:Int) (u2:(List Source)) (u3:(List Link)) (u4:(List aL)) (r_:Bool) (u0:Bool) (u1:Bool) (u5:Bool) (u6:Bool)
abbrev k4:DV:=(G7 [(.int .i64 x1),(bg none 5 Source.cell u2),(bg none 6 Link.cell u3),(bg none 4 aL.cell u4)] 0)
abbrev k5:=(IntKind.wrap .i64 (x1 - 1))
abbrev k6:=(bif (bif (bif (bif r_ then u0 else false)then u1 else false)then u5 else false)then u6 else false)
end
theorem qJ (x:Source) (x1:Int) (u2:(List Source)) (u3:(List Link)) (u4:(List aL)):gG Tryz.prog 76 [(.agg [(cI x.bus),(cI x.kind),(cI x.power),(cI x.sync),(cI x.ohm)]),(sD (k4 x1 u2 u3 u4))] [] (fun r=>(vB r)) (fun _=>[]) (iO x x1 u2 u3 u4):=
  iP tT mX Tryz.func76 (
  .rg {fr:=[(0,1)],fz:=[1]} []<| .cl 5 (aB x.bus 0 (k5 x1)) fun r_=> .cg 9 [(r_,true)] (aB x.kind 1 3) fun u0=> .cg 14 [((bif r_ then u0 else false),true)] (aB x.power 1 100000) fun u1=> .cg 19 [((bif (bif r_ then u0 else false)then u1 else false),true)] (aB x.sync 0 8) fun u5=> .cg 24 [((bif (bif (bif r_ then u0 else false)then u1 else false)then u5 else false),true)] (aB x.ohm 10 100000) fun u6=> .r<| .e (k6 r_ u0 u1 u5 u6))
section
variable (x1:Int) (u0:(List Source)) (u1:(List Link)) (u2:(List aL))
abbrev k8:=(ve [(k4 x1 u0 u1 u2)])
abbrev k7:DV:=(G7 [(.fn 76 1 (k8 x1 u0 u1 u2))] 0)
end
theorem uM (x:Source) (x1:Int) (u0:(List Source)) (u1:(List Link)) (u2:(List aL)):gG Tryz.prog 75 [(.agg [(cI x.bus),(cI x.kind),(cI x.power),(cI x.sync),(cI x.ohm)]),(sD (k7 x1 u0 u1 u2))] [] (fun r=>(vB r)) (fun _=>[]) (mo x x1 u0 u1 u2):=
  iP tT mX Tryz.func75 (
  .rg {fr:=[(0,1)],fz:=[1]} []<| .cl 2 (qJ x x1 u0 u1 u2) fun r_=> .r<| .e (!r_))
section
variable (s_:(List Source)) (f_:Int) (u0:(List Source)) (u1:(List Link)) (u2:(List aL))
abbrev k9:List SV:=[(sD (bg none 5 Source.cell s_)),(sD (.fn 75 1 (ve [(k7 f_ u0 u1 u2)])))]
end
theorem pq (s_:(List Source)) (f_:Int) (u0:(List Source)) (u1:(List Link)) (u2:(List aL)):gG Tryz.prog 96 (k9 s_ f_ u0 u1 u2) [] (fun r=>(vI r)) (fun _=>[]) (jg s_ f_ u0 u1 u2):=
  iP tT mX Tryz.func96 (
  .r<| .r<| .lp (σ:=Int) (β:=Unit) (0) [] [] ⟨[0,1,7],[],fun t8=>[(8,(vI t8))],fun t8=>[]⟩ ⟨[],[],fun _=>[],fun _=>[]⟩
  (fun t8=> .r<| .it (.r<| .cl 5 (uM (at' s_ t8.toNat) f_ u0 u1 u2) fun r_=> .a1 ((0:Int)≤t8∧t8<(s_.length:Int))<| .rg {} [0,1]<| .it (.r<| .e (.done (.ret t8)))
  (.r<| .e (.next (k3 t8))))
  (.e (.done (.brk ()))))
  (fun _=> .r<| .e (-1)))
theorem mP (s_:(List Source)) (f_:Int) (u0:(List Source)) (u1:(List Link)) (u2:(List aL)):gG Tryz.prog 74 (k9 s_ f_ u0 u1 u2) [] (fun r=>(vB r)) (fun _=>[]) (eD s_ f_ u0 u1 u2):=
  iP tT mX Tryz.func74 (
  .r<| .cl 2 (pq s_ f_ u0 u1 u2) fun r_=> .r<| .e (decide (0≤r_)))
theorem xg (l:(List Source)) (u0:Int) (u1:Int) (u2:(List Source)) (u3:(List Link)) (u4:(List aL)):gG Tryz.prog 42 [(sD (bg none 5 Source.cell l)),(sI u0),(sD (.fn 76 1 (k8 u1 u2 u3 u4)))] [] (fun r=>(vB r)) (fun _=>[]) (lm l u0 u1 u2 u3 u4):=
  iP tT mX Tryz.func42 (
  .rg {fr:=[(0,1)],fz:=[1]} []<| .cg 7 [((decide ((l.length:Int)≤u0)),true)] (mP l u1 u2 u3 u4) fun r_=> .r<| .e (bif (decide ((l.length:Int)≤u0))then(!r_)else false))
section
variable (x:Link) (u0:Int)
abbrev k10:List CV:=[(cI x.a),(cI x.b),(cI x.kind),(cI x.most),(cI x.ohm),(.d (bg none 2 dG.cell x.trip))]
abbrev k11:=((decide (((at' x.trip u0.toNat).amps)≤((at' x.trip ((k5 u0).toNat)).amps))),false)
end
theorem uw (x:Link) (x1:Int) (u3:(List Source)) (u4:(List Link)) (u5:(List aL)):gG Tryz.prog 79 [(.agg (k10 x)),(sD (k4 x1 u3 u4 u5))] [] (fun r=>(vB r)) (fun _=>[]) (jA x x1 u3 u4 u5):=
  iP tT mX Tryz.func79 (
  .rg {fr:=[(0,5)]} []<| .cl 5 (aB x.a 0 (k5 x1)) fun r_=> .cg 13 [((!r_),false)] (aB x.b 0 (k5 x1)) fun u1=> .cg 26 [((bif (bif (!r_)then true else(!u1))then true else(decide (x.a=x.b))),false)] (aB x.kind 1 3) fun u6=> .cg 32 [((bif (bif (bif (!r_)then true else(!u1))then true else(decide (x.a=x.b)))then true else(!u6)),false)] (aB x.most 1 100000) fun u8=> .cg 38 [((bif (bif (bif (bif (!r_)then true else(!u1))then true else(decide (x.a=x.b)))then true else(!u6))then true else(!u8)),false)] (aB x.ohm 10 100000) fun u9=> .r<| .it (.r<| .e false)
  (.rg {fz:=[5]} []<| .lp (σ:=Int) (β:=Unit) (0) [] [] ⟨[2,48,49],[],fun u0=>[(50,(vI u0))],fun u0=>[]⟩ ⟨[2],[],fun _=>[],fun _=>[]⟩
  (fun u0=> .r<| .it (.a1 ((0:Int)≤u0∧u0<(x.trip.length:Int))<| .rg {fr:=[(3,9)],fz:=[9]} []<| .cl 2 (aB ((at' x.trip u0.toNat).amps) 1 1000000) fun u2=> .cg 7 [((!u2),false)] (aB ((at' x.trip u0.toNat).millis) 1 100000) fun u7=> .a2 ((gB [((decide (0<u0)),true),((bif (!u2)then true else(!u7)),false)]=true→(0:Int)≤(k5 u0)∧(k5 u0)<(x.trip.length:Int))) ((gB [(k11 x u0),((decide (0<u0)),true),((bif (!u2)then true else(!u7)),false)]=true→(0:Int)≤(k5 u0)∧(k5 u0)<(x.trip.length:Int)))<| .rg {} [3,2,0,1]<| .it (.r<| .e (.done (.ret false)))
  (.r<| .e (.next (k3 u0))))
  (.e (.done (.brk ()))))
  (fun _=> .r<| .e (bif (decide ((x.trip.length:Int)≤6))then(bif (decide ((x.trip.length:Int)=0))then true else(decide (x.kind=3)))else false))))
section
variable (x1:Int) (u0:(List Source)) (u1:(List Link)) (u2:(List aL))
abbrev k12:DV:=(G7 [(.fn 79 1 (k8 x1 u0 u1 u2))] 0)
end
theorem qi (x:Link) (x1:Int) (u0:(List Source)) (u1:(List Link)) (u2:(List aL)):gG Tryz.prog 78 [(.agg (k10 x)),(sD (k12 x1 u0 u1 u2))] [] (fun r=>(vB r)) (fun _=>[]) (jM x x1 u0 u1 u2):=
  iP tT mX Tryz.func78 (
  .rg {fr:=[(0,1)],fz:=[1]} []<| .cl 2 (uw x x1 u0 u1 u2) fun r_=> .r<| .e (!r_))
section
variable (s_:(List Link)) (f_:Int) (u0:(List Source)) (u1:(List Link)) (u2:(List aL))
abbrev k13:List SV:=[(sD (bg none 6 Link.cell s_)),(sD (.fn 78 1 (ve [(k12 f_ u0 u1 u2)])))]
end
theorem mQ (s_:(List Link)) (f_:Int) (u0:(List Source)) (u1:(List Link)) (u2:(List aL)):gG Tryz.prog 97 (k13 s_ f_ u0 u1 u2) [] (fun r=>(vI r)) (fun _=>[]) (gT s_ f_ u0 u1 u2):=
  iP tT mX Tryz.func97 (
  .r<| .r<| .lp (σ:=Int) (β:=Unit) (0) [] [] ⟨[0,1,7],[],fun t8=>[(8,(vI t8))],fun t8=>[]⟩ ⟨[],[],fun _=>[],fun _=>[]⟩
  (fun t8=> .r<| .it (.r<| .cl 5 (qi (at' s_ t8.toNat) f_ u0 u1 u2) fun r_=> .a1 ((0:Int)≤t8∧t8<(s_.length:Int))<| .rg {} [0,1]<| .it (.r<| .e (.done (.ret t8)))
  (.r<| .e (.next (k3 t8))))
  (.e (.done (.brk ()))))
  (fun _=> .r<| .e (-1)))
theorem lC (s_:(List Link)) (f_:Int) (u0:(List Source)) (u1:(List Link)) (u2:(List aL)):gG Tryz.prog 77 (k13 s_ f_ u0 u1 u2) [] (fun r=>(vB r)) (fun _=>[]) (dz s_ f_ u0 u1 u2):=
  iP tT mX Tryz.func77 (
  .r<| .cl 2 (mQ s_ f_ u0 u1 u2) fun r_=> .r<| .e (decide (0≤r_)))
theorem uj (l:(List Link)) (u0:Int) (u1:Int) (u2:(List Source)) (u3:(List Link)) (u4:(List aL)):gG Tryz.prog 44 [(sD (bg none 6 Link.cell l)),(sI u0),(sD (.fn 79 1 (k8 u1 u2 u3 u4)))] [] (fun r=>(vB r)) (fun _=>[]) (jX l u0 u1 u2 u3 u4):=
  iP tT mX Tryz.func44 (
  .rg {fr:=[(0,1)],fz:=[1]} []<| .cg 7 [((decide ((l.length:Int)≤u0)),true)] (lC l u1 u2 u3 u4) fun r_=> .r<| .e (bif (decide ((l.length:Int)≤u0))then(!r_)else false))
section
variable (x:aL)
abbrev k14:List CV:=[(cI x.feeds.e0),(cI x.feeds.e1),(cI x.power),(cI x.paths)]
end
theorem vZ (x:aL):gG Tryz.prog 83 [(.agg (k14 x))] [] (fun r=>(vI r)) (fun _=>[]) (kD x):=
  iP tT mX Tryz.func83 (
  .rg {fr:=[(0,1)],fz:=[1]} []<| .rg {} [.pf ⟨(0:Int)≤1∧(1:Int)<(2:Nat),(by decide)⟩]<| .it (.r<| .e 1)
  (.r<| .e 2))
section
variable (r_:Bool) (u0:Bool) (x:aL) (u1:Bool)
abbrev k16:=(bif (bif (bif r_ then u0 else false)then(!decide (x.feeds.e0=x.feeds.e1))else false)then u1 else false)
abbrev k15:=((k16 r_ u0 x u1),true)
end
theorem uN (x:aL) (x1:Int) (u2:(List Source)) (u3:(List Link)) (u4:(List aL)):gG Tryz.prog 82 [(.agg (k14 x)),(sD (k4 x1 u2 u3 u4))] [] (fun r=>(vB r)) (fun _=>[]) (jB x x1 u2 u3 u4):=
  iP tT mX Tryz.func82 (
  .rg {fr:=[(0,1)],fz:=[1]} []<| .rg {} [.pf ⟨(0:Int)≤0∧(0:Int)<(2:Nat),(by decide)⟩, .pf ⟨(0:Int)≤1∧(1:Int)<(2:Nat),(by decide)⟩]<| .cl 4 (aB x.feeds.e0 0 (k5 x1)) fun r_=> .cg 10 [(r_,true)] (aB x.feeds.e1 (-1) (k5 x1)) fun u0=> .cg 20 [((bif (bif r_ then u0 else false)then(!decide (x.feeds.e0=x.feeds.e1))else false),true)] (aB x.power 1 100000) fun u1=> .cg 26 [(k15 r_ u0 x u1)] (vZ x) fun u5=> .cg 27 [(k15 r_ u0 x u1)] (aB x.paths 0 u5) fun u6=> .r<| .e (bif (k16 r_ u0 x u1)then u6 else false))
section
variable (x1:Int) (u0:(List Source)) (u1:(List Link)) (u2:(List aL))
abbrev k17:DV:=(G7 [(.fn 82 1 (k8 x1 u0 u1 u2))] 0)
end
theorem qc (x:aL) (x1:Int) (u0:(List Source)) (u1:(List Link)) (u2:(List aL)):gG Tryz.prog 81 [(.agg (k14 x)),(sD (k17 x1 u0 u1 u2))] [] (fun r=>(vB r)) (fun _=>[]) (jO x x1 u0 u1 u2):=
  iP tT mX Tryz.func81 (
  .rg {fr:=[(0,1)],fz:=[1]} []<| .cl 2 (uN x x1 u0 u1 u2) fun r_=> .r<| .e (!r_))
section
variable (s_:(List aL)) (f_:Int) (u0:(List Source)) (u1:(List Link)) (u2:(List aL))
abbrev k18:List SV:=[(sD (bg none 4 aL.cell s_)),(sD (.fn 81 1 (ve [(k17 f_ u0 u1 u2)])))]
end
theorem mZ (s_:(List aL)) (f_:Int) (u0:(List Source)) (u1:(List Link)) (u2:(List aL)):gG Tryz.prog 98 (k18 s_ f_ u0 u1 u2) [] (fun r=>(vI r)) (fun _=>[]) (gN s_ f_ u0 u1 u2):=
  iP tT mX Tryz.func98 (
  .r<| .r<| .lp (σ:=Int) (β:=Unit) (0) [] [] ⟨[0,1,7],[],fun t8=>[(8,(vI t8))],fun t8=>[]⟩ ⟨[],[],fun _=>[],fun _=>[]⟩
  (fun t8=> .r<| .it (.r<| .cl 5 (qc (⟨((at' s_ t8.toNat).feeds),(at' s_ t8.toNat).power,(at' s_ t8.toNat).paths⟩:aL) f_ u0 u1 u2) fun r_=> .a1 ((0:Int)≤t8∧t8<(s_.length:Int))<| .rg {} [0,1]<| .it (.r<| .e (.done (.ret t8)))
  (.r<| .e (.next (k3 t8))))
  (.e (.done (.brk ()))))
  (fun _=> .r<| .e (-1)))
theorem kZ (s_:(List aL)) (f_:Int) (u0:(List Source)) (u1:(List Link)) (u2:(List aL)):gG Tryz.prog 80 (k18 s_ f_ u0 u1 u2) [] (fun r=>(vB r)) (fun _=>[]) (dA s_ f_ u0 u1 u2):=
  iP tT mX Tryz.func80 (
  .r<| .cl 2 (mZ s_ f_ u0 u1 u2) fun r_=> .r<| .e (decide (0≤r_)))
theorem uL (l:(List aL)) (u0:Int) (u1:Int) (u2:(List Source)) (u3:(List Link)) (u4:(List aL)):gG Tryz.prog 46 [(sD (bg none 4 aL.cell l)),(sI u0),(sD (.fn 82 1 (k8 u1 u2 u3 u4)))] [] (fun r=>(vB r)) (fun _=>[]) (jC l u0 u1 u2 u3 u4):=
  iP tT mX Tryz.func46 (
  .rg {fr:=[(0,1)],fz:=[1]} []<| .cg 7 [((decide ((l.length:Int)≤u0)),true)] (kZ l u1 u2 u3 u4) fun r_=> .r<| .e (bif (decide ((l.length:Int)≤u0))then(!r_)else false))
theorem iM (p:au):gG Tryz.prog 9 (k0 p) [] (fun r=>(vI r)) (fun _=>[]) (dO p):=
  iP tT mX Tryz.func9 (
  .rg {fr:=[(0,1)],fz:=[1]} []<| .cl 2 (aB p.buses 1 24) fun r_=> .r<| .it (.r<| .e 10)
  (.cl 3 (vg p) fun u0=> .cl 4 (xg p.sources 8 u0.1 u0.2.1 u0.2.2.1 u0.2.2.2) fun u3=> .r<| .it (.r<| .e 11)
  (.cl 3 (wX p) fun u1=> .cl 4 (uj p.links 40 u1.1 u1.2.1 u1.2.2.1 u1.2.2.2) fun u4=> .r<| .it (.r<| .e 12)
  (.cl 3 (xh p) fun u2=> .cl 4 (uL p.racks 24 u2.1 u2.2.1 u2.2.2.1 u2.2.2.2) fun u5=> .r<| .it (.r<| .e 13)
  (.r<| .e 0)))))
section
variable (s_:State) (p:au) (u0:Int)
abbrev k20:List CV:=[(.d (bg none 1 af s_.closed)),(.d (bg none 1 af s_.locked)),(.d (bg none 1 af s_.badLink)),(.d (bg none 1 af s_.on_)),(.d (bg none 1 af s_.badSource)),(.d (bg none 1 af s_.earthed)),(.d (bg none 1 af s_.badBus))]
abbrev k19:List SV:=[(.agg (k1 p)),(.agg (k20 s_))]
abbrev k21:=(⟨s_.closed,(p.links.length:Int)⟩:aX)
abbrev k22:=(⟨s_.locked,(p.links.length:Int)⟩:aX)
abbrev k23:=(⟨s_.badLink,(p.links.length:Int)⟩:aX)
abbrev k24:=(⟨s_.on_,(p.sources.length:Int)⟩:aX)
abbrev k25:=(⟨s_.badSource,(p.sources.length:Int)⟩:aX)
abbrev k26:=(av aX.cell [(k21 s_ p),(k22 s_ p),(k23 s_ p),(k24 s_ p),(k25 s_ p),(⟨s_.earthed,p.buses⟩:aX),(⟨s_.badBus,p.buses⟩:aX)])
abbrev k27:=((gB [((decide (((at' p.links u0.toNat).kind)=1)),true)]=true→(0:Int)≤u0∧u0<(s_.closed.length:Int)))
abbrev k28:=((gB [((!(at' s_.closed u0.toNat)),false),((decide (((at' p.links u0.toNat).kind)=1)),true)]=true→(0:Int)≤u0∧u0<(s_.locked.length:Int)))
end
theorem bV (p:au) (s_:State):gG Tryz.prog 11 (k19 s_ p) [] (fun r=>(vI r)) (fun _=>[]) (bA p s_):=
  iP tT mX Tryz.func11 (
  .rg {fr:=[(0,11),(1,12)]} []<| .cl 1 (iM p) fun r_=> .r<| .r<| .it (.r<| .e r_)
  (.r<| .rg {an:=[(30, .arr [(k21 s_ p),(k22 s_ p),(k23 s_ p),(k24 s_ p),(k25 s_ p),(⟨s_.earthed,p.buses⟩:aX),(⟨s_.badBus,p.buses⟩:aX)].length (k26 s_ p))],fr:=[(30,13)],fz:=[12]} [.pf ⟨[(k21 s_ p),(k22 s_ p),(k23 s_ p),(k24 s_ p),(k25 s_ p),(⟨s_.earthed,p.buses⟩:aX),(⟨s_.badBus,p.buses⟩:aX)].length=7,rfl⟩, .pf ⟨aC 7 2 (iY 2 [(bg none 1 af s_.closed),(.int .i64 (p.links.length:Int)),(bg none 1 af s_.locked),(.int .i64 (p.links.length:Int)),(bg none 1 af s_.badLink),(.int .i64 (p.links.length:Int)),(bg none 1 af s_.on_),(.int .i64 (p.sources.length:Int)),(bg none 1 af s_.badSource),(.int .i64 (p.sources.length:Int)),(bg none 1 af s_.earthed),(.int .i64 p.buses),(bg none 1 af s_.badBus),(.int .i64 p.buses)]) (k26 s_ p),(by intro i hi j hj;match i,j,hi,hj with|0,0,_,_=>rfl|0,1,_,_=>rfl|1,0,_,_=>rfl|1,1,_,_=>rfl|2,0,_,_=>rfl|2,1,_,_=>rfl|3,0,_,_=>rfl|3,1,_,_=>rfl|4,0,_,_=>rfl|4,1,_,_=>rfl|5,0,_,_=>rfl|5,1,_,_=>rfl|6,0,_,_=>rfl|6,1,_,_=>rfl)⟩]<| .lp (σ:=Int) (β:=Unit) (0) [] [] ⟨[2,3,53,54],[11,13],fun u1=>[(55,(vI u1))],fun u1=>[]⟩ ⟨[2,3],[11],fun _=>[],fun _=>[]⟩
  (fun u1=> .r<| .it (.a1 ((0:Int)≤u1∧u1<([(k21 s_ p),(k22 s_ p),(k23 s_ p),(k24 s_ p),(k25 s_ p),(⟨s_.earthed,p.buses⟩:aX),(⟨s_.badBus,p.buses⟩:aX)].length:Int))<| .rg {fr:=[(2,17)],fz:=[17]} [0, .t 0 u1 ([(k21 s_ p),(k22 s_ p),(k23 s_ p),(k24 s_ p),(k25 s_ p),(⟨s_.earthed,p.buses⟩:aX),(⟨s_.badBus,p.buses⟩:aX)].length)]<| .r<| .it (.r<| .e (.done (.ret 9)))
  (.r<| .e (.next (k3 u1))))
  (.e (.done (.brk ()))))
  (fun _=> .r<| .lp (σ:=Int) (β:=Unit) (0) [] [] ⟨[3,67,68],[],fun u0=>[(69,(vI u0))],fun u0=>[]⟩ ⟨[],[],fun _=>[],fun _=>[]⟩
  (fun u0=> .r<| .it (.a1 (k2 p u0)<| .rg {fr:=[(3,21)],fz:=[21]} []<| .a2 (k27 s_ p u0) (k28 s_ p u0)<| .rg {} [0,1]<| .it (.r<| .e (.done (.ret 9)))
  (.r<| .e (.next (k3 u0))))
  (.e (.done (.brk ()))))
  (fun _=> .r<| .e 0))))
theorem j5 (p:au) (s_:State):gG Tryz.prog 84 (k19 s_ p) [] (fun r=>(vD (.fn 99 2 (ve [(G7 [(.int .i64 r.1),(bg none 5 Source.cell r.2.1),(bg none 6 Link.cell r.2.2.1),(bg none 4 aL.cell r.2.2.2.1)] 0),(G7 [(bg none 1 af r.2.2.2.2.1),(bg none 1 af r.2.2.2.2.2.1),(bg none 1 af r.2.2.2.2.2.2.1),(bg none 1 af r.2.2.2.2.2.2.2.1),(bg none 1 af r.2.2.2.2.2.2.2.2.1),(bg none 1 af r.2.2.2.2.2.2.2.2.2.1),(bg none 1 af r.2.2.2.2.2.2.2.2.2.2)] 0)])))) (fun _=>[]) (lM p s_):=
  iP tT mX Tryz.func84 (
  .rg {fr:=[(0,2),(1,3)],fz:=[2,3]} []<| .r<| .e (p.buses,p.sources,p.links,p.racks,s_.closed,s_.locked,s_.badLink,s_.on_,s_.badSource,s_.earthed,s_.badBus))
noncomputable def fQ:fE:=⟨[22],IG ([1,1,0,1,0]++[0]) (rQ Tryz.f50),IG ([1,1,0,1,0]++[1]) (rQ Tryz.f50),125,[]⟩
section
variable (g:aA)
abbrev Pt:Ob:=(KU 3 3 false false 1 1 (aG .i64) (aG .i64) g.head)
abbrev Pe:List (Nat × Option Ob):=[(0,some (Pt g))]
end
theorem aK (g:aA) (x:Int):gG Tryz.prog 86 [(.agg [(.mp 0)]),(sI x)] (Pe g) (fun r=>(vI r)) (fun r=>(Pe g)) (bL g x):=
  iP tT mX Tryz.func86 (
  .rg {fr:=[(0,2)]} []<| .lp (σ:=Int) (β:=Unit) (x) [] [] ⟨[2],[0,2],fun x1=>[(1,(vI x1))],fun x1=>[]⟩ ⟨[],[],fun _=>[],fun _=>[]⟩
  (fun x1=> .rg {an:=[(3, .look (aN bH x1 g.head).isSome [(cI ((aN bH x1 g.head).getD 0))])]} [.pf ⟨dW [some .i64] 1 1 g.head.length (nN (aG .i64) g.head) (oG (aG .i64) g.head) [(.int .i64 x1)] [(.d (.int .i64 0))] (aN bH x1 g.head).isSome [(cI ((aN bH x1 g.head).getD 0))],cu (fun _=>rfl) (fun _ _=>rfl) g.head x1 0 rfl rfl rfl⟩]<| .r<| .it (.r<| .e (.done (.ret x1)))
  (.r<| .e (.next ((aN bH x1 g.head).getD 0))))
  (fun _=> .no))
theorem oF (g:aA) (a:Int) (b:Int):gG Tryz.prog 85 [(.agg [(.mp 0)]),(sI a),(sI b)] (Pe g) (fun r=>(.fK [])) (fun r=>[(0,some (KU 3 3 false false 1 1 (aG .i64) (aG .i64) r))]) (kW g a b):=
  iP tT mX Tryz.func85 (
  .rg {fr:=[(0,2)]} []<| .cr 2 (aK g a) fun r_=> .cr 5 (aK g b) fun u0=> .r<| .r<| .it (.rg {an:=[(4, .map (fo bH r_ u0 g.head).length (nN (aG .i64) (fo bH r_ u0 g.head)) (oG (aG .i64) (fo bH r_ u0 g.head)) [])]} [.pf ⟨jE [some .i64] 1 1 g.head.length (nN (aG .i64) g.head) (oG (aG .i64) g.head) [(.int .i64 r_)] [(cI u0)] [] (fo bH r_ u0 g.head).length (nN (aG .i64) (fo bH r_ u0 g.head)) (oG (aG .i64) (fo bH r_ u0 g.head)),pX (fun _=>rfl) (fun _ _=>rfl) g.head r_ u0 rfl rfl⟩]<| .e (fo bH r_ u0 g.head))
  (.e g.head))
section
variable (o_:aA)
abbrev Pw:Nat × Option Ob:=(0,some (.loop fQ 0 [(5,(vP 1 0))]))
abbrev PW:List (Nat × Option Ob):=[Pw,(1,some (.cells 146 [(.mp 2)])),(2,some (Pt o_))]
end
theorem ji (u0:Int) (u1:Int) (u2:Int) (u3:Int) (u4:Int) (u5:(List dG)) (o_:aA):Mr Tryz.prog 0 [(.agg [(cI u0),(cI u1),(cI u2),(cI u3),(cI u4),(.d (bg none 2 dG.cell u5))])] (PW o_) (fun _=>vB true) (fun r=>[Pw,(1,some (.cells 146 [(.mp 2)])),(2,some (KU 3 3 false false 1 1 (aG .i64) (aG .i64) r.head))]) (iD u0 u1 u2 u3 u4 u5 o_):=
  Qg tT mX fQ ⟨[5],[0,1,2],fun _=>[(6,(vD (G7 [(.int .i64 u0),(.int .i64 u1),(.int .i64 u2),(.int .i64 u3),(.int .i64 u4),(bg none 2 dG.cell u5)] 0)))],fun _=>[]⟩ (.rg {fr:=[(0,4)],fz:=[4]} []<| .e ())
  (.cl 5 (kU [(0,2)] (oF o_ u0 u1)) fun r_=> .r<| .e (⟨r_⟩:aA))
section
variable (u3:(List (Int × Int))) (x2:(List Bool)) (t9:Int) (u2:(List Bool)) (u1:(List Bool)) (u0:(List Link))
abbrev Oz:Ob:=(KU 3 3 false false 1 1 (aG .i64) (aG .i64) u3)
abbrev PS:=(bif (bif (at' x2 t9.toNat)then(!(at' u2 t9.toNat))else false)then(!(at' u1 (((at' u0 t9.toNat).a).toNat)))else false)
abbrev Lb:=((0:Int)≤t9∧t9<(x2.length:Int))
abbrev PX:=((gB [((bif (at' x2 t9.toNat)then(!(at' u2 t9.toNat))else false),true)]=true→(0:Int)≤(at' u0 t9.toNat).a∧(at' u0 t9.toNat).a<(u1.length:Int)))
abbrev PN:=((gB [((PS x2 t9 u2 u1 u0),true)]=true→(0:Int)≤(at' u0 t9.toNat).b∧(at' u0 t9.toNat).b<(u1.length:Int)))
end
theorem nT (x1:Int) (u4:(List Source)) (u0:(List Link)) (u5:(List aL)) (x2:(List Bool)) (u6:(List Bool)) (u2:(List Bool)) (u7:(List Bool)) (u8:(List Bool)) (u9:(List Bool)) (u1:(List Bool)) (o_:aA):gG Tryz.prog 99 [(.one (.yl 0)),(sD (k4 x1 u4 u0 u5)),(sD (G7 [(bg none 1 af x2),(bg none 1 af u6),(bg none 1 af u2),(bg none 1 af u7),(bg none 1 af u8),(bg none 1 af u9),(bg none 1 af u1)] 0))] (PW o_) (fun r=>(.fK [])) (fun r=>[Pw,(1,some (.cells 146 [(.mp 2)])),(2,some (KU 3 3 false false 1 1 (aG .i64) (aG .i64) r.head))]) (kK x1 u4 u0 u5 x2 u6 u2 u7 u8 u9 u1 o_):=
  iP tT mX Tryz.func99 (
  .r<| .lp (σ:=((List (Int × Int)) × Int)) (β:=(List (Int × Int))) (o_.head,0) [] [] ⟨[0,2,7,8],[0,1],fun(u3,t9)=>[(9,(vI t9))],fun(u3,t9)=>[(2,some (Oz u3))]⟩ ⟨[],[0,1],fun o501=>[],fun o501=>[(2,some (KU 3 3 false false 1 1 (aG .i64) (aG .i64) o501))]⟩
  (fun(u3,t9)=> .r<| .it (.a1 ((0:Int)≤t9∧t9<(u0.length:Int))<| .rg {fr:=[(3,10)],fz:=[10]} []<| .fk (bif (PS x2 t9 u2 u1 u0)then(!(at' u1 (((at' u0 t9.toNat).b).toNat)))else false) (.cy 34 (ji ((at' u0 t9.toNat).a) ((at' u0 t9.toNat).b) ((at' u0 t9.toNat).kind) ((at' u0 t9.toNat).most) ((at' u0 t9.toNat).ohm) ((at' u0 t9.toNat).trip) (⟨u3⟩:aA)) fun r_=> .a4 (Lb x2 t9) ((gB [((at' x2 t9.toNat),true)]=true→(0:Int)≤t9∧t9<(u2.length:Int))) (PX x2 t9 u2 u1 u0) (PN x2 t9 u2 u1 u0)<| .rg {ov:=[(31,true,5)]} [0,1,2,3, .k 4]<| .f<| .r<| .e (.next (r_.head,(k3 t9))))
  (.a4 (Lb x2 t9) ((gB [((at' x2 t9.toNat),true)]=true→(0:Int)≤t9∧t9<(u2.length:Int))) (PX x2 t9 u2 u1 u0) (PN x2 t9 u2 u1 u0)<| .rg {ov:=[(31,false,4)],sk:=[32,33,34,35]} [0,1,2,3]<| .f<| .r<| .e (.next (u3,(k3 t9)))))
  (.e (.done (.brk u3))))
  (fun o501=> .e (⟨o501⟩:aA)))
section
variable (r_:(Int × (List Source) × (List Link) × (List aL) × (List Bool) × (List Bool) × (List Bool) × (List Bool) × (List Bool) × (List Bool) × (List Bool))) (u1:(List ah)) (u2:(List (Int × Int))) (u3:Int) (s_:State) (u0:Int) (u5:(List ah)) (u7:Int) (p:au) (u6:Int) (u4:(List (Int × Int)))
abbrev PK:=(kU [(0,59),(1,58),(2,57)] (nT r_.1 r_.2.1 r_.2.2.1 r_.2.2.2.1 r_.2.2.2.2.1 r_.2.2.2.2.2.1 r_.2.2.2.2.2.2.1 r_.2.2.2.2.2.2.2.1 r_.2.2.2.2.2.2.2.2.1 r_.2.2.2.2.2.2.2.2.2.1 r_.2.2.2.2.2.2.2.2.2.2 (⟨([]:(List (Int × Int)))⟩:aA)))
abbrev Oh:List (Nat × Option Ob):=[(60,some (.rows 108 2 u1.length (jI ah.ev u1) none)),(61,some (Oz u2))]
abbrev Ox:=((0:Int)≤u3∧u3<(s_.badBus.length:Int))
abbrev nY:=((aN bH u0 u2).getD 0)
abbrev xA:List CV:=[(cI (nY u2 u0))]
abbrev AA:=(fo bH u0 (u1.length:Int) u2)
abbrev GV:=(nN (aG .i64) (AA u1 u2 u0))
abbrev G5:=(oG (aG .i64) (AA u1 u2 u0))
abbrev OX:=((u1.length+[(⟨([]:List Int),([]:List Int)⟩:ah)].length)*48≤140737488355328)
abbrev OV:=(u1.length+[(⟨([]:List Int),([]:List Int)⟩:ah)].length≤4611686018427387904)
abbrev zL:=(u1++[(⟨([]:List Int),([]:List Int)⟩:ah)])
abbrev J7:=(jI ah.ev (zL u1))
abbrev JQ:=(aN bH u0 (AA u1 u2 u0))
abbrev BJ:=((JQ u1 u2 u0).getD 0)
abbrev K8:List CV:=[(cI (BJ u1 u2 u0))]
abbrev Oi:=((0:Int)≤(BJ u1 u2 u0)∧(BJ u1 u2 u0)<((zL u1).length:Int))
abbrev Ps:=((BJ u1 u2 u0).toNat)
abbrev PU:=(at' (zL u1) (Ps u1 u2 u0))
abbrev GZ:=((PU u1 u2 u0).buses)
abbrev NM:=((GZ u1 u2 u0).length+[u3].length)
abbrev OT:=((NM u1 u2 u3 u0)*8≤140737488355328)
abbrev OH:=((GZ u1 u2 u0).length+[u3].length≤4611686018427387904)
abbrev GU:=((GZ u1 u2 u0)++[u3])
abbrev Ke:=(av (aG .i64) (GU u1 u2 u3 u0))
abbrev Mf:=((zL u1).set (Ps u1 u2 u0) (⟨(GU u1 u2 u3 u0),(PU u1 u2 u0).sources⟩:ah))
abbrev KL:=(jI ah.ev (Mf u1 u2 u3 u0))
abbrev KO:=((zL u1).length)
abbrev GY:=(iY 1 [(.int .i64 u3)])
abbrev Om:=((GZ u1 u2 u0).length)
abbrev OL:=(qQ (av (aG .i64) (GZ u1 u2 u0)) (GZ u1 u2 u0).length (av (aG .i64) [u3]))
abbrev OC:=((GU u1 u2 u3 u0).length)
abbrev OM:=(KZ (J7 u1) (Ps u1 u2 u0) 0 (.row 3 1 (GU u1 u2 u3 u0).length (Ke u1 u2 u3 u0)))
abbrev P7:=((some ((BJ u1 u2 u0).toNat,0,CV.own 88 false (GZ u1 u2 u0).length)):Option (Nat × Nat × CV))
abbrev Oe:=((Mf u1 u2 u3 u0),(AA u1 u2 u0),(k3 u3))
abbrev K4:=((0:Int)≤(nY u2 u0)∧(nY u2 u0)<(u1.length:Int))
abbrev G8:=((at' u1 ((nY u2 u0).toNat)).buses)
abbrev Nz:=((G8 u1 u2 u0).length+[u3].length)
abbrev OI:=((Nz u1 u2 u3 u0)*8≤140737488355328)
abbrev OY:=((G8 u1 u2 u0).length+[u3].length≤4611686018427387904)
abbrev GX:=((G8 u1 u2 u0)++[u3])
abbrev Kc:=(av (aG .i64) (GX u1 u2 u3 u0))
abbrev Mj:=(u1.set ((nY u2 u0).toNat) (⟨(GX u1 u2 u3 u0),(at' u1 ((nY u2 u0).toNat)).sources⟩:ah))
abbrev K5:=(jI ah.ev (Mj u1 u2 u3 u0))
abbrev OO:=((G8 u1 u2 u0).length)
abbrev OP:=(qQ (av (aG .i64) (G8 u1 u2 u0)) (G8 u1 u2 u0).length (av (aG .i64) [u3]))
abbrev OW:=((GX u1 u2 u3 u0).length)
abbrev OU:=(KZ (jI ah.ev u1) ((nY u2 u0).toNat) 0 (.row 3 1 (GX u1 u2 u3 u0).length (Kc u1 u2 u3 u0)))
abbrev P9:=((some ((nY u2 u0).toNat,0,CV.own 91 false (G8 u1 u2 u0).length)):Option (Nat × Nat × CV))
abbrev OE:=((Mj u1 u2 u3 u0),u2,(k3 u3))
abbrev Ol:List (Nat × Option Ob):=[(60,some (.rows 108 2 u5.length (jI ah.ev u5) none))]
abbrev MX:=((0:Int)≤u7∧u7<(p.sources.length:Int))
abbrev Ot:=((0:Int)≤u7∧u7<(s_.on_.length:Int))
abbrev Oj:=((gB [((at' s_.on_ u7.toNat),true)]=true→(0:Int)≤u7∧u7<(s_.badSource.length:Int)))
abbrev O1:=((bif (at' s_.on_ u7.toNat)then(!(at' s_.badSource u7.toNat))else false),true)
abbrev Od:=((gB [(O1 s_ u7)]=true→(0:Int)≤(at' p.sources u7.toNat).bus∧(at' p.sources u7.toNat).bus<(s_.badBus.length:Int)))
abbrev GR:=((at' u5 ((nY u4 u6).toNat)).sources)
abbrev MS:=((GR u5 u6 u4).length+[u7].length)
abbrev Oy:=((MS u5 u7 u6 u4)*8≤140737488355328)
abbrev OQ:=((GR u5 u6 u4).length+[u7].length≤4611686018427387904)
abbrev G6:=((GR u5 u6 u4)++[u7])
abbrev Kk:=(av (aG .i64) (G6 u5 u7 u6 u4))
abbrev F4:=(u5.set ((nY u4 u6).toNat) (⟨(at' u5 ((nY u4 u6).toNat)).buses,(G6 u5 u7 u6 u4)⟩:ah))
abbrev KY:=(jI ah.ev (F4 u5 u7 u6 u4))
abbrev JX:=((GR u5 u6 u4).length)
abbrev JH:=(qQ (av (aG .i64) (GR u5 u6 u4)) (GR u5 u6 u4).length (av (aG .i64) [u7]))
abbrev Kh:=((G6 u5 u7 u6 u4).length)
abbrev JM:=(KZ (jI ah.ev u5) ((nY u4 u6).toNat) 1 (.row 3 1 (G6 u5 u7 u6 u4).length (Kk u5 u7 u6 u4)))
abbrev Nn:=((some ((nY u4 u6).toNat,1,CV.own 107 false (GR u5 u6 u4).length)):Option (Nat × Nat × CV))
abbrev Kj:=((F4 u5 u7 u6 u4),(k3 u7))
end
theorem sO (p:au) (s_:State):gG Tryz.prog 50 (k19 s_ p) [] (fun r=>(vD (bg none 2 ah.cell r))) (fun _=>[]) (gy p s_):=
  iP tT mX Tryz.func50 (
  .rg {fr:=[(0,55),(1,56)],fz:=[56]} []<| .rg {an:=[(0, .map 0 (nN (aG .i64) ([]:(List (Int × Int)))) (oG (aG .i64) ([]:(List (Int × Int)))) [])],fr:=[(0,57),(2,58)]} []<| .cl 2 (j5 p s_) fun r_=> .r<| .cl 0 (PK r_) fun v0=> .rf 59 [5] [] none 0 []<| .r<| .im (.Ou 7 60 108 2 (jI ah.ev ([]:List ah)))<| .rg {an:=[(0, .map 0 (nN (aG .i64) ([]:(List (Int × Int)))) (oG (aG .i64) ([]:(List (Int × Int)))) [])],fr:=[(0,61)]} []<| .r<| .lp (σ:=((List ah) × (List (Int × Int)) × Int)) (β:=((List ah) × (List (Int × Int)))) (([]:List ah),([]:(List (Int × Int))),0) [] [] ⟨[2,3,5,8,31],[55,57,58],fun(u1,u2,u3)=>[(7,(vO 60 false u1.length)),(32,(vI u3))],fun(u1,u2,u3)=>(Oh u1 u2)⟩ ⟨[2,3,5,8],[55,57,58],fun(u9,u4)=>[(7,(vO 60 false u9.length))],fun(u9,u4)=>(Oh u9 u4)⟩
  (fun(u1,u2,u3)=> .r<| .it (.r<| .a1 (Ox u3 s_)<| .r<| .it (.r<| .e (.next (u1,u2,(k3 u3))))
  (.cr 2 (kU [(0,57)] (aK v0 u3)) fun u0=> .r<| .rg {an:=[(2, .look (aN bH u0 u2).isSome (xA u2 u0))]} [.pf ⟨dW [some .i64] 1 1 u2.length (nN (aG .i64) u2) (oG (aG .i64) u2) [(.int .i64 u0)] [(.d (.int .i64 0))] (aN bH u0 u2).isSome (xA u2 u0),cu (fun _=>rfl) (fun _ _=>rfl) u2 u0 0 rfl rfl rfl⟩]<| .r<| .it (.rg {an:=[(4, .map (AA u1 u2 u0).length (GV u1 u2 u0) (G5 u1 u2 u0) [])]} [.pf ⟨jE [some .i64] 1 1 u2.length (nN (aG .i64) u2) (oG (aG .i64) u2) [(.int .i64 u0)] [(cI (u1.length:Int))] [] (AA u1 u2 u0).length (GV u1 u2 u0) (G5 u1 u2 u0),pX (fun _=>rfl) (fun _ _=>rfl) u2 u0 (u1.length:Int) rfl rfl⟩]<| .a2 (OX u1) (OV u1)<| .rg {an:=[(2, .arr [(⟨([]:List Int),([]:List Int)⟩:ah)].length (iY 2 [nS,nS])),(3, .rows (zL u1).length (J7 u1))],fr:=[(2,86),(3,87)]} [.pf ⟨[(⟨([]:List Int),([]:List Int)⟩:ah)].length=1,rfl⟩, .pf ⟨aC 1 2 (iY 2 [nS,nS]) (iY 2 [nS,nS]),iw _ _ _⟩, .e (u1.length),0,1, .pf ⟨(zL u1).length=u1.length+[(⟨([]:List Int),([]:List Int)⟩:ah)].length,List.length_append⟩, .pf ⟨nW u1.length [(⟨([]:List Int),([]:List Int)⟩:ah)].length 2 (jI ah.ev u1) (iY 2 [nS,nS]) (J7 u1),xC _ _ _ _ _ (by intro i hi j hj;match i,j,hi,hj with|0,0,_,_=>exact⟨rfl,_,_,_,rfl⟩|0,1,_,_=>exact⟨rfl,_,_,_,rfl⟩)⟩]<| .rg {an:=[(2, .look (JQ u1 u2 u0).isSome (K8 u1 u2 u0))]} [.pf ⟨dW [some .i64] 1 1 (AA u1 u2 u0).length (GV u1 u2 u0) (G5 u1 u2 u0) [(.int .i64 u0)] [(.d (.int .i64 0))] (JQ u1 u2 u0).isSome (K8 u1 u2 u0),cu (fun _=>rfl) (fun _ _=>rfl) (AA u1 u2 u0) u0 0 rfl rfl rfl⟩]<| .a3 (Oi u1 u2 u0) (OT u1 u2 u3 u0) (OH u1 u2 u3 u0)<| .rg {an:=[(6, .take 88),(8, .arr [u3].length (av (aG .i64) [u3])),(9, .arr (GU u1 u2 u3 u0).length (Ke u1 u2 u3 u0)),(12, .rows 0 (KL u1 u2 u3 u0))],fr:=[(8,89),(9,90)]} [0, .t 0 (BJ u1 u2 u0) (KO u1), .pf ⟨[u3].length=1,rfl⟩, .pf ⟨aC 1 1 (GY u3) (av (aG .i64) [u3]),(by intro i hi j hj;match i,j,hi,hj with|0,0,_,_=>rfl)⟩, .e (Om u1 u2 u0),1,2, .pf ⟨(GU u1 u2 u3 u0).length=(GZ u1 u2 u0).length+[u3].length,List.length_append⟩, .pf ⟨aC (NM u1 u2 u3 u0) 1 (OL u1 u2 u3 u0) (Ke u1 u2 u3 u0),bD _ _ _ _⟩,0, .t 0 (BJ u1 u2 u0) (KO u1), .e (OC u1 u2 u3 u0), .pf ⟨tH (zL u1).length 2 (OM u1 u2 u3 u0) (KL u1 u2 u3 u0),gD _ _ _ _ _ _ _ _ rfl (fun j hj=>(match j,hj with|0,_=>rfl|1,_=>rfl))⟩, .pf ⟨∀i0 j0 c0,(P7 u1 u2 u0)=some (i0,j0,c0)→i0=(BJ u1 u2 u0).toNat∧j0=0,(fun i0 j0 c0 e=>by cases e;exact⟨rfl,rfl⟩)⟩]<| .im (.ll 87 (zL u1) (Mf u1 u2 u3 u0))<| .r<| .en (.next (Oe u1 u2 u3 u0)) [] [(87,60)])
  (.rg {an:=[(2, .look (aN bH u0 u2).isSome (xA u2 u0))]} [.pf ⟨dW [some .i64] 1 1 u2.length (nN (aG .i64) u2) (oG (aG .i64) u2) [(.int .i64 u0)] [(.d (.int .i64 0))] (aN bH u0 u2).isSome (xA u2 u0),cu (fun _=>rfl) (fun _ _=>rfl) u2 u0 0 rfl rfl rfl⟩]<| .a3 (K4 u1 u2 u0) (OI u1 u2 u3 u0) (OY u1 u2 u3 u0)<| .rg {an:=[(6, .take 91),(8, .arr [u3].length (av (aG .i64) [u3])),(9, .arr (GX u1 u2 u3 u0).length (Kc u1 u2 u3 u0)),(12, .rows 0 (K5 u1 u2 u3 u0))],fr:=[(8,92),(9,93)]} [0, .t 0 (nY u2 u0) u1.length, .pf ⟨[u3].length=1,rfl⟩, .pf ⟨aC 1 1 (GY u3) (av (aG .i64) [u3]),(by intro i hi j hj;match i,j,hi,hj with|0,0,_,_=>rfl)⟩, .e (OO u1 u2 u0),1,2, .pf ⟨(GX u1 u2 u3 u0).length=(G8 u1 u2 u0).length+[u3].length,List.length_append⟩, .pf ⟨aC (Nz u1 u2 u3 u0) 1 (OP u1 u2 u3 u0) (Kc u1 u2 u3 u0),bD _ _ _ _⟩,0, .t 0 (nY u2 u0) u1.length, .e (OW u1 u2 u3 u0), .pf ⟨tH u1.length 2 (OU u1 u2 u3 u0) (K5 u1 u2 u3 u0),gD _ _ _ _ _ _ _ _ rfl (fun j hj=>(match j,hj with|0,_=>rfl|1,_=>rfl))⟩, .pf ⟨∀i0 j0 c0,(P9 u1 u2 u0)=some (i0,j0,c0)→i0=(nY u2 u0).toNat∧j0=0,(fun i0 j0 c0 e=>by cases e;exact⟨rfl,rfl⟩)⟩]<| .im (.ll 60 u1 (Mj u1 u2 u3 u0))<| .r<| .e (.next (OE u1 u2 u3 u0)))))
  (.e (.done (.brk (u1,u2)))))
  (fun(u9,u4)=> .r<| .lp (σ:=((List ah) × Int)) (β:=(List ah)) (u9,0) [] [] ⟨[3,5,8,76,77],[57,58,61],fun(u5,u7)=>[(7,(vO 60 false u5.length)),(78,(vI u7))],fun(u5,u7)=>(Ol u5)⟩ ⟨[],[],fun u8=>[(7,(vO 60 false u8.length))],fun u8=>(Ol u8)⟩
  (fun(u5,u7)=> .r<| .it (.a1 (MX u7 p)<| .rg {fr:=[(3,106)],fz:=[106]} []<| .a3 (Ot s_ u7) (Oj s_ u7) (Od s_ u7 p)<| .rg {} [0,1,2]<| .it (.cr 4 (kU [(0,57)] (aK v0 ((at' p.sources u7.toNat).bus))) fun u6=> .rg {an:=[(5, .look (aN bH u6 u4).isSome (xA u4 u6))]} [0, .pf ⟨dW [some .i64] 1 1 u4.length (nN (aG .i64) u4) (oG (aG .i64) u4) [(.int .i64 u6)] [(.d (.int .i64 0))] (aN bH u6 u4).isSome (xA u4 u6),cu (fun _=>rfl) (fun _ _=>rfl) u4 u6 0 rfl rfl rfl⟩]<| .a3 (K4 u5 u4 u6) (Oy u5 u7 u6 u4) (OQ u5 u7 u6 u4)<| .rg {an:=[(6, .take 107),(8, .arr [u7].length (av (aG .i64) [u7])),(9, .arr (G6 u5 u7 u6 u4).length (Kk u5 u7 u6 u4)),(12, .rows 0 (KY u5 u7 u6 u4))],fr:=[(8,108),(9,109)]} [0, .t 0 (nY u4 u6) u5.length, .pf ⟨[u7].length=1,rfl⟩, .pf ⟨aC 1 1 (GY u7) (av (aG .i64) [u7]),(by intro i hi j hj;match i,j,hi,hj with|0,0,_,_=>rfl)⟩, .e (JX u5 u6 u4),1,2, .pf ⟨(G6 u5 u7 u6 u4).length=(GR u5 u6 u4).length+[u7].length,List.length_append⟩, .pf ⟨aC (MS u5 u7 u6 u4) 1 (JH u5 u7 u6 u4) (Kk u5 u7 u6 u4),bD _ _ _ _⟩,0, .t 0 (nY u4 u6) u5.length, .e (Kh u5 u7 u6 u4), .pf ⟨tH u5.length 2 (JM u5 u7 u6 u4) (KY u5 u7 u6 u4),gD _ _ _ _ _ _ _ _ rfl (fun j hj=>(match j,hj with|0,_=>rfl|1,_=>rfl))⟩, .pf ⟨∀i0 j0 c0,(Nn u5 u6 u4)=some (i0,j0,c0)→i0=(nY u4 u6).toNat∧j0=1,(fun i0 j0 c0 e=>by cases e;exact⟨rfl,rfl⟩)⟩]<| .im (.ll 60 u5 (F4 u5 u7 u6 u4))<| .r<| .e (.next (Kj u5 u7 u6 u4)))
  (.r<| .e (.next (u5,(k3 u7)))))
  (.e (.done (.brk u5))))
  (fun u8=> .rg {fz:=[60]} []<| .im (.us 4 (vD (.sl none 2 u8.length (fun i j=>Mi (jI ah.ev u8 i j)))) (vD (bg none 2 ah.cell u8)) (vo.v (vk.one (mW.d (kG.sl (.inr rfl) (fun i _ j hj=>match j,hj with|0,_=> .refl _|1,_=> .refl _))))))<| .e u8)))
theorem sG (p:au) (s_:State):gG Tryz.prog 13 (k19 s_ p) [] (fun r=>(.fK [(sD (bg none 2 ah.cell r.1)),(sI r.2)])) (fun _=>[]) (oM p s_):=
  iP tT mX Tryz.func13 (
  .rg {fr:=[(0,2),(1,3)],fz:=[2,3]} []<| .cl 2 (bV p s_) fun r_=> .r<| .r<| .it (.r<| .e (([]:List ah),r_))
  (.cl 2 (sO p s_) fun u0=> .r<| .e (u0,0)))
theorem mK (a:(List Int)) (b:(List Int)):gG Tryz.prog 53 [(sD (bg none 1 (aG .i64) a)),(sD (bg none 1 (aG .i64) b))] [] (fun r=>(vB r)) (fun _=>[]) (l9 a b):=
  iP tT mX Tryz.func53 (
  .r<| .r<| .it (.r<| .e false)
  (.r<| .lp (σ:=Int) (β:=Unit) (0) [] [] ⟨[0,1],[],fun i=>[(5,(vI i))],fun i=>[]⟩ ⟨[],[],fun _=>[],fun _=>[]⟩
  (fun i=> .r<| .it (.a2 ((0:Int)≤i∧i<(a.length:Int)) ((0:Int)≤i∧i<(b.length:Int))<| .rg {} [0,1]<| .it (.r<| .e (.done (.ret false)))
  (.r<| .e (.next (k3 i))))
  (.e (.done (.brk ()))))
  (fun _=> .r<| .e true)))
section
variable (i:Int) (a:(List ah))
abbrev He:=((0:Int)≤i∧i<(a.length:Int))
end
theorem jT (a:(List ah)) (b:(List ah)):gG Tryz.prog 15 [(sD (bg none 2 ah.cell a)),(sD (bg none 2 ah.cell b))] [] (fun r=>(vB r)) (fun _=>[]) (iR a b):=
  iP tT mX Tryz.func15 (
  .r<| .r<| .it (.r<| .e false)
  (.r<| .lp (σ:=Int) (β:=Unit) (0) [] [] ⟨[0,1],[],fun i=>[(5,(vI i))],fun i=>[]⟩ ⟨[],[],fun _=>[],fun _=>[]⟩
  (fun i=> .r<| .it (.cl 10 (mK ((at' a i.toNat).buses) ((at' b i.toNat).buses)) fun r_=> .cg 23 [((!r_),false)] (mK ((at' a i.toNat).sources) ((at' b i.toNat).sources)) fun u0=> .a4 (He i a) (He i b) ((gB [((!r_),false)]=true→(0:Int)≤i∧i<(a.length:Int))) ((gB [((!r_),false)]=true→(0:Int)≤i∧i<(b.length:Int)))<| .rg {} [0,1,5,2,3,4]<| .it (.r<| .e (.done (.ret false)))
  (.r<| .e (.next (k3 i))))
  (.e (.done (.brk ()))))
  (fun _=> .r<| .e true)))
theorem jY (p:au) (s_:State):gG Tryz.prog 50 (k19 s_ p) [] (fun r=>(vD (bg none 2 ah.cell r))) (fun _=>[]) (gy p s_):=
  iP tT mX Tryz.func50 (
  .rg {fr:=[(0,55),(1,56)],fz:=[56]} []<| .rg {an:=[(0, .map 0 (nN (aG .i64) ([]:(List (Int × Int)))) (oG (aG .i64) ([]:(List (Int × Int)))) [])],fr:=[(0,57),(2,58)]} []<| .cl 2 (j5 p s_) fun r_=> .r<| .cl 0 (PK r_) fun v0=> .rf 59 [5] [] none 0 []<| .r<| .im (.Ou 7 60 108 2 (jI ah.ev ([]:List ah)))<| .rg {an:=[(0, .map 0 (nN (aG .i64) ([]:(List (Int × Int)))) (oG (aG .i64) ([]:(List (Int × Int)))) [])],fr:=[(0,61)]} []<| .r<| .lp (σ:=((List ah) × (List (Int × Int)) × Int)) (β:=((List ah) × (List (Int × Int)))) (([]:List ah),([]:(List (Int × Int))),0) [] [] ⟨[2,3,5,8,31],[55,57,58],fun(u1,u2,u3)=>[(7,(vO 60 false u1.length)),(32,(vI u3))],fun(u1,u2,u3)=>(Oh u1 u2)⟩ ⟨[2,3,5,8],[55,57,58],fun(u9,u4)=>[(7,(vO 60 false u9.length))],fun(u9,u4)=>(Oh u9 u4)⟩
  (fun(u1,u2,u3)=> .r<| .it (.r<| .a1 (Ox u3 s_)<| .r<| .it (.r<| .e (.next (u1,u2,(k3 u3))))
  (.cr 2 (kU [(0,57)] (aK v0 u3)) fun u0=> .r<| .rg {an:=[(2, .look (aN bH u0 u2).isSome (xA u2 u0))]} [.pf ⟨dW [some .i64] 1 1 u2.length (nN (aG .i64) u2) (oG (aG .i64) u2) [(.int .i64 u0)] [(.d (.int .i64 0))] (aN bH u0 u2).isSome (xA u2 u0),cu (fun _=>rfl) (fun _ _=>rfl) u2 u0 0 rfl rfl rfl⟩]<| .r<| .it (.rg {an:=[(4, .map (AA u1 u2 u0).length (GV u1 u2 u0) (G5 u1 u2 u0) [])]} [.pf ⟨jE [some .i64] 1 1 u2.length (nN (aG .i64) u2) (oG (aG .i64) u2) [(.int .i64 u0)] [(cI (u1.length:Int))] [] (AA u1 u2 u0).length (GV u1 u2 u0) (G5 u1 u2 u0),pX (fun _=>rfl) (fun _ _=>rfl) u2 u0 (u1.length:Int) rfl rfl⟩]<| .a2 (OX u1) (OV u1)<| .rg {an:=[(2, .arr [(⟨([]:List Int),([]:List Int)⟩:ah)].length (iY 2 [nS,nS])),(3, .rows (zL u1).length (J7 u1))],fr:=[(2,86),(3,87)]} [.pf ⟨[(⟨([]:List Int),([]:List Int)⟩:ah)].length=1,rfl⟩, .pf ⟨aC 1 2 (iY 2 [nS,nS]) (iY 2 [nS,nS]),iw _ _ _⟩, .e (u1.length),0,1, .pf ⟨(zL u1).length=u1.length+[(⟨([]:List Int),([]:List Int)⟩:ah)].length,List.length_append⟩, .pf ⟨nW u1.length [(⟨([]:List Int),([]:List Int)⟩:ah)].length 2 (jI ah.ev u1) (iY 2 [nS,nS]) (J7 u1),xC _ _ _ _ _ (by intro i hi j hj;match i,j,hi,hj with|0,0,_,_=>exact⟨rfl,_,_,_,rfl⟩|0,1,_,_=>exact⟨rfl,_,_,_,rfl⟩)⟩]<| .rg {an:=[(2, .look (JQ u1 u2 u0).isSome (K8 u1 u2 u0))]} [.pf ⟨dW [some .i64] 1 1 (AA u1 u2 u0).length (GV u1 u2 u0) (G5 u1 u2 u0) [(.int .i64 u0)] [(.d (.int .i64 0))] (JQ u1 u2 u0).isSome (K8 u1 u2 u0),cu (fun _=>rfl) (fun _ _=>rfl) (AA u1 u2 u0) u0 0 rfl rfl rfl⟩]<| .a3 (Oi u1 u2 u0) (OT u1 u2 u3 u0) (OH u1 u2 u3 u0)<| .rg {an:=[(6, .take 88),(8, .arr [u3].length (av (aG .i64) [u3])),(9, .arr (GU u1 u2 u3 u0).length (Ke u1 u2 u3 u0)),(12, .rows 0 (KL u1 u2 u3 u0))],fr:=[(8,89),(9,90)]} [0, .t 0 (BJ u1 u2 u0) (KO u1), .pf ⟨[u3].length=1,rfl⟩, .pf ⟨aC 1 1 (GY u3) (av (aG .i64) [u3]),(by intro i hi j hj;match i,j,hi,hj with|0,0,_,_=>rfl)⟩, .e (Om u1 u2 u0),1,2, .pf ⟨(GU u1 u2 u3 u0).length=(GZ u1 u2 u0).length+[u3].length,List.length_append⟩, .pf ⟨aC (NM u1 u2 u3 u0) 1 (OL u1 u2 u3 u0) (Ke u1 u2 u3 u0),bD _ _ _ _⟩,0, .t 0 (BJ u1 u2 u0) (KO u1), .e (OC u1 u2 u3 u0), .pf ⟨tH (zL u1).length 2 (OM u1 u2 u3 u0) (KL u1 u2 u3 u0),gD _ _ _ _ _ _ _ _ rfl (fun j hj=>(match j,hj with|0,_=>rfl|1,_=>rfl))⟩, .pf ⟨∀i0 j0 c0,(P7 u1 u2 u0)=some (i0,j0,c0)→i0=(BJ u1 u2 u0).toNat∧j0=0,(fun i0 j0 c0 e=>by cases e;exact⟨rfl,rfl⟩)⟩]<| .im (.ll 87 (zL u1) (Mf u1 u2 u3 u0))<| .r<| .en (.next (Oe u1 u2 u3 u0)) [] [(87,60)])
  (.rg {an:=[(2, .look (aN bH u0 u2).isSome (xA u2 u0))]} [.pf ⟨dW [some .i64] 1 1 u2.length (nN (aG .i64) u2) (oG (aG .i64) u2) [(.int .i64 u0)] [(.d (.int .i64 0))] (aN bH u0 u2).isSome (xA u2 u0),cu (fun _=>rfl) (fun _ _=>rfl) u2 u0 0 rfl rfl rfl⟩]<| .a3 (K4 u1 u2 u0) (OI u1 u2 u3 u0) (OY u1 u2 u3 u0)<| .rg {an:=[(6, .take 91),(8, .arr [u3].length (av (aG .i64) [u3])),(9, .arr (GX u1 u2 u3 u0).length (Kc u1 u2 u3 u0)),(12, .rows 0 (K5 u1 u2 u3 u0))],fr:=[(8,92),(9,93)]} [0, .t 0 (nY u2 u0) u1.length, .pf ⟨[u3].length=1,rfl⟩, .pf ⟨aC 1 1 (GY u3) (av (aG .i64) [u3]),(by intro i hi j hj;match i,j,hi,hj with|0,0,_,_=>rfl)⟩, .e (OO u1 u2 u0),1,2, .pf ⟨(GX u1 u2 u3 u0).length=(G8 u1 u2 u0).length+[u3].length,List.length_append⟩, .pf ⟨aC (Nz u1 u2 u3 u0) 1 (OP u1 u2 u3 u0) (Kc u1 u2 u3 u0),bD _ _ _ _⟩,0, .t 0 (nY u2 u0) u1.length, .e (OW u1 u2 u3 u0), .pf ⟨tH u1.length 2 (OU u1 u2 u3 u0) (K5 u1 u2 u3 u0),gD _ _ _ _ _ _ _ _ rfl (fun j hj=>(match j,hj with|0,_=>rfl|1,_=>rfl))⟩, .pf ⟨∀i0 j0 c0,(P9 u1 u2 u0)=some (i0,j0,c0)→i0=(nY u2 u0).toNat∧j0=0,(fun i0 j0 c0 e=>by cases e;exact⟨rfl,rfl⟩)⟩]<| .im (.ll 60 u1 (Mj u1 u2 u3 u0))<| .r<| .e (.next (OE u1 u2 u3 u0)))))
  (.e (.done (.brk (u1,u2)))))
  (fun(u9,u4)=> .r<| .lp (σ:=((List ah) × Int)) (β:=(List ah)) (u9,0) [] [] ⟨[3,5,8,76,77],[57,58,61],fun(u5,u7)=>[(7,(vO 60 false u5.length)),(78,(vI u7))],fun(u5,u7)=>(Ol u5)⟩ ⟨[],[],fun u8=>[(7,(vO 60 false u8.length))],fun u8=>(Ol u8)⟩
  (fun(u5,u7)=> .r<| .it (.a1 (MX u7 p)<| .rg {fr:=[(3,106)],fz:=[106]} []<| .a3 (Ot s_ u7) (Oj s_ u7) (Od s_ u7 p)<| .rg {} [0,1,2]<| .it (.cr 4 (kU [(0,57)] (aK v0 ((at' p.sources u7.toNat).bus))) fun u6=> .rg {an:=[(5, .look (aN bH u6 u4).isSome (xA u4 u6))]} [0, .pf ⟨dW [some .i64] 1 1 u4.length (nN (aG .i64) u4) (oG (aG .i64) u4) [(.int .i64 u6)] [(.d (.int .i64 0))] (aN bH u6 u4).isSome (xA u4 u6),cu (fun _=>rfl) (fun _ _=>rfl) u4 u6 0 rfl rfl rfl⟩]<| .a3 (K4 u5 u4 u6) (Oy u5 u7 u6 u4) (OQ u5 u7 u6 u4)<| .rg {an:=[(6, .take 107),(8, .arr [u7].length (av (aG .i64) [u7])),(9, .arr (G6 u5 u7 u6 u4).length (Kk u5 u7 u6 u4)),(12, .rows 0 (KY u5 u7 u6 u4))],fr:=[(8,108),(9,109)]} [0, .t 0 (nY u4 u6) u5.length, .pf ⟨[u7].length=1,rfl⟩, .pf ⟨aC 1 1 (GY u7) (av (aG .i64) [u7]),(by intro i hi j hj;match i,j,hi,hj with|0,0,_,_=>rfl)⟩, .e (JX u5 u6 u4),1,2, .pf ⟨(G6 u5 u7 u6 u4).length=(GR u5 u6 u4).length+[u7].length,List.length_append⟩, .pf ⟨aC (MS u5 u7 u6 u4) 1 (JH u5 u7 u6 u4) (Kk u5 u7 u6 u4),bD _ _ _ _⟩,0, .t 0 (nY u4 u6) u5.length, .e (Kh u5 u7 u6 u4), .pf ⟨tH u5.length 2 (JM u5 u7 u6 u4) (KY u5 u7 u6 u4),gD _ _ _ _ _ _ _ _ rfl (fun j hj=>(match j,hj with|0,_=>rfl|1,_=>rfl))⟩, .pf ⟨∀i0 j0 c0,(Nn u5 u6 u4)=some (i0,j0,c0)→i0=(nY u4 u6).toNat∧j0=1,(fun i0 j0 c0 e=>by cases e;exact⟨rfl,rfl⟩)⟩]<| .im (.ll 60 u5 (F4 u5 u7 u6 u4))<| .r<| .e (.next (Kj u5 u7 u6 u4)))
  (.r<| .e (.next (u5,(k3 u7)))))
  (.e (.done (.brk u5))))
  (fun u8=> .r<| .fz [60]<| .im (.us 4 (vD (.sl none 2 u8.length (fun i j=>Mi (jI ah.ev u8 i j)))) (vD (bg none 2 ah.cell u8)) (vo.v (vk.one (mW.d (kG.sl (.inr rfl) (fun i _ j hj=>match j,hj with|0,_=> .refl _|1,_=> .refl _))))))<| .e u8)))
section
variable (p:au) (u1:(List ah)) (u0:Int) (u3:Int) (u2:(List Bool))
abbrev sJ:=(List.replicate p.buses.toNat (false:Bool))
abbrev BP:=(av af (sJ p))
abbrev F6:=(at' ((at' u1 u0.toNat).buses) u3.toNat)
abbrev N8:=((0:Int)≤(F6 u1 u0 u3)∧(F6 u1 u0 u3)<(u2.length:Int))
abbrev J5:=(u2.set ((F6 u1 u0 u3).toNat) (decide (0<(((at' u1 u0.toNat).sources).length:Int))))
abbrev Ku:=(av af (J5 u1 u0 u3 u2))
abbrev NP:=(lY (av af u2) ((F6 u1 u0 u3).toNat) 0 [(.bool (decide (0<(((at' u1 u0.toNat).sources).length:Int))))])
abbrev NU:=((J5 u1 u0 u3 u2),(k3 u3))
end
theorem wO (p:au) (s_:State):gG Tryz.prog 16 (k19 s_ p) [] (fun r=>(.fK [(sD (bg none 1 af r.1)),(sI r.2)])) (fun _=>[]) (uo p s_):=
  iP tT mX Tryz.func16 (
  .rg {fr:=[(0,7),(1,8)],fz:=[7,8]} []<| .cl 2 (bV p s_) fun r_=> .r<| .r<| .it (.r<| .e (([]:List Bool),r_))
  (.a3 ((0:Int)≤p.buses) ((1:Int)*p.buses≤281474976710656) ((p.buses:Int)≤9223372036854775807)<| .rg {an:=[(2, .arr (sJ p).length (BP p))],fr:=[(2,9)]} [0, .e ((p.buses:Int)),1,2, .pf ⟨(sJ p).length=p.buses.toNat,List.length_replicate⟩, .pf ⟨aC p.buses.toNat 1 (fun _ j=>[(.bool false)].getD j .nilp) (BP p),gH _ _ _ _ _ (fun j hj=>(match j,hj with|0,_=>rfl))⟩]<| .cl 2 (jY p s_) fun u1=> .r<| .lp (σ:=((List Bool) × Int)) (β:=(List Bool)) ((sJ p),0) [] [] ⟨[23,24],[],fun(u4,u0)=>[(7,(vO 9 true u4.length)),(25,(vI u0))],fun(u4,u0)=>[(9,some (cZ 4 1 af u4))]⟩ ⟨[],[],fun u5=>[(7,(vO 9 true u5.length))],fun u5=>[(9,some (cZ 4 1 af u5))]⟩
  (fun(u4,u0)=> .r<| .it (.a1 (He u0 u1)<| .rg {fr:=[(2,13)]} []<| .rg {fz:=[13]} []<| .lp (σ:=((List Bool) × Int)) (β:=(List Bool)) (u4,0) [] [] ⟨[9,23,24,25,30,31],[],fun(u2,u3)=>[(7,(vO 9 true u2.length)),(32,(vI u3))],fun(u2,u3)=>[(9,some (cZ 4 1 af u2))]⟩ ⟨[23,24,25],[],fun u6=>[(7,(vO 9 true u6.length))],fun u6=>[(9,some (cZ 4 1 af u6))]⟩
  (fun(u2,u3)=> .r<| .it (.a1 ((0:Int)≤u3∧u3<(((at' u1 u0.toNat).buses).length:Int))<| .r<| .a1 (N8 u1 u0 u3 u2)<| .rg {an:=[(7, .arr 0 (Ku u1 u0 u3 u2))]} [0, .t 0 (F6 u1 u0 u3) u2.length, .pf ⟨aC u2.length 1 (NP u1 u0 u3 u2) (Ku u1 u0 u3 u2),dX _ _ _ _ _ _ _ _ rfl (fun j hj=>(match j,hj with|0,_=>rfl))⟩]<| .im (.ll 9 u2 (J5 u1 u0 u3 u2))<| .r<| .e (.next (NU u1 u0 u3 u2)))
  (.e (.done (.brk u2))))
  (fun u6=> .r<| .e (.next (u6,(k3 u0)))))
  (.e (.done (.brk u4))))
  (fun u5=> .rg {fz:=[9]} []<| .e (u5,0))))
section
variable (p:au) (u0:Int) (r_:((List Bool) × Int)) (u1:(List aH))
abbrev uU:=((at' p.racks u0.toNat).feeds)
abbrev KA:List DV:=[(.int .i64 ((uU p u0).e0))]
abbrev BV:List CV:=[(cI ((uU p u0).e0)),(cI ((uU p u0).e1))]
abbrev NC:=((gB [((decide (0≤((uU p u0).e0))),true)]=true→(0:Int)≤(uU p u0).e0∧(uU p u0).e0<(r_.1.length:Int)))
abbrev Jw:List DV:=[(.int .i64 ((uU p u0).e1))]
abbrev N9:=((gB [((decide (0≤((uU p u0).e1))),true)]=true→(0:Int)≤(uU p u0).e1∧(uU p u0).e1<(r_.1.length:Int)))
abbrev MF:=(bif (decide (0≤((uU p u0).e0)))then(at' r_.1 (((uU p u0).e0).toNat))else false)
abbrev NQ:=(bif (decide (0≤((uU p u0).e1)))then(at' r_.1 (((uU p u0).e1).toNat))else false)
abbrev zI:=(⟨(MF p u0 r_),(NQ p u0 r_)⟩:aH)
abbrev Ll:=(u1.length+[(zI p u0 r_)].length)
abbrev Nf:=((Ll p u0 r_ u1)*2≤140737488355328)
abbrev ML:=(u1.length+[(zI p u0 r_)].length≤4611686018427387904)
abbrev Hw:=(av aH.cell [(zI p u0 r_)])
abbrev FO:=(u1++[(zI p u0 r_)])
abbrev J9:=(av aH.cell (FO p u0 r_ u1))
abbrev MH:=(iY 2 [(.bool (MF p u0 r_)),(.bool (NQ p u0 r_))])
abbrev Nk:=(qQ (av aH.cell u1) u1.length (Hw p u0 r_))
abbrev M9:=((FO p u0 r_ u1),(k3 u0))
end
theorem yH (p:au) (s_:State):gG Tryz.prog 19 (k19 s_ p) [] (fun r=>(.fK [(sD (bg none 2 aH.cell r.1)),(sI r.2)])) (fun _=>[]) (wm p s_):=
  iP tT mX Tryz.func19 (
  .rg {fr:=[(0,18),(1,19)],fz:=[19]} []<| .cl 2 (wO p s_) fun r_=> .r<| .r<| .it (.r<| .e (([]:List aH),r_.2))
  (.r<| .r<| .im (.ad 8 36 75 2 (av aH.cell ([]:List aH)))<| .lp (σ:=((List aH) × Int)) (β:=(List aH)) (([]:List aH),0) [] [(36,23)] ⟨[6,24,25],[],fun(u1,u0)=>[(8,(vO 23 false u1.length)),(26,(vI u0))],fun(u1,u0)=>[(23,some (cZ 75 2 aH.cell u1))]⟩ ⟨[],[],fun u2=>[(8,(vO 23 false u2.length))],fun u2=>[(23,some (cZ 75 2 aH.cell u2))]⟩
  (fun(u1,u0)=> .r<| .it (.a1 ((0:Int)≤u0∧u0<(p.racks.length:Int))<| .rg {fr:=[(2,32)],fz:=[32]} []<| .rg {fr:=[(0,33)]} []<| .r<| .ul 11<| .r<| .t<| .rg {an:=[(1, .vals (KA p u0))]} [.pf ⟨(0:Int)≤0∧(0:Int)<(2:Nat),(by decide)⟩, .pf ⟨0*1+1≤(BV p u0).length,Nat.le_of_ble_eq_true rfl⟩, .pf ⟨((BV p u0).drop (0*1)).take 1=(KA p u0).map .d,rfl⟩]<| .a1 (NC p u0 r_)<| .rg {} [0, .pf ⟨(0:Int)≤0∧(0:Int)<(2:Nat),(by decide)⟩]<| .r<| .im (.dp [6,8,11,24,25,26,31,32])<| .r<| .t<| .rg {an:=[(1, .vals (Jw p u0))]} [.pf ⟨(0:Int)≤1∧(1:Int)<(2:Nat),(by decide)⟩, .pf ⟨1*1+1≤(BV p u0).length,Nat.le_of_ble_eq_true rfl⟩, .pf ⟨((BV p u0).drop (1*1)).take 1=(Jw p u0).map .d,rfl⟩]<| .a1 (N9 p u0 r_)<| .rg {} [0, .pf ⟨(0:Int)≤1∧(1:Int)<(2:Nat),(by decide)⟩]<| .r<| .im (.dp [6,8,11,24,25,26,31,32])<| .r<| .f<| .a2 (Nf p u0 r_ u1) (ML p u0 r_ u1)<| .rg {an:=[(2, .arr [(zI p u0 r_)].length (Hw p u0 r_)),(3, .arr (FO p u0 r_ u1).length (J9 p u0 r_ u1))],fr:=[(2,34),(3,35)]} [.pf ⟨[(zI p u0 r_)].length=1,rfl⟩, .pf ⟨aC 1 2 (MH p u0 r_) (Hw p u0 r_),(by intro i hi j hj;match i,j,hi,hj with|0,0,_,_=>rfl|0,1,_,_=>rfl)⟩, .e (u1.length),0,1, .pf ⟨(FO p u0 r_ u1).length=u1.length+[(zI p u0 r_)].length,List.length_append⟩, .pf ⟨aC (Ll p u0 r_ u1) 2 (Nk p u0 r_ u1) (J9 p u0 r_ u1),bD _ _ _ _⟩]<| .r<| .en (.next (M9 p u0 r_ u1)) [] [(35,23)])
  (.e (.done (.brk u1))))
  (fun u2=> .rg {fz:=[23]} []<| .e (u2,0))))
theorem eZ (x y:aj):Go.Proofs.ltOf bU x y=true↔x.e0<y.e0∨ ¬ y.e0<x.e0∧x.e1<y.e1:=by
 unfold Go.Proofs.ltOf bU;rw [decide_eq_true_iff]
 by_cases h0:x.e0<y.e0<;>by_cases g0:y.e0<x.e0<;>by_cases h1:x.e1<y.e1<;>by_cases g1:y.e1<x.e1<;>simp [h0,g0,h1,g1]
theorem o6:Go.Sort.SWO (Go.Proofs.ltOf bU) where
 irrefl x:=by rw [←Bool.not_eq_true,eZ];omega
 trans x y z h1 h2:=by rw [eZ]at*;omega
 ntrans x y z h1 h2:=by rw [←Bool.not_eq_true,eZ]at*;omega
theorem o8 (x y:aj) (h1:(Go.Proofs.ltOf bU) x y=false) (h2:(Go.Proofs.ltOf bU) y x=false):x=y:=by
 rw [←Bool.not_eq_true,eZ]at h1 h2
 obtain⟨a,b⟩:=x
 obtain⟨c,d⟩:=y
 have e1:a=c:=by simp only at h1 h2;omega
 have e2:b=d:=by simp only at h1 h2;omega
 rw [e1,e2]
theorem pO (s:(List aj)) {r:(List aj)} (h:mI s=some r):Fn Tryz.prog 54 [(.one (.own 0 false s.length)),(sD (.fn 55 0 (ve [])))] [(0,some (.arr 79 2 s.length (av aj.cell s)))] (.fK []) [(0,some (.arr 79 2 r.length (av aj.cell r)))]:=
 L8 Hr 2 KG I8 (fun x:aj=>[.int .i64 x.e0, .int .i64 x.e1]) (fun _=>rfl) (fun x v hv=>by simp at hv;rcases hv with rfl|rfl<;>rfl) bU o6 o8
  (D6 (fun x:aj=>[.int .i64 x.e0, .int .i64 x.e1]) (fun x=>x.e0) (fun x=>x.e1) (fun _=>rfl)) (enters_of Tryz.func55 (by kernel_rfl) rfl)
  (fun F w x j hj v=>match j,hj with|0,_=>Iff.rfl|1,_=>Iff.rfl) 54 rfl ⟨_,Tryz.func54,rfl,rfl⟩ s (by cases s with|nil=>(cases h;simp)|cons x xs=>exact h)
section
variable (u6:(List aj)) (u2:(List ah)) (u0:Int) (u1:Int) (u3:Int) (u4:(List aj))
abbrev FM:List (Nat × Option Ob):=[(138,some (cZ 79 2 aj.cell u6))]
abbrev Ma:=(((at' u2 u0.toNat).sources).drop ((k3 u1).toNat))
abbrev DF:=(at' ((at' u2 u0.toNat).sources) u1.toNat)
abbrev JD:=(at' (Ma u2 u0 u1) u3.toNat)
abbrev EQ:=(⟨(DF u2 u0 u1),(JD u2 u0 u1 u3)⟩:aj)
abbrev Mw:=(u4.length+[(EQ u2 u0 u1 u3)].length)
abbrev Lp:=(av aj.cell [(EQ u2 u0 u1 u3)])
abbrev JI:=(u4++[(EQ u2 u0 u1 u3)])
abbrev Nc:=(av aj.cell (JI u2 u0 u1 u3 u4))
end
theorem rG (p:au) (s_:State):gG Tryz.prog 22 (k19 s_ p) [] (fun r=>(.fK [(sD (bg none 2 aj.cell r.1)),(sI r.2)])) (fun _=>[]) (oP p s_):=
  iP tT mX Tryz.func22 (
  .rg {fr:=[(0,134),(1,135)],fz:=[134,135]} []<| .cl 2 (bV p s_) fun r_=> .r<| .r<| .it (.r<| .e (([]:List aj),r_))
  (.r<| .cl 2 (jY p s_) fun u2=> .r<| .im (.ad 7 268 79 2 (av aj.cell ([]:List aj)))<| .lp (σ:=((List aj) × Int)) (β:=(List aj)) (([]:List aj),0) [] [(268,138)] ⟨[2,22,23],[],fun(u6,u0)=>[(7,(vO 138 false u6.length)),(24,(vI u0))],fun(u6,u0)=>(FM u6)⟩ ⟨[],[],fun u5=>[(7,(vO 138 false u5.length))],fun u5=>(FM u5)⟩
  (fun(u6,u0)=> .r<| .it (.a1 (He u0 u2)<| .rg {fr:=[(2,235)],fz:=[235]} []<| .r<| .lp (σ:=((List aj) × Int)) (β:=(List aj)) (u6,0) [] [] ⟨[2,9,22,23,24,29,30],[],fun(u7,u1)=>[(7,(vO 138 false u7.length)),(31,(vI u1))],fun(u7,u1)=>(FM u7)⟩ ⟨[2,22,23,24],[],fun u8=>[(7,(vO 138 false u8.length))],fun u8=>(FM u8)⟩
  (fun(u7,u1)=> .r<| .it (.a1 ((0:Int)≤u1∧u1<(((at' u2 u0.toNat).sources).length:Int))<| .r<| .a1 ((0:Int)≤(k3 u1)∧(k3 u1)≤(((at' u2 u0.toNat).sources).length:Int))<| .r<| .im (.us 40 (vD (.sl none 1 (((at' u2 u0.toNat).sources).length - ((k3 u1).toNat)) (fun iq jq=>av (aG .i64) ((at' u2 u0.toNat).sources) (iq+((k3 u1).toNat)) jq))) (vD (bg none 1 (aG .i64) (Ma u2 u0 u1))) (vo.v (vk.one (mW.d (kG.PY (by first|rw [List.length_append,List.length_drop]|simp only [List.length_set,List.length_drop,CY]) (.inr rfl) (LW _ _ _ _))))))<| .lp (σ:=((List aj) × Int)) (β:=(List aj)) (u7,0) [] [] ⟨[2,9,11,22,23,24,29,30,31,40,41],[],fun(u4,u3)=>[(7,(vO 138 false u4.length)),(42,(vI u3))],fun(u4,u3)=>(FM u4)⟩ ⟨[2,9,22,23,24,29,30,31],[],fun u9=>[(7,(vO 138 false u9.length))],fun u9=>(FM u9)⟩
  (fun(u4,u3)=> .r<| .it (.a1 ((0:Int)≤u3∧u3<((Ma u2 u0 u1).length:Int))<| .r<| .a3 ((0:Int)≤(DF u2 u0 u1)∧(DF u2 u0 u1)<(p.sources.length:Int)) ((gB [((decide (((at' p.sources ((DF u2 u0 u1).toNat)).sync)=0)),false)]=true→(0:Int)≤(DF u2 u0 u1)∧(DF u2 u0 u1)<(p.sources.length:Int))) ((gB [((decide (((at' p.sources ((DF u2 u0 u1).toNat)).sync)=0)),false)]=true→(0:Int)≤(JD u2 u0 u1 u3)∧(JD u2 u0 u1 u3)<(p.sources.length:Int)))<| .rg {} [0,1,2]<| .it (.a2 ((Mw u2 u0 u1 u3 u4)*16≤140737488355328) (u4.length+[(EQ u2 u0 u1 u3)].length≤4611686018427387904)<| .rg {an:=[(4, .arr [(EQ u2 u0 u1 u3)].length (Lp u2 u0 u1 u3)),(5, .arr (JI u2 u0 u1 u3 u4).length (Nc u2 u0 u1 u3 u4))],fr:=[(4,266),(5,267)]} [.pf ⟨[(EQ u2 u0 u1 u3)].length=1,rfl⟩, .pf ⟨aC 1 2 (iY 2 [(.int .i64 (DF u2 u0 u1)),(.int .i64 (JD u2 u0 u1 u3))]) (Lp u2 u0 u1 u3),(by intro i hi j hj;match i,j,hi,hj with|0,0,_,_=>rfl|0,1,_,_=>rfl)⟩, .e (u4.length),0,1, .pf ⟨(JI u2 u0 u1 u3 u4).length=u4.length+[(EQ u2 u0 u1 u3)].length,List.length_append⟩, .pf ⟨aC (Mw u2 u0 u1 u3 u4) 2 (qQ (av aj.cell u4) u4.length (Lp u2 u0 u1 u3)) (Nc u2 u0 u1 u3 u4),bD _ _ _ _⟩]<| .r<| .en (.next ((JI u2 u0 u1 u3 u4),(k3 u3))) [] [(267,138)])
  (.r<| .e (.next (u4,(k3 u3)))))
  (.e (.done (.brk u4))))
  (fun u9=> .r<| .e (.next (u9,(k3 u1)))))
  (.e (.done (.brk u7))))
  (fun u8=> .r<| .e (.next (u8,(k3 u0)))))
  (.e (.done (.brk u6))))
  (fun u5=> .cl 1 (kU [(0,138)] ⟨fun h=>pO u5 h⟩) fun v0=> .r<| .a1 (u5.length=v0.length)<| .so 7 138 false u5.length v0.length 0<| .so 77 138 false u5.length v0.length 0<| .fz [138]<| .r<| .e (v0,0))))
theorem qb (a:(List aj)) (b:(List aj)):gG Tryz.prog 24 [(sD (bg none 2 aj.cell a)),(sD (bg none 2 aj.cell b))] [] (fun r=>(vB r)) (fun _=>[]) (mD a b):=
  iP tT mX Tryz.func24 (
  .r<| .r<| .it (.r<| .e false)
  (.r<| .lp (σ:=Int) (β:=Unit) (0) [] [] ⟨[0,1],[],fun i=>[(5,(vI i))],fun i=>[]⟩ ⟨[],[],fun _=>[],fun _=>[]⟩
  (fun i=> .r<| .it (.a2 ((0:Int)≤i∧i<(a.length:Int)) ((0:Int)≤i∧i<(b.length:Int))<| .rg {} [0,1]<| .it (.r<| .e (.done (.ret false)))
  (.r<| .e (.next (k3 i))))
  (.e (.done (.brk ()))))
  (fun _=> .r<| .e true)))
section
variable (n:Int)
abbrev Jf:=(List.replicate n.toNat (false:Bool))
end
theorem bN (n:Int):gG Tryz.prog 61 [(sI n)] [] (fun r=>(vO 0 true r.length)) (fun r=>[(0,some (cZ 4 1 af r))]) (aY n):=
  iP tT mX Tryz.func61 (
  .r<| .a3 ((0:Int)≤n) ((1:Int)*n≤281474976710656) ((n:Int)≤9223372036854775807)<| .rg {an:=[(1, .arr (Jf n).length (av af (Jf n)))],fr:=[(1,1)]} [0, .e ((n:Int)),1,2, .pf ⟨(Jf n).length=n.toNat,List.length_replicate⟩, .pf ⟨aC n.toNat 1 (fun _ j=>[(.bool false)].getD j .nilp) (av af (Jf n)),gH _ _ _ _ _ (fun j hj=>(match j,hj with|0,_=>rfl))⟩]<| .en (Jf n) [] [(1,0)])
section
variable (s_:(List Bool))
abbrev Ib:=(av af (([]:List Bool)++s_))
end
theorem kS (s_:(List Bool)) (u0:Bool):gG Tryz.prog 112 [(sD (bg (some u0) 1 af s_))] [] (fun r=>(vO 0 false r.length)) (fun r=>[(0,some (cZ 4 1 af r))]) (lK s_ u0):=
  iP tT mX Tryz.func112 (
  .r<| .r<| .it (.r<| .im (.ad 2 2 4 1 (av af ([]:List Bool)))<| .en ([]:List Bool) [] [(2,0)])
  (.a2 ((([]:List Bool).length+s_.length)*1≤140737488355328) (([]:List Bool).length+s_.length≤4611686018427387904)<| .rg {an:=[(0, .arr ([]:List Bool).length (av af ([]:List Bool))),(2, .arr (([]:List Bool)++s_).length (Ib s_))],fr:=[(0,3),(2,4)]} [.pf ⟨([]:List Bool).length=0,rfl⟩, .pf ⟨aC 0 1 (iY 1 []) (av af ([]:List Bool)),(fun i hi=>absurd hi (Nat.not_lt_zero i))⟩, .e (([]:List Bool).length),0,1, .pf ⟨(([]:List Bool)++s_).length=([]:List Bool).length+s_.length,List.length_append⟩, .pf ⟨aC (([]:List Bool).length+s_.length) 1 (qQ (av af ([]:List Bool)) ([]:List Bool).length (av af s_)) (Ib s_),bD _ _ _ _⟩]<| .en (([]:List Bool)++s_) [] [(4,0)]))
theorem bn (s:(List Bool)) {r:(List Bool)} (h:bG s=some r):Fn Tryz.prog 112 [(sD (bg none 1 af s))] [] (vO 0 false r.length) [(0,some (cZ 4 1 af r))]:=by
 refine Fn.nn (kS s true h) fun hl=> ?_
 have hs:s=[]:=List.eq_nil_of_length_eq_zero hl
 subst hs
 exact kS [] false (by rw [←h];kernel_rfl)
section
variable (s_:State)
abbrev NF:List SV:=[(.agg (k20 s_))]
end
theorem ql (s_:State):gG Tryz.prog 92 (NF s_) [] (fun r=>(.v (.agg [(.own 0 false r.closed.length),(.own 1 false r.locked.length),(.own 2 false r.badLink.length),(.own 3 false r.on_.length),(.own 4 false r.badSource.length),(.own 5 false r.earthed.length),(.own 6 false r.badBus.length)]))) (fun r=>[(0,some (cZ 4 1 af r.closed)),(1,some (cZ 4 1 af r.locked)),(2,some (cZ 4 1 af r.badLink)),(3,some (cZ 4 1 af r.on_)),(4,some (cZ 4 1 af r.badSource)),(5,some (cZ 4 1 af r.earthed)),(6,some (cZ 4 1 af r.badBus)),(7,none)]) (jU s_):=
  iP tT mX Tryz.func92 (
  .rg {fr:=[(0,10),(1,11)]} []<| .rg {an:=[(7, .cells)],fr:=[(7,12)]} []<| .ul 11<| .r<| .t<| .a1 ((0:Int)≤0∧0<(7:Int))<| .r<| .cl 4 (kU [(0,13)] ⟨fun h=>bn s_.closed h⟩) fun r_=> .r<| .r<| .im (.dp [1,2,12,13,14])<| .r<| .t<| .a1 ((0:Int)≤1∧1<(7:Int))<| .r<| .cl 4 (kU [(0,14)] ⟨fun h=>bn s_.locked h⟩) fun u0=> .r<| .r<| .im (.dp [1,2,12,13,14])<| .r<| .t<| .a1 ((0:Int)≤2∧2<(7:Int))<| .r<| .cl 4 (kU [(0,15)] ⟨fun h=>bn s_.badLink h⟩) fun u1=> .r<| .r<| .im (.dp [1,2,12,13,14])<| .r<| .t<| .a1 ((0:Int)≤3∧3<(7:Int))<| .r<| .cl 4 (kU [(0,16)] ⟨fun h=>bn s_.on_ h⟩) fun u2=> .r<| .r<| .im (.dp [1,2,12,13,14])<| .r<| .t<| .a1 ((0:Int)≤4∧4<(7:Int))<| .r<| .cl 4 (kU [(0,17)] ⟨fun h=>bn s_.badSource h⟩) fun u3=> .r<| .r<| .im (.dp [1,2,12,13,14])<| .r<| .t<| .a1 ((0:Int)≤5∧5<(7:Int))<| .r<| .cl 4 (kU [(0,18)] ⟨fun h=>bn s_.earthed h⟩) fun u4=> .r<| .r<| .im (.dp [1,2,12,13,14])<| .r<| .t<| .a1 ((0:Int)≤6∧6<(7:Int))<| .r<| .cl 4 (kU [(0,19)] ⟨fun h=>bn s_.badBus h⟩) fun u5=> .r<| .r<| .im (.dp [1,2,12,13,14])<| .r<| .f<| .r<| .en (⟨r_,u0,u1,u2,u3,u4,u5⟩:State) [] [(13,0),(14,1),(15,2),(16,3),(17,4),(18,5),(19,6),(11,7)])
section
variable (p:au) (s_:State) (x:Part) (is:Bool) (r_:Int) (u0:State)
abbrev NT:List SV:=[(.agg (k1 p)),(.agg (k20 s_)),(.agg [(cI x.kind),(cI x.index)]),(sB is)]
abbrev Kg:=((⟨([]:List Bool),([]:List Bool),([]:List Bool),([]:List Bool),([]:List Bool),([]:List Bool),([]:List Bool)⟩:State),r_)
abbrev Ej:List CV:=[(.own 30 false u0.badBus.length)]
abbrev w9:=(Hf 1 (Ej u0))
abbrev vL:List DV:=[(.int .i64 1),(.int .i64 2)]
abbrev xk:=(Hf 1 [(.own 30 false u0.badBus.length),(.own 28 false u0.badSource.length)])
abbrev wY:List DV:=[(.int .i64 1),(.int .i64 2),(.int .i64 3)]
abbrev wS:=(Hf 1 [(.own 30 false u0.badBus.length),(.own 28 false u0.badSource.length),(.own 26 false u0.badLink.length)])
abbrev GN:List CV:=[(.own 28 false u0.badSource.length)]
abbrev Ga:List CV:=[(.own 26 false u0.badLink.length)]
end
theorem kT (p:au) (s_:State) (x:Part) (is:Bool):gG Tryz.prog 62 (NT p s_ x is) [] (fun r=>(.fK [(.agg [(.own 0 false r.1.closed.length),(.own 1 false r.1.locked.length),(.own 2 false r.1.badLink.length),(.own 3 false r.1.on_.length),(.own 4 false r.1.badSource.length),(.own 5 false r.1.earthed.length),(.own 6 false r.1.badBus.length)]),(sI r.2)])) (fun r=>[(0,some (cZ 4 1 af r.1.closed)),(1,some (cZ 4 1 af r.1.locked)),(2,some (cZ 4 1 af r.1.badLink)),(3,some (cZ 4 1 af r.1.on_)),(4,some (cZ 4 1 af r.1.badSource)),(5,some (cZ 4 1 af r.1.earthed)),(6,some (cZ 4 1 af r.1.badBus)),(7,none)]) (cB p s_ x is):=
  iP tT mX Tryz.func62 (
  .rg {fr:=[(0,13),(1,14),(2,15),(3,16)],fz:=[13]} []<| .cl 2 (bV p s_) fun r_=> .r<| .r<| .it (.r<| .im (.kY 16 0 17 4 1 (av af ([]:List Bool)))<| .im (.kY 16 1 18 4 1 (av af ([]:List Bool)))<| .im (.kY 16 2 19 4 1 (av af ([]:List Bool)))<| .im (.kY 16 3 20 4 1 (av af ([]:List Bool)))<| .im (.kY 16 4 21 4 1 (av af ([]:List Bool)))<| .im (.kY 16 5 22 4 1 (av af ([]:List Bool)))<| .im (.kY 16 6 23 4 1 (av af ([]:List Bool)))<| .en (Kg r_) [] [(17,0),(18,1),(19,2),(20,3),(21,4),(22,5),(23,6),(16,7)])
  (.cl 1 (kU [(0,24),(1,25),(2,26),(3,27),(4,28),(5,29),(6,30),(7,31)] (ql s_)) fun u0=> .r<| .fk (bH x.kind 1) (.rg {an:=[(0, .map 0 (mO []) (Hf 1 []) []),(3, .map 1 (mO [(.int .i64 1)]) (w9 u0) [30]),(6, .map 2 (mO vL) (xk u0) [30,28]),(9, .map 3 (mO wY) (wS u0) [30,28,26]),(13, .look true (Ej u0))],fr:=[(0,32)]} [.pf ⟨jE [some .i64] 1 1 0 (mO []) (Hf 1 []) [(.int .i64 1)] (Ej u0) [30] 1 (mO [(.int .i64 1)]) (w9 u0),⟨(fun i hi=>absurd hi (Nat.not_lt_zero i)),(by intro i hi j hj;match i,j,hi,hj with|0,0,_,_=>exact aS.1 (show cO (CV.aV (.own 30 false u0.badBus.length)) [30]=true from by kernel_rfl)),0,(fun i hi=>absurd hi (Nat.not_lt_zero i)), .inr ⟨rfl,rfl⟩,rfl,rfl,(fun i hi=>absurd hi (Nat.not_lt_zero i))⟩⟩, .pf ⟨jE [some .i64] 1 1 1 (mO [(.int .i64 1)]) (w9 u0) [(.int .i64 2)] (GN u0) [30,28] 2 (mO vL) (xk u0),⟨(by intro i hi;match i,hi with|0,_=>rfl),(by intro i hi j hj;match i,j,hi,hj with|0,0,_,_=>exact aS.1 (show cO (CV.aV (.own 30 false u0.badBus.length)) [30,28]=true from by kernel_rfl)|1,0,_,_=>exact aS.1 (show cO (CV.aV (.own 28 false u0.badSource.length)) [30,28]=true from by kernel_rfl)),1,(by intro i hi;match i,hi with|0,_=>rfl), .inr ⟨rfl,rfl⟩,rfl,rfl,(by intro i hi;match i,hi with|0,_=>exact fun _=> ⟨rfl,rfl⟩)⟩⟩, .pf ⟨jE [some .i64] 1 1 2 (mO vL) (xk u0) [(.int .i64 3)] (Ga u0) [30,28,26] 3 (mO wY) (wS u0),⟨(by intro i hi;match i,hi with|0,_=>rfl|1,_=>rfl),(by intro i hi j hj;match i,j,hi,hj with|0,0,_,_=>exact aS.1 (show cO (CV.aV (.own 30 false u0.badBus.length)) [30,28,26]=true from by kernel_rfl)|1,0,_,_=>exact aS.1 (show cO (CV.aV (.own 28 false u0.badSource.length)) [30,28,26]=true from by kernel_rfl)|2,0,_,_=>exact aS.1 (show cO (CV.aV (.own 26 false u0.badLink.length)) [30,28,26]=true from by kernel_rfl)),2,(by intro i hi;match i,hi with|0,_=>rfl|1,_=>rfl), .inr ⟨rfl,rfl⟩,rfl,rfl,(by intro i hi;match i,hi with|0,_=>exact fun _=> ⟨rfl,rfl⟩|1,_=>exact fun _=> ⟨rfl,rfl⟩)⟩⟩, .m [0] [(bH x.kind 1)=true] (dW [some .i64] 1 1 3 (mO wY) (wS u0) [(.int .i64 x.kind)] [(.d nS)] true (Ej u0)) (fun⟨hb1,_⟩=> ⟨(by intro i hi;match i,hi with|0,_=>rfl|1,_=>rfl|2,_=>rfl), .inl ⟨rfl,0,by decide,congrArg some hb1,(fun i hi=>absurd hi (Nat.not_lt_zero i)),rfl⟩⟩)]<| .cl 5 (aB x.index 0 (IntKind.wrap .i64 ((u0.badBus.length:Int) - 1))) fun u1=> .r<| .it (.r<| .im (.kY 16 0 33 4 1 (av af ([]:List Bool)))<| .im (.kY 16 1 34 4 1 (av af ([]:List Bool)))<| .im (.kY 16 2 35 4 1 (av af ([]:List Bool)))<| .im (.kY 16 3 36 4 1 (av af ([]:List Bool)))<| .im (.kY 16 4 37 4 1 (av af ([]:List Bool)))<| .im (.kY 16 5 38 4 1 (av af ([]:List Bool)))<| .im (.kY 16 6 39 4 1 (av af ([]:List Bool)))<| .en ((⟨([]:List Bool),([]:List Bool),([]:List Bool),([]:List Bool),([]:List Bool),([]:List Bool),([]:List Bool)⟩:State),14) [] [(33,0),(34,1),(35,2),(36,3),(37,4),(38,5),(39,6),(16,7)])
  (.a1 ((0:Int)≤x.index∧x.index<(u0.badBus.length:Int))<| .rg {an:=[(5, .arr 0 (av af (u0.badBus.set x.index.toNat is)))]} [0, .t 0 x.index u0.badBus.length, .pf ⟨aC u0.badBus.length 1 (lY (av af u0.badBus) x.index.toNat 0 [(.bool is)]) (av af (u0.badBus.set x.index.toNat is)),dX _ _ _ _ _ _ _ _ rfl (fun j hj=>(match j,hj with|0,_=>rfl))⟩]<| .im (.ll 30 u0.badBus (u0.badBus.set x.index.toNat is))<| .r<| .en ((⟨u0.closed,u0.locked,u0.badLink,u0.on_,u0.badSource,u0.earthed,(u0.badBus.set x.index.toNat is)⟩:State),0) [] [(24,0),(25,1),(26,2),(27,3),(28,4),(29,5),(30,6),(16,7)]))
  (.fk (bH x.kind 2) (.rg {an:=[(0, .map 0 (mO []) (Hf 1 []) []),(3, .map 1 (mO [(.int .i64 1)]) (w9 u0) [30]),(6, .map 2 (mO vL) (xk u0) [30,28]),(9, .map 3 (mO wY) (wS u0) [30,28,26]),(13, .look true (GN u0))],fr:=[(0,32)]} [.pf ⟨jE [some .i64] 1 1 0 (mO []) (Hf 1 []) [(.int .i64 1)] (Ej u0) [30] 1 (mO [(.int .i64 1)]) (w9 u0),⟨(fun i hi=>absurd hi (Nat.not_lt_zero i)),(by intro i hi j hj;match i,j,hi,hj with|0,0,_,_=>exact aS.1 (show cO (CV.aV (.own 30 false u0.badBus.length)) [30]=true from by kernel_rfl)),0,(fun i hi=>absurd hi (Nat.not_lt_zero i)), .inr ⟨rfl,rfl⟩,rfl,rfl,(fun i hi=>absurd hi (Nat.not_lt_zero i))⟩⟩, .pf ⟨jE [some .i64] 1 1 1 (mO [(.int .i64 1)]) (w9 u0) [(.int .i64 2)] (GN u0) [30,28] 2 (mO vL) (xk u0),⟨(by intro i hi;match i,hi with|0,_=>rfl),(by intro i hi j hj;match i,j,hi,hj with|0,0,_,_=>exact aS.1 (show cO (CV.aV (.own 30 false u0.badBus.length)) [30,28]=true from by kernel_rfl)|1,0,_,_=>exact aS.1 (show cO (CV.aV (.own 28 false u0.badSource.length)) [30,28]=true from by kernel_rfl)),1,(by intro i hi;match i,hi with|0,_=>rfl), .inr ⟨rfl,rfl⟩,rfl,rfl,(by intro i hi;match i,hi with|0,_=>exact fun _=> ⟨rfl,rfl⟩)⟩⟩, .pf ⟨jE [some .i64] 1 1 2 (mO vL) (xk u0) [(.int .i64 3)] (Ga u0) [30,28,26] 3 (mO wY) (wS u0),⟨(by intro i hi;match i,hi with|0,_=>rfl|1,_=>rfl),(by intro i hi j hj;match i,j,hi,hj with|0,0,_,_=>exact aS.1 (show cO (CV.aV (.own 30 false u0.badBus.length)) [30,28,26]=true from by kernel_rfl)|1,0,_,_=>exact aS.1 (show cO (CV.aV (.own 28 false u0.badSource.length)) [30,28,26]=true from by kernel_rfl)|2,0,_,_=>exact aS.1 (show cO (CV.aV (.own 26 false u0.badLink.length)) [30,28,26]=true from by kernel_rfl)),2,(by intro i hi;match i,hi with|0,_=>rfl|1,_=>rfl), .inr ⟨rfl,rfl⟩,rfl,rfl,(by intro i hi;match i,hi with|0,_=>exact fun _=> ⟨rfl,rfl⟩|1,_=>exact fun _=> ⟨rfl,rfl⟩)⟩⟩, .m [0,1] [(bH x.kind 2)=true,(bH x.kind 1)=false] (dW [some .i64] 1 1 3 (mO wY) (wS u0) [(.int .i64 x.kind)] [(.d nS)] true (GN u0)) (fun⟨hb3,hb1,_⟩=> ⟨(by intro i hi;match i,hi with|0,_=>rfl|1,_=>rfl|2,_=>rfl), .inl ⟨rfl,1,by decide,congrArg some hb3,(by intro i hi;match i,hi with|0,_=>exact congrArg some hb1),rfl⟩⟩)]<| .cl 5 (aB x.index 0 (IntKind.wrap .i64 ((u0.badSource.length:Int) - 1))) fun u2=> .r<| .it (.r<| .im (.kY 16 0 33 4 1 (av af ([]:List Bool)))<| .im (.kY 16 1 34 4 1 (av af ([]:List Bool)))<| .im (.kY 16 2 35 4 1 (av af ([]:List Bool)))<| .im (.kY 16 3 36 4 1 (av af ([]:List Bool)))<| .im (.kY 16 4 37 4 1 (av af ([]:List Bool)))<| .im (.kY 16 5 38 4 1 (av af ([]:List Bool)))<| .im (.kY 16 6 39 4 1 (av af ([]:List Bool)))<| .en ((⟨([]:List Bool),([]:List Bool),([]:List Bool),([]:List Bool),([]:List Bool),([]:List Bool),([]:List Bool)⟩:State),14) [] [(33,0),(34,1),(35,2),(36,3),(37,4),(38,5),(39,6),(16,7)])
  (.a1 ((0:Int)≤x.index∧x.index<(u0.badSource.length:Int))<| .rg {an:=[(5, .arr 0 (av af (u0.badSource.set x.index.toNat is)))]} [0, .t 0 x.index u0.badSource.length, .pf ⟨aC u0.badSource.length 1 (lY (av af u0.badSource) x.index.toNat 0 [(.bool is)]) (av af (u0.badSource.set x.index.toNat is)),dX _ _ _ _ _ _ _ _ rfl (fun j hj=>(match j,hj with|0,_=>rfl))⟩]<| .im (.ll 28 u0.badSource (u0.badSource.set x.index.toNat is))<| .r<| .en ((⟨u0.closed,u0.locked,u0.badLink,u0.on_,(u0.badSource.set x.index.toNat is),u0.earthed,u0.badBus⟩:State),0) [] [(24,0),(25,1),(26,2),(27,3),(28,4),(29,5),(30,6),(16,7)]))
  (.fk (bH x.kind 3) (.rg {an:=[(0, .map 0 (mO []) (Hf 1 []) []),(3, .map 1 (mO [(.int .i64 1)]) (w9 u0) [30]),(6, .map 2 (mO vL) (xk u0) [30,28]),(9, .map 3 (mO wY) (wS u0) [30,28,26]),(13, .look true (Ga u0))],fr:=[(0,32)]} [.pf ⟨jE [some .i64] 1 1 0 (mO []) (Hf 1 []) [(.int .i64 1)] (Ej u0) [30] 1 (mO [(.int .i64 1)]) (w9 u0),⟨(fun i hi=>absurd hi (Nat.not_lt_zero i)),(by intro i hi j hj;match i,j,hi,hj with|0,0,_,_=>exact aS.1 (show cO (CV.aV (.own 30 false u0.badBus.length)) [30]=true from by kernel_rfl)),0,(fun i hi=>absurd hi (Nat.not_lt_zero i)), .inr ⟨rfl,rfl⟩,rfl,rfl,(fun i hi=>absurd hi (Nat.not_lt_zero i))⟩⟩, .pf ⟨jE [some .i64] 1 1 1 (mO [(.int .i64 1)]) (w9 u0) [(.int .i64 2)] (GN u0) [30,28] 2 (mO vL) (xk u0),⟨(by intro i hi;match i,hi with|0,_=>rfl),(by intro i hi j hj;match i,j,hi,hj with|0,0,_,_=>exact aS.1 (show cO (CV.aV (.own 30 false u0.badBus.length)) [30,28]=true from by kernel_rfl)|1,0,_,_=>exact aS.1 (show cO (CV.aV (.own 28 false u0.badSource.length)) [30,28]=true from by kernel_rfl)),1,(by intro i hi;match i,hi with|0,_=>rfl), .inr ⟨rfl,rfl⟩,rfl,rfl,(by intro i hi;match i,hi with|0,_=>exact fun _=> ⟨rfl,rfl⟩)⟩⟩, .pf ⟨jE [some .i64] 1 1 2 (mO vL) (xk u0) [(.int .i64 3)] (Ga u0) [30,28,26] 3 (mO wY) (wS u0),⟨(by intro i hi;match i,hi with|0,_=>rfl|1,_=>rfl),(by intro i hi j hj;match i,j,hi,hj with|0,0,_,_=>exact aS.1 (show cO (CV.aV (.own 30 false u0.badBus.length)) [30,28,26]=true from by kernel_rfl)|1,0,_,_=>exact aS.1 (show cO (CV.aV (.own 28 false u0.badSource.length)) [30,28,26]=true from by kernel_rfl)|2,0,_,_=>exact aS.1 (show cO (CV.aV (.own 26 false u0.badLink.length)) [30,28,26]=true from by kernel_rfl)),2,(by intro i hi;match i,hi with|0,_=>rfl|1,_=>rfl), .inr ⟨rfl,rfl⟩,rfl,rfl,(by intro i hi;match i,hi with|0,_=>exact fun _=> ⟨rfl,rfl⟩|1,_=>exact fun _=> ⟨rfl,rfl⟩)⟩⟩, .m [0,2,1] [(bH x.kind 3)=true,(bH x.kind 1)=false,(bH x.kind 2)=false] (dW [some .i64] 1 1 3 (mO wY) (wS u0) [(.int .i64 x.kind)] [(.d nS)] true (Ga u0)) (fun⟨hb5,hb1,hb3,_⟩=> ⟨(by intro i hi;match i,hi with|0,_=>rfl|1,_=>rfl|2,_=>rfl), .inl ⟨rfl,2,by decide,congrArg some hb5,(by intro i hi;match i,hi with|0,_=>exact congrArg some hb1|1,_=>exact congrArg some hb3),rfl⟩⟩)]<| .cl 5 (aB x.index 0 (IntKind.wrap .i64 ((u0.badLink.length:Int) - 1))) fun u3=> .r<| .it (.r<| .im (.kY 16 0 33 4 1 (av af ([]:List Bool)))<| .im (.kY 16 1 34 4 1 (av af ([]:List Bool)))<| .im (.kY 16 2 35 4 1 (av af ([]:List Bool)))<| .im (.kY 16 3 36 4 1 (av af ([]:List Bool)))<| .im (.kY 16 4 37 4 1 (av af ([]:List Bool)))<| .im (.kY 16 5 38 4 1 (av af ([]:List Bool)))<| .im (.kY 16 6 39 4 1 (av af ([]:List Bool)))<| .en ((⟨([]:List Bool),([]:List Bool),([]:List Bool),([]:List Bool),([]:List Bool),([]:List Bool),([]:List Bool)⟩:State),14) [] [(33,0),(34,1),(35,2),(36,3),(37,4),(38,5),(39,6),(16,7)])
  (.a1 ((0:Int)≤x.index∧x.index<(u0.badLink.length:Int))<| .rg {an:=[(5, .arr 0 (av af (u0.badLink.set x.index.toNat is)))]} [0, .t 0 x.index u0.badLink.length, .pf ⟨aC u0.badLink.length 1 (lY (av af u0.badLink) x.index.toNat 0 [(.bool is)]) (av af (u0.badLink.set x.index.toNat is)),dX _ _ _ _ _ _ _ _ rfl (fun j hj=>(match j,hj with|0,_=>rfl))⟩]<| .im (.ll 26 u0.badLink (u0.badLink.set x.index.toNat is))<| .r<| .en ((⟨u0.closed,u0.locked,(u0.badLink.set x.index.toNat is),u0.on_,u0.badSource,u0.earthed,u0.badBus⟩:State),0) [] [(24,0),(25,1),(26,2),(27,3),(28,4),(29,5),(30,6),(16,7)]))
  (.rg {an:=[(0, .map 0 (mO []) (Hf 1 []) []),(3, .map 1 (mO [(.int .i64 1)]) (w9 u0) [30]),(6, .map 2 (mO vL) (xk u0) [30,28]),(9, .map 3 (mO wY) (wS u0) [30,28,26]),(13, .look false [(.d nS)])],fr:=[(0,32)]} [.pf ⟨jE [some .i64] 1 1 0 (mO []) (Hf 1 []) [(.int .i64 1)] (Ej u0) [30] 1 (mO [(.int .i64 1)]) (w9 u0),⟨(fun i hi=>absurd hi (Nat.not_lt_zero i)),(by intro i hi j hj;match i,j,hi,hj with|0,0,_,_=>exact aS.1 (show cO (CV.aV (.own 30 false u0.badBus.length)) [30]=true from by kernel_rfl)),0,(fun i hi=>absurd hi (Nat.not_lt_zero i)), .inr ⟨rfl,rfl⟩,rfl,rfl,(fun i hi=>absurd hi (Nat.not_lt_zero i))⟩⟩, .pf ⟨jE [some .i64] 1 1 1 (mO [(.int .i64 1)]) (w9 u0) [(.int .i64 2)] (GN u0) [30,28] 2 (mO vL) (xk u0),⟨(by intro i hi;match i,hi with|0,_=>rfl),(by intro i hi j hj;match i,j,hi,hj with|0,0,_,_=>exact aS.1 (show cO (CV.aV (.own 30 false u0.badBus.length)) [30,28]=true from by kernel_rfl)|1,0,_,_=>exact aS.1 (show cO (CV.aV (.own 28 false u0.badSource.length)) [30,28]=true from by kernel_rfl)),1,(by intro i hi;match i,hi with|0,_=>rfl), .inr ⟨rfl,rfl⟩,rfl,rfl,(by intro i hi;match i,hi with|0,_=>exact fun _=> ⟨rfl,rfl⟩)⟩⟩, .pf ⟨jE [some .i64] 1 1 2 (mO vL) (xk u0) [(.int .i64 3)] (Ga u0) [30,28,26] 3 (mO wY) (wS u0),⟨(by intro i hi;match i,hi with|0,_=>rfl|1,_=>rfl),(by intro i hi j hj;match i,j,hi,hj with|0,0,_,_=>exact aS.1 (show cO (CV.aV (.own 30 false u0.badBus.length)) [30,28,26]=true from by kernel_rfl)|1,0,_,_=>exact aS.1 (show cO (CV.aV (.own 28 false u0.badSource.length)) [30,28,26]=true from by kernel_rfl)|2,0,_,_=>exact aS.1 (show cO (CV.aV (.own 26 false u0.badLink.length)) [30,28,26]=true from by kernel_rfl)),2,(by intro i hi;match i,hi with|0,_=>rfl|1,_=>rfl), .inr ⟨rfl,rfl⟩,rfl,rfl,(by intro i hi;match i,hi with|0,_=>exact fun _=> ⟨rfl,rfl⟩|1,_=>exact fun _=> ⟨rfl,rfl⟩)⟩⟩, .m [2,1,0] [(bH x.kind 1)=false,(bH x.kind 2)=false,(bH x.kind 3)=false] (dW [some .i64] 1 1 3 (mO wY) (wS u0) [(.int .i64 x.kind)] [(.d nS)] false [(.d nS)]) (fun⟨hb1,hb3,hb5,_⟩=> ⟨(by intro i hi;match i,hi with|0,_=>rfl|1,_=>rfl|2,_=>rfl), .inr ⟨rfl,(by intro i hi;match i,hi with|0,_=>exact congrArg some hb1|1,_=>exact congrArg some hb3|2,_=>exact congrArg some hb5),rfl⟩⟩)]<| .cl 5 (aB x.index 0 (-1)) fun u4=> .r<| .it (.r<| .im (.kY 16 0 33 4 1 (av af ([]:List Bool)))<| .im (.kY 16 1 34 4 1 (av af ([]:List Bool)))<| .im (.kY 16 2 35 4 1 (av af ([]:List Bool)))<| .im (.kY 16 3 36 4 1 (av af ([]:List Bool)))<| .im (.kY 16 4 37 4 1 (av af ([]:List Bool)))<| .im (.kY 16 5 38 4 1 (av af ([]:List Bool)))<| .im (.kY 16 6 39 4 1 (av af ([]:List Bool)))<| .en ((⟨([]:List Bool),([]:List Bool),([]:List Bool),([]:List Bool),([]:List Bool),([]:List Bool),([]:List Bool)⟩:State),14) [] [(33,0),(34,1),(35,2),(36,3),(37,4),(38,5),(39,6),(16,7)])
  (.no))))))
theorem tJ (p:au) {r:ByteArray × Int} (h:l7 p=some r):Fn Tryz.prog 36 [(.agg [(cI p.buses),(.d (bg none 5 Source.cell p.sources)),(.d (bg none 6 Link.cell p.links)),(.d (bg none 4 aL.cell p.racks))])] [] (.fK [(sD (.str r.1)),(sI r.2)]) []:=by
 unfold l7 at h
 cases hc:dO p with
 |none=>rw [hc]at h;cases h
 |some c=>
  rw [hc]at h
  simp only [Option.bind_some]at h
  cases h0:decide (c=0)with
  |false=>rw [h0]at h;cases h
  |true=>
   rw [h0]at h
   have hc0:=of_decide_eq_true h0
   subst hc0
   simp only [cond_true]at h
   cases h1:fmtG p.buses p.sources.length p.links.length p.racks.length (fmtS p) (L9 p) (LF p) (LD p) (LA p)with
   |false=>rw [h1]at h;cases h
   |true=>
    rw [h1]at h
    simp only [cond_true,Option.some.injEq]at h
    subst h
    exact Gb (nb:=p.buses) (es:=av Source.cell p.sources) (el:=av Link.cell p.links) (er:=av aL.cell p.racks) (et:=fun i=>av dG.cell (at' p.links i).trip) ((iM p).run hc)
     (fun i _ j hj=>match j,hj with|0,_=>rfl|1,_=>rfl|2,_=>rfl|3,_=>rfl|4,_=>rfl)
     (fun i _ j hj=>match j,hj with|0,_=>rfl|1,_=>rfl|2,_=>rfl|3,_=>rfl|4,_=>rfl)
     (fun i _=>rfl)
     (fun i _ g _ j hj=>match j,hj with|0,_=>rfl|1,_=>rfl)
     (fun i _ j hj=>match j,hj with|0,_=>rfl|1,_=>rfl|2,_=>rfl|3,_=>rfl) h1
end
end Sg
