import Derived.Test.YtolddefbejdanaaGreatDoorChGm
import Derived.Test.YtolddefbejdanaaGreatDoorProg
import Derived.Test.YtolddefbejdanaaGreatDoorChLd
set_option linter.all false
namespace Sg
open Go Go.Proofs
set_option maxRecDepth 20000
noncomputable section
noncomputable def TT:List (Nat × TI):=[(3,⟨Tryz.t3.desc,Tryz.t3.size,Tryz.t3.bytes,zl Tryz.t3,false⟩),
  (4,⟨Tryz.t4.desc,Tryz.t4.size,Tryz.t4.bytes,zl Tryz.t4,false⟩),
  (9,⟨Tryz.t9.desc,Tryz.t9.size,Tryz.t9.bytes,zl Tryz.t9,false⟩),
  (22,⟨Tryz.t22.desc,Tryz.t22.size,Tryz.t22.bytes,zl Tryz.t22,false⟩),
  (23,⟨Tryz.t23.desc,Tryz.t23.size,Tryz.t23.bytes,zl Tryz.t23,false⟩),
  (24,⟨Tryz.t24.desc,Tryz.t24.size,Tryz.t24.bytes,zl Tryz.t24,false⟩),
  (26,⟨Tryz.t25.desc,Tryz.t26.size,Tryz.t26.bytes,zl Tryz.t26,false⟩),
  (27,⟨Tryz.t27.desc,Tryz.t27.size,Tryz.t27.bytes,zl Tryz.t27,false⟩),
  (29,⟨Tryz.t28.desc,Tryz.t29.size,Tryz.t29.bytes,zl Tryz.t29,false⟩),
  (34,⟨Tryz.t3.desc,Tryz.t34.size,Tryz.t34.bytes,zl Tryz.t34,false⟩),
  (37,⟨Tryz.t37.desc,Tryz.t37.size,Tryz.t37.bytes,zl Tryz.t37,false⟩),
  (40,⟨Tryz.t40.desc,Tryz.t40.size,Tryz.t40.bytes,zl Tryz.t40,false⟩),
  (47,⟨Tryz.t47.desc,Tryz.t47.size,Tryz.t47.bytes,zl Tryz.t47,false⟩),
  (51,⟨Tryz.t51.desc,Tryz.t51.size,Tryz.t51.bytes,zl Tryz.t51,false⟩),
  (58,⟨Tryz.t3.desc,Tryz.t58.size,Tryz.t58.bytes,zl Tryz.t58,false⟩),
  (60,⟨Tryz.t59.desc,Tryz.t60.size,Tryz.t60.bytes,zl Tryz.t60,true⟩),
  (63,⟨Tryz.t63.desc,Tryz.t63.size,Tryz.t63.bytes,zl Tryz.t63,false⟩),
  (70,⟨Tryz.t3.desc,Tryz.t70.size,Tryz.t70.bytes,zl Tryz.t70,false⟩),
  (71,⟨Tryz.t71.desc,Tryz.t71.size,Tryz.t71.bytes,zl Tryz.t71,false⟩),
  (73,⟨Tryz.t72.desc,Tryz.t73.size,Tryz.t73.bytes,zl Tryz.t73,false⟩),
  (75,⟨Tryz.t75.desc,Tryz.t75.size,Tryz.t75.bytes,zl Tryz.t75,true⟩),
  (76,⟨Tryz.t76.desc,Tryz.t76.size,Tryz.t76.bytes,zl Tryz.t76,false⟩),
  (78,⟨Tryz.t77.desc,Tryz.t78.size,Tryz.t78.bytes,zl Tryz.t78,false⟩),
  (79,⟨Tryz.t79.desc,Tryz.t79.size,Tryz.t79.bytes,zl Tryz.t79,true⟩),
  (88,⟨Tryz.t3.desc,Tryz.t88.size,Tryz.t88.bytes,zl Tryz.t88,false⟩),
  (90,⟨Tryz.t89.desc,Tryz.t90.size,Tryz.t90.bytes,zl Tryz.t90,true⟩),
  (91,⟨Tryz.t91.desc,Tryz.t91.size,Tryz.t91.bytes,zl Tryz.t91,false⟩),
  (94,⟨Tryz.t94.desc,Tryz.t94.size,Tryz.t94.bytes,zl Tryz.t94,false⟩),
  (98,⟨Tryz.t97.desc,Tryz.t98.size,Tryz.t98.bytes,zl Tryz.t98,true⟩),
  (99,⟨Tryz.t99.desc,Tryz.t99.size,Tryz.t99.bytes,zl Tryz.t99,false⟩),
  (102,⟨Tryz.t102.desc,Tryz.t102.size,Tryz.t102.bytes,zl Tryz.t102,false⟩),
  (103,⟨Tryz.t103.desc,Tryz.t103.size,Tryz.t103.bytes,zl Tryz.t103,false⟩),
  (108,⟨Tryz.t77.desc,Tryz.t108.size,Tryz.t108.bytes,zl Tryz.t108,false⟩),
  (119,⟨Tryz.t118.desc,Tryz.t119.size,Tryz.t119.bytes,zl Tryz.t119,true⟩),
  (121,⟨Tryz.t121.desc,Tryz.t121.size,Tryz.t121.bytes,zl Tryz.t121,false⟩),
  (133,⟨Tryz.t133.desc,Tryz.t133.size,Tryz.t133.bytes,zl Tryz.t133,false⟩),
  (136,⟨Tryz.t136.desc,Tryz.t136.size,Tryz.t136.bytes,zl Tryz.t136,false⟩),
  (144,⟨Tryz.t144.desc,Tryz.t144.size,Tryz.t144.bytes,zl Tryz.t144,false⟩),
  (146,⟨Tryz.t145.desc,Tryz.t146.size,Tryz.t146.bytes,zl Tryz.t146,false⟩),
  (158,⟨Tryz.t158.desc,Tryz.t158.size,Tryz.t158.bytes,zl Tryz.t158,false⟩),
  (177,⟨Tryz.t177.desc,Tryz.t177.size,Tryz.t177.bytes,zl Tryz.t177,false⟩),
  (178,⟨Tryz.t178.desc,Tryz.t178.size,Tryz.t178.bytes,zl Tryz.t178,false⟩)]
theorem tT:ny Tryz.prog TT:=⟨gU (by kernel_rfl) (by kernel_rfl) (by kernel_rfl),⟨jr,di (by kernel_rfl)⟩,gU (by kernel_rfl) (by kernel_rfl) (by kernel_rfl),⟨jr,di (by kernel_rfl)⟩,gU (by kernel_rfl) (by kernel_rfl) (by kernel_rfl),⟨jr,di (by kernel_rfl)⟩,gU (by kernel_rfl) (by kernel_rfl) (by kernel_rfl),⟨jr,di (by kernel_rfl)⟩,gU (by kernel_rfl) (by kernel_rfl) (by kernel_rfl),⟨jr,di (by kernel_rfl)⟩,gU (by kernel_rfl) (by kernel_rfl) (by kernel_rfl),⟨jr,di (by kernel_rfl)⟩,gU (by kernel_rfl) (by kernel_rfl) (by kernel_rfl),⟨jr,di (by kernel_rfl)⟩,gU (by kernel_rfl) (by kernel_rfl) (by kernel_rfl),⟨jr,di (by kernel_rfl)⟩,gU (by kernel_rfl) (by kernel_rfl) (by kernel_rfl),⟨jr,di (by kernel_rfl)⟩,gU (by kernel_rfl) (by kernel_rfl) (by kernel_rfl),⟨jr,di (by kernel_rfl)⟩,gU (by kernel_rfl) (by kernel_rfl) (by kernel_rfl),⟨jr,di (by kernel_rfl)⟩,gU (by kernel_rfl) (by kernel_rfl) (by kernel_rfl),⟨jr,di (by kernel_rfl)⟩,gU (by kernel_rfl) (by kernel_rfl) (by kernel_rfl),⟨jr,di (by kernel_rfl)⟩,gU (by kernel_rfl) (by kernel_rfl) (by kernel_rfl),⟨jr,di (by kernel_rfl)⟩,gU (by kernel_rfl) (by kernel_rfl) (by kernel_rfl),⟨jr,di (by kernel_rfl)⟩,gU (by kernel_rfl) (by kernel_rfl) (by kernel_rfl),⟨fun _=> ⟨by kernel_rfl,by kernel_rfl⟩,di (by kernel_rfl)⟩,gU (by kernel_rfl) (by kernel_rfl) (by kernel_rfl),⟨jr,di (by kernel_rfl)⟩,gU (by kernel_rfl) (by kernel_rfl) (by kernel_rfl),⟨jr,di (by kernel_rfl)⟩,gU (by kernel_rfl) (by kernel_rfl) (by kernel_rfl),⟨jr,di (by kernel_rfl)⟩,gU (by kernel_rfl) (by kernel_rfl) (by kernel_rfl),⟨jr,di (by kernel_rfl)⟩,gU (by kernel_rfl) (by kernel_rfl) (by kernel_rfl),⟨fun _=> ⟨by kernel_rfl,by kernel_rfl⟩,di (by kernel_rfl)⟩,gU (by kernel_rfl) (by kernel_rfl) (by kernel_rfl),⟨jr,di (by kernel_rfl)⟩,gU (by kernel_rfl) (by kernel_rfl) (by kernel_rfl),⟨jr,di (by kernel_rfl)⟩,gU (by kernel_rfl) (by kernel_rfl) (by kernel_rfl),⟨fun _=> ⟨by kernel_rfl,by kernel_rfl⟩,di (by kernel_rfl)⟩,gU (by kernel_rfl) (by kernel_rfl) (by kernel_rfl),⟨jr,di (by kernel_rfl)⟩,gU (by kernel_rfl) (by kernel_rfl) (by kernel_rfl),⟨fun _=> ⟨by kernel_rfl,by kernel_rfl⟩,di (by kernel_rfl)⟩,gU (by kernel_rfl) (by kernel_rfl) (by kernel_rfl),⟨jr,di (by kernel_rfl)⟩,gU (by kernel_rfl) (by kernel_rfl) (by kernel_rfl),⟨jr,di (by kernel_rfl)⟩,gU (by kernel_rfl) (by kernel_rfl) (by kernel_rfl),⟨fun _=> ⟨by kernel_rfl,by kernel_rfl⟩,di (by kernel_rfl)⟩,gU (by kernel_rfl) (by kernel_rfl) (by kernel_rfl),⟨jr,di (by kernel_rfl)⟩,gU (by kernel_rfl) (by kernel_rfl) (by kernel_rfl),⟨jr,di (by kernel_rfl)⟩,gU (by kernel_rfl) (by kernel_rfl) (by kernel_rfl),⟨jr,di (by kernel_rfl)⟩,gU (by kernel_rfl) (by kernel_rfl) (by kernel_rfl),⟨jr,di (by kernel_rfl)⟩,gU (by kernel_rfl) (by kernel_rfl) (by kernel_rfl),⟨fun _=> ⟨by kernel_rfl,by kernel_rfl⟩,di (by kernel_rfl)⟩,gU (by kernel_rfl) (by kernel_rfl) (by kernel_rfl),⟨jr,di (by kernel_rfl)⟩,gU (by kernel_rfl) (by kernel_rfl) (by kernel_rfl),⟨jr,di (by kernel_rfl)⟩,gU (by kernel_rfl) (by kernel_rfl) (by kernel_rfl),⟨jr,di (by kernel_rfl)⟩,gU (by kernel_rfl) (by kernel_rfl) (by kernel_rfl),⟨jr,di (by kernel_rfl)⟩,gU (by kernel_rfl) (by kernel_rfl) (by kernel_rfl),⟨jr,di (by kernel_rfl)⟩,gU (by kernel_rfl) (by kernel_rfl) (by kernel_rfl),⟨jr,di (by kernel_rfl)⟩,gU (by kernel_rfl) (by kernel_rfl) (by kernel_rfl),⟨jr,di (by kernel_rfl)⟩,gU (by kernel_rfl) (by kernel_rfl) (by kernel_rfl),⟨jr,di (by kernel_rfl)⟩,trivial⟩
theorem mX:Tryz.prog.follows .mixedOrders=true:=by kernel_rfl
def Dw:Go.Shelf.Ren:=⟨fun|6=>54|14=>88|15=>89|20=>100|21=>101|22=>102|23=>103|24=>104|25=>105|26=>106|27=>107|28=>108|29=>109|46=>115|47=>116|48=>117|49=>118|50=>119|57=>124|n=>n,fun|0=>0|3=>3|4=>4|5=>5|9=>9|22=>51|24=>79|25=>111|39=>155|45=>165|46=>166|50=>152|53=>172|55=>174|66=>182|70=>186|76=>192|77=>193|n=>n,fun n=>n⟩
theorem KE:Go.Proofs.SlLaysF0.n6 Tryz.prog Dw:=⟨by kernel_rfl,⟨Tryz.f54.name,by kernel_rfl,Tryz.func54.trans (congrArg some (by kernel_rfl))⟩,⟨Tryz.f88.name,by kernel_rfl,Tryz.func88.trans (congrArg some (by kernel_rfl))⟩,Tryz.func89.trans (congrArg some (by kernel_rfl)),⟨Tryz.f100.name,by kernel_rfl,Tryz.func100.trans (congrArg some (by kernel_rfl))⟩,⟨Tryz.f101.name,by kernel_rfl,Tryz.func101.trans (congrArg some (by kernel_rfl))⟩,⟨Tryz.f102.name,by kernel_rfl,Tryz.func102.trans (congrArg some (by kernel_rfl))⟩,⟨Tryz.f103.name,by kernel_rfl,Tryz.func103.trans (congrArg some (by kernel_rfl))⟩,⟨Tryz.f104.name,by kernel_rfl,Tryz.func104.trans (congrArg some (by kernel_rfl))⟩,⟨Tryz.f105.name,by kernel_rfl,Tryz.func105.trans (congrArg some (by kernel_rfl))⟩,⟨Tryz.f106.name,by kernel_rfl,Tryz.func106.trans (congrArg some (by kernel_rfl))⟩,⟨Tryz.f107.name,by kernel_rfl,Tryz.func107.trans (congrArg some (by kernel_rfl))⟩,Tryz.func108.trans (congrArg some (by kernel_rfl)),Tryz.func109.trans (congrArg some (by kernel_rfl)),⟨Tryz.f115.name,by kernel_rfl,Tryz.func115.trans (congrArg some (by kernel_rfl))⟩,Tryz.func116.trans (congrArg some (by kernel_rfl)),Tryz.func117.trans (congrArg some (by kernel_rfl)),⟨Tryz.f118.name,by kernel_rfl,Tryz.func118.trans (congrArg some (by kernel_rfl))⟩,⟨Tryz.f119.name,by kernel_rfl,Tryz.func119.trans (congrArg some (by kernel_rfl))⟩,⟨Tryz.f124.name,by kernel_rfl,Tryz.func124.trans (congrArg some (by kernel_rfl))⟩,Tryz.underlying0,Tryz.isAgg0,Tryz.sizeOf0,Tryz.zeroValue0,Tryz.underlying3,Tryz.isAgg3,Tryz.sizeOf3,Tryz.zeroValue3,Tryz.underlying4,Tryz.isAgg4,Tryz.sizeOf4,Tryz.zeroValue4,Tryz.underlying5,Tryz.isAgg5,Tryz.sizeOf5,Tryz.zeroValue5,Tryz.underlying9,Tryz.isAgg9,Tryz.sizeOf9,Tryz.zeroValue9,Tryz.underlying51,Tryz.isAgg51,Tryz.sizeOf51,Tryz.zeroValue51,Tryz.underlying111,Tryz.isAgg111,Tryz.sizeOf111,Tryz.zeroValue111,Tryz.underlying155,Tryz.isAgg155,Tryz.sizeOf155,Tryz.zeroValue155,Tryz.underlying165,Tryz.isAgg165,Tryz.sizeOf165,Tryz.zeroValue165,Tryz.underlying166,Tryz.isAgg166,Tryz.sizeOf166,Tryz.zeroValue166,Tryz.underlying152,Tryz.isAgg152,Tryz.sizeOf152,Tryz.zeroValue152,Tryz.underlying172,Tryz.isAgg172,Tryz.sizeOf172,Tryz.zeroValue172,Tryz.underlying174,Tryz.isAgg174,Tryz.sizeOf174,Tryz.zeroValue174,Tryz.underlying182,Tryz.isAgg182,Tryz.sizeOf182,Tryz.zeroValue182,Tryz.underlying186,Tryz.isAgg186,Tryz.sizeOf186,Tryz.zeroValue186,Tryz.underlying192,Tryz.isAgg192,Tryz.sizeOf192,Tryz.zeroValue192,Tryz.underlying193,Tryz.isAgg193,Tryz.sizeOf193,Tryz.zeroValue193⟩
theorem Nn (w:World):(isAgg (Dw.t 24)).run Tryz.prog w= .ok true w:=Tryz.isAgg79 w
theorem K3 (w:World):(Go.sizeOf (Dw.t 24)).run Tryz.prog w= .ok 2 w:=Tryz.sizeOf79 w
section
variable (p:ai) (i:Int)
abbrev k1:List CV:=[(cI p.buses),(.d (aX none 5 Source.cell p.sources)),(.d (aX none 6 Link.cell p.links)),(.d (aX none 4 aN.cell p.racks))]
abbrev k0:List SV:=[(.agg (k1 p))]
abbrev k2:=((0:Int)≤i∧i<(p.links.length:Int))
abbrev k3:=(IntKind.wrap .i64 (i+1))
end
theorem zL (p:ai):fP Tryz.prog 5 (k0 p) [] (fun r=>(vB r)) (fun _=>[]) (oH p):=
  iC tT mX Tryz.func5 (
  .rg {fr:=[(0,1)],fz:=[1]} []<| .r<| .it (.r<| .e true)
  (.r<| .lp (σ:=Int) (β:=Unit) (0) [] [] ⟨[1],[],fun i=>[(3,(vI i))],fun i=>[]⟩ ⟨[],[],fun _=>[],fun _=>[]⟩
  (fun i=> .r<| .it (.a1 (k2 p i)<| .r<| .it (.r<| .e (.done (.ret true)))
  (.r<| .e (.next (k3 i))))
  (.e (.done (.brk ()))))
  (fun _=> .r<| .e false)))
theorem aG (n:Int) (u0:Int) (u1:Int):fP Tryz.prog 41 [(sI n),(sI u0),(sI u1)] [] (fun r=>(vB r)) (fun _=>[]) (aK n u0 u1):=
  iC tT mX Tryz.func41 (
  .r<| .r<| .e (bif (decide (u0≤n))then(decide (n≤u1))else false))
theorem wW (p:ai):fP Tryz.prog 43 (k0 p) [] (fun r=>(vD (.fn 76 1 (xq [(Kj [(.int .i64 r.1),(aX none 5 Source.cell r.2.1),(aX none 6 Link.cell r.2.2.1),(aX none 4 aN.cell r.2.2.2)] 0)])))) (fun _=>[]) (nW p):=
  iC tT mX Tryz.func43 (
  .rg {fr:=[(0,1)],fz:=[1]} []<| .r<| .e (p.buses,p.sources,p.links,p.racks))
theorem zy (p:ai):fP Tryz.prog 45 (k0 p) [] (fun r=>(vD (.fn 79 1 (xq [(Kj [(.int .i64 r.1),(aX none 5 Source.cell r.2.1),(aX none 6 Link.cell r.2.2.1),(aX none 4 aN.cell r.2.2.2)] 0)])))) (fun _=>[]) (qB p):=
  iC tT mX Tryz.func45 (
  .rg {fr:=[(0,1)],fz:=[1]} []<| .r<| .e (p.buses,p.sources,p.links,p.racks))
theorem zn (p:ai):fP Tryz.prog 47 (k0 p) [] (fun r=>(vD (.fn 82 1 (xq [(Kj [(.int .i64 r.1),(aX none 5 Source.cell r.2.1),(aX none 6 Link.cell r.2.2.1),(aX none 4 aN.cell r.2.2.2)] 0)])))) (fun _=>[]) (qH p):=
  iC tT mX Tryz.func47 (
  .rg {fr:=[(0,1)],fz:=[1]} []<| .r<| .e (p.buses,p.sources,p.links,p.racks))
section
variable (x:Source) (u2:(List Source)) (x1:Int) (u3:(List Link)) (u4:(List aN)) (r_:Bool) (u0:Bool) (u1:Bool) (u5:Bool) (u6:Bool)
abbrev k4:List CV:=[(cI x.bus),(cI x.kind),(cI x.power),(cI x.sync),(cI x.ohm)]
abbrev k6:DV:=(aX none 5 Source.cell u2)
abbrev k5:DV:=(Kj [(.int .i64 x1),(k6 u2),(aX none 6 Link.cell u3),(aX none 4 aN.cell u4)] 0)
abbrev k7:=(IntKind.wrap .i64 (x1 - 1))
abbrev k8:=((bif r_ then u0 else false),true)
abbrev k9:=(bif (bif (bif (bif r_ then u0 else false)then u1 else false)then u5 else false)then u6 else false)
end
theorem uF (x:Source) (x1:Int) (u2:(List Source)) (u3:(List Link)) (u4:(List aN)):fP Tryz.prog 76 [(.agg (k4 x)),(sD (k5 u2 x1 u3 u4))] [] (fun r=>(vB r)) (fun _=>[]) (jM x x1 u2 u3 u4):=
  iC tT mX Tryz.func76 (
  .rg {fr:=[(0,1)],fz:=[1]} []<| .cl 5 (aG x.bus 0 (k7 x1)) fun r_=> .cg 9 [(r_,true)] (aG x.kind 1 3) fun u0=> .cg 14 [(k8 r_ u0)] (aG x.power 1 100000) fun u1=> .cg 19 [((bif (bif r_ then u0 else false)then u1 else false),true)] (aG x.sync 0 8) fun u5=> .cg 24 [((bif (bif (bif r_ then u0 else false)then u1 else false)then u5 else false),true)] (aG x.ohm 10 100000) fun u6=> .r<| .e (k9 r_ u0 u1 u5 u6))
section
variable (x1:Int) (u0:(List Source)) (u1:(List Link)) (u2:(List aN))
abbrev k11:=(xq [(k5 u0 x1 u1 u2)])
abbrev k10:DV:=(Kj [(.fn 76 1 (k11 x1 u0 u1 u2))] 0)
end
theorem wX (x:Source) (x1:Int) (u0:(List Source)) (u1:(List Link)) (u2:(List aN)):fP Tryz.prog 75 [(.agg (k4 x)),(sD (k10 x1 u0 u1 u2))] [] (fun r=>(vB r)) (fun _=>[]) (nV x x1 u0 u1 u2):=
  iC tT mX Tryz.func75 (
  .rg {fr:=[(0,1)],fz:=[1]} []<| .cl 2 (uF x x1 u0 u1 u2) fun r_=> .r<| .e (!r_))
section
variable (s_:(List Source)) (f_:Int) (u0:(List Source)) (u1:(List Link)) (u2:(List aN))
abbrev k12:List SV:=[(sD (k6 s_)),(sD (.fn 75 1 (xq [(k10 f_ u0 u1 u2)])))]
end
theorem rF (s_:(List Source)) (f_:Int) (u0:(List Source)) (u1:(List Link)) (u2:(List aN)):fP Tryz.prog 96 (k12 s_ f_ u0 u1 u2) [] (fun r=>(vI r)) (fun _=>[]) (kC s_ f_ u0 u1 u2):=
  iC tT mX Tryz.func96 (
  .r<| .r<| .lp (σ:=Int) (β:=Unit) (0) [] [] ⟨[0,1,7],[],fun t8=>[(8,(vI t8))],fun t8=>[]⟩ ⟨[],[],fun _=>[],fun _=>[]⟩
  (fun t8=> .r<| .it (.r<| .cl 5 (wX (at' s_ t8.toNat) f_ u0 u1 u2) fun r_=> .a1 ((0:Int)≤t8∧t8<(s_.length:Int))<| .rg {} [0,1]<| .it (.r<| .e (.done (.ret t8)))
  (.r<| .e (.next (k3 t8))))
  (.e (.done (.brk ()))))
  (fun _=> .r<| .e (-1)))
theorem oW (s_:(List Source)) (f_:Int) (u0:(List Source)) (u1:(List Link)) (u2:(List aN)):fP Tryz.prog 74 (k12 s_ f_ u0 u1 u2) [] (fun r=>(vB r)) (fun _=>[]) (fH s_ f_ u0 u1 u2):=
  iC tT mX Tryz.func74 (
  .r<| .cl 2 (rF s_ f_ u0 u1 u2) fun r_=> .r<| .e (decide (0≤r_)))
theorem zx (l:(List Source)) (u0:Int) (u1:Int) (u2:(List Source)) (u3:(List Link)) (u4:(List aN)):fP Tryz.prog 42 [(sD (k6 l)),(sI u0),(sD (.fn 76 1 (k11 u1 u2 u3 u4)))] [] (fun r=>(vB r)) (fun _=>[]) (nH l u0 u1 u2 u3 u4):=
  iC tT mX Tryz.func42 (
  .rg {fr:=[(0,1)],fz:=[1]} []<| .cg 7 [((decide ((l.length:Int)≤u0)),true)] (oW l u1 u2 u3 u4) fun r_=> .r<| .e (bif (decide ((l.length:Int)≤u0))then(!r_)else false))
section
variable (x:Link) (u0:Int)
abbrev k13:List CV:=[(cI x.a),(cI x.b),(cI x.kind),(cI x.most),(cI x.ohm),(.d (aX none 2 bX.cell x.trip))]
abbrev k14:=((decide (((at' x.trip u0.toNat).amps)≤((at' x.trip ((k7 u0).toNat)).amps))),false)
end
theorem wM (x:Link) (x1:Int) (u3:(List Source)) (u4:(List Link)) (u5:(List aN)):fP Tryz.prog 79 [(.agg (k13 x)),(sD (k5 u3 x1 u4 u5))] [] (fun r=>(vB r)) (fun _=>[]) (lC x x1 u3 u4 u5):=
  iC tT mX Tryz.func79 (
  .rg {fr:=[(0,5)]} []<| .cl 5 (aG x.a 0 (k7 x1)) fun r_=> .cg 13 [((!r_),false)] (aG x.b 0 (k7 x1)) fun u1=> .cg 26 [((bif (bif (!r_)then true else(!u1))then true else(decide (x.a=x.b))),false)] (aG x.kind 1 3) fun u6=> .cg 32 [((bif (bif (bif (!r_)then true else(!u1))then true else(decide (x.a=x.b)))then true else(!u6)),false)] (aG x.most 1 100000) fun u8=> .cg 38 [((bif (bif (bif (bif (!r_)then true else(!u1))then true else(decide (x.a=x.b)))then true else(!u6))then true else(!u8)),false)] (aG x.ohm 10 100000) fun u9=> .r<| .it (.r<| .e false)
  (.rg {fz:=[5]} []<| .lp (σ:=Int) (β:=Unit) (0) [] [] ⟨[2,48,49],[],fun u0=>[(50,(vI u0))],fun u0=>[]⟩ ⟨[2],[],fun _=>[],fun _=>[]⟩
  (fun u0=> .r<| .it (.a1 ((0:Int)≤u0∧u0<(x.trip.length:Int))<| .rg {fr:=[(3,9)],fz:=[9]} []<| .cl 2 (aG ((at' x.trip u0.toNat).amps) 1 1000000) fun u2=> .cg 7 [((!u2),false)] (aG ((at' x.trip u0.toNat).millis) 1 100000) fun u7=> .a2 ((gB [((decide (0<u0)),true),((bif (!u2)then true else(!u7)),false)]=true→(0:Int)≤(k7 u0)∧(k7 u0)<(x.trip.length:Int))) ((gB [(k14 x u0),((decide (0<u0)),true),((bif (!u2)then true else(!u7)),false)]=true→(0:Int)≤(k7 u0)∧(k7 u0)<(x.trip.length:Int)))<| .rg {} [3,2,0,1]<| .it (.r<| .e (.done (.ret false)))
  (.r<| .e (.next (k3 u0))))
  (.e (.done (.brk ()))))
  (fun _=> .r<| .e (bif (decide ((x.trip.length:Int)≤6))then(bif (decide ((x.trip.length:Int)=0))then true else(decide (x.kind=3)))else false))))
section
variable (x1:Int) (u0:(List Source)) (u1:(List Link)) (u2:(List aN))
abbrev k15:DV:=(Kj [(.fn 79 1 (k11 x1 u0 u1 u2))] 0)
end
theorem sW (x:Link) (x1:Int) (u0:(List Source)) (u1:(List Link)) (u2:(List aN)):fP Tryz.prog 78 [(.agg (k13 x)),(sD (k15 x1 u0 u1 u2))] [] (fun r=>(vB r)) (fun _=>[]) (lQ x x1 u0 u1 u2):=
  iC tT mX Tryz.func78 (
  .rg {fr:=[(0,1)],fz:=[1]} []<| .cl 2 (wM x x1 u0 u1 u2) fun r_=> .r<| .e (!r_))
section
variable (s_:(List Link)) (f_:Int) (u0:(List Source)) (u1:(List Link)) (u2:(List aN)) (t8:Int)
abbrev k16:List SV:=[(sD (aX none 6 Link.cell s_)),(sD (.fn 78 1 (xq [(k15 f_ u0 u1 u2)])))]
abbrev k17:=((0:Int)≤t8∧t8<(s_.length:Int))
end
theorem o6 (s_:(List Link)) (f_:Int) (u0:(List Source)) (u1:(List Link)) (u2:(List aN)):fP Tryz.prog 97 (k16 s_ f_ u0 u1 u2) [] (fun r=>(vI r)) (fun _=>[]) (iY s_ f_ u0 u1 u2):=
  iC tT mX Tryz.func97 (
  .r<| .r<| .lp (σ:=Int) (β:=Unit) (0) [] [] ⟨[0,1,7],[],fun t8=>[(8,(vI t8))],fun t8=>[]⟩ ⟨[],[],fun _=>[],fun _=>[]⟩
  (fun t8=> .r<| .it (.r<| .cl 5 (sW (at' s_ t8.toNat) f_ u0 u1 u2) fun r_=> .a1 (k17 s_ t8)<| .rg {} [0,1]<| .it (.r<| .e (.done (.ret t8)))
  (.r<| .e (.next (k3 t8))))
  (.e (.done (.brk ()))))
  (fun _=> .r<| .e (-1)))
theorem nA (s_:(List Link)) (f_:Int) (u0:(List Source)) (u1:(List Link)) (u2:(List aN)):fP Tryz.prog 77 (k16 s_ f_ u0 u1 u2) [] (fun r=>(vB r)) (fun _=>[]) (dQ s_ f_ u0 u1 u2):=
  iC tT mX Tryz.func77 (
  .r<| .cl 2 (o6 s_ f_ u0 u1 u2) fun r_=> .r<| .e (decide (0≤r_)))
theorem wT (l:(List Link)) (u0:Int) (u1:Int) (u2:(List Source)) (u3:(List Link)) (u4:(List aN)):fP Tryz.prog 44 [(sD (aX none 6 Link.cell l)),(sI u0),(sD (.fn 79 1 (k11 u1 u2 u3 u4)))] [] (fun r=>(vB r)) (fun _=>[]) (lg l u0 u1 u2 u3 u4):=
  iC tT mX Tryz.func44 (
  .rg {fr:=[(0,1)],fz:=[1]} []<| .cg 7 [((decide ((l.length:Int)≤u0)),true)] (nA l u1 u2 u3 u4) fun r_=> .r<| .e (bif (decide ((l.length:Int)≤u0))then(!r_)else false))
section
variable (x:aN)
abbrev k18:List CV:=[(cI x.feeds.e0),(cI x.feeds.e1),(cI x.power),(cI x.paths)]
end
theorem yI (x:aN):fP Tryz.prog 83 [(.agg (k18 x))] [] (fun r=>(vI r)) (fun _=>[]) (mG x):=
  iC tT mX Tryz.func83 (
  .rg {fr:=[(0,1)],fz:=[1]} []<| .rg {} [.pf ⟨(0:Int)≤1∧(1:Int)<(2:Nat),(by decide)⟩]<| .it (.r<| .e 1)
  (.r<| .e 2))
section
variable (r_:Bool) (u0:Bool) (x:aN) (u1:Bool)
abbrev k20:=(bif (bif (bif r_ then u0 else false)then(!decide (x.feeds.e0=x.feeds.e1))else false)then u1 else false)
abbrev k19:=((k20 r_ u0 x u1),true)
end
theorem xK (x:aN) (x1:Int) (u2:(List Source)) (u3:(List Link)) (u4:(List aN)):fP Tryz.prog 82 [(.agg (k18 x)),(sD (k5 u2 x1 u3 u4))] [] (fun r=>(vB r)) (fun _=>[]) (lD x x1 u2 u3 u4):=
  iC tT mX Tryz.func82 (
  .rg {fr:=[(0,1)],fz:=[1]} []<| .rg {} [.pf ⟨(0:Int)≤0∧(0:Int)<(2:Nat),(by decide)⟩, .pf ⟨(0:Int)≤1∧(1:Int)<(2:Nat),(by decide)⟩]<| .cl 4 (aG x.feeds.e0 0 (k7 x1)) fun r_=> .cg 10 [(r_,true)] (aG x.feeds.e1 (-1) (k7 x1)) fun u0=> .cg 20 [((bif (bif r_ then u0 else false)then(!decide (x.feeds.e0=x.feeds.e1))else false),true)] (aG x.power 1 100000) fun u1=> .cg 26 [(k19 r_ u0 x u1)] (yI x) fun u5=> .cg 27 [(k19 r_ u0 x u1)] (aG x.paths 0 u5) fun u6=> .r<| .e (bif (k20 r_ u0 x u1)then u6 else false))
section
variable (x1:Int) (u0:(List Source)) (u1:(List Link)) (u2:(List aN))
abbrev k21:DV:=(Kj [(.fn 82 1 (k11 x1 u0 u1 u2))] 0)
end
theorem sV (x:aN) (x1:Int) (u0:(List Source)) (u1:(List Link)) (u2:(List aN)):fP Tryz.prog 81 [(.agg (k18 x)),(sD (k21 x1 u0 u1 u2))] [] (fun r=>(vB r)) (fun _=>[]) (kS x x1 u0 u1 u2):=
  iC tT mX Tryz.func81 (
  .rg {fr:=[(0,1)],fz:=[1]} []<| .cl 2 (xK x x1 u0 u1 u2) fun r_=> .r<| .e (!r_))
section
variable (s_:(List aN)) (f_:Int) (u0:(List Source)) (u1:(List Link)) (u2:(List aN))
abbrev k22:List SV:=[(sD (aX none 4 aN.cell s_)),(sD (.fn 81 1 (xq [(k21 f_ u0 u1 u2)])))]
end
theorem pq (s_:(List aN)) (f_:Int) (u0:(List Source)) (u1:(List Link)) (u2:(List aN)):fP Tryz.prog 98 (k22 s_ f_ u0 u1 u2) [] (fun r=>(vI r)) (fun _=>[]) (ja s_ f_ u0 u1 u2):=
  iC tT mX Tryz.func98 (
  .r<| .r<| .lp (σ:=Int) (β:=Unit) (0) [] [] ⟨[0,1,7],[],fun t8=>[(8,(vI t8))],fun t8=>[]⟩ ⟨[],[],fun _=>[],fun _=>[]⟩
  (fun t8=> .r<| .it (.r<| .cl 5 (sV (⟨((at' s_ t8.toNat).feeds),(at' s_ t8.toNat).power,(at' s_ t8.toNat).paths⟩:aN) f_ u0 u1 u2) fun r_=> .a1 ((0:Int)≤t8∧t8<(s_.length:Int))<| .rg {} [0,1]<| .it (.r<| .e (.done (.ret t8)))
  (.r<| .e (.next (k3 t8))))
  (.e (.done (.brk ()))))
  (fun _=> .r<| .e (-1)))
theorem nu (s_:(List aN)) (f_:Int) (u0:(List Source)) (u1:(List Link)) (u2:(List aN)):fP Tryz.prog 80 (k22 s_ f_ u0 u1 u2) [] (fun r=>(vB r)) (fun _=>[]) (dO s_ f_ u0 u1 u2):=
  iC tT mX Tryz.func80 (
  .r<| .cl 2 (pq s_ f_ u0 u1 u2) fun r_=> .r<| .e (decide (0≤r_)))
theorem xI (l:(List aN)) (u0:Int) (u1:Int) (u2:(List Source)) (u3:(List Link)) (u4:(List aN)):fP Tryz.prog 46 [(sD (aX none 4 aN.cell l)),(sI u0),(sD (.fn 82 1 (k11 u1 u2 u3 u4)))] [] (fun r=>(vB r)) (fun _=>[]) (lu l u0 u1 u2 u3 u4):=
  iC tT mX Tryz.func46 (
  .rg {fr:=[(0,1)],fz:=[1]} []<| .cg 7 [((decide ((l.length:Int)≤u0)),true)] (nu l u1 u2 u3 u4) fun r_=> .r<| .e (bif (decide ((l.length:Int)≤u0))then(!r_)else false))
theorem jE (p:ai):fP Tryz.prog 9 (k0 p) [] (fun r=>(vI r)) (fun _=>[]) (eH p):=
  iC tT mX Tryz.func9 (
  .rg {fr:=[(0,1)],fz:=[1]} []<| .cl 2 (aG p.buses 1 24) fun r_=> .r<| .it (.r<| .e 10)
  (.cl 3 (wW p) fun u0=> .cl 4 (zx p.sources 8 u0.1 u0.2.1 u0.2.2.1 u0.2.2.2) fun u3=> .r<| .it (.r<| .e 11)
  (.cl 3 (zy p) fun u1=> .cl 4 (wT p.links 40 u1.1 u1.2.1 u1.2.2.1 u1.2.2.2) fun u4=> .r<| .it (.r<| .e 12)
  (.cl 3 (zn p) fun u2=> .cl 4 (xI p.racks 24 u2.1 u2.2.1 u2.2.2.1 u2.2.2.2) fun u5=> .r<| .it (.r<| .e 13)
  (.r<| .e 0)))))
section
variable (s_:State) (p:ai) (u0:Int)
abbrev k24:List CV:=[(.d (aX none 1 aj s_.closed)),(.d (aX none 1 aj s_.locked)),(.d (aX none 1 aj s_.badLink)),(.d (aX none 1 aj s_.on_)),(.d (aX none 1 aj s_.badSource)),(.d (aX none 1 aj s_.earthed)),(.d (aX none 1 aj s_.badBus))]
abbrev k23:List SV:=[(.agg (k1 p)),(.agg (k24 s_))]
abbrev k25:=(⟨s_.closed,(p.links.length:Int)⟩:bD)
abbrev k26:=(⟨s_.locked,(p.links.length:Int)⟩:bD)
abbrev k27:=(⟨s_.badLink,(p.links.length:Int)⟩:bD)
abbrev k28:=(⟨s_.on_,(p.sources.length:Int)⟩:bD)
abbrev QR:=(⟨s_.badSource,(p.sources.length:Int)⟩:bD)
abbrev TN:=(aB bD.cell [(k25 s_ p),(k26 s_ p),(k27 s_ p),(k28 s_ p),(QR s_ p),(⟨s_.earthed,p.buses⟩:bD),(⟨s_.badBus,p.buses⟩:bD)])
abbrev TD:=((gB [((decide (((at' p.links u0.toNat).kind)=1)),true)]=true→(0:Int)≤u0∧u0<(s_.closed.length:Int)))
abbrev TY:=((gB [((!(at' s_.closed u0.toNat)),false),((decide (((at' p.links u0.toNat).kind)=1)),true)]=true→(0:Int)≤u0∧u0<(s_.locked.length:Int)))
end
theorem bO (p:ai) (s_:State):fP Tryz.prog 11 (k23 s_ p) [] (fun r=>(vI r)) (fun _=>[]) (bA p s_):=
  iC tT mX Tryz.func11 (
  .rg {fr:=[(0,11),(1,12)]} []<| .cl 1 (jE p) fun r_=> .r<| .r<| .it (.r<| .e r_)
  (.r<| .rg {an:=[(30, .arr [(k25 s_ p),(k26 s_ p),(k27 s_ p),(k28 s_ p),(QR s_ p),(⟨s_.earthed,p.buses⟩:bD),(⟨s_.badBus,p.buses⟩:bD)].length (TN s_ p))],fr:=[(30,13)],fz:=[12]} [.pf ⟨[(k25 s_ p),(k26 s_ p),(k27 s_ p),(k28 s_ p),(QR s_ p),(⟨s_.earthed,p.buses⟩:bD),(⟨s_.badBus,p.buses⟩:bD)].length=7,rfl⟩, .pf ⟨aJ 7 2 (jZ 2 [(aX none 1 aj s_.closed),(.int .i64 (p.links.length:Int)),(aX none 1 aj s_.locked),(.int .i64 (p.links.length:Int)),(aX none 1 aj s_.badLink),(.int .i64 (p.links.length:Int)),(aX none 1 aj s_.on_),(.int .i64 (p.sources.length:Int)),(aX none 1 aj s_.badSource),(.int .i64 (p.sources.length:Int)),(aX none 1 aj s_.earthed),(.int .i64 p.buses),(aX none 1 aj s_.badBus),(.int .i64 p.buses)]) (TN s_ p),(by intro i hi j hj;match i,j,hi,hj with|0,0,_,_=>rfl|0,1,_,_=>rfl|1,0,_,_=>rfl|1,1,_,_=>rfl|2,0,_,_=>rfl|2,1,_,_=>rfl|3,0,_,_=>rfl|3,1,_,_=>rfl|4,0,_,_=>rfl|4,1,_,_=>rfl|5,0,_,_=>rfl|5,1,_,_=>rfl|6,0,_,_=>rfl|6,1,_,_=>rfl)⟩]<| .lp (σ:=Int) (β:=Unit) (0) [] [] ⟨[2,3,53,54],[11,13],fun u1=>[(55,(vI u1))],fun u1=>[]⟩ ⟨[2,3],[11],fun _=>[],fun _=>[]⟩
  (fun u1=> .r<| .it (.a1 ((0:Int)≤u1∧u1<([(k25 s_ p),(k26 s_ p),(k27 s_ p),(k28 s_ p),(QR s_ p),(⟨s_.earthed,p.buses⟩:bD),(⟨s_.badBus,p.buses⟩:bD)].length:Int))<| .rg {fr:=[(2,17)],fz:=[17]} [0, .t 0 u1 ([(k25 s_ p),(k26 s_ p),(k27 s_ p),(k28 s_ p),(QR s_ p),(⟨s_.earthed,p.buses⟩:bD),(⟨s_.badBus,p.buses⟩:bD)].length)]<| .r<| .it (.r<| .e (.done (.ret 9)))
  (.r<| .e (.next (k3 u1))))
  (.e (.done (.brk ()))))
  (fun _=> .r<| .lp (σ:=Int) (β:=Unit) (0) [] [] ⟨[3,67,68],[],fun u0=>[(69,(vI u0))],fun u0=>[]⟩ ⟨[],[],fun _=>[],fun _=>[]⟩
  (fun u0=> .r<| .it (.a1 (k2 p u0)<| .rg {fr:=[(3,21)],fz:=[21]} []<| .a2 (TD s_ p u0) (TY s_ p u0)<| .rg {} [0,1]<| .it (.r<| .e (.done (.ret 9)))
  (.r<| .e (.next (k3 u0))))
  (.e (.done (.brk ()))))
  (fun _=> .r<| .e 0))))
theorem lW (p:ai) (s_:State):fP Tryz.prog 84 (k23 s_ p) [] (fun r=>(vD (.fn 99 2 (xq [(Kj [(.int .i64 r.1),(aX none 5 Source.cell r.2.1),(aX none 6 Link.cell r.2.2.1),(aX none 4 aN.cell r.2.2.2.1)] 0),(Kj [(aX none 1 aj r.2.2.2.2.1),(aX none 1 aj r.2.2.2.2.2.1),(aX none 1 aj r.2.2.2.2.2.2.1),(aX none 1 aj r.2.2.2.2.2.2.2.1),(aX none 1 aj r.2.2.2.2.2.2.2.2.1),(aX none 1 aj r.2.2.2.2.2.2.2.2.2.1),(aX none 1 aj r.2.2.2.2.2.2.2.2.2.2)] 0)])))) (fun _=>[]) (iJ p s_):=
  iC tT mX Tryz.func84 (
  .rg {fr:=[(0,2),(1,3)],fz:=[2,3]} []<| .r<| .e (p.buses,p.sources,p.links,p.racks,s_.closed,s_.locked,s_.badLink,s_.on_,s_.badSource,s_.earthed,s_.badBus))
noncomputable def iQ:gW:=⟨[22],LG ([1,1,0,1,0]++[0]) (vF Tryz.f50),LG ([1,1,0,1,0]++[1]) (vF Tryz.f50),125,[]⟩
section
variable (g:aF)
abbrev SL:Ob:=(Oe 3 3 false false 1 1 (aH .i64) (aH .i64) g.head)
abbrev Tp:List (Nat × Option Ob):=[(0,some (SL g))]
end
theorem aP (g:aF) (x:Int):fP Tryz.prog 86 [(.agg [(.mp 0)]),(sI x)] (Tp g) (fun r=>(vI r)) (fun r=>(Tp g)) (aS g x):=
  iC tT mX Tryz.func86 (
  .rg {fr:=[(0,2)]} []<| .lp (σ:=Int) (β:=Unit) (x) [] [] ⟨[2],[0,2],fun x1=>[(1,(vI x1))],fun x1=>[]⟩ ⟨[],[],fun _=>[],fun _=>[]⟩
  (fun x1=> .rg {an:=[(3, .look (aM bB x1 g.head).isSome [(cI ((aM bB x1 g.head).getD 0))])]} [.pf ⟨fB [some .i64] 1 1 g.head.length (pJ (aH .i64) g.head) (qp (aH .i64) g.head) [(.int .i64 x1)] [(.d (.int .i64 0))] (aM bB x1 g.head).isSome [(cI ((aM bB x1 g.head).getD 0))],dA (fun _=>rfl) (fun _ _=>rfl) g.head x1 0 rfl rfl rfl⟩]<| .r<| .it (.r<| .e (.done (.ret x1)))
  (.r<| .e (.next ((aM bB x1 g.head).getD 0))))
  (fun _=> .no))
theorem qj (g:aF) (a:Int) (b:Int):fP Tryz.prog 85 [(.agg [(.mp 0)]),(sI a),(sI b)] (Tp g) (fun r=>(.iG [])) (fun r=>[(0,some (Oe 3 3 false false 1 1 (aH .i64) (aH .i64) r))]) (gY g a b):=
  iC tT mX Tryz.func85 (
  .rg {fr:=[(0,2)]} []<| .cr 2 (aP g a) fun r_=> .cr 5 (aP g b) fun u0=> .r<| .r<| .it (.rg {an:=[(4, .map (dZ bB r_ u0 g.head).length (pJ (aH .i64) (dZ bB r_ u0 g.head)) (qp (aH .i64) (dZ bB r_ u0 g.head)) [])]} [.pf ⟨lI [some .i64] 1 1 g.head.length (pJ (aH .i64) g.head) (qp (aH .i64) g.head) [(.int .i64 r_)] [(cI u0)] [] (dZ bB r_ u0 g.head).length (pJ (aH .i64) (dZ bB r_ u0 g.head)) (qp (aH .i64) (dZ bB r_ u0 g.head)),sQ (fun _=>rfl) (fun _ _=>rfl) g.head r_ u0 rfl rfl⟩]<| .e (dZ bB r_ u0 g.head))
  (.e g.head))
section
variable (o_:aF)
abbrev Ti:Nat × Option Ob:=(0,some (.loop iQ 0 [(5,(vP 1 0))]))
abbrev TK:List (Nat × Option Ob):=[Ti,(1,some (.cells 146 [(.mp 2)])),(2,some (SL o_))]
end
theorem kJ (u0:Int) (u1:Int) (u2:Int) (u3:Int) (u4:Int) (u5:(List bX)) (o_:aF):PY Tryz.prog 0 [(.agg [(cI u0),(cI u1),(cI u2),(cI u3),(cI u4),(.d (aX none 2 bX.cell u5))])] (TK o_) (fun _=>vB true) (fun r=>[Ti,(1,some (.cells 146 [(.mp 2)])),(2,some (Oe 3 3 false false 1 1 (aH .i64) (aH .i64) r.head))]) (gq u0 u1 u2 u3 u4 u5 o_):=
  Uf tT mX iQ ⟨[5],[0,1,2],fun _=>[(6,(vD (Kj [(.int .i64 u0),(.int .i64 u1),(.int .i64 u2),(.int .i64 u3),(.int .i64 u4),(aX none 2 bX.cell u5)] 0)))],fun _=>[]⟩ (.rg {fr:=[(0,4)],fz:=[4]} []<| .e ())
  (.cl 5 (oC [(0,2)] (qj o_ u0 u1)) fun r_=> .r<| .e (⟨r_⟩:aF))
section
variable (u3:(List (Int × Int))) (x2:(List Bool)) (t9:Int) (u2:(List Bool)) (u1:(List Bool)) (u0:(List Link))
abbrev Sy:Ob:=(Oe 3 3 false false 1 1 (aH .i64) (aH .i64) u3)
abbrev TJ:=(bif (bif (at' x2 t9.toNat)then(!(at' u2 t9.toNat))else false)then(!(at' u1 (((at' u0 t9.toNat).a).toNat)))else false)
abbrev O5:=((0:Int)≤t9∧t9<(x2.length:Int))
abbrev TW:=((gB [((bif (at' x2 t9.toNat)then(!(at' u2 t9.toNat))else false),true)]=true→(0:Int)≤(at' u0 t9.toNat).a∧(at' u0 t9.toNat).a<(u1.length:Int)))
abbrev TU:=((gB [((TJ x2 t9 u2 u1 u0),true)]=true→(0:Int)≤(at' u0 t9.toNat).b∧(at' u0 t9.toNat).b<(u1.length:Int)))
end
theorem pU (x1:Int) (u4:(List Source)) (u0:(List Link)) (u5:(List aN)) (x2:(List Bool)) (u6:(List Bool)) (u2:(List Bool)) (u7:(List Bool)) (u8:(List Bool)) (u9:(List Bool)) (u1:(List Bool)) (o_:aF):fP Tryz.prog 99 [(.one (.yl 0)),(sD (k5 u4 x1 u0 u5)),(sD (Kj [(aX none 1 aj x2),(aX none 1 aj u6),(aX none 1 aj u2),(aX none 1 aj u7),(aX none 1 aj u8),(aX none 1 aj u9),(aX none 1 aj u1)] 0))] (TK o_) (fun r=>(.iG [])) (fun r=>[Ti,(1,some (.cells 146 [(.mp 2)])),(2,some (Oe 3 3 false false 1 1 (aH .i64) (aH .i64) r.head))]) (jw x1 u4 u0 u5 x2 u6 u2 u7 u8 u9 u1 o_):=
  iC tT mX Tryz.func99 (
  .r<| .lp (σ:=((List (Int × Int)) × Int)) (β:=(List (Int × Int))) (o_.head,0) [] [] ⟨[0,2,7,8],[0,1],fun(u3,t9)=>[(9,(vI t9))],fun(u3,t9)=>[(2,some (Sy u3))]⟩ ⟨[],[0,1],fun o501=>[],fun o501=>[(2,some (Oe 3 3 false false 1 1 (aH .i64) (aH .i64) o501))]⟩
  (fun(u3,t9)=> .r<| .it (.a1 (k17 u0 t9)<| .rg {fr:=[(3,10)],fz:=[10]} []<| .fk (bif (TJ x2 t9 u2 u1 u0)then(!(at' u1 (((at' u0 t9.toNat).b).toNat)))else false) (.cy 34 (kJ ((at' u0 t9.toNat).a) ((at' u0 t9.toNat).b) ((at' u0 t9.toNat).kind) ((at' u0 t9.toNat).most) ((at' u0 t9.toNat).ohm) ((at' u0 t9.toNat).trip) (⟨u3⟩:aF)) fun r_=> .a4 (O5 x2 t9) ((gB [((at' x2 t9.toNat),true)]=true→(0:Int)≤t9∧t9<(u2.length:Int))) (TW x2 t9 u2 u1 u0) (TU x2 t9 u2 u1 u0)<| .rg {ov:=[(31,true,5)]} [0,1,2,3, .k 4]<| .f<| .r<| .e (.next (r_.head,(k3 t9))))
  (.a4 (O5 x2 t9) ((gB [((at' x2 t9.toNat),true)]=true→(0:Int)≤t9∧t9<(u2.length:Int))) (TW x2 t9 u2 u1 u0) (TU x2 t9 u2 u1 u0)<| .rg {ov:=[(31,false,4)],sk:=[32,33,34,35]} [0,1,2,3]<| .f<| .r<| .e (.next (u3,(k3 t9)))))
  (.e (.done (.brk u3))))
  (fun o501=> .e (⟨o501⟩:aF)))
section
variable (r_:(Int × (List Source) × (List Link) × (List aN) × (List Bool) × (List Bool) × (List Bool) × (List Bool) × (List Bool) × (List Bool) × (List Bool))) (u1:(List af)) (u2:(List (Int × Int))) (u3:Int) (s_:State) (u0:Int) (u5:(List af)) (u7:Int) (p:ai) (u6:Int) (u4:(List (Int × Int)))
abbrev TP:=(oC [(0,59),(1,58),(2,57)] (pU r_.1 r_.2.1 r_.2.2.1 r_.2.2.2.1 r_.2.2.2.2.1 r_.2.2.2.2.2.1 r_.2.2.2.2.2.2.1 r_.2.2.2.2.2.2.2.1 r_.2.2.2.2.2.2.2.2.1 r_.2.2.2.2.2.2.2.2.2.1 r_.2.2.2.2.2.2.2.2.2.2 (⟨([]:(List (Int × Int)))⟩:aF)))
abbrev RU:List (Nat × Option Ob):=[(60,some (.rows 108 2 u1.length (lT af.ev u1) none)),(61,some (Sy u2))]
abbrev Qc:=((0:Int)≤u3∧u3<(s_.badBus.length:Int))
abbrev qA:=((aM bB u0 u2).getD 0)
abbrev zC:List CV:=[(cI (qA u2 u0))]
abbrev Dg:=(dZ bB u0 (u1.length:Int) u2)
abbrev Kh:=(pJ (aH .i64) (Dg u1 u2 u0))
abbrev Kl:=(qp (aH .i64) (Dg u1 u2 u0))
abbrev Sk:=((u1.length+[(⟨([]:List Int),([]:List Int)⟩:af)].length)*48≤140737488355328)
abbrev SG:=(u1.length+[(⟨([]:List Int),([]:List Int)⟩:af)].length≤4611686018427387904)
abbrev BR:=(u1++[(⟨([]:List Int),([]:List Int)⟩:af)])
abbrev NA:=(lT af.ev (BR u1))
abbrev Mt:=(aM bB u0 (Dg u1 u2 u0))
abbrev Ez:=((Mt u1 u2 u0).getD 0)
abbrev Ol:List CV:=[(cI (Ez u1 u2 u0))]
abbrev R8:=((0:Int)≤(Ez u1 u2 u0)∧(Ez u1 u2 u0)<((BR u1).length:Int))
abbrev Ty:=((Ez u1 u2 u0).toNat)
abbrev TQ:=(at' (BR u1) (Ty u1 u2 u0))
abbrev Km:=((TQ u1 u2 u0).buses)
abbrev Rj:=((Km u1 u2 u0).length+[u3].length)
abbrev RV:=((Rj u1 u2 u3 u0)*8≤140737488355328)
abbrev R7:=((Km u1 u2 u0).length+[u3].length≤4611686018427387904)
abbrev Kn:=((Km u1 u2 u0)++[u3])
abbrev MU:=(aB (aH .i64) (Kn u1 u2 u3 u0))
abbrev PV:=((BR u1).set (Ty u1 u2 u0) (⟨(Kn u1 u2 u3 u0),(TQ u1 u2 u0).sources⟩:af))
abbrev Od:=(lT af.ev (PV u1 u2 u3 u0))
abbrev Oi:=((BR u1).length)
abbrev Jw:=(jZ 1 [(.int .i64 u3)])
abbrev R9:=((Km u1 u2 u0).length)
abbrev R4:=(rR (aB (aH .i64) (Km u1 u2 u0)) (Km u1 u2 u0).length (aB (aH .i64) [u3]))
abbrev Sm:=((Kn u1 u2 u3 u0).length)
abbrev RO:=(Oo (NA u1) (Ty u1 u2 u0) 0 (.row 3 1 (Kn u1 u2 u3 u0).length (MU u1 u2 u3 u0)))
abbrev TS:=((some ((Ez u1 u2 u0).toNat,0,CV.own 88 false (Km u1 u2 u0).length)):Option (Nat × Nat × CV))
abbrev Sw:=((PV u1 u2 u3 u0),(Dg u1 u2 u0),(k3 u3))
abbrev Ow:=((0:Int)≤(qA u2 u0)∧(qA u2 u0)<(u1.length:Int))
abbrev Kk:=((at' u1 ((qA u2 u0).toNat)).buses)
abbrev Rm:=((Kk u1 u2 u0).length+[u3].length)
abbrev SF:=((Rm u1 u2 u3 u0)*8≤140737488355328)
abbrev Sl:=((Kk u1 u2 u0).length+[u3].length≤4611686018427387904)
abbrev Ki:=((Kk u1 u2 u0)++[u3])
abbrev MO:=(aB (aH .i64) (Ki u1 u2 u3 u0))
abbrev PL:=(u1.set ((qA u2 u0).toNat) (⟨(Ki u1 u2 u3 u0),(at' u1 ((qA u2 u0).toNat)).sources⟩:af))
abbrev Oh:=(lT af.ev (PL u1 u2 u3 u0))
abbrev Sj:=((Kk u1 u2 u0).length)
abbrev RQ:=(rR (aB (aH .i64) (Kk u1 u2 u0)) (Kk u1 u2 u0).length (aB (aH .i64) [u3]))
abbrev R6:=((Ki u1 u2 u3 u0).length)
abbrev Si:=(Oo (lT af.ev u1) ((qA u2 u0).toNat) 0 (.row 3 1 (Ki u1 u2 u3 u0).length (MO u1 u2 u3 u0)))
abbrev TH:=((some ((qA u2 u0).toNat,0,CV.own 91 false (Kk u1 u2 u0).length)):Option (Nat × Nat × CV))
abbrev SB:=((PL u1 u2 u3 u0),u2,(k3 u3))
abbrev R3:List (Nat × Option Ob):=[(60,some (.rows 108 2 u5.length (lT af.ev u5) none))]
abbrev PG:=((0:Int)≤u7∧u7<(p.sources.length:Int))
abbrev Qo:=((0:Int)≤u7∧u7<(s_.on_.length:Int))
abbrev QZ:=((gB [((at' s_.on_ u7.toNat),true)]=true→(0:Int)≤u7∧u7<(s_.badSource.length:Int)))
abbrev RZ:=((bif (at' s_.on_ u7.toNat)then(!(at' s_.badSource u7.toNat))else false),true)
abbrev QK:=((gB [(RZ s_ u7)]=true→(0:Int)≤(at' p.sources u7.toNat).bus∧(at' p.sources u7.toNat).bus<(s_.badBus.length:Int)))
abbrev Mi:=((at' p.sources u7.toNat).bus)
abbrev zb:=((at' u5 ((qA u4 u6).toNat)).sources)
abbrev RD:=((zb u5 u6 u4).length+[u7].length)
abbrev Sz:=((RD u5 u7 u6 u4)*8≤140737488355328)
abbrev Oa:=((zb u5 u6 u4).length+[u7].length≤4611686018427387904)
abbrev zA:=((zb u5 u6 u4)++[u7])
abbrev DR:=(aB (aH .i64) (zA u5 u7 u6 u4))
abbrev JQ:=(u5.set ((qA u4 u6).toNat) (⟨(at' u5 ((qA u4 u6).toNat)).buses,(zA u5 u7 u6 u4)⟩:af))
abbrev Ff:=(lT af.ev (JQ u5 u7 u6 u4))
abbrev MR:=((zb u5 u6 u4).length)
abbrev M9:=(rR (aB (aH .i64) (zb u5 u6 u4)) (zb u5 u6 u4).length (aB (aH .i64) [u7]))
abbrev NZ:=((zA u5 u7 u6 u4).length)
abbrev NQ:=(Oo (lT af.ev u5) ((qA u4 u6).toNat) 1 (.row 3 1 (zA u5 u7 u6 u4).length (DR u5 u7 u6 u4)))
abbrev QL:=((some ((qA u4 u6).toNat,1,CV.own 107 false (zb u5 u6 u4).length)):Option (Nat × Nat × CV))
abbrev MP:=((JQ u5 u7 u6 u4),(k3 u7))
abbrev Js:=(u5,(k3 u7))
end
theorem vX (p:ai) (s_:State):fP Tryz.prog 50 (k23 s_ p) [] (fun r=>(vD (aX none 2 af.cell r))) (fun _=>[]) (dh p s_):=
  iC tT mX Tryz.func50 (
  .rg {fr:=[(0,55),(1,56)],fz:=[56]} []<| .rg {an:=[(0, .map 0 (pJ (aH .i64) ([]:(List (Int × Int)))) (qp (aH .i64) ([]:(List (Int × Int)))) [])],fr:=[(0,57),(2,58)]} []<| .cl 2 (lW p s_) fun r_=> .r<| .cl 0 (TP r_) fun v0=> .rf 59 [5] [] none 0 []<| .r<| .im (.RP 7 60 108 2 (lT af.ev ([]:List af)))<| .rg {an:=[(0, .map 0 (pJ (aH .i64) ([]:(List (Int × Int)))) (qp (aH .i64) ([]:(List (Int × Int)))) [])],fr:=[(0,61)]} []<| .r<| .lp (σ:=((List af) × (List (Int × Int)) × Int)) (β:=((List af) × (List (Int × Int)))) (([]:List af),([]:(List (Int × Int))),0) [] [] ⟨[2,3,5,8,31],[55,57,58],fun(u1,u2,u3)=>[(7,(vO 60 false u1.length)),(32,(vI u3))],fun(u1,u2,u3)=>(RU u1 u2)⟩ ⟨[2,3,5,8],[55,57,58],fun(u9,u4)=>[(7,(vO 60 false u9.length))],fun(u9,u4)=>(RU u9 u4)⟩
  (fun(u1,u2,u3)=> .r<| .it (.r<| .a1 (Qc u3 s_)<| .r<| .it (.r<| .e (.next (u1,u2,(k3 u3))))
  (.cr 2 (oC [(0,57)] (aP v0 u3)) fun u0=> .r<| .rg {an:=[(2, .look (aM bB u0 u2).isSome (zC u2 u0))]} [.pf ⟨fB [some .i64] 1 1 u2.length (pJ (aH .i64) u2) (qp (aH .i64) u2) [(.int .i64 u0)] [(.d (.int .i64 0))] (aM bB u0 u2).isSome (zC u2 u0),dA (fun _=>rfl) (fun _ _=>rfl) u2 u0 0 rfl rfl rfl⟩]<| .r<| .it (.rg {an:=[(4, .map (Dg u1 u2 u0).length (Kh u1 u2 u0) (Kl u1 u2 u0) [])]} [.pf ⟨lI [some .i64] 1 1 u2.length (pJ (aH .i64) u2) (qp (aH .i64) u2) [(.int .i64 u0)] [(cI (u1.length:Int))] [] (Dg u1 u2 u0).length (Kh u1 u2 u0) (Kl u1 u2 u0),sQ (fun _=>rfl) (fun _ _=>rfl) u2 u0 (u1.length:Int) rfl rfl⟩]<| .a2 (Sk u1) (SG u1)<| .rg {an:=[(2, .arr [(⟨([]:List Int),([]:List Int)⟩:af)].length (jZ 2 [nS,nS])),(3, .rows (BR u1).length (NA u1))],fr:=[(2,86),(3,87)]} [.pf ⟨[(⟨([]:List Int),([]:List Int)⟩:af)].length=1,rfl⟩, .pf ⟨aJ 1 2 (jZ 2 [nS,nS]) (jZ 2 [nS,nS]),fD _ _ _⟩, .e (u1.length),0,1, .pf ⟨(BR u1).length=u1.length+[(⟨([]:List Int),([]:List Int)⟩:af)].length,List.length_append⟩, .pf ⟨qJ u1.length [(⟨([]:List Int),([]:List Int)⟩:af)].length 2 (lT af.ev u1) (jZ 2 [nS,nS]) (NA u1),zH _ _ _ _ _ (by intro i hi j hj;match i,j,hi,hj with|0,0,_,_=>exact⟨rfl,_,_,_,rfl⟩|0,1,_,_=>exact⟨rfl,_,_,_,rfl⟩)⟩]<| .rg {an:=[(2, .look (Mt u1 u2 u0).isSome (Ol u1 u2 u0))]} [.pf ⟨fB [some .i64] 1 1 (Dg u1 u2 u0).length (Kh u1 u2 u0) (Kl u1 u2 u0) [(.int .i64 u0)] [(.d (.int .i64 0))] (Mt u1 u2 u0).isSome (Ol u1 u2 u0),dA (fun _=>rfl) (fun _ _=>rfl) (Dg u1 u2 u0) u0 0 rfl rfl rfl⟩]<| .a3 (R8 u1 u2 u0) (RV u1 u2 u3 u0) (R7 u1 u2 u3 u0)<| .rg {an:=[(6, .take 88),(8, .arr [u3].length (aB (aH .i64) [u3])),(9, .arr (Kn u1 u2 u3 u0).length (MU u1 u2 u3 u0)),(12, .rows 0 (Od u1 u2 u3 u0))],fr:=[(8,89),(9,90)]} [0, .t 0 (Ez u1 u2 u0) (Oi u1), .pf ⟨[u3].length=1,rfl⟩, .pf ⟨aJ 1 1 (Jw u3) (aB (aH .i64) [u3]),(by intro i hi j hj;match i,j,hi,hj with|0,0,_,_=>rfl)⟩, .e (R9 u1 u2 u0),1,2, .pf ⟨(Kn u1 u2 u3 u0).length=(Km u1 u2 u0).length+[u3].length,List.length_append⟩, .pf ⟨aJ (Rj u1 u2 u3 u0) 1 (R4 u1 u2 u3 u0) (MU u1 u2 u3 u0),bH _ _ _ _⟩,0, .t 0 (Ez u1 u2 u0) (Oi u1), .e (Sm u1 u2 u3 u0), .pf ⟨xB (BR u1).length 2 (RO u1 u2 u3 u0) (Od u1 u2 u3 u0),iV _ _ _ _ _ _ _ _ rfl (fun j hj=>(match j,hj with|0,_=>rfl|1,_=>rfl))⟩, .pf ⟨∀i0 j0 c0,(TS u1 u2 u0)=some (i0,j0,c0)→i0=(Ez u1 u2 u0).toNat∧j0=0,(fun i0 j0 c0 e=>by cases e;exact⟨rfl,rfl⟩)⟩]<| .im (.ll 87 (BR u1) (PV u1 u2 u3 u0))<| .r<| .en (.next (Sw u1 u2 u3 u0)) [] [(87,60)])
  (.rg {an:=[(2, .look (aM bB u0 u2).isSome (zC u2 u0))]} [.pf ⟨fB [some .i64] 1 1 u2.length (pJ (aH .i64) u2) (qp (aH .i64) u2) [(.int .i64 u0)] [(.d (.int .i64 0))] (aM bB u0 u2).isSome (zC u2 u0),dA (fun _=>rfl) (fun _ _=>rfl) u2 u0 0 rfl rfl rfl⟩]<| .a3 (Ow u1 u2 u0) (SF u1 u2 u3 u0) (Sl u1 u2 u3 u0)<| .rg {an:=[(6, .take 91),(8, .arr [u3].length (aB (aH .i64) [u3])),(9, .arr (Ki u1 u2 u3 u0).length (MO u1 u2 u3 u0)),(12, .rows 0 (Oh u1 u2 u3 u0))],fr:=[(8,92),(9,93)]} [0, .t 0 (qA u2 u0) u1.length, .pf ⟨[u3].length=1,rfl⟩, .pf ⟨aJ 1 1 (Jw u3) (aB (aH .i64) [u3]),(by intro i hi j hj;match i,j,hi,hj with|0,0,_,_=>rfl)⟩, .e (Sj u1 u2 u0),1,2, .pf ⟨(Ki u1 u2 u3 u0).length=(Kk u1 u2 u0).length+[u3].length,List.length_append⟩, .pf ⟨aJ (Rm u1 u2 u3 u0) 1 (RQ u1 u2 u3 u0) (MO u1 u2 u3 u0),bH _ _ _ _⟩,0, .t 0 (qA u2 u0) u1.length, .e (R6 u1 u2 u3 u0), .pf ⟨xB u1.length 2 (Si u1 u2 u3 u0) (Oh u1 u2 u3 u0),iV _ _ _ _ _ _ _ _ rfl (fun j hj=>(match j,hj with|0,_=>rfl|1,_=>rfl))⟩, .pf ⟨∀i0 j0 c0,(TH u1 u2 u0)=some (i0,j0,c0)→i0=(qA u2 u0).toNat∧j0=0,(fun i0 j0 c0 e=>by cases e;exact⟨rfl,rfl⟩)⟩]<| .im (.ll 60 u1 (PL u1 u2 u3 u0))<| .r<| .e (.next (SB u1 u2 u3 u0)))))
  (.e (.done (.brk (u1,u2)))))
  (fun(u9,u4)=> .r<| .lp (σ:=((List af) × Int)) (β:=(List af)) (u9,0) [] [] ⟨[3,5,8,76,77],[57,58,61],fun(u5,u7)=>[(7,(vO 60 false u5.length)),(78,(vI u7))],fun(u5,u7)=>(R3 u5)⟩ ⟨[],[],fun u8=>[(7,(vO 60 false u8.length))],fun u8=>(R3 u8)⟩
  (fun(u5,u7)=> .r<| .it (.a1 (PG u7 p)<| .rg {fr:=[(3,106)],fz:=[106]} []<| .a3 (Qo s_ u7) (QZ s_ u7) (QK s_ u7 p)<| .rg {} [0,1,2]<| .it (.cr 4 (oC [(0,57)] (aP v0 (Mi u7 p))) fun u6=> .rg {an:=[(5, .look (aM bB u6 u4).isSome (zC u4 u6))]} [0, .pf ⟨fB [some .i64] 1 1 u4.length (pJ (aH .i64) u4) (qp (aH .i64) u4) [(.int .i64 u6)] [(.d (.int .i64 0))] (aM bB u6 u4).isSome (zC u4 u6),dA (fun _=>rfl) (fun _ _=>rfl) u4 u6 0 rfl rfl rfl⟩]<| .a3 (Ow u5 u4 u6) (Sz u5 u7 u6 u4) (Oa u5 u7 u6 u4)<| .rg {an:=[(6, .take 107),(8, .arr [u7].length (aB (aH .i64) [u7])),(9, .arr (zA u5 u7 u6 u4).length (DR u5 u7 u6 u4)),(12, .rows 0 (Ff u5 u7 u6 u4))],fr:=[(8,108),(9,109)]} [0, .t 0 (qA u4 u6) u5.length, .pf ⟨[u7].length=1,rfl⟩, .pf ⟨aJ 1 1 (Jw u7) (aB (aH .i64) [u7]),(by intro i hi j hj;match i,j,hi,hj with|0,0,_,_=>rfl)⟩, .e (MR u5 u6 u4),1,2, .pf ⟨(zA u5 u7 u6 u4).length=(zb u5 u6 u4).length+[u7].length,List.length_append⟩, .pf ⟨aJ (RD u5 u7 u6 u4) 1 (M9 u5 u7 u6 u4) (DR u5 u7 u6 u4),bH _ _ _ _⟩,0, .t 0 (qA u4 u6) u5.length, .e (NZ u5 u7 u6 u4), .pf ⟨xB u5.length 2 (NQ u5 u7 u6 u4) (Ff u5 u7 u6 u4),iV _ _ _ _ _ _ _ _ rfl (fun j hj=>(match j,hj with|0,_=>rfl|1,_=>rfl))⟩, .pf ⟨∀i0 j0 c0,(QL u5 u6 u4)=some (i0,j0,c0)→i0=(qA u4 u6).toNat∧j0=1,(fun i0 j0 c0 e=>by cases e;exact⟨rfl,rfl⟩)⟩]<| .im (.ll 60 u5 (JQ u5 u7 u6 u4))<| .r<| .e (.next (MP u5 u7 u6 u4)))
  (.r<| .e (.next (Js u5 u7))))
  (.e (.done (.brk u5))))
  (fun u8=> .rg {fz:=[60]} []<| .im (.us 4 (vD (.sl none 2 u8.length (fun i j=>PX (lT af.ev u8 i j)))) (vD (aX none 2 af.cell u8)) (xR.v (xS.one (o8.d (mM.sl (.inr rfl) (fun i _ j hj=>match j,hj with|0,_=> .refl _|1,_=> .refl _))))))<| .e u8)))
theorem ol (p:ai) (s_:State):fP Tryz.prog 13 (k23 s_ p) [] (fun r=>(.iG [(sD (aX none 2 af.cell r.1)),(sI r.2)])) (fun _=>[]) (fM p s_):=
  iC tT mX Tryz.func13 (
  .rg {fr:=[(0,2),(1,3)],fz:=[2,3]} []<| .cl 2 (bO p s_) fun r_=> .r<| .r<| .it (.r<| .e (([]:List af),r_))
  (.cl 2 (vX p s_) fun u0=> .r<| .e (u0,0)))
theorem oG (a:(List Int)) (b:(List Int)):fP Tryz.prog 53 [(sD (aX none 1 (aH .i64) a)),(sD (aX none 1 (aH .i64) b))] [] (fun r=>(vB r)) (fun _=>[]) (jv a b):=
  iC tT mX Tryz.func53 (
  .r<| .r<| .it (.r<| .e false)
  (.r<| .lp (σ:=Int) (β:=Unit) (0) [] [] ⟨[0,1],[],fun i=>[(5,(vI i))],fun i=>[]⟩ ⟨[],[],fun _=>[],fun _=>[]⟩
  (fun i=> .r<| .it (.a2 ((0:Int)≤i∧i<(a.length:Int)) ((0:Int)≤i∧i<(b.length:Int))<| .rg {} [0,1]<| .it (.r<| .e (.done (.ret false)))
  (.r<| .e (.next (k3 i))))
  (.e (.done (.brk ()))))
  (fun _=> .r<| .e true)))
section
variable (i:Int) (a:(List af))
abbrev LX:=((0:Int)≤i∧i<(a.length:Int))
end
theorem iL (a:(List af)) (b:(List af)):fP Tryz.prog 15 [(sD (aX none 2 af.cell a)),(sD (aX none 2 af.cell b))] [] (fun r=>(vB r)) (fun _=>[]) (dG a b):=
  iC tT mX Tryz.func15 (
  .r<| .r<| .it (.r<| .e false)
  (.r<| .lp (σ:=Int) (β:=Unit) (0) [] [] ⟨[0,1],[],fun i=>[(5,(vI i))],fun i=>[]⟩ ⟨[],[],fun _=>[],fun _=>[]⟩
  (fun i=> .r<| .it (.cl 10 (oG ((at' a i.toNat).buses) ((at' b i.toNat).buses)) fun r_=> .cg 23 [((!r_),false)] (oG ((at' a i.toNat).sources) ((at' b i.toNat).sources)) fun u0=> .a4 (LX i a) (LX i b) ((gB [((!r_),false)]=true→(0:Int)≤i∧i<(a.length:Int))) ((gB [((!r_),false)]=true→(0:Int)≤i∧i<(b.length:Int)))<| .rg {} [0,1,5,2,3,4]<| .it (.r<| .e (.done (.ret false)))
  (.r<| .e (.next (k3 i))))
  (.e (.done (.brk ()))))
  (fun _=> .r<| .e true)))
theorem lV (p:ai) (s_:State):fP Tryz.prog 50 (k23 s_ p) [] (fun r=>(vD (aX none 2 af.cell r))) (fun _=>[]) (dh p s_):=
  iC tT mX Tryz.func50 (
  .rg {fr:=[(0,55),(1,56)],fz:=[56]} []<| .rg {an:=[(0, .map 0 (pJ (aH .i64) ([]:(List (Int × Int)))) (qp (aH .i64) ([]:(List (Int × Int)))) [])],fr:=[(0,57),(2,58)]} []<| .cl 2 (lW p s_) fun r_=> .r<| .cl 0 (TP r_) fun v0=> .rf 59 [5] [] none 0 []<| .r<| .im (.RP 7 60 108 2 (lT af.ev ([]:List af)))<| .rg {an:=[(0, .map 0 (pJ (aH .i64) ([]:(List (Int × Int)))) (qp (aH .i64) ([]:(List (Int × Int)))) [])],fr:=[(0,61)]} []<| .r<| .lp (σ:=((List af) × (List (Int × Int)) × Int)) (β:=((List af) × (List (Int × Int)))) (([]:List af),([]:(List (Int × Int))),0) [] [] ⟨[2,3,5,8,31],[55,57,58],fun(u1,u2,u3)=>[(7,(vO 60 false u1.length)),(32,(vI u3))],fun(u1,u2,u3)=>(RU u1 u2)⟩ ⟨[2,3,5,8],[55,57,58],fun(u9,u4)=>[(7,(vO 60 false u9.length))],fun(u9,u4)=>(RU u9 u4)⟩
  (fun(u1,u2,u3)=> .r<| .it (.r<| .a1 (Qc u3 s_)<| .r<| .it (.r<| .e (.next (u1,u2,(k3 u3))))
  (.cr 2 (oC [(0,57)] (aP v0 u3)) fun u0=> .r<| .rg {an:=[(2, .look (aM bB u0 u2).isSome (zC u2 u0))]} [.pf ⟨fB [some .i64] 1 1 u2.length (pJ (aH .i64) u2) (qp (aH .i64) u2) [(.int .i64 u0)] [(.d (.int .i64 0))] (aM bB u0 u2).isSome (zC u2 u0),dA (fun _=>rfl) (fun _ _=>rfl) u2 u0 0 rfl rfl rfl⟩]<| .r<| .it (.rg {an:=[(4, .map (Dg u1 u2 u0).length (Kh u1 u2 u0) (Kl u1 u2 u0) [])]} [.pf ⟨lI [some .i64] 1 1 u2.length (pJ (aH .i64) u2) (qp (aH .i64) u2) [(.int .i64 u0)] [(cI (u1.length:Int))] [] (Dg u1 u2 u0).length (Kh u1 u2 u0) (Kl u1 u2 u0),sQ (fun _=>rfl) (fun _ _=>rfl) u2 u0 (u1.length:Int) rfl rfl⟩]<| .a2 (Sk u1) (SG u1)<| .rg {an:=[(2, .arr [(⟨([]:List Int),([]:List Int)⟩:af)].length (jZ 2 [nS,nS])),(3, .rows (BR u1).length (NA u1))],fr:=[(2,86),(3,87)]} [.pf ⟨[(⟨([]:List Int),([]:List Int)⟩:af)].length=1,rfl⟩, .pf ⟨aJ 1 2 (jZ 2 [nS,nS]) (jZ 2 [nS,nS]),fD _ _ _⟩, .e (u1.length),0,1, .pf ⟨(BR u1).length=u1.length+[(⟨([]:List Int),([]:List Int)⟩:af)].length,List.length_append⟩, .pf ⟨qJ u1.length [(⟨([]:List Int),([]:List Int)⟩:af)].length 2 (lT af.ev u1) (jZ 2 [nS,nS]) (NA u1),zH _ _ _ _ _ (by intro i hi j hj;match i,j,hi,hj with|0,0,_,_=>exact⟨rfl,_,_,_,rfl⟩|0,1,_,_=>exact⟨rfl,_,_,_,rfl⟩)⟩]<| .rg {an:=[(2, .look (Mt u1 u2 u0).isSome (Ol u1 u2 u0))]} [.pf ⟨fB [some .i64] 1 1 (Dg u1 u2 u0).length (Kh u1 u2 u0) (Kl u1 u2 u0) [(.int .i64 u0)] [(.d (.int .i64 0))] (Mt u1 u2 u0).isSome (Ol u1 u2 u0),dA (fun _=>rfl) (fun _ _=>rfl) (Dg u1 u2 u0) u0 0 rfl rfl rfl⟩]<| .a3 (R8 u1 u2 u0) (RV u1 u2 u3 u0) (R7 u1 u2 u3 u0)<| .rg {an:=[(6, .take 88),(8, .arr [u3].length (aB (aH .i64) [u3])),(9, .arr (Kn u1 u2 u3 u0).length (MU u1 u2 u3 u0)),(12, .rows 0 (Od u1 u2 u3 u0))],fr:=[(8,89),(9,90)]} [0, .t 0 (Ez u1 u2 u0) (Oi u1), .pf ⟨[u3].length=1,rfl⟩, .pf ⟨aJ 1 1 (Jw u3) (aB (aH .i64) [u3]),(by intro i hi j hj;match i,j,hi,hj with|0,0,_,_=>rfl)⟩, .e (R9 u1 u2 u0),1,2, .pf ⟨(Kn u1 u2 u3 u0).length=(Km u1 u2 u0).length+[u3].length,List.length_append⟩, .pf ⟨aJ (Rj u1 u2 u3 u0) 1 (R4 u1 u2 u3 u0) (MU u1 u2 u3 u0),bH _ _ _ _⟩,0, .t 0 (Ez u1 u2 u0) (Oi u1), .e (Sm u1 u2 u3 u0), .pf ⟨xB (BR u1).length 2 (RO u1 u2 u3 u0) (Od u1 u2 u3 u0),iV _ _ _ _ _ _ _ _ rfl (fun j hj=>(match j,hj with|0,_=>rfl|1,_=>rfl))⟩, .pf ⟨∀i0 j0 c0,(TS u1 u2 u0)=some (i0,j0,c0)→i0=(Ez u1 u2 u0).toNat∧j0=0,(fun i0 j0 c0 e=>by cases e;exact⟨rfl,rfl⟩)⟩]<| .im (.ll 87 (BR u1) (PV u1 u2 u3 u0))<| .r<| .en (.next (Sw u1 u2 u3 u0)) [] [(87,60)])
  (.rg {an:=[(2, .look (aM bB u0 u2).isSome (zC u2 u0))]} [.pf ⟨fB [some .i64] 1 1 u2.length (pJ (aH .i64) u2) (qp (aH .i64) u2) [(.int .i64 u0)] [(.d (.int .i64 0))] (aM bB u0 u2).isSome (zC u2 u0),dA (fun _=>rfl) (fun _ _=>rfl) u2 u0 0 rfl rfl rfl⟩]<| .a3 (Ow u1 u2 u0) (SF u1 u2 u3 u0) (Sl u1 u2 u3 u0)<| .rg {an:=[(6, .take 91),(8, .arr [u3].length (aB (aH .i64) [u3])),(9, .arr (Ki u1 u2 u3 u0).length (MO u1 u2 u3 u0)),(12, .rows 0 (Oh u1 u2 u3 u0))],fr:=[(8,92),(9,93)]} [0, .t 0 (qA u2 u0) u1.length, .pf ⟨[u3].length=1,rfl⟩, .pf ⟨aJ 1 1 (Jw u3) (aB (aH .i64) [u3]),(by intro i hi j hj;match i,j,hi,hj with|0,0,_,_=>rfl)⟩, .e (Sj u1 u2 u0),1,2, .pf ⟨(Ki u1 u2 u3 u0).length=(Kk u1 u2 u0).length+[u3].length,List.length_append⟩, .pf ⟨aJ (Rm u1 u2 u3 u0) 1 (RQ u1 u2 u3 u0) (MO u1 u2 u3 u0),bH _ _ _ _⟩,0, .t 0 (qA u2 u0) u1.length, .e (R6 u1 u2 u3 u0), .pf ⟨xB u1.length 2 (Si u1 u2 u3 u0) (Oh u1 u2 u3 u0),iV _ _ _ _ _ _ _ _ rfl (fun j hj=>(match j,hj with|0,_=>rfl|1,_=>rfl))⟩, .pf ⟨∀i0 j0 c0,(TH u1 u2 u0)=some (i0,j0,c0)→i0=(qA u2 u0).toNat∧j0=0,(fun i0 j0 c0 e=>by cases e;exact⟨rfl,rfl⟩)⟩]<| .im (.ll 60 u1 (PL u1 u2 u3 u0))<| .r<| .e (.next (SB u1 u2 u3 u0)))))
  (.e (.done (.brk (u1,u2)))))
  (fun(u9,u4)=> .r<| .lp (σ:=((List af) × Int)) (β:=(List af)) (u9,0) [] [] ⟨[3,5,8,76,77],[57,58,61],fun(u5,u7)=>[(7,(vO 60 false u5.length)),(78,(vI u7))],fun(u5,u7)=>(R3 u5)⟩ ⟨[],[],fun u8=>[(7,(vO 60 false u8.length))],fun u8=>(R3 u8)⟩
  (fun(u5,u7)=> .r<| .it (.a1 (PG u7 p)<| .rg {fr:=[(3,106)],fz:=[106]} []<| .a3 (Qo s_ u7) (QZ s_ u7) (QK s_ u7 p)<| .rg {} [0,1,2]<| .it (.cr 4 (oC [(0,57)] (aP v0 (Mi u7 p))) fun u6=> .rg {an:=[(5, .look (aM bB u6 u4).isSome (zC u4 u6))]} [0, .pf ⟨fB [some .i64] 1 1 u4.length (pJ (aH .i64) u4) (qp (aH .i64) u4) [(.int .i64 u6)] [(.d (.int .i64 0))] (aM bB u6 u4).isSome (zC u4 u6),dA (fun _=>rfl) (fun _ _=>rfl) u4 u6 0 rfl rfl rfl⟩]<| .a3 (Ow u5 u4 u6) (Sz u5 u7 u6 u4) (Oa u5 u7 u6 u4)<| .rg {an:=[(6, .take 107),(8, .arr [u7].length (aB (aH .i64) [u7])),(9, .arr (zA u5 u7 u6 u4).length (DR u5 u7 u6 u4)),(12, .rows 0 (Ff u5 u7 u6 u4))],fr:=[(8,108),(9,109)]} [0, .t 0 (qA u4 u6) u5.length, .pf ⟨[u7].length=1,rfl⟩, .pf ⟨aJ 1 1 (Jw u7) (aB (aH .i64) [u7]),(by intro i hi j hj;match i,j,hi,hj with|0,0,_,_=>rfl)⟩, .e (MR u5 u6 u4),1,2, .pf ⟨(zA u5 u7 u6 u4).length=(zb u5 u6 u4).length+[u7].length,List.length_append⟩, .pf ⟨aJ (RD u5 u7 u6 u4) 1 (M9 u5 u7 u6 u4) (DR u5 u7 u6 u4),bH _ _ _ _⟩,0, .t 0 (qA u4 u6) u5.length, .e (NZ u5 u7 u6 u4), .pf ⟨xB u5.length 2 (NQ u5 u7 u6 u4) (Ff u5 u7 u6 u4),iV _ _ _ _ _ _ _ _ rfl (fun j hj=>(match j,hj with|0,_=>rfl|1,_=>rfl))⟩, .pf ⟨∀i0 j0 c0,(QL u5 u6 u4)=some (i0,j0,c0)→i0=(qA u4 u6).toNat∧j0=1,(fun i0 j0 c0 e=>by cases e;exact⟨rfl,rfl⟩)⟩]<| .im (.ll 60 u5 (JQ u5 u7 u6 u4))<| .r<| .e (.next (MP u5 u7 u6 u4)))
  (.r<| .e (.next (Js u5 u7))))
  (.e (.done (.brk u5))))
  (fun u8=> .r<| .fz [60]<| .im (.us 4 (vD (.sl none 2 u8.length (fun i j=>PX (lT af.ev u8 i j)))) (vD (aX none 2 af.cell u8)) (xR.v (xS.one (o8.d (mM.sl (.inr rfl) (fun i _ j hj=>match j,hj with|0,_=> .refl _|1,_=> .refl _))))))<| .e u8)))
section
variable (p:ai) (u1:(List af)) (u0:Int) (u3:Int) (u2:(List Bool)) (u6:(List Bool))
abbrev NY:=((1:Int)*p.buses≤281474976710656)
abbrev Nl:=((p.buses:Int)≤9223372036854775807)
abbrev tK:=(List.replicate p.buses.toNat (false:Bool))
abbrev Dy:=(aB aj (tK p))
abbrev JG:=(at' ((at' u1 u0.toNat).buses) u3.toNat)
abbrev QM:=((0:Int)≤(JG u1 u0 u3)∧(JG u1 u0 u3)<(u2.length:Int))
abbrev Nu:=(u2.set ((JG u1 u0 u3).toNat) (decide (0<(((at' u1 u0.toNat).sources).length:Int))))
abbrev Mv:=(aB aj (Nu u1 u0 u3 u2))
abbrev QS:=(oh (aB aj u2) ((JG u1 u0 u3).toNat) 0 [(.bool (decide (0<(((at' u1 u0.toNat).sources).length:Int))))])
abbrev QN:=((Nu u1 u0 u3 u2),(k3 u3))
abbrev J4:=(u6,(k3 u0))
end
theorem qM (p:ai) (s_:State):fP Tryz.prog 16 (k23 s_ p) [] (fun r=>(.iG [(sD (aX none 1 aj r.1)),(sI r.2)])) (fun _=>[]) (dR p s_):=
  iC tT mX Tryz.func16 (
  .rg {fr:=[(0,7),(1,8)],fz:=[7,8]} []<| .cl 2 (bO p s_) fun r_=> .r<| .r<| .it (.r<| .e (([]:List Bool),r_))
  (.a3 ((0:Int)≤p.buses) (NY p) (Nl p)<| .rg {an:=[(2, .arr (tK p).length (Dy p))],fr:=[(2,9)]} [0, .e ((p.buses:Int)),1,2, .pf ⟨(tK p).length=p.buses.toNat,List.length_replicate⟩, .pf ⟨aJ p.buses.toNat 1 (fun _ j=>[(.bool false)].getD j .nilp) (Dy p),pQ _ _ _ _ _ (fun j hj=>(match j,hj with|0,_=>rfl))⟩]<| .cl 2 (lV p s_) fun u1=> .r<| .lp (σ:=((List Bool) × Int)) (β:=(List Bool)) ((tK p),0) [] [] ⟨[23,24],[],fun(u4,u0)=>[(7,(vO 9 true u4.length)),(25,(vI u0))],fun(u4,u0)=>[(9,some (eT 4 1 aj u4))]⟩ ⟨[],[],fun u5=>[(7,(vO 9 true u5.length))],fun u5=>[(9,some (eT 4 1 aj u5))]⟩
  (fun(u4,u0)=> .r<| .it (.a1 (LX u0 u1)<| .rg {fr:=[(2,13)]} []<| .rg {fz:=[13]} []<| .lp (σ:=((List Bool) × Int)) (β:=(List Bool)) (u4,0) [] [] ⟨[9,23,24,25,30,31],[],fun(u2,u3)=>[(7,(vO 9 true u2.length)),(32,(vI u3))],fun(u2,u3)=>[(9,some (eT 4 1 aj u2))]⟩ ⟨[23,24,25],[],fun u6=>[(7,(vO 9 true u6.length))],fun u6=>[(9,some (eT 4 1 aj u6))]⟩
  (fun(u2,u3)=> .r<| .it (.a1 ((0:Int)≤u3∧u3<(((at' u1 u0.toNat).buses).length:Int))<| .r<| .a1 (QM u1 u0 u3 u2)<| .rg {an:=[(7, .arr 0 (Mv u1 u0 u3 u2))]} [0, .t 0 (JG u1 u0 u3) u2.length, .pf ⟨aJ u2.length 1 (QS u1 u0 u3 u2) (Mv u1 u0 u3 u2),eY _ _ _ _ _ _ _ _ rfl (fun j hj=>(match j,hj with|0,_=>rfl))⟩]<| .im (.ll 9 u2 (Nu u1 u0 u3 u2))<| .r<| .e (.next (QN u1 u0 u3 u2)))
  (.e (.done (.brk u2))))
  (fun u6=> .r<| .e (.next (J4 u0 u6))))
  (.e (.done (.brk u4))))
  (fun u5=> .rg {fz:=[9]} []<| .e (u5,0))))
section
variable (u0:Int) (p:ai) (r_:((List Bool) × Int)) (u1:(List av))
abbrev NC:=((0:Int)≤u0∧u0<(p.racks.length:Int))
abbrev mR:=((at' p.racks u0.toNat).feeds)
abbrev N8:List DV:=[(.int .i64 ((mR u0 p).e0))]
abbrev F5:List CV:=[(cI ((mR u0 p).e0)),(cI ((mR u0 p).e1))]
abbrev Qx:=((gB [((decide (0≤((mR u0 p).e0))),true)]=true→(0:Int)≤(mR u0 p).e0∧(mR u0 p).e0<(r_.1.length:Int)))
abbrev Nr:List DV:=[(.int .i64 ((mR u0 p).e1))]
abbrev QE:=((gB [((decide (0≤((mR u0 p).e1))),true)]=true→(0:Int)≤(mR u0 p).e1∧(mR u0 p).e1<(r_.1.length:Int)))
abbrev QA:=(bif (decide (0≤((mR u0 p).e0)))then(at' r_.1 (((mR u0 p).e0).toNat))else false)
abbrev Rc:=(bif (decide (0≤((mR u0 p).e1)))then(at' r_.1 (((mR u0 p).e1).toNat))else false)
abbrev BK:=(⟨(QA u0 p r_),(Rc u0 p r_)⟩:av)
abbrev OU:=(u1.length+[(BK u0 p r_)].length)
abbrev Qp:=((OU u0 p r_ u1)*2≤140737488355328)
abbrev RF:=(u1.length+[(BK u0 p r_)].length≤4611686018427387904)
abbrev K8:=(aB av.cell [(BK u0 p r_)])
abbrev J5:=(u1++[(BK u0 p r_)])
abbrev N7:=(aB av.cell (J5 u0 p r_ u1))
abbrev Rv:=(jZ 2 [(.bool (QA u0 p r_)),(.bool (Rc u0 p r_))])
abbrev P7:=(rR (aB av.cell u1) u1.length (K8 u0 p r_))
abbrev Ra:=((J5 u0 p r_ u1),(k3 u0))
end
theorem sM (p:ai) (s_:State):fP Tryz.prog 19 (k23 s_ p) [] (fun r=>(.iG [(sD (aX none 2 av.cell r.1)),(sI r.2)])) (fun _=>[]) (jC p s_):=
  iC tT mX Tryz.func19 (
  .rg {fr:=[(0,18),(1,19)],fz:=[19]} []<| .cl 2 (qM p s_) fun r_=> .r<| .r<| .it (.r<| .e (([]:List av),r_.2))
  (.r<| .r<| .im (.ad 8 36 75 2 (aB av.cell ([]:List av)))<| .lp (σ:=((List av) × Int)) (β:=(List av)) (([]:List av),0) [] [(36,23)] ⟨[6,24,25],[],fun(u1,u0)=>[(8,(vO 23 false u1.length)),(26,(vI u0))],fun(u1,u0)=>[(23,some (eT 75 2 av.cell u1))]⟩ ⟨[],[],fun u2=>[(8,(vO 23 false u2.length))],fun u2=>[(23,some (eT 75 2 av.cell u2))]⟩
  (fun(u1,u0)=> .r<| .it (.a1 (NC u0 p)<| .rg {fr:=[(2,32)],fz:=[32]} []<| .rg {fr:=[(0,33)]} []<| .r<| .ul 11<| .r<| .t<| .rg {an:=[(1, .vals (N8 u0 p))]} [.pf ⟨(0:Int)≤0∧(0:Int)<(2:Nat),(by decide)⟩, .pf ⟨0*1+1≤(F5 u0 p).length,Nat.le_of_ble_eq_true rfl⟩, .pf ⟨((F5 u0 p).drop (0*1)).take 1=(N8 u0 p).map .d,rfl⟩]<| .a1 (Qx u0 p r_)<| .rg {} [0, .pf ⟨(0:Int)≤0∧(0:Int)<(2:Nat),(by decide)⟩]<| .r<| .im (.dp [6,8,11,24,25,26,31,32])<| .r<| .t<| .rg {an:=[(1, .vals (Nr u0 p))]} [.pf ⟨(0:Int)≤1∧(1:Int)<(2:Nat),(by decide)⟩, .pf ⟨1*1+1≤(F5 u0 p).length,Nat.le_of_ble_eq_true rfl⟩, .pf ⟨((F5 u0 p).drop (1*1)).take 1=(Nr u0 p).map .d,rfl⟩]<| .a1 (QE u0 p r_)<| .rg {} [0, .pf ⟨(0:Int)≤1∧(1:Int)<(2:Nat),(by decide)⟩]<| .r<| .im (.dp [6,8,11,24,25,26,31,32])<| .r<| .f<| .a2 (Qp u0 p r_ u1) (RF u0 p r_ u1)<| .rg {an:=[(2, .arr [(BK u0 p r_)].length (K8 u0 p r_)),(3, .arr (J5 u0 p r_ u1).length (N7 u0 p r_ u1))],fr:=[(2,34),(3,35)]} [.pf ⟨[(BK u0 p r_)].length=1,rfl⟩, .pf ⟨aJ 1 2 (Rv u0 p r_) (K8 u0 p r_),(by intro i hi j hj;match i,j,hi,hj with|0,0,_,_=>rfl|0,1,_,_=>rfl)⟩, .e (u1.length),0,1, .pf ⟨(J5 u0 p r_ u1).length=u1.length+[(BK u0 p r_)].length,List.length_append⟩, .pf ⟨aJ (OU u0 p r_ u1) 2 (P7 u0 p r_ u1) (N7 u0 p r_ u1),bH _ _ _ _⟩]<| .r<| .en (.next (Ra u0 p r_ u1)) [] [(35,23)])
  (.e (.done (.brk u1))))
  (fun u2=> .rg {fz:=[23]} []<| .e (u2,0))))
theorem gL (x y:ah):Go.Proofs.ltOf aL x y=true↔x.e0<y.e0∨ ¬ y.e0<x.e0∧x.e1<y.e1:=by
 unfold Go.Proofs.ltOf aL;rw [decide_eq_true_iff]
 by_cases h0:x.e0<y.e0<;>by_cases g0:y.e0<x.e0<;>by_cases h1:x.e1<y.e1<;>by_cases g1:y.e1<x.e1<;>simp [h0,g0,h1,g1]
theorem qZ:Go.Sort.SWO (Go.Proofs.ltOf aL) where
 irrefl x:=by rw [←Bool.not_eq_true,gL];omega
 trans x y z h1 h2:=by rw [gL]at*;omega
 ntrans x y z h1 h2:=by rw [←Bool.not_eq_true,gL]at*;omega
theorem rP (x y:ah) (h1:(Go.Proofs.ltOf aL) x y=false) (h2:(Go.Proofs.ltOf aL) y x=false):x=y:=by
 rw [←Bool.not_eq_true,gL]at h1 h2
 obtain⟨a,b⟩:=x
 obtain⟨c,d⟩:=y
 have e1:a=c:=by simp only at h1 h2;omega
 have e2:b=d:=by simp only at h1 h2;omega
 rw [e1,e2]
theorem sG (s:(List ah)) {r:(List ah)} (h:gG s=some r):Fn Tryz.prog 54 [(.one (.own 0 false s.length)),(sD (.fn 55 0 (xq [])))] [(0,some (.arr 79 2 s.length (aB ah.cell s)))] (.iG []) [(0,some (.arr 79 2 r.length (aB ah.cell r)))]:=
 OC KE 2 Nn K3 (fun x:ah=>[.int .i64 x.e0, .int .i64 x.e1]) (fun _=>rfl) (fun x v hv=>by simp at hv;rcases hv with rfl|rfl<;>rfl) aL qZ rP
  (Io (fun x:ah=>[.int .i64 x.e0, .int .i64 x.e1]) (fun x=>x.e0) (fun x=>x.e1) (fun _=>rfl)) (enters_of Tryz.func55 (by kernel_rfl) rfl)
  (fun F w x j hj v=>match j,hj with|0,_=>Iff.rfl|1,_=>Iff.rfl) 54 rfl ⟨_,Tryz.func54,rfl,rfl⟩ s (by cases s with|nil=>(cases h;simp)|cons x xs=>exact h)
section
variable (u6:(List ah)) (u2:(List af)) (u0:Int) (u1:Int) (u3:Int) (u4:(List ah))
abbrev Jg:List (Nat × Option Ob):=[(138,some (eT 79 2 ah.cell u6))]
abbrev Pm:=(((at' u2 u0.toNat).sources).drop ((k3 u1).toNat))
abbrev EW:=(at' ((at' u2 u0.toNat).sources) u1.toNat)
abbrev M8:=(at' (Pm u2 u0 u1) u3.toNat)
abbrev Ho:=(⟨(EW u2 u0 u1),(M8 u2 u0 u1 u3)⟩:ah)
abbrev Qv:=(u4.length+[(Ho u2 u0 u1 u3)].length)
abbrev O0:=(aB ah.cell [(Ho u2 u0 u1 u3)])
abbrev MS:=(u4++[(Ho u2 u0 u1 u3)])
abbrev QC:=(aB ah.cell (MS u2 u0 u1 u3 u4))
abbrev Jo:=(u4,(k3 u3))
end
theorem om (p:ai) (s_:State):fP Tryz.prog 22 (k23 s_ p) [] (fun r=>(.iG [(sD (aX none 2 ah.cell r.1)),(sI r.2)])) (fun _=>[]) (dV p s_):=
  iC tT mX Tryz.func22 (
  .rg {fr:=[(0,134),(1,135)],fz:=[134,135]} []<| .cl 2 (bO p s_) fun r_=> .r<| .r<| .it (.r<| .e (([]:List ah),r_))
  (.r<| .cl 2 (lV p s_) fun u2=> .r<| .im (.ad 7 268 79 2 (aB ah.cell ([]:List ah)))<| .lp (σ:=((List ah) × Int)) (β:=(List ah)) (([]:List ah),0) [] [(268,138)] ⟨[2,22,23],[],fun(u6,u0)=>[(7,(vO 138 false u6.length)),(24,(vI u0))],fun(u6,u0)=>(Jg u6)⟩ ⟨[],[],fun u5=>[(7,(vO 138 false u5.length))],fun u5=>(Jg u5)⟩
  (fun(u6,u0)=> .r<| .it (.a1 (LX u0 u2)<| .rg {fr:=[(2,235)],fz:=[235]} []<| .r<| .lp (σ:=((List ah) × Int)) (β:=(List ah)) (u6,0) [] [] ⟨[2,9,22,23,24,29,30],[],fun(u7,u1)=>[(7,(vO 138 false u7.length)),(31,(vI u1))],fun(u7,u1)=>(Jg u7)⟩ ⟨[2,22,23,24],[],fun u8=>[(7,(vO 138 false u8.length))],fun u8=>(Jg u8)⟩
  (fun(u7,u1)=> .r<| .it (.a1 ((0:Int)≤u1∧u1<(((at' u2 u0.toNat).sources).length:Int))<| .r<| .a1 ((0:Int)≤(k3 u1)∧(k3 u1)≤(((at' u2 u0.toNat).sources).length:Int))<| .r<| .im (.us 40 (vD (.sl none 1 (((at' u2 u0.toNat).sources).length - ((k3 u1).toNat)) (fun iq jq=>aB (aH .i64) ((at' u2 u0.toNat).sources) (iq+((k3 u1).toNat)) jq))) (vD (aX none 1 (aH .i64) (Pm u2 u0 u1))) (xR.v (xS.one (o8.d (mM.TG (by first|rw [List.length_append,List.length_drop]|simp only [List.length_set,List.length_drop,FL]) (.inr rfl) (Px _ _ _ _))))))<| .lp (σ:=((List ah) × Int)) (β:=(List ah)) (u7,0) [] [] ⟨[2,9,11,22,23,24,29,30,31,40,41],[],fun(u4,u3)=>[(7,(vO 138 false u4.length)),(42,(vI u3))],fun(u4,u3)=>(Jg u4)⟩ ⟨[2,9,22,23,24,29,30,31],[],fun u9=>[(7,(vO 138 false u9.length))],fun u9=>(Jg u9)⟩
  (fun(u4,u3)=> .r<| .it (.a1 ((0:Int)≤u3∧u3<((Pm u2 u0 u1).length:Int))<| .r<| .a3 ((0:Int)≤(EW u2 u0 u1)∧(EW u2 u0 u1)<(p.sources.length:Int)) ((gB [((decide (((at' p.sources ((EW u2 u0 u1).toNat)).sync)=0)),false)]=true→(0:Int)≤(EW u2 u0 u1)∧(EW u2 u0 u1)<(p.sources.length:Int))) ((gB [((decide (((at' p.sources ((EW u2 u0 u1).toNat)).sync)=0)),false)]=true→(0:Int)≤(M8 u2 u0 u1 u3)∧(M8 u2 u0 u1 u3)<(p.sources.length:Int)))<| .rg {} [0,1,2]<| .it (.a2 ((Qv u2 u0 u1 u3 u4)*16≤140737488355328) (u4.length+[(Ho u2 u0 u1 u3)].length≤4611686018427387904)<| .rg {an:=[(4, .arr [(Ho u2 u0 u1 u3)].length (O0 u2 u0 u1 u3)),(5, .arr (MS u2 u0 u1 u3 u4).length (QC u2 u0 u1 u3 u4))],fr:=[(4,266),(5,267)]} [.pf ⟨[(Ho u2 u0 u1 u3)].length=1,rfl⟩, .pf ⟨aJ 1 2 (jZ 2 [(.int .i64 (EW u2 u0 u1)),(.int .i64 (M8 u2 u0 u1 u3))]) (O0 u2 u0 u1 u3),(by intro i hi j hj;match i,j,hi,hj with|0,0,_,_=>rfl|0,1,_,_=>rfl)⟩, .e (u4.length),0,1, .pf ⟨(MS u2 u0 u1 u3 u4).length=u4.length+[(Ho u2 u0 u1 u3)].length,List.length_append⟩, .pf ⟨aJ (Qv u2 u0 u1 u3 u4) 2 (rR (aB ah.cell u4) u4.length (O0 u2 u0 u1 u3)) (QC u2 u0 u1 u3 u4),bH _ _ _ _⟩]<| .r<| .en (.next ((MS u2 u0 u1 u3 u4),(k3 u3))) [] [(267,138)])
  (.r<| .e (.next (Jo u3 u4))))
  (.e (.done (.brk u4))))
  (fun u9=> .r<| .e (.next (Jo u1 u9))))
  (.e (.done (.brk u7))))
  (fun u8=> .r<| .e (.next (Jo u0 u8))))
  (.e (.done (.brk u6))))
  (fun u5=> .cl 1 (oC [(0,138)] ⟨fun h=>sG u5 h⟩) fun v0=> .r<| .a1 (u5.length=v0.length)<| .so 7 138 false u5.length v0.length 0<| .so 77 138 false u5.length v0.length 0<| .fz [138]<| .r<| .e (v0,0))))
theorem mI (a:(List ah)) (b:(List ah)):fP Tryz.prog 24 [(sD (aX none 2 ah.cell a)),(sD (aX none 2 ah.cell b))] [] (fun r=>(vB r)) (fun _=>[]) (gm a b):=
  iC tT mX Tryz.func24 (
  .r<| .r<| .it (.r<| .e false)
  (.r<| .lp (σ:=Int) (β:=Unit) (0) [] [] ⟨[0,1],[],fun i=>[(5,(vI i))],fun i=>[]⟩ ⟨[],[],fun _=>[],fun _=>[]⟩
  (fun i=> .r<| .it (.a2 ((0:Int)≤i∧i<(a.length:Int)) ((0:Int)≤i∧i<(b.length:Int))<| .rg {} [0,1]<| .it (.r<| .e (.done (.ret false)))
  (.r<| .e (.next (k3 i))))
  (.e (.done (.brk ()))))
  (fun _=> .r<| .e true)))
section
variable (n:Int)
abbrev Le:=(List.replicate n.toNat (false:Bool))
end
theorem bW (n:Int):fP Tryz.prog 61 [(sI n)] [] (fun r=>(vO 0 true r.length)) (fun r=>[(0,some (eT 4 1 aj r))]) (cK n):=
  iC tT mX Tryz.func61 (
  .r<| .a3 ((0:Int)≤n) ((1:Int)*n≤281474976710656) ((n:Int)≤9223372036854775807)<| .rg {an:=[(1, .arr (Le n).length (aB aj (Le n)))],fr:=[(1,1)]} [0, .e ((n:Int)),1,2, .pf ⟨(Le n).length=n.toNat,List.length_replicate⟩, .pf ⟨aJ n.toNat 1 (fun _ j=>[(.bool false)].getD j .nilp) (aB aj (Le n)),pQ _ _ _ _ _ (fun j hj=>(match j,hj with|0,_=>rfl))⟩]<| .en (Le n) [] [(1,0)])
theorem mH (s_:(List Bool)) (u0:Bool):fP Tryz.prog 112 [(sD (aX (some u0) 1 aj s_))] [] (fun r=>(vO 0 false r.length)) (fun r=>[(0,some (eT 4 1 aj r))]) (sU s_ u0):=
  iC tT mX Tryz.func112 (
  .r<| .r<| .it (.r<| .im (.ad 2 2 4 1 (aB aj ([]:List Bool)))<| .en ([]:List Bool) [] [(2,0)])
  (.a2 ((([]:List Bool).length+s_.length)*1≤140737488355328) (([]:List Bool).length+s_.length≤4611686018427387904)<| .rg {an:=[(0, .arr ([]:List Bool).length (aB aj ([]:List Bool))),(2, .arr (([]:List Bool)++s_).length (aB aj (([]:List Bool)++s_)))],fr:=[(0,3),(2,4)]} [.pf ⟨([]:List Bool).length=0,rfl⟩, .pf ⟨aJ 0 1 (jZ 1 []) (aB aj ([]:List Bool)),(fun i hi=>absurd hi (Nat.not_lt_zero i))⟩, .e (([]:List Bool).length),0,1, .pf ⟨(([]:List Bool)++s_).length=([]:List Bool).length+s_.length,List.length_append⟩, .pf ⟨aJ (([]:List Bool).length+s_.length) 1 (rR (aB aj ([]:List Bool)) ([]:List Bool).length (aB aj s_)) (aB aj (([]:List Bool)++s_)),bH _ _ _ _⟩]<| .en (([]:List Bool)++s_) [] [(4,0)]))
theorem bJ (s:(List Bool)) {r:(List Bool)} (h:dD s=some r):Fn Tryz.prog 112 [(sD (aX none 1 aj s))] [] (vO 0 false r.length) [(0,some (eT 4 1 aj r))]:=by
 refine Fn.nn (mH s true h) fun hl=> ?_
 have hs:s=[]:=List.eq_nil_of_length_eq_zero hl
 subst hs
 exact mH [] false (by rw [←h];kernel_rfl)
section
variable (s_:State)
abbrev RN:List SV:=[(.agg (k24 s_))]
end
theorem tJ (s_:State):fP Tryz.prog 92 (RN s_) [] (fun r=>(.v (.agg [(.own 0 false r.closed.length),(.own 1 false r.locked.length),(.own 2 false r.badLink.length),(.own 3 false r.on_.length),(.own 4 false r.badSource.length),(.own 5 false r.earthed.length),(.own 6 false r.badBus.length)]))) (fun r=>[(0,some (eT 4 1 aj r.closed)),(1,some (eT 4 1 aj r.locked)),(2,some (eT 4 1 aj r.badLink)),(3,some (eT 4 1 aj r.on_)),(4,some (eT 4 1 aj r.badSource)),(5,some (eT 4 1 aj r.earthed)),(6,some (eT 4 1 aj r.badBus)),(7,none)]) (rW s_):=
  iC tT mX Tryz.func92 (
  .rg {fr:=[(0,10),(1,11)]} []<| .rg {an:=[(7, .cells)],fr:=[(7,12)]} []<| .ul 11<| .r<| .t<| .a1 ((0:Int)≤0∧0<(7:Int))<| .r<| .cl 4 (oC [(0,13)] ⟨fun h=>bJ s_.closed h⟩) fun r_=> .r<| .r<| .im (.dp [1,2,12,13,14])<| .r<| .t<| .a1 ((0:Int)≤1∧1<(7:Int))<| .r<| .cl 4 (oC [(0,14)] ⟨fun h=>bJ s_.locked h⟩) fun u0=> .r<| .r<| .im (.dp [1,2,12,13,14])<| .r<| .t<| .a1 ((0:Int)≤2∧2<(7:Int))<| .r<| .cl 4 (oC [(0,15)] ⟨fun h=>bJ s_.badLink h⟩) fun u1=> .r<| .r<| .im (.dp [1,2,12,13,14])<| .r<| .t<| .a1 ((0:Int)≤3∧3<(7:Int))<| .r<| .cl 4 (oC [(0,16)] ⟨fun h=>bJ s_.on_ h⟩) fun u2=> .r<| .r<| .im (.dp [1,2,12,13,14])<| .r<| .t<| .a1 ((0:Int)≤4∧4<(7:Int))<| .r<| .cl 4 (oC [(0,17)] ⟨fun h=>bJ s_.badSource h⟩) fun u3=> .r<| .r<| .im (.dp [1,2,12,13,14])<| .r<| .t<| .a1 ((0:Int)≤5∧5<(7:Int))<| .r<| .cl 4 (oC [(0,18)] ⟨fun h=>bJ s_.earthed h⟩) fun u4=> .r<| .r<| .im (.dp [1,2,12,13,14])<| .r<| .t<| .a1 ((0:Int)≤6∧6<(7:Int))<| .r<| .cl 4 (oC [(0,19)] ⟨fun h=>bJ s_.badBus h⟩) fun u5=> .r<| .r<| .im (.dp [1,2,12,13,14])<| .r<| .f<| .r<| .en (⟨r_,u0,u1,u2,u3,u4,u5⟩:State) [] [(13,0),(14,1),(15,2),(16,3),(17,4),(18,5),(19,6),(11,7)])
section
variable (r_:Int) (u0:State)
abbrev Qa:=((⟨([]:List Bool),([]:List Bool),([]:List Bool),([]:List Bool),([]:List Bool),([]:List Bool),([]:List Bool)⟩:State),r_)
abbrev GA:List CV:=[(.own 23 false u0.badBus.length)]
abbrev zh:=(LF 1 (GA u0))
abbrev yj:List DV:=[(.int .i64 1),(.int .i64 2)]
abbrev zf:=(LF 1 [(.own 23 false u0.badBus.length),(.own 21 false u0.badSource.length)])
abbrev zq:List DV:=[(.int .i64 1),(.int .i64 2),(.int .i64 3)]
abbrev zi:=(LF 1 [(.own 23 false u0.badBus.length),(.own 21 false u0.badSource.length),(.own 19 false u0.badLink.length)])
abbrev JF:List CV:=[(.own 21 false u0.badSource.length)]
abbrev JE:List CV:=[(.own 19 false u0.badLink.length)]
end
theorem xN (p:ai) (s_:State) (x:Part) (is:Bool):fP Tryz.prog 62 [(.agg (k1 p)),(.agg (k24 s_)),(.agg [(cI x.kind),(cI x.index)]),(sB is)] [] (fun r=>(.iG [(.agg [(.d (aX none 1 aj r.1.closed)),(.d (aX none 1 aj r.1.locked)),(.d (aX none 1 aj r.1.badLink)),(.d (aX none 1 aj r.1.on_)),(.d (aX none 1 aj r.1.badSource)),(.d (aX none 1 aj r.1.earthed)),(.d (aX none 1 aj r.1.badBus))]),(sI r.2)])) (fun _=>[]) (tH p s_ x is):=
  iC tT mX Tryz.func62 (
  .rg {fr:=[(0,13),(1,14),(2,15),(3,16)],fz:=[13]} []<| .cl 2 (bO p s_) fun r_=> .r<| .r<| .it (.rg {fz:=[16]} []<| .e (Qa r_))
  (.cl 1 (oC [(0,17),(1,18),(2,19),(3,20),(4,21),(5,22),(6,23),(7,24)] (tJ s_)) fun u0=> .r<| .fk (bB x.kind 1) (.rg {an:=[(0, .map 0 (oO []) (LF 1 []) []),(3, .map 1 (oO [(.int .i64 1)]) (zh u0) [23]),(6, .map 2 (oO yj) (zf u0) [23,21]),(9, .map 3 (oO zq) (zi u0) [23,21,19]),(13, .look true (GA u0))],fr:=[(0,25)]} [.pf ⟨lI [some .i64] 1 1 0 (oO []) (LF 1 []) [(.int .i64 1)] (GA u0) [23] 1 (oO [(.int .i64 1)]) (zh u0),⟨(fun i hi=>absurd hi (Nat.not_lt_zero i)),(by intro i hi j hj;match i,j,hi,hj with|0,0,_,_=>exact aY.1 (show dH (CV.bg (.own 23 false u0.badBus.length)) [23]=true from by kernel_rfl)),0,(fun i hi=>absurd hi (Nat.not_lt_zero i)), .inr ⟨rfl,rfl⟩,rfl,rfl,(fun i hi=>absurd hi (Nat.not_lt_zero i))⟩⟩, .pf ⟨lI [some .i64] 1 1 1 (oO [(.int .i64 1)]) (zh u0) [(.int .i64 2)] (JF u0) [23,21] 2 (oO yj) (zf u0),⟨(by intro i hi;match i,hi with|0,_=>rfl),(by intro i hi j hj;match i,j,hi,hj with|0,0,_,_=>exact aY.1 (show dH (CV.bg (.own 23 false u0.badBus.length)) [23,21]=true from by kernel_rfl)|1,0,_,_=>exact aY.1 (show dH (CV.bg (.own 21 false u0.badSource.length)) [23,21]=true from by kernel_rfl)),1,(by intro i hi;match i,hi with|0,_=>rfl), .inr ⟨rfl,rfl⟩,rfl,rfl,(by intro i hi;match i,hi with|0,_=>exact fun _=> ⟨rfl,rfl⟩)⟩⟩, .pf ⟨lI [some .i64] 1 1 2 (oO yj) (zf u0) [(.int .i64 3)] (JE u0) [23,21,19] 3 (oO zq) (zi u0),⟨(by intro i hi;match i,hi with|0,_=>rfl|1,_=>rfl),(by intro i hi j hj;match i,j,hi,hj with|0,0,_,_=>exact aY.1 (show dH (CV.bg (.own 23 false u0.badBus.length)) [23,21,19]=true from by kernel_rfl)|1,0,_,_=>exact aY.1 (show dH (CV.bg (.own 21 false u0.badSource.length)) [23,21,19]=true from by kernel_rfl)|2,0,_,_=>exact aY.1 (show dH (CV.bg (.own 19 false u0.badLink.length)) [23,21,19]=true from by kernel_rfl)),2,(by intro i hi;match i,hi with|0,_=>rfl|1,_=>rfl), .inr ⟨rfl,rfl⟩,rfl,rfl,(by intro i hi;match i,hi with|0,_=>exact fun _=> ⟨rfl,rfl⟩|1,_=>exact fun _=> ⟨rfl,rfl⟩)⟩⟩, .m [0] [(bB x.kind 1)=true] (fB [some .i64] 1 1 3 (oO zq) (zi u0) [(.int .i64 x.kind)] [(.d nS)] true (GA u0)) (fun⟨hb1,_⟩=> ⟨(by intro i hi;match i,hi with|0,_=>rfl|1,_=>rfl|2,_=>rfl), .inl ⟨rfl,0,by decide,congrArg some hb1,(fun i hi=>absurd hi (Nat.not_lt_zero i)),rfl⟩⟩)]<| .cl 5 (aG x.index 0 (IntKind.wrap .i64 ((u0.badBus.length:Int) - 1))) fun u1=> .r<| .it (.rg {fz:=[16]} []<| .e ((⟨([]:List Bool),([]:List Bool),([]:List Bool),([]:List Bool),([]:List Bool),([]:List Bool),([]:List Bool)⟩:State),14))
  (.a1 ((0:Int)≤x.index∧x.index<(u0.badBus.length:Int))<| .rg {an:=[(5, .arr 0 (aB aj (u0.badBus.set x.index.toNat is)))]} [0, .t 0 x.index u0.badBus.length, .pf ⟨aJ u0.badBus.length 1 (oh (aB aj u0.badBus) x.index.toNat 0 [(.bool is)]) (aB aj (u0.badBus.set x.index.toNat is)),eY _ _ _ _ _ _ _ _ rfl (fun j hj=>(match j,hj with|0,_=>rfl))⟩]<| .im (.ll 23 u0.badBus (u0.badBus.set x.index.toNat is))<| .rg {fz:=[17,18,19,20,21,22,23]} []<| .fz [16]<| .e ((⟨u0.closed,u0.locked,u0.badLink,u0.on_,u0.badSource,u0.earthed,(u0.badBus.set x.index.toNat is)⟩:State),0)))
  (.fk (bB x.kind 2) (.rg {an:=[(0, .map 0 (oO []) (LF 1 []) []),(3, .map 1 (oO [(.int .i64 1)]) (zh u0) [23]),(6, .map 2 (oO yj) (zf u0) [23,21]),(9, .map 3 (oO zq) (zi u0) [23,21,19]),(13, .look true (JF u0))],fr:=[(0,25)]} [.pf ⟨lI [some .i64] 1 1 0 (oO []) (LF 1 []) [(.int .i64 1)] (GA u0) [23] 1 (oO [(.int .i64 1)]) (zh u0),⟨(fun i hi=>absurd hi (Nat.not_lt_zero i)),(by intro i hi j hj;match i,j,hi,hj with|0,0,_,_=>exact aY.1 (show dH (CV.bg (.own 23 false u0.badBus.length)) [23]=true from by kernel_rfl)),0,(fun i hi=>absurd hi (Nat.not_lt_zero i)), .inr ⟨rfl,rfl⟩,rfl,rfl,(fun i hi=>absurd hi (Nat.not_lt_zero i))⟩⟩, .pf ⟨lI [some .i64] 1 1 1 (oO [(.int .i64 1)]) (zh u0) [(.int .i64 2)] (JF u0) [23,21] 2 (oO yj) (zf u0),⟨(by intro i hi;match i,hi with|0,_=>rfl),(by intro i hi j hj;match i,j,hi,hj with|0,0,_,_=>exact aY.1 (show dH (CV.bg (.own 23 false u0.badBus.length)) [23,21]=true from by kernel_rfl)|1,0,_,_=>exact aY.1 (show dH (CV.bg (.own 21 false u0.badSource.length)) [23,21]=true from by kernel_rfl)),1,(by intro i hi;match i,hi with|0,_=>rfl), .inr ⟨rfl,rfl⟩,rfl,rfl,(by intro i hi;match i,hi with|0,_=>exact fun _=> ⟨rfl,rfl⟩)⟩⟩, .pf ⟨lI [some .i64] 1 1 2 (oO yj) (zf u0) [(.int .i64 3)] (JE u0) [23,21,19] 3 (oO zq) (zi u0),⟨(by intro i hi;match i,hi with|0,_=>rfl|1,_=>rfl),(by intro i hi j hj;match i,j,hi,hj with|0,0,_,_=>exact aY.1 (show dH (CV.bg (.own 23 false u0.badBus.length)) [23,21,19]=true from by kernel_rfl)|1,0,_,_=>exact aY.1 (show dH (CV.bg (.own 21 false u0.badSource.length)) [23,21,19]=true from by kernel_rfl)|2,0,_,_=>exact aY.1 (show dH (CV.bg (.own 19 false u0.badLink.length)) [23,21,19]=true from by kernel_rfl)),2,(by intro i hi;match i,hi with|0,_=>rfl|1,_=>rfl), .inr ⟨rfl,rfl⟩,rfl,rfl,(by intro i hi;match i,hi with|0,_=>exact fun _=> ⟨rfl,rfl⟩|1,_=>exact fun _=> ⟨rfl,rfl⟩)⟩⟩, .m [0,1] [(bB x.kind 2)=true,(bB x.kind 1)=false] (fB [some .i64] 1 1 3 (oO zq) (zi u0) [(.int .i64 x.kind)] [(.d nS)] true (JF u0)) (fun⟨hb3,hb1,_⟩=> ⟨(by intro i hi;match i,hi with|0,_=>rfl|1,_=>rfl|2,_=>rfl), .inl ⟨rfl,1,by decide,congrArg some hb3,(by intro i hi;match i,hi with|0,_=>exact congrArg some hb1),rfl⟩⟩)]<| .cl 5 (aG x.index 0 (IntKind.wrap .i64 ((u0.badSource.length:Int) - 1))) fun u2=> .r<| .it (.rg {fz:=[16]} []<| .e ((⟨([]:List Bool),([]:List Bool),([]:List Bool),([]:List Bool),([]:List Bool),([]:List Bool),([]:List Bool)⟩:State),14))
  (.a1 ((0:Int)≤x.index∧x.index<(u0.badSource.length:Int))<| .rg {an:=[(5, .arr 0 (aB aj (u0.badSource.set x.index.toNat is)))]} [0, .t 0 x.index u0.badSource.length, .pf ⟨aJ u0.badSource.length 1 (oh (aB aj u0.badSource) x.index.toNat 0 [(.bool is)]) (aB aj (u0.badSource.set x.index.toNat is)),eY _ _ _ _ _ _ _ _ rfl (fun j hj=>(match j,hj with|0,_=>rfl))⟩]<| .im (.ll 21 u0.badSource (u0.badSource.set x.index.toNat is))<| .rg {fz:=[17,18,19,20,21,22,23]} []<| .fz [16]<| .e ((⟨u0.closed,u0.locked,u0.badLink,u0.on_,(u0.badSource.set x.index.toNat is),u0.earthed,u0.badBus⟩:State),0)))
  (.fk (bB x.kind 3) (.rg {an:=[(0, .map 0 (oO []) (LF 1 []) []),(3, .map 1 (oO [(.int .i64 1)]) (zh u0) [23]),(6, .map 2 (oO yj) (zf u0) [23,21]),(9, .map 3 (oO zq) (zi u0) [23,21,19]),(13, .look true (JE u0))],fr:=[(0,25)]} [.pf ⟨lI [some .i64] 1 1 0 (oO []) (LF 1 []) [(.int .i64 1)] (GA u0) [23] 1 (oO [(.int .i64 1)]) (zh u0),⟨(fun i hi=>absurd hi (Nat.not_lt_zero i)),(by intro i hi j hj;match i,j,hi,hj with|0,0,_,_=>exact aY.1 (show dH (CV.bg (.own 23 false u0.badBus.length)) [23]=true from by kernel_rfl)),0,(fun i hi=>absurd hi (Nat.not_lt_zero i)), .inr ⟨rfl,rfl⟩,rfl,rfl,(fun i hi=>absurd hi (Nat.not_lt_zero i))⟩⟩, .pf ⟨lI [some .i64] 1 1 1 (oO [(.int .i64 1)]) (zh u0) [(.int .i64 2)] (JF u0) [23,21] 2 (oO yj) (zf u0),⟨(by intro i hi;match i,hi with|0,_=>rfl),(by intro i hi j hj;match i,j,hi,hj with|0,0,_,_=>exact aY.1 (show dH (CV.bg (.own 23 false u0.badBus.length)) [23,21]=true from by kernel_rfl)|1,0,_,_=>exact aY.1 (show dH (CV.bg (.own 21 false u0.badSource.length)) [23,21]=true from by kernel_rfl)),1,(by intro i hi;match i,hi with|0,_=>rfl), .inr ⟨rfl,rfl⟩,rfl,rfl,(by intro i hi;match i,hi with|0,_=>exact fun _=> ⟨rfl,rfl⟩)⟩⟩, .pf ⟨lI [some .i64] 1 1 2 (oO yj) (zf u0) [(.int .i64 3)] (JE u0) [23,21,19] 3 (oO zq) (zi u0),⟨(by intro i hi;match i,hi with|0,_=>rfl|1,_=>rfl),(by intro i hi j hj;match i,j,hi,hj with|0,0,_,_=>exact aY.1 (show dH (CV.bg (.own 23 false u0.badBus.length)) [23,21,19]=true from by kernel_rfl)|1,0,_,_=>exact aY.1 (show dH (CV.bg (.own 21 false u0.badSource.length)) [23,21,19]=true from by kernel_rfl)|2,0,_,_=>exact aY.1 (show dH (CV.bg (.own 19 false u0.badLink.length)) [23,21,19]=true from by kernel_rfl)),2,(by intro i hi;match i,hi with|0,_=>rfl|1,_=>rfl), .inr ⟨rfl,rfl⟩,rfl,rfl,(by intro i hi;match i,hi with|0,_=>exact fun _=> ⟨rfl,rfl⟩|1,_=>exact fun _=> ⟨rfl,rfl⟩)⟩⟩, .m [0,2,1] [(bB x.kind 3)=true,(bB x.kind 1)=false,(bB x.kind 2)=false] (fB [some .i64] 1 1 3 (oO zq) (zi u0) [(.int .i64 x.kind)] [(.d nS)] true (JE u0)) (fun⟨hb5,hb1,hb3,_⟩=> ⟨(by intro i hi;match i,hi with|0,_=>rfl|1,_=>rfl|2,_=>rfl), .inl ⟨rfl,2,by decide,congrArg some hb5,(by intro i hi;match i,hi with|0,_=>exact congrArg some hb1|1,_=>exact congrArg some hb3),rfl⟩⟩)]<| .cl 5 (aG x.index 0 (IntKind.wrap .i64 ((u0.badLink.length:Int) - 1))) fun u3=> .r<| .it (.rg {fz:=[16]} []<| .e ((⟨([]:List Bool),([]:List Bool),([]:List Bool),([]:List Bool),([]:List Bool),([]:List Bool),([]:List Bool)⟩:State),14))
  (.a1 ((0:Int)≤x.index∧x.index<(u0.badLink.length:Int))<| .rg {an:=[(5, .arr 0 (aB aj (u0.badLink.set x.index.toNat is)))]} [0, .t 0 x.index u0.badLink.length, .pf ⟨aJ u0.badLink.length 1 (oh (aB aj u0.badLink) x.index.toNat 0 [(.bool is)]) (aB aj (u0.badLink.set x.index.toNat is)),eY _ _ _ _ _ _ _ _ rfl (fun j hj=>(match j,hj with|0,_=>rfl))⟩]<| .im (.ll 19 u0.badLink (u0.badLink.set x.index.toNat is))<| .rg {fz:=[17,18,19,20,21,22,23]} []<| .fz [16]<| .e ((⟨u0.closed,u0.locked,(u0.badLink.set x.index.toNat is),u0.on_,u0.badSource,u0.earthed,u0.badBus⟩:State),0)))
  (.rg {an:=[(0, .map 0 (oO []) (LF 1 []) []),(3, .map 1 (oO [(.int .i64 1)]) (zh u0) [23]),(6, .map 2 (oO yj) (zf u0) [23,21]),(9, .map 3 (oO zq) (zi u0) [23,21,19]),(13, .look false [(.d nS)])],fr:=[(0,25)]} [.pf ⟨lI [some .i64] 1 1 0 (oO []) (LF 1 []) [(.int .i64 1)] (GA u0) [23] 1 (oO [(.int .i64 1)]) (zh u0),⟨(fun i hi=>absurd hi (Nat.not_lt_zero i)),(by intro i hi j hj;match i,j,hi,hj with|0,0,_,_=>exact aY.1 (show dH (CV.bg (.own 23 false u0.badBus.length)) [23]=true from by kernel_rfl)),0,(fun i hi=>absurd hi (Nat.not_lt_zero i)), .inr ⟨rfl,rfl⟩,rfl,rfl,(fun i hi=>absurd hi (Nat.not_lt_zero i))⟩⟩, .pf ⟨lI [some .i64] 1 1 1 (oO [(.int .i64 1)]) (zh u0) [(.int .i64 2)] (JF u0) [23,21] 2 (oO yj) (zf u0),⟨(by intro i hi;match i,hi with|0,_=>rfl),(by intro i hi j hj;match i,j,hi,hj with|0,0,_,_=>exact aY.1 (show dH (CV.bg (.own 23 false u0.badBus.length)) [23,21]=true from by kernel_rfl)|1,0,_,_=>exact aY.1 (show dH (CV.bg (.own 21 false u0.badSource.length)) [23,21]=true from by kernel_rfl)),1,(by intro i hi;match i,hi with|0,_=>rfl), .inr ⟨rfl,rfl⟩,rfl,rfl,(by intro i hi;match i,hi with|0,_=>exact fun _=> ⟨rfl,rfl⟩)⟩⟩, .pf ⟨lI [some .i64] 1 1 2 (oO yj) (zf u0) [(.int .i64 3)] (JE u0) [23,21,19] 3 (oO zq) (zi u0),⟨(by intro i hi;match i,hi with|0,_=>rfl|1,_=>rfl),(by intro i hi j hj;match i,j,hi,hj with|0,0,_,_=>exact aY.1 (show dH (CV.bg (.own 23 false u0.badBus.length)) [23,21,19]=true from by kernel_rfl)|1,0,_,_=>exact aY.1 (show dH (CV.bg (.own 21 false u0.badSource.length)) [23,21,19]=true from by kernel_rfl)|2,0,_,_=>exact aY.1 (show dH (CV.bg (.own 19 false u0.badLink.length)) [23,21,19]=true from by kernel_rfl)),2,(by intro i hi;match i,hi with|0,_=>rfl|1,_=>rfl), .inr ⟨rfl,rfl⟩,rfl,rfl,(by intro i hi;match i,hi with|0,_=>exact fun _=> ⟨rfl,rfl⟩|1,_=>exact fun _=> ⟨rfl,rfl⟩)⟩⟩, .m [2,1,0] [(bB x.kind 1)=false,(bB x.kind 2)=false,(bB x.kind 3)=false] (fB [some .i64] 1 1 3 (oO zq) (zi u0) [(.int .i64 x.kind)] [(.d nS)] false [(.d nS)]) (fun⟨hb1,hb3,hb5,_⟩=> ⟨(by intro i hi;match i,hi with|0,_=>rfl|1,_=>rfl|2,_=>rfl), .inr ⟨rfl,(by intro i hi;match i,hi with|0,_=>exact congrArg some hb1|1,_=>exact congrArg some hb3|2,_=>exact congrArg some hb5),rfl⟩⟩)]<| .cl 5 (aG x.index 0 (-1)) fun u4=> .r<| .it (.rg {fz:=[16]} []<| .e ((⟨([]:List Bool),([]:List Bool),([]:List Bool),([]:List Bool),([]:List Bool),([]:List Bool),([]:List Bool)⟩:State),14))
  (.no))))))
theorem wI (p:ai) {r:ByteArray × Int} (h:nY p=some r):Fn Tryz.prog 36 [(.agg [(cI p.buses),(.d (aX none 5 Source.cell p.sources)),(.d (aX none 6 Link.cell p.links)),(.d (aX none 4 aN.cell p.racks))])] [] (.iG [(sD (.str r.1)),(sI r.2)]) []:=by
 unfold nY at h
 cases hc:eH p with
 |none=>rw [hc]at h;cases h
 |some c=>
  rw [hc]at h
  simp only [Option.bind_some]at h
  cases h0:decide (c=0)with
  |false=>rw [h0]at h;cases h
  |true=>
   rw [h0]at h
   have hc0:=of_decide_eq_true h0
   subst hc0
   simp only [cond_true]at h
   cases h1:fmtG p.buses p.sources.length p.links.length p.racks.length (fmtS p) (OG p) (O9 p) (PD p) (Pv p)with
   |false=>rw [h1]at h;cases h
   |true=>
    rw [h1]at h
    simp only [cond_true,Option.some.injEq]at h
    subst h
    exact Ka (nb:=p.buses) (es:=aB Source.cell p.sources) (el:=aB Link.cell p.links) (er:=aB aN.cell p.racks) (et:=fun i=>aB bX.cell (at' p.links i).trip) ((jE p).run hc)
     (fun i _ j hj=>match j,hj with|0,_=>rfl|1,_=>rfl|2,_=>rfl|3,_=>rfl|4,_=>rfl)
     (fun i _ j hj=>match j,hj with|0,_=>rfl|1,_=>rfl|2,_=>rfl|3,_=>rfl|4,_=>rfl)
     (fun i _=>rfl)
     (fun i _ g _ j hj=>match j,hj with|0,_=>rfl|1,_=>rfl)
     (fun i _ j hj=>match j,hj with|0,_=>rfl|1,_=>rfl|2,_=>rfl|3,_=>rfl) h1
abbrev Ms:DV:=(aX (some true) 2 bX.cell [(⟨1000,400⟩:bX),(⟨5000,50⟩:bX)])
theorem rH:fP Tryz.prog 35 [] [] (fun r=>(.v (.agg [(cI r.buses),(.own 0 true r.sources.length),(.own 1 true r.links.length),(.own 2 true r.racks.length)]))) (fun r=>[(0,some (eT 90 5 Source.cell r.sources)),(1,some (eT 73 6 Link.cell r.links)),(2,some (eT 98 4 aN.cell r.racks)),(3,none)]) (qO):=
  iC tT mX Tryz.func35 (
  .rg {fr:=[(0,5)]} []<| .rg {an:=[(2, .arr [(⟨0,1,500,0,20⟩:Source),(⟨2,2,300,0,40⟩:Source)].length (aB Source.cell [(⟨0,1,500,0,20⟩:Source),(⟨2,2,300,0,40⟩:Source)])),(5, .frz [(⟨1000,400⟩:bX),(⟨5000,50⟩:bX)].length (aB bX.cell [(⟨1000,400⟩:bX),(⟨5000,50⟩:bX)])),(8, .arr [(⟨0,1,3,400,10,[(⟨1000,400⟩:bX),(⟨5000,50⟩:bX)]⟩:Link),(⟨1,2,3,400,10,([]:List bX)⟩:Link)].length (jZ 6 [(.int .i64 0),(.int .i64 1),(.int .i64 3),(.int .i64 400),(.int .i64 10),Ms,(.int .i64 1),(.int .i64 2),(.int .i64 3),(.int .i64 400),(.int .i64 10),nS])),(11, .arr [(⟨(⟨1,(-1)⟩:ah),100,1⟩:aN)].length (aB aN.cell [(⟨(⟨1,(-1)⟩:ah),100,1⟩:aN)]))],fr:=[(2,6),(8,8),(11,9)]} [.pf ⟨[(⟨0,1,500,0,20⟩:Source),(⟨2,2,300,0,40⟩:Source)].length=2,rfl⟩, .pf ⟨aJ 2 5 (jZ 5 [(.int .i64 0),(.int .i64 1),(.int .i64 500),(.int .i64 0),(.int .i64 20),(.int .i64 2),(.int .i64 2),(.int .i64 300),(.int .i64 0),(.int .i64 40)]) (aB Source.cell [(⟨0,1,500,0,20⟩:Source),(⟨2,2,300,0,40⟩:Source)]),(by intro i hi j hj;match i,j,hi,hj with|0,0,_,_=>rfl|0,1,_,_=>rfl|0,2,_,_=>rfl|0,3,_,_=>rfl|0,4,_,_=>rfl|1,0,_,_=>rfl|1,1,_,_=>rfl|1,2,_,_=>rfl|1,3,_,_=>rfl|1,4,_,_=>rfl)⟩, .pf ⟨[(⟨1000,400⟩:bX),(⟨5000,50⟩:bX)].length=2,rfl⟩, .pf ⟨aJ 2 2 (jZ 2 [(.int .i64 1000),(.int .i64 400),(.int .i64 5000),(.int .i64 50)]) (aB bX.cell [(⟨1000,400⟩:bX),(⟨5000,50⟩:bX)]),(by intro i hi j hj;match i,j,hi,hj with|0,0,_,_=>rfl|0,1,_,_=>rfl|1,0,_,_=>rfl|1,1,_,_=>rfl)⟩, .pf ⟨[(⟨0,1,3,400,10,[(⟨1000,400⟩:bX),(⟨5000,50⟩:bX)]⟩:Link),(⟨1,2,3,400,10,([]:List bX)⟩:Link)].length=2,rfl⟩, .pf ⟨aJ 2 6 (jZ 6 [(.int .i64 0),(.int .i64 1),(.int .i64 3),(.int .i64 400),(.int .i64 10),Ms,(.int .i64 1),(.int .i64 2),(.int .i64 3),(.int .i64 400),(.int .i64 10),nS]) (jZ 6 [(.int .i64 0),(.int .i64 1),(.int .i64 3),(.int .i64 400),(.int .i64 10),Ms,(.int .i64 1),(.int .i64 2),(.int .i64 3),(.int .i64 400),(.int .i64 10),nS]),fD _ _ _⟩, .pf ⟨[(⟨(⟨1,(-1)⟩:ah),100,1⟩:aN)].length=1,rfl⟩, .pf ⟨aJ 1 4 (jZ 4 [(.int .i64 1),(.int .i64 (-1)),(.int .i64 100),(.int .i64 1)]) (aB aN.cell [(⟨(⟨1,(-1)⟩:ah),100,1⟩:aN)]),(by intro i hi j hj;match i,j,hi,hj with|0,0,_,_=>rfl|0,1,_,_=>rfl|0,2,_,_=>rfl|0,3,_,_=>rfl)⟩]<| .im (.uh 8 (some (.arr 73 6 [(⟨0,1,3,400,10,[(⟨1000,400⟩:bX),(⟨5000,50⟩:bX)]⟩:Link),(⟨1,2,3,400,10,([]:List bX)⟩:Link)].length (jZ 6 [(.int .i64 0),(.int .i64 1),(.int .i64 3),(.int .i64 400),(.int .i64 10),Ms,(.int .i64 1),(.int .i64 2),(.int .i64 3),(.int .i64 400),(.int .i64 10),nS]))) (some (.arr 73 6 [(⟨0,1,3,400,10,[(⟨1000,400⟩:bX),(⟨5000,50⟩:bX)]⟩:Link),(⟨1,2,3,400,10,([]:List bX)⟩:Link)].length (aB Link.cell [(⟨0,1,3,400,10,[(⟨1000,400⟩:bX),(⟨5000,50⟩:bX)]⟩:Link),(⟨1,2,3,400,10,([]:List bX)⟩:Link)]))) (Nk (by intro i hi j hj;match i,j,hi,hj with|0,0,_,_=>exact .refl _|0,1,_,_=>exact .refl _|0,2,_,_=>exact .refl _|0,3,_,_=>exact .refl _|0,4,_,_=>exact .refl _|0,5,_,_=>exact mM.qW|1,0,_,_=>exact .refl _|1,1,_,_=>exact .refl _|1,2,_,_=>exact .refl _|1,3,_,_=>exact .refl _|1,4,_,_=>exact .refl _|1,5,_,_=>exact mM.nil')))<| .en (⟨3,[(⟨0,1,500,0,20⟩:Source),(⟨2,2,300,0,40⟩:Source)],[(⟨0,1,3,400,10,[(⟨1000,400⟩:bX),(⟨5000,50⟩:bX)]⟩:Link),(⟨1,2,3,400,10,([]:List bX)⟩:Link)],[(⟨(⟨1,(-1)⟩:ah),100,1⟩:aN)]⟩:ai) [] [(6,0),(8,1),(9,2),(5,3)])
end
end Sg
