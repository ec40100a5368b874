import Derived.Test.YtklofnlffikpgaaGreatSeGm
import Derived.Test.YtklofnlffikpgaaGreatProg
import Derived.Test.YtklofnlffikpgaaGreatSeLf
import Derived.Test.YtklofnlffikpgaaGreatSeLe
set_option linter.all false
namespace Sg
open Go Go.Proofs
set_option maxRecDepth 20000
noncomputable section
noncomputable def TT:List (Nat × TI):=[(3,⟨Tryz.t3.desc,Tryz.t3.size,Tryz.t3.bytes,zl Tryz.t3,false⟩),
  (4,⟨Tryz.t4.desc,Tryz.t4.size,Tryz.t4.bytes,zl Tryz.t4,false⟩),
  (22,⟨Tryz.t22.desc,Tryz.t22.size,Tryz.t22.bytes,zl Tryz.t22,false⟩),
  (23,⟨Tryz.t23.desc,Tryz.t23.size,Tryz.t23.bytes,zl Tryz.t23,false⟩),
  (24,⟨Tryz.t24.desc,Tryz.t24.size,Tryz.t24.bytes,zl Tryz.t24,false⟩),
  (26,⟨Tryz.t25.desc,Tryz.t26.size,Tryz.t26.bytes,zl Tryz.t26,false⟩),
  (27,⟨Tryz.t27.desc,Tryz.t27.size,Tryz.t27.bytes,zl Tryz.t27,false⟩),
  (29,⟨Tryz.t28.desc,Tryz.t29.size,Tryz.t29.bytes,zl Tryz.t29,false⟩),
  (30,⟨Tryz.t30.desc,Tryz.t30.size,Tryz.t30.bytes,zl Tryz.t30,false⟩),
  (34,⟨Tryz.t34.desc,Tryz.t34.size,Tryz.t34.bytes,zl Tryz.t34,false⟩),
  (36,⟨Tryz.t36.desc,Tryz.t36.size,Tryz.t36.bytes,zl Tryz.t36,false⟩),
  (41,⟨Tryz.t41.desc,Tryz.t41.size,Tryz.t41.bytes,zl Tryz.t41,false⟩),
  (44,⟨Tryz.t44.desc,Tryz.t44.size,Tryz.t44.bytes,zl Tryz.t44,true⟩),
  (46,⟨Tryz.t45.desc,Tryz.t46.size,Tryz.t46.bytes,zl Tryz.t46,true⟩),
  (48,⟨Tryz.t48.desc,Tryz.t48.size,Tryz.t48.bytes,zl Tryz.t48,false⟩),
  (61,⟨Tryz.t61.desc,Tryz.t61.size,Tryz.t61.bytes,zl Tryz.t61,false⟩),
  (76,⟨Tryz.t76.desc,Tryz.t76.size,Tryz.t76.bytes,zl Tryz.t76,false⟩),
  (79,⟨Tryz.t79.desc,Tryz.t79.size,Tryz.t79.bytes,zl Tryz.t79,false⟩),
  (82,⟨Tryz.t3.desc,Tryz.t82.size,Tryz.t82.bytes,zl Tryz.t82,false⟩),
  (84,⟨Tryz.t83.desc,Tryz.t84.size,Tryz.t84.bytes,zl Tryz.t84,true⟩),
  (86,⟨Tryz.t85.desc,Tryz.t86.size,Tryz.t86.bytes,zl Tryz.t86,true⟩),
  (87,⟨Tryz.t85.desc,Tryz.t87.size,Tryz.t87.bytes,zl Tryz.t87,true⟩),
  (92,⟨Tryz.t92.desc,Tryz.t92.size,Tryz.t92.bytes,zl Tryz.t92,false⟩),
  (95,⟨Tryz.t95.desc,Tryz.t95.size,Tryz.t95.bytes,zl Tryz.t95,true⟩),
  (100,⟨Tryz.t99.desc,Tryz.t100.size,Tryz.t100.bytes,zl Tryz.t100,true⟩),
  (101,⟨Tryz.t45.desc,Tryz.t101.size,Tryz.t101.bytes,zl Tryz.t101,true⟩),
  (108,⟨Tryz.t108.desc,Tryz.t108.size,Tryz.t108.bytes,zl Tryz.t108,false⟩),
  (109,⟨Tryz.t109.desc,Tryz.t109.size,Tryz.t109.bytes,zl Tryz.t109,false⟩),
  (110,⟨Tryz.t3.desc,Tryz.t110.size,Tryz.t110.bytes,zl Tryz.t110,false⟩),
  (111,⟨Tryz.t111.desc,Tryz.t111.size,Tryz.t111.bytes,zl Tryz.t111,false⟩),
  (113,⟨Tryz.t112.desc,Tryz.t113.size,Tryz.t113.bytes,zl Tryz.t113,false⟩),
  (119,⟨Tryz.t119.desc,Tryz.t119.size,Tryz.t119.bytes,zl Tryz.t119,false⟩),
  (122,⟨Tryz.t121.desc,Tryz.t122.size,Tryz.t122.bytes,zl Tryz.t122,false⟩),
  (123,⟨Tryz.t3.desc,Tryz.t123.size,Tryz.t123.bytes,zl Tryz.t123,false⟩),
  (125,⟨Tryz.t124.desc,Tryz.t125.size,Tryz.t125.bytes,zl Tryz.t125,true⟩),
  (141,⟨Tryz.t141.desc,Tryz.t141.size,Tryz.t141.bytes,zl Tryz.t141,false⟩),
  (161,⟨Tryz.t161.desc,Tryz.t161.size,Tryz.t161.bytes,zl Tryz.t161,false⟩),
  (164,⟨Tryz.t164.desc,Tryz.t164.size,Tryz.t164.bytes,zl Tryz.t164,false⟩),
  (167,⟨Tryz.t167.desc,Tryz.t167.size,Tryz.t167.bytes,zl Tryz.t167,false⟩),
  (169,⟨Tryz.t169.desc,Tryz.t169.size,Tryz.t169.bytes,zl Tryz.t169,false⟩),
  (172,⟨Tryz.t172.desc,Tryz.t172.size,Tryz.t172.bytes,zl Tryz.t172,false⟩),
  (173,⟨Tryz.t173.desc,Tryz.t173.size,Tryz.t173.bytes,zl Tryz.t173,false⟩),
  (176,⟨Tryz.t176.desc,Tryz.t176.size,Tryz.t176.bytes,zl Tryz.t176,false⟩),
  (178,⟨Tryz.t177.desc,Tryz.t178.size,Tryz.t178.bytes,zl Tryz.t178,false⟩),
  (192,⟨Tryz.t192.desc,Tryz.t192.size,Tryz.t192.bytes,zl Tryz.t192,false⟩),
  (193,⟨Tryz.t193.desc,Tryz.t193.size,Tryz.t193.bytes,zl Tryz.t193,false⟩),
  (195,⟨Tryz.t194.desc,Tryz.t195.size,Tryz.t195.bytes,zl Tryz.t195,false⟩),
  (198,⟨Tryz.t198.desc,Tryz.t198.size,Tryz.t198.bytes,zl Tryz.t198,false⟩),
  (211,⟨Tryz.t210.desc,Tryz.t211.size,Tryz.t211.bytes,zl Tryz.t211,true⟩),
  (232,⟨Tryz.t232.desc,Tryz.t232.size,Tryz.t232.bytes,zl Tryz.t232,false⟩),
  (236,⟨Tryz.t236.desc,Tryz.t236.size,Tryz.t236.bytes,zl Tryz.t236,false⟩)]
theorem tT:nY Tryz.prog TT:=⟨fJ (by kernel_rfl) (by kernel_rfl) (by kernel_rfl),⟨je,bX (by kernel_rfl)⟩,fJ (by kernel_rfl) (by kernel_rfl) (by kernel_rfl),⟨je,bX (by kernel_rfl)⟩,fJ (by kernel_rfl) (by kernel_rfl) (by kernel_rfl),⟨je,bX (by kernel_rfl)⟩,fJ (by kernel_rfl) (by kernel_rfl) (by kernel_rfl),⟨je,bX (by kernel_rfl)⟩,fJ (by kernel_rfl) (by kernel_rfl) (by kernel_rfl),⟨je,bX (by kernel_rfl)⟩,fJ (by kernel_rfl) (by kernel_rfl) (by kernel_rfl),⟨je,bX (by kernel_rfl)⟩,fJ (by kernel_rfl) (by kernel_rfl) (by kernel_rfl),⟨je,bX (by kernel_rfl)⟩,fJ (by kernel_rfl) (by kernel_rfl) (by kernel_rfl),⟨je,bX (by kernel_rfl)⟩,fJ (by kernel_rfl) (by kernel_rfl) (by kernel_rfl),⟨je,bX (by kernel_rfl)⟩,fJ (by kernel_rfl) (by kernel_rfl) (by kernel_rfl),⟨je,bX (by kernel_rfl)⟩,fJ (by kernel_rfl) (by kernel_rfl) (by kernel_rfl),⟨je,bX (by kernel_rfl)⟩,fJ (by kernel_rfl) (by kernel_rfl) (by kernel_rfl),⟨je,bX (by kernel_rfl)⟩,fJ (by kernel_rfl) (by kernel_rfl) (by kernel_rfl),⟨fun _=> ⟨by kernel_rfl,by kernel_rfl⟩,bX (by kernel_rfl)⟩,fJ (by kernel_rfl) (by kernel_rfl) (by kernel_rfl),⟨fun _=> ⟨by kernel_rfl,by kernel_rfl⟩,bX (by kernel_rfl)⟩,fJ (by kernel_rfl) (by kernel_rfl) (by kernel_rfl),⟨je,bX (by kernel_rfl)⟩,fJ (by kernel_rfl) (by kernel_rfl) (by kernel_rfl),⟨je,bX (by kernel_rfl)⟩,fJ (by kernel_rfl) (by kernel_rfl) (by kernel_rfl),⟨je,bX (by kernel_rfl)⟩,fJ (by kernel_rfl) (by kernel_rfl) (by kernel_rfl),⟨je,bX (by kernel_rfl)⟩,fJ (by kernel_rfl) (by kernel_rfl) (by kernel_rfl),⟨je,bX (by kernel_rfl)⟩,fJ (by kernel_rfl) (by kernel_rfl) (by kernel_rfl),⟨fun _=> ⟨by kernel_rfl,by kernel_rfl⟩,bX (by kernel_rfl)⟩,fJ (by kernel_rfl) (by kernel_rfl) (by kernel_rfl),⟨fun _=> ⟨by kernel_rfl,by kernel_rfl⟩,bX (by kernel_rfl)⟩,fJ (by kernel_rfl) (by kernel_rfl) (by kernel_rfl),⟨fun _=> ⟨by kernel_rfl,by kernel_rfl⟩,bX (by kernel_rfl)⟩,fJ (by kernel_rfl) (by kernel_rfl) (by kernel_rfl),⟨je,bX (by kernel_rfl)⟩,fJ (by kernel_rfl) (by kernel_rfl) (by kernel_rfl),⟨fun _=> ⟨by kernel_rfl,by kernel_rfl⟩,bX (by kernel_rfl)⟩,fJ (by kernel_rfl) (by kernel_rfl) (by kernel_rfl),⟨fun _=> ⟨by kernel_rfl,by kernel_rfl⟩,bX (by kernel_rfl)⟩,fJ (by kernel_rfl) (by kernel_rfl) (by kernel_rfl),⟨fun _=> ⟨by kernel_rfl,by kernel_rfl⟩,bX (by kernel_rfl)⟩,fJ (by kernel_rfl) (by kernel_rfl) (by kernel_rfl),⟨je,bX (by kernel_rfl)⟩,fJ (by kernel_rfl) (by kernel_rfl) (by kernel_rfl),⟨je,bX (by kernel_rfl)⟩,fJ (by kernel_rfl) (by kernel_rfl) (by kernel_rfl),⟨je,bX (by kernel_rfl)⟩,fJ (by kernel_rfl) (by kernel_rfl) (by kernel_rfl),⟨je,bX (by kernel_rfl)⟩,fJ (by kernel_rfl) (by kernel_rfl) (by kernel_rfl),⟨je,bX (by kernel_rfl)⟩,fJ (by kernel_rfl) (by kernel_rfl) (by kernel_rfl),⟨je,bX (by kernel_rfl)⟩,fJ (by kernel_rfl) (by kernel_rfl) (by kernel_rfl),⟨je,bX (by kernel_rfl)⟩,fJ (by kernel_rfl) (by kernel_rfl) (by kernel_rfl),⟨je,bX (by kernel_rfl)⟩,fJ (by kernel_rfl) (by kernel_rfl) (by kernel_rfl),⟨fun _=> ⟨by kernel_rfl,by kernel_rfl⟩,bX (by kernel_rfl)⟩,fJ (by kernel_rfl) (by kernel_rfl) (by kernel_rfl),⟨je,bX (by kernel_rfl)⟩,fJ (by kernel_rfl) (by kernel_rfl) (by kernel_rfl),⟨je,bX (by kernel_rfl)⟩,fJ (by kernel_rfl) (by kernel_rfl) (by kernel_rfl),⟨je,bX (by kernel_rfl)⟩,fJ (by kernel_rfl) (by kernel_rfl) (by kernel_rfl),⟨je,bX (by kernel_rfl)⟩,fJ (by kernel_rfl) (by kernel_rfl) (by kernel_rfl),⟨je,bX (by kernel_rfl)⟩,fJ (by kernel_rfl) (by kernel_rfl) (by kernel_rfl),⟨je,bX (by kernel_rfl)⟩,fJ (by kernel_rfl) (by kernel_rfl) (by kernel_rfl),⟨je,bX (by kernel_rfl)⟩,fJ (by kernel_rfl) (by kernel_rfl) (by kernel_rfl),⟨je,bX (by kernel_rfl)⟩,fJ (by kernel_rfl) (by kernel_rfl) (by kernel_rfl),⟨je,bX (by kernel_rfl)⟩,fJ (by kernel_rfl) (by kernel_rfl) (by kernel_rfl),⟨je,bX (by kernel_rfl)⟩,fJ (by kernel_rfl) (by kernel_rfl) (by kernel_rfl),⟨je,bX (by kernel_rfl)⟩,fJ (by kernel_rfl) (by kernel_rfl) (by kernel_rfl),⟨je,bX (by kernel_rfl)⟩,fJ (by kernel_rfl) (by kernel_rfl) (by kernel_rfl),⟨je,bX (by kernel_rfl)⟩,fJ (by kernel_rfl) (by kernel_rfl) (by kernel_rfl),⟨fun _=> ⟨by kernel_rfl,by kernel_rfl⟩,bX (by kernel_rfl)⟩,fJ (by kernel_rfl) (by kernel_rfl) (by kernel_rfl),⟨je,bX (by kernel_rfl)⟩,fJ (by kernel_rfl) (by kernel_rfl) (by kernel_rfl),⟨je,bX (by kernel_rfl)⟩,trivial⟩
theorem mX:Tryz.prog.follows .mixedOrders=true:=by kernel_rfl
def Ip:Go.Shelf.Ren:=⟨fun|6=>52|14=>107|15=>108|20=>153|21=>154|22=>155|23=>156|24=>157|25=>158|26=>159|27=>160|28=>161|29=>162|46=>177|47=>178|48=>179|49=>180|50=>181|57=>182|n=>n,fun|0=>0|3=>3|4=>4|5=>5|9=>9|22=>41|24=>44|25=>128|39=>104|45=>219|46=>220|50=>184|53=>226|55=>228|66=>243|70=>247|76=>249|77=>250|n=>n,fun n=>n⟩
theorem O9:Go.Proofs.SlLaysF0.n6 Tryz.prog Ip:=⟨by kernel_rfl,⟨Tryz.f52.name,by kernel_rfl,Tryz.func52.trans (congrArg some (by kernel_rfl))⟩,⟨Tryz.f107.name,by kernel_rfl,Tryz.func107.trans (congrArg some (by kernel_rfl))⟩,Tryz.func108.trans (congrArg some (by kernel_rfl)),⟨Tryz.f153.name,by kernel_rfl,Tryz.func153.trans (congrArg some (by kernel_rfl))⟩,⟨Tryz.f154.name,by kernel_rfl,Tryz.func154.trans (congrArg some (by kernel_rfl))⟩,⟨Tryz.f155.name,by kernel_rfl,Tryz.func155.trans (congrArg some (by kernel_rfl))⟩,⟨Tryz.f156.name,by kernel_rfl,Tryz.func156.trans (congrArg some (by kernel_rfl))⟩,⟨Tryz.f157.name,by kernel_rfl,Tryz.func157.trans (congrArg some (by kernel_rfl))⟩,⟨Tryz.f158.name,by kernel_rfl,Tryz.func158.trans (congrArg some (by kernel_rfl))⟩,⟨Tryz.f159.name,by kernel_rfl,Tryz.func159.trans (congrArg some (by kernel_rfl))⟩,⟨Tryz.f160.name,by kernel_rfl,Tryz.func160.trans (congrArg some (by kernel_rfl))⟩,Tryz.func161.trans (congrArg some (by kernel_rfl)),Tryz.func162.trans (congrArg some (by kernel_rfl)),⟨Tryz.f177.name,by kernel_rfl,Tryz.func177.trans (congrArg some (by kernel_rfl))⟩,Tryz.func178.trans (congrArg some (by kernel_rfl)),Tryz.func179.trans (congrArg some (by kernel_rfl)),⟨Tryz.f180.name,by kernel_rfl,Tryz.func180.trans (congrArg some (by kernel_rfl))⟩,⟨Tryz.f181.name,by kernel_rfl,Tryz.func181.trans (congrArg some (by kernel_rfl))⟩,⟨Tryz.f182.name,by kernel_rfl,Tryz.func182.trans (congrArg some (by kernel_rfl))⟩,Tryz.underlying0,Tryz.isAgg0,Tryz.sizeOf0,Tryz.zeroValue0,Tryz.underlying3,Tryz.isAgg3,Tryz.sizeOf3,Tryz.zeroValue3,Tryz.underlying4,Tryz.isAgg4,Tryz.sizeOf4,Tryz.zeroValue4,Tryz.underlying5,Tryz.isAgg5,Tryz.sizeOf5,Tryz.zeroValue5,Tryz.underlying9,Tryz.isAgg9,Tryz.sizeOf9,Tryz.zeroValue9,Tryz.underlying41,Tryz.isAgg41,Tryz.sizeOf41,Tryz.zeroValue41,Tryz.underlying128,Tryz.isAgg128,Tryz.sizeOf128,Tryz.zeroValue128,Tryz.underlying104,Tryz.isAgg104,Tryz.sizeOf104,Tryz.zeroValue104,Tryz.underlying219,Tryz.isAgg219,Tryz.sizeOf219,Tryz.zeroValue219,Tryz.underlying220,Tryz.isAgg220,Tryz.sizeOf220,Tryz.zeroValue220,Tryz.underlying184,Tryz.isAgg184,Tryz.sizeOf184,Tryz.zeroValue184,Tryz.underlying226,Tryz.isAgg226,Tryz.sizeOf226,Tryz.zeroValue226,Tryz.underlying228,Tryz.isAgg228,Tryz.sizeOf228,Tryz.zeroValue228,Tryz.underlying243,Tryz.isAgg243,Tryz.sizeOf243,Tryz.zeroValue243,Tryz.underlying247,Tryz.isAgg247,Tryz.sizeOf247,Tryz.zeroValue247,Tryz.underlying249,Tryz.isAgg249,Tryz.sizeOf249,Tryz.zeroValue249,Tryz.underlying250,Tryz.isAgg250,Tryz.sizeOf250,Tryz.zeroValue250⟩
theorem SH (w:World):(isAgg (Ip.t 24)).run Tryz.prog w= .ok true w:=Tryz.isAgg44 w
theorem QO (w:World):(Go.sizeOf (Ip.t 24)).run Tryz.prog w= .ok 2 w:=Tryz.sizeOf44 w
def U0:Go.Shelf.Ren:=⟨fun|23=>170|n=>n,fun|0=>0|3=>3|4=>4|22=>36|n=>n,fun n=>n⟩
theorem Sv:Go.Proofs.Lays2.n23 Tryz.prog U0:=⟨by kernel_rfl,Tryz.func170.trans (congrArg some (by kernel_rfl)),Tryz.underlying0,Tryz.isAgg0,Tryz.sizeOf0,Tryz.zeroValue0,Tryz.underlying3,Tryz.isAgg3,Tryz.sizeOf3,Tryz.zeroValue3,Tryz.underlying4,Tryz.isAgg4,Tryz.sizeOf4,Tryz.zeroValue4,Tryz.underlying36,Tryz.isAgg36,Tryz.sizeOf36,Tryz.zeroValue36,by kernel_rfl⟩
theorem aH (n:Int) (u0:Int) (u1:Int):dY Tryz.prog 91 [(sI n),(sI u0),(sI u1)] [] (fun r=>(vB r)) (fun _=>[]) (aM n u0 u1):=
  eU tT mX Tryz.func91 (
  .r<| .r<| .e (bif (decide (u0≤n))then(decide (n≤u1))else false))
section
variable (p:ai)
abbrev k1:List CV:=[(cI p.buses),(.d (aR none 5 Source.cell p.sources)),(.d (aR none 6 Link.cell p.links)),(.d (aR none 4 aP.cell p.racks))]
abbrev k0:List SV:=[(.agg (k1 p))]
end
theorem zZ (p:ai):dY Tryz.prog 93 (k0 p) [] (fun r=>(vD (.fn 140 1 (wB [(Ii [(.int .i64 r.1),(aR none 5 Source.cell r.2.1),(aR none 6 Link.cell r.2.2.1),(aR none 4 aP.cell r.2.2.2)] 0)])))) (fun _=>[]) (rH p):=
  eU tT mX Tryz.func93 (
  .rg {fr:=[(0,1)],fz:=[1]} []<| .r<| .e (p.buses,p.sources,p.links,p.racks))
theorem CB (p:ai):dY Tryz.prog 95 (k0 p) [] (fun r=>(vD (.fn 143 1 (wB [(Ii [(.int .i64 r.1),(aR none 5 Source.cell r.2.1),(aR none 6 Link.cell r.2.2.1),(aR none 4 aP.cell r.2.2.2)] 0)])))) (fun _=>[]) (vR p):=
  eU tT mX Tryz.func95 (
  .rg {fr:=[(0,1)],fz:=[1]} []<| .r<| .e (p.buses,p.sources,p.links,p.racks))
theorem Cr (p:ai):dY Tryz.prog 97 (k0 p) [] (fun r=>(vD (.fn 146 1 (wB [(Ii [(.int .i64 r.1),(aR none 5 Source.cell r.2.1),(aR none 6 Link.cell r.2.2.1),(aR none 4 aP.cell r.2.2.2)] 0)])))) (fun _=>[]) (vT p):=
  eU tT mX Tryz.func97 (
  .rg {fr:=[(0,1)],fz:=[1]} []<| .r<| .e (p.buses,p.sources,p.links,p.racks))
section
variable (x:Source) (x1:Int) (u2:(List Source)) (u3:(List Link)) (u4:(List aP)) (r_:Bool) (u0:Bool) (u1:Bool) (u5:Bool) (u6:Bool)
abbrev k2:List CV:=[(cI x.bus),(cI x.kind),(cI x.power),(cI x.sync),(cI x.ohm)]
abbrev k3:DV:=(Ii [(.int .i64 x1),(aR none 5 Source.cell u2),(aR none 6 Link.cell u3),(aR none 4 aP.cell u4)] 0)
abbrev k4:=(IntKind.wrap .i64 (x1 - 1))
abbrev k5:=((bif r_ then u0 else false),true)
abbrev k6:=(bif (bif (bif (bif r_ then u0 else false)then u1 else false)then u5 else false)then u6 else false)
end
theorem yL (x:Source) (x1:Int) (u2:(List Source)) (u3:(List Link)) (u4:(List aP)):dY Tryz.prog 140 [(.agg (k2 x)),(sD (k3 x1 u2 u3 u4))] [] (fun r=>(vB r)) (fun _=>[]) (kU x x1 u2 u3 u4):=
  eU tT mX Tryz.func140 (
  .rg {fr:=[(0,1)],fz:=[1]} []<| .cl 5 (aH x.bus 0 (k4 x1)) fun r_=> .cg 9 [(r_,true)] (aH x.kind 1 3) fun u0=> .cg 14 [(k5 r_ u0)] (aH x.power 1 100000) fun u1=> .cg 19 [((bif (bif r_ then u0 else false)then u1 else false),true)] (aH x.sync 0 8) fun u5=> .cg 24 [((bif (bif (bif r_ then u0 else false)then u1 else false)then u5 else false),true)] (aH x.ohm 10 100000) fun u6=> .r<| .e (k6 r_ u0 u1 u5 u6))
section
variable (x1:Int) (u0:(List Source)) (u1:(List Link)) (u2:(List aP))
abbrev k8:=(wB [(k3 x1 u0 u1 u2)])
abbrev k7:DV:=(Ii [(.fn 140 1 (k8 x1 u0 u1 u2))] 0)
end
theorem Ad (x:Source) (x1:Int) (u0:(List Source)) (u1:(List Link)) (u2:(List aP)):dY Tryz.prog 139 [(.agg (k2 x)),(sD (k7 x1 u0 u1 u2))] [] (fun r=>(vB r)) (fun _=>[]) (rM x x1 u0 u1 u2):=
  eU tT mX Tryz.func139 (
  .rg {fr:=[(0,1)],fz:=[1]} []<| .cl 2 (yL x x1 u0 u1 u2) fun r_=> .r<| .e (!r_))
section
variable (s_:(List Source)) (f_:Int) (u0:(List Source)) (u1:(List Link)) (u2:(List aP)) (t8:Int)
abbrev k9:List SV:=[(sD (aR none 5 Source.cell s_)),(sD (.fn 139 1 (wB [(k7 f_ u0 u1 u2)])))]
abbrev k10:=(IntKind.wrap .i64 (t8+1))
end
theorem wH (s_:(List Source)) (f_:Int) (u0:(List Source)) (u1:(List Link)) (u2:(List aP)):dY Tryz.prog 172 (k9 s_ f_ u0 u1 u2) [] (fun r=>(vI r)) (fun _=>[]) (mI s_ f_ u0 u1 u2):=
  eU tT mX Tryz.func172 (
  .r<| .r<| .lp (σ:=Int) (β:=Unit) (0) [] [] ⟨[0,1,7],[],fun t8=>[(8,(vI t8))],fun t8=>[]⟩ ⟨[],[],fun _=>[],fun _=>[]⟩
  (fun t8=> .r<| .it (.r<| .cl 5 (Ad (at' s_ t8.toNat) f_ u0 u1 u2) fun r_=> .a1 ((0:Int)≤t8∧t8<(s_.length:Int))<| .rg {} [0,1]<| .it (.r<| .e (.done (.ret t8)))
  (.r<| .e (.next (k10 t8))))
  (.e (.done (.brk ()))))
  (fun _=> .r<| .e (-1)))
theorem tJ (s_:(List Source)) (f_:Int) (u0:(List Source)) (u1:(List Link)) (u2:(List aP)):dY Tryz.prog 138 (k9 s_ f_ u0 u1 u2) [] (fun r=>(vB r)) (fun _=>[]) (gV s_ f_ u0 u1 u2):=
  eU tT mX Tryz.func138 (
  .r<| .cl 2 (wH s_ f_ u0 u1 u2) fun r_=> .r<| .e (decide (0≤r_)))
theorem Cg (l:(List Source)) (u0:Int) (u1:Int) (u2:(List Source)) (u3:(List Link)) (u4:(List aP)):dY Tryz.prog 92 [(sD (aR none 5 Source.cell l)),(sI u0),(sD (.fn 140 1 (k8 u1 u2 u3 u4)))] [] (fun r=>(vB r)) (fun _=>[]) (qg l u0 u1 u2 u3 u4):=
  eU tT mX Tryz.func92 (
  .rg {fr:=[(0,1)],fz:=[1]} []<| .cg 7 [((decide ((l.length:Int)≤u0)),true)] (tJ l u1 u2 u3 u4) fun r_=> .r<| .e (bif (decide ((l.length:Int)≤u0))then(!r_)else false))
section
variable (x:Link) (u0:Int)
abbrev k11:List CV:=[(cI x.a),(cI x.b),(cI x.kind),(cI x.most),(cI x.ohm),(.d (aR none 2 tY.cell x.trip))]
abbrev k12:=((decide (((at' x.trip u0.toNat).amps)≤((at' x.trip ((k4 u0).toNat)).amps))),false)
end
theorem AA (x:Link) (x1:Int) (u3:(List Source)) (u4:(List Link)) (u5:(List aP)):dY Tryz.prog 143 [(.agg (k11 x)),(sD (k3 x1 u3 u4 u5))] [] (fun r=>(vB r)) (fun _=>[]) (nT x x1 u3 u4 u5):=
  eU tT mX Tryz.func143 (
  .rg {fr:=[(0,5)]} []<| .cl 5 (aH x.a 0 (k4 x1)) fun r_=> .cg 13 [((!r_),false)] (aH x.b 0 (k4 x1)) fun u1=> .cg 26 [((bif (bif (!r_)then true else(!u1))then true else(decide (x.a=x.b))),false)] (aH x.kind 1 3) fun u6=> .cg 32 [((bif (bif (bif (!r_)then true else(!u1))then true else(decide (x.a=x.b)))then true else(!u6)),false)] (aH x.most 1 100000) fun u8=> .cg 38 [((bif (bif (bif (bif (!r_)then true else(!u1))then true else(decide (x.a=x.b)))then true else(!u6))then true else(!u8)),false)] (aH x.ohm 10 100000) fun u9=> .r<| .it (.r<| .e false)
  (.rg {fz:=[5]} []<| .lp (σ:=Int) (β:=Unit) (0) [] [] ⟨[2,48,49],[],fun u0=>[(50,(vI u0))],fun u0=>[]⟩ ⟨[2],[],fun _=>[],fun _=>[]⟩
  (fun u0=> .r<| .it (.a1 ((0:Int)≤u0∧u0<(x.trip.length:Int))<| .rg {fr:=[(3,9)],fz:=[9]} []<| .cl 2 (aH ((at' x.trip u0.toNat).amps) 1 1000000) fun u2=> .cg 7 [((!u2),false)] (aH ((at' x.trip u0.toNat).millis) 1 100000) fun u7=> .a2 ((gB [((decide (0<u0)),true),((bif (!u2)then true else(!u7)),false)]=true→(0:Int)≤(k4 u0)∧(k4 u0)<(x.trip.length:Int))) ((gB [(k12 x u0),((decide (0<u0)),true),((bif (!u2)then true else(!u7)),false)]=true→(0:Int)≤(k4 u0)∧(k4 u0)<(x.trip.length:Int)))<| .rg {} [3,2,0,1]<| .it (.r<| .e (.done (.ret false)))
  (.r<| .e (.next (k10 u0))))
  (.e (.done (.brk ()))))
  (fun _=> .r<| .e (bif (decide ((x.trip.length:Int)≤6))then(bif (decide ((x.trip.length:Int)=0))then true else(decide (x.kind=3)))else false))))
section
variable (x1:Int) (u0:(List Source)) (u1:(List Link)) (u2:(List aP))
abbrev k13:DV:=(Ii [(.fn 143 1 (k8 x1 u0 u1 u2))] 0)
end
theorem xM (x:Link) (x1:Int) (u0:(List Source)) (u1:(List Link)) (u2:(List aP)):dY Tryz.prog 142 [(.agg (k11 x)),(sD (k13 x1 u0 u1 u2))] [] (fun r=>(vB r)) (fun _=>[]) (nD x x1 u0 u1 u2):=
  eU tT mX Tryz.func142 (
  .rg {fr:=[(0,1)],fz:=[1]} []<| .cl 2 (AA x x1 u0 u1 u2) fun r_=> .r<| .e (!r_))
section
variable (s_:(List Link)) (f_:Int) (u0:(List Source)) (u1:(List Link)) (u2:(List aP))
abbrev k14:List SV:=[(sD (aR none 6 Link.cell s_)),(sD (.fn 142 1 (wB [(k13 f_ u0 u1 u2)])))]
end
theorem tN (s_:(List Link)) (f_:Int) (u0:(List Source)) (u1:(List Link)) (u2:(List aP)):dY Tryz.prog 173 (k14 s_ f_ u0 u1 u2) [] (fun r=>(vI r)) (fun _=>[]) (jX s_ f_ u0 u1 u2):=
  eU tT mX Tryz.func173 (
  .r<| .r<| .lp (σ:=Int) (β:=Unit) (0) [] [] ⟨[0,1,7],[],fun t8=>[(8,(vI t8))],fun t8=>[]⟩ ⟨[],[],fun _=>[],fun _=>[]⟩
  (fun t8=> .r<| .it (.r<| .cl 5 (xM (at' s_ t8.toNat) f_ u0 u1 u2) fun r_=> .a1 ((0:Int)≤t8∧t8<(s_.length:Int))<| .rg {} [0,1]<| .it (.r<| .e (.done (.ret t8)))
  (.r<| .e (.next (k10 t8))))
  (.e (.done (.brk ()))))
  (fun _=> .r<| .e (-1)))
theorem p9 (s_:(List Link)) (f_:Int) (u0:(List Source)) (u1:(List Link)) (u2:(List aP)):dY Tryz.prog 141 (k14 s_ f_ u0 u1 u2) [] (fun r=>(vB r)) (fun _=>[]) (eY s_ f_ u0 u1 u2):=
  eU tT mX Tryz.func141 (
  .r<| .cl 2 (tN s_ f_ u0 u1 u2) fun r_=> .r<| .e (decide (0≤r_)))
theorem A7 (l:(List Link)) (u0:Int) (u1:Int) (u2:(List Source)) (u3:(List Link)) (u4:(List aP)):dY Tryz.prog 94 [(sD (aR none 6 Link.cell l)),(sI u0),(sD (.fn 143 1 (k8 u1 u2 u3 u4)))] [] (fun r=>(vB r)) (fun _=>[]) (nQ l u0 u1 u2 u3 u4):=
  eU tT mX Tryz.func94 (
  .rg {fr:=[(0,1)],fz:=[1]} []<| .cg 7 [((decide ((l.length:Int)≤u0)),true)] (p9 l u1 u2 u3 u4) fun r_=> .r<| .e (bif (decide ((l.length:Int)≤u0))then(!r_)else false))
section
variable (x:aP)
abbrev k15:List CV:=[(cI x.feeds.e0),(cI x.feeds.e1),(cI x.power),(cI x.paths)]
end
theorem BA (x:aP):dY Tryz.prog 147 [(.agg (k15 x))] [] (fun r=>(vI r)) (fun _=>[]) (oU x):=
  eU tT mX Tryz.func147 (
  .rg {fr:=[(0,1)],fz:=[1]} []<| .rg {} [.pf ⟨(0:Int)≤1∧(1:Int)<(2:Nat),(by decide)⟩]<| .it (.r<| .e 1)
  (.r<| .e 2))
section
variable (r_:Bool) (u0:Bool) (x:aP) (u1:Bool)
abbrev k17:=(bif (bif (bif r_ then u0 else false)then(!decide (x.feeds.e0=x.feeds.e1))else false)then u1 else false)
abbrev k16:=((k17 r_ u0 x u1),true)
end
theorem zY (x:aP) (x1:Int) (u2:(List Source)) (u3:(List Link)) (u4:(List aP)):dY Tryz.prog 146 [(.agg (k15 x)),(sD (k3 x1 u2 u3 u4))] [] (fun r=>(vB r)) (fun _=>[]) (nA x x1 u2 u3 u4):=
  eU tT mX Tryz.func146 (
  .rg {fr:=[(0,1)],fz:=[1]} []<| .rg {} [.pf ⟨(0:Int)≤0∧(0:Int)<(2:Nat),(by decide)⟩, .pf ⟨(0:Int)≤1∧(1:Int)<(2:Nat),(by decide)⟩]<| .cl 4 (aH x.feeds.e0 0 (k4 x1)) fun r_=> .cg 10 [(r_,true)] (aH x.feeds.e1 (-1) (k4 x1)) fun u0=> .cg 20 [((bif (bif r_ then u0 else false)then(!decide (x.feeds.e0=x.feeds.e1))else false),true)] (aH x.power 1 100000) fun u1=> .cg 26 [(k16 r_ u0 x u1)] (BA x) fun u5=> .cg 27 [(k16 r_ u0 x u1)] (aH x.paths 0 u5) fun u6=> .r<| .e (bif (k17 r_ u0 x u1)then u6 else false))
section
variable (x1:Int) (u0:(List Source)) (u1:(List Link)) (u2:(List aP))
abbrev k18:DV:=(Ii [(.fn 146 1 (k8 x1 u0 u1 u2))] 0)
end
theorem xI (x:aP) (x1:Int) (u0:(List Source)) (u1:(List Link)) (u2:(List aP)):dY Tryz.prog 145 [(.agg (k15 x)),(sD (k18 x1 u0 u1 u2))] [] (fun r=>(vB r)) (fun _=>[]) (ny x x1 u0 u1 u2):=
  eU tT mX Tryz.func145 (
  .rg {fr:=[(0,1)],fz:=[1]} []<| .cl 2 (zY x x1 u0 u1 u2) fun r_=> .r<| .e (!r_))
section
variable (s_:(List aP)) (f_:Int) (u0:(List Source)) (u1:(List Link)) (u2:(List aP))
abbrev k19:List SV:=[(sD (aR none 4 aP.cell s_)),(sD (.fn 145 1 (wB [(k18 f_ u0 u1 u2)])))]
end
theorem tZ (s_:(List aP)) (f_:Int) (u0:(List Source)) (u1:(List Link)) (u2:(List aP)):dY Tryz.prog 174 (k19 s_ f_ u0 u1 u2) [] (fun r=>(vI r)) (fun _=>[]) (j3 s_ f_ u0 u1 u2):=
  eU tT mX Tryz.func174 (
  .r<| .r<| .lp (σ:=Int) (β:=Unit) (0) [] [] ⟨[0,1,7],[],fun t8=>[(8,(vI t8))],fun t8=>[]⟩ ⟨[],[],fun _=>[],fun _=>[]⟩
  (fun t8=> .r<| .it (.r<| .cl 5 (xI (⟨((at' s_ t8.toNat).feeds),(at' s_ t8.toNat).power,(at' s_ t8.toNat).paths⟩:aP) f_ u0 u1 u2) fun r_=> .a1 ((0:Int)≤t8∧t8<(s_.length:Int))<| .rg {} [0,1]<| .it (.r<| .e (.done (.ret t8)))
  (.r<| .e (.next (k10 t8))))
  (.e (.done (.brk ()))))
  (fun _=> .r<| .e (-1)))
theorem qh (s_:(List aP)) (f_:Int) (u0:(List Source)) (u1:(List Link)) (u2:(List aP)):dY Tryz.prog 144 (k19 s_ f_ u0 u1 u2) [] (fun r=>(vB r)) (fun _=>[]) (eZ s_ f_ u0 u1 u2):=
  eU tT mX Tryz.func144 (
  .r<| .cl 2 (tZ s_ f_ u0 u1 u2) fun r_=> .r<| .e (decide (0≤r_)))
theorem Az (l:(List aP)) (u0:Int) (u1:Int) (u2:(List Source)) (u3:(List Link)) (u4:(List aP)):dY Tryz.prog 96 [(sD (aR none 4 aP.cell l)),(sI u0),(sD (.fn 146 1 (k8 u1 u2 u3 u4)))] [] (fun r=>(vB r)) (fun _=>[]) (nP l u0 u1 u2 u3 u4):=
  eU tT mX Tryz.func96 (
  .rg {fr:=[(0,1)],fz:=[1]} []<| .cg 7 [((decide ((l.length:Int)≤u0)),true)] (qh l u1 u2 u3 u4) fun r_=> .r<| .e (bif (decide ((l.length:Int)≤u0))then(!r_)else false))
theorem uR (p:ai):dY Tryz.prog 46 (k0 p) [] (fun r=>(vI r)) (fun _=>[]) (l8 p):=
  eU tT mX Tryz.func46 (
  .rg {fr:=[(0,1)],fz:=[1]} []<| .cl 2 (aH p.buses 1 24) fun r_=> .r<| .it (.r<| .e 10)
  (.cl 3 (zZ p) fun u0=> .cl 4 (Cg p.sources 8 u0.1 u0.2.1 u0.2.2.1 u0.2.2.2) fun u3=> .r<| .it (.r<| .e 11)
  (.cl 3 (CB p) fun u1=> .cl 4 (A7 p.links 40 u1.1 u1.2.1 u1.2.2.1 u1.2.2.2) fun u4=> .r<| .it (.r<| .e 12)
  (.cl 3 (Cr p) fun u2=> .cl 4 (Az p.racks 24 u2.1 u2.2.1 u2.2.2.1 u2.2.2.2) fun u5=> .r<| .it (.r<| .e 13)
  (.r<| .e 0)))))
section
variable (s_:State) (p:ai) (u0:Int)
abbrev k22:DV:=(aR none 1 af s_.badSource)
abbrev k21:List CV:=[(.d (aR none 1 af s_.closed)),(.d (aR none 1 af s_.locked)),(.d (aR none 1 af s_.badLink)),(.d (aR none 1 af s_.on_)),(.d (k22 s_)),(.d (aR none 1 af s_.earthed)),(.d (aR none 1 af s_.badBus))]
abbrev k20:List SV:=[(.agg (k1 p)),(.agg (k21 s_))]
abbrev k23:=(⟨s_.closed,(p.links.length:Int)⟩:bU)
abbrev k24:=(⟨s_.locked,(p.links.length:Int)⟩:bU)
abbrev k25:=(⟨s_.badLink,(p.links.length:Int)⟩:bU)
abbrev k26:=(⟨s_.on_,(p.sources.length:Int)⟩:bU)
abbrev k27:=(⟨s_.badSource,(p.sources.length:Int)⟩:bU)
abbrev k28:=(aj bU.cell [(k23 s_ p),(k24 s_ p),(k25 s_ p),(k26 s_ p),(k27 s_ p),(⟨s_.earthed,p.buses⟩:bU),(⟨s_.badBus,p.buses⟩:bU)])
abbrev VZ:=((0:Int)≤u0∧u0<(p.links.length:Int))
abbrev k30:=((gB [((decide (((at' p.links u0.toNat).kind)=1)),true)]=true→(0:Int)≤u0∧u0<(s_.closed.length:Int)))
abbrev k31:=((gB [((!(at' s_.closed u0.toNat)),false),((decide (((at' p.links u0.toNat).kind)=1)),true)]=true→(0:Int)≤u0∧u0<(s_.locked.length:Int)))
end
theorem dI (p:ai) (s_:State):dY Tryz.prog 10 (k20 s_ p) [] (fun r=>(vI r)) (fun _=>[]) (dh p s_):=
  eU tT mX Tryz.func10 (
  .rg {fr:=[(0,11),(1,12)]} []<| .cl 1 (uR p) fun r_=> .r<| .r<| .it (.r<| .e r_)
  (.r<| .rg {an:=[(30, .arr [(k23 s_ p),(k24 s_ p),(k25 s_ p),(k26 s_ p),(k27 s_ p),(⟨s_.earthed,p.buses⟩:bU),(⟨s_.badBus,p.buses⟩:bU)].length (k28 s_ p))],fr:=[(30,13)],fz:=[12]} [.pf ⟨[(k23 s_ p),(k24 s_ p),(k25 s_ p),(k26 s_ p),(k27 s_ p),(⟨s_.earthed,p.buses⟩:bU),(⟨s_.badBus,p.buses⟩:bU)].length=7,rfl⟩, .pf ⟨aD 7 2 (lH 2 [(aR none 1 af s_.closed),(.int .i64 (p.links.length:Int)),(aR none 1 af s_.locked),(.int .i64 (p.links.length:Int)),(aR none 1 af s_.badLink),(.int .i64 (p.links.length:Int)),(aR none 1 af s_.on_),(.int .i64 (p.sources.length:Int)),(k22 s_),(.int .i64 (p.sources.length:Int)),(aR none 1 af s_.earthed),(.int .i64 p.buses),(aR none 1 af s_.badBus),(.int .i64 p.buses)]) (k28 s_ p),(by intro i hi j hj;match i,j,hi,hj with|0,0,_,_=>rfl|0,1,_,_=>rfl|1,0,_,_=>rfl|1,1,_,_=>rfl|2,0,_,_=>rfl|2,1,_,_=>rfl|3,0,_,_=>rfl|3,1,_,_=>rfl|4,0,_,_=>rfl|4,1,_,_=>rfl|5,0,_,_=>rfl|5,1,_,_=>rfl|6,0,_,_=>rfl|6,1,_,_=>rfl)⟩]<| .lp (σ:=Int) (β:=Unit) (0) [] [] ⟨[2,3,53,54],[11,13],fun u1=>[(55,(vI u1))],fun u1=>[]⟩ ⟨[2,3],[11],fun _=>[],fun _=>[]⟩
  (fun u1=> .r<| .it (.a1 ((0:Int)≤u1∧u1<([(k23 s_ p),(k24 s_ p),(k25 s_ p),(k26 s_ p),(k27 s_ p),(⟨s_.earthed,p.buses⟩:bU),(⟨s_.badBus,p.buses⟩:bU)].length:Int))<| .rg {fr:=[(2,17)],fz:=[17]} [0, .t 0 u1 ([(k23 s_ p),(k24 s_ p),(k25 s_ p),(k26 s_ p),(k27 s_ p),(⟨s_.earthed,p.buses⟩:bU),(⟨s_.badBus,p.buses⟩:bU)].length)]<| .r<| .it (.r<| .e (.done (.ret 9)))
  (.r<| .e (.next (k10 u1))))
  (.e (.done (.brk ()))))
  (fun _=> .r<| .lp (σ:=Int) (β:=Unit) (0) [] [] ⟨[3,67,68],[],fun u0=>[(69,(vI u0))],fun u0=>[]⟩ ⟨[],[],fun _=>[],fun _=>[]⟩
  (fun u0=> .r<| .it (.a1 (VZ p u0)<| .rg {fr:=[(3,21)],fz:=[21]} []<| .a2 (k30 s_ p u0) (k31 s_ p u0)<| .rg {} [0,1]<| .it (.r<| .e (.done (.ret 9)))
  (.r<| .e (.next (k10 u0))))
  (.e (.done (.brk ()))))
  (fun _=> .r<| .e 0))))
theorem kK (i:Int) (x1:Int) (u1:(List Source)) (u0:(List Link)) (u2:(List aP)):dY Tryz.prog 98 [(sI i),(sD (k3 x1 u1 u0 u2))] [] (fun r=>(vB r)) (fun _=>[]) (dQ i x1 u1 u0 u2):=
  eU tT mX Tryz.func98 (
  .r<| .a1 ((gB [((bif (decide (0≤i))then(decide (i<(u0.length:Int)))else false),true)]=true→(0:Int)≤i∧i<(u0.length:Int)))<| .r<| .e (bif (bif (decide (0≤i))then(decide (i<(u0.length:Int)))else false)then(!decide (((at' u0 i.toNat).kind)=1))else false))
section
variable (x2:Int) (u0:(List Source)) (u1:(List Link)) (u2:(List aP))
abbrev ZT:DV:=(Ii [(.fn 98 1 (k8 x2 u0 u1 u2))] 0)
end
theorem qQ (x:Transfer) (x1:Int) (u3:(List Source)) (u4:(List Link)) (u5:(List aP)) (x2:Int) (u0:(List Source)) (u1:(List Link)) (u2:(List aP)):dY Tryz.prog 100 [(.agg [(cI x.watch),(cI x.open_),(cI x.close)]),(sD (k3 x1 u3 u4 u5)),(sD (ZT x2 u0 u1 u2))] [] (fun r=>(vB r)) (fun _=>[]) (fB x x1 u3 u4 u5 x2 u0 u1 u2):=
  eU tT mX Tryz.func100 (
  .rg {fr:=[(0,1)],fz:=[1]} []<| .cg 14 [((bif (decide (x.watch<0))then true else(decide (x1≤x.watch))),false)] (kK x.close x2 u0 u1 u2) fun r_=> .cg 25 [((!decide (x.open_=(-1))),true),((bif (bif (decide (x.watch<0))then true else(decide (x1≤x.watch)))then true else(!r_)),false)] (kK x.open_ x2 u0 u1 u2) fun u6=> .r<| .e (bif (bif (bif (decide (x.watch<0))then true else(decide (x1≤x.watch)))then true else(!r_))then true else(bif (!decide (x.open_=(-1)))then(bif (!u6)then true else(decide (x.open_=x.close)))else false)))
section
variable (s_:(List Transfer)) (f_:Int) (u0:(List Source)) (u1:(List Link)) (u2:(List aP)) (u3:Int) (u4:(List Source)) (u5:(List Link)) (u6:(List aP)) (t8:Int)
abbrev V9:DV:=(aR none 3 Transfer.cell s_)
abbrev k33:List SV:=[(sD (V9 s_)),(sD (.fn 100 2 (wB [(k3 f_ u0 u1 u2),(ZT u3 u4 u5 u6)])))]
abbrev XK:=((0:Int)≤t8∧t8<(s_.length:Int))
end
theorem tu (s_:(List Transfer)) (f_:Int) (u0:(List Source)) (u1:(List Link)) (u2:(List aP)) (u3:Int) (u4:(List Source)) (u5:(List Link)) (u6:(List aP)):dY Tryz.prog 148 (k33 s_ f_ u0 u1 u2 u3 u4 u5 u6) [] (fun r=>(vI r)) (fun _=>[]) (jV s_ f_ u0 u1 u2 u3 u4 u5 u6):=
  eU tT mX Tryz.func148 (
  .r<| .r<| .lp (σ:=Int) (β:=Unit) (0) [] [] ⟨[0,1,7],[],fun t8=>[(8,(vI t8))],fun t8=>[]⟩ ⟨[],[],fun _=>[],fun _=>[]⟩
  (fun t8=> .r<| .it (.r<| .cl 5 (qQ (at' s_ t8.toNat) f_ u0 u1 u2 u3 u4 u5 u6) fun r_=> .a1 (XK s_ t8)<| .rg {} [0,1]<| .it (.r<| .e (.done (.ret t8)))
  (.r<| .e (.next (k10 t8))))
  (.e (.done (.brk ()))))
  (fun _=> .r<| .e (-1)))
theorem qP (s_:(List Transfer)) (f_:Int) (u0:(List Source)) (u1:(List Link)) (u2:(List aP)) (u3:Int) (u4:(List Source)) (u5:(List Link)) (u6:(List aP)):dY Tryz.prog 99 (k33 s_ f_ u0 u1 u2 u3 u4 u5 u6) [] (fun r=>(vB r)) (fun _=>[]) (fD s_ f_ u0 u1 u2 u3 u4 u5 u6):=
  eU tT mX Tryz.func99 (
  .r<| .cl 2 (tu s_ f_ u0 u1 u2 u3 u4 u5 u6) fun r_=> .r<| .e (decide (0≤r_)))
section
variable (p:ai) (s_:State) (l:(List Transfer))
abbrev YJ:List SV:=[(.agg (k1 p)),(.agg (k21 s_)),(sD (V9 l))]
end
theorem lW (p:ai) (s_:State) (l:(List Transfer)):dY Tryz.prog 48 (YJ p s_ l) [] (fun r=>(vI r)) (fun _=>[]) (eP p s_ l):=
  eU tT mX Tryz.func48 (
  .rg {fr:=[(0,3),(1,4)],fz:=[4]} []<| .cl 2 (dI p s_) fun r_=> .r<| .r<| .it (.r<| .e r_)
  (.rg {fr:=[(1,5)],fz:=[3]} []<| .fz [5]<| .cg 6 [((decide (16<(l.length:Int))),false)] (qP l p.buses p.sources p.links p.racks p.buses p.sources p.links p.racks) fun u0=> .r<| .it (.r<| .e 1)
  (.r<| .e 0)))
section
variable (s_:(List Bool))
abbrev Xk:=(aj af (([]:List Bool)++s_))
end
theorem oZ (s_:(List Bool)) (u0:Bool):dY Tryz.prog 101 [(sD (aR (some u0) 1 af s_))] [] (fun r=>(vO 0 false r.length)) (fun r=>[(0,some (aZ 4 1 af r))]) (rF s_ u0):=
  eU tT mX Tryz.func101 (
  .r<| .r<| .it (.r<| .im (.ad 2 2 4 1 (aj af ([]:List Bool)))<| .en ([]:List Bool) [] [(2,0)])
  (.a2 ((([]:List Bool).length+s_.length)*1≤140737488355328) (([]:List Bool).length+s_.length≤4611686018427387904)<| .rg {an:=[(0, .arr ([]:List Bool).length (aj af ([]:List Bool))),(2, .arr (([]:List Bool)++s_).length (Xk s_))],fr:=[(0,3),(2,4)]} [.pf ⟨([]:List Bool).length=0,rfl⟩, .pf ⟨aD 0 1 (lH 1 []) (aj af ([]:List Bool)),(fun i hi=>absurd hi (Nat.not_lt_zero i))⟩, .e (([]:List Bool).length),0,1, .pf ⟨(([]:List Bool)++s_).length=([]:List Bool).length+s_.length,List.length_append⟩, .pf ⟨aD (([]:List Bool).length+s_.length) 1 (qf (aj af ([]:List Bool)) ([]:List Bool).length (aj af s_)) (Xk s_),bW _ _ _ _⟩]<| .en (([]:List Bool)++s_) [] [(4,0)]))
theorem aK (s:(List Bool)) {r:(List Bool)} (h:aU s=some r):Fn Tryz.prog 101 [(sD (aR none 1 af s))] [] (vO 0 false r.length) [(0,some (aZ 4 1 af r))]:=by
 refine Fn.nn (oZ s true h) fun hl=> ?_
 have hs:s=[]:=List.eq_nil_of_length_eq_zero hl
 subst hs
 exact oZ [] false (by rw [←h];kernel_rfl)
section
variable (s_:State) (r_:(List Bool)) (u0:(List Bool)) (u1:(List Bool)) (u2:(List Bool)) (u3:(List Bool)) (u4:(List Bool)) (u5:(List Bool))
abbrev YI:List SV:=[(.agg (k21 s_))]
abbrev Np:=(⟨r_,u0,u1,u2,u3,u4,u5⟩:State)
end
theorem xH (s_:State):dY Tryz.prog 49 (YI s_) [] (fun r=>(.v (.agg [(.own 0 false r.closed.length),(.own 1 false r.locked.length),(.own 2 false r.badLink.length),(.own 3 false r.on_.length),(.own 4 false r.badSource.length),(.own 5 false r.earthed.length),(.own 6 false r.badBus.length)]))) (fun r=>[(0,some (aZ 4 1 af r.closed)),(1,some (aZ 4 1 af r.locked)),(2,some (aZ 4 1 af r.badLink)),(3,some (aZ 4 1 af r.on_)),(4,some (aZ 4 1 af r.badSource)),(5,some (aZ 4 1 af r.earthed)),(6,some (aZ 4 1 af r.badBus)),(7,none)]) (nR s_):=
  eU tT mX Tryz.func49 (
  .rg {fr:=[(0,10),(1,11)]} []<| .rg {an:=[(7, .cells)],fr:=[(7,12)]} []<| .ul 11<| .r<| .t<| .a1 ((0:Int)≤0∧0<(7:Int))<| .r<| .cl 4 (jG [(0,13)] ⟨fun h=>aK s_.closed h⟩) fun r_=> .r<| .r<| .im (.dp [1,2,12,13,14])<| .r<| .t<| .a1 ((0:Int)≤1∧1<(7:Int))<| .r<| .cl 4 (jG [(0,14)] ⟨fun h=>aK s_.locked h⟩) fun u0=> .r<| .r<| .im (.dp [1,2,12,13,14])<| .r<| .t<| .a1 ((0:Int)≤2∧2<(7:Int))<| .r<| .cl 4 (jG [(0,15)] ⟨fun h=>aK s_.badLink h⟩) fun u1=> .r<| .r<| .im (.dp [1,2,12,13,14])<| .r<| .t<| .a1 ((0:Int)≤3∧3<(7:Int))<| .r<| .cl 4 (jG [(0,16)] ⟨fun h=>aK s_.on_ h⟩) fun u2=> .r<| .r<| .im (.dp [1,2,12,13,14])<| .r<| .t<| .a1 ((0:Int)≤4∧4<(7:Int))<| .r<| .cl 4 (jG [(0,17)] ⟨fun h=>aK s_.badSource h⟩) fun u3=> .r<| .r<| .im (.dp [1,2,12,13,14])<| .r<| .t<| .a1 ((0:Int)≤5∧5<(7:Int))<| .r<| .cl 4 (jG [(0,18)] ⟨fun h=>aK s_.earthed h⟩) fun u4=> .r<| .r<| .im (.dp [1,2,12,13,14])<| .r<| .t<| .a1 ((0:Int)≤6∧6<(7:Int))<| .r<| .cl 4 (jG [(0,19)] ⟨fun h=>aK s_.badBus h⟩) fun u5=> .r<| .r<| .im (.dp [1,2,12,13,14])<| .r<| .f<| .r<| .en (Np r_ u0 u1 u2 u3 u4 u5) [] [(13,0),(14,1),(15,2),(16,3),(17,4),(18,5),(19,6),(11,7)])
section
variable (s_:State)
abbrev WV:List CV:=[(.own 0 false s_.closed.length),(.own 1 false s_.locked.length),(.own 2 false s_.badLink.length),(.own 3 false s_.on_.length),(.own 4 false s_.badSource.length),(.own 5 false s_.earthed.length),(.own 6 false s_.badBus.length)]
abbrev Ul:Nat × Option Ob:=(0,some (aZ 4 1 af s_.closed))
abbrev Kw:Nat × Option Ob:=(1,some (aZ 4 1 af s_.locked))
abbrev J4:Nat × Option Ob:=(2,some (aZ 4 1 af s_.badLink))
abbrev I8:Nat × Option Ob:=(3,some (aZ 4 1 af s_.on_))
abbrev JZ:Nat × Option Ob:=(4,some (aZ 4 1 af s_.badSource))
abbrev Jq:Nat × Option Ob:=(5,some (aZ 4 1 af s_.earthed))
abbrev Jb:Nat × Option Ob:=(6,some (aZ 4 1 af s_.badBus))
abbrev C8:List (Nat × Option Ob):=[(Ul s_),(Kw s_),(J4 s_),(I8 s_),(JZ s_),(Jq s_),(Jb s_)]
end
theorem wW (p:ai) (s_:State) (l:(List Transfer)):dY Tryz.prog 50 [(.agg (k1 p)),(.agg (WV s_)),(sD (V9 l))] (C8 s_) (fun r=>(.v (.one (.fn 102 0 3 (PW [(.d (Ii [(aR none 3 Transfer.cell r.1)] 0)),(.d (Ii [(.int .i64 r.2.1),(aR none 5 Source.cell r.2.2.1),(aR none 6 Link.cell r.2.2.2.1),(aR none 4 aP.cell r.2.2.2.2.1)] 0)),(.ptr 7 0)]))))) (fun r=>[(Ul s_),(Kw s_),(J4 s_),(I8 s_),(JZ s_),(Jq s_),(Jb s_),(7,some (.cells 29 (WV s_)))]) (nG p s_ l):=
  eU tT mX Tryz.func50 (
  .rg {fr:=[(0,10),(1,11),(2,12)],fz:=[10,12]} []<| .r<| .en (l,p.buses,p.sources,p.links,p.racks,s_) [] [(11,7)])
noncomputable def iI:iD:=⟨[28,29],MV ([1,1,1,1,0,1,0]++[0]) (vH Tryz.f13),MV ([1,1,1,1,0,1,0]++[1]) (vH Tryz.f13),37,[]⟩
theorem wE (p:ai) (s_:State):dY Tryz.prog 104 (k20 s_ p) [] (fun r=>(vD (.fn 152 2 (wB [(Ii [(.int .i64 r.1),(aR none 5 Source.cell r.2.1),(aR none 6 Link.cell r.2.2.1),(aR none 4 aP.cell r.2.2.2.1)] 0),(Ii [(aR none 1 af r.2.2.2.2.1),(aR none 1 af r.2.2.2.2.2.1),(aR none 1 af r.2.2.2.2.2.2.1),(aR none 1 af r.2.2.2.2.2.2.2.1),(aR none 1 af r.2.2.2.2.2.2.2.2.1),(aR none 1 af r.2.2.2.2.2.2.2.2.2.1),(aR none 1 af r.2.2.2.2.2.2.2.2.2.2)] 0)])))) (fun _=>[]) (jH p s_):=
  eU tT mX Tryz.func104 (
  .rg {fr:=[(0,2),(1,3)],fz:=[2,3]} []<| .r<| .e (p.buses,p.sources,p.links,p.racks,s_.closed,s_.locked,s_.badLink,s_.on_,s_.badSource,s_.earthed,s_.badBus))
noncomputable def rY:iD:=⟨[22],MV ([1,1,0,1,0]++[0]) (vH Tryz.f51),MV ([1,1,0,1,0]++[1]) (vH Tryz.f51),125,[]⟩
section
variable (g:aY)
abbrev ZI:List (Nat × Option Ob):=[(0,some (HV 3 3 false false 1 1 (aF .i64) (aF .i64) g.head))]
end
theorem fC (g:aY) (x:Int):dY Tryz.prog 106 [(.agg [(.mp 0)]),(sI x)] (ZI g) (fun r=>(vI r)) (fun r=>(ZI g)) (bV g x):=
  eU tT mX Tryz.func106 (
  .rg {fr:=[(0,2)]} []<| .lp (σ:=Int) (β:=Unit) (x) [] [] ⟨[2],[0,2],fun x1=>[(1,(vI x1))],fun x1=>[]⟩ ⟨[],[],fun _=>[],fun _=>[]⟩
  (fun x1=> .rg {an:=[(3, .look (aV bT x1 g.head).isSome [(cI ((aV bT x1 g.head).getD 0))])]} [.pf ⟨jC [some .i64] 1 1 g.head.length (wF (aF .i64) g.head) (wS (aF .i64) g.head) [(.int .i64 x1)] [(.d (.int .i64 0))] (aV bT x1 g.head).isSome [(cI ((aV bT x1 g.head).getD 0))],jR (fun _=>rfl) (fun _ _=>rfl) g.head x1 0 rfl rfl rfl⟩]<| .r<| .it (.r<| .e (.done (.ret x1)))
  (.r<| .e (.next ((aV bT x1 g.head).getD 0))))
  (fun _=> .no))
theorem vU (g:aY) (a:Int) (b:Int):dY Tryz.prog 105 [(.agg [(.mp 0)]),(sI a),(sI b)] (ZI g) (fun r=>(.dX [])) (fun r=>[(0,some (HV 3 3 false false 1 1 (aF .i64) (aF .i64) r))]) (iX g a b):=
  eU tT mX Tryz.func105 (
  .rg {fr:=[(0,2)]} []<| .cr 2 (fC g a) fun r_=> .cr 5 (fC g b) fun u0=> .r<| .r<| .it (.rg {an:=[(4, .map (fO bT r_ u0 g.head).length (wF (aF .i64) (fO bT r_ u0 g.head)) (wS (aF .i64) (fO bT r_ u0 g.head)) [])]} [.pf ⟨oW [some .i64] 1 1 g.head.length (wF (aF .i64) g.head) (wS (aF .i64) g.head) [(.int .i64 r_)] [(cI u0)] [] (fO bT r_ u0 g.head).length (wF (aF .i64) (fO bT r_ u0 g.head)) (wS (aF .i64) (fO bT r_ u0 g.head)),Dt (fun _=>rfl) (fun _ _=>rfl) g.head r_ u0 rfl rfl⟩]<| .e (fO bT r_ u0 g.head))
  (.e g.head))
section
variable (o_:aY)
abbrev Y9:Nat × Option Ob:=(0,some (.loop rY 0 [(5,(vP 1 0))]))
abbrev k50:List (Nat × Option Ob):=[Y9,(1,some (.cells 178 [(.mp 2)])),(2,some (HV 3 3 false false 1 1 (aF .i64) (aF .i64) o_.head))]
end
theorem uM (u0:Int) (u1:Int) (u2:Int) (u3:Int) (u4:Int) (u5:(List tY)) (o_:aY):Vq Tryz.prog 0 [(.agg [(cI u0),(cI u1),(cI u2),(cI u3),(cI u4),(.d (aR none 2 tY.cell u5))])] (k50 o_) (fun _=>vB true) (fun r=>[Y9,(1,some (.cells 178 [(.mp 2)])),(2,some (HV 3 3 false false 1 1 (aF .i64) (aF .i64) r.head))]) (kN u0 u1 u2 u3 u4 u5 o_):=
  Z0 tT mX rY ⟨[5],[0,1,2],fun _=>[(6,(vD (Ii [(.int .i64 u0),(.int .i64 u1),(.int .i64 u2),(.int .i64 u3),(.int .i64 u4),(aR none 2 tY.cell u5)] 0)))],fun _=>[]⟩ (.rg {fr:=[(0,4)],fz:=[4]} []<| .e ())
  (.cl 5 (jG [(0,2)] (vU o_ u0 u1)) fun r_=> .r<| .e (⟨r_⟩:aY))
section
variable (x2:(List Bool)) (u6:(List Bool)) (u2:(List Bool)) (u7:(List Bool)) (u8:(List Bool)) (u9:(List Bool)) (u1:(List Bool)) (t9:Int) (u0:(List Link))
abbrev X9:DV:=(Ii [(aR none 1 af x2),(aR none 1 af u6),(aR none 1 af u2),(aR none 1 af u7),(aR none 1 af u8),(aR none 1 af u9),(aR none 1 af u1)] 0)
abbrev Z4:=(bif (bif (at' x2 t9.toNat)then(!(at' u2 t9.toNat))else false)then(!(at' u1 (((at' u0 t9.toNat).a).toNat)))else false)
abbrev Rh:=((0:Int)≤t9∧t9<(x2.length:Int))
abbrev Z7:=((gB [((bif (at' x2 t9.toNat)then(!(at' u2 t9.toNat))else false),true)]=true→(0:Int)≤(at' u0 t9.toNat).a∧(at' u0 t9.toNat).a<(u1.length:Int)))
abbrev k56:=((gB [((Z4 x2 u2 u1 t9 u0),true)]=true→(0:Int)≤(at' u0 t9.toNat).b∧(at' u0 t9.toNat).b<(u1.length:Int)))
end
theorem uE (x1:Int) (u4:(List Source)) (u0:(List Link)) (u5:(List aP)) (x2:(List Bool)) (u6:(List Bool)) (u2:(List Bool)) (u7:(List Bool)) (u8:(List Bool)) (u9:(List Bool)) (u1:(List Bool)) (o_:aY):dY Tryz.prog 152 [(.one (.yl 0)),(sD (k3 x1 u4 u0 u5)),(sD (X9 x2 u6 u2 u7 u8 u9 u1))] (k50 o_) (fun r=>(.dX [])) (fun r=>[Y9,(1,some (.cells 178 [(.mp 2)])),(2,some (HV 3 3 false false 1 1 (aF .i64) (aF .i64) r.head))]) (kS x1 u4 u0 u5 x2 u6 u2 u7 u8 u9 u1 o_):=
  eU tT mX Tryz.func152 (
  .r<| .lp (σ:=((List (Int × Int)) × Int)) (β:=(List (Int × Int))) (o_.head,0) [] [] ⟨[0,2,7,8],[0,1],fun(u3,t9)=>[(9,(vI t9))],fun(u3,t9)=>[(2,some (HV 3 3 false false 1 1 (aF .i64) (aF .i64) u3))]⟩ ⟨[],[0,1],fun o501=>[],fun o501=>[(2,some (HV 3 3 false false 1 1 (aF .i64) (aF .i64) o501))]⟩
  (fun(u3,t9)=> .r<| .it (.a1 ((0:Int)≤t9∧t9<(u0.length:Int))<| .rg {fr:=[(3,10)],fz:=[10]} []<| .fk (bif (Z4 x2 u2 u1 t9 u0)then(!(at' u1 (((at' u0 t9.toNat).b).toNat)))else false) (.cy 34 (uM ((at' u0 t9.toNat).a) ((at' u0 t9.toNat).b) ((at' u0 t9.toNat).kind) ((at' u0 t9.toNat).most) ((at' u0 t9.toNat).ohm) ((at' u0 t9.toNat).trip) (⟨u3⟩:aY)) fun r_=> .a4 (Rh x2 t9) ((gB [((at' x2 t9.toNat),true)]=true→(0:Int)≤t9∧t9<(u2.length:Int))) (Z7 x2 u2 u1 t9 u0) (k56 x2 u2 u1 t9 u0)<| .rg {ov:=[(31,true,5)]} [0,1,2,3, .k 4]<| .f<| .r<| .e (.next (r_.head,(k10 t9))))
  (.a4 (Rh x2 t9) ((gB [((at' x2 t9.toNat),true)]=true→(0:Int)≤t9∧t9<(u2.length:Int))) (Z7 x2 u2 u1 t9 u0) (k56 x2 u2 u1 t9 u0)<| .rg {ov:=[(31,false,4)],sk:=[32,33,34,35]} [0,1,2,3]<| .f<| .r<| .e (.next (u3,(k10 t9)))))
  (.e (.done (.brk u3))))
  (fun o501=> .e (⟨o501⟩:aY)))
section
variable (u1:(List aG)) (u2:(List (Int × Int))) (u0:Int) (u3:Int) (u7:Int) (p:ai) (s_:State) (u5:(List aG)) (u6:Int) (u4:(List (Int × Int)))
abbrev Z8:List (Nat × Option Ob):=[(60,some (.rows 122 2 u1.length (vW aG.ev u1) none)),(61,some (HV 3 3 false false 1 1 (aF .i64) (aF .i64) u2))]
abbrev FB:=((aV bT u0 u2).getD 0)
abbrev VU:List CV:=[(cI (FB u2 u0))]
abbrev Mw:=(fO bT u0 (u1.length:Int) u2)
abbrev Rf:=(u1++[(⟨([]:List Int),([]:List Int)⟩:aG)])
abbrev ZO:=(vW aG.ev (Rf u1))
abbrev Ru:=((aV bT u0 (Mw u1 u2 u0)).getD 0)
abbrev Zm:=((Ru u1 u2 u0).toNat)
abbrev Z5:=(at' (Rf u1) (Zm u1 u2 u0))
abbrev Uq:=((Z5 u1 u2 u0).buses)
abbrev Z6:=((Uq u1 u2 u0).length+[u3].length)
abbrev VY:=((Uq u1 u2 u0)++[u3])
abbrev Zw:=(aj (aF .i64) (VY u1 u2 u0 u3))
abbrev Zf:=((Rf u1).set (Zm u1 u2 u0) (⟨(VY u1 u2 u0 u3),(Z5 u1 u2 u0).sources⟩:aG))
abbrev ZV:=(vW aG.ev (Zf u1 u2 u0 u3))
abbrev R9:=((at' u1 ((FB u2 u0).toNat)).buses)
abbrev V4:=((R9 u1 u2 u0)++[u3])
abbrev ZB:=(aj (aF .i64) (V4 u1 u2 u0 u3))
abbrev Y4:=(u1.set ((FB u2 u0).toNat) (⟨(V4 u1 u2 u0 u3),(at' u1 ((FB u2 u0).toNat)).sources⟩:aG))
abbrev ZY:=(vW aG.ev (Y4 u1 u2 u0 u3))
abbrev X6:=((0:Int)≤u7∧u7<(p.sources.length:Int))
abbrev Zv:=((gB [((at' s_.on_ u7.toNat),true)]=true→(0:Int)≤u7∧u7<(s_.badSource.length:Int)))
abbrev Zb:=((gB [((bif (at' s_.on_ u7.toNat)then(!(at' s_.badSource u7.toNat))else false),true)]=true→(0:Int)≤(at' p.sources u7.toNat).bus∧(at' p.sources u7.toNat).bus<(s_.badBus.length:Int)))
abbrev Uo:=((at' p.sources u7.toNat).bus)
abbrev Uc:=((at' u5 ((FB u4 u6).toNat)).sources)
abbrev VX:=((Uc u5 u6 u4)++[u7])
abbrev ZM:=(aj (aF .i64) (VX u7 u5 u6 u4))
abbrev ZK:=(u5.set ((FB u4 u6).toNat) (⟨(at' u5 ((FB u4 u6).toNat)).buses,(VX u7 u5 u6 u4)⟩:aG))
abbrev k84:=(vW aG.ev (ZK u7 u5 u6 u4))
end
theorem mH (p:ai) (s_:State):dY Tryz.prog 51 (k20 s_ p) [] (fun r=>(vD (aR none 2 aG.cell r))) (fun _=>[]) (fM p s_):=
  eU tT mX Tryz.func51 (
  .rg {fr:=[(0,55),(1,56)],fz:=[56]} []<| .rg {an:=[(0, .map 0 (wF (aF .i64) ([]:(List (Int × Int)))) (wS (aF .i64) ([]:(List (Int × Int)))) [])],fr:=[(0,57),(2,58)]} []<| .cl 2 (wE p s_) fun r_=> .r<| .cl 0 (jG [(0,59),(1,58),(2,57)] (uE r_.1 r_.2.1 r_.2.2.1 r_.2.2.2.1 r_.2.2.2.2.1 r_.2.2.2.2.2.1 r_.2.2.2.2.2.2.1 r_.2.2.2.2.2.2.2.1 r_.2.2.2.2.2.2.2.2.1 r_.2.2.2.2.2.2.2.2.2.1 r_.2.2.2.2.2.2.2.2.2.2 (⟨([]:(List (Int × Int)))⟩:aY))) fun v0=> .rf 59 [5] [] none 0 []<| .r<| .im (.adR 7 60 122 2 (vW aG.ev ([]:List aG)))<| .rg {an:=[(0, .map 0 (wF (aF .i64) ([]:(List (Int × Int)))) (wS (aF .i64) ([]:(List (Int × Int)))) [])],fr:=[(0,61)]} []<| .r<| .lp (σ:=((List aG) × (List (Int × Int)) × Int)) (β:=((List aG) × (List (Int × Int)))) (([]:List aG),([]:(List (Int × Int))),0) [] [] ⟨[2,3,5,8,31],[55,57,58],fun(u1,u2,u3)=>[(7,(vO 60 false u1.length)),(32,(vI u3))],fun(u1,u2,u3)=>(Z8 u1 u2)⟩ ⟨[2,3,5,8],[55,57,58],fun(u9,u4)=>[(7,(vO 60 false u9.length))],fun(u9,u4)=>(Z8 u9 u4)⟩
  (fun(u1,u2,u3)=> .r<| .it (.r<| .a1 ((0:Int)≤u3∧u3<(s_.badBus.length:Int))<| .r<| .it (.r<| .e (.next (u1,u2,(k10 u3))))
  (.cr 2 (jG [(0,57)] (fC v0 u3)) fun u0=> .r<| .rg {an:=[(2, .look (aV bT u0 u2).isSome (VU u2 u0))]} [.pf ⟨jC [some .i64] 1 1 u2.length (wF (aF .i64) u2) (wS (aF .i64) u2) [(.int .i64 u0)] [(.d (.int .i64 0))] (aV bT u0 u2).isSome (VU u2 u0),jR (fun _=>rfl) (fun _ _=>rfl) u2 u0 0 rfl rfl rfl⟩]<| .r<| .it (.rg {an:=[(4, .map (Mw u1 u2 u0).length (wF (aF .i64) (Mw u1 u2 u0)) (wS (aF .i64) (Mw u1 u2 u0)) [])]} [.pf ⟨oW [some .i64] 1 1 u2.length (wF (aF .i64) u2) (wS (aF .i64) u2) [(.int .i64 u0)] [(cI (u1.length:Int))] [] (Mw u1 u2 u0).length (wF (aF .i64) (Mw u1 u2 u0)) (wS (aF .i64) (Mw u1 u2 u0)),Dt (fun _=>rfl) (fun _ _=>rfl) u2 u0 (u1.length:Int) rfl rfl⟩]<| .a2 ((u1.length+[(⟨([]:List Int),([]:List Int)⟩:aG)].length)*48≤140737488355328) (u1.length+[(⟨([]:List Int),([]:List Int)⟩:aG)].length≤4611686018427387904)<| .rg {an:=[(2, .arr [(⟨([]:List Int),([]:List Int)⟩:aG)].length (lH 2 [nS,nS])),(3, .rows (Rf u1).length (ZO u1))],fr:=[(2,86),(3,87)]} [.pf ⟨[(⟨([]:List Int),([]:List Int)⟩:aG)].length=1,rfl⟩, .pf ⟨aD 1 2 (lH 2 [nS,nS]) (lH 2 [nS,nS]),Dz _ _ _⟩, .e (u1.length),0,1, .pf ⟨(Rf u1).length=u1.length+[(⟨([]:List Int),([]:List Int)⟩:aG)].length,List.length_append⟩, .pf ⟨CU u1.length [(⟨([]:List Int),([]:List Int)⟩:aG)].length 2 (vW aG.ev u1) (lH 2 [nS,nS]) (ZO u1),Rl _ _ _ _ _ (by intro i hi j hj;match i,j,hi,hj with|0,0,_,_=>exact⟨rfl,_,_,_,rfl⟩|0,1,_,_=>exact⟨rfl,_,_,_,rfl⟩)⟩]<| .rg {an:=[(2, .look (aV bT u0 (Mw u1 u2 u0)).isSome [(cI (Ru u1 u2 u0))])]} [.pf ⟨jC [some .i64] 1 1 (Mw u1 u2 u0).length (wF (aF .i64) (Mw u1 u2 u0)) (wS (aF .i64) (Mw u1 u2 u0)) [(.int .i64 u0)] [(.d (.int .i64 0))] (aV bT u0 (Mw u1 u2 u0)).isSome [(cI (Ru u1 u2 u0))],jR (fun _=>rfl) (fun _ _=>rfl) (Mw u1 u2 u0) u0 0 rfl rfl rfl⟩]<| .a3 ((0:Int)≤(Ru u1 u2 u0)∧(Ru u1 u2 u0)<((Rf u1).length:Int)) ((Z6 u1 u2 u0 u3)*8≤140737488355328) ((Uq u1 u2 u0).length+[u3].length≤4611686018427387904)<| .rg {an:=[(6, .take 88),(8, .arr [u3].length (aj (aF .i64) [u3])),(9, .arr (VY u1 u2 u0 u3).length (Zw u1 u2 u0 u3)),(12, .rows 0 (ZV u1 u2 u0 u3))],fr:=[(8,89),(9,90)]} [0, .t 0 (Ru u1 u2 u0) ((Rf u1).length), .pf ⟨[u3].length=1,rfl⟩, .pf ⟨aD 1 1 (lH 1 [(.int .i64 u3)]) (aj (aF .i64) [u3]),(by intro i hi j hj;match i,j,hi,hj with|0,0,_,_=>rfl)⟩, .e ((Uq u1 u2 u0).length),1,2, .pf ⟨(VY u1 u2 u0 u3).length=(Uq u1 u2 u0).length+[u3].length,List.length_append⟩, .pf ⟨aD (Z6 u1 u2 u0 u3) 1 (qf (aj (aF .i64) (Uq u1 u2 u0)) (Uq u1 u2 u0).length (aj (aF .i64) [u3])) (Zw u1 u2 u0 u3),bW _ _ _ _⟩,0, .t 0 (Ru u1 u2 u0) ((Rf u1).length), .e ((VY u1 u2 u0 u3).length), .pf ⟨Q0 (Rf u1).length 2 (Uz (ZO u1) (Zm u1 u2 u0) 0 (.row 3 1 (VY u1 u2 u0 u3).length (Zw u1 u2 u0 u3))) (ZV u1 u2 u0 u3),EC _ _ _ _ _ _ _ _ rfl (fun j hj=>(match j,hj with|0,_=>rfl|1,_=>rfl))⟩, .pf ⟨∀i0 j0 c0,((some ((Ru u1 u2 u0).toNat,0,CV.own 88 false (Uq u1 u2 u0).length)):Option (Nat × Nat × CV))=some (i0,j0,c0)→i0=(Ru u1 u2 u0).toNat∧j0=0,(fun i0 j0 c0 e=>by cases e;exact⟨rfl,rfl⟩)⟩]<| .im (.ll 87 (Rf u1) (Zf u1 u2 u0 u3))<| .r<| .en (.next ((Zf u1 u2 u0 u3),(Mw u1 u2 u0),(k10 u3))) [] [(87,60)])
  (.rg {an:=[(2, .look (aV bT u0 u2).isSome (VU u2 u0))]} [.pf ⟨jC [some .i64] 1 1 u2.length (wF (aF .i64) u2) (wS (aF .i64) u2) [(.int .i64 u0)] [(.d (.int .i64 0))] (aV bT u0 u2).isSome (VU u2 u0),jR (fun _=>rfl) (fun _ _=>rfl) u2 u0 0 rfl rfl rfl⟩]<| .a3 ((0:Int)≤(FB u2 u0)∧(FB u2 u0)<(u1.length:Int)) (((R9 u1 u2 u0).length+[u3].length)*8≤140737488355328) ((R9 u1 u2 u0).length+[u3].length≤4611686018427387904)<| .rg {an:=[(6, .take 91),(8, .arr [u3].length (aj (aF .i64) [u3])),(9, .arr (V4 u1 u2 u0 u3).length (ZB u1 u2 u0 u3)),(12, .rows 0 (ZY u1 u2 u0 u3))],fr:=[(8,92),(9,93)]} [0, .t 0 (FB u2 u0) u1.length, .pf ⟨[u3].length=1,rfl⟩, .pf ⟨aD 1 1 (lH 1 [(.int .i64 u3)]) (aj (aF .i64) [u3]),(by intro i hi j hj;match i,j,hi,hj with|0,0,_,_=>rfl)⟩, .e ((R9 u1 u2 u0).length),1,2, .pf ⟨(V4 u1 u2 u0 u3).length=(R9 u1 u2 u0).length+[u3].length,List.length_append⟩, .pf ⟨aD ((R9 u1 u2 u0).length+[u3].length) 1 (qf (aj (aF .i64) (R9 u1 u2 u0)) (R9 u1 u2 u0).length (aj (aF .i64) [u3])) (ZB u1 u2 u0 u3),bW _ _ _ _⟩,0, .t 0 (FB u2 u0) u1.length, .e ((V4 u1 u2 u0 u3).length), .pf ⟨Q0 u1.length 2 (Uz (vW aG.ev u1) ((FB u2 u0).toNat) 0 (.row 3 1 (V4 u1 u2 u0 u3).length (ZB u1 u2 u0 u3))) (ZY u1 u2 u0 u3),EC _ _ _ _ _ _ _ _ rfl (fun j hj=>(match j,hj with|0,_=>rfl|1,_=>rfl))⟩, .pf ⟨∀i0 j0 c0,((some ((FB u2 u0).toNat,0,CV.own 91 false (R9 u1 u2 u0).length)):Option (Nat × Nat × CV))=some (i0,j0,c0)→i0=(FB u2 u0).toNat∧j0=0,(fun i0 j0 c0 e=>by cases e;exact⟨rfl,rfl⟩)⟩]<| .im (.ll 60 u1 (Y4 u1 u2 u0 u3))<| .r<| .e (.next ((Y4 u1 u2 u0 u3),u2,(k10 u3))))))
  (.e (.done (.brk (u1,u2)))))
  (fun(u9,u4)=> .r<| .lp (σ:=((List aG) × Int)) (β:=(List aG)) (u9,0) [] [] ⟨[3,5,8,76,77],[57,58,61],fun(u5,u7)=>[(7,(vO 60 false u5.length)),(78,(vI u7))],fun(u5,u7)=>[(60,some (.rows 122 2 u5.length (vW aG.ev u5) none))]⟩ ⟨[],[],fun u8=>[(7,(vO 60 false u8.length))],fun u8=>[(60,some (.rows 122 2 u8.length (vW aG.ev u8) none))]⟩
  (fun(u5,u7)=> .r<| .it (.a1 (X6 u7 p)<| .rg {fr:=[(3,106)],fz:=[106]} []<| .a3 ((0:Int)≤u7∧u7<(s_.on_.length:Int)) (Zv u7 s_) (Zb u7 p s_)<| .rg {} [0,1,2]<| .it (.cr 4 (jG [(0,57)] (fC v0 (Uo u7 p))) fun u6=> .rg {an:=[(5, .look (aV bT u6 u4).isSome (VU u4 u6))]} [0, .pf ⟨jC [some .i64] 1 1 u4.length (wF (aF .i64) u4) (wS (aF .i64) u4) [(.int .i64 u6)] [(.d (.int .i64 0))] (aV bT u6 u4).isSome (VU u4 u6),jR (fun _=>rfl) (fun _ _=>rfl) u4 u6 0 rfl rfl rfl⟩]<| .a3 ((0:Int)≤(FB u4 u6)∧(FB u4 u6)<(u5.length:Int)) (((Uc u5 u6 u4).length+[u7].length)*8≤140737488355328) ((Uc u5 u6 u4).length+[u7].length≤4611686018427387904)<| .rg {an:=[(6, .take 107),(8, .arr [u7].length (aj (aF .i64) [u7])),(9, .arr (VX u7 u5 u6 u4).length (ZM u7 u5 u6 u4)),(12, .rows 0 (k84 u7 u5 u6 u4))],fr:=[(8,108),(9,109)]} [0, .t 0 (FB u4 u6) u5.length, .pf ⟨[u7].length=1,rfl⟩, .pf ⟨aD 1 1 (lH 1 [(.int .i64 u7)]) (aj (aF .i64) [u7]),(by intro i hi j hj;match i,j,hi,hj with|0,0,_,_=>rfl)⟩, .e ((Uc u5 u6 u4).length),1,2, .pf ⟨(VX u7 u5 u6 u4).length=(Uc u5 u6 u4).length+[u7].length,List.length_append⟩, .pf ⟨aD ((Uc u5 u6 u4).length+[u7].length) 1 (qf (aj (aF .i64) (Uc u5 u6 u4)) (Uc u5 u6 u4).length (aj (aF .i64) [u7])) (ZM u7 u5 u6 u4),bW _ _ _ _⟩,0, .t 0 (FB u4 u6) u5.length, .e ((VX u7 u5 u6 u4).length), .pf ⟨Q0 u5.length 2 (Uz (vW aG.ev u5) ((FB u4 u6).toNat) 1 (.row 3 1 (VX u7 u5 u6 u4).length (ZM u7 u5 u6 u4))) (k84 u7 u5 u6 u4),EC _ _ _ _ _ _ _ _ rfl (fun j hj=>(match j,hj with|0,_=>rfl|1,_=>rfl))⟩, .pf ⟨∀i0 j0 c0,((some ((FB u4 u6).toNat,1,CV.own 107 false (Uc u5 u6 u4).length)):Option (Nat × Nat × CV))=some (i0,j0,c0)→i0=(FB u4 u6).toNat∧j0=1,(fun i0 j0 c0 e=>by cases e;exact⟨rfl,rfl⟩)⟩]<| .im (.ll 60 u5 (ZK u7 u5 u6 u4))<| .r<| .e (.next ((ZK u7 u5 u6 u4),(k10 u7))))
  (.r<| .e (.next (u5,(k10 u7)))))
  (.e (.done (.brk u5))))
  (fun u8=> .r<| .fz [60]<| .im (.us 4 (vD (.sl none 2 u8.length (fun i j=>Zu (vW aG.ev u8 i j)))) (vD (aR none 2 aG.cell u8)) (Cj.v (oP.one (dW.d (dJ.sl (.inr rfl) (fun i _ j hj=>match j,hj with|0,_=> .refl _|1,_=> .refl _))))))<| .e u8)))
section
variable (p:ai) (u1:(List aG)) (u0:Int) (u3:Int) (u2:(List Bool)) (u6:(List Bool))
abbrev V8:=((1:Int)*p.buses≤281474976710656)
abbrev Wh:=((p.buses:Int)≤9223372036854775807)
abbrev BU:=(List.replicate p.buses.toNat (false:Bool))
abbrev MQ:=(aj af (BU p))
abbrev VT:=(at' ((at' u1 u0.toNat).buses) u3.toNat)
abbrev k90:=((0:Int)≤(VT u1 u0 u3)∧(VT u1 u0 u3)<(u2.length:Int))
abbrev YS:=(u2.set ((VT u1 u0 u3).toNat) (decide (0<(((at' u1 u0.toNat).sources).length:Int))))
abbrev YR:=(aj af (YS u1 u0 u3 u2))
abbrev ZX:=(iG (aj af u2) ((VT u1 u0 u3).toNat) 0 [(.bool (decide (0<(((at' u1 u0.toNat).sources).length:Int))))])
abbrev Z9:=((YS u1 u0 u3 u2),(k10 u3))
abbrev Rc:=(u6,(k10 u0))
end
theorem pM (p:ai) (s_:State):dY Tryz.prog 14 (k20 s_ p) [] (fun r=>(.dX [(.one (.own 0 false r.1.length)),(sI r.2)])) (fun r=>[(0,some (aZ 4 1 af r.1))]) (dA p s_):=
  eU tT mX Tryz.func14 (
  .rg {fr:=[(0,7),(1,8)],fz:=[7,8]} []<| .cl 2 (dI p s_) fun r_=> .r<| .r<| .it (.r<| .im (.ad 4 9 4 1 (aj af ([]:List Bool)))<| .en (([]:List Bool),r_) [] [(9,0)])
  (.a3 ((0:Int)≤p.buses) (V8 p) (Wh p)<| .rg {an:=[(2, .arr (BU p).length (MQ p))],fr:=[(2,10)]} [0, .e ((p.buses:Int)),1,2, .pf ⟨(BU p).length=p.buses.toNat,List.length_replicate⟩, .pf ⟨aD p.buses.toNat 1 (fun _ j=>[(.bool false)].getD j .nilp) (MQ p),iB _ _ _ _ _ (fun j hj=>(match j,hj with|0,_=>rfl))⟩]<| .cl 2 (mH p s_) fun u1=> .r<| .lp (σ:=((List Bool) × Int)) (β:=(List Bool)) ((BU p),0) [] [] ⟨[23,24],[],fun(u4,u0)=>[(7,(vO 10 true u4.length)),(25,(vI u0))],fun(u4,u0)=>[(10,some (aZ 4 1 af u4))]⟩ ⟨[],[],fun u5=>[(7,(vO 10 true u5.length))],fun u5=>[(10,some (aZ 4 1 af u5))]⟩
  (fun(u4,u0)=> .r<| .it (.a1 ((0:Int)≤u0∧u0<(u1.length:Int))<| .rg {fr:=[(2,14)]} []<| .rg {fz:=[14]} []<| .lp (σ:=((List Bool) × Int)) (β:=(List Bool)) (u4,0) [] [] ⟨[9,23,24,25,30,31],[],fun(u2,u3)=>[(7,(vO 10 true u2.length)),(32,(vI u3))],fun(u2,u3)=>[(10,some (aZ 4 1 af u2))]⟩ ⟨[23,24,25],[],fun u6=>[(7,(vO 10 true u6.length))],fun u6=>[(10,some (aZ 4 1 af u6))]⟩
  (fun(u2,u3)=> .r<| .it (.a1 ((0:Int)≤u3∧u3<(((at' u1 u0.toNat).buses).length:Int))<| .r<| .a1 (k90 u1 u0 u3 u2)<| .rg {an:=[(7, .arr 0 (YR u1 u0 u3 u2))]} [0, .t 0 (VT u1 u0 u3) u2.length, .pf ⟨aD u2.length 1 (ZX u1 u0 u3 u2) (YR u1 u0 u3 u2),bn _ _ _ _ _ _ _ _ rfl (fun j hj=>(match j,hj with|0,_=>rfl))⟩]<| .im (.ll 10 u2 (YS u1 u0 u3 u2))<| .r<| .e (.next (Z9 u1 u0 u3 u2)))
  (.e (.done (.brk u2))))
  (fun u6=> .r<| .e (.next (Rc u0 u6))))
  (.e (.done (.brk u4))))
  (fun u5=> .r<| .en (u5,0) [] [(10,0)])))
theorem iH (x y:ah):Go.Proofs.ltOf aS x y=true↔x.e0<y.e0∨ ¬ y.e0<x.e0∧x.e1<y.e1:=by
 unfold Go.Proofs.ltOf aS;rw [decide_eq_true_iff]
 by_cases h0:x.e0<y.e0<;>by_cases g0:y.e0<x.e0<;>by_cases h1:x.e1<y.e1<;>by_cases g1:y.e1<x.e1<;>simp [h0,g0,h1,g1]
theorem wK:Go.Sort.SWO (Go.Proofs.ltOf aS) where
 irrefl x:=by rw [←Bool.not_eq_true,iH];omega
 trans x y z h1 h2:=by rw [iH]at*;omega
 ntrans x y z h1 h2:=by rw [←Bool.not_eq_true,iH]at*;omega
theorem wQ (x y:ah) (h1:(Go.Proofs.ltOf aS) x y=false) (h2:(Go.Proofs.ltOf aS) y x=false):x=y:=by
 rw [←Bool.not_eq_true,iH]at h1 h2
 obtain⟨a,b⟩:=x
 obtain⟨c,d⟩:=y
 have e1:a=c:=by simp only at h1 h2;omega
 have e2:b=d:=by simp only at h1 h2;omega
 rw [e1,e2]
theorem yh (s:(List ah)) {r:(List ah)} (h:iN s=some r):Fn Tryz.prog 52 [(.one (.own 0 false s.length)),(sD (.fn 53 0 (wB [])))] [(0,some (.arr 44 2 s.length (aj ah.cell s)))] (.dX []) [(0,some (.arr 44 2 r.length (aj ah.cell r)))]:=
 UX O9 2 SH QO (fun x:ah=>[.int .i64 x.e0, .int .i64 x.e1]) (fun _=>rfl) (fun x v hv=>by simp at hv;rcases hv with rfl|rfl<;>rfl) aS wK wQ
  (KY (fun x:ah=>[.int .i64 x.e0, .int .i64 x.e1]) (fun x=>x.e0) (fun x=>x.e1) (fun _=>rfl)) (enters_of Tryz.func53 (by kernel_rfl) rfl)
  (fun F w x j hj v=>match j,hj with|0,_=>Iff.rfl|1,_=>Iff.rfl) 52 rfl ⟨_,Tryz.func52,rfl,rfl⟩ s (by cases s with|nil=>(cases h;simp)|cons x xs=>exact h)
section
variable (u6:(List ah)) (u1:Int) (u2:(List aG)) (u0:Int) (u3:Int) (p:ai) (u4:(List ah))
abbrev V7:List (Nat × Option Ob):=[(139,some (aZ 44 2 ah.cell u6))]
abbrev k98:=((0:Int)≤(k10 u1)∧(k10 u1)≤(((at' u2 u0.toNat).sources).length:Int))
abbrev Zp:=((k10 u1).toNat)
abbrev UW:=(((at' u2 u0.toNat).sources).drop (Zp u1))
abbrev Zo:=((0:Int)≤u3∧u3<((UW u1 u2 u0).length:Int))
abbrev Jf:=(at' ((at' u2 u0.toNat).sources) u1.toNat)
abbrev ZQ:=((0:Int)≤(Jf u1 u2 u0)∧(Jf u1 u2 u0)<(p.sources.length:Int))
abbrev ZH:=((gB [((decide (((at' p.sources ((Jf u1 u2 u0).toNat)).sync)=0)),false)]=true→(0:Int)≤(Jf u1 u2 u0)∧(Jf u1 u2 u0)<(p.sources.length:Int)))
abbrev TY:=(at' (UW u1 u2 u0) u3.toNat)
abbrev Zq:=((gB [((decide (((at' p.sources ((Jf u1 u2 u0).toNat)).sync)=0)),false)]=true→(0:Int)≤(TY u1 u2 u0 u3)∧(TY u1 u2 u0 u3)<(p.sources.length:Int)))
abbrev KW:=(⟨(Jf u1 u2 u0),(TY u1 u2 u0 u3)⟩:ah)
abbrev XZ:=(u4.length+[(KW u1 u2 u0 u3)].length)
abbrev ZG:=((XZ u1 u2 u0 u3 u4)*16≤140737488355328)
abbrev Zl:=(u4.length+[(KW u1 u2 u0 u3)].length≤4611686018427387904)
abbrev U1:=(aj ah.cell [(KW u1 u2 u0 u3)])
abbrev TH:=(u4++[(KW u1 u2 u0 u3)])
abbrev Yk:=(aj ah.cell (TH u1 u2 u0 u3 u4))
abbrev Zi:=(lH 2 [(.int .i64 (Jf u1 u2 u0)),(.int .i64 (TY u1 u2 u0 u3))])
abbrev Zy:=(qf (aj ah.cell u4) u4.length (U1 u1 u2 u0 u3))
abbrev ZF:=((TH u1 u2 u0 u3 u4),(k10 u3))
abbrev H6:=(u4,(k10 u3))
end
theorem jA (p:ai) (s_:State):dY Tryz.prog 15 (k20 s_ p) [] (fun r=>(.dX [(.one (.own 0 false r.1.length)),(sI r.2)])) (fun r=>[(0,some (aZ 44 2 ah.cell r.1))]) (dz p s_):=
  eU tT mX Tryz.func15 (
  .rg {fr:=[(0,134),(1,135)],fz:=[134,135]} []<| .cl 2 (dI p s_) fun r_=> .r<| .r<| .it (.r<| .im (.ad 4 136 44 2 (aj ah.cell ([]:List ah)))<| .en (([]:List ah),r_) [] [(136,0)])
  (.r<| .cl 2 (mH p s_) fun u2=> .r<| .im (.ad 7 269 44 2 (aj ah.cell ([]:List ah)))<| .lp (σ:=((List ah) × Int)) (β:=(List ah)) (([]:List ah),0) [] [(269,139)] ⟨[2,22,23],[],fun(u6,u0)=>[(7,(vO 139 false u6.length)),(24,(vI u0))],fun(u6,u0)=>(V7 u6)⟩ ⟨[],[],fun u5=>[(7,(vO 139 false u5.length))],fun u5=>(V7 u5)⟩
  (fun(u6,u0)=> .r<| .it (.a1 ((0:Int)≤u0∧u0<(u2.length:Int))<| .rg {fr:=[(2,236)],fz:=[236]} []<| .r<| .lp (σ:=((List ah) × Int)) (β:=(List ah)) (u6,0) [] [] ⟨[2,9,22,23,24,29,30],[],fun(u7,u1)=>[(7,(vO 139 false u7.length)),(31,(vI u1))],fun(u7,u1)=>(V7 u7)⟩ ⟨[2,22,23,24],[],fun u8=>[(7,(vO 139 false u8.length))],fun u8=>(V7 u8)⟩
  (fun(u7,u1)=> .r<| .it (.a1 ((0:Int)≤u1∧u1<(((at' u2 u0.toNat).sources).length:Int))<| .r<| .a1 (k98 u1 u2 u0)<| .r<| .im (.us 40 (vD (.sl none 1 (((at' u2 u0.toNat).sources).length - (Zp u1)) (fun iq jq=>aj (aF .i64) ((at' u2 u0.toNat).sources) (iq+(Zp u1)) jq))) (vD (aR none 1 (aF .i64) (UW u1 u2 u0))) (Cj.v (oP.one (dW.d (dJ.ZU (by first|rw [List.length_append,List.length_drop]|simp only [List.length_set,List.length_drop,Jc]) (.inr rfl) (Vn _ _ _ _))))))<| .lp (σ:=((List ah) × Int)) (β:=(List ah)) (u7,0) [] [] ⟨[2,9,11,22,23,24,29,30,31,40,41],[],fun(u4,u3)=>[(7,(vO 139 false u4.length)),(42,(vI u3))],fun(u4,u3)=>(V7 u4)⟩ ⟨[2,9,22,23,24,29,30,31],[],fun u9=>[(7,(vO 139 false u9.length))],fun u9=>(V7 u9)⟩
  (fun(u4,u3)=> .r<| .it (.a1 (Zo u1 u2 u0 u3)<| .r<| .a3 (ZQ u1 u2 u0 p) (ZH u1 u2 u0 p) (Zq u1 u2 u0 u3 p)<| .rg {} [0,1,2]<| .it (.a2 (ZG u1 u2 u0 u3 u4) (Zl u1 u2 u0 u3 u4)<| .rg {an:=[(4, .arr [(KW u1 u2 u0 u3)].length (U1 u1 u2 u0 u3)),(5, .arr (TH u1 u2 u0 u3 u4).length (Yk u1 u2 u0 u3 u4))],fr:=[(4,267),(5,268)]} [.pf ⟨[(KW u1 u2 u0 u3)].length=1,rfl⟩, .pf ⟨aD 1 2 (Zi u1 u2 u0 u3) (U1 u1 u2 u0 u3),(by intro i hi j hj;match i,j,hi,hj with|0,0,_,_=>rfl|0,1,_,_=>rfl)⟩, .e (u4.length),0,1, .pf ⟨(TH u1 u2 u0 u3 u4).length=u4.length+[(KW u1 u2 u0 u3)].length,List.length_append⟩, .pf ⟨aD (XZ u1 u2 u0 u3 u4) 2 (Zy u1 u2 u0 u3 u4) (Yk u1 u2 u0 u3 u4),bW _ _ _ _⟩]<| .r<| .en (.next (ZF u1 u2 u0 u3 u4)) [] [(268,139)])
  (.r<| .e (.next (H6 u3 u4))))
  (.e (.done (.brk u4))))
  (fun u9=> .r<| .e (.next (H6 u1 u9))))
  (.e (.done (.brk u7))))
  (fun u8=> .r<| .e (.next (H6 u0 u8))))
  (.e (.done (.brk u6))))
  (fun u5=> .cl 1 (jG [(0,139)] ⟨fun h=>yh u5 h⟩) fun v0=> .r<| .a1 (u5.length=v0.length)<| .so 7 139 false u5.length v0.length 0<| .so 77 139 false u5.length v0.length 0<| .r<| .en (v0,0) [] [(139,0)])))
theorem z8 (s_:(List ah)) (v_:ah):dY Tryz.prog 176 [(sD (aR none 2 ah.cell s_)),(.agg [(cI v_.e0),(cI v_.e1)])] [] (fun r=>(vI r)) (fun _=>[]) (qN s_ v_):=
  eU tT mX Tryz.func176 (
  .rg {fr:=[(0,1)],fz:=[1]} []<| .r<| .lp (σ:=Int) (β:=Unit) (0) [] [] ⟨[0,3,7],[],fun t8=>[(8,(vI t8))],fun t8=>[]⟩ ⟨[],[],fun _=>[],fun _=>[]⟩
  (fun t8=> .r<| .it (.r<| .a1 ((0:Int)≤t8∧t8<(s_.length:Int))<| .r<| .it (.r<| .e (.done (.ret t8)))
  (.r<| .e (.next (k10 t8))))
  (.e (.done (.brk ()))))
  (fun _=> .r<| .e (-1)))
theorem xX (s_:(List ah)) (v_:ah):dY Tryz.prog 151 [(sD (aR none 2 ah.cell s_)),(.agg [(cI v_.e0),(cI v_.e1)])] [] (fun r=>(vB r)) (fun _=>[]) (kg s_ v_):=
  eU tT mX Tryz.func151 (
  .rg {fr:=[(0,1)],fz:=[1]} []<| .cl 2 (z8 s_ v_) fun r_=> .r<| .e (decide (0≤r_)))
theorem zM (c:ah) (x1:(List ah)):dY Tryz.prog 150 [(.agg [(cI c.e0),(cI c.e1)]),(sD (Ii [(aR none 2 ah.cell x1)] 0))] [] (fun r=>(vB r)) (fun _=>[]) (pK c x1):=
  eU tT mX Tryz.func150 (
  .rg {fr:=[(0,1)],fz:=[1]} []<| .cl 2 (xX x1 c) fun r_=> .r<| .e (!r_))
section
variable (s_:(List ah)) (f_:(List ah))
abbrev Xd:List SV:=[(sD (aR none 2 ah.cell s_)),(sD (.fn 150 1 (wB [(Ii [(aR none 2 ah.cell f_)] 0)])))]
end
theorem tQ (s_:(List ah)) (f_:(List ah)):dY Tryz.prog 175 (Xd s_ f_) [] (fun r=>(vI r)) (fun _=>[]) (jU s_ f_):=
  eU tT mX Tryz.func175 (
  .r<| .r<| .lp (σ:=Int) (β:=Unit) (0) [] [] ⟨[0,1,7],[],fun t8=>[(8,(vI t8))],fun t8=>[]⟩ ⟨[],[],fun _=>[],fun _=>[]⟩
  (fun t8=> .r<| .it (.r<| .cl 5 (zM (at' s_ t8.toNat) f_) fun r_=> .a1 ((0:Int)≤t8∧t8<(s_.length:Int))<| .rg {} [0,1]<| .it (.r<| .e (.done (.ret t8)))
  (.r<| .e (.next (k10 t8))))
  (.e (.done (.brk ()))))
  (fun _=> .r<| .e (-1)))
theorem kr (s_:(List ah)) (f_:(List ah)):dY Tryz.prog 149 (Xd s_ f_) [] (fun r=>(vB r)) (fun _=>[]) (cu s_ f_):=
  eU tT mX Tryz.func149 (
  .r<| .cl 2 (tQ s_ f_) fun r_=> .r<| .e (decide (0≤r_)))
section
variable (p:ai) (s_:State) (x:Transfer) (r_:((List Bool) × Int)) (u0:(List Bool)) (u1:Int) (u3:((List Bool) × Int))
abbrev LJ:List SV:=[(.agg (k1 p)),(.agg (WV s_))]
abbrev Yb:=(bif (bif (at' s_.badBus x.watch.toNat)then true else(at' r_.1 x.watch.toNat))then true else(at' s_.closed x.close.toNat))
abbrev Xi:=((Yb s_ x r_),false)
abbrev WN:=((bif (Yb s_ x r_)then true else(at' s_.badLink x.close.toNat)),false)
abbrev xw:=(u0.set x.close.toNat true)
abbrev Eh:=((xw x u0).set x.open_.toNat false)
abbrev XE:List SV:=[(.agg (k1 p)),(.agg [(.d (aR none 1 af (Eh x u0))),(.d (aR none 1 af s_.locked)),(.d (aR none 1 af s_.badLink)),(.d (aR none 1 af s_.on_)),(.d (k22 s_)),(.d (aR none 1 af s_.earthed)),(.d (aR none 1 af s_.badBus))])]
abbrev Vu:=(⟨(Eh x u0),s_.locked,s_.badLink,s_.on_,s_.badSource,s_.earthed,s_.badBus⟩:State)
abbrev WY:List SV:=[(.agg (k1 p)),(.agg [(.own 29 false ((Eh x u0).length)),(.own 1 false s_.locked.length),(.own 2 false s_.badLink.length),(.own 3 false s_.on_.length),(.own 4 false s_.badSource.length),(.own 5 false s_.earthed.length),(.own 6 false s_.badBus.length)])]
abbrev Vo:Nat × Option Ob:=(29,some (aZ 4 1 af (Eh x u0)))
abbrev Yz:List (Nat × Option Ob):=[(Vo x u0),(Kw s_),(J4 s_),(I8 s_),(JZ s_),(Jq s_),(Jb s_)]
abbrev Tj:=((0:Int)≤u1∧u1<(r_.1.length:Int))
abbrev Zd:=(gB [((at' r_.1 u1.toNat),true)]=true→(0:Int)≤u1∧u1<(u3.1.length:Int))
abbrev TB:=((Zd r_ u1 u3))
abbrev Pf:=((bif (at' r_.1 u1.toNat)then(!(at' u3.1 u1.toNat))else false),false)
abbrev RF:=((gB [(Pf r_ u1 u3)]=true→(0:Int)≤u1∧u1<(u3.1.length:Int)))
abbrev Sy:=((gB [((at' u3.1 u1.toNat),true),(Pf r_ u1 u3)]=true→(0:Int)≤u1∧u1<(s_.earthed.length:Int)))
abbrev Ty:=((gB [((bif (at' u3.1 u1.toNat)then(at' s_.earthed u1.toNat)else false),true),(Pf r_ u1 u3)]=true→(0:Int)≤u1∧u1<(r_.1.length:Int)))
abbrev X5:List SV:=[(.agg (k1 p)),(.agg [(.d (aR none 1 af (xw x u0))),(.d (aR none 1 af s_.locked)),(.d (aR none 1 af s_.badLink)),(.d (aR none 1 af s_.on_)),(.d (k22 s_)),(.d (aR none 1 af s_.earthed)),(.d (aR none 1 af s_.badBus))])]
abbrev Vp:=(⟨(xw x u0),s_.locked,s_.badLink,s_.on_,s_.badSource,s_.earthed,s_.badBus⟩:State)
abbrev Xv:List SV:=[(.agg (k1 p)),(.agg [(.own 29 false ((xw x u0).length)),(.own 1 false s_.locked.length),(.own 2 false s_.badLink.length),(.own 3 false s_.on_.length),(.own 4 false s_.badSource.length),(.own 5 false s_.earthed.length),(.own 6 false s_.badBus.length)])]
abbrev U5:Nat × Option Ob:=(29,some (aZ 4 1 af (xw x u0)))
abbrev XU:List (Nat × Option Ob):=[(U5 x u0),(Kw s_),(J4 s_),(I8 s_),(JZ s_),(Jq s_),(Jb s_)]
end
theorem Bq (p:ai) (s_:State) (x:Transfer):dY Tryz.prog 103 [(.agg (k1 p)),(.agg (WV s_)),(.agg [(cI x.watch),(cI x.open_),(cI x.close)])] (C8 s_) (fun r=>(.dX [(.agg [(.own 7 false r.1.closed.length),(.own 1 false s_.locked.length),(.own 2 false s_.badLink.length),(.own 3 false s_.on_.length),(.own 4 false s_.badSource.length),(.own 5 false s_.earthed.length),(.own 6 false s_.badBus.length)]),(sB r.2)])) (fun r=>[(Ul s_),(Kw s_),(J4 s_),(I8 s_),(JZ s_),(Jq s_),(Jb s_),(7,bif r.2 then some (aZ 4 1 af r.1.closed)else none),(8,none)]) (mg p s_ x):=
  eU tT mX Tryz.func103 (
  .rg {fr:=[(0,22),(1,23),(2,24),(3,25)],fz:=[22]} []<| .cl 2 ⟨fun{r_} hr_=>((Fn.rD (args:=(k20 s_ p)) (frz:=[0,1,2,3,4,5,6]) (p:=[s_.closed.length=s_.closed.length,s_.locked.length=s_.locked.length,s_.badLink.length=s_.badLink.length,s_.on_.length=s_.on_.length,s_.badSource.length=s_.badSource.length,s_.earthed.length=s_.earthed.length,s_.badBus.length=s_.badBus.length]) (rK [(0,26)] (pM p s_ hr_)) (by kernel_rfl) ⟨rfl,rfl,rfl,rfl,rfl,rfl,rfl,trivial⟩ (by kernel_rfl) ⟨(fun _ _=>rfl),trivial⟩ (by kernel_rfl)):Fn Tryz.prog 14 (LJ p s_) (C8 s_) (.dX [(.one (.own 26 false r_.1.length)),(sI r_.2)]) [(Ul s_),(Kw s_),(J4 s_),(I8 s_),(JZ s_),(Jq s_),(Jb s_),(26,some (aZ 4 1 af r_.1))])⟩ fun r_=> .rg {fz:=[26]} []<| .a5 ((0:Int)≤x.watch∧x.watch<(s_.badBus.length:Int)) ((gB [((at' s_.badBus x.watch.toNat),false)]=true→(0:Int)≤x.watch∧x.watch<(r_.1.length:Int))) ((gB [((bif (at' s_.badBus x.watch.toNat)then true else(at' r_.1 x.watch.toNat)),false)]=true→(0:Int)≤x.close∧x.close<(s_.closed.length:Int))) ((gB [(Xi s_ x r_)]=true→(0:Int)≤x.close∧x.close<(s_.badLink.length:Int))) ((gB [(WN s_ x r_)]=true→(0:Int)≤x.close∧x.close<(s_.locked.length:Int)))<| .rg {} [0, .t 0 x.watch s_.badBus.length,1,2, .tg 2 [((bif (at' s_.badBus x.watch.toNat)then true else(at' r_.1 x.watch.toNat)),false)] x.close s_.closed.length,3, .tg 3 [(Xi s_ x r_)] x.close s_.badLink.length,4, .tg 4 [(WN s_ x r_)] x.close s_.locked.length]<| .it (.r<| .im (.ac 25 0 0 27)<| .en (s_,false) [] [(27,7),(25,8)])
  (.rg {fr:=[(1,28)]} []<| .cl 2 ⟨fun{u0} hr_1=>((Fn.rD (args:=[(sD (aR none 1 af s_.closed))]) (frz:=[0]) (p:=[s_.closed.length=s_.closed.length]) (Fn.xG [(0,29)] (aK s_.closed hr_1) (by kernel_rfl) (by kernel_rfl) (by kernel_rfl) (by kernel_rfl)) (by kernel_rfl) ⟨rfl,trivial⟩ (by kernel_rfl) ⟨(fun _ _=>rfl),trivial⟩ (by kernel_rfl)):Fn Tryz.prog 101 [(.one (.own 0 false s_.closed.length))] [(Ul s_)] (vO 29 false u0.length) [(Ul s_),(29,some (aZ 4 1 af u0))])⟩ fun u0=> .r<| .a1 ((0:Int)≤x.close∧x.close<(u0.length:Int))<| .rg {an:=[(5, .arr 0 (aj af (xw x u0)))]} [0, .t 0 x.close u0.length, .pf ⟨aD u0.length 1 (iG (aj af u0) x.close.toNat 0 [(.bool true)]) (aj af (xw x u0)),bn _ _ _ _ _ _ _ _ rfl (fun j hj=>(match j,hj with|0,_=>rfl))⟩]<| .im (.ll 29 u0 (xw x u0))<| .r<| .it (.a2 ((0:Int)≤x.open_∧x.open_<(s_.badLink.length:Int)) ((gB [((at' s_.badLink x.open_.toNat),false)]=true→(0:Int)≤x.open_∧x.open_<(s_.locked.length:Int)))<| .rg {} [0, .t 0 x.open_ s_.badLink.length,1, .tg 1 [((at' s_.badLink x.open_.toNat),false)] x.open_ s_.locked.length]<| .it (.r<| .im (.ac 25 0 0 30)<| .en (s_,false) [] [(30,7),(25,8)])
  (.a1 ((0:Int)≤x.open_∧x.open_<((xw x u0).length:Int))<| .rg {an:=[(5, .arr 0 (aj af (Eh x u0)))],fz:=[24]} [0, .t 0 x.open_ ((xw x u0).length), .pf ⟨aD (xw x u0).length 1 (iG (aj af (xw x u0)) x.open_.toNat 0 [(.bool false)]) (aj af (Eh x u0)),bn _ _ _ _ _ _ _ _ rfl (fun j hj=>(match j,hj with|0,_=>rfl))⟩]<| .im (.ll 29 (xw x u0) (Eh x u0))<| .cl 2 ⟨fun{u3} hr_2=>((Fn.rD (args:=(XE p s_ x u0)) (frz:=[29,1,2,3,4,5,6]) (p:=[(Eh x u0).length=(Eh x u0).length,s_.locked.length=s_.locked.length,s_.badLink.length=s_.badLink.length,s_.on_.length=s_.on_.length,s_.badSource.length=s_.badSource.length,s_.earthed.length=s_.earthed.length,s_.badBus.length=s_.badBus.length]) (Fn.xG [(0,31)] (pM p (Vu s_ x u0) hr_2) (by kernel_rfl) (by kernel_rfl) (by kernel_rfl) (by kernel_rfl)) (by kernel_rfl) ⟨rfl,rfl,rfl,rfl,rfl,rfl,rfl,trivial⟩ (by kernel_rfl) ⟨(fun _ _=>rfl),trivial⟩ (by kernel_rfl)):Fn Tryz.prog 14 (WY p s_ x u0) (Yz s_ x u0) (.dX [(.one (.own 31 false u3.1.length)),(sI u3.2)]) [(Vo x u0),(Kw s_),(J4 s_),(I8 s_),(JZ s_),(Jq s_),(Jb s_),(31,some (aZ 4 1 af u3.1))])⟩ fun u3=> .rg {fz:=[31]} []<| .r<| .lp (σ:=Int) (β:=Unit) (0) [] [] ⟨[3,4,5,6,8,10,11,102],[0,1,2,3,4,5,6,23,25,28,29],fun u1=>[(103,(vI u1))],fun u1=>[]⟩ ⟨[3,4,5,6,10,11],[0,1,2,3,4,5,6,23,25,28,29],fun _=>[],fun _=>[]⟩
  (fun u1=> .r<| .it (.r<| .a5 (Tj r_ u1) (TB r_ u1 u3) (RF r_ u1 u3) (Sy s_ r_ u1 u3) (Ty s_ r_ u1 u3)<| .rg {} [0,1,2,3, .tg 3 [((at' u3.1 u1.toNat),true),(Pf r_ u1 u3)] u1 s_.earthed.length,4]<| .it (.r<| .im (.ac 25 0 0 32)<| .en (.done (.ret (s_,false))) [] [(32,7),(25,8)])
  (.r<| .e (.next (k10 u1))))
  (.e (.done (.brk ()))))
  (fun _=> .cl 2 ⟨fun{u5} hr_3=>((Fn.rD (args:=(k20 s_ p)) (frz:=[0,1,2,3,4,5,6]) (p:=[s_.closed.length=s_.closed.length,s_.locked.length=s_.locked.length,s_.badLink.length=s_.badLink.length,s_.on_.length=s_.on_.length,s_.badSource.length=s_.badSource.length,s_.earthed.length=s_.earthed.length,s_.badBus.length=s_.badBus.length]) (Fn.xG [(0,33)] (jA p s_ hr_3) (by kernel_rfl) (by kernel_rfl) (by kernel_rfl) (by kernel_rfl)) (by kernel_rfl) ⟨rfl,rfl,rfl,rfl,rfl,rfl,rfl,trivial⟩ (by kernel_rfl) ⟨(fun _ j=>match j with|0=>rfl|1=>rfl|_+2=>rfl),trivial⟩ (by kernel_rfl)):Fn Tryz.prog 15 (LJ p s_) (C8 s_) (.dX [(.one (.own 33 false u5.1.length)),(sI u5.2)]) [(Ul s_),(Kw s_),(J4 s_),(I8 s_),(JZ s_),(Jq s_),(Jb s_),(33,some (aZ 44 2 ah.cell u5.1))])⟩ fun u5=> .rg {fr:=[(6,34)],fz:=[33]} []<| .fz [34]<| .cl 2 ⟨fun{u6} hr_4=>((Fn.rD (args:=(XE p s_ x u0)) (frz:=[29,1,2,3,4,5,6]) (p:=[(Eh x u0).length=(Eh x u0).length,s_.locked.length=s_.locked.length,s_.badLink.length=s_.badLink.length,s_.on_.length=s_.on_.length,s_.badSource.length=s_.badSource.length,s_.earthed.length=s_.earthed.length,s_.badBus.length=s_.badBus.length]) (Fn.xG [(0,35)] (jA p (Vu s_ x u0) hr_4) (by kernel_rfl) (by kernel_rfl) (by kernel_rfl) (by kernel_rfl)) (by kernel_rfl) ⟨rfl,rfl,rfl,rfl,rfl,rfl,rfl,trivial⟩ (by kernel_rfl) ⟨(fun _ j=>match j with|0=>rfl|1=>rfl|_+2=>rfl),trivial⟩ (by kernel_rfl)):Fn Tryz.prog 15 (WY p s_ x u0) (Yz s_ x u0) (.dX [(.one (.own 35 false u6.1.length)),(sI u6.2)]) [(Vo x u0),(Kw s_),(J4 s_),(I8 s_),(JZ s_),(Jq s_),(Jb s_),(35,some (aZ 44 2 ah.cell u6.1))])⟩ fun u6=> .rg {fz:=[35]} []<| .cg 9 [((!(at' u3.1 x.watch.toNat)),false)] (kr u6.1 u5.1) fun u9=> .a1 ((0:Int)≤x.watch∧x.watch<(u3.1.length:Int))<| .rg {} [0,1]<| .it (.r<| .im (.ac 25 0 0 36)<| .en (s_,false) [] [(36,7),(25,8)])
  (.r<| .en ((Vu s_ x u0),true) [] [(29,7),(25,8)]))))
  (.cl 2 ⟨fun{u4} hr_6=>((Fn.rD (args:=(X5 p s_ x u0)) (frz:=[29,1,2,3,4,5,6]) (p:=[(xw x u0).length=(xw x u0).length,s_.locked.length=s_.locked.length,s_.badLink.length=s_.badLink.length,s_.on_.length=s_.on_.length,s_.badSource.length=s_.badSource.length,s_.earthed.length=s_.earthed.length,s_.badBus.length=s_.badBus.length]) (Fn.xG [(0,37)] (pM p (Vp s_ x u0) hr_6) (by kernel_rfl) (by kernel_rfl) (by kernel_rfl) (by kernel_rfl)) (by kernel_rfl) ⟨rfl,rfl,rfl,rfl,rfl,rfl,rfl,trivial⟩ (by kernel_rfl) ⟨(fun _ _=>rfl),trivial⟩ (by kernel_rfl)):Fn Tryz.prog 14 (Xv p s_ x u0) (XU s_ x u0) (.dX [(.one (.own 37 false u4.1.length)),(sI u4.2)]) [(U5 x u0),(Kw s_),(J4 s_),(I8 s_),(JZ s_),(Jq s_),(Jb s_),(37,some (aZ 4 1 af u4.1))])⟩ fun u4=> .rg {fz:=[24,37]} []<| .r<| .lp (σ:=Int) (β:=Unit) (0) [] [] ⟨[3,4,5,6,8,10,11,102],[0,1,2,3,4,5,6,23,25,28,29],fun u2=>[(103,(vI u2))],fun u2=>[]⟩ ⟨[3,4,5,6,10,11],[0,1,2,3,4,5,6,23,25,28,29],fun _=>[],fun _=>[]⟩
  (fun u2=> .r<| .it (.r<| .a5 (Tj r_ u2) (TB r_ u2 u4) (RF r_ u2 u4) (Sy s_ r_ u2 u4) (Ty s_ r_ u2 u4)<| .rg {} [0,1,2,3, .tg 3 [((at' u4.1 u2.toNat),true),(Pf r_ u2 u4)] u2 s_.earthed.length,4]<| .it (.r<| .im (.ac 25 0 0 38)<| .en (.done (.ret (s_,false))) [] [(38,7),(25,8)])
  (.r<| .e (.next (k10 u2))))
  (.e (.done (.brk ()))))
  (fun _=> .cl 2 ⟨fun{u7} hr_7=>((Fn.rD (args:=(k20 s_ p)) (frz:=[0,1,2,3,4,5,6]) (p:=[s_.closed.length=s_.closed.length,s_.locked.length=s_.locked.length,s_.badLink.length=s_.badLink.length,s_.on_.length=s_.on_.length,s_.badSource.length=s_.badSource.length,s_.earthed.length=s_.earthed.length,s_.badBus.length=s_.badBus.length]) (Fn.xG [(0,39)] (jA p s_ hr_7) (by kernel_rfl) (by kernel_rfl) (by kernel_rfl) (by kernel_rfl)) (by kernel_rfl) ⟨rfl,rfl,rfl,rfl,rfl,rfl,rfl,trivial⟩ (by kernel_rfl) ⟨(fun _ j=>match j with|0=>rfl|1=>rfl|_+2=>rfl),trivial⟩ (by kernel_rfl)):Fn Tryz.prog 15 (LJ p s_) (C8 s_) (.dX [(.one (.own 39 false u7.1.length)),(sI u7.2)]) [(Ul s_),(Kw s_),(J4 s_),(I8 s_),(JZ s_),(Jq s_),(Jb s_),(39,some (aZ 44 2 ah.cell u7.1))])⟩ fun u7=> .rg {fr:=[(6,40)],fz:=[39]} []<| .fz [40]<| .cl 2 ⟨fun{u8} hr_8=>((Fn.rD (args:=(X5 p s_ x u0)) (frz:=[29,1,2,3,4,5,6]) (p:=[(xw x u0).length=(xw x u0).length,s_.locked.length=s_.locked.length,s_.badLink.length=s_.badLink.length,s_.on_.length=s_.on_.length,s_.badSource.length=s_.badSource.length,s_.earthed.length=s_.earthed.length,s_.badBus.length=s_.badBus.length]) (Fn.xG [(0,41)] (jA p (Vp s_ x u0) hr_8) (by kernel_rfl) (by kernel_rfl) (by kernel_rfl) (by kernel_rfl)) (by kernel_rfl) ⟨rfl,rfl,rfl,rfl,rfl,rfl,rfl,trivial⟩ (by kernel_rfl) ⟨(fun _ j=>match j with|0=>rfl|1=>rfl|_+2=>rfl),trivial⟩ (by kernel_rfl)):Fn Tryz.prog 15 (Xv p s_ x u0) (XU s_ x u0) (.dX [(.one (.own 41 false u8.1.length)),(sI u8.2)]) [(U5 x u0),(Kw s_),(J4 s_),(I8 s_),(JZ s_),(Jq s_),(Jb s_),(41,some (aZ 44 2 ah.cell u8.1))])⟩ fun u8=> .rg {fz:=[41]} []<| .cg 9 [((!(at' u4.1 x.watch.toNat)),false)] (kr u8.1 u7.1) fun v0=> .a1 ((0:Int)≤x.watch∧x.watch<(u4.1.length:Int))<| .rg {} [0,1]<| .it (.r<| .im (.ac 25 0 0 42)<| .en (s_,false) [] [(42,7),(25,8)])
  (.r<| .en ((Vp s_ x u0),true) [] [(29,7),(25,8)])))))
section
variable (u7:(List Bool)) (u1:(List Bool)) (u2:(List Bool)) (u3:(List Bool)) (u4:(List Bool)) (u5:(List Bool)) (u6:(List Bool)) (o_:(List Int)) (u0:Int)
abbrev YA:List CV:=[(.own 1 false u7.length),(.own 2 false u1.length),(.own 3 false u2.length),(.own 4 false u3.length),(.own 5 false u4.length),(.own 6 false u5.length),(.own 7 false u6.length)]
abbrev DF:Ob:=(aZ 3 1 (aF .i64) o_)
abbrev WK:Ob:=(.cells 29 (YA u7 u1 u2 u3 u4 u5 u6))
abbrev SX:=((o_.length+[u0].length)*8≤140737488355328)
abbrev TQ:=(o_.length+[u0].length≤4611686018427387904)
abbrev JV:=(aj (aF .i64) (o_++[u0]))
abbrev SS:=(qf (aj (aF .i64) o_) o_.length (aj (aF .i64) [u0]))
end
theorem vw (u0:Int) (u7:(List Bool)) (u1:(List Bool)) (u2:(List Bool)) (u3:(List Bool)) (u4:(List Bool)) (u5:(List Bool)) (u6:(List Bool)) (u8:State) (o_:(List Int)):Vq Tryz.prog 0 [(sI u0),(.agg (YA u7 u1 u2 u3 u4 u5 u6))] [(0,some (.loop iI 0 [(10,(vP 8 0)),(11,(vP 9 0))])),(1,some (aZ 4 1 af u7)),(2,some (aZ 4 1 af u1)),(3,some (aZ 4 1 af u2)),(4,some (aZ 4 1 af u3)),(5,some (aZ 4 1 af u4)),(6,some (aZ 4 1 af u5)),(7,some (aZ 4 1 af u6)),(8,some (.cells 29 [(.own 10 false u8.closed.length),(.own 2 false u1.length),(.own 3 false u2.length),(.own 4 false u3.length),(.own 5 false u4.length),(.own 6 false u5.length),(.own 7 false u6.length)])),(9,some (.cells 36 [(.own 11 false o_.length)])),(10,some (aZ 4 1 af u8.closed)),(11,some (DF o_))] (fun _=>vB true) (fun r=>[(0,some (.loop iI 0 [(10,(vP 8 0)),(11,(vP 9 0))])),(1,some (aZ 4 1 af u7)),(2,some (aZ 4 1 af u1)),(3,some (aZ 4 1 af u2)),(4,some (aZ 4 1 af u3)),(5,some (aZ 4 1 af u4)),(6,some (aZ 4 1 af u5)),(7,some (aZ 4 1 af u6)),(8,some (WK u7 u1 u2 u3 u4 u5 u6)),(9,some (.cells 36 [(.own 12 false r.2.length)])),(10,some (aZ 4 1 af u8.closed)),(11,none),(12,some (aZ 3 1 (aF .i64) r.2))]) (lS u0 u7 u1 u2 u3 u4 u5 u6 u8 o_):=
  Z0 tT mX iI ⟨[10,11],[0,1,2,3,4,5,6,7,8,9,10,11],fun _=>[(12,(vI u0)),(13,(vP 15 0))],fun _=>[(15,some (WK u7 u1 u2 u3 u4 u5 u6))]⟩ (.r<| .rg {fr:=[(0,15)]} []<| .e ())
  (.r<| .a2 (SX o_ u0) (TQ o_ u0)<| .rg {an:=[(2, .arr [u0].length (aj (aF .i64) [u0])),(3, .arr (o_++[u0]).length (JV o_ u0))],fr:=[(2,16),(3,17)]} [.pf ⟨[u0].length=1,rfl⟩, .pf ⟨aD 1 1 (lH 1 [(.int .i64 u0)]) (aj (aF .i64) [u0]),(by intro i hi j hj;match i,j,hi,hj with|0,0,_,_=>rfl)⟩, .e (o_.length),0,1, .pf ⟨(o_++[u0]).length=o_.length+[u0].length,List.length_append⟩, .pf ⟨aD (o_.length+[u0].length) 1 (SS o_ u0) (JV o_ u0),bW _ _ _ _⟩]<| .en ((Np u7 u1 u2 u3 u4 u5 u6),(o_++[u0])) [] [(17,12)])
section
variable (u0:State) (x1:(List Transfer)) (u2:(List Bool)) (r_:(State × Bool)) (x2:Int) (u4:(List Source)) (u5:(List Link)) (u6:(List aP)) (u1:Int)
abbrev Wq:Ob:=(.cells 29 [(.own 4 false u0.closed.length),(.own 5 false u0.locked.length),(.own 6 false u0.badLink.length),(.own 7 false u0.on_.length),(.own 8 false u0.badSource.length),(.own 9 false u0.earthed.length),(.own 10 false u0.badBus.length)])
abbrev Ps:Nat × Option Ob:=(5,some (aZ 4 1 af u0.locked))
abbrev P7:Nat × Option Ob:=(6,some (aZ 4 1 af u0.badLink))
abbrev Pb:Nat × Option Ob:=(7,some (aZ 4 1 af u0.on_))
abbrev OY:Nat × Option Ob:=(8,some (aZ 4 1 af u0.badSource))
abbrev OV:Nat × Option Ob:=(9,some (aZ 4 1 af u0.earthed))
abbrev OU:Nat × Option Ob:=(10,some (aZ 4 1 af u0.badBus))
abbrev Tz:=(List.replicate ((x1.length:Int).toNat) (false:Bool))
abbrev Wt:List CV:=[(.own 99 false u2.length),(.own 5 false u0.locked.length),(.own 6 false u0.badLink.length),(.own 7 false u0.on_.length),(.own 8 false u0.badSource.length),(.own 9 false u0.earthed.length),(.own 10 false u0.badBus.length)]
abbrev Xh:Ob:=(.cells 29 (Wt u0 u2))
abbrev YB:Nat × Option Ob:=(1,some (Xh u0 u2))
abbrev YF:Nat × Option Ob:=(2,some (Xh u0 u2))
abbrev Ya:=(aj af (Tz x1))
abbrev TJ:=(⟨u2,u0.locked,u0.badLink,u0.on_,u0.badSource,u0.earthed,u0.badBus⟩:State)
abbrev XO:List CV:=[(.own 148 false r_.1.closed.length),(.own 5 false u0.locked.length),(.own 6 false u0.badLink.length),(.own 7 false u0.on_.length),(.own 8 false u0.badSource.length),(.own 9 false u0.earthed.length),(.own 10 false u0.badBus.length)]
abbrev Oq:Ob:=(aZ 4 1 af r_.1.closed)
abbrev NJ:List SV:=[(.agg [(cI x2),(.d (aR none 5 Source.cell u4)),(.d (aR none 6 Link.cell u5)),(.d (aR none 4 aP.cell u6))]),(.agg (Wt u0 u2)),(.agg [(cI ((at' x1 u1.toNat).watch)),(cI ((at' x1 u1.toNat).open_)),(cI ((at' x1 u1.toNat).close))])]
abbrev Om:List (Nat × Option Ob):=[(99,some (aZ 4 1 af u2)),(Ps u0),(P7 u0),(Pb u0),(OY u0),(OV u0),(OU u0)]
abbrev Qi:List CV:=[(.own 7 false r_.1.closed.length),(.own 1 false u0.locked.length),(.own 2 false u0.badLink.length),(.own 3 false u0.on_.length),(.own 4 false u0.badSource.length),(.own 5 false u0.earthed.length),(.own 6 false u0.badBus.length)]
abbrev Yv:TV:=(.dX [(.agg (Qi u0 r_)),(sB r_.2)])
abbrev Xz:=(ql (swp [(0,99),(1,5),(2,6),(3,7),(4,8),(1,9),(2,10),(3,148),(4,149)]) [(0,some (aZ 4 1 af u2)),(Kw u0),(J4 u0),(I8 u0),(JZ u0),(Jq u0),(Jb u0),(7,bif r_.2 then some (Oq r_)else none),(8,none)])
end
theorem yI (x1:(List Transfer)) (x2:Int) (u4:(List Source)) (u5:(List Link)) (u6:(List aP)) (u0:State) (v0:State) (o_:(List Int)):dY Tryz.prog 102 [(.one (.yl 0)),(sD (Ii [(V9 x1)] 0)),(sD (k3 x2 u4 u5 u6)),(.one (.ptr 1 0))] [(0,some (.loop iI 0 [(10,(vP 2 0)),(11,(vP 3 0))])),(1,some (Wq u0)),(2,some (Wq u0)),(3,some (.cells 36 [(.own 11 false o_.length)])),(4,some (aZ 4 1 af u0.closed)),(Ps u0),(P7 u0),(Pb u0),(OY u0),(OV u0),(OU u0),(11,some (DF o_))] (fun r=>(.dX [])) (fun r=>[(0,some (.loop iI 0 [(10,(vP 2 0)),(11,(vP 3 0))])),(1,some (.cells 29 [(.own 12 false r.1.closed.length),(.own 5 false u0.locked.length),(.own 6 false u0.badLink.length),(.own 7 false u0.on_.length),(.own 8 false u0.badSource.length),(.own 9 false u0.earthed.length),(.own 10 false u0.badBus.length)])),(2,some (.cells 29 [(.own 12 false r.1.closed.length),(.own 5 false u0.locked.length),(.own 6 false u0.badLink.length),(.own 7 false u0.on_.length),(.own 8 false u0.badSource.length),(.own 9 false u0.earthed.length),(.own 10 false u0.badBus.length)])),(3,some (.cells 36 [(.own 13 false r.2.2.length)])),(4,none),(Ps u0),(P7 u0),(Pb u0),(OY u0),(OV u0),(OU u0),(11,none),(12,some (aZ 4 1 af r.1.closed)),(13,some (aZ 3 1 (aF .i64) r.2.2))]) (oC x1 x2 u4 u5 u6 u0 v0 o_):=
  eU tT mX Tryz.func102 (
  .sp (σ:=((List Bool) × (List Int) × (List Bool))) (β:=((List Bool) × (List Int))) (u0.closed,o_,(Tz x1)) ⟨[0,1,2,3],[0,5,6,7,8,9,10],fun(u2,u8,u3)=>[(5,(vO 82 true u3.length))],fun(u2,u8,u3)=>[(YB u0 u2),(YF u0 u2),(3,some (.cells 36 [(.own 100 false u8.length)])),(4,none),(11,none),(82,some (aZ 4 1 af u3)),(99,some (aZ 4 1 af u2)),(100,some (DF u8))]⟩ ⟨[],[0,5,6,7,8,9,10],fun(u7,u9)=>[],fun(u7,u9)=>[(YB u0 u7),(YF u0 u7),(3,some (.cells 36 [(.own 100 false u9.length)])),(4,none),(11,none),(99,some (aZ 4 1 af u7)),(100,some (DF u9))]⟩ (.a3 ((0:Int)≤(x1.length:Int)) ((1:Int)*(x1.length:Int)≤281474976710656) (((x1.length:Int):Int)≤9223372036854775807)<| .rg {an:=[(2, .arr (Tz x1).length (Ya x1))],fr:=[(2,151)]} [0, .e (((x1.length:Int):Int)),1,2, .pf ⟨(Tz x1).length=((x1.length:Int).toNat),List.length_replicate⟩, .pf ⟨aD ((x1.length:Int).toNat) 1 (fun _ j=>[(.bool false)].getD j .nilp) (Ya x1),iB _ _ _ _ _ (fun j hj=>(match j,hj with|0,_=>rfl))⟩]<| .im (.ra 4 152)<| .im (.re 3 0 11 153)<| .en () [] [(151,82),(152,99),(153,100)])
  (fun(u2,u8,u3)=> .r<| .lp (σ:=Int) (β:=Unit) (0) [] [] ⟨[0,1,2,3,5,13,14],[0,1,2,3,4,5,6,7,8,9,10,11,82,99,100],fun u1=>[(15,(vI u1))],fun u1=>[]⟩ ⟨[],[0,1,2,3,4,5,6,7,8,9,10,11,99,100],fun _=>[],fun _=>[]⟩
  (fun u1=> .r<| .it (.a1 (XK x1 u1)<| .rg {fr:=[(3,147)],fz:=[147]} []<| .a1 (Rh u3 u1)<| .rg {} [0, .t 0 u1 u3.length]<| .it (.r<| .e (.next (k10 u1)))
  (.cl 3 (jG [(0,99),(1,5),(2,6),(3,7),(4,8),(1,9),(2,10),(3,148),(4,149)] (Bq (⟨x2,u4,u5,u6⟩:ai) (TJ u0 u2) (at' x1 u1.toNat))) fun r_=> .fk r_.2 (.rg {an:=[(3, .call [99,5,6,7,8,9,10] (.dX [(.agg (XO u0 r_)),(sB true)]) [(99,some (aZ 4 1 af u2)),(Ps u0),(P7 u0),(Pb u0),(OY u0),(OV u0),(OU u0),(148,some (Oq r_)),(149,none)])],fr:=[(7,150)]} [.m [1,0] [Fn Tryz.prog 103 (NJ u0 x1 u2 x2 u4 u5 u6 u1) (Om u0 u2) (TV.ren (swp [(0,99),(1,5),(2,6),(3,7),(4,8),(1,9),(2,10),(3,148),(4,149)]) (Yv u0 r_)) (Xz u0 u2 r_),r_.2=true] (Fn Tryz.prog 103 (NJ u0 x1 u2 x2 u4 u5 u6 u1) (Om u0 u2) (TV.ren (swp [(0,99),(1,5),(2,6),(3,7),(4,8),(1,9),(2,10),(3,148),(4,149)]) (.dX [(.agg (Qi u0 r_)),(sB true)])) (ql (swp [(0,99),(1,5),(2,6),(3,7),(4,8),(1,9),(2,10),(3,148),(4,149)]) [(0,some (aZ 4 1 af u2)),(Kw u0),(J4 u0),(I8 u0),(JZ u0),(Jq u0),(Jb u0),(7,bif true then some (Oq r_)else none),(8,none)])) (fun⟨hy,hb2,_⟩=>(congrArg (fun bq=>Fn Tryz.prog 103 (NJ u0 x1 u2 x2 u4 u5 u6 u1) (Om u0 u2) (TV.ren (swp [(0,99),(1,5),(2,6),(3,7),(4,8),(1,9),(2,10),(3,148),(4,149)]) (.dX [(.agg (Qi u0 r_)),(sB bq)])) (ql (swp [(0,99),(1,5),(2,6),(3,7),(4,8),(1,9),(2,10),(3,148),(4,149)]) [(0,some (aZ 4 1 af u2)),(Kw u0),(J4 u0),(I8 u0),(JZ u0),(Jq u0),(Jb u0),(7,bif bq then some (Oq r_)else none),(8,none)])) hb2).mp hy)]<| .r<| .t<| .a1 (Rh u3 u1)<| .rg {an:=[(5, .arr 0 (aj af (u3.set u1.toNat true)))]} [0, .t 0 u1 u3.length, .pf ⟨aD u3.length 1 (iG (aj af u3) u1.toNat 0 [(.bool true)]) (aj af (u3.set u1.toNat true)),bn _ _ _ _ _ _ _ _ rfl (fun j hj=>(match j,hj with|0,_=>rfl))⟩]<| .im (.ll 82 u3 (u3.set u1.toNat true))<| .cy 3 (rkY [(1,148),(2,5),(3,6),(4,7),(2,8),(3,9),(4,10),(4,99),(11,100),(12,151)] (vw u1 r_.1.closed u0.locked u0.badLink u0.on_ u0.badSource u0.earthed u0.badBus (TJ u0 u2) u8)) fun v1=> .r<| .f<| .en (.done (.ret (.next (r_.1.closed,v1.2,(u3.set u1.toNat true))))) [] [(148,99),(151,100)])
  (.rg {an:=[(3, .call [99,5,6,7,8,9,10] (.dX [(.agg (XO u0 r_)),(sB false)]) [(99,some (aZ 4 1 af u2)),(Ps u0),(P7 u0),(Pb u0),(OY u0),(OV u0),(OU u0),(148,none),(149,none)])],fr:=[(7,150)]} [.m [1,0] [Fn Tryz.prog 103 (NJ u0 x1 u2 x2 u4 u5 u6 u1) (Om u0 u2) (TV.ren (swp [(0,99),(1,5),(2,6),(3,7),(4,8),(1,9),(2,10),(3,148),(4,149)]) (Yv u0 r_)) (Xz u0 u2 r_),r_.2=false] (Fn Tryz.prog 103 (NJ u0 x1 u2 x2 u4 u5 u6 u1) (Om u0 u2) (TV.ren (swp [(0,99),(1,5),(2,6),(3,7),(4,8),(1,9),(2,10),(3,148),(4,149)]) (.dX [(.agg (Qi u0 r_)),(sB false)])) (ql (swp [(0,99),(1,5),(2,6),(3,7),(4,8),(1,9),(2,10),(3,148),(4,149)]) [(0,some (aZ 4 1 af u2)),(Kw u0),(J4 u0),(I8 u0),(JZ u0),(Jq u0),(Jb u0),(7,bif false then some (Oq r_)else none),(8,none)])) (fun⟨hy,hb2,_⟩=>(congrArg (fun bq=>Fn Tryz.prog 103 (NJ u0 x1 u2 x2 u4 u5 u6 u1) (Om u0 u2) (TV.ren (swp [(0,99),(1,5),(2,6),(3,7),(4,8),(1,9),(2,10),(3,148),(4,149)]) (.dX [(.agg (Qi u0 r_)),(sB bq)])) (ql (swp [(0,99),(1,5),(2,6),(3,7),(4,8),(1,9),(2,10),(3,148),(4,149)]) [(0,some (aZ 4 1 af u2)),(Kw u0),(J4 u0),(I8 u0),(JZ u0),(Jq u0),(Jb u0),(7,bif bq then some (Oq r_)else none),(8,none)])) hb2).mp hy)]<| .r<| .f<| .r<| .e (.next (k10 u1)))))
  (.e (.done (.brk ()))))
  (fun _=> .e (.done (.brk (u2,u8)))))
  (fun(u7,u9)=> .en ((TJ u0 u7),(TJ u0 u7),u9) [] [(99,12),(100,13)]))
theorem iF (a:(List Int)) (b:(List Int)):dY Tryz.prog 20 [(sD (aR none 1 (aF .i64) a)),(sD (aR none 1 (aF .i64) b))] [] (fun r=>(vB r)) (fun _=>[]) (fw a b):=
  eU tT mX Tryz.func20 (
  .r<| .r<| .it (.r<| .e false)
  (.r<| .lp (σ:=Int) (β:=Unit) (0) [] [] ⟨[0,1],[],fun i=>[(5,(vI i))],fun i=>[]⟩ ⟨[],[],fun _=>[],fun _=>[]⟩
  (fun i=> .r<| .it (.a2 ((0:Int)≤i∧i<(a.length:Int)) ((0:Int)≤i∧i<(b.length:Int))<| .rg {} [0,1]<| .it (.r<| .e (.done (.ret false)))
  (.r<| .e (.next (k10 i))))
  (.e (.done (.brk ()))))
  (fun _=> .r<| .e true)))
end
end Sg
