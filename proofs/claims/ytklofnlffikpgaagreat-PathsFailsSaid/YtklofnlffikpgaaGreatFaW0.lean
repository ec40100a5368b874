import Derived.Test.YtklofnlffikpgaaGreatFaGm
import Derived.Test.YtklofnlffikpgaaGreatProg
import Derived.Test.YtklofnlffikpgaaGreatFaLf
import Derived.Test.YtklofnlffikpgaaGreatFaLe
set_option linter.all false
namespace Sg
open Go Go.Proofs
set_option maxRecDepth 20000
noncomputable section
noncomputable def TT:List (Nat × TI):=[(3,⟨Tryz.t3.desc,Tryz.t3.size,Tryz.t3.bytes,zl Tryz.t3,false⟩),
  (4,⟨Tryz.t4.desc,Tryz.t4.size,Tryz.t4.bytes,zl Tryz.t4,false⟩),
  (22,⟨Tryz.t22.desc,Tryz.t22.size,Tryz.t22.bytes,zl Tryz.t22,false⟩),
  (23,⟨Tryz.t23.desc,Tryz.t23.size,Tryz.t23.bytes,zl Tryz.t23,false⟩),
  (24,⟨Tryz.t24.desc,Tryz.t24.size,Tryz.t24.bytes,zl Tryz.t24,false⟩),
  (26,⟨Tryz.t25.desc,Tryz.t26.size,Tryz.t26.bytes,zl Tryz.t26,false⟩),
  (27,⟨Tryz.t27.desc,Tryz.t27.size,Tryz.t27.bytes,zl Tryz.t27,false⟩),
  (29,⟨Tryz.t28.desc,Tryz.t29.size,Tryz.t29.bytes,zl Tryz.t29,false⟩),
  (30,⟨Tryz.t30.desc,Tryz.t30.size,Tryz.t30.bytes,zl Tryz.t30,false⟩),
  (34,⟨Tryz.t34.desc,Tryz.t34.size,Tryz.t34.bytes,zl Tryz.t34,false⟩),
  (36,⟨Tryz.t36.desc,Tryz.t36.size,Tryz.t36.bytes,zl Tryz.t36,false⟩),
  (41,⟨Tryz.t41.desc,Tryz.t41.size,Tryz.t41.bytes,zl Tryz.t41,false⟩),
  (44,⟨Tryz.t44.desc,Tryz.t44.size,Tryz.t44.bytes,zl Tryz.t44,true⟩),
  (46,⟨Tryz.t45.desc,Tryz.t46.size,Tryz.t46.bytes,zl Tryz.t46,true⟩),
  (48,⟨Tryz.t48.desc,Tryz.t48.size,Tryz.t48.bytes,zl Tryz.t48,false⟩),
  (61,⟨Tryz.t61.desc,Tryz.t61.size,Tryz.t61.bytes,zl Tryz.t61,false⟩),
  (76,⟨Tryz.t76.desc,Tryz.t76.size,Tryz.t76.bytes,zl Tryz.t76,false⟩),
  (79,⟨Tryz.t79.desc,Tryz.t79.size,Tryz.t79.bytes,zl Tryz.t79,false⟩),
  (82,⟨Tryz.t3.desc,Tryz.t82.size,Tryz.t82.bytes,zl Tryz.t82,false⟩),
  (84,⟨Tryz.t83.desc,Tryz.t84.size,Tryz.t84.bytes,zl Tryz.t84,true⟩),
  (86,⟨Tryz.t85.desc,Tryz.t86.size,Tryz.t86.bytes,zl Tryz.t86,true⟩),
  (87,⟨Tryz.t85.desc,Tryz.t87.size,Tryz.t87.bytes,zl Tryz.t87,true⟩),
  (92,⟨Tryz.t92.desc,Tryz.t92.size,Tryz.t92.bytes,zl Tryz.t92,false⟩),
  (95,⟨Tryz.t95.desc,Tryz.t95.size,Tryz.t95.bytes,zl Tryz.t95,true⟩),
  (100,⟨Tryz.t99.desc,Tryz.t100.size,Tryz.t100.bytes,zl Tryz.t100,true⟩),
  (101,⟨Tryz.t45.desc,Tryz.t101.size,Tryz.t101.bytes,zl Tryz.t101,true⟩),
  (108,⟨Tryz.t108.desc,Tryz.t108.size,Tryz.t108.bytes,zl Tryz.t108,false⟩),
  (109,⟨Tryz.t109.desc,Tryz.t109.size,Tryz.t109.bytes,zl Tryz.t109,false⟩),
  (110,⟨Tryz.t3.desc,Tryz.t110.size,Tryz.t110.bytes,zl Tryz.t110,false⟩),
  (111,⟨Tryz.t111.desc,Tryz.t111.size,Tryz.t111.bytes,zl Tryz.t111,false⟩),
  (113,⟨Tryz.t112.desc,Tryz.t113.size,Tryz.t113.bytes,zl Tryz.t113,false⟩),
  (119,⟨Tryz.t119.desc,Tryz.t119.size,Tryz.t119.bytes,zl Tryz.t119,false⟩),
  (122,⟨Tryz.t121.desc,Tryz.t122.size,Tryz.t122.bytes,zl Tryz.t122,false⟩),
  (123,⟨Tryz.t3.desc,Tryz.t123.size,Tryz.t123.bytes,zl Tryz.t123,false⟩),
  (125,⟨Tryz.t124.desc,Tryz.t125.size,Tryz.t125.bytes,zl Tryz.t125,true⟩),
  (141,⟨Tryz.t141.desc,Tryz.t141.size,Tryz.t141.bytes,zl Tryz.t141,false⟩),
  (161,⟨Tryz.t161.desc,Tryz.t161.size,Tryz.t161.bytes,zl Tryz.t161,false⟩),
  (164,⟨Tryz.t164.desc,Tryz.t164.size,Tryz.t164.bytes,zl Tryz.t164,false⟩),
  (167,⟨Tryz.t167.desc,Tryz.t167.size,Tryz.t167.bytes,zl Tryz.t167,false⟩),
  (169,⟨Tryz.t169.desc,Tryz.t169.size,Tryz.t169.bytes,zl Tryz.t169,false⟩),
  (172,⟨Tryz.t172.desc,Tryz.t172.size,Tryz.t172.bytes,zl Tryz.t172,false⟩),
  (173,⟨Tryz.t173.desc,Tryz.t173.size,Tryz.t173.bytes,zl Tryz.t173,false⟩),
  (176,⟨Tryz.t176.desc,Tryz.t176.size,Tryz.t176.bytes,zl Tryz.t176,false⟩),
  (178,⟨Tryz.t177.desc,Tryz.t178.size,Tryz.t178.bytes,zl Tryz.t178,false⟩),
  (192,⟨Tryz.t192.desc,Tryz.t192.size,Tryz.t192.bytes,zl Tryz.t192,false⟩),
  (193,⟨Tryz.t193.desc,Tryz.t193.size,Tryz.t193.bytes,zl Tryz.t193,false⟩),
  (195,⟨Tryz.t194.desc,Tryz.t195.size,Tryz.t195.bytes,zl Tryz.t195,false⟩),
  (198,⟨Tryz.t198.desc,Tryz.t198.size,Tryz.t198.bytes,zl Tryz.t198,false⟩),
  (211,⟨Tryz.t210.desc,Tryz.t211.size,Tryz.t211.bytes,zl Tryz.t211,true⟩),
  (232,⟨Tryz.t232.desc,Tryz.t232.size,Tryz.t232.bytes,zl Tryz.t232,false⟩),
  (236,⟨Tryz.t236.desc,Tryz.t236.size,Tryz.t236.bytes,zl Tryz.t236,false⟩)]
theorem tT:pJ Tryz.prog TT:=⟨fT (by kernel_rfl) (by kernel_rfl) (by kernel_rfl),⟨jG,bY (by kernel_rfl)⟩,fT (by kernel_rfl) (by kernel_rfl) (by kernel_rfl),⟨jG,bY (by kernel_rfl)⟩,fT (by kernel_rfl) (by kernel_rfl) (by kernel_rfl),⟨jG,bY (by kernel_rfl)⟩,fT (by kernel_rfl) (by kernel_rfl) (by kernel_rfl),⟨jG,bY (by kernel_rfl)⟩,fT (by kernel_rfl) (by kernel_rfl) (by kernel_rfl),⟨jG,bY (by kernel_rfl)⟩,fT (by kernel_rfl) (by kernel_rfl) (by kernel_rfl),⟨jG,bY (by kernel_rfl)⟩,fT (by kernel_rfl) (by kernel_rfl) (by kernel_rfl),⟨jG,bY (by kernel_rfl)⟩,fT (by kernel_rfl) (by kernel_rfl) (by kernel_rfl),⟨jG,bY (by kernel_rfl)⟩,fT (by kernel_rfl) (by kernel_rfl) (by kernel_rfl),⟨jG,bY (by kernel_rfl)⟩,fT (by kernel_rfl) (by kernel_rfl) (by kernel_rfl),⟨jG,bY (by kernel_rfl)⟩,fT (by kernel_rfl) (by kernel_rfl) (by kernel_rfl),⟨jG,bY (by kernel_rfl)⟩,fT (by kernel_rfl) (by kernel_rfl) (by kernel_rfl),⟨jG,bY (by kernel_rfl)⟩,fT (by kernel_rfl) (by kernel_rfl) (by kernel_rfl),⟨fun _=> ⟨by kernel_rfl,by kernel_rfl⟩,bY (by kernel_rfl)⟩,fT (by kernel_rfl) (by kernel_rfl) (by kernel_rfl),⟨fun _=> ⟨by kernel_rfl,by kernel_rfl⟩,bY (by kernel_rfl)⟩,fT (by kernel_rfl) (by kernel_rfl) (by kernel_rfl),⟨jG,bY (by kernel_rfl)⟩,fT (by kernel_rfl) (by kernel_rfl) (by kernel_rfl),⟨jG,bY (by kernel_rfl)⟩,fT (by kernel_rfl) (by kernel_rfl) (by kernel_rfl),⟨jG,bY (by kernel_rfl)⟩,fT (by kernel_rfl) (by kernel_rfl) (by kernel_rfl),⟨jG,bY (by kernel_rfl)⟩,fT (by kernel_rfl) (by kernel_rfl) (by kernel_rfl),⟨jG,bY (by kernel_rfl)⟩,fT (by kernel_rfl) (by kernel_rfl) (by kernel_rfl),⟨fun _=> ⟨by kernel_rfl,by kernel_rfl⟩,bY (by kernel_rfl)⟩,fT (by kernel_rfl) (by kernel_rfl) (by kernel_rfl),⟨fun _=> ⟨by kernel_rfl,by kernel_rfl⟩,bY (by kernel_rfl)⟩,fT (by kernel_rfl) (by kernel_rfl) (by kernel_rfl),⟨fun _=> ⟨by kernel_rfl,by kernel_rfl⟩,bY (by kernel_rfl)⟩,fT (by kernel_rfl) (by kernel_rfl) (by kernel_rfl),⟨jG,bY (by kernel_rfl)⟩,fT (by kernel_rfl) (by kernel_rfl) (by kernel_rfl),⟨fun _=> ⟨by kernel_rfl,by kernel_rfl⟩,bY (by kernel_rfl)⟩,fT (by kernel_rfl) (by kernel_rfl) (by kernel_rfl),⟨fun _=> ⟨by kernel_rfl,by kernel_rfl⟩,bY (by kernel_rfl)⟩,fT (by kernel_rfl) (by kernel_rfl) (by kernel_rfl),⟨fun _=> ⟨by kernel_rfl,by kernel_rfl⟩,bY (by kernel_rfl)⟩,fT (by kernel_rfl) (by kernel_rfl) (by kernel_rfl),⟨jG,bY (by kernel_rfl)⟩,fT (by kernel_rfl) (by kernel_rfl) (by kernel_rfl),⟨jG,bY (by kernel_rfl)⟩,fT (by kernel_rfl) (by kernel_rfl) (by kernel_rfl),⟨jG,bY (by kernel_rfl)⟩,fT (by kernel_rfl) (by kernel_rfl) (by kernel_rfl),⟨jG,bY (by kernel_rfl)⟩,fT (by kernel_rfl) (by kernel_rfl) (by kernel_rfl),⟨jG,bY (by kernel_rfl)⟩,fT (by kernel_rfl) (by kernel_rfl) (by kernel_rfl),⟨jG,bY (by kernel_rfl)⟩,fT (by kernel_rfl) (by kernel_rfl) (by kernel_rfl),⟨jG,bY (by kernel_rfl)⟩,fT (by kernel_rfl) (by kernel_rfl) (by kernel_rfl),⟨jG,bY (by kernel_rfl)⟩,fT (by kernel_rfl) (by kernel_rfl) (by kernel_rfl),⟨fun _=> ⟨by kernel_rfl,by kernel_rfl⟩,bY (by kernel_rfl)⟩,fT (by kernel_rfl) (by kernel_rfl) (by kernel_rfl),⟨jG,bY (by kernel_rfl)⟩,fT (by kernel_rfl) (by kernel_rfl) (by kernel_rfl),⟨jG,bY (by kernel_rfl)⟩,fT (by kernel_rfl) (by kernel_rfl) (by kernel_rfl),⟨jG,bY (by kernel_rfl)⟩,fT (by kernel_rfl) (by kernel_rfl) (by kernel_rfl),⟨jG,bY (by kernel_rfl)⟩,fT (by kernel_rfl) (by kernel_rfl) (by kernel_rfl),⟨jG,bY (by kernel_rfl)⟩,fT (by kernel_rfl) (by kernel_rfl) (by kernel_rfl),⟨jG,bY (by kernel_rfl)⟩,fT (by kernel_rfl) (by kernel_rfl) (by kernel_rfl),⟨jG,bY (by kernel_rfl)⟩,fT (by kernel_rfl) (by kernel_rfl) (by kernel_rfl),⟨jG,bY (by kernel_rfl)⟩,fT (by kernel_rfl) (by kernel_rfl) (by kernel_rfl),⟨jG,bY (by kernel_rfl)⟩,fT (by kernel_rfl) (by kernel_rfl) (by kernel_rfl),⟨jG,bY (by kernel_rfl)⟩,fT (by kernel_rfl) (by kernel_rfl) (by kernel_rfl),⟨jG,bY (by kernel_rfl)⟩,fT (by kernel_rfl) (by kernel_rfl) (by kernel_rfl),⟨jG,bY (by kernel_rfl)⟩,fT (by kernel_rfl) (by kernel_rfl) (by kernel_rfl),⟨jG,bY (by kernel_rfl)⟩,fT (by kernel_rfl) (by kernel_rfl) (by kernel_rfl),⟨fun _=> ⟨by kernel_rfl,by kernel_rfl⟩,bY (by kernel_rfl)⟩,fT (by kernel_rfl) (by kernel_rfl) (by kernel_rfl),⟨jG,bY (by kernel_rfl)⟩,fT (by kernel_rfl) (by kernel_rfl) (by kernel_rfl),⟨jG,bY (by kernel_rfl)⟩,trivial⟩
theorem mX:Tryz.prog.follows .mixedOrders=true:=by kernel_rfl
def JQ:Go.Shelf.Ren:=⟨fun|6=>52|14=>107|15=>108|20=>153|21=>154|22=>155|23=>156|24=>157|25=>158|26=>159|27=>160|28=>161|29=>162|46=>177|47=>178|48=>179|49=>180|50=>181|57=>182|n=>n,fun|0=>0|3=>3|4=>4|5=>5|9=>9|22=>41|24=>44|25=>128|39=>104|45=>219|46=>220|50=>184|53=>226|55=>228|66=>243|70=>247|76=>249|77=>250|n=>n,fun n=>n⟩
theorem TB:Go.Proofs.SlLaysF0.n6 Tryz.prog JQ:=⟨by kernel_rfl,⟨Tryz.f52.name,by kernel_rfl,Tryz.func52.trans (congrArg some (by kernel_rfl))⟩,⟨Tryz.f107.name,by kernel_rfl,Tryz.func107.trans (congrArg some (by kernel_rfl))⟩,Tryz.func108.trans (congrArg some (by kernel_rfl)),⟨Tryz.f153.name,by kernel_rfl,Tryz.func153.trans (congrArg some (by kernel_rfl))⟩,⟨Tryz.f154.name,by kernel_rfl,Tryz.func154.trans (congrArg some (by kernel_rfl))⟩,⟨Tryz.f155.name,by kernel_rfl,Tryz.func155.trans (congrArg some (by kernel_rfl))⟩,⟨Tryz.f156.name,by kernel_rfl,Tryz.func156.trans (congrArg some (by kernel_rfl))⟩,⟨Tryz.f157.name,by kernel_rfl,Tryz.func157.trans (congrArg some (by kernel_rfl))⟩,⟨Tryz.f158.name,by kernel_rfl,Tryz.func158.trans (congrArg some (by kernel_rfl))⟩,⟨Tryz.f159.name,by kernel_rfl,Tryz.func159.trans (congrArg some (by kernel_rfl))⟩,⟨Tryz.f160.name,by kernel_rfl,Tryz.func160.trans (congrArg some (by kernel_rfl))⟩,Tryz.func161.trans (congrArg some (by kernel_rfl)),Tryz.func162.trans (congrArg some (by kernel_rfl)),⟨Tryz.f177.name,by kernel_rfl,Tryz.func177.trans (congrArg some (by kernel_rfl))⟩,Tryz.func178.trans (congrArg some (by kernel_rfl)),Tryz.func179.trans (congrArg some (by kernel_rfl)),⟨Tryz.f180.name,by kernel_rfl,Tryz.func180.trans (congrArg some (by kernel_rfl))⟩,⟨Tryz.f181.name,by kernel_rfl,Tryz.func181.trans (congrArg some (by kernel_rfl))⟩,⟨Tryz.f182.name,by kernel_rfl,Tryz.func182.trans (congrArg some (by kernel_rfl))⟩,Tryz.underlying0,Tryz.isAgg0,Tryz.sizeOf0,Tryz.zeroValue0,Tryz.underlying3,Tryz.isAgg3,Tryz.sizeOf3,Tryz.zeroValue3,Tryz.underlying4,Tryz.isAgg4,Tryz.sizeOf4,Tryz.zeroValue4,Tryz.underlying5,Tryz.isAgg5,Tryz.sizeOf5,Tryz.zeroValue5,Tryz.underlying9,Tryz.isAgg9,Tryz.sizeOf9,Tryz.zeroValue9,Tryz.underlying41,Tryz.isAgg41,Tryz.sizeOf41,Tryz.zeroValue41,Tryz.underlying128,Tryz.isAgg128,Tryz.sizeOf128,Tryz.zeroValue128,Tryz.underlying104,Tryz.isAgg104,Tryz.sizeOf104,Tryz.zeroValue104,Tryz.underlying219,Tryz.isAgg219,Tryz.sizeOf219,Tryz.zeroValue219,Tryz.underlying220,Tryz.isAgg220,Tryz.sizeOf220,Tryz.zeroValue220,Tryz.underlying184,Tryz.isAgg184,Tryz.sizeOf184,Tryz.zeroValue184,Tryz.underlying226,Tryz.isAgg226,Tryz.sizeOf226,Tryz.zeroValue226,Tryz.underlying228,Tryz.isAgg228,Tryz.sizeOf228,Tryz.zeroValue228,Tryz.underlying243,Tryz.isAgg243,Tryz.sizeOf243,Tryz.zeroValue243,Tryz.underlying247,Tryz.isAgg247,Tryz.sizeOf247,Tryz.zeroValue247,Tryz.underlying249,Tryz.isAgg249,Tryz.sizeOf249,Tryz.zeroValue249,Tryz.underlying250,Tryz.isAgg250,Tryz.sizeOf250,Tryz.zeroValue250⟩
theorem UJ (w:World):(isAgg (JQ.t 24)).run Tryz.prog w= .ok true w:=Tryz.isAgg44 w
theorem RU (w:World):(Go.sizeOf (JQ.t 24)).run Tryz.prog w= .ok 2 w:=Tryz.sizeOf44 w
def Xl:Go.Shelf.Ren:=⟨fun|23=>170|n=>n,fun|0=>0|3=>3|4=>4|22=>36|n=>n,fun n=>n⟩
theorem Vn:Go.Proofs.Lays2.n23 Tryz.prog Xl:=⟨by kernel_rfl,Tryz.func170.trans (congrArg some (by kernel_rfl)),Tryz.underlying0,Tryz.isAgg0,Tryz.sizeOf0,Tryz.zeroValue0,Tryz.underlying3,Tryz.isAgg3,Tryz.sizeOf3,Tryz.zeroValue3,Tryz.underlying4,Tryz.isAgg4,Tryz.sizeOf4,Tryz.zeroValue4,Tryz.underlying36,Tryz.isAgg36,Tryz.sizeOf36,Tryz.zeroValue36,by kernel_rfl⟩
theorem aJ (n:Int) (u0:Int) (u1:Int):dJ Tryz.prog 91 [(sI n),(sI u0),(sI u1)] [] (fun r=>(vB r)) (fun _=>[]) (aP n u0 u1):=
  dZ tT mX Tryz.func91 (
  .r<| .r<| .e (bif (decide (u0≤n))then(decide (n≤u1))else false))
section
variable (p:ai)
abbrev k1:List CV:=[(cI p.buses),(.d (aR none 5 Source.cell p.sources)),(.d (aR none 6 Link.cell p.links)),(.d (aR none 4 aT.cell p.racks))]
abbrev k0:List SV:=[(.agg (k1 p))]
end
theorem Bu (p:ai):dJ Tryz.prog 93 (k0 p) [] (fun r=>(vD (.fn 140 1 (yc [(Gy [(.int .i64 r.1),(aR none 5 Source.cell r.2.1),(aR none 6 Link.cell r.2.2.1),(aR none 4 aT.cell r.2.2.2)] 0)])))) (fun _=>[]) (sZ p):=
  dZ tT mX Tryz.func93 (
  .rg {fr:=[(0,1)],fz:=[1]} []<| .r<| .e (p.buses,p.sources,p.links,p.racks))
theorem DT (p:ai):dJ Tryz.prog 95 (k0 p) [] (fun r=>(vD (.fn 143 1 (yc [(Gy [(.int .i64 r.1),(aR none 5 Source.cell r.2.1),(aR none 6 Link.cell r.2.2.1),(aR none 4 aT.cell r.2.2.2)] 0)])))) (fun _=>[]) (xC p):=
  dZ tT mX Tryz.func95 (
  .rg {fr:=[(0,1)],fz:=[1]} []<| .r<| .e (p.buses,p.sources,p.links,p.racks))
theorem DU (p:ai):dJ Tryz.prog 97 (k0 p) [] (fun r=>(vD (.fn 146 1 (yc [(Gy [(.int .i64 r.1),(aR none 5 Source.cell r.2.1),(aR none 6 Link.cell r.2.2.1),(aR none 4 aT.cell r.2.2.2)] 0)])))) (fun _=>[]) (wQ p):=
  dZ tT mX Tryz.func97 (
  .rg {fr:=[(0,1)],fz:=[1]} []<| .r<| .e (p.buses,p.sources,p.links,p.racks))
section
variable (x:Source) (x1:Int) (u2:(List Source)) (u3:(List Link)) (u4:(List aT)) (r_:Bool) (u0:Bool) (u1:Bool) (u5:Bool) (u6:Bool)
abbrev k2:List CV:=[(cI x.bus),(cI x.kind),(cI x.power),(cI x.sync),(cI x.ohm)]
abbrev k3:DV:=(Gy [(.int .i64 x1),(aR none 5 Source.cell u2),(aR none 6 Link.cell u3),(aR none 4 aT.cell u4)] 0)
abbrev k4:=(IntKind.wrap .i64 (x1 - 1))
abbrev k5:=((bif r_ then u0 else false),true)
abbrev k6:=(bif (bif (bif (bif r_ then u0 else false)then u1 else false)then u5 else false)then u6 else false)
end
theorem Aa (x:Source) (x1:Int) (u2:(List Source)) (u3:(List Link)) (u4:(List aT)):dJ Tryz.prog 140 [(.agg (k2 x)),(sD (k3 x1 u2 u3 u4))] [] (fun r=>(vB r)) (fun _=>[]) (mY x x1 u2 u3 u4):=
  dZ tT mX Tryz.func140 (
  .rg {fr:=[(0,1)],fz:=[1]} []<| .cl 5 (aJ x.bus 0 (k4 x1)) fun r_=> .cg 9 [(r_,true)] (aJ x.kind 1 3) fun u0=> .cg 14 [(k5 r_ u0)] (aJ x.power 1 100000) fun u1=> .cg 19 [((bif (bif r_ then u0 else false)then u1 else false),true)] (aJ x.sync 0 8) fun u5=> .cg 24 [((bif (bif (bif r_ then u0 else false)then u1 else false)then u5 else false),true)] (aJ x.ohm 10 100000) fun u6=> .r<| .e (k6 r_ u0 u1 u5 u6))
section
variable (x1:Int) (u0:(List Source)) (u1:(List Link)) (u2:(List aT))
abbrev k8:=(yc [(k3 x1 u0 u1 u2)])
abbrev k7:DV:=(Gy [(.fn 140 1 (k8 x1 u0 u1 u2))] 0)
end
theorem Cr (x:Source) (x1:Int) (u0:(List Source)) (u1:(List Link)) (u2:(List aT)):dJ Tryz.prog 139 [(.agg (k2 x)),(sD (k7 x1 u0 u1 u2))] [] (fun r=>(vB r)) (fun _=>[]) (uD x x1 u0 u1 u2):=
  dZ tT mX Tryz.func139 (
  .rg {fr:=[(0,1)],fz:=[1]} []<| .cl 2 (Aa x x1 u0 u1 u2) fun r_=> .r<| .e (!r_))
section
variable (s_:(List Source)) (f_:Int) (u0:(List Source)) (u1:(List Link)) (u2:(List aT)) (t8:Int)
abbrev k9:List SV:=[(sD (aR none 5 Source.cell s_)),(sD (.fn 139 1 (yc [(k7 f_ u0 u1 u2)])))]
abbrev k10:=(IntKind.wrap .i64 (t8+1))
end
theorem xO (s_:(List Source)) (f_:Int) (u0:(List Source)) (u1:(List Link)) (u2:(List aT)):dJ Tryz.prog 172 (k9 s_ f_ u0 u1 u2) [] (fun r=>(vI r)) (fun _=>[]) (nW s_ f_ u0 u1 u2):=
  dZ tT mX Tryz.func172 (
  .r<| .r<| .lp (σ:=Int) (β:=Unit) (0) [] [] ⟨[0,1,7],[],fun t8=>[(8,(vI t8))],fun t8=>[]⟩ ⟨[],[],fun _=>[],fun _=>[]⟩
  (fun t8=> .r<| .it (.r<| .cl 5 (Cr (at' s_ t8.toNat) f_ u0 u1 u2) fun r_=> .a1 ((0:Int)≤t8∧t8<(s_.length:Int))<| .rg {} [0,1]<| .it (.r<| .e (.done (.ret t8)))
  (.r<| .e (.next (k10 t8))))
  (.e (.done (.brk ()))))
  (fun _=> .r<| .e (-1)))
theorem ve (s_:(List Source)) (f_:Int) (u0:(List Source)) (u1:(List Link)) (u2:(List aT)):dJ Tryz.prog 138 (k9 s_ f_ u0 u1 u2) [] (fun r=>(vB r)) (fun _=>[]) (iB s_ f_ u0 u1 u2):=
  dZ tT mX Tryz.func138 (
  .r<| .cl 2 (xO s_ f_ u0 u1 u2) fun r_=> .r<| .e (decide (0≤r_)))
theorem DZ (l:(List Source)) (u0:Int) (u1:Int) (u2:(List Source)) (u3:(List Link)) (u4:(List aT)):dJ Tryz.prog 92 [(sD (aR none 5 Source.cell l)),(sI u0),(sD (.fn 140 1 (k8 u1 u2 u3 u4)))] [] (fun r=>(vB r)) (fun _=>[]) (rE l u0 u1 u2 u3 u4):=
  dZ tT mX Tryz.func92 (
  .rg {fr:=[(0,1)],fz:=[1]} []<| .cg 7 [((decide ((l.length:Int)≤u0)),true)] (ve l u1 u2 u3 u4) fun r_=> .r<| .e (bif (decide ((l.length:Int)≤u0))then(!r_)else false))
section
variable (x:Link) (u0:Int)
abbrev k11:List CV:=[(cI x.a),(cI x.b),(cI x.kind),(cI x.most),(cI x.ohm),(.d (aR none 2 vH.cell x.trip))]
abbrev k12:=((decide (((at' x.trip u0.toNat).amps)≤((at' x.trip ((k4 u0).toNat)).amps))),false)
end
theorem Bw (x:Link) (x1:Int) (u3:(List Source)) (u4:(List Link)) (u5:(List aT)):dJ Tryz.prog 143 [(.agg (k11 x)),(sD (k3 x1 u3 u4 u5))] [] (fun r=>(vB r)) (fun _=>[]) (oL x x1 u3 u4 u5):=
  dZ tT mX Tryz.func143 (
  .rg {fr:=[(0,5)]} []<| .cl 5 (aJ x.a 0 (k4 x1)) fun r_=> .cg 13 [((!r_),false)] (aJ x.b 0 (k4 x1)) fun u1=> .cg 26 [((bif (bif (!r_)then true else(!u1))then true else(decide (x.a=x.b))),false)] (aJ x.kind 1 3) fun u6=> .cg 32 [((bif (bif (bif (!r_)then true else(!u1))then true else(decide (x.a=x.b)))then true else(!u6)),false)] (aJ x.most 1 100000) fun u8=> .cg 38 [((bif (bif (bif (bif (!r_)then true else(!u1))then true else(decide (x.a=x.b)))then true else(!u6))then true else(!u8)),false)] (aJ x.ohm 10 100000) fun u9=> .r<| .it (.r<| .e false)
  (.rg {fz:=[5]} []<| .lp (σ:=Int) (β:=Unit) (0) [] [] ⟨[2,48,49],[],fun u0=>[(50,(vI u0))],fun u0=>[]⟩ ⟨[2],[],fun _=>[],fun _=>[]⟩
  (fun u0=> .r<| .it (.a1 ((0:Int)≤u0∧u0<(x.trip.length:Int))<| .rg {fr:=[(3,9)],fz:=[9]} []<| .cl 2 (aJ ((at' x.trip u0.toNat).amps) 1 1000000) fun u2=> .cg 7 [((!u2),false)] (aJ ((at' x.trip u0.toNat).millis) 1 100000) fun u7=> .a2 ((gB [((decide (0<u0)),true),((bif (!u2)then true else(!u7)),false)]=true→(0:Int)≤(k4 u0)∧(k4 u0)<(x.trip.length:Int))) ((gB [(k12 x u0),((decide (0<u0)),true),((bif (!u2)then true else(!u7)),false)]=true→(0:Int)≤(k4 u0)∧(k4 u0)<(x.trip.length:Int)))<| .rg {} [3,2,0,1]<| .it (.r<| .e (.done (.ret false)))
  (.r<| .e (.next (k10 u0))))
  (.e (.done (.brk ()))))
  (fun _=> .r<| .e (bif (decide ((x.trip.length:Int)≤6))then(bif (decide ((x.trip.length:Int)=0))then true else(decide (x.kind=3)))else false))))
section
variable (x1:Int) (u0:(List Source)) (u1:(List Link)) (u2:(List aT))
abbrev k13:DV:=(Gy [(.fn 143 1 (k8 x1 u0 u1 u2))] 0)
end
theorem yT (x:Link) (x1:Int) (u0:(List Source)) (u1:(List Link)) (u2:(List aT)):dJ Tryz.prog 142 [(.agg (k11 x)),(sD (k13 x1 u0 u1 u2))] [] (fun r=>(vB r)) (fun _=>[]) (pF x x1 u0 u1 u2):=
  dZ tT mX Tryz.func142 (
  .rg {fr:=[(0,1)],fz:=[1]} []<| .cl 2 (Bw x x1 u0 u1 u2) fun r_=> .r<| .e (!r_))
section
variable (s_:(List Link)) (f_:Int) (u0:(List Source)) (u1:(List Link)) (u2:(List aT))
abbrev k14:List SV:=[(sD (aR none 6 Link.cell s_)),(sD (.fn 142 1 (yc [(k13 f_ u0 u1 u2)])))]
end
theorem uY (s_:(List Link)) (f_:Int) (u0:(List Source)) (u1:(List Link)) (u2:(List aT)):dJ Tryz.prog 173 (k14 s_ f_ u0 u1 u2) [] (fun r=>(vI r)) (fun _=>[]) (kW s_ f_ u0 u1 u2):=
  dZ tT mX Tryz.func173 (
  .r<| .r<| .lp (σ:=Int) (β:=Unit) (0) [] [] ⟨[0,1,7],[],fun t8=>[(8,(vI t8))],fun t8=>[]⟩ ⟨[],[],fun _=>[],fun _=>[]⟩
  (fun t8=> .r<| .it (.r<| .cl 5 (yT (at' s_ t8.toNat) f_ u0 u1 u2) fun r_=> .a1 ((0:Int)≤t8∧t8<(s_.length:Int))<| .rg {} [0,1]<| .it (.r<| .e (.done (.ret t8)))
  (.r<| .e (.next (k10 t8))))
  (.e (.done (.brk ()))))
  (fun _=> .r<| .e (-1)))
theorem rH (s_:(List Link)) (f_:Int) (u0:(List Source)) (u1:(List Link)) (u2:(List aT)):dJ Tryz.prog 141 (k14 s_ f_ u0 u1 u2) [] (fun r=>(vB r)) (fun _=>[]) (fw s_ f_ u0 u1 u2):=
  dZ tT mX Tryz.func141 (
  .r<| .cl 2 (uY s_ f_ u0 u1 u2) fun r_=> .r<| .e (decide (0≤r_)))
theorem Bz (l:(List Link)) (u0:Int) (u1:Int) (u2:(List Source)) (u3:(List Link)) (u4:(List aT)):dJ Tryz.prog 94 [(sD (aR none 6 Link.cell l)),(sI u0),(sD (.fn 143 1 (k8 u1 u2 u3 u4)))] [] (fun r=>(vB r)) (fun _=>[]) (oP l u0 u1 u2 u3 u4):=
  dZ tT mX Tryz.func94 (
  .rg {fr:=[(0,1)],fz:=[1]} []<| .cg 7 [((decide ((l.length:Int)≤u0)),true)] (rH l u1 u2 u3 u4) fun r_=> .r<| .e (bif (decide ((l.length:Int)≤u0))then(!r_)else false))
section
variable (x:aT)
abbrev k15:List CV:=[(cI x.feeds.e0),(cI x.feeds.e1),(cI x.power),(cI x.paths)]
end
theorem Di (x:aT):dJ Tryz.prog 147 [(.agg (k15 x))] [] (fun r=>(vI r)) (fun _=>[]) (qy x):=
  dZ tT mX Tryz.func147 (
  .rg {fr:=[(0,1)],fz:=[1]} []<| .rg {} [.pf ⟨(0:Int)≤1∧(1:Int)<(2:Nat),(by decide)⟩]<| .it (.r<| .e 1)
  (.r<| .e 2))
section
variable (r_:Bool) (u0:Bool) (x:aT) (u1:Bool)
abbrev k17:=(bif (bif (bif r_ then u0 else false)then(!decide (x.feeds.e0=x.feeds.e1))else false)then u1 else false)
abbrev k16:=((k17 r_ u0 x u1),true)
end
theorem Cj (x:aT) (x1:Int) (u2:(List Source)) (u3:(List Link)) (u4:(List aT)):dJ Tryz.prog 146 [(.agg (k15 x)),(sD (k3 x1 u2 u3 u4))] [] (fun r=>(vB r)) (fun _=>[]) (oZ x x1 u2 u3 u4):=
  dZ tT mX Tryz.func146 (
  .rg {fr:=[(0,1)],fz:=[1]} []<| .rg {} [.pf ⟨(0:Int)≤0∧(0:Int)<(2:Nat),(by decide)⟩, .pf ⟨(0:Int)≤1∧(1:Int)<(2:Nat),(by decide)⟩]<| .cl 4 (aJ x.feeds.e0 0 (k4 x1)) fun r_=> .cg 10 [(r_,true)] (aJ x.feeds.e1 (-1) (k4 x1)) fun u0=> .cg 20 [((bif (bif r_ then u0 else false)then(!decide (x.feeds.e0=x.feeds.e1))else false),true)] (aJ x.power 1 100000) fun u1=> .cg 26 [(k16 r_ u0 x u1)] (Di x) fun u5=> .cg 27 [(k16 r_ u0 x u1)] (aJ x.paths 0 u5) fun u6=> .r<| .e (bif (k17 r_ u0 x u1)then u6 else false))
section
variable (x1:Int) (u0:(List Source)) (u1:(List Link)) (u2:(List aT))
abbrev k18:DV:=(Gy [(.fn 146 1 (k8 x1 u0 u1 u2))] 0)
end
theorem yG (x:aT) (x1:Int) (u0:(List Source)) (u1:(List Link)) (u2:(List aT)):dJ Tryz.prog 145 [(.agg (k15 x)),(sD (k18 x1 u0 u1 u2))] [] (fun r=>(vB r)) (fun _=>[]) (pq x x1 u0 u1 u2):=
  dZ tT mX Tryz.func145 (
  .rg {fr:=[(0,1)],fz:=[1]} []<| .cl 2 (Cj x x1 u0 u1 u2) fun r_=> .r<| .e (!r_))
section
variable (s_:(List aT)) (f_:Int) (u0:(List Source)) (u1:(List Link)) (u2:(List aT))
abbrev k19:List SV:=[(sD (aR none 4 aT.cell s_)),(sD (.fn 145 1 (yc [(k18 f_ u0 u1 u2)])))]
end
theorem vv (s_:(List aT)) (f_:Int) (u0:(List Source)) (u1:(List Link)) (u2:(List aT)):dJ Tryz.prog 174 (k19 s_ f_ u0 u1 u2) [] (fun r=>(vI r)) (fun _=>[]) (kV s_ f_ u0 u1 u2):=
  dZ tT mX Tryz.func174 (
  .r<| .r<| .lp (σ:=Int) (β:=Unit) (0) [] [] ⟨[0,1,7],[],fun t8=>[(8,(vI t8))],fun t8=>[]⟩ ⟨[],[],fun _=>[],fun _=>[]⟩
  (fun t8=> .r<| .it (.r<| .cl 5 (yG (⟨((at' s_ t8.toNat).feeds),(at' s_ t8.toNat).power,(at' s_ t8.toNat).paths⟩:aT) f_ u0 u1 u2) fun r_=> .a1 ((0:Int)≤t8∧t8<(s_.length:Int))<| .rg {} [0,1]<| .it (.r<| .e (.done (.ret t8)))
  (.r<| .e (.next (k10 t8))))
  (.e (.done (.brk ()))))
  (fun _=> .r<| .e (-1)))
theorem rV (s_:(List aT)) (f_:Int) (u0:(List Source)) (u1:(List Link)) (u2:(List aT)):dJ Tryz.prog 144 (k19 s_ f_ u0 u1 u2) [] (fun r=>(vB r)) (fun _=>[]) (fC s_ f_ u0 u1 u2):=
  dZ tT mX Tryz.func144 (
  .r<| .cl 2 (vv s_ f_ u0 u1 u2) fun r_=> .r<| .e (decide (0≤r_)))
theorem Cy (l:(List aT)) (u0:Int) (u1:Int) (u2:(List Source)) (u3:(List Link)) (u4:(List aT)):dJ Tryz.prog 96 [(sD (aR none 4 aT.cell l)),(sI u0),(sD (.fn 146 1 (k8 u1 u2 u3 u4)))] [] (fun r=>(vB r)) (fun _=>[]) (pG l u0 u1 u2 u3 u4):=
  dZ tT mX Tryz.func96 (
  .rg {fr:=[(0,1)],fz:=[1]} []<| .cg 7 [((decide ((l.length:Int)≤u0)),true)] (rV l u1 u2 u3 u4) fun r_=> .r<| .e (bif (decide ((l.length:Int)≤u0))then(!r_)else false))
theorem vR (p:ai):dJ Tryz.prog 46 (k0 p) [] (fun r=>(vI r)) (fun _=>[]) (nO p):=
  dZ tT mX Tryz.func46 (
  .rg {fr:=[(0,1)],fz:=[1]} []<| .cl 2 (aJ p.buses 1 24) fun r_=> .r<| .it (.r<| .e 10)
  (.cl 3 (Bu p) fun u0=> .cl 4 (DZ p.sources 8 u0.1 u0.2.1 u0.2.2.1 u0.2.2.2) fun u3=> .r<| .it (.r<| .e 11)
  (.cl 3 (DT p) fun u1=> .cl 4 (Bz p.links 40 u1.1 u1.2.1 u1.2.2.1 u1.2.2.2) fun u4=> .r<| .it (.r<| .e 12)
  (.cl 3 (DU p) fun u2=> .cl 4 (Cy p.racks 24 u2.1 u2.2.1 u2.2.2.1 u2.2.2.2) fun u5=> .r<| .it (.r<| .e 13)
  (.r<| .e 0)))))
section
variable (s_:State) (p:ai) (u0:Int)
abbrev k22:DV:=(aR none 1 af s_.badSource)
abbrev k21:List CV:=[(.d (aR none 1 af s_.closed)),(.d (aR none 1 af s_.locked)),(.d (aR none 1 af s_.badLink)),(.d (aR none 1 af s_.on_)),(.d (k22 s_)),(.d (aR none 1 af s_.earthed)),(.d (aR none 1 af s_.badBus))]
abbrev k20:List SV:=[(.agg (k1 p)),(.agg (k21 s_))]
abbrev k23:=(⟨s_.closed,(p.links.length:Int)⟩:bW)
abbrev k24:=(⟨s_.locked,(p.links.length:Int)⟩:bW)
abbrev k25:=(⟨s_.badLink,(p.links.length:Int)⟩:bW)
abbrev k26:=(⟨s_.on_,(p.sources.length:Int)⟩:bW)
abbrev k27:=(⟨s_.badSource,(p.sources.length:Int)⟩:bW)
abbrev k28:=(aj bW.cell [(k23 s_ p),(k24 s_ p),(k25 s_ p),(k26 s_ p),(k27 s_ p),(⟨s_.earthed,p.buses⟩:bW),(⟨s_.badBus,p.buses⟩:bW)])
abbrev Ym:=((0:Int)≤u0∧u0<(p.links.length:Int))
abbrev k30:=((gB [((decide (((at' p.links u0.toNat).kind)=1)),true)]=true→(0:Int)≤u0∧u0<(s_.closed.length:Int)))
abbrev k31:=((gB [((!(at' s_.closed u0.toNat)),false),((decide (((at' p.links u0.toNat).kind)=1)),true)]=true→(0:Int)≤u0∧u0<(s_.locked.length:Int)))
end
theorem dO (p:ai) (s_:State):dJ Tryz.prog 10 (k20 s_ p) [] (fun r=>(vI r)) (fun _=>[]) (dz p s_):=
  dZ tT mX Tryz.func10 (
  .rg {fr:=[(0,11),(1,12)]} []<| .cl 1 (vR p) fun r_=> .r<| .r<| .it (.r<| .e r_)
  (.r<| .rg {an:=[(30, .arr [(k23 s_ p),(k24 s_ p),(k25 s_ p),(k26 s_ p),(k27 s_ p),(⟨s_.earthed,p.buses⟩:bW),(⟨s_.badBus,p.buses⟩:bW)].length (k28 s_ p))],fr:=[(30,13)],fz:=[12]} [.pf ⟨[(k23 s_ p),(k24 s_ p),(k25 s_ p),(k26 s_ p),(k27 s_ p),(⟨s_.earthed,p.buses⟩:bW),(⟨s_.badBus,p.buses⟩:bW)].length=7,rfl⟩, .pf ⟨aB 7 2 (jm 2 [(aR none 1 af s_.closed),(.int .i64 (p.links.length:Int)),(aR none 1 af s_.locked),(.int .i64 (p.links.length:Int)),(aR none 1 af s_.badLink),(.int .i64 (p.links.length:Int)),(aR none 1 af s_.on_),(.int .i64 (p.sources.length:Int)),(k22 s_),(.int .i64 (p.sources.length:Int)),(aR none 1 af s_.earthed),(.int .i64 p.buses),(aR none 1 af s_.badBus),(.int .i64 p.buses)]) (k28 s_ p),(by intro i hi j hj;match i,j,hi,hj with|0,0,_,_=>rfl|0,1,_,_=>rfl|1,0,_,_=>rfl|1,1,_,_=>rfl|2,0,_,_=>rfl|2,1,_,_=>rfl|3,0,_,_=>rfl|3,1,_,_=>rfl|4,0,_,_=>rfl|4,1,_,_=>rfl|5,0,_,_=>rfl|5,1,_,_=>rfl|6,0,_,_=>rfl|6,1,_,_=>rfl)⟩]<| .lp (σ:=Int) (β:=Unit) (0) [] [] ⟨[2,3,53,54],[11,13],fun u1=>[(55,(vI u1))],fun u1=>[]⟩ ⟨[2,3],[11],fun _=>[],fun _=>[]⟩
  (fun u1=> .r<| .it (.a1 ((0:Int)≤u1∧u1<([(k23 s_ p),(k24 s_ p),(k25 s_ p),(k26 s_ p),(k27 s_ p),(⟨s_.earthed,p.buses⟩:bW),(⟨s_.badBus,p.buses⟩:bW)].length:Int))<| .rg {fr:=[(2,17)],fz:=[17]} [0, .t 0 u1 ([(k23 s_ p),(k24 s_ p),(k25 s_ p),(k26 s_ p),(k27 s_ p),(⟨s_.earthed,p.buses⟩:bW),(⟨s_.badBus,p.buses⟩:bW)].length)]<| .r<| .it (.r<| .e (.done (.ret 9)))
  (.r<| .e (.next (k10 u1))))
  (.e (.done (.brk ()))))
  (fun _=> .r<| .lp (σ:=Int) (β:=Unit) (0) [] [] ⟨[3,67,68],[],fun u0=>[(69,(vI u0))],fun u0=>[]⟩ ⟨[],[],fun _=>[],fun _=>[]⟩
  (fun u0=> .r<| .it (.a1 (Ym p u0)<| .rg {fr:=[(3,21)],fz:=[21]} []<| .a2 (k30 s_ p u0) (k31 s_ p u0)<| .rg {} [0,1]<| .it (.r<| .e (.done (.ret 9)))
  (.r<| .e (.next (k10 u0))))
  (.e (.done (.brk ()))))
  (fun _=> .r<| .e 0))))
theorem lU (i:Int) (x1:Int) (u1:(List Source)) (u0:(List Link)) (u2:(List aT)):dJ Tryz.prog 98 [(sI i),(sD (k3 x1 u1 u0 u2))] [] (fun r=>(vB r)) (fun _=>[]) (eD i x1 u1 u0 u2):=
  dZ tT mX Tryz.func98 (
  .r<| .a1 ((gB [((bif (decide (0≤i))then(decide (i<(u0.length:Int)))else false),true)]=true→(0:Int)≤i∧i<(u0.length:Int)))<| .r<| .e (bif (bif (decide (0≤i))then(decide (i<(u0.length:Int)))else false)then(!decide (((at' u0 i.toNat).kind)=1))else false))
section
variable (x2:Int) (u0:(List Source)) (u1:(List Link)) (u2:(List aT))
abbrev k32:DV:=(Gy [(.fn 98 1 (k8 x2 u0 u1 u2))] 0)
end
theorem ug (x:Transfer) (x1:Int) (u3:(List Source)) (u4:(List Link)) (u5:(List aT)) (x2:Int) (u0:(List Source)) (u1:(List Link)) (u2:(List aT)):dJ Tryz.prog 100 [(.agg [(cI x.watch),(cI x.open_),(cI x.close)]),(sD (k3 x1 u3 u4 u5)),(sD (k32 x2 u0 u1 u2))] [] (fun r=>(vB r)) (fun _=>[]) (fI x x1 u3 u4 u5 x2 u0 u1 u2):=
  dZ tT mX Tryz.func100 (
  .rg {fr:=[(0,1)],fz:=[1]} []<| .cg 14 [((bif (decide (x.watch<0))then true else(decide (x1≤x.watch))),false)] (lU x.close x2 u0 u1 u2) fun r_=> .cg 25 [((!decide (x.open_=(-1))),true),((bif (bif (decide (x.watch<0))then true else(decide (x1≤x.watch)))then true else(!r_)),false)] (lU x.open_ x2 u0 u1 u2) fun u6=> .r<| .e (bif (bif (bif (decide (x.watch<0))then true else(decide (x1≤x.watch)))then true else(!r_))then true else(bif (!decide (x.open_=(-1)))then(bif (!u6)then true else(decide (x.open_=x.close)))else false)))
section
variable (s_:(List Transfer)) (f_:Int) (u0:(List Source)) (u1:(List Link)) (u2:(List aT)) (u3:Int) (u4:(List Source)) (u5:(List Link)) (u6:(List aT)) (t8:Int)
abbrev JZ:DV:=(aR none 3 Transfer.cell s_)
abbrev k33:List SV:=[(sD (JZ s_)),(sD (.fn 100 2 (yc [(k3 f_ u0 u1 u2),(k32 u3 u4 u5 u6)])))]
abbrev k35:=((0:Int)≤t8∧t8<(s_.length:Int))
end
theorem vG (s_:(List Transfer)) (f_:Int) (u0:(List Source)) (u1:(List Link)) (u2:(List aT)) (u3:Int) (u4:(List Source)) (u5:(List Link)) (u6:(List aT)):dJ Tryz.prog 148 (k33 s_ f_ u0 u1 u2 u3 u4 u5 u6) [] (fun r=>(vI r)) (fun _=>[]) (kT s_ f_ u0 u1 u2 u3 u4 u5 u6):=
  dZ tT mX Tryz.func148 (
  .r<| .r<| .lp (σ:=Int) (β:=Unit) (0) [] [] ⟨[0,1,7],[],fun t8=>[(8,(vI t8))],fun t8=>[]⟩ ⟨[],[],fun _=>[],fun _=>[]⟩
  (fun t8=> .r<| .it (.r<| .cl 5 (ug (at' s_ t8.toNat) f_ u0 u1 u2 u3 u4 u5 u6) fun r_=> .a1 (k35 s_ t8)<| .rg {} [0,1]<| .it (.r<| .e (.done (.ret t8)))
  (.r<| .e (.next (k10 t8))))
  (.e (.done (.brk ()))))
  (fun _=> .r<| .e (-1)))
theorem tu (s_:(List Transfer)) (f_:Int) (u0:(List Source)) (u1:(List Link)) (u2:(List aT)) (u3:Int) (u4:(List Source)) (u5:(List Link)) (u6:(List aT)):dJ Tryz.prog 99 (k33 s_ f_ u0 u1 u2 u3 u4 u5 u6) [] (fun r=>(vB r)) (fun _=>[]) (fG s_ f_ u0 u1 u2 u3 u4 u5 u6):=
  dZ tT mX Tryz.func99 (
  .r<| .cl 2 (vG s_ f_ u0 u1 u2 u3 u4 u5 u6) fun r_=> .r<| .e (decide (0≤r_)))
section
variable (p:ai) (s_:State) (l:(List Transfer))
abbrev Yr:List SV:=[(.agg (k1 p)),(.agg (k21 s_)),(sD (JZ l))]
end
theorem fB (p:ai) (s_:State) (l:(List Transfer)):dJ Tryz.prog 48 (Yr p s_ l) [] (fun r=>(vI r)) (fun _=>[]) (cZ p s_ l):=
  dZ tT mX Tryz.func48 (
  .rg {fr:=[(0,3),(1,4)],fz:=[4]} []<| .cl 2 (dO p s_) fun r_=> .r<| .r<| .it (.r<| .e r_)
  (.rg {fr:=[(1,5)],fz:=[3]} []<| .fz [5]<| .cg 6 [((decide (16<(l.length:Int))),false)] (tu l p.buses p.sources p.links p.racks p.buses p.sources p.links p.racks) fun u0=> .r<| .it (.r<| .e 1)
  (.r<| .e 0)))
section
variable (s_:(List Bool))
abbrev Zn:=(aj af (([]:List Bool)++s_))
end
theorem qC (s_:(List Bool)) (u0:Bool):dJ Tryz.prog 101 [(sD (aR (some u0) 1 af s_))] [] (fun r=>(vO 0 false r.length)) (fun r=>[(0,some (aX 4 1 af r))]) (sW s_ u0):=
  dZ tT mX Tryz.func101 (
  .r<| .r<| .it (.r<| .im (.ad 2 2 4 1 (aj af ([]:List Bool)))<| .en ([]:List Bool) [] [(2,0)])
  (.a2 ((([]:List Bool).length+s_.length)*1≤140737488355328) (([]:List Bool).length+s_.length≤4611686018427387904)<| .rg {an:=[(0, .arr ([]:List Bool).length (aj af ([]:List Bool))),(2, .arr (([]:List Bool)++s_).length (Zn s_))],fr:=[(0,3),(2,4)]} [.pf ⟨([]:List Bool).length=0,rfl⟩, .pf ⟨aB 0 1 (jm 1 []) (aj af ([]:List Bool)),(fun i hi=>absurd hi (Nat.not_lt_zero i))⟩, .e (([]:List Bool).length),0,1, .pf ⟨(([]:List Bool)++s_).length=([]:List Bool).length+s_.length,List.length_append⟩, .pf ⟨aB (([]:List Bool).length+s_.length) 1 (ku (aj af ([]:List Bool)) ([]:List Bool).length (aj af s_)) (Zn s_),bD _ _ _ _⟩]<| .en (([]:List Bool)++s_) [] [(4,0)]))
theorem aM (s:(List Bool)) {r:(List Bool)} (h:bg s=some r):Fn Tryz.prog 101 [(sD (aR none 1 af s))] [] (vO 0 false r.length) [(0,some (aX 4 1 af r))]:=by
 refine Fn.nn (qC s true h) fun hl=> ?_
 have hs:s=[]:=List.eq_nil_of_length_eq_zero hl
 subst hs
 exact qC [] false (by rw [←h];kernel_rfl)
section
variable (s_:State) (r_:(List Bool)) (u0:(List Bool)) (u1:(List Bool)) (u2:(List Bool)) (u3:(List Bool)) (u4:(List Bool)) (u5:(List Bool))
abbrev k38:List SV:=[(.agg (k21 s_))]
abbrev KR:=(⟨r_,u0,u1,u2,u3,u4,u5⟩:State)
end
theorem yL (s_:State):dJ Tryz.prog 49 (k38 s_) [] (fun r=>(.v (.agg [(.own 0 false r.closed.length),(.own 1 false r.locked.length),(.own 2 false r.badLink.length),(.own 3 false r.on_.length),(.own 4 false r.badSource.length),(.own 5 false r.earthed.length),(.own 6 false r.badBus.length)]))) (fun r=>[(0,some (aX 4 1 af r.closed)),(1,some (aX 4 1 af r.locked)),(2,some (aX 4 1 af r.badLink)),(3,some (aX 4 1 af r.on_)),(4,some (aX 4 1 af r.badSource)),(5,some (aX 4 1 af r.earthed)),(6,some (aX 4 1 af r.badBus)),(7,none)]) (pM s_):=
  dZ tT mX Tryz.func49 (
  .rg {fr:=[(0,10),(1,11)]} []<| .rg {an:=[(7, .cells)],fr:=[(7,12)]} []<| .ul 11<| .r<| .t<| .a1 ((0:Int)≤0∧0<(7:Int))<| .r<| .cl 4 (jT [(0,13)] ⟨fun h=>aM s_.closed h⟩) fun r_=> .r<| .r<| .im (.dp [1,2,12,13,14])<| .r<| .t<| .a1 ((0:Int)≤1∧1<(7:Int))<| .r<| .cl 4 (jT [(0,14)] ⟨fun h=>aM s_.locked h⟩) fun u0=> .r<| .r<| .im (.dp [1,2,12,13,14])<| .r<| .t<| .a1 ((0:Int)≤2∧2<(7:Int))<| .r<| .cl 4 (jT [(0,15)] ⟨fun h=>aM s_.badLink h⟩) fun u1=> .r<| .r<| .im (.dp [1,2,12,13,14])<| .r<| .t<| .a1 ((0:Int)≤3∧3<(7:Int))<| .r<| .cl 4 (jT [(0,16)] ⟨fun h=>aM s_.on_ h⟩) fun u2=> .r<| .r<| .im (.dp [1,2,12,13,14])<| .r<| .t<| .a1 ((0:Int)≤4∧4<(7:Int))<| .r<| .cl 4 (jT [(0,17)] ⟨fun h=>aM s_.badSource h⟩) fun u3=> .r<| .r<| .im (.dp [1,2,12,13,14])<| .r<| .t<| .a1 ((0:Int)≤5∧5<(7:Int))<| .r<| .cl 4 (jT [(0,18)] ⟨fun h=>aM s_.earthed h⟩) fun u4=> .r<| .r<| .im (.dp [1,2,12,13,14])<| .r<| .t<| .a1 ((0:Int)≤6∧6<(7:Int))<| .r<| .cl 4 (jT [(0,19)] ⟨fun h=>aM s_.badBus h⟩) fun u5=> .r<| .r<| .im (.dp [1,2,12,13,14])<| .r<| .f<| .r<| .en (KR r_ u0 u1 u2 u3 u4 u5) [] [(13,0),(14,1),(15,2),(16,3),(17,4),(18,5),(19,6),(11,7)])
section
variable (s_:State)
abbrev k40:List CV:=[(.own 0 false s_.closed.length),(.own 1 false s_.locked.length),(.own 2 false s_.badLink.length),(.own 3 false s_.on_.length),(.own 4 false s_.badSource.length),(.own 5 false s_.earthed.length),(.own 6 false s_.badBus.length)]
abbrev Wu:Nat × Option Ob:=(0,some (aX 4 1 af s_.closed))
abbrev KV:Nat × Option Ob:=(1,some (aX 4 1 af s_.locked))
abbrev KI:Nat × Option Ob:=(2,some (aX 4 1 af s_.badLink))
abbrev KT:Nat × Option Ob:=(3,some (aX 4 1 af s_.on_))
abbrev KL:Nat × Option Ob:=(4,some (aX 4 1 af s_.badSource))
abbrev Lh:Nat × Option Ob:=(5,some (aX 4 1 af s_.earthed))
abbrev Mf:Nat × Option Ob:=(6,some (aX 4 1 af s_.badBus))
abbrev EL:List (Nat × Option Ob):=[(Wu s_),(KV s_),(KI s_),(KT s_),(KL s_),(Lh s_),(Mf s_)]
end
theorem yB (p:ai) (s_:State) (l:(List Transfer)):dJ Tryz.prog 50 [(.agg (k1 p)),(.agg (k40 s_)),(sD (JZ l))] (EL s_) (fun r=>(.v (.one (.fn 102 0 3 (RO [(.d (Gy [(aR none 3 Transfer.cell r.1)] 0)),(.d (Gy [(.int .i64 r.2.1),(aR none 5 Source.cell r.2.2.1),(aR none 6 Link.cell r.2.2.2.1),(aR none 4 aT.cell r.2.2.2.2.1)] 0)),(.ptr 7 0)]))))) (fun r=>[(Wu s_),(KV s_),(KI s_),(KT s_),(KL s_),(Lh s_),(Mf s_),(7,some (.cells 29 (k40 s_)))]) (pz p s_ l):=
  dZ tT mX Tryz.func50 (
  .rg {fr:=[(0,10),(1,11),(2,12)],fz:=[10,12]} []<| .r<| .en (l,p.buses,p.sources,p.links,p.racks,s_) [] [(11,7)])
noncomputable def iW:iP:=⟨[28,29],Qk ([1,1,1,1,0,1,0]++[0]) (wX Tryz.f13),Qk ([1,1,1,1,0,1,0]++[1]) (wX Tryz.f13),37,[]⟩
theorem yt (p:ai) (s_:State):dJ Tryz.prog 104 (k20 s_ p) [] (fun r=>(vD (.fn 152 2 (yc [(Gy [(.int .i64 r.1),(aR none 5 Source.cell r.2.1),(aR none 6 Link.cell r.2.2.1),(aR none 4 aT.cell r.2.2.2.1)] 0),(Gy [(aR none 1 af r.2.2.2.2.1),(aR none 1 af r.2.2.2.2.2.1),(aR none 1 af r.2.2.2.2.2.2.1),(aR none 1 af r.2.2.2.2.2.2.2.1),(aR none 1 af r.2.2.2.2.2.2.2.2.1),(aR none 1 af r.2.2.2.2.2.2.2.2.2.1),(aR none 1 af r.2.2.2.2.2.2.2.2.2.2)] 0)])))) (fun _=>[]) (j6 p s_):=
  dZ tT mX Tryz.func104 (
  .rg {fr:=[(0,2),(1,3)],fz:=[2,3]} []<| .r<| .e (p.buses,p.sources,p.links,p.racks,s_.closed,s_.locked,s_.badLink,s_.on_,s_.badSource,s_.earthed,s_.badBus))
noncomputable def sM:iP:=⟨[22],Qk ([1,1,0,1,0]++[0]) (wX Tryz.f51),Qk ([1,1,0,1,0]++[1]) (wX Tryz.f51),125,[]⟩
section
variable (g:bB)
abbrev k49:List (Nat × Option Ob):=[(0,some (JO 3 3 false false 1 1 (aG .i64) (aG .i64) g.head))]
end
theorem fK (g:bB) (x:Int):dJ Tryz.prog 106 [(.agg [(.mp 0)]),(sI x)] (k49 g) (fun r=>(vI r)) (fun r=>(k49 g)) (bX g x):=
  dZ tT mX Tryz.func106 (
  .rg {fr:=[(0,2)]} []<| .lp (σ:=Int) (β:=Unit) (x) [] [] ⟨[2],[0,2],fun x1=>[(1,(vI x1))],fun x1=>[]⟩ ⟨[],[],fun _=>[],fun _=>[]⟩
  (fun x1=> .rg {an:=[(3, .look (bn bV x1 g.head).isSome [(cI ((bn bV x1 g.head).getD 0))])]} [.pf ⟨jZ [some .i64] 1 1 g.head.length (xQ (aG .i64) g.head) (yw (aG .i64) g.head) [(.int .i64 x1)] [(.d (.int .i64 0))] (bn bV x1 g.head).isSome [(cI ((bn bV x1 g.head).getD 0))],kR (fun _=>rfl) (fun _ _=>rfl) g.head x1 0 rfl rfl rfl⟩]<| .r<| .it (.r<| .e (.done (.ret x1)))
  (.r<| .e (.next ((bn bV x1 g.head).getD 0))))
  (fun _=> .no))
theorem wW (g:bB) (a:Int) (b:Int):dJ Tryz.prog 105 [(.agg [(.mp 0)]),(sI a),(sI b)] (k49 g) (fun r=>(.dN [])) (fun r=>[(0,some (JO 3 3 false false 1 1 (aG .i64) (aG .i64) r))]) (jo g a b):=
  dZ tT mX Tryz.func105 (
  .rg {fr:=[(0,2)]} []<| .cr 2 (fK g a) fun r_=> .cr 5 (fK g b) fun u0=> .r<| .r<| .it (.rg {an:=[(4, .map (gu bV r_ u0 g.head).length (xQ (aG .i64) (gu bV r_ u0 g.head)) (yw (aG .i64) (gu bV r_ u0 g.head)) [])]} [.pf ⟨qG [some .i64] 1 1 g.head.length (xQ (aG .i64) g.head) (yw (aG .i64) g.head) [(.int .i64 r_)] [(cI u0)] [] (gu bV r_ u0 g.head).length (xQ (aG .i64) (gu bV r_ u0 g.head)) (yw (aG .i64) (gu bV r_ u0 g.head)),Fu (fun _=>rfl) (fun _ _=>rfl) g.head r_ u0 rfl rfl⟩]<| .e (gu bV r_ u0 g.head))
  (.e g.head))
section
variable (o_:bB)
abbrev k51:Nat × Option Ob:=(0,some (.loop sM 0 [(5,(vP 1 0))]))
abbrev k50:List (Nat × Option Ob):=[k51,(1,some (.cells 178 [(.mp 2)])),(2,some (JO 3 3 false false 1 1 (aG .i64) (aG .i64) o_.head))]
end
theorem vZ (u0:Int) (u1:Int) (u2:Int) (u3:Int) (u4:Int) (u5:(List vH)) (o_:bB):XJ Tryz.prog 0 [(.agg [(cI u0),(cI u1),(cI u2),(cI u3),(cI u4),(.d (aR none 2 vH.cell u5))])] (k50 o_) (fun _=>vB true) (fun r=>[k51,(1,some (.cells 178 [(.mp 2)])),(2,some (JO 3 3 false false 1 1 (aG .i64) (aG .i64) r.head))]) (lV u0 u1 u2 u3 u4 u5 o_):=
  scY tT mX sM ⟨[5],[0,1,2],fun _=>[(6,(vD (Gy [(.int .i64 u0),(.int .i64 u1),(.int .i64 u2),(.int .i64 u3),(.int .i64 u4),(aR none 2 vH.cell u5)] 0)))],fun _=>[]⟩ (.rg {fr:=[(0,4)],fz:=[4]} []<| .e ())
  (.cl 5 (jT [(0,2)] (wW o_ u0 u1)) fun r_=> .r<| .e (⟨r_⟩:bB))
section
variable (x2:(List Bool)) (u6:(List Bool)) (u2:(List Bool)) (u7:(List Bool)) (u8:(List Bool)) (u9:(List Bool)) (u1:(List Bool)) (t9:Int) (u0:(List Link))
abbrev Yb:DV:=(Gy [(aR none 1 af x2),(aR none 1 af u6),(aR none 1 af u2),(aR none 1 af u7),(aR none 1 af u8),(aR none 1 af u9),(aR none 1 af u1)] 0)
abbrev k53:=(bif (bif (at' x2 t9.toNat)then(!(at' u2 t9.toNat))else false)then(!(at' u1 (((at' u0 t9.toNat).a).toNat)))else false)
abbrev TY:=((0:Int)≤t9∧t9<(x2.length:Int))
abbrev k55:=((gB [((bif (at' x2 t9.toNat)then(!(at' u2 t9.toNat))else false),true)]=true→(0:Int)≤(at' u0 t9.toNat).a∧(at' u0 t9.toNat).a<(u1.length:Int)))
abbrev k56:=((gB [((k53 x2 u2 u1 t9 u0),true)]=true→(0:Int)≤(at' u0 t9.toNat).b∧(at' u0 t9.toNat).b<(u1.length:Int)))
end
theorem wo (x1:Int) (u4:(List Source)) (u0:(List Link)) (u5:(List aT)) (x2:(List Bool)) (u6:(List Bool)) (u2:(List Bool)) (u7:(List Bool)) (u8:(List Bool)) (u9:(List Bool)) (u1:(List Bool)) (o_:bB):dJ Tryz.prog 152 [(.one (.yl 0)),(sD (k3 x1 u4 u0 u5)),(sD (Yb x2 u6 u2 u7 u8 u9 u1))] (k50 o_) (fun r=>(.dN [])) (fun r=>[k51,(1,some (.cells 178 [(.mp 2)])),(2,some (JO 3 3 false false 1 1 (aG .i64) (aG .i64) r.head))]) (lN x1 u4 u0 u5 x2 u6 u2 u7 u8 u9 u1 o_):=
  dZ tT mX Tryz.func152 (
  .r<| .lp (σ:=((List (Int × Int)) × Int)) (β:=(List (Int × Int))) (o_.head,0) [] [] ⟨[0,2,7,8],[0,1],fun(u3,t9)=>[(9,(vI t9))],fun(u3,t9)=>[(2,some (JO 3 3 false false 1 1 (aG .i64) (aG .i64) u3))]⟩ ⟨[],[0,1],fun o501=>[],fun o501=>[(2,some (JO 3 3 false false 1 1 (aG .i64) (aG .i64) o501))]⟩
  (fun(u3,t9)=> .r<| .it (.a1 ((0:Int)≤t9∧t9<(u0.length:Int))<| .rg {fr:=[(3,10)],fz:=[10]} []<| .fk (bif (k53 x2 u2 u1 t9 u0)then(!(at' u1 (((at' u0 t9.toNat).b).toNat)))else false) (.cy 34 (vZ ((at' u0 t9.toNat).a) ((at' u0 t9.toNat).b) ((at' u0 t9.toNat).kind) ((at' u0 t9.toNat).most) ((at' u0 t9.toNat).ohm) ((at' u0 t9.toNat).trip) (⟨u3⟩:bB)) fun r_=> .a4 (TY x2 t9) ((gB [((at' x2 t9.toNat),true)]=true→(0:Int)≤t9∧t9<(u2.length:Int))) (k55 x2 u2 u1 t9 u0) (k56 x2 u2 u1 t9 u0)<| .rg {ov:=[(31,true,5)]} [0,1,2,3, .k 4]<| .f<| .r<| .e (.next (r_.head,(k10 t9))))
  (.a4 (TY x2 t9) ((gB [((at' x2 t9.toNat),true)]=true→(0:Int)≤t9∧t9<(u2.length:Int))) (k55 x2 u2 u1 t9 u0) (k56 x2 u2 u1 t9 u0)<| .rg {ov:=[(31,false,4)],sk:=[32,33,34,35]} [0,1,2,3]<| .f<| .r<| .e (.next (u3,(k10 t9)))))
  (.e (.done (.brk u3))))
  (fun o501=> .e (⟨o501⟩:bB)))
section
variable (u1:(List aH)) (u2:(List (Int × Int))) (u0:Int) (u3:Int) (u7:Int) (p:ai) (s_:State) (u5:(List aH)) (u6:Int) (u4:(List (Int × Int)))
abbrev k57:List (Nat × Option Ob):=[(60,some (.rows 122 2 u1.length (wV aH.ev u1) none)),(61,some (JO 3 3 false false 1 1 (aG .i64) (aG .i64) u2))]
abbrev GV:=((bn bV u0 u2).getD 0)
abbrev Yq:List CV:=[(cI (GV u2 u0))]
abbrev Oj:=(gu bV u0 (u1.length:Int) u2)
abbrev TU:=(u1++[(⟨([]:List Int),([]:List Int)⟩:aH)])
abbrev k62:=(wV aH.ev (TU u1))
abbrev Vp:=((bn bV u0 (Oj u1 u2 u0)).getD 0)
abbrev k67:=((Vp u1 u2 u0).toNat)
abbrev k66:=(at' (TU u1) (k67 u1 u2 u0))
abbrev Wn:=((k66 u1 u2 u0).buses)
abbrev k64:=((Wn u1 u2 u0).length+[u3].length)
abbrev Yu:=((Wn u1 u2 u0)++[u3])
abbrev k69:=(aj (aG .i64) (Yu u1 u2 u0 u3))
abbrev k71:=((TU u1).set (k67 u1 u2 u0) (⟨(Yu u1 u2 u0 u3),(k66 u1 u2 u0).sources⟩:aH))
abbrev k70:=(wV aH.ev (k71 u1 u2 u0 u3))
abbrev Vk:=((at' u1 ((GV u2 u0).toNat)).buses)
abbrev Yx:=((Vk u1 u2 u0)++[u3])
abbrev k74:=(aj (aG .i64) (Yx u1 u2 u0 u3))
abbrev k76:=(u1.set ((GV u2 u0).toNat) (⟨(Yx u1 u2 u0 u3),(at' u1 ((GV u2 u0).toNat)).sources⟩:aH))
abbrev k75:=(wV aH.ev (k76 u1 u2 u0 u3))
abbrev k77:=((0:Int)≤u7∧u7<(p.sources.length:Int))
abbrev k78:=((gB [((at' s_.on_ u7.toNat),true)]=true→(0:Int)≤u7∧u7<(s_.badSource.length:Int)))
abbrev k79:=((gB [((bif (at' s_.on_ u7.toNat)then(!(at' s_.badSource u7.toNat))else false),true)]=true→(0:Int)≤(at' p.sources u7.toNat).bus∧(at' p.sources u7.toNat).bus<(s_.badBus.length:Int)))
abbrev Wo:=((at' p.sources u7.toNat).bus)
abbrev Vv:=((at' u5 ((GV u4 u6).toNat)).sources)
abbrev Yh:=((Vv u5 u6 u4)++[u7])
abbrev k83:=(aj (aG .i64) (Yh u7 u5 u6 u4))
abbrev k85:=(u5.set ((GV u4 u6).toNat) (⟨(at' u5 ((GV u4 u6).toNat)).buses,(Yh u7 u5 u6 u4)⟩:aH))
abbrev k84:=(wV aH.ev (k85 u7 u5 u6 u4))
end
theorem nX (p:ai) (s_:State):dJ Tryz.prog 51 (k20 s_ p) [] (fun r=>(vD (aR none 2 aH.cell r))) (fun _=>[]) (fO p s_):=
  dZ tT mX Tryz.func51 (
  .rg {fr:=[(0,55),(1,56)],fz:=[56]} []<| .rg {an:=[(0, .map 0 (xQ (aG .i64) ([]:(List (Int × Int)))) (yw (aG .i64) ([]:(List (Int × Int)))) [])],fr:=[(0,57),(2,58)]} []<| .cl 2 (yt p s_) fun r_=> .r<| .cl 0 (jT [(0,59),(1,58),(2,57)] (wo r_.1 r_.2.1 r_.2.2.1 r_.2.2.2.1 r_.2.2.2.2.1 r_.2.2.2.2.2.1 r_.2.2.2.2.2.2.1 r_.2.2.2.2.2.2.2.1 r_.2.2.2.2.2.2.2.2.1 r_.2.2.2.2.2.2.2.2.2.1 r_.2.2.2.2.2.2.2.2.2.2 (⟨([]:(List (Int × Int)))⟩:bB))) fun v0=> .rf 59 [5] [] none 0 []<| .r<| .im (.adR 7 60 122 2 (wV aH.ev ([]:List aH)))<| .rg {an:=[(0, .map 0 (xQ (aG .i64) ([]:(List (Int × Int)))) (yw (aG .i64) ([]:(List (Int × Int)))) [])],fr:=[(0,61)]} []<| .r<| .lp (σ:=((List aH) × (List (Int × Int)) × Int)) (β:=((List aH) × (List (Int × Int)))) (([]:List aH),([]:(List (Int × Int))),0) [] [] ⟨[2,3,5,8,31],[55,57,58],fun(u1,u2,u3)=>[(7,(vO 60 false u1.length)),(32,(vI u3))],fun(u1,u2,u3)=>(k57 u1 u2)⟩ ⟨[2,3,5,8],[55,57,58],fun(u9,u4)=>[(7,(vO 60 false u9.length))],fun(u9,u4)=>(k57 u9 u4)⟩
  (fun(u1,u2,u3)=> .r<| .it (.r<| .a1 ((0:Int)≤u3∧u3<(s_.badBus.length:Int))<| .r<| .it (.r<| .e (.next (u1,u2,(k10 u3))))
  (.cr 2 (jT [(0,57)] (fK v0 u3)) fun u0=> .r<| .rg {an:=[(2, .look (bn bV u0 u2).isSome (Yq u2 u0))]} [.pf ⟨jZ [some .i64] 1 1 u2.length (xQ (aG .i64) u2) (yw (aG .i64) u2) [(.int .i64 u0)] [(.d (.int .i64 0))] (bn bV u0 u2).isSome (Yq u2 u0),kR (fun _=>rfl) (fun _ _=>rfl) u2 u0 0 rfl rfl rfl⟩]<| .r<| .it (.rg {an:=[(4, .map (Oj u1 u2 u0).length (xQ (aG .i64) (Oj u1 u2 u0)) (yw (aG .i64) (Oj u1 u2 u0)) [])]} [.pf ⟨qG [some .i64] 1 1 u2.length (xQ (aG .i64) u2) (yw (aG .i64) u2) [(.int .i64 u0)] [(cI (u1.length:Int))] [] (Oj u1 u2 u0).length (xQ (aG .i64) (Oj u1 u2 u0)) (yw (aG .i64) (Oj u1 u2 u0)),Fu (fun _=>rfl) (fun _ _=>rfl) u2 u0 (u1.length:Int) rfl rfl⟩]<| .a2 ((u1.length+[(⟨([]:List Int),([]:List Int)⟩:aH)].length)*48≤140737488355328) (u1.length+[(⟨([]:List Int),([]:List Int)⟩:aH)].length≤4611686018427387904)<| .rg {an:=[(2, .arr [(⟨([]:List Int),([]:List Int)⟩:aH)].length (jm 2 [nS,nS])),(3, .rows (TU u1).length (k62 u1))],fr:=[(2,86),(3,87)]} [.pf ⟨[(⟨([]:List Int),([]:List Int)⟩:aH)].length=1,rfl⟩, .pf ⟨aB 1 2 (jm 2 [nS,nS]) (jm 2 [nS,nS]),jh _ _ _⟩, .e (u1.length),0,1, .pf ⟨(TU u1).length=u1.length+[(⟨([]:List Int),([]:List Int)⟩:aH)].length,List.length_append⟩, .pf ⟨Eh u1.length [(⟨([]:List Int),([]:List Int)⟩:aH)].length 2 (wV aH.ev u1) (jm 2 [nS,nS]) (k62 u1),VI _ _ _ _ _ (by intro i hi j hj;match i,j,hi,hj with|0,0,_,_=>exact⟨rfl,_,_,_,rfl⟩|0,1,_,_=>exact⟨rfl,_,_,_,rfl⟩)⟩]<| .rg {an:=[(2, .look (bn bV u0 (Oj u1 u2 u0)).isSome [(cI (Vp u1 u2 u0))])]} [.pf ⟨jZ [some .i64] 1 1 (Oj u1 u2 u0).length (xQ (aG .i64) (Oj u1 u2 u0)) (yw (aG .i64) (Oj u1 u2 u0)) [(.int .i64 u0)] [(.d (.int .i64 0))] (bn bV u0 (Oj u1 u2 u0)).isSome [(cI (Vp u1 u2 u0))],kR (fun _=>rfl) (fun _ _=>rfl) (Oj u1 u2 u0) u0 0 rfl rfl rfl⟩]<| .a3 ((0:Int)≤(Vp u1 u2 u0)∧(Vp u1 u2 u0)<((TU u1).length:Int)) ((k64 u1 u2 u0 u3)*8≤140737488355328) ((Wn u1 u2 u0).length+[u3].length≤4611686018427387904)<| .rg {an:=[(6, .take 88),(8, .arr [u3].length (aj (aG .i64) [u3])),(9, .arr (Yu u1 u2 u0 u3).length (k69 u1 u2 u0 u3)),(12, .rows 0 (k70 u1 u2 u0 u3))],fr:=[(8,89),(9,90)]} [0, .t 0 (Vp u1 u2 u0) ((TU u1).length), .pf ⟨[u3].length=1,rfl⟩, .pf ⟨aB 1 1 (jm 1 [(.int .i64 u3)]) (aj (aG .i64) [u3]),(by intro i hi j hj;match i,j,hi,hj with|0,0,_,_=>rfl)⟩, .e ((Wn u1 u2 u0).length),1,2, .pf ⟨(Yu u1 u2 u0 u3).length=(Wn u1 u2 u0).length+[u3].length,List.length_append⟩, .pf ⟨aB (k64 u1 u2 u0 u3) 1 (ku (aj (aG .i64) (Wn u1 u2 u0)) (Wn u1 u2 u0).length (aj (aG .i64) [u3])) (k69 u1 u2 u0 u3),bD _ _ _ _⟩,0, .t 0 (Vp u1 u2 u0) ((TU u1).length), .e ((Yu u1 u2 u0 u3).length), .pf ⟨Sl (TU u1).length 2 (Ww (k62 u1) (k67 u1 u2 u0) 0 (.row 3 1 (Yu u1 u2 u0 u3).length (k69 u1 u2 u0 u3))) (k70 u1 u2 u0 u3),Gi _ _ _ _ _ _ _ _ rfl (fun j hj=>(match j,hj with|0,_=>rfl|1,_=>rfl))⟩, .pf ⟨∀i0 j0 c0,((some ((Vp u1 u2 u0).toNat,0,CV.own 88 false (Wn u1 u2 u0).length)):Option (Nat × Nat × CV))=some (i0,j0,c0)→i0=(Vp u1 u2 u0).toNat∧j0=0,(fun i0 j0 c0 e=>by cases e;exact⟨rfl,rfl⟩)⟩]<| .im (.ll 87 (TU u1) (k71 u1 u2 u0 u3))<| .r<| .en (.next ((k71 u1 u2 u0 u3),(Oj u1 u2 u0),(k10 u3))) [] [(87,60)])
  (.rg {an:=[(2, .look (bn bV u0 u2).isSome (Yq u2 u0))]} [.pf ⟨jZ [some .i64] 1 1 u2.length (xQ (aG .i64) u2) (yw (aG .i64) u2) [(.int .i64 u0)] [(.d (.int .i64 0))] (bn bV u0 u2).isSome (Yq u2 u0),kR (fun _=>rfl) (fun _ _=>rfl) u2 u0 0 rfl rfl rfl⟩]<| .a3 ((0:Int)≤(GV u2 u0)∧(GV u2 u0)<(u1.length:Int)) (((Vk u1 u2 u0).length+[u3].length)*8≤140737488355328) ((Vk u1 u2 u0).length+[u3].length≤4611686018427387904)<| .rg {an:=[(6, .take 91),(8, .arr [u3].length (aj (aG .i64) [u3])),(9, .arr (Yx u1 u2 u0 u3).length (k74 u1 u2 u0 u3)),(12, .rows 0 (k75 u1 u2 u0 u3))],fr:=[(8,92),(9,93)]} [0, .t 0 (GV u2 u0) u1.length, .pf ⟨[u3].length=1,rfl⟩, .pf ⟨aB 1 1 (jm 1 [(.int .i64 u3)]) (aj (aG .i64) [u3]),(by intro i hi j hj;match i,j,hi,hj with|0,0,_,_=>rfl)⟩, .e ((Vk u1 u2 u0).length),1,2, .pf ⟨(Yx u1 u2 u0 u3).length=(Vk u1 u2 u0).length+[u3].length,List.length_append⟩, .pf ⟨aB ((Vk u1 u2 u0).length+[u3].length) 1 (ku (aj (aG .i64) (Vk u1 u2 u0)) (Vk u1 u2 u0).length (aj (aG .i64) [u3])) (k74 u1 u2 u0 u3),bD _ _ _ _⟩,0, .t 0 (GV u2 u0) u1.length, .e ((Yx u1 u2 u0 u3).length), .pf ⟨Sl u1.length 2 (Ww (wV aH.ev u1) ((GV u2 u0).toNat) 0 (.row 3 1 (Yx u1 u2 u0 u3).length (k74 u1 u2 u0 u3))) (k75 u1 u2 u0 u3),Gi _ _ _ _ _ _ _ _ rfl (fun j hj=>(match j,hj with|0,_=>rfl|1,_=>rfl))⟩, .pf ⟨∀i0 j0 c0,((some ((GV u2 u0).toNat,0,CV.own 91 false (Vk u1 u2 u0).length)):Option (Nat × Nat × CV))=some (i0,j0,c0)→i0=(GV u2 u0).toNat∧j0=0,(fun i0 j0 c0 e=>by cases e;exact⟨rfl,rfl⟩)⟩]<| .im (.ll 60 u1 (k76 u1 u2 u0 u3))<| .r<| .e (.next ((k76 u1 u2 u0 u3),u2,(k10 u3))))))
  (.e (.done (.brk (u1,u2)))))
  (fun(u9,u4)=> .r<| .lp (σ:=((List aH) × Int)) (β:=(List aH)) (u9,0) [] [] ⟨[3,5,8,76,77],[57,58,61],fun(u5,u7)=>[(7,(vO 60 false u5.length)),(78,(vI u7))],fun(u5,u7)=>[(60,some (.rows 122 2 u5.length (wV aH.ev u5) none))]⟩ ⟨[],[],fun u8=>[(7,(vO 60 false u8.length))],fun u8=>[(60,some (.rows 122 2 u8.length (wV aH.ev u8) none))]⟩
  (fun(u5,u7)=> .r<| .it (.a1 (k77 u7 p)<| .rg {fr:=[(3,106)],fz:=[106]} []<| .a3 ((0:Int)≤u7∧u7<(s_.on_.length:Int)) (k78 u7 s_) (k79 u7 p s_)<| .rg {} [0,1,2]<| .it (.cr 4 (jT [(0,57)] (fK v0 (Wo u7 p))) fun u6=> .rg {an:=[(5, .look (bn bV u6 u4).isSome (Yq u4 u6))]} [0, .pf ⟨jZ [some .i64] 1 1 u4.length (xQ (aG .i64) u4) (yw (aG .i64) u4) [(.int .i64 u6)] [(.d (.int .i64 0))] (bn bV u6 u4).isSome (Yq u4 u6),kR (fun _=>rfl) (fun _ _=>rfl) u4 u6 0 rfl rfl rfl⟩]<| .a3 ((0:Int)≤(GV u4 u6)∧(GV u4 u6)<(u5.length:Int)) (((Vv u5 u6 u4).length+[u7].length)*8≤140737488355328) ((Vv u5 u6 u4).length+[u7].length≤4611686018427387904)<| .rg {an:=[(6, .take 107),(8, .arr [u7].length (aj (aG .i64) [u7])),(9, .arr (Yh u7 u5 u6 u4).length (k83 u7 u5 u6 u4)),(12, .rows 0 (k84 u7 u5 u6 u4))],fr:=[(8,108),(9,109)]} [0, .t 0 (GV u4 u6) u5.length, .pf ⟨[u7].length=1,rfl⟩, .pf ⟨aB 1 1 (jm 1 [(.int .i64 u7)]) (aj (aG .i64) [u7]),(by intro i hi j hj;match i,j,hi,hj with|0,0,_,_=>rfl)⟩, .e ((Vv u5 u6 u4).length),1,2, .pf ⟨(Yh u7 u5 u6 u4).length=(Vv u5 u6 u4).length+[u7].length,List.length_append⟩, .pf ⟨aB ((Vv u5 u6 u4).length+[u7].length) 1 (ku (aj (aG .i64) (Vv u5 u6 u4)) (Vv u5 u6 u4).length (aj (aG .i64) [u7])) (k83 u7 u5 u6 u4),bD _ _ _ _⟩,0, .t 0 (GV u4 u6) u5.length, .e ((Yh u7 u5 u6 u4).length), .pf ⟨Sl u5.length 2 (Ww (wV aH.ev u5) ((GV u4 u6).toNat) 1 (.row 3 1 (Yh u7 u5 u6 u4).length (k83 u7 u5 u6 u4))) (k84 u7 u5 u6 u4),Gi _ _ _ _ _ _ _ _ rfl (fun j hj=>(match j,hj with|0,_=>rfl|1,_=>rfl))⟩, .pf ⟨∀i0 j0 c0,((some ((GV u4 u6).toNat,1,CV.own 107 false (Vv u5 u6 u4).length)):Option (Nat × Nat × CV))=some (i0,j0,c0)→i0=(GV u4 u6).toNat∧j0=1,(fun i0 j0 c0 e=>by cases e;exact⟨rfl,rfl⟩)⟩]<| .im (.ll 60 u5 (k85 u7 u5 u6 u4))<| .r<| .e (.next ((k85 u7 u5 u6 u4),(k10 u7))))
  (.r<| .e (.next (u5,(k10 u7)))))
  (.e (.done (.brk u5))))
  (fun u8=> .r<| .fz [60]<| .im (.us 4 (vD (.sl none 2 u8.length (fun i j=>evD (wV aH.ev u8 i j)))) (vD (aR none 2 aH.cell u8)) (Dw.v (nA.one (dY.d (dw.sl (.inr rfl) (fun i _ j hj=>match j,hj with|0,_=> .refl _|1,_=> .refl _))))))<| .e u8)))
section
variable (p:ai) (u1:(List aH)) (u0:Int) (u3:Int) (u2:(List Bool)) (u6:(List Bool))
abbrev Yt:=((1:Int)*p.buses≤281474976710656)
abbrev Yn:=((p.buses:Int)≤9223372036854775807)
abbrev Dq:=(List.replicate p.buses.toNat (false:Bool))
abbrev N8:=(aj af (Dq p))
abbrev Yj:=(at' ((at' u1 u0.toNat).buses) u3.toNat)
abbrev k90:=((0:Int)≤(Yj u1 u0 u3)∧(Yj u1 u0 u3)<(u2.length:Int))
abbrev k93:=(u2.set ((Yj u1 u0 u3).toNat) (decide (0<(((at' u1 u0.toNat).sources).length:Int))))
abbrev k92:=(aj af (k93 u1 u0 u3 u2))
abbrev k94:=(jk (aj af u2) ((Yj u1 u0 u3).toNat) 0 [(.bool (decide (0<(((at' u1 u0.toNat).sources).length:Int))))])
abbrev k95:=((k93 u1 u0 u3 u2),(k10 u3))
abbrev TW:=(u6,(k10 u0))
end
theorem qU (p:ai) (s_:State):dJ Tryz.prog 14 (k20 s_ p) [] (fun r=>(.dN [(.one (.own 0 false r.1.length)),(sI r.2)])) (fun r=>[(0,some (aX 4 1 af r.1))]) (dI p s_):=
  dZ tT mX Tryz.func14 (
  .rg {fr:=[(0,7),(1,8)],fz:=[7,8]} []<| .cl 2 (dO p s_) fun r_=> .r<| .r<| .it (.r<| .im (.ad 4 9 4 1 (aj af ([]:List Bool)))<| .en (([]:List Bool),r_) [] [(9,0)])
  (.a3 ((0:Int)≤p.buses) (Yt p) (Yn p)<| .rg {an:=[(2, .arr (Dq p).length (N8 p))],fr:=[(2,10)]} [0, .e ((p.buses:Int)),1,2, .pf ⟨(Dq p).length=p.buses.toNat,List.length_replicate⟩, .pf ⟨aB p.buses.toNat 1 (fun _ j=>[(.bool false)].getD j .nilp) (N8 p),gL _ _ _ _ _ (fun j hj=>(match j,hj with|0,_=>rfl))⟩]<| .cl 2 (nX p s_) fun u1=> .r<| .lp (σ:=((List Bool) × Int)) (β:=(List Bool)) ((Dq p),0) [] [] ⟨[23,24],[],fun(u4,u0)=>[(7,(vO 10 true u4.length)),(25,(vI u0))],fun(u4,u0)=>[(10,some (aX 4 1 af u4))]⟩ ⟨[],[],fun u5=>[(7,(vO 10 true u5.length))],fun u5=>[(10,some (aX 4 1 af u5))]⟩
  (fun(u4,u0)=> .r<| .it (.a1 ((0:Int)≤u0∧u0<(u1.length:Int))<| .rg {fr:=[(2,14)]} []<| .rg {fz:=[14]} []<| .lp (σ:=((List Bool) × Int)) (β:=(List Bool)) (u4,0) [] [] ⟨[9,23,24,25,30,31],[],fun(u2,u3)=>[(7,(vO 10 true u2.length)),(32,(vI u3))],fun(u2,u3)=>[(10,some (aX 4 1 af u2))]⟩ ⟨[23,24,25],[],fun u6=>[(7,(vO 10 true u6.length))],fun u6=>[(10,some (aX 4 1 af u6))]⟩
  (fun(u2,u3)=> .r<| .it (.a1 ((0:Int)≤u3∧u3<(((at' u1 u0.toNat).buses).length:Int))<| .r<| .a1 (k90 u1 u0 u3 u2)<| .rg {an:=[(7, .arr 0 (k92 u1 u0 u3 u2))]} [0, .t 0 (Yj u1 u0 u3) u2.length, .pf ⟨aB u2.length 1 (k94 u1 u0 u3 u2) (k92 u1 u0 u3 u2),bG _ _ _ _ _ _ _ _ rfl (fun j hj=>(match j,hj with|0,_=>rfl))⟩]<| .im (.ll 10 u2 (k93 u1 u0 u3 u2))<| .r<| .e (.next (k95 u1 u0 u3 u2)))
  (.e (.done (.brk u2))))
  (fun u6=> .r<| .e (.next (TW u0 u6))))
  (.e (.done (.brk u4))))
  (fun u5=> .r<| .en (u5,0) [] [(10,0)])))
theorem iN (x y:ah):Go.Proofs.ltOf aY x y=true↔x.e0<y.e0∨ ¬ y.e0<x.e0∧x.e1<y.e1:=by
 unfold Go.Proofs.ltOf aY;rw [decide_eq_true_iff]
 by_cases h0:x.e0<y.e0<;>by_cases g0:y.e0<x.e0<;>by_cases h1:x.e1<y.e1<;>by_cases g1:y.e1<x.e1<;>simp [h0,g0,h1,g1]
theorem xU:Go.Sort.SWO (Go.Proofs.ltOf aY) where
 irrefl x:=by rw [←Bool.not_eq_true,iN];omega
 trans x y z h1 h2:=by rw [iN]at*;omega
 ntrans x y z h1 h2:=by rw [←Bool.not_eq_true,iN]at*;omega
theorem yj (x y:ah) (h1:(Go.Proofs.ltOf aY) x y=false) (h2:(Go.Proofs.ltOf aY) y x=false):x=y:=by
 rw [←Bool.not_eq_true,iN]at h1 h2
 obtain⟨a,b⟩:=x
 obtain⟨c,d⟩:=y
 have e1:a=c:=by simp only at h1 h2;omega
 have e2:b=d:=by simp only at h1 h2;omega
 rw [e1,e2]
theorem zn (s:(List ah)) {r:(List ah)} (h:iX s=some r):Fn Tryz.prog 52 [(.one (.own 0 false s.length)),(sD (.fn 53 0 (yc [])))] [(0,some (.arr 44 2 s.length (aj ah.cell s)))] (.dN []) [(0,some (.arr 44 2 r.length (aj ah.cell r)))]:=
 X7 TB 2 UJ RU (fun x:ah=>[.int .i64 x.e0, .int .i64 x.e1]) (fun _=>rfl) (fun x v hv=>by simp at hv;rcases hv with rfl|rfl<;>rfl) aY xU yj
  (Na (fun x:ah=>[.int .i64 x.e0, .int .i64 x.e1]) (fun x=>x.e0) (fun x=>x.e1) (fun _=>rfl)) (enters_of Tryz.func53 (by kernel_rfl) rfl)
  (fun F w x j hj v=>match j,hj with|0,_=>Iff.rfl|1,_=>Iff.rfl) 52 rfl ⟨_,Tryz.func52,rfl,rfl⟩ s (by cases s with|nil=>(cases h;simp)|cons x xs=>exact h)
section
variable (u6:(List ah)) (u1:Int) (u2:(List aH)) (u0:Int) (u3:Int) (p:ai) (u4:(List ah))
abbrev Yv:List (Nat × Option Ob):=[(139,some (aX 44 2 ah.cell u6))]
abbrev k98:=((0:Int)≤(k10 u1)∧(k10 u1)≤(((at' u2 u0.toNat).sources).length:Int))
abbrev VQ:=((k10 u1).toNat)
abbrev XQ:=(((at' u2 u0.toNat).sources).drop (VQ u1))
abbrev aaZ:=((0:Int)≤u3∧u3<((XQ u1 u2 u0).length:Int))
abbrev Kv:=(at' ((at' u2 u0.toNat).sources) u1.toNat)
abbrev abu:=((0:Int)≤(Kv u1 u2 u0)∧(Kv u1 u2 u0)<(p.sources.length:Int))
abbrev aa2:=((gB [((decide (((at' p.sources ((Kv u1 u2 u0).toNat)).sync)=0)),false)]=true→(0:Int)≤(Kv u1 u2 u0)∧(Kv u1 u2 u0)<(p.sources.length:Int)))
abbrev UQ:=(at' (XQ u1 u2 u0) u3.toNat)
abbrev aa4:=((gB [((decide (((at' p.sources ((Kv u1 u2 u0).toNat)).sync)=0)),false)]=true→(0:Int)≤(UQ u1 u2 u0 u3)∧(UQ u1 u2 u0 u3)<(p.sources.length:Int)))
abbrev Nn:=(⟨(Kv u1 u2 u0),(UQ u1 u2 u0 u3)⟩:ah)
abbrev aad:=(u4.length+[(Nn u1 u2 u0 u3)].length)
abbrev aa7:=((aad u1 u2 u0 u3 u4)*16≤140737488355328)
abbrev aby:=(u4.length+[(Nn u1 u2 u0 u3)].length≤4611686018427387904)
abbrev Xx:=(aj ah.cell [(Nn u1 u2 u0 u3)])
abbrev UH:=(u4++[(Nn u1 u2 u0 u3)])
abbrev aas:=(aj ah.cell (UH u1 u2 u0 u3 u4))
abbrev aa6:=(jm 2 [(.int .i64 (Kv u1 u2 u0)),(.int .i64 (UQ u1 u2 u0 u3))])
abbrev abp:=(ku (aj ah.cell u4) u4.length (Xx u1 u2 u0 u3))
abbrev aa1:=((UH u1 u2 u0 u3 u4),(k10 u3))
abbrev JI:=(u4,(k10 u3))
end
theorem ko (p:ai) (s_:State):dJ Tryz.prog 15 (k20 s_ p) [] (fun r=>(.dN [(.one (.own 0 false r.1.length)),(sI r.2)])) (fun r=>[(0,some (aX 44 2 ah.cell r.1))]) (dD p s_):=
  dZ tT mX Tryz.func15 (
  .rg {fr:=[(0,134),(1,135)],fz:=[134,135]} []<| .cl 2 (dO p s_) fun r_=> .r<| .r<| .it (.r<| .im (.ad 4 136 44 2 (aj ah.cell ([]:List ah)))<| .en (([]:List ah),r_) [] [(136,0)])
  (.r<| .cl 2 (nX p s_) fun u2=> .r<| .im (.ad 7 269 44 2 (aj ah.cell ([]:List ah)))<| .lp (σ:=((List ah) × Int)) (β:=(List ah)) (([]:List ah),0) [] [(269,139)] ⟨[2,22,23],[],fun(u6,u0)=>[(7,(vO 139 false u6.length)),(24,(vI u0))],fun(u6,u0)=>(Yv u6)⟩ ⟨[],[],fun u5=>[(7,(vO 139 false u5.length))],fun u5=>(Yv u5)⟩
  (fun(u6,u0)=> .r<| .it (.a1 ((0:Int)≤u0∧u0<(u2.length:Int))<| .rg {fr:=[(2,236)],fz:=[236]} []<| .r<| .lp (σ:=((List ah) × Int)) (β:=(List ah)) (u6,0) [] [] ⟨[2,9,22,23,24,29,30],[],fun(u7,u1)=>[(7,(vO 139 false u7.length)),(31,(vI u1))],fun(u7,u1)=>(Yv u7)⟩ ⟨[2,22,23,24],[],fun u8=>[(7,(vO 139 false u8.length))],fun u8=>(Yv u8)⟩
  (fun(u7,u1)=> .r<| .it (.a1 ((0:Int)≤u1∧u1<(((at' u2 u0.toNat).sources).length:Int))<| .r<| .a1 (k98 u1 u2 u0)<| .r<| .im (.us 40 (vD (.sl none 1 (((at' u2 u0.toNat).sources).length - (VQ u1)) (fun iq jq=>aj (aG .i64) ((at' u2 u0.toNat).sources) (iq+(VQ u1)) jq))) (vD (aR none 1 (aG .i64) (XQ u1 u2 u0))) (Dw.v (nA.one (dY.d (dw.slN (by first|rw [List.length_append,List.length_drop]|simp only [List.length_set,List.length_drop,Br]) (.inr rfl) (QT _ _ _ _))))))<| .lp (σ:=((List ah) × Int)) (β:=(List ah)) (u7,0) [] [] ⟨[2,9,11,22,23,24,29,30,31,40,41],[],fun(u4,u3)=>[(7,(vO 139 false u4.length)),(42,(vI u3))],fun(u4,u3)=>(Yv u4)⟩ ⟨[2,9,22,23,24,29,30,31],[],fun u9=>[(7,(vO 139 false u9.length))],fun u9=>(Yv u9)⟩
  (fun(u4,u3)=> .r<| .it (.a1 (aaZ u1 u2 u0 u3)<| .r<| .a3 (abu u1 u2 u0 p) (aa2 u1 u2 u0 p) (aa4 u1 u2 u0 u3 p)<| .rg {} [0,1,2]<| .it (.a2 (aa7 u1 u2 u0 u3 u4) (aby u1 u2 u0 u3 u4)<| .rg {an:=[(4, .arr [(Nn u1 u2 u0 u3)].length (Xx u1 u2 u0 u3)),(5, .arr (UH u1 u2 u0 u3 u4).length (aas u1 u2 u0 u3 u4))],fr:=[(4,267),(5,268)]} [.pf ⟨[(Nn u1 u2 u0 u3)].length=1,rfl⟩, .pf ⟨aB 1 2 (aa6 u1 u2 u0 u3) (Xx u1 u2 u0 u3),(by intro i hi j hj;match i,j,hi,hj with|0,0,_,_=>rfl|0,1,_,_=>rfl)⟩, .e (u4.length),0,1, .pf ⟨(UH u1 u2 u0 u3 u4).length=u4.length+[(Nn u1 u2 u0 u3)].length,List.length_append⟩, .pf ⟨aB (aad u1 u2 u0 u3 u4) 2 (abp u1 u2 u0 u3 u4) (aas u1 u2 u0 u3 u4),bD _ _ _ _⟩]<| .r<| .en (.next (aa1 u1 u2 u0 u3 u4)) [] [(268,139)])
  (.r<| .e (.next (JI u3 u4))))
  (.e (.done (.brk u4))))
  (fun u9=> .r<| .e (.next (JI u1 u9))))
  (.e (.done (.brk u7))))
  (fun u8=> .r<| .e (.next (JI u0 u8))))
  (.e (.done (.brk u6))))
  (fun u5=> .cl 1 (jT [(0,139)] ⟨fun h=>zn u5 h⟩) fun v0=> .r<| .a1 (u5.length=v0.length)<| .so 7 139 false u5.length v0.length 0<| .so 77 139 false u5.length v0.length 0<| .r<| .en (v0,0) [] [(139,0)])))
theorem BN (s_:(List ah)) (v_:ah):dJ Tryz.prog 176 [(sD (aR none 2 ah.cell s_)),(.agg [(cI v_.e0),(cI v_.e1)])] [] (fun r=>(vI r)) (fun _=>[]) (tL s_ v_):=
  dZ tT mX Tryz.func176 (
  .rg {fr:=[(0,1)],fz:=[1]} []<| .r<| .lp (σ:=Int) (β:=Unit) (0) [] [] ⟨[0,3,7],[],fun t8=>[(8,(vI t8))],fun t8=>[]⟩ ⟨[],[],fun _=>[],fun _=>[]⟩
  (fun t8=> .r<| .it (.r<| .a1 ((0:Int)≤t8∧t8<(s_.length:Int))<| .r<| .it (.r<| .e (.done (.ret t8)))
  (.r<| .e (.next (k10 t8))))
  (.e (.done (.brk ()))))
  (fun _=> .r<| .e (-1)))
theorem zo (s_:(List ah)) (v_:ah):dJ Tryz.prog 151 [(sD (aR none 2 ah.cell s_)),(.agg [(cI v_.e0),(cI v_.e1)])] [] (fun r=>(vB r)) (fun _=>[]) (lC s_ v_):=
  dZ tT mX Tryz.func151 (
  .rg {fr:=[(0,1)],fz:=[1]} []<| .cl 2 (BN s_ v_) fun r_=> .r<| .e (decide (0≤r_)))
theorem AB (c:ah) (x1:(List ah)):dJ Tryz.prog 150 [(.agg [(cI c.e0),(cI c.e1)]),(sD (Gy [(aR none 2 ah.cell x1)] 0))] [] (fun r=>(vB r)) (fun _=>[]) (qW c x1):=
  dZ tT mX Tryz.func150 (
  .rg {fr:=[(0,1)],fz:=[1]} []<| .cl 2 (zo x1 c) fun r_=> .r<| .e (!r_))
section
variable (s_:(List ah)) (f_:(List ah))
abbrev Y1:List SV:=[(sD (aR none 2 ah.cell s_)),(sD (.fn 150 1 (yc [(Gy [(aR none 2 ah.cell f_)] 0)])))]
end
theorem vN (s_:(List ah)) (f_:(List ah)):dJ Tryz.prog 175 (Y1 s_ f_) [] (fun r=>(vI r)) (fun _=>[]) (kU s_ f_):=
  dZ tT mX Tryz.func175 (
  .r<| .r<| .lp (σ:=Int) (β:=Unit) (0) [] [] ⟨[0,1,7],[],fun t8=>[(8,(vI t8))],fun t8=>[]⟩ ⟨[],[],fun _=>[],fun _=>[]⟩
  (fun t8=> .r<| .it (.r<| .cl 5 (AB (at' s_ t8.toNat) f_) fun r_=> .a1 ((0:Int)≤t8∧t8<(s_.length:Int))<| .rg {} [0,1]<| .it (.r<| .e (.done (.ret t8)))
  (.r<| .e (.next (k10 t8))))
  (.e (.done (.brk ()))))
  (fun _=> .r<| .e (-1)))
theorem lF (s_:(List ah)) (f_:(List ah)):dJ Tryz.prog 149 (Y1 s_ f_) [] (fun r=>(vB r)) (fun _=>[]) (cK s_ f_):=
  dZ tT mX Tryz.func149 (
  .r<| .cl 2 (vN s_ f_) fun r_=> .r<| .e (decide (0≤r_)))
section
variable (p:ai) (s_:State) (x:Transfer) (r_:((List Bool) × Int)) (u0:(List Bool)) (u1:Int) (u3:((List Bool) × Int))
abbrev MX:List SV:=[(.agg (k1 p)),(.agg (k40 s_))]
abbrev Zg:=(bif (bif (at' s_.badBus x.watch.toNat)then true else(at' r_.1 x.watch.toNat))then true else(at' s_.closed x.close.toNat))
abbrev Y8:=((Zg s_ x r_),false)
abbrev Yy:=((bif (Zg s_ x r_)then true else(at' s_.badLink x.close.toNat)),false)
abbrev yN:=(u0.set x.close.toNat true)
abbrev E8:=((yN x u0).set x.open_.toNat false)
abbrev ZV:List SV:=[(.agg (k1 p)),(.agg [(.d (aR none 1 af (E8 x u0))),(.d (aR none 1 af s_.locked)),(.d (aR none 1 af s_.badLink)),(.d (aR none 1 af s_.on_)),(.d (k22 s_)),(.d (aR none 1 af s_.earthed)),(.d (aR none 1 af s_.badBus))])]
abbrev Xf:=(⟨(E8 x u0),s_.locked,s_.badLink,s_.on_,s_.badSource,s_.earthed,s_.badBus⟩:State)
abbrev aag:List SV:=[(.agg (k1 p)),(.agg [(.own 29 false ((E8 x u0).length)),(.own 1 false s_.locked.length),(.own 2 false s_.badLink.length),(.own 3 false s_.on_.length),(.own 4 false s_.badSource.length),(.own 5 false s_.earthed.length),(.own 6 false s_.badBus.length)])]
abbrev XU:Nat × Option Ob:=(29,some (aX 4 1 af (E8 x u0)))
abbrev Zm:List (Nat × Option Ob):=[(XU x u0),(KV s_),(KI s_),(KT s_),(KL s_),(Lh s_),(Mf s_)]
abbrev Vf:=((0:Int)≤u1∧u1<(r_.1.length:Int))
abbrev abB:=(gB [((at' r_.1 u1.toNat),true)]=true→(0:Int)≤u1∧u1<(u3.1.length:Int))
abbrev Ux:=((abB r_ u1 u3))
abbrev QW:=((bif (at' r_.1 u1.toNat)then(!(at' u3.1 u1.toNat))else false),false)
abbrev V4:=((gB [(QW r_ u1 u3)]=true→(0:Int)≤u1∧u1<(u3.1.length:Int)))
abbrev Ua:=((gB [((at' u3.1 u1.toNat),true),(QW r_ u1 u3)]=true→(0:Int)≤u1∧u1<(s_.earthed.length:Int)))
abbrev UI:=((gB [((bif (at' u3.1 u1.toNat)then(at' s_.earthed u1.toNat)else false),true),(QW r_ u1 u3)]=true→(0:Int)≤u1∧u1<(r_.1.length:Int)))
abbrev YG:List SV:=[(.agg (k1 p)),(.agg [(.d (aR none 1 af (yN x u0))),(.d (aR none 1 af s_.locked)),(.d (aR none 1 af s_.badLink)),(.d (aR none 1 af s_.on_)),(.d (k22 s_)),(.d (aR none 1 af s_.earthed)),(.d (aR none 1 af s_.badBus))])]
abbrev Xw:=(⟨(yN x u0),s_.locked,s_.badLink,s_.on_,s_.badSource,s_.earthed,s_.badBus⟩:State)
abbrev aac:List SV:=[(.agg (k1 p)),(.agg [(.own 29 false ((yN x u0).length)),(.own 1 false s_.locked.length),(.own 2 false s_.badLink.length),(.own 3 false s_.on_.length),(.own 4 false s_.badSource.length),(.own 5 false s_.earthed.length),(.own 6 false s_.badBus.length)])]
abbrev XW:Nat × Option Ob:=(29,some (aX 4 1 af (yN x u0)))
abbrev Zu:List (Nat × Option Ob):=[(XW x u0),(KV s_),(KI s_),(KT s_),(KL s_),(Lh s_),(Mf s_)]
end
theorem CR (p:ai) (s_:State) (x:Transfer):dJ Tryz.prog 103 [(.agg (k1 p)),(.agg (k40 s_)),(.agg [(cI x.watch),(cI x.open_),(cI x.close)])] (EL s_) (fun r=>(.dN [(.agg [(.own 7 false r.1.closed.length),(.own 1 false s_.locked.length),(.own 2 false s_.badLink.length),(.own 3 false s_.on_.length),(.own 4 false s_.badSource.length),(.own 5 false s_.earthed.length),(.own 6 false s_.badBus.length)]),(sB r.2)])) (fun r=>[(Wu s_),(KV s_),(KI s_),(KT s_),(KL s_),(Lh s_),(Mf s_),(7,bif r.2 then some (aX 4 1 af r.1.closed)else none),(8,none)]) (nH p s_ x):=
  dZ tT mX Tryz.func103 (
  .rg {fr:=[(0,22),(1,23),(2,24),(3,25)],fz:=[22]} []<| .cl 2 ⟨fun{r_} hr_=>((Fn.qQ (args:=(k20 s_ p)) (frz:=[0,1,2,3,4,5,6]) (p:=[s_.closed.length=s_.closed.length,s_.locked.length=s_.locked.length,s_.badLink.length=s_.badLink.length,s_.on_.length=s_.on_.length,s_.badSource.length=s_.badSource.length,s_.earthed.length=s_.earthed.length,s_.badBus.length=s_.badBus.length]) (rK [(0,26)] (qU p s_ hr_)) (by kernel_rfl) ⟨rfl,rfl,rfl,rfl,rfl,rfl,rfl,trivial⟩ (by kernel_rfl) ⟨(fun _ _=>rfl),trivial⟩ (by kernel_rfl)):Fn Tryz.prog 14 (MX p s_) (EL s_) (.dN [(.one (.own 26 false r_.1.length)),(sI r_.2)]) [(Wu s_),(KV s_),(KI s_),(KT s_),(KL s_),(Lh s_),(Mf s_),(26,some (aX 4 1 af r_.1))])⟩ fun r_=> .rg {fz:=[26]} []<| .a5 ((0:Int)≤x.watch∧x.watch<(s_.badBus.length:Int)) ((gB [((at' s_.badBus x.watch.toNat),false)]=true→(0:Int)≤x.watch∧x.watch<(r_.1.length:Int))) ((gB [((bif (at' s_.badBus x.watch.toNat)then true else(at' r_.1 x.watch.toNat)),false)]=true→(0:Int)≤x.close∧x.close<(s_.closed.length:Int))) ((gB [(Y8 s_ x r_)]=true→(0:Int)≤x.close∧x.close<(s_.badLink.length:Int))) ((gB [(Yy s_ x r_)]=true→(0:Int)≤x.close∧x.close<(s_.locked.length:Int)))<| .rg {} [0, .t 0 x.watch s_.badBus.length,1,2, .tg 2 [((bif (at' s_.badBus x.watch.toNat)then true else(at' r_.1 x.watch.toNat)),false)] x.close s_.closed.length,3, .tg 3 [(Y8 s_ x r_)] x.close s_.badLink.length,4, .tg 4 [(Yy s_ x r_)] x.close s_.locked.length]<| .it (.r<| .im (.ac 25 0 0 27)<| .en (s_,false) [] [(27,7),(25,8)])
  (.rg {fr:=[(1,28)]} []<| .cl 2 ⟨fun{u0} hr_1=>((Fn.qQ (args:=[(sD (aR none 1 af s_.closed))]) (frz:=[0]) (p:=[s_.closed.length=s_.closed.length]) (Fn.xS [(0,29)] (aM s_.closed hr_1) (by kernel_rfl) (by kernel_rfl) (by kernel_rfl) (by kernel_rfl)) (by kernel_rfl) ⟨rfl,trivial⟩ (by kernel_rfl) ⟨(fun _ _=>rfl),trivial⟩ (by kernel_rfl)):Fn Tryz.prog 101 [(.one (.own 0 false s_.closed.length))] [(Wu s_)] (vO 29 false u0.length) [(Wu s_),(29,some (aX 4 1 af u0))])⟩ fun u0=> .r<| .a1 ((0:Int)≤x.close∧x.close<(u0.length:Int))<| .rg {an:=[(5, .arr 0 (aj af (yN x u0)))]} [0, .t 0 x.close u0.length, .pf ⟨aB u0.length 1 (jk (aj af u0) x.close.toNat 0 [(.bool true)]) (aj af (yN x u0)),bG _ _ _ _ _ _ _ _ rfl (fun j hj=>(match j,hj with|0,_=>rfl))⟩]<| .im (.ll 29 u0 (yN x u0))<| .r<| .it (.a2 ((0:Int)≤x.open_∧x.open_<(s_.badLink.length:Int)) ((gB [((at' s_.badLink x.open_.toNat),false)]=true→(0:Int)≤x.open_∧x.open_<(s_.locked.length:Int)))<| .rg {} [0, .t 0 x.open_ s_.badLink.length,1, .tg 1 [((at' s_.badLink x.open_.toNat),false)] x.open_ s_.locked.length]<| .it (.r<| .im (.ac 25 0 0 30)<| .en (s_,false) [] [(30,7),(25,8)])
  (.a1 ((0:Int)≤x.open_∧x.open_<((yN x u0).length:Int))<| .rg {an:=[(5, .arr 0 (aj af (E8 x u0)))],fz:=[24]} [0, .t 0 x.open_ ((yN x u0).length), .pf ⟨aB (yN x u0).length 1 (jk (aj af (yN x u0)) x.open_.toNat 0 [(.bool false)]) (aj af (E8 x u0)),bG _ _ _ _ _ _ _ _ rfl (fun j hj=>(match j,hj with|0,_=>rfl))⟩]<| .im (.ll 29 (yN x u0) (E8 x u0))<| .cl 2 ⟨fun{u3} hr_2=>((Fn.qQ (args:=(ZV p s_ x u0)) (frz:=[29,1,2,3,4,5,6]) (p:=[(E8 x u0).length=(E8 x u0).length,s_.locked.length=s_.locked.length,s_.badLink.length=s_.badLink.length,s_.on_.length=s_.on_.length,s_.badSource.length=s_.badSource.length,s_.earthed.length=s_.earthed.length,s_.badBus.length=s_.badBus.length]) (Fn.xS [(0,31)] (qU p (Xf s_ x u0) hr_2) (by kernel_rfl) (by kernel_rfl) (by kernel_rfl) (by kernel_rfl)) (by kernel_rfl) ⟨rfl,rfl,rfl,rfl,rfl,rfl,rfl,trivial⟩ (by kernel_rfl) ⟨(fun _ _=>rfl),trivial⟩ (by kernel_rfl)):Fn Tryz.prog 14 (aag p s_ x u0) (Zm s_ x u0) (.dN [(.one (.own 31 false u3.1.length)),(sI u3.2)]) [(XU x u0),(KV s_),(KI s_),(KT s_),(KL s_),(Lh s_),(Mf s_),(31,some (aX 4 1 af u3.1))])⟩ fun u3=> .rg {fz:=[31]} []<| .r<| .lp (σ:=Int) (β:=Unit) (0) [] [] ⟨[3,4,5,6,8,10,11,102],[0,1,2,3,4,5,6,23,25,28,29],fun u1=>[(103,(vI u1))],fun u1=>[]⟩ ⟨[3,4,5,6,10,11],[0,1,2,3,4,5,6,23,25,28,29],fun _=>[],fun _=>[]⟩
  (fun u1=> .r<| .it (.r<| .a5 (Vf r_ u1) (Ux r_ u1 u3) (V4 r_ u1 u3) (Ua s_ r_ u1 u3) (UI s_ r_ u1 u3)<| .rg {} [0,1,2,3, .tg 3 [((at' u3.1 u1.toNat),true),(QW r_ u1 u3)] u1 s_.earthed.length,4]<| .it (.r<| .im (.ac 25 0 0 32)<| .en (.done (.ret (s_,false))) [] [(32,7),(25,8)])
  (.r<| .e (.next (k10 u1))))
  (.e (.done (.brk ()))))
  (fun _=> .cl 2 ⟨fun{u5} hr_3=>((Fn.qQ (args:=(k20 s_ p)) (frz:=[0,1,2,3,4,5,6]) (p:=[s_.closed.length=s_.closed.length,s_.locked.length=s_.locked.length,s_.badLink.length=s_.badLink.length,s_.on_.length=s_.on_.length,s_.badSource.length=s_.badSource.length,s_.earthed.length=s_.earthed.length,s_.badBus.length=s_.badBus.length]) (Fn.xS [(0,33)] (ko p s_ hr_3) (by kernel_rfl) (by kernel_rfl) (by kernel_rfl) (by kernel_rfl)) (by kernel_rfl) ⟨rfl,rfl,rfl,rfl,rfl,rfl,rfl,trivial⟩ (by kernel_rfl) ⟨(fun _ j=>match j with|0=>rfl|1=>rfl|_+2=>rfl),trivial⟩ (by kernel_rfl)):Fn Tryz.prog 15 (MX p s_) (EL s_) (.dN [(.one (.own 33 false u5.1.length)),(sI u5.2)]) [(Wu s_),(KV s_),(KI s_),(KT s_),(KL s_),(Lh s_),(Mf s_),(33,some (aX 44 2 ah.cell u5.1))])⟩ fun u5=> .rg {fr:=[(6,34)],fz:=[33]} []<| .fz [34]<| .cl 2 ⟨fun{u6} hr_4=>((Fn.qQ (args:=(ZV p s_ x u0)) (frz:=[29,1,2,3,4,5,6]) (p:=[(E8 x u0).length=(E8 x u0).length,s_.locked.length=s_.locked.length,s_.badLink.length=s_.badLink.length,s_.on_.length=s_.on_.length,s_.badSource.length=s_.badSource.length,s_.earthed.length=s_.earthed.length,s_.badBus.length=s_.badBus.length]) (Fn.xS [(0,35)] (ko p (Xf s_ x u0) hr_4) (by kernel_rfl) (by kernel_rfl) (by kernel_rfl) (by kernel_rfl)) (by kernel_rfl) ⟨rfl,rfl,rfl,rfl,rfl,rfl,rfl,trivial⟩ (by kernel_rfl) ⟨(fun _ j=>match j with|0=>rfl|1=>rfl|_+2=>rfl),trivial⟩ (by kernel_rfl)):Fn Tryz.prog 15 (aag p s_ x u0) (Zm s_ x u0) (.dN [(.one (.own 35 false u6.1.length)),(sI u6.2)]) [(XU x u0),(KV s_),(KI s_),(KT s_),(KL s_),(Lh s_),(Mf s_),(35,some (aX 44 2 ah.cell u6.1))])⟩ fun u6=> .rg {fz:=[35]} []<| .cg 9 [((!(at' u3.1 x.watch.toNat)),false)] (lF u6.1 u5.1) fun u9=> .a1 ((0:Int)≤x.watch∧x.watch<(u3.1.length:Int))<| .rg {} [0,1]<| .it (.r<| .im (.ac 25 0 0 36)<| .en (s_,false) [] [(36,7),(25,8)])
  (.r<| .en ((Xf s_ x u0),true) [] [(29,7),(25,8)]))))
  (.cl 2 ⟨fun{u4} hr_6=>((Fn.qQ (args:=(YG p s_ x u0)) (frz:=[29,1,2,3,4,5,6]) (p:=[(yN x u0).length=(yN x u0).length,s_.locked.length=s_.locked.length,s_.badLink.length=s_.badLink.length,s_.on_.length=s_.on_.length,s_.badSource.length=s_.badSource.length,s_.earthed.length=s_.earthed.length,s_.badBus.length=s_.badBus.length]) (Fn.xS [(0,37)] (qU p (Xw s_ x u0) hr_6) (by kernel_rfl) (by kernel_rfl) (by kernel_rfl) (by kernel_rfl)) (by kernel_rfl) ⟨rfl,rfl,rfl,rfl,rfl,rfl,rfl,trivial⟩ (by kernel_rfl) ⟨(fun _ _=>rfl),trivial⟩ (by kernel_rfl)):Fn Tryz.prog 14 (aac p s_ x u0) (Zu s_ x u0) (.dN [(.one (.own 37 false u4.1.length)),(sI u4.2)]) [(XW x u0),(KV s_),(KI s_),(KT s_),(KL s_),(Lh s_),(Mf s_),(37,some (aX 4 1 af u4.1))])⟩ fun u4=> .rg {fz:=[24,37]} []<| .r<| .lp (σ:=Int) (β:=Unit) (0) [] [] ⟨[3,4,5,6,8,10,11,102],[0,1,2,3,4,5,6,23,25,28,29],fun u2=>[(103,(vI u2))],fun u2=>[]⟩ ⟨[3,4,5,6,10,11],[0,1,2,3,4,5,6,23,25,28,29],fun _=>[],fun _=>[]⟩
  (fun u2=> .r<| .it (.r<| .a5 (Vf r_ u2) (Ux r_ u2 u4) (V4 r_ u2 u4) (Ua s_ r_ u2 u4) (UI s_ r_ u2 u4)<| .rg {} [0,1,2,3, .tg 3 [((at' u4.1 u2.toNat),true),(QW r_ u2 u4)] u2 s_.earthed.length,4]<| .it (.r<| .im (.ac 25 0 0 38)<| .en (.done (.ret (s_,false))) [] [(38,7),(25,8)])
  (.r<| .e (.next (k10 u2))))
  (.e (.done (.brk ()))))
  (fun _=> .cl 2 ⟨fun{u7} hr_7=>((Fn.qQ (args:=(k20 s_ p)) (frz:=[0,1,2,3,4,5,6]) (p:=[s_.closed.length=s_.closed.length,s_.locked.length=s_.locked.length,s_.badLink.length=s_.badLink.length,s_.on_.length=s_.on_.length,s_.badSource.length=s_.badSource.length,s_.earthed.length=s_.earthed.length,s_.badBus.length=s_.badBus.length]) (Fn.xS [(0,39)] (ko p s_ hr_7) (by kernel_rfl) (by kernel_rfl) (by kernel_rfl) (by kernel_rfl)) (by kernel_rfl) ⟨rfl,rfl,rfl,rfl,rfl,rfl,rfl,trivial⟩ (by kernel_rfl) ⟨(fun _ j=>match j with|0=>rfl|1=>rfl|_+2=>rfl),trivial⟩ (by kernel_rfl)):Fn Tryz.prog 15 (MX p s_) (EL s_) (.dN [(.one (.own 39 false u7.1.length)),(sI u7.2)]) [(Wu s_),(KV s_),(KI s_),(KT s_),(KL s_),(Lh s_),(Mf s_),(39,some (aX 44 2 ah.cell u7.1))])⟩ fun u7=> .rg {fr:=[(6,40)],fz:=[39]} []<| .fz [40]<| .cl 2 ⟨fun{u8} hr_8=>((Fn.qQ (args:=(YG p s_ x u0)) (frz:=[29,1,2,3,4,5,6]) (p:=[(yN x u0).length=(yN x u0).length,s_.locked.length=s_.locked.length,s_.badLink.length=s_.badLink.length,s_.on_.length=s_.on_.length,s_.badSource.length=s_.badSource.length,s_.earthed.length=s_.earthed.length,s_.badBus.length=s_.badBus.length]) (Fn.xS [(0,41)] (ko p (Xw s_ x u0) hr_8) (by kernel_rfl) (by kernel_rfl) (by kernel_rfl) (by kernel_rfl)) (by kernel_rfl) ⟨rfl,rfl,rfl,rfl,rfl,rfl,rfl,trivial⟩ (by kernel_rfl) ⟨(fun _ j=>match j with|0=>rfl|1=>rfl|_+2=>rfl),trivial⟩ (by kernel_rfl)):Fn Tryz.prog 15 (aac p s_ x u0) (Zu s_ x u0) (.dN [(.one (.own 41 false u8.1.length)),(sI u8.2)]) [(XW x u0),(KV s_),(KI s_),(KT s_),(KL s_),(Lh s_),(Mf s_),(41,some (aX 44 2 ah.cell u8.1))])⟩ fun u8=> .rg {fz:=[41]} []<| .cg 9 [((!(at' u4.1 x.watch.toNat)),false)] (lF u8.1 u7.1) fun v0=> .a1 ((0:Int)≤x.watch∧x.watch<(u4.1.length:Int))<| .rg {} [0,1]<| .it (.r<| .im (.ac 25 0 0 42)<| .en (s_,false) [] [(42,7),(25,8)])
  (.r<| .en ((Xw s_ x u0),true) [] [(29,7),(25,8)])))))
section
variable (u7:(List Bool)) (u1:(List Bool)) (u2:(List Bool)) (u3:(List Bool)) (u4:(List Bool)) (u5:(List Bool)) (u6:(List Bool)) (o_:(List Int)) (u0:Int)
abbrev Zj:List CV:=[(.own 1 false u7.length),(.own 2 false u1.length),(.own 3 false u2.length),(.own 4 false u3.length),(.own 5 false u4.length),(.own 6 false u5.length),(.own 7 false u6.length)]
abbrev CJ:Ob:=(aX 3 1 (aG .i64) o_)
abbrev ZX:Ob:=(.cells 29 (Zj u7 u1 u2 u3 u4 u5 u6))
abbrev QM:=((o_.length+[u0].length)*8≤140737488355328)
abbrev Sj:=(o_.length+[u0].length≤4611686018427387904)
abbrev G7:=(aj (aG .i64) (o_++[u0]))
abbrev Ta:=(ku (aj (aG .i64) o_) o_.length (aj (aG .i64) [u0]))
end
theorem xE (u0:Int) (u7:(List Bool)) (u1:(List Bool)) (u2:(List Bool)) (u3:(List Bool)) (u4:(List Bool)) (u5:(List Bool)) (u6:(List Bool)) (u8:State) (o_:(List Int)):XJ Tryz.prog 0 [(sI u0),(.agg (Zj u7 u1 u2 u3 u4 u5 u6))] [(0,some (.loop iW 0 [(10,(vP 8 0)),(11,(vP 9 0))])),(1,some (aX 4 1 af u7)),(2,some (aX 4 1 af u1)),(3,some (aX 4 1 af u2)),(4,some (aX 4 1 af u3)),(5,some (aX 4 1 af u4)),(6,some (aX 4 1 af u5)),(7,some (aX 4 1 af u6)),(8,some (.cells 29 [(.own 10 false u8.closed.length),(.own 2 false u1.length),(.own 3 false u2.length),(.own 4 false u3.length),(.own 5 false u4.length),(.own 6 false u5.length),(.own 7 false u6.length)])),(9,some (.cells 36 [(.own 11 false o_.length)])),(10,some (aX 4 1 af u8.closed)),(11,some (CJ o_))] (fun _=>vB true) (fun r=>[(0,some (.loop iW 0 [(10,(vP 8 0)),(11,(vP 9 0))])),(1,some (aX 4 1 af u7)),(2,some (aX 4 1 af u1)),(3,some (aX 4 1 af u2)),(4,some (aX 4 1 af u3)),(5,some (aX 4 1 af u4)),(6,some (aX 4 1 af u5)),(7,some (aX 4 1 af u6)),(8,some (ZX u7 u1 u2 u3 u4 u5 u6)),(9,some (.cells 36 [(.own 12 false r.2.length)])),(10,some (aX 4 1 af u8.closed)),(11,none),(12,some (aX 3 1 (aG .i64) r.2))]) (ny u0 u7 u1 u2 u3 u4 u5 u6 u8 o_):=
  scY tT mX iW ⟨[10,11],[0,1,2,3,4,5,6,7,8,9,10,11],fun _=>[(12,(vI u0)),(13,(vP 15 0))],fun _=>[(15,some (ZX u7 u1 u2 u3 u4 u5 u6))]⟩ (.r<| .rg {fr:=[(0,15)]} []<| .e ())
  (.r<| .a2 (QM o_ u0) (Sj o_ u0)<| .rg {an:=[(2, .arr [u0].length (aj (aG .i64) [u0])),(3, .arr (o_++[u0]).length (G7 o_ u0))],fr:=[(2,16),(3,17)]} [.pf ⟨[u0].length=1,rfl⟩, .pf ⟨aB 1 1 (jm 1 [(.int .i64 u0)]) (aj (aG .i64) [u0]),(by intro i hi j hj;match i,j,hi,hj with|0,0,_,_=>rfl)⟩, .e (o_.length),0,1, .pf ⟨(o_++[u0]).length=o_.length+[u0].length,List.length_append⟩, .pf ⟨aB (o_.length+[u0].length) 1 (Ta o_ u0) (G7 o_ u0),bD _ _ _ _⟩]<| .en ((KR u7 u1 u2 u3 u4 u5 u6),(o_++[u0])) [] [(17,12)])
section
variable (u0:State) (x1:(List Transfer)) (u2:(List Bool)) (r_:(State × Bool)) (x2:Int) (u4:(List Source)) (u5:(List Link)) (u6:(List aT)) (u1:Int)
abbrev Y7:Ob:=(.cells 29 [(.own 4 false u0.closed.length),(.own 5 false u0.locked.length),(.own 6 false u0.badLink.length),(.own 7 false u0.on_.length),(.own 8 false u0.badSource.length),(.own 9 false u0.earthed.length),(.own 10 false u0.badBus.length)])
abbrev R9:Nat × Option Ob:=(5,some (aX 4 1 af u0.locked))
abbrev SG:Nat × Option Ob:=(6,some (aX 4 1 af u0.badLink))
abbrev Tm:Nat × Option Ob:=(7,some (aX 4 1 af u0.on_))
abbrev Tp:Nat × Option Ob:=(8,some (aX 4 1 af u0.badSource))
abbrev Ry:Nat × Option Ob:=(9,some (aX 4 1 af u0.earthed))
abbrev Tx:Nat × Option Ob:=(10,some (aX 4 1 af u0.badBus))
abbrev VD:=(List.replicate ((x1.length:Int).toNat) (false:Bool))
abbrev Zw:List CV:=[(.own 99 false u2.length),(.own 5 false u0.locked.length),(.own 6 false u0.badLink.length),(.own 7 false u0.on_.length),(.own 8 false u0.badSource.length),(.own 9 false u0.earthed.length),(.own 10 false u0.badBus.length)]
abbrev Y2:Ob:=(.cells 29 (Zw u0 u2))
abbrev aan:Nat × Option Ob:=(1,some (Y2 u0 u2))
abbrev Y0:Nat × Option Ob:=(2,some (Y2 u0 u2))
abbrev Zy:=(aj af (VD x1))
abbrev VU:=(⟨u2,u0.locked,u0.badLink,u0.on_,u0.badSource,u0.earthed,u0.badBus⟩:State)
abbrev ZU:List CV:=[(.own 148 false r_.1.closed.length),(.own 5 false u0.locked.length),(.own 6 false u0.badLink.length),(.own 7 false u0.on_.length),(.own 8 false u0.badSource.length),(.own 9 false u0.earthed.length),(.own 10 false u0.badBus.length)]
abbrev P9:Ob:=(aX 4 1 af r_.1.closed)
abbrev OW:List SV:=[(.agg [(cI x2),(.d (aR none 5 Source.cell u4)),(.d (aR none 6 Link.cell u5)),(.d (aR none 4 aT.cell u6))]),(.agg (Zw u0 u2)),(.agg [(cI ((at' x1 u1.toNat).watch)),(cI ((at' x1 u1.toNat).open_)),(cI ((at' x1 u1.toNat).close))])]
abbrev Ql:List (Nat × Option Ob):=[(99,some (aX 4 1 af u2)),(R9 u0),(SG u0),(Tm u0),(Tp u0),(Ry u0),(Tx u0)]
abbrev SN:List CV:=[(.own 7 false r_.1.closed.length),(.own 1 false u0.locked.length),(.own 2 false u0.badLink.length),(.own 3 false u0.on_.length),(.own 4 false u0.badSource.length),(.own 5 false u0.earthed.length),(.own 6 false u0.badBus.length)]
abbrev YA:TV:=(.dN [(.agg (SN u0 r_)),(sB r_.2)])
abbrev Z8:=(rO (swp [(0,99),(1,5),(2,6),(3,7),(4,8),(1,9),(2,10),(3,148),(4,149)]) [(0,some (aX 4 1 af u2)),(KV u0),(KI u0),(KT u0),(KL u0),(Lh u0),(Mf u0),(7,bif r_.2 then some (P9 r_)else none),(8,none)])
end
theorem Ab (x1:(List Transfer)) (x2:Int) (u4:(List Source)) (u5:(List Link)) (u6:(List aT)) (u0:State) (v0:State) (o_:(List Int)):dJ Tryz.prog 102 [(.one (.yl 0)),(sD (Gy [(JZ x1)] 0)),(sD (k3 x2 u4 u5 u6)),(.one (.ptr 1 0))] [(0,some (.loop iW 0 [(10,(vP 2 0)),(11,(vP 3 0))])),(1,some (Y7 u0)),(2,some (Y7 u0)),(3,some (.cells 36 [(.own 11 false o_.length)])),(4,some (aX 4 1 af u0.closed)),(R9 u0),(SG u0),(Tm u0),(Tp u0),(Ry u0),(Tx u0),(11,some (CJ o_))] (fun r=>(.dN [])) (fun r=>[(0,some (.loop iW 0 [(10,(vP 2 0)),(11,(vP 3 0))])),(1,some (.cells 29 [(.own 12 false r.1.closed.length),(.own 5 false u0.locked.length),(.own 6 false u0.badLink.length),(.own 7 false u0.on_.length),(.own 8 false u0.badSource.length),(.own 9 false u0.earthed.length),(.own 10 false u0.badBus.length)])),(2,some (.cells 29 [(.own 12 false r.1.closed.length),(.own 5 false u0.locked.length),(.own 6 false u0.badLink.length),(.own 7 false u0.on_.length),(.own 8 false u0.badSource.length),(.own 9 false u0.earthed.length),(.own 10 false u0.badBus.length)])),(3,some (.cells 36 [(.own 13 false r.2.2.length)])),(4,none),(R9 u0),(SG u0),(Tm u0),(Tp u0),(Ry u0),(Tx u0),(11,none),(12,some (aX 4 1 af r.1.closed)),(13,some (aX 3 1 (aG .i64) r.2.2))]) (qj x1 x2 u4 u5 u6 u0 v0 o_):=
  dZ tT mX Tryz.func102 (
  .sp (σ:=((List Bool) × (List Int) × (List Bool))) (β:=((List Bool) × (List Int))) (u0.closed,o_,(VD x1)) ⟨[0,1,2,3],[0,5,6,7,8,9,10],fun(u2,u8,u3)=>[(5,(vO 82 true u3.length))],fun(u2,u8,u3)=>[(aan u0 u2),(Y0 u0 u2),(3,some (.cells 36 [(.own 100 false u8.length)])),(4,none),(11,none),(82,some (aX 4 1 af u3)),(99,some (aX 4 1 af u2)),(100,some (CJ u8))]⟩ ⟨[],[0,5,6,7,8,9,10],fun(u7,u9)=>[],fun(u7,u9)=>[(aan u0 u7),(Y0 u0 u7),(3,some (.cells 36 [(.own 100 false u9.length)])),(4,none),(11,none),(99,some (aX 4 1 af u7)),(100,some (CJ u9))]⟩ (.a3 ((0:Int)≤(x1.length:Int)) ((1:Int)*(x1.length:Int)≤281474976710656) (((x1.length:Int):Int)≤9223372036854775807)<| .rg {an:=[(2, .arr (VD x1).length (Zy x1))],fr:=[(2,151)]} [0, .e (((x1.length:Int):Int)),1,2, .pf ⟨(VD x1).length=((x1.length:Int).toNat),List.length_replicate⟩, .pf ⟨aB ((x1.length:Int).toNat) 1 (fun _ j=>[(.bool false)].getD j .nilp) (Zy x1),gL _ _ _ _ _ (fun j hj=>(match j,hj with|0,_=>rfl))⟩]<| .im (.ra 4 152)<| .im (.re 3 0 11 153)<| .en () [] [(151,82),(152,99),(153,100)])
  (fun(u2,u8,u3)=> .r<| .lp (σ:=Int) (β:=Unit) (0) [] [] ⟨[0,1,2,3,5,13,14],[0,1,2,3,4,5,6,7,8,9,10,11,82,99,100],fun u1=>[(15,(vI u1))],fun u1=>[]⟩ ⟨[],[0,1,2,3,4,5,6,7,8,9,10,11,99,100],fun _=>[],fun _=>[]⟩
  (fun u1=> .r<| .it (.a1 (k35 x1 u1)<| .rg {fr:=[(3,147)],fz:=[147]} []<| .a1 (TY u3 u1)<| .rg {} [0, .t 0 u1 u3.length]<| .it (.r<| .e (.next (k10 u1)))
  (.cl 3 (jT [(0,99),(1,5),(2,6),(3,7),(4,8),(1,9),(2,10),(3,148),(4,149)] (CR (⟨x2,u4,u5,u6⟩:ai) (VU u0 u2) (at' x1 u1.toNat))) fun r_=> .fk r_.2 (.rg {an:=[(3, .call [99,5,6,7,8,9,10] (.dN [(.agg (ZU u0 r_)),(sB true)]) [(99,some (aX 4 1 af u2)),(R9 u0),(SG u0),(Tm u0),(Tp u0),(Ry u0),(Tx u0),(148,some (P9 r_)),(149,none)])],fr:=[(7,150)]} [.m [1,0] [Fn Tryz.prog 103 (OW u0 x1 u2 x2 u4 u5 u6 u1) (Ql u0 u2) (TV.ren (swp [(0,99),(1,5),(2,6),(3,7),(4,8),(1,9),(2,10),(3,148),(4,149)]) (YA u0 r_)) (Z8 u0 u2 r_),r_.2=true] (Fn Tryz.prog 103 (OW u0 x1 u2 x2 u4 u5 u6 u1) (Ql u0 u2) (TV.ren (swp [(0,99),(1,5),(2,6),(3,7),(4,8),(1,9),(2,10),(3,148),(4,149)]) (.dN [(.agg (SN u0 r_)),(sB true)])) (rO (swp [(0,99),(1,5),(2,6),(3,7),(4,8),(1,9),(2,10),(3,148),(4,149)]) [(0,some (aX 4 1 af u2)),(KV u0),(KI u0),(KT u0),(KL u0),(Lh u0),(Mf u0),(7,bif true then some (P9 r_)else none),(8,none)])) (fun⟨hy,hb2,_⟩=>(congrArg (fun bq=>Fn Tryz.prog 103 (OW u0 x1 u2 x2 u4 u5 u6 u1) (Ql u0 u2) (TV.ren (swp [(0,99),(1,5),(2,6),(3,7),(4,8),(1,9),(2,10),(3,148),(4,149)]) (.dN [(.agg (SN u0 r_)),(sB bq)])) (rO (swp [(0,99),(1,5),(2,6),(3,7),(4,8),(1,9),(2,10),(3,148),(4,149)]) [(0,some (aX 4 1 af u2)),(KV u0),(KI u0),(KT u0),(KL u0),(Lh u0),(Mf u0),(7,bif bq then some (P9 r_)else none),(8,none)])) hb2).mp hy)]<| .r<| .t<| .a1 (TY u3 u1)<| .rg {an:=[(5, .arr 0 (aj af (u3.set u1.toNat true)))]} [0, .t 0 u1 u3.length, .pf ⟨aB u3.length 1 (jk (aj af u3) u1.toNat 0 [(.bool true)]) (aj af (u3.set u1.toNat true)),bG _ _ _ _ _ _ _ _ rfl (fun j hj=>(match j,hj with|0,_=>rfl))⟩]<| .im (.ll 82 u3 (u3.set u1.toNat true))<| .cy 3 (rkY [(1,148),(2,5),(3,6),(4,7),(2,8),(3,9),(4,10),(4,99),(11,100),(12,151)] (xE u1 r_.1.closed u0.locked u0.badLink u0.on_ u0.badSource u0.earthed u0.badBus (VU u0 u2) u8)) fun v1=> .r<| .f<| .en (.done (.ret (.next (r_.1.closed,v1.2,(u3.set u1.toNat true))))) [] [(148,99),(151,100)])
  (.rg {an:=[(3, .call [99,5,6,7,8,9,10] (.dN [(.agg (ZU u0 r_)),(sB false)]) [(99,some (aX 4 1 af u2)),(R9 u0),(SG u0),(Tm u0),(Tp u0),(Ry u0),(Tx u0),(148,none),(149,none)])],fr:=[(7,150)]} [.m [1,0] [Fn Tryz.prog 103 (OW u0 x1 u2 x2 u4 u5 u6 u1) (Ql u0 u2) (TV.ren (swp [(0,99),(1,5),(2,6),(3,7),(4,8),(1,9),(2,10),(3,148),(4,149)]) (YA u0 r_)) (Z8 u0 u2 r_),r_.2=false] (Fn Tryz.prog 103 (OW u0 x1 u2 x2 u4 u5 u6 u1) (Ql u0 u2) (TV.ren (swp [(0,99),(1,5),(2,6),(3,7),(4,8),(1,9),(2,10),(3,148),(4,149)]) (.dN [(.agg (SN u0 r_)),(sB false)])) (rO (swp [(0,99),(1,5),(2,6),(3,7),(4,8),(1,9),(2,10),(3,148),(4,149)]) [(0,some (aX 4 1 af u2)),(KV u0),(KI u0),(KT u0),(KL u0),(Lh u0),(Mf u0),(7,bif false then some (P9 r_)else none),(8,none)])) (fun⟨hy,hb2,_⟩=>(congrArg (fun bq=>Fn Tryz.prog 103 (OW u0 x1 u2 x2 u4 u5 u6 u1) (Ql u0 u2) (TV.ren (swp [(0,99),(1,5),(2,6),(3,7),(4,8),(1,9),(2,10),(3,148),(4,149)]) (.dN [(.agg (SN u0 r_)),(sB bq)])) (rO (swp [(0,99),(1,5),(2,6),(3,7),(4,8),(1,9),(2,10),(3,148),(4,149)]) [(0,some (aX 4 1 af u2)),(KV u0),(KI u0),(KT u0),(KL u0),(Lh u0),(Mf u0),(7,bif bq then some (P9 r_)else none),(8,none)])) hb2).mp hy)]<| .r<| .f<| .r<| .e (.next (k10 u1)))))
  (.e (.done (.brk ()))))
  (fun _=> .e (.done (.brk (u2,u8)))))
  (fun(u7,u9)=> .en ((VU u0 u7),(VU u0 u7),u9) [] [(99,12),(100,13)]))
theorem o9 (a:(List Int)) (b:(List Int)):dJ Tryz.prog 20 [(sD (aR none 1 (aG .i64) a)),(sD (aR none 1 (aG .i64) b))] [] (fun r=>(vB r)) (fun _=>[]) (oJ a b):=
  dZ tT mX Tryz.func20 (
  .r<| .r<| .it (.r<| .e false)
  (.r<| .lp (σ:=Int) (β:=Unit) (0) [] [] ⟨[0,1],[],fun i=>[(5,(vI i))],fun i=>[]⟩ ⟨[],[],fun _=>[],fun _=>[]⟩
  (fun i=> .r<| .it (.a2 ((0:Int)≤i∧i<(a.length:Int)) ((0:Int)≤i∧i<(b.length:Int))<| .rg {} [0,1]<| .it (.r<| .e (.done (.ret false)))
  (.r<| .e (.next (k10 i))))
  (.e (.done (.brk ()))))
  (fun _=> .r<| .e true)))
end
end Sg
