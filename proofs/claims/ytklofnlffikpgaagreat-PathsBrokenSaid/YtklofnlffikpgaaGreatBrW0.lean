import Derived.Test.YtklofnlffikpgaaGreatBrGm
import Derived.Test.YtklofnlffikpgaaGreatProg
import Derived.Test.YtklofnlffikpgaaGreatBrLf
import Derived.Test.YtklofnlffikpgaaGreatBrLe
set_option linter.all false
namespace Sg
open Go Go.Proofs
set_option maxRecDepth 20000
noncomputable section
noncomputable def TT:List (Nat × TI):=[(3,⟨Tryz.t3.desc,Tryz.t3.size,Tryz.t3.bytes,zl Tryz.t3,false⟩),
  (4,⟨Tryz.t4.desc,Tryz.t4.size,Tryz.t4.bytes,zl Tryz.t4,false⟩),
  (22,⟨Tryz.t22.desc,Tryz.t22.size,Tryz.t22.bytes,zl Tryz.t22,false⟩),
  (23,⟨Tryz.t23.desc,Tryz.t23.size,Tryz.t23.bytes,zl Tryz.t23,false⟩),
  (24,⟨Tryz.t24.desc,Tryz.t24.size,Tryz.t24.bytes,zl Tryz.t24,false⟩),
  (26,⟨Tryz.t25.desc,Tryz.t26.size,Tryz.t26.bytes,zl Tryz.t26,false⟩),
  (27,⟨Tryz.t27.desc,Tryz.t27.size,Tryz.t27.bytes,zl Tryz.t27,false⟩),
  (29,⟨Tryz.t28.desc,Tryz.t29.size,Tryz.t29.bytes,zl Tryz.t29,false⟩),
  (30,⟨Tryz.t30.desc,Tryz.t30.size,Tryz.t30.bytes,zl Tryz.t30,false⟩),
  (34,⟨Tryz.t34.desc,Tryz.t34.size,Tryz.t34.bytes,zl Tryz.t34,false⟩),
  (36,⟨Tryz.t36.desc,Tryz.t36.size,Tryz.t36.bytes,zl Tryz.t36,false⟩),
  (41,⟨Tryz.t41.desc,Tryz.t41.size,Tryz.t41.bytes,zl Tryz.t41,false⟩),
  (44,⟨Tryz.t44.desc,Tryz.t44.size,Tryz.t44.bytes,zl Tryz.t44,true⟩),
  (46,⟨Tryz.t45.desc,Tryz.t46.size,Tryz.t46.bytes,zl Tryz.t46,true⟩),
  (48,⟨Tryz.t48.desc,Tryz.t48.size,Tryz.t48.bytes,zl Tryz.t48,false⟩),
  (61,⟨Tryz.t61.desc,Tryz.t61.size,Tryz.t61.bytes,zl Tryz.t61,false⟩),
  (76,⟨Tryz.t76.desc,Tryz.t76.size,Tryz.t76.bytes,zl Tryz.t76,false⟩),
  (79,⟨Tryz.t79.desc,Tryz.t79.size,Tryz.t79.bytes,zl Tryz.t79,false⟩),
  (82,⟨Tryz.t3.desc,Tryz.t82.size,Tryz.t82.bytes,zl Tryz.t82,false⟩),
  (84,⟨Tryz.t83.desc,Tryz.t84.size,Tryz.t84.bytes,zl Tryz.t84,true⟩),
  (86,⟨Tryz.t85.desc,Tryz.t86.size,Tryz.t86.bytes,zl Tryz.t86,true⟩),
  (87,⟨Tryz.t85.desc,Tryz.t87.size,Tryz.t87.bytes,zl Tryz.t87,true⟩),
  (92,⟨Tryz.t92.desc,Tryz.t92.size,Tryz.t92.bytes,zl Tryz.t92,false⟩),
  (95,⟨Tryz.t95.desc,Tryz.t95.size,Tryz.t95.bytes,zl Tryz.t95,true⟩),
  (100,⟨Tryz.t99.desc,Tryz.t100.size,Tryz.t100.bytes,zl Tryz.t100,true⟩),
  (101,⟨Tryz.t45.desc,Tryz.t101.size,Tryz.t101.bytes,zl Tryz.t101,true⟩),
  (108,⟨Tryz.t108.desc,Tryz.t108.size,Tryz.t108.bytes,zl Tryz.t108,false⟩),
  (109,⟨Tryz.t109.desc,Tryz.t109.size,Tryz.t109.bytes,zl Tryz.t109,false⟩),
  (110,⟨Tryz.t3.desc,Tryz.t110.size,Tryz.t110.bytes,zl Tryz.t110,false⟩),
  (111,⟨Tryz.t111.desc,Tryz.t111.size,Tryz.t111.bytes,zl Tryz.t111,false⟩),
  (113,⟨Tryz.t112.desc,Tryz.t113.size,Tryz.t113.bytes,zl Tryz.t113,false⟩),
  (119,⟨Tryz.t119.desc,Tryz.t119.size,Tryz.t119.bytes,zl Tryz.t119,false⟩),
  (122,⟨Tryz.t121.desc,Tryz.t122.size,Tryz.t122.bytes,zl Tryz.t122,false⟩),
  (123,⟨Tryz.t3.desc,Tryz.t123.size,Tryz.t123.bytes,zl Tryz.t123,false⟩),
  (125,⟨Tryz.t124.desc,Tryz.t125.size,Tryz.t125.bytes,zl Tryz.t125,true⟩),
  (141,⟨Tryz.t141.desc,Tryz.t141.size,Tryz.t141.bytes,zl Tryz.t141,false⟩),
  (161,⟨Tryz.t161.desc,Tryz.t161.size,Tryz.t161.bytes,zl Tryz.t161,false⟩),
  (164,⟨Tryz.t164.desc,Tryz.t164.size,Tryz.t164.bytes,zl Tryz.t164,false⟩),
  (167,⟨Tryz.t167.desc,Tryz.t167.size,Tryz.t167.bytes,zl Tryz.t167,false⟩),
  (169,⟨Tryz.t169.desc,Tryz.t169.size,Tryz.t169.bytes,zl Tryz.t169,false⟩),
  (172,⟨Tryz.t172.desc,Tryz.t172.size,Tryz.t172.bytes,zl Tryz.t172,false⟩),
  (173,⟨Tryz.t173.desc,Tryz.t173.size,Tryz.t173.bytes,zl Tryz.t173,false⟩),
  (176,⟨Tryz.t176.desc,Tryz.t176.size,Tryz.t176.bytes,zl Tryz.t176,false⟩),
  (178,⟨Tryz.t177.desc,Tryz.t178.size,Tryz.t178.bytes,zl Tryz.t178,false⟩),
  (192,⟨Tryz.t192.desc,Tryz.t192.size,Tryz.t192.bytes,zl Tryz.t192,false⟩),
  (193,⟨Tryz.t193.desc,Tryz.t193.size,Tryz.t193.bytes,zl Tryz.t193,false⟩),
  (195,⟨Tryz.t194.desc,Tryz.t195.size,Tryz.t195.bytes,zl Tryz.t195,false⟩),
  (198,⟨Tryz.t198.desc,Tryz.t198.size,Tryz.t198.bytes,zl Tryz.t198,false⟩),
  (211,⟨Tryz.t210.desc,Tryz.t211.size,Tryz.t211.bytes,zl Tryz.t211,true⟩),
  (232,⟨Tryz.t232.desc,Tryz.t232.size,Tryz.t232.bytes,zl Tryz.t232,false⟩),
  (236,⟨Tryz.t236.desc,Tryz.t236.size,Tryz.t236.bytes,zl Tryz.t236,false⟩)]
theorem tT:pM Tryz.prog TT:=⟨ic (by kernel_rfl) (by kernel_rfl) (by kernel_rfl),⟨kF,cZ (by kernel_rfl)⟩,ic (by kernel_rfl) (by kernel_rfl) (by kernel_rfl),⟨kF,cZ (by kernel_rfl)⟩,ic (by kernel_rfl) (by kernel_rfl) (by kernel_rfl),⟨kF,cZ (by kernel_rfl)⟩,ic (by kernel_rfl) (by kernel_rfl) (by kernel_rfl),⟨kF,cZ (by kernel_rfl)⟩,ic (by kernel_rfl) (by kernel_rfl) (by kernel_rfl),⟨kF,cZ (by kernel_rfl)⟩,ic (by kernel_rfl) (by kernel_rfl) (by kernel_rfl),⟨kF,cZ (by kernel_rfl)⟩,ic (by kernel_rfl) (by kernel_rfl) (by kernel_rfl),⟨kF,cZ (by kernel_rfl)⟩,ic (by kernel_rfl) (by kernel_rfl) (by kernel_rfl),⟨kF,cZ (by kernel_rfl)⟩,ic (by kernel_rfl) (by kernel_rfl) (by kernel_rfl),⟨kF,cZ (by kernel_rfl)⟩,ic (by kernel_rfl) (by kernel_rfl) (by kernel_rfl),⟨kF,cZ (by kernel_rfl)⟩,ic (by kernel_rfl) (by kernel_rfl) (by kernel_rfl),⟨kF,cZ (by kernel_rfl)⟩,ic (by kernel_rfl) (by kernel_rfl) (by kernel_rfl),⟨kF,cZ (by kernel_rfl)⟩,ic (by kernel_rfl) (by kernel_rfl) (by kernel_rfl),⟨fun _=> ⟨by kernel_rfl,by kernel_rfl⟩,cZ (by kernel_rfl)⟩,ic (by kernel_rfl) (by kernel_rfl) (by kernel_rfl),⟨fun _=> ⟨by kernel_rfl,by kernel_rfl⟩,cZ (by kernel_rfl)⟩,ic (by kernel_rfl) (by kernel_rfl) (by kernel_rfl),⟨kF,cZ (by kernel_rfl)⟩,ic (by kernel_rfl) (by kernel_rfl) (by kernel_rfl),⟨kF,cZ (by kernel_rfl)⟩,ic (by kernel_rfl) (by kernel_rfl) (by kernel_rfl),⟨kF,cZ (by kernel_rfl)⟩,ic (by kernel_rfl) (by kernel_rfl) (by kernel_rfl),⟨kF,cZ (by kernel_rfl)⟩,ic (by kernel_rfl) (by kernel_rfl) (by kernel_rfl),⟨kF,cZ (by kernel_rfl)⟩,ic (by kernel_rfl) (by kernel_rfl) (by kernel_rfl),⟨fun _=> ⟨by kernel_rfl,by kernel_rfl⟩,cZ (by kernel_rfl)⟩,ic (by kernel_rfl) (by kernel_rfl) (by kernel_rfl),⟨fun _=> ⟨by kernel_rfl,by kernel_rfl⟩,cZ (by kernel_rfl)⟩,ic (by kernel_rfl) (by kernel_rfl) (by kernel_rfl),⟨fun _=> ⟨by kernel_rfl,by kernel_rfl⟩,cZ (by kernel_rfl)⟩,ic (by kernel_rfl) (by kernel_rfl) (by kernel_rfl),⟨kF,cZ (by kernel_rfl)⟩,ic (by kernel_rfl) (by kernel_rfl) (by kernel_rfl),⟨fun _=> ⟨by kernel_rfl,by kernel_rfl⟩,cZ (by kernel_rfl)⟩,ic (by kernel_rfl) (by kernel_rfl) (by kernel_rfl),⟨fun _=> ⟨by kernel_rfl,by kernel_rfl⟩,cZ (by kernel_rfl)⟩,ic (by kernel_rfl) (by kernel_rfl) (by kernel_rfl),⟨fun _=> ⟨by kernel_rfl,by kernel_rfl⟩,cZ (by kernel_rfl)⟩,ic (by kernel_rfl) (by kernel_rfl) (by kernel_rfl),⟨kF,cZ (by kernel_rfl)⟩,ic (by kernel_rfl) (by kernel_rfl) (by kernel_rfl),⟨kF,cZ (by kernel_rfl)⟩,ic (by kernel_rfl) (by kernel_rfl) (by kernel_rfl),⟨kF,cZ (by kernel_rfl)⟩,ic (by kernel_rfl) (by kernel_rfl) (by kernel_rfl),⟨kF,cZ (by kernel_rfl)⟩,ic (by kernel_rfl) (by kernel_rfl) (by kernel_rfl),⟨kF,cZ (by kernel_rfl)⟩,ic (by kernel_rfl) (by kernel_rfl) (by kernel_rfl),⟨kF,cZ (by kernel_rfl)⟩,ic (by kernel_rfl) (by kernel_rfl) (by kernel_rfl),⟨kF,cZ (by kernel_rfl)⟩,ic (by kernel_rfl) (by kernel_rfl) (by kernel_rfl),⟨kF,cZ (by kernel_rfl)⟩,ic (by kernel_rfl) (by kernel_rfl) (by kernel_rfl),⟨fun _=> ⟨by kernel_rfl,by kernel_rfl⟩,cZ (by kernel_rfl)⟩,ic (by kernel_rfl) (by kernel_rfl) (by kernel_rfl),⟨kF,cZ (by kernel_rfl)⟩,ic (by kernel_rfl) (by kernel_rfl) (by kernel_rfl),⟨kF,cZ (by kernel_rfl)⟩,ic (by kernel_rfl) (by kernel_rfl) (by kernel_rfl),⟨kF,cZ (by kernel_rfl)⟩,ic (by kernel_rfl) (by kernel_rfl) (by kernel_rfl),⟨kF,cZ (by kernel_rfl)⟩,ic (by kernel_rfl) (by kernel_rfl) (by kernel_rfl),⟨kF,cZ (by kernel_rfl)⟩,ic (by kernel_rfl) (by kernel_rfl) (by kernel_rfl),⟨kF,cZ (by kernel_rfl)⟩,ic (by kernel_rfl) (by kernel_rfl) (by kernel_rfl),⟨kF,cZ (by kernel_rfl)⟩,ic (by kernel_rfl) (by kernel_rfl) (by kernel_rfl),⟨kF,cZ (by kernel_rfl)⟩,ic (by kernel_rfl) (by kernel_rfl) (by kernel_rfl),⟨kF,cZ (by kernel_rfl)⟩,ic (by kernel_rfl) (by kernel_rfl) (by kernel_rfl),⟨kF,cZ (by kernel_rfl)⟩,ic (by kernel_rfl) (by kernel_rfl) (by kernel_rfl),⟨kF,cZ (by kernel_rfl)⟩,ic (by kernel_rfl) (by kernel_rfl) (by kernel_rfl),⟨kF,cZ (by kernel_rfl)⟩,ic (by kernel_rfl) (by kernel_rfl) (by kernel_rfl),⟨kF,cZ (by kernel_rfl)⟩,ic (by kernel_rfl) (by kernel_rfl) (by kernel_rfl),⟨fun _=> ⟨by kernel_rfl,by kernel_rfl⟩,cZ (by kernel_rfl)⟩,ic (by kernel_rfl) (by kernel_rfl) (by kernel_rfl),⟨kF,cZ (by kernel_rfl)⟩,ic (by kernel_rfl) (by kernel_rfl) (by kernel_rfl),⟨kF,cZ (by kernel_rfl)⟩,trivial⟩
theorem mX:Tryz.prog.follows .mixedOrders=true:=by kernel_rfl
def Jk:Go.Shelf.Ren:=⟨fun|6=>52|14=>107|15=>108|20=>153|21=>154|22=>155|23=>156|24=>157|25=>158|26=>159|27=>160|28=>161|29=>162|46=>177|47=>178|48=>179|49=>180|50=>181|57=>182|n=>n,fun|0=>0|3=>3|4=>4|5=>5|9=>9|22=>41|24=>44|25=>128|39=>104|45=>219|46=>220|50=>184|53=>226|55=>228|66=>243|70=>247|76=>249|77=>250|n=>n,fun n=>n⟩
theorem Q6:Go.Proofs.SlLaysF0.n6 Tryz.prog Jk:=⟨by kernel_rfl,⟨Tryz.f52.name,by kernel_rfl,Tryz.func52.trans (congrArg some (by kernel_rfl))⟩,⟨Tryz.f107.name,by kernel_rfl,Tryz.func107.trans (congrArg some (by kernel_rfl))⟩,Tryz.func108.trans (congrArg some (by kernel_rfl)),⟨Tryz.f153.name,by kernel_rfl,Tryz.func153.trans (congrArg some (by kernel_rfl))⟩,⟨Tryz.f154.name,by kernel_rfl,Tryz.func154.trans (congrArg some (by kernel_rfl))⟩,⟨Tryz.f155.name,by kernel_rfl,Tryz.func155.trans (congrArg some (by kernel_rfl))⟩,⟨Tryz.f156.name,by kernel_rfl,Tryz.func156.trans (congrArg some (by kernel_rfl))⟩,⟨Tryz.f157.name,by kernel_rfl,Tryz.func157.trans (congrArg some (by kernel_rfl))⟩,⟨Tryz.f158.name,by kernel_rfl,Tryz.func158.trans (congrArg some (by kernel_rfl))⟩,⟨Tryz.f159.name,by kernel_rfl,Tryz.func159.trans (congrArg some (by kernel_rfl))⟩,⟨Tryz.f160.name,by kernel_rfl,Tryz.func160.trans (congrArg some (by kernel_rfl))⟩,Tryz.func161.trans (congrArg some (by kernel_rfl)),Tryz.func162.trans (congrArg some (by kernel_rfl)),⟨Tryz.f177.name,by kernel_rfl,Tryz.func177.trans (congrArg some (by kernel_rfl))⟩,Tryz.func178.trans (congrArg some (by kernel_rfl)),Tryz.func179.trans (congrArg some (by kernel_rfl)),⟨Tryz.f180.name,by kernel_rfl,Tryz.func180.trans (congrArg some (by kernel_rfl))⟩,⟨Tryz.f181.name,by kernel_rfl,Tryz.func181.trans (congrArg some (by kernel_rfl))⟩,⟨Tryz.f182.name,by kernel_rfl,Tryz.func182.trans (congrArg some (by kernel_rfl))⟩,Tryz.underlying0,Tryz.isAgg0,Tryz.sizeOf0,Tryz.zeroValue0,Tryz.underlying3,Tryz.isAgg3,Tryz.sizeOf3,Tryz.zeroValue3,Tryz.underlying4,Tryz.isAgg4,Tryz.sizeOf4,Tryz.zeroValue4,Tryz.underlying5,Tryz.isAgg5,Tryz.sizeOf5,Tryz.zeroValue5,Tryz.underlying9,Tryz.isAgg9,Tryz.sizeOf9,Tryz.zeroValue9,Tryz.underlying41,Tryz.isAgg41,Tryz.sizeOf41,Tryz.zeroValue41,Tryz.underlying128,Tryz.isAgg128,Tryz.sizeOf128,Tryz.zeroValue128,Tryz.underlying104,Tryz.isAgg104,Tryz.sizeOf104,Tryz.zeroValue104,Tryz.underlying219,Tryz.isAgg219,Tryz.sizeOf219,Tryz.zeroValue219,Tryz.underlying220,Tryz.isAgg220,Tryz.sizeOf220,Tryz.zeroValue220,Tryz.underlying184,Tryz.isAgg184,Tryz.sizeOf184,Tryz.zeroValue184,Tryz.underlying226,Tryz.isAgg226,Tryz.sizeOf226,Tryz.zeroValue226,Tryz.underlying228,Tryz.isAgg228,Tryz.sizeOf228,Tryz.zeroValue228,Tryz.underlying243,Tryz.isAgg243,Tryz.sizeOf243,Tryz.zeroValue243,Tryz.underlying247,Tryz.isAgg247,Tryz.sizeOf247,Tryz.zeroValue247,Tryz.underlying249,Tryz.isAgg249,Tryz.sizeOf249,Tryz.zeroValue249,Tryz.underlying250,Tryz.isAgg250,Tryz.sizeOf250,Tryz.zeroValue250⟩
theorem UR (w:World):(isAgg (Jk.t 24)).run Tryz.prog w= .ok true w:=Tryz.isAgg44 w
theorem SY (w:World):(Go.sizeOf (Jk.t 24)).run Tryz.prog w= .ok 2 w:=Tryz.sizeOf44 w
def Yn:Go.Shelf.Ren:=⟨fun|23=>170|n=>n,fun|0=>0|3=>3|4=>4|22=>36|n=>n,fun n=>n⟩
theorem VJ:Go.Proofs.Lays2.n23 Tryz.prog Yn:=⟨by kernel_rfl,Tryz.func170.trans (congrArg some (by kernel_rfl)),Tryz.underlying0,Tryz.isAgg0,Tryz.sizeOf0,Tryz.zeroValue0,Tryz.underlying3,Tryz.isAgg3,Tryz.sizeOf3,Tryz.zeroValue3,Tryz.underlying4,Tryz.isAgg4,Tryz.sizeOf4,Tryz.zeroValue4,Tryz.underlying36,Tryz.isAgg36,Tryz.sizeOf36,Tryz.zeroValue36,by kernel_rfl⟩
theorem aJ (n:Int) (u0:Int) (u1:Int):iF Tryz.prog 91 [(sI n),(sI u0),(sI u1)] [] (fun r=>(vB r)) (fun _=>[]) (aQ n u0 u1):=
  jr tT mX Tryz.func91 (
  .r<| .r<| .e (bif (decide (u0≤n))then(decide (n≤u1))else false))
section
variable (p:ah)
abbrev k1:List CV:=[(cI p.buses),(.d (bD none 5 Source.cell p.sources)),(.d (bD none 6 Link.cell p.links)),(.d (bD none 4 aS.cell p.racks))]
abbrev k0:List SV:=[(.agg (k1 p))]
end
theorem Cb (p:ah):iF Tryz.prog 93 (k0 p) [] (fun r=>(vD (.fn 140 1 (xN [(Gn [(.int .i64 r.1),(bD none 5 Source.cell r.2.1),(bD none 6 Link.cell r.2.2.1),(bD none 4 aS.cell r.2.2.2)] 0)])))) (fun _=>[]) (uo p):=
  jr tT mX Tryz.func93 (
  .rg {fr:=[(0,1)],fz:=[1]} []<| .r<| .e (p.buses,p.sources,p.links,p.racks))
theorem DC (p:ah):iF Tryz.prog 95 (k0 p) [] (fun r=>(vD (.fn 143 1 (xN [(Gn [(.int .i64 r.1),(bD none 5 Source.cell r.2.1),(bD none 6 Link.cell r.2.2.1),(bD none 4 aS.cell r.2.2.2)] 0)])))) (fun _=>[]) (wN p):=
  jr tT mX Tryz.func95 (
  .rg {fr:=[(0,1)],fz:=[1]} []<| .r<| .e (p.buses,p.sources,p.links,p.racks))
theorem DN (p:ah):iF Tryz.prog 97 (k0 p) [] (fun r=>(vD (.fn 146 1 (xN [(Gn [(.int .i64 r.1),(bD none 5 Source.cell r.2.1),(bD none 6 Link.cell r.2.2.1),(bD none 4 aS.cell r.2.2.2)] 0)])))) (fun _=>[]) (xD p):=
  jr tT mX Tryz.func97 (
  .rg {fr:=[(0,1)],fz:=[1]} []<| .r<| .e (p.buses,p.sources,p.links,p.racks))
section
variable (x:Source) (x1:Int) (u2:(List Source)) (u3:(List Link)) (u4:(List aS)) (r_:Bool) (u0:Bool) (u1:Bool) (u5:Bool) (u6:Bool)
abbrev k2:List CV:=[(cI x.bus),(cI x.kind),(cI x.power),(cI x.sync),(cI x.ohm)]
abbrev k3:DV:=(Gn [(.int .i64 x1),(bD none 5 Source.cell u2),(bD none 6 Link.cell u3),(bD none 4 aS.cell u4)] 0)
abbrev k4:=(IntKind.wrap .i64 (x1 - 1))
abbrev k5:=((bif r_ then u0 else false),true)
abbrev k6:=(bif (bif (bif (bif r_ then u0 else false)then u1 else false)then u5 else false)then u6 else false)
end
theorem zH (x:Source) (x1:Int) (u2:(List Source)) (u3:(List Link)) (u4:(List aS)):iF Tryz.prog 140 [(.agg (k2 x)),(sD (k3 x1 u2 u3 u4))] [] (fun r=>(vB r)) (fun _=>[]) (nA x x1 u2 u3 u4):=
  jr tT mX Tryz.func140 (
  .rg {fr:=[(0,1)],fz:=[1]} []<| .cl 5 (aJ x.bus 0 (k4 x1)) fun r_=> .cg 9 [(r_,true)] (aJ x.kind 1 3) fun u0=> .cg 14 [(k5 r_ u0)] (aJ x.power 1 100000) fun u1=> .cg 19 [((bif (bif r_ then u0 else false)then u1 else false),true)] (aJ x.sync 0 8) fun u5=> .cg 24 [((bif (bif (bif r_ then u0 else false)then u1 else false)then u5 else false),true)] (aJ x.ohm 10 100000) fun u6=> .r<| .e (k6 r_ u0 u1 u5 u6))
section
variable (x1:Int) (u0:(List Source)) (u1:(List Link)) (u2:(List aS))
abbrev k8:=(xN [(k3 x1 u0 u1 u2)])
abbrev k7:DV:=(Gn [(.fn 140 1 (k8 x1 u0 u1 u2))] 0)
end
theorem BU (x:Source) (x1:Int) (u0:(List Source)) (u1:(List Link)) (u2:(List aS)):iF Tryz.prog 139 [(.agg (k2 x)),(sD (k7 x1 u0 u1 u2))] [] (fun r=>(vB r)) (fun _=>[]) (uz x x1 u0 u1 u2):=
  jr tT mX Tryz.func139 (
  .rg {fr:=[(0,1)],fz:=[1]} []<| .cl 2 (zH x x1 u0 u1 u2) fun r_=> .r<| .e (!r_))
section
variable (s_:(List Source)) (f_:Int) (u0:(List Source)) (u1:(List Link)) (u2:(List aS)) (t8:Int)
abbrev k9:List SV:=[(sD (bD none 5 Source.cell s_)),(sD (.fn 139 1 (xN [(k7 f_ u0 u1 u2)])))]
abbrev k10:=(IntKind.wrap .i64 (t8+1))
end
theorem xP (s_:(List Source)) (f_:Int) (u0:(List Source)) (u1:(List Link)) (u2:(List aS)):iF Tryz.prog 172 (k9 s_ f_ u0 u1 u2) [] (fun r=>(vI r)) (fun _=>[]) (oI s_ f_ u0 u1 u2):=
  jr tT mX Tryz.func172 (
  .r<| .r<| .lp (σ:=Int) (β:=Unit) (0) [] [] ⟨[0,1,7],[],fun t8=>[(8,(vI t8))],fun t8=>[]⟩ ⟨[],[],fun _=>[],fun _=>[]⟩
  (fun t8=> .r<| .it (.r<| .cl 5 (BU (at' s_ t8.toNat) f_ u0 u1 u2) fun r_=> .a1 ((0:Int)≤t8∧t8<(s_.length:Int))<| .rg {} [0,1]<| .it (.r<| .e (.done (.ret t8)))
  (.r<| .e (.next (k10 t8))))
  (.e (.done (.brk ()))))
  (fun _=> .r<| .e (-1)))
theorem vo (s_:(List Source)) (f_:Int) (u0:(List Source)) (u1:(List Link)) (u2:(List aS)):iF Tryz.prog 138 (k9 s_ f_ u0 u1 u2) [] (fun r=>(vB r)) (fun _=>[]) (ji s_ f_ u0 u1 u2):=
  jr tT mX Tryz.func138 (
  .r<| .cl 2 (xP s_ f_ u0 u1 u2) fun r_=> .r<| .e (decide (0≤r_)))
theorem DJ (l:(List Source)) (u0:Int) (u1:Int) (u2:(List Source)) (u3:(List Link)) (u4:(List aS)):iF Tryz.prog 92 [(sD (bD none 5 Source.cell l)),(sI u0),(sD (.fn 140 1 (k8 u1 u2 u3 u4)))] [] (fun r=>(vB r)) (fun _=>[]) (rQ l u0 u1 u2 u3 u4):=
  jr tT mX Tryz.func92 (
  .rg {fr:=[(0,1)],fz:=[1]} []<| .cg 7 [((decide ((l.length:Int)≤u0)),true)] (vo l u1 u2 u3 u4) fun r_=> .r<| .e (bif (decide ((l.length:Int)≤u0))then(!r_)else false))
section
variable (x:Link) (u0:Int)
abbrev k11:List CV:=[(cI x.a),(cI x.b),(cI x.kind),(cI x.most),(cI x.ohm),(.d (bD none 2 vN.cell x.trip))]
abbrev k12:=((decide (((at' x.trip u0.toNat).amps)≤((at' x.trip ((k4 u0).toNat)).amps))),false)
end
theorem Bv (x:Link) (x1:Int) (u3:(List Source)) (u4:(List Link)) (u5:(List aS)):iF Tryz.prog 143 [(.agg (k11 x)),(sD (k3 x1 u3 u4 u5))] [] (fun r=>(vB r)) (fun _=>[]) (o9 x x1 u3 u4 u5):=
  jr tT mX Tryz.func143 (
  .rg {fr:=[(0,5)]} []<| .cl 5 (aJ x.a 0 (k4 x1)) fun r_=> .cg 13 [((!r_),false)] (aJ x.b 0 (k4 x1)) fun u1=> .cg 26 [((bif (bif (!r_)then true else(!u1))then true else(decide (x.a=x.b))),false)] (aJ x.kind 1 3) fun u6=> .cg 32 [((bif (bif (bif (!r_)then true else(!u1))then true else(decide (x.a=x.b)))then true else(!u6)),false)] (aJ x.most 1 100000) fun u8=> .cg 38 [((bif (bif (bif (bif (!r_)then true else(!u1))then true else(decide (x.a=x.b)))then true else(!u6))then true else(!u8)),false)] (aJ x.ohm 10 100000) fun u9=> .r<| .it (.r<| .e false)
  (.rg {fz:=[5]} []<| .lp (σ:=Int) (β:=Unit) (0) [] [] ⟨[2,48,49],[],fun u0=>[(50,(vI u0))],fun u0=>[]⟩ ⟨[2],[],fun _=>[],fun _=>[]⟩
  (fun u0=> .r<| .it (.a1 ((0:Int)≤u0∧u0<(x.trip.length:Int))<| .rg {fr:=[(3,9)],fz:=[9]} []<| .cl 2 (aJ ((at' x.trip u0.toNat).amps) 1 1000000) fun u2=> .cg 7 [((!u2),false)] (aJ ((at' x.trip u0.toNat).millis) 1 100000) fun u7=> .a2 ((gB [((decide (0<u0)),true),((bif (!u2)then true else(!u7)),false)]=true→(0:Int)≤(k4 u0)∧(k4 u0)<(x.trip.length:Int))) ((gB [(k12 x u0),((decide (0<u0)),true),((bif (!u2)then true else(!u7)),false)]=true→(0:Int)≤(k4 u0)∧(k4 u0)<(x.trip.length:Int)))<| .rg {} [3,2,0,1]<| .it (.r<| .e (.done (.ret false)))
  (.r<| .e (.next (k10 u0))))
  (.e (.done (.brk ()))))
  (fun _=> .r<| .e (bif (decide ((x.trip.length:Int)≤6))then(bif (decide ((x.trip.length:Int)=0))then true else(decide (x.kind=3)))else false))))
section
variable (x1:Int) (u0:(List Source)) (u1:(List Link)) (u2:(List aS))
abbrev k13:DV:=(Gn [(.fn 143 1 (k8 x1 u0 u1 u2))] 0)
end
theorem yA (x:Link) (x1:Int) (u0:(List Source)) (u1:(List Link)) (u2:(List aS)):iF Tryz.prog 142 [(.agg (k11 x)),(sD (k13 x1 u0 u1 u2))] [] (fun r=>(vB r)) (fun _=>[]) (o5 x x1 u0 u1 u2):=
  jr tT mX Tryz.func142 (
  .rg {fr:=[(0,1)],fz:=[1]} []<| .cl 2 (Bv x x1 u0 u1 u2) fun r_=> .r<| .e (!r_))
section
variable (s_:(List Link)) (f_:Int) (u0:(List Source)) (u1:(List Link)) (u2:(List aS))
abbrev k14:List SV:=[(sD (bD none 6 Link.cell s_)),(sD (.fn 142 1 (xN [(k13 f_ u0 u1 u2)])))]
end
theorem uW (s_:(List Link)) (f_:Int) (u0:(List Source)) (u1:(List Link)) (u2:(List aS)):iF Tryz.prog 173 (k14 s_ f_ u0 u1 u2) [] (fun r=>(vI r)) (fun _=>[]) (lY s_ f_ u0 u1 u2):=
  jr tT mX Tryz.func173 (
  .r<| .r<| .lp (σ:=Int) (β:=Unit) (0) [] [] ⟨[0,1,7],[],fun t8=>[(8,(vI t8))],fun t8=>[]⟩ ⟨[],[],fun _=>[],fun _=>[]⟩
  (fun t8=> .r<| .it (.r<| .cl 5 (yA (at' s_ t8.toNat) f_ u0 u1 u2) fun r_=> .a1 ((0:Int)≤t8∧t8<(s_.length:Int))<| .rg {} [0,1]<| .it (.r<| .e (.done (.ret t8)))
  (.r<| .e (.next (k10 t8))))
  (.e (.done (.brk ()))))
  (fun _=> .r<| .e (-1)))
theorem rP (s_:(List Link)) (f_:Int) (u0:(List Source)) (u1:(List Link)) (u2:(List aS)):iF Tryz.prog 141 (k14 s_ f_ u0 u1 u2) [] (fun r=>(vB r)) (fun _=>[]) (gI s_ f_ u0 u1 u2):=
  jr tT mX Tryz.func141 (
  .r<| .cl 2 (uW s_ f_ u0 u1 u2) fun r_=> .r<| .e (decide (0≤r_)))
theorem Ba (l:(List Link)) (u0:Int) (u1:Int) (u2:(List Source)) (u3:(List Link)) (u4:(List aS)):iF Tryz.prog 94 [(sD (bD none 6 Link.cell l)),(sI u0),(sD (.fn 143 1 (k8 u1 u2 u3 u4)))] [] (fun r=>(vB r)) (fun _=>[]) (pF l u0 u1 u2 u3 u4):=
  jr tT mX Tryz.func94 (
  .rg {fr:=[(0,1)],fz:=[1]} []<| .cg 7 [((decide ((l.length:Int)≤u0)),true)] (rP l u1 u2 u3 u4) fun r_=> .r<| .e (bif (decide ((l.length:Int)≤u0))then(!r_)else false))
section
variable (x:aS)
abbrev k15:List CV:=[(cI x.feeds.e0),(cI x.feeds.e1),(cI x.power),(cI x.paths)]
end
theorem Cj (x:aS):iF Tryz.prog 147 [(.agg (k15 x))] [] (fun r=>(vI r)) (fun _=>[]) (qL x):=
  jr tT mX Tryz.func147 (
  .rg {fr:=[(0,1)],fz:=[1]} []<| .rg {} [.pf ⟨(0:Int)≤1∧(1:Int)<(2:Nat),(by decide)⟩]<| .it (.r<| .e 1)
  (.r<| .e 2))
section
variable (r_:Bool) (u0:Bool) (x:aS) (u1:Bool)
abbrev k17:=(bif (bif (bif r_ then u0 else false)then(!decide (x.feeds.e0=x.feeds.e1))else false)then u1 else false)
abbrev k16:=((k17 r_ u0 x u1),true)
end
theorem Bc (x:aS) (x1:Int) (u2:(List Source)) (u3:(List Link)) (u4:(List aS)):iF Tryz.prog 146 [(.agg (k15 x)),(sD (k3 x1 u2 u3 u4))] [] (fun r=>(vB r)) (fun _=>[]) (qf x x1 u2 u3 u4):=
  jr tT mX Tryz.func146 (
  .rg {fr:=[(0,1)],fz:=[1]} []<| .rg {} [.pf ⟨(0:Int)≤0∧(0:Int)<(2:Nat),(by decide)⟩, .pf ⟨(0:Int)≤1∧(1:Int)<(2:Nat),(by decide)⟩]<| .cl 4 (aJ x.feeds.e0 0 (k4 x1)) fun r_=> .cg 10 [(r_,true)] (aJ x.feeds.e1 (-1) (k4 x1)) fun u0=> .cg 20 [((bif (bif r_ then u0 else false)then(!decide (x.feeds.e0=x.feeds.e1))else false),true)] (aJ x.power 1 100000) fun u1=> .cg 26 [(k16 r_ u0 x u1)] (Cj x) fun u5=> .cg 27 [(k16 r_ u0 x u1)] (aJ x.paths 0 u5) fun u6=> .r<| .e (bif (k17 r_ u0 x u1)then u6 else false))
section
variable (x1:Int) (u0:(List Source)) (u1:(List Link)) (u2:(List aS))
abbrev k18:DV:=(Gn [(.fn 146 1 (k8 x1 u0 u1 u2))] 0)
end
theorem yt (x:aS) (x1:Int) (u0:(List Source)) (u1:(List Link)) (u2:(List aS)):iF Tryz.prog 145 [(.agg (k15 x)),(sD (k18 x1 u0 u1 u2))] [] (fun r=>(vB r)) (fun _=>[]) (pz x x1 u0 u1 u2):=
  jr tT mX Tryz.func145 (
  .rg {fr:=[(0,1)],fz:=[1]} []<| .cl 2 (Bc x x1 u0 u1 u2) fun r_=> .r<| .e (!r_))
section
variable (s_:(List aS)) (f_:Int) (u0:(List Source)) (u1:(List Link)) (u2:(List aS))
abbrev k19:List SV:=[(sD (bD none 4 aS.cell s_)),(sD (.fn 145 1 (xN [(k18 f_ u0 u1 u2)])))]
end
theorem vE (s_:(List aS)) (f_:Int) (u0:(List Source)) (u1:(List Link)) (u2:(List aS)):iF Tryz.prog 174 (k19 s_ f_ u0 u1 u2) [] (fun r=>(vI r)) (fun _=>[]) (lW s_ f_ u0 u1 u2):=
  jr tT mX Tryz.func174 (
  .r<| .r<| .lp (σ:=Int) (β:=Unit) (0) [] [] ⟨[0,1,7],[],fun t8=>[(8,(vI t8))],fun t8=>[]⟩ ⟨[],[],fun _=>[],fun _=>[]⟩
  (fun t8=> .r<| .it (.r<| .cl 5 (yt (⟨((at' s_ t8.toNat).feeds),(at' s_ t8.toNat).power,(at' s_ t8.toNat).paths⟩:aS) f_ u0 u1 u2) fun r_=> .a1 ((0:Int)≤t8∧t8<(s_.length:Int))<| .rg {} [0,1]<| .it (.r<| .e (.done (.ret t8)))
  (.r<| .e (.next (k10 t8))))
  (.e (.done (.brk ()))))
  (fun _=> .r<| .e (-1)))
theorem rY (s_:(List aS)) (f_:Int) (u0:(List Source)) (u1:(List Link)) (u2:(List aS)):iF Tryz.prog 144 (k19 s_ f_ u0 u1 u2) [] (fun r=>(vB r)) (fun _=>[]) (gH s_ f_ u0 u1 u2):=
  jr tT mX Tryz.func144 (
  .r<| .cl 2 (vE s_ f_ u0 u1 u2) fun r_=> .r<| .e (decide (0≤r_)))
theorem AZ (l:(List aS)) (u0:Int) (u1:Int) (u2:(List Source)) (u3:(List Link)) (u4:(List aS)):iF Tryz.prog 96 [(sD (bD none 4 aS.cell l)),(sI u0),(sD (.fn 146 1 (k8 u1 u2 u3 u4)))] [] (fun r=>(vB r)) (fun _=>[]) (pR l u0 u1 u2 u3 u4):=
  jr tT mX Tryz.func96 (
  .rg {fr:=[(0,1)],fz:=[1]} []<| .cg 7 [((decide ((l.length:Int)≤u0)),true)] (rY l u1 u2 u3 u4) fun r_=> .r<| .e (bif (decide ((l.length:Int)≤u0))then(!r_)else false))
theorem wH (p:ah):iF Tryz.prog 46 (k0 p) [] (fun r=>(vI r)) (fun _=>[]) (ou p):=
  jr tT mX Tryz.func46 (
  .rg {fr:=[(0,1)],fz:=[1]} []<| .cl 2 (aJ p.buses 1 24) fun r_=> .r<| .it (.r<| .e 10)
  (.cl 3 (Cb p) fun u0=> .cl 4 (DJ p.sources 8 u0.1 u0.2.1 u0.2.2.1 u0.2.2.2) fun u3=> .r<| .it (.r<| .e 11)
  (.cl 3 (DC p) fun u1=> .cl 4 (Ba p.links 40 u1.1 u1.2.1 u1.2.2.1 u1.2.2.2) fun u4=> .r<| .it (.r<| .e 12)
  (.cl 3 (DN p) fun u2=> .cl 4 (AZ p.racks 24 u2.1 u2.2.1 u2.2.2.1 u2.2.2.2) fun u5=> .r<| .it (.r<| .e 13)
  (.r<| .e 0)))))
section
variable (s_:State) (p:ah) (u0:Int)
abbrev k22:DV:=(bD none 1 af s_.badSource)
abbrev k21:List CV:=[(.d (bD none 1 af s_.closed)),(.d (bD none 1 af s_.locked)),(.d (bD none 1 af s_.badLink)),(.d (bD none 1 af s_.on_)),(.d (k22 s_)),(.d (bD none 1 af s_.earthed)),(.d (bD none 1 af s_.badBus))]
abbrev k20:List SV:=[(.agg (k1 p)),(.agg (k21 s_))]
abbrev k23:=(⟨s_.closed,(p.links.length:Int)⟩:bZ)
abbrev k24:=(⟨s_.locked,(p.links.length:Int)⟩:bZ)
abbrev k25:=(⟨s_.badLink,(p.links.length:Int)⟩:bZ)
abbrev k26:=(⟨s_.on_,(p.sources.length:Int)⟩:bZ)
abbrev k27:=(⟨s_.badSource,(p.sources.length:Int)⟩:bZ)
abbrev k28:=(av bZ.cell [(k23 s_ p),(k24 s_ p),(k25 s_ p),(k26 s_ p),(k27 s_ p),(⟨s_.earthed,p.buses⟩:bZ),(⟨s_.badBus,p.buses⟩:bZ)])
abbrev k29:=((0:Int)≤u0∧u0<(p.links.length:Int))
abbrev k30:=((gB [((decide (((at' p.links u0.toNat).kind)=1)),true)]=true→(0:Int)≤u0∧u0<(s_.closed.length:Int)))
abbrev k31:=((gB [((!(at' s_.closed u0.toNat)),false),((decide (((at' p.links u0.toNat).kind)=1)),true)]=true→(0:Int)≤u0∧u0<(s_.locked.length:Int)))
end
theorem dz (p:ah) (s_:State):iF Tryz.prog 10 (k20 s_ p) [] (fun r=>(vI r)) (fun _=>[]) (cK p s_):=
  jr tT mX Tryz.func10 (
  .rg {fr:=[(0,11),(1,12)]} []<| .cl 1 (wH p) fun r_=> .r<| .r<| .it (.r<| .e r_)
  (.r<| .rg {an:=[(30, .arr [(k23 s_ p),(k24 s_ p),(k25 s_ p),(k26 s_ p),(k27 s_ p),(⟨s_.earthed,p.buses⟩:bZ),(⟨s_.badBus,p.buses⟩:bZ)].length (k28 s_ p))],fr:=[(30,13)],fz:=[12]} [.pf ⟨[(k23 s_ p),(k24 s_ p),(k25 s_ p),(k26 s_ p),(k27 s_ p),(⟨s_.earthed,p.buses⟩:bZ),(⟨s_.badBus,p.buses⟩:bZ)].length=7,rfl⟩, .pf ⟨aG 7 2 (nk 2 [(bD none 1 af s_.closed),(.int .i64 (p.links.length:Int)),(bD none 1 af s_.locked),(.int .i64 (p.links.length:Int)),(bD none 1 af s_.badLink),(.int .i64 (p.links.length:Int)),(bD none 1 af s_.on_),(.int .i64 (p.sources.length:Int)),(k22 s_),(.int .i64 (p.sources.length:Int)),(bD none 1 af s_.earthed),(.int .i64 p.buses),(bD none 1 af s_.badBus),(.int .i64 p.buses)]) (k28 s_ p),(by intro i hi j hj;match i,j,hi,hj with|0,0,_,_=>rfl|0,1,_,_=>rfl|1,0,_,_=>rfl|1,1,_,_=>rfl|2,0,_,_=>rfl|2,1,_,_=>rfl|3,0,_,_=>rfl|3,1,_,_=>rfl|4,0,_,_=>rfl|4,1,_,_=>rfl|5,0,_,_=>rfl|5,1,_,_=>rfl|6,0,_,_=>rfl|6,1,_,_=>rfl)⟩]<| .lp (σ:=Int) (β:=Unit) (0) [] [] ⟨[2,3,53,54],[11,13],fun u1=>[(55,(vI u1))],fun u1=>[]⟩ ⟨[2,3],[11],fun _=>[],fun _=>[]⟩
  (fun u1=> .r<| .it (.a1 ((0:Int)≤u1∧u1<([(k23 s_ p),(k24 s_ p),(k25 s_ p),(k26 s_ p),(k27 s_ p),(⟨s_.earthed,p.buses⟩:bZ),(⟨s_.badBus,p.buses⟩:bZ)].length:Int))<| .rg {fr:=[(2,17)],fz:=[17]} [0, .t 0 u1 ([(k23 s_ p),(k24 s_ p),(k25 s_ p),(k26 s_ p),(k27 s_ p),(⟨s_.earthed,p.buses⟩:bZ),(⟨s_.badBus,p.buses⟩:bZ)].length)]<| .r<| .it (.r<| .e (.done (.ret 9)))
  (.r<| .e (.next (k10 u1))))
  (.e (.done (.brk ()))))
  (fun _=> .r<| .lp (σ:=Int) (β:=Unit) (0) [] [] ⟨[3,67,68],[],fun u0=>[(69,(vI u0))],fun u0=>[]⟩ ⟨[],[],fun _=>[],fun _=>[]⟩
  (fun u0=> .r<| .it (.a1 (k29 p u0)<| .rg {fr:=[(3,21)],fz:=[21]} []<| .a2 (k30 s_ p u0) (k31 s_ p u0)<| .rg {} [0,1]<| .it (.r<| .e (.done (.ret 9)))
  (.r<| .e (.next (k10 u0))))
  (.e (.done (.brk ()))))
  (fun _=> .r<| .e 0))))
theorem mW (i:Int) (x1:Int) (u1:(List Source)) (u0:(List Link)) (u2:(List aS)):iF Tryz.prog 98 [(sI i),(sD (k3 x1 u1 u0 u2))] [] (fun r=>(vB r)) (fun _=>[]) (eU i x1 u1 u0 u2):=
  jr tT mX Tryz.func98 (
  .r<| .a1 ((gB [((bif (decide (0≤i))then(decide (i<(u0.length:Int)))else false),true)]=true→(0:Int)≤i∧i<(u0.length:Int)))<| .r<| .e (bif (bif (decide (0≤i))then(decide (i<(u0.length:Int)))else false)then(!decide (((at' u0 i.toNat).kind)=1))else false))
section
variable (x2:Int) (u0:(List Source)) (u1:(List Link)) (u2:(List aS))
abbrev k32:DV:=(Gn [(.fn 98 1 (k8 x2 u0 u1 u2))] 0)
end
theorem tQ (x:Transfer) (x1:Int) (u3:(List Source)) (u4:(List Link)) (u5:(List aS)) (x2:Int) (u0:(List Source)) (u1:(List Link)) (u2:(List aS)):iF Tryz.prog 100 [(.agg [(cI x.watch),(cI x.open_),(cI x.close)]),(sD (k3 x1 u3 u4 u5)),(sD (k32 x2 u0 u1 u2))] [] (fun r=>(vB r)) (fun _=>[]) (gY x x1 u3 u4 u5 x2 u0 u1 u2):=
  jr tT mX Tryz.func100 (
  .rg {fr:=[(0,1)],fz:=[1]} []<| .cg 14 [((bif (decide (x.watch<0))then true else(decide (x1≤x.watch))),false)] (mW x.close x2 u0 u1 u2) fun r_=> .cg 25 [((!decide (x.open_=(-1))),true),((bif (bif (decide (x.watch<0))then true else(decide (x1≤x.watch)))then true else(!r_)),false)] (mW x.open_ x2 u0 u1 u2) fun u6=> .r<| .e (bif (bif (bif (decide (x.watch<0))then true else(decide (x1≤x.watch)))then true else(!r_))then true else(bif (!decide (x.open_=(-1)))then(bif (!u6)then true else(decide (x.open_=x.close)))else false)))
section
variable (s_:(List Transfer)) (f_:Int) (u0:(List Source)) (u1:(List Link)) (u2:(List aS)) (u3:Int) (u4:(List Source)) (u5:(List Link)) (u6:(List aS)) (t8:Int)
abbrev O1:DV:=(bD none 3 Transfer.cell s_)
abbrev k33:List SV:=[(sD (O1 s_)),(sD (.fn 100 2 (xN [(k3 f_ u0 u1 u2),(k32 u3 u4 u5 u6)])))]
abbrev k35:=((0:Int)≤t8∧t8<(s_.length:Int))
end
theorem vg (s_:(List Transfer)) (f_:Int) (u0:(List Source)) (u1:(List Link)) (u2:(List aS)) (u3:Int) (u4:(List Source)) (u5:(List Link)) (u6:(List aS)):iF Tryz.prog 148 (k33 s_ f_ u0 u1 u2 u3 u4 u5 u6) [] (fun r=>(vI r)) (fun _=>[]) (lX s_ f_ u0 u1 u2 u3 u4 u5 u6):=
  jr tT mX Tryz.func148 (
  .r<| .r<| .lp (σ:=Int) (β:=Unit) (0) [] [] ⟨[0,1,7],[],fun t8=>[(8,(vI t8))],fun t8=>[]⟩ ⟨[],[],fun _=>[],fun _=>[]⟩
  (fun t8=> .r<| .it (.r<| .cl 5 (tQ (at' s_ t8.toNat) f_ u0 u1 u2 u3 u4 u5 u6) fun r_=> .a1 (k35 s_ t8)<| .rg {} [0,1]<| .it (.r<| .e (.done (.ret t8)))
  (.r<| .e (.next (k10 t8))))
  (.e (.done (.brk ()))))
  (fun _=> .r<| .e (-1)))
theorem tq (s_:(List Transfer)) (f_:Int) (u0:(List Source)) (u1:(List Link)) (u2:(List aS)) (u3:Int) (u4:(List Source)) (u5:(List Link)) (u6:(List aS)):iF Tryz.prog 99 (k33 s_ f_ u0 u1 u2 u3 u4 u5 u6) [] (fun r=>(vB r)) (fun _=>[]) (gX s_ f_ u0 u1 u2 u3 u4 u5 u6):=
  jr tT mX Tryz.func99 (
  .r<| .cl 2 (vg s_ f_ u0 u1 u2 u3 u4 u5 u6) fun r_=> .r<| .e (decide (0≤r_)))
section
variable (p:ah) (s_:State) (l:(List Transfer))
abbrev ZO:List SV:=[(.agg (k1 p)),(.agg (k21 s_)),(sD (O1 l))]
end
theorem gJ (p:ah) (s_:State) (l:(List Transfer)):iF Tryz.prog 48 (ZO p s_ l) [] (fun r=>(vI r)) (fun _=>[]) (dD p s_ l):=
  jr tT mX Tryz.func48 (
  .rg {fr:=[(0,3),(1,4)],fz:=[4]} []<| .cl 2 (dz p s_) fun r_=> .r<| .r<| .it (.r<| .e r_)
  (.rg {fr:=[(1,5)],fz:=[3]} []<| .fz [5]<| .cg 6 [((decide (16<(l.length:Int))),false)] (tq l p.buses p.sources p.links p.racks p.buses p.sources p.links p.racks) fun u0=> .r<| .it (.r<| .e 1)
  (.r<| .e 0)))
section
variable (s_:(List Bool))
abbrev k37:=(av af (([]:List Bool)++s_))
end
theorem qV (s_:(List Bool)) (u0:Bool):iF Tryz.prog 101 [(sD (bD (some u0) 1 af s_))] [] (fun r=>(vO 0 false r.length)) (fun r=>[(0,some (bn 4 1 af r))]) (sV s_ u0):=
  jr tT mX Tryz.func101 (
  .r<| .r<| .it (.r<| .im (.ad 2 2 4 1 (av af ([]:List Bool)))<| .en ([]:List Bool) [] [(2,0)])
  (.a2 ((([]:List Bool).length+s_.length)*1≤140737488355328) (([]:List Bool).length+s_.length≤4611686018427387904)<| .rg {an:=[(0, .arr ([]:List Bool).length (av af ([]:List Bool))),(2, .arr (([]:List Bool)++s_).length (k37 s_))],fr:=[(0,3),(2,4)]} [.pf ⟨([]:List Bool).length=0,rfl⟩, .pf ⟨aG 0 1 (nk 1 []) (av af ([]:List Bool)),(fun i hi=>absurd hi (Nat.not_lt_zero i))⟩, .e (([]:List Bool).length),0,1, .pf ⟨(([]:List Bool)++s_).length=([]:List Bool).length+s_.length,List.length_append⟩, .pf ⟨aG (([]:List Bool).length+s_.length) 1 (qi (av af ([]:List Bool)) ([]:List Bool).length (av af s_)) (k37 s_),dm _ _ _ _⟩]<| .en (([]:List Bool)++s_) [] [(4,0)]))
theorem aN (s:(List Bool)) {r:(List Bool)} (h:aY s=some r):Fn Tryz.prog 101 [(sD (bD none 1 af s))] [] (vO 0 false r.length) [(0,some (bn 4 1 af r))]:=by
 refine Fn.nn (qV s true h) fun hl=> ?_
 have hs:s=[]:=List.eq_nil_of_length_eq_zero hl
 subst hs
 exact qV [] false (by rw [←h];kernel_rfl)
section
variable (s_:State) (r_:(List Bool)) (u0:(List Bool)) (u1:(List Bool)) (u2:(List Bool)) (u3:(List Bool)) (u4:(List Bool)) (u5:(List Bool))
abbrev k38:List SV:=[(.agg (k21 s_))]
abbrev VG:=(⟨r_,u0,u1,u2,u3,u4,u5⟩:State)
end
theorem yS (s_:State):iF Tryz.prog 49 (k38 s_) [] (fun r=>(.v (.agg [(.own 0 false r.closed.length),(.own 1 false r.locked.length),(.own 2 false r.badLink.length),(.own 3 false r.on_.length),(.own 4 false r.badSource.length),(.own 5 false r.earthed.length),(.own 6 false r.badBus.length)]))) (fun r=>[(0,some (bn 4 1 af r.closed)),(1,some (bn 4 1 af r.locked)),(2,some (bn 4 1 af r.badLink)),(3,some (bn 4 1 af r.on_)),(4,some (bn 4 1 af r.badSource)),(5,some (bn 4 1 af r.earthed)),(6,some (bn 4 1 af r.badBus)),(7,none)]) (pI s_):=
  jr tT mX Tryz.func49 (
  .rg {fr:=[(0,10),(1,11)]} []<| .rg {an:=[(7, .cells)],fr:=[(7,12)]} []<| .ul 11<| .r<| .t<| .a1 ((0:Int)≤0∧0<(7:Int))<| .r<| .cl 4 (qh [(0,13)] ⟨fun h=>aN s_.closed h⟩) fun r_=> .r<| .r<| .im (.dp [1,2,12,13,14])<| .r<| .t<| .a1 ((0:Int)≤1∧1<(7:Int))<| .r<| .cl 4 (qh [(0,14)] ⟨fun h=>aN s_.locked h⟩) fun u0=> .r<| .r<| .im (.dp [1,2,12,13,14])<| .r<| .t<| .a1 ((0:Int)≤2∧2<(7:Int))<| .r<| .cl 4 (qh [(0,15)] ⟨fun h=>aN s_.badLink h⟩) fun u1=> .r<| .r<| .im (.dp [1,2,12,13,14])<| .r<| .t<| .a1 ((0:Int)≤3∧3<(7:Int))<| .r<| .cl 4 (qh [(0,16)] ⟨fun h=>aN s_.on_ h⟩) fun u2=> .r<| .r<| .im (.dp [1,2,12,13,14])<| .r<| .t<| .a1 ((0:Int)≤4∧4<(7:Int))<| .r<| .cl 4 (qh [(0,17)] ⟨fun h=>aN s_.badSource h⟩) fun u3=> .r<| .r<| .im (.dp [1,2,12,13,14])<| .r<| .t<| .a1 ((0:Int)≤5∧5<(7:Int))<| .r<| .cl 4 (qh [(0,18)] ⟨fun h=>aN s_.earthed h⟩) fun u4=> .r<| .r<| .im (.dp [1,2,12,13,14])<| .r<| .t<| .a1 ((0:Int)≤6∧6<(7:Int))<| .r<| .cl 4 (qh [(0,19)] ⟨fun h=>aN s_.badBus h⟩) fun u5=> .r<| .r<| .im (.dp [1,2,12,13,14])<| .r<| .f<| .r<| .en (VG r_ u0 u1 u2 u3 u4 u5) [] [(13,0),(14,1),(15,2),(16,3),(17,4),(18,5),(19,6),(11,7)])
section
variable (s_:State)
abbrev k40:List CV:=[(.own 0 false s_.closed.length),(.own 1 false s_.locked.length),(.own 2 false s_.badLink.length),(.own 3 false s_.on_.length),(.own 4 false s_.badSource.length),(.own 5 false s_.earthed.length),(.own 6 false s_.badBus.length)]
abbrev WE:Nat × Option Ob:=(0,some (bn 4 1 af s_.closed))
abbrev Ll:Nat × Option Ob:=(1,some (bn 4 1 af s_.locked))
abbrev KF:Nat × Option Ob:=(2,some (bn 4 1 af s_.badLink))
abbrev Kh:Nat × Option Ob:=(3,some (bn 4 1 af s_.on_))
abbrev LB:Nat × Option Ob:=(4,some (bn 4 1 af s_.badSource))
abbrev KH:Nat × Option Ob:=(5,some (bn 4 1 af s_.earthed))
abbrev Ky:Nat × Option Ob:=(6,some (bn 4 1 af s_.badBus))
abbrev k41:List (Nat × Option Ob):=[(WE s_),(Ll s_),(KF s_),(Kh s_),(LB s_),(KH s_),(Ky s_)]
end
theorem yL (p:ah) (s_:State) (l:(List Transfer)):iF Tryz.prog 50 [(.agg (k1 p)),(.agg (k40 s_)),(sD (O1 l))] (k41 s_) (fun r=>(.v (.one (.fn 102 0 3 (Sm [(.d (Gn [(bD none 3 Transfer.cell r.1)] 0)),(.d (Gn [(.int .i64 r.2.1),(bD none 5 Source.cell r.2.2.1),(bD none 6 Link.cell r.2.2.2.1),(bD none 4 aS.cell r.2.2.2.2.1)] 0)),(.ptr 7 0)]))))) (fun r=>[(WE s_),(Ll s_),(KF s_),(Kh s_),(LB s_),(KH s_),(Ky s_),(7,some (.cells 29 (k40 s_)))]) (pJ p s_ l):=
  jr tT mX Tryz.func50 (
  .rg {fr:=[(0,10),(1,11),(2,12)],fz:=[10,12]} []<| .r<| .en (l,p.buses,p.sources,p.links,p.racks,s_) [] [(11,7)])
noncomputable def jJ:jA:=⟨[28,29],Qa ([1,1,1,1,0,1,0]++[0]) (wV Tryz.f13),Qa ([1,1,1,1,0,1,0]++[1]) (wV Tryz.f13),37,[]⟩
theorem xV (p:ah) (s_:State):iF Tryz.prog 104 (k20 s_ p) [] (fun r=>(vD (.fn 152 2 (xN [(Gn [(.int .i64 r.1),(bD none 5 Source.cell r.2.1),(bD none 6 Link.cell r.2.2.1),(bD none 4 aS.cell r.2.2.2.1)] 0),(Gn [(bD none 1 af r.2.2.2.2.1),(bD none 1 af r.2.2.2.2.2.1),(bD none 1 af r.2.2.2.2.2.2.1),(bD none 1 af r.2.2.2.2.2.2.2.1),(bD none 1 af r.2.2.2.2.2.2.2.2.1),(bD none 1 af r.2.2.2.2.2.2.2.2.2.1),(bD none 1 af r.2.2.2.2.2.2.2.2.2.2)] 0)])))) (fun _=>[]) (kT p s_):=
  jr tT mX Tryz.func104 (
  .rg {fr:=[(0,2),(1,3)],fz:=[2,3]} []<| .r<| .e (p.buses,p.sources,p.links,p.racks,s_.closed,s_.locked,s_.badLink,s_.on_,s_.badSource,s_.earthed,s_.badBus))
noncomputable def sW:jA:=⟨[22],Qa ([1,1,0,1,0]++[0]) (wV Tryz.f51),Qa ([1,1,0,1,0]++[1]) (wV Tryz.f51),125,[]⟩
section
variable (g:bg)
abbrev k49:List (Nat × Option Ob):=[(0,some (IY 3 3 false false 1 1 (aH .i64) (aH .i64) g.head))]
end
theorem gV (g:bg) (x:Int):iF Tryz.prog 106 [(.agg [(.mp 0)]),(sI x)] (k49 g) (fun r=>(vI r)) (fun r=>(k49 g)) (cu g x):=
  jr tT mX Tryz.func106 (
  .rg {fr:=[(0,2)]} []<| .lp (σ:=Int) (β:=Unit) (x) [] [] ⟨[2],[0,2],fun x1=>[(1,(vI x1))],fun x1=>[]⟩ ⟨[],[],fun _=>[],fun _=>[]⟩
  (fun x1=> .rg {an:=[(3, .look (aW bX x1 g.head).isSome [(cI ((aW bX x1 g.head).getD 0))])]} [.pf ⟨kZ [some .i64] 1 1 g.head.length (xU (aH .i64) g.head) (xX (aH .i64) g.head) [(.int .i64 x1)] [(.d (.int .i64 0))] (aW bX x1 g.head).isSome [(cI ((aW bX x1 g.head).getD 0))],lJ (fun _=>rfl) (fun _ _=>rfl) g.head x1 0 rfl rfl rfl⟩]<| .r<| .it (.r<| .e (.done (.ret x1)))
  (.r<| .e (.next ((aW bX x1 g.head).getD 0))))
  (fun _=> .no))
theorem wZ (g:bg) (a:Int) (b:Int):iF Tryz.prog 105 [(.agg [(.mp 0)]),(sI a),(sI b)] (k49 g) (fun r=>(.fe [])) (fun r=>[(0,some (IY 3 3 false false 1 1 (aH .i64) (aH .i64) r))]) (j5 g a b):=
  jr tT mX Tryz.func105 (
  .rg {fr:=[(0,2)]} []<| .cr 2 (gV g a) fun r_=> .cr 5 (gV g b) fun u0=> .r<| .r<| .it (.rg {an:=[(4, .map (fH bX r_ u0 g.head).length (xU (aH .i64) (fH bX r_ u0 g.head)) (xX (aH .i64) (fH bX r_ u0 g.head)) [])]} [.pf ⟨rz [some .i64] 1 1 g.head.length (xU (aH .i64) g.head) (xX (aH .i64) g.head) [(.int .i64 r_)] [(cI u0)] [] (fH bX r_ u0 g.head).length (xU (aH .i64) (fH bX r_ u0 g.head)) (xX (aH .i64) (fH bX r_ u0 g.head)),EL (fun _=>rfl) (fun _ _=>rfl) g.head r_ u0 rfl rfl⟩]<| .e (fH bX r_ u0 g.head))
  (.e g.head))
section
variable (o_:bg)
abbrev k51:Nat × Option Ob:=(0,some (.loop sW 0 [(5,(vP 1 0))]))
abbrev k50:List (Nat × Option Ob):=[k51,(1,some (.cells 178 [(.mp 2)])),(2,some (IY 3 3 false false 1 1 (aH .i64) (aH .i64) o_.head))]
end
theorem vW (u0:Int) (u1:Int) (u2:Int) (u3:Int) (u4:Int) (u5:(List vN)) (o_:bg):Ye Tryz.prog 0 [(.agg [(cI u0),(cI u1),(cI u2),(cI u3),(cI u4),(.d (bD none 2 vN.cell u5))])] (k50 o_) (fun _=>vB true) (fun r=>[k51,(1,some (.cells 178 [(.mp 2)])),(2,some (IY 3 3 false false 1 1 (aH .i64) (aH .i64) r.head))]) (mO u0 u1 u2 u3 u4 u5 o_):=
  scY tT mX sW ⟨[5],[0,1,2],fun _=>[(6,(vD (Gn [(.int .i64 u0),(.int .i64 u1),(.int .i64 u2),(.int .i64 u3),(.int .i64 u4),(bD none 2 vN.cell u5)] 0)))],fun _=>[]⟩ (.rg {fr:=[(0,4)],fz:=[4]} []<| .e ())
  (.cl 5 (qh [(0,2)] (wZ o_ u0 u1)) fun r_=> .r<| .e (⟨r_⟩:bg))
section
variable (x2:(List Bool)) (u6:(List Bool)) (u2:(List Bool)) (u7:(List Bool)) (u8:(List Bool)) (u9:(List Bool)) (u1:(List Bool)) (t9:Int) (u0:(List Link))
abbrev XV:DV:=(Gn [(bD none 1 af x2),(bD none 1 af u6),(bD none 1 af u2),(bD none 1 af u7),(bD none 1 af u8),(bD none 1 af u9),(bD none 1 af u1)] 0)
abbrev k53:=(bif (bif (at' x2 t9.toNat)then(!(at' u2 t9.toNat))else false)then(!(at' u1 (((at' u0 t9.toNat).a).toNat)))else false)
abbrev YD:=((0:Int)≤t9∧t9<(x2.length:Int))
abbrev k55:=((gB [((bif (at' x2 t9.toNat)then(!(at' u2 t9.toNat))else false),true)]=true→(0:Int)≤(at' u0 t9.toNat).a∧(at' u0 t9.toNat).a<(u1.length:Int)))
abbrev k56:=((gB [((k53 x2 u2 u1 t9 u0),true)]=true→(0:Int)≤(at' u0 t9.toNat).b∧(at' u0 t9.toNat).b<(u1.length:Int)))
end
theorem vV (x1:Int) (u4:(List Source)) (u0:(List Link)) (u5:(List aS)) (x2:(List Bool)) (u6:(List Bool)) (u2:(List Bool)) (u7:(List Bool)) (u8:(List Bool)) (u9:(List Bool)) (u1:(List Bool)) (o_:bg):iF Tryz.prog 152 [(.one (.yl 0)),(sD (k3 x1 u4 u0 u5)),(sD (XV x2 u6 u2 u7 u8 u9 u1))] (k50 o_) (fun r=>(.fe [])) (fun r=>[k51,(1,some (.cells 178 [(.mp 2)])),(2,some (IY 3 3 false false 1 1 (aH .i64) (aH .i64) r.head))]) (mU x1 u4 u0 u5 x2 u6 u2 u7 u8 u9 u1 o_):=
  jr tT mX Tryz.func152 (
  .r<| .lp (σ:=((List (Int × Int)) × Int)) (β:=(List (Int × Int))) (o_.head,0) [] [] ⟨[0,2,7,8],[0,1],fun(u3,t9)=>[(9,(vI t9))],fun(u3,t9)=>[(2,some (IY 3 3 false false 1 1 (aH .i64) (aH .i64) u3))]⟩ ⟨[],[0,1],fun o501=>[],fun o501=>[(2,some (IY 3 3 false false 1 1 (aH .i64) (aH .i64) o501))]⟩
  (fun(u3,t9)=> .r<| .it (.a1 ((0:Int)≤t9∧t9<(u0.length:Int))<| .rg {fr:=[(3,10)],fz:=[10]} []<| .fk (bif (k53 x2 u2 u1 t9 u0)then(!(at' u1 (((at' u0 t9.toNat).b).toNat)))else false) (.cy 34 (vW ((at' u0 t9.toNat).a) ((at' u0 t9.toNat).b) ((at' u0 t9.toNat).kind) ((at' u0 t9.toNat).most) ((at' u0 t9.toNat).ohm) ((at' u0 t9.toNat).trip) (⟨u3⟩:bg)) fun r_=> .a4 (YD x2 t9) ((gB [((at' x2 t9.toNat),true)]=true→(0:Int)≤t9∧t9<(u2.length:Int))) (k55 x2 u2 u1 t9 u0) (k56 x2 u2 u1 t9 u0)<| .rg {ov:=[(31,true,5)]} [0,1,2,3, .k 4]<| .f<| .r<| .e (.next (r_.head,(k10 t9))))
  (.a4 (YD x2 t9) ((gB [((at' x2 t9.toNat),true)]=true→(0:Int)≤t9∧t9<(u2.length:Int))) (k55 x2 u2 u1 t9 u0) (k56 x2 u2 u1 t9 u0)<| .rg {ov:=[(31,false,4)],sk:=[32,33,34,35]} [0,1,2,3]<| .f<| .r<| .e (.next (u3,(k10 t9)))))
  (.e (.done (.brk u3))))
  (fun o501=> .e (⟨o501⟩:bg)))
section
variable (u1:(List aI)) (u2:(List (Int × Int))) (u0:Int) (u3:Int) (u7:Int) (p:ah) (s_:State) (u5:(List aI)) (u6:Int) (u4:(List (Int × Int)))
abbrev k57:List (Nat × Option Ob):=[(60,some (.rows 122 2 u1.length (wQ aI.ev u1) none)),(61,some (IY 3 3 false false 1 1 (aH .i64) (aH .i64) u2))]
abbrev Gm:=((aW bX u0 u2).getD 0)
abbrev YF:List CV:=[(cI (Gm u2 u0))]
abbrev OE:=(fH bX u0 (u1.length:Int) u2)
abbrev Ur:=(u1++[(⟨([]:List Int),([]:List Int)⟩:aI)])
abbrev k62:=(wQ aI.ev (Ur u1))
abbrev Vg:=((aW bX u0 (OE u1 u2 u0)).getD 0)
abbrev k67:=((Vg u1 u2 u0).toNat)
abbrev k66:=(at' (Ur u1) (k67 u1 u2 u0))
abbrev WS:=((k66 u1 u2 u0).buses)
abbrev k64:=((WS u1 u2 u0).length+[u3].length)
abbrev YE:=((WS u1 u2 u0)++[u3])
abbrev k69:=(av (aH .i64) (YE u1 u2 u0 u3))
abbrev k71:=((Ur u1).set (k67 u1 u2 u0) (⟨(YE u1 u2 u0 u3),(k66 u1 u2 u0).sources⟩:aI))
abbrev k70:=(wQ aI.ev (k71 u1 u2 u0 u3))
abbrev Vd:=((at' u1 ((Gm u2 u0).toNat)).buses)
abbrev Yz:=((Vd u1 u2 u0)++[u3])
abbrev k74:=(av (aH .i64) (Yz u1 u2 u0 u3))
abbrev k76:=(u1.set ((Gm u2 u0).toNat) (⟨(Yz u1 u2 u0 u3),(at' u1 ((Gm u2 u0).toNat)).sources⟩:aI))
abbrev k75:=(wQ aI.ev (k76 u1 u2 u0 u3))
abbrev k77:=((0:Int)≤u7∧u7<(p.sources.length:Int))
abbrev k78:=((gB [((at' s_.on_ u7.toNat),true)]=true→(0:Int)≤u7∧u7<(s_.badSource.length:Int)))
abbrev k79:=((gB [((bif (at' s_.on_ u7.toNat)then(!(at' s_.badSource u7.toNat))else false),true)]=true→(0:Int)≤(at' p.sources u7.toNat).bus∧(at' p.sources u7.toNat).bus<(s_.badBus.length:Int)))
abbrev k80:=((at' p.sources u7.toNat).bus)
abbrev U3:=((at' u5 ((Gm u4 u6).toNat)).sources)
abbrev Yx:=((U3 u5 u6 u4)++[u7])
abbrev k83:=(av (aH .i64) (Yx u7 u5 u6 u4))
abbrev k85:=(u5.set ((Gm u4 u6).toNat) (⟨(at' u5 ((Gm u4 u6).toNat)).buses,(Yx u7 u5 u6 u4)⟩:aI))
abbrev k84:=(wQ aI.ev (k85 u7 u5 u6 u4))
end
theorem oH (p:ah) (s_:State):iF Tryz.prog 51 (k20 s_ p) [] (fun r=>(vD (bD none 2 aI.cell r))) (fun _=>[]) (iA p s_):=
  jr tT mX Tryz.func51 (
  .rg {fr:=[(0,55),(1,56)],fz:=[56]} []<| .rg {an:=[(0, .map 0 (xU (aH .i64) ([]:(List (Int × Int)))) (xX (aH .i64) ([]:(List (Int × Int)))) [])],fr:=[(0,57),(2,58)]} []<| .cl 2 (xV p s_) fun r_=> .r<| .cl 0 (qh [(0,59),(1,58),(2,57)] (vV r_.1 r_.2.1 r_.2.2.1 r_.2.2.2.1 r_.2.2.2.2.1 r_.2.2.2.2.2.1 r_.2.2.2.2.2.2.1 r_.2.2.2.2.2.2.2.1 r_.2.2.2.2.2.2.2.2.1 r_.2.2.2.2.2.2.2.2.2.1 r_.2.2.2.2.2.2.2.2.2.2 (⟨([]:(List (Int × Int)))⟩:bg))) fun v0=> .rf 59 [5] [] none 0 []<| .r<| .im (.adR 7 60 122 2 (wQ aI.ev ([]:List aI)))<| .rg {an:=[(0, .map 0 (xU (aH .i64) ([]:(List (Int × Int)))) (xX (aH .i64) ([]:(List (Int × Int)))) [])],fr:=[(0,61)]} []<| .r<| .lp (σ:=((List aI) × (List (Int × Int)) × Int)) (β:=((List aI) × (List (Int × Int)))) (([]:List aI),([]:(List (Int × Int))),0) [] [] ⟨[2,3,5,8,31],[55,57,58],fun(u1,u2,u3)=>[(7,(vO 60 false u1.length)),(32,(vI u3))],fun(u1,u2,u3)=>(k57 u1 u2)⟩ ⟨[2,3,5,8],[55,57,58],fun(u9,u4)=>[(7,(vO 60 false u9.length))],fun(u9,u4)=>(k57 u9 u4)⟩
  (fun(u1,u2,u3)=> .r<| .it (.r<| .a1 ((0:Int)≤u3∧u3<(s_.badBus.length:Int))<| .r<| .it (.r<| .e (.next (u1,u2,(k10 u3))))
  (.cr 2 (qh [(0,57)] (gV v0 u3)) fun u0=> .r<| .rg {an:=[(2, .look (aW bX u0 u2).isSome (YF u2 u0))]} [.pf ⟨kZ [some .i64] 1 1 u2.length (xU (aH .i64) u2) (xX (aH .i64) u2) [(.int .i64 u0)] [(.d (.int .i64 0))] (aW bX u0 u2).isSome (YF u2 u0),lJ (fun _=>rfl) (fun _ _=>rfl) u2 u0 0 rfl rfl rfl⟩]<| .r<| .it (.rg {an:=[(4, .map (OE u1 u2 u0).length (xU (aH .i64) (OE u1 u2 u0)) (xX (aH .i64) (OE u1 u2 u0)) [])]} [.pf ⟨rz [some .i64] 1 1 u2.length (xU (aH .i64) u2) (xX (aH .i64) u2) [(.int .i64 u0)] [(cI (u1.length:Int))] [] (OE u1 u2 u0).length (xU (aH .i64) (OE u1 u2 u0)) (xX (aH .i64) (OE u1 u2 u0)),EL (fun _=>rfl) (fun _ _=>rfl) u2 u0 (u1.length:Int) rfl rfl⟩]<| .a2 ((u1.length+[(⟨([]:List Int),([]:List Int)⟩:aI)].length)*48≤140737488355328) (u1.length+[(⟨([]:List Int),([]:List Int)⟩:aI)].length≤4611686018427387904)<| .rg {an:=[(2, .arr [(⟨([]:List Int),([]:List Int)⟩:aI)].length (nk 2 [nS,nS])),(3, .rows (Ur u1).length (k62 u1))],fr:=[(2,86),(3,87)]} [.pf ⟨[(⟨([]:List Int),([]:List Int)⟩:aI)].length=1,rfl⟩, .pf ⟨aG 1 2 (nk 2 [nS,nS]) (nk 2 [nS,nS]),sU _ _ _⟩, .e (u1.length),0,1, .pf ⟨(Ur u1).length=u1.length+[(⟨([]:List Int),([]:List Int)⟩:aI)].length,List.length_append⟩, .pf ⟨D9 u1.length [(⟨([]:List Int),([]:List Int)⟩:aI)].length 2 (wQ aI.ev u1) (nk 2 [nS,nS]) (k62 u1),VH _ _ _ _ _ (by intro i hi j hj;match i,j,hi,hj with|0,0,_,_=>exact⟨rfl,_,_,_,rfl⟩|0,1,_,_=>exact⟨rfl,_,_,_,rfl⟩)⟩]<| .rg {an:=[(2, .look (aW bX u0 (OE u1 u2 u0)).isSome [(cI (Vg u1 u2 u0))])]} [.pf ⟨kZ [some .i64] 1 1 (OE u1 u2 u0).length (xU (aH .i64) (OE u1 u2 u0)) (xX (aH .i64) (OE u1 u2 u0)) [(.int .i64 u0)] [(.d (.int .i64 0))] (aW bX u0 (OE u1 u2 u0)).isSome [(cI (Vg u1 u2 u0))],lJ (fun _=>rfl) (fun _ _=>rfl) (OE u1 u2 u0) u0 0 rfl rfl rfl⟩]<| .a3 ((0:Int)≤(Vg u1 u2 u0)∧(Vg u1 u2 u0)<((Ur u1).length:Int)) ((k64 u1 u2 u0 u3)*8≤140737488355328) ((WS u1 u2 u0).length+[u3].length≤4611686018427387904)<| .rg {an:=[(6, .take 88),(8, .arr [u3].length (av (aH .i64) [u3])),(9, .arr (YE u1 u2 u0 u3).length (k69 u1 u2 u0 u3)),(12, .rows 0 (k70 u1 u2 u0 u3))],fr:=[(8,89),(9,90)]} [0, .t 0 (Vg u1 u2 u0) ((Ur u1).length), .pf ⟨[u3].length=1,rfl⟩, .pf ⟨aG 1 1 (nk 1 [(.int .i64 u3)]) (av (aH .i64) [u3]),(by intro i hi j hj;match i,j,hi,hj with|0,0,_,_=>rfl)⟩, .e ((WS u1 u2 u0).length),1,2, .pf ⟨(YE u1 u2 u0 u3).length=(WS u1 u2 u0).length+[u3].length,List.length_append⟩, .pf ⟨aG (k64 u1 u2 u0 u3) 1 (qi (av (aH .i64) (WS u1 u2 u0)) (WS u1 u2 u0).length (av (aH .i64) [u3])) (k69 u1 u2 u0 u3),dm _ _ _ _⟩,0, .t 0 (Vg u1 u2 u0) ((Ur u1).length), .e ((YE u1 u2 u0 u3).length), .pf ⟨Rf (Ur u1).length 2 (WT (k62 u1) (k67 u1 u2 u0) 0 (.row 3 1 (YE u1 u2 u0 u3).length (k69 u1 u2 u0 u3))) (k70 u1 u2 u0 u3),F9 _ _ _ _ _ _ _ _ rfl (fun j hj=>(match j,hj with|0,_=>rfl|1,_=>rfl))⟩, .pf ⟨∀i0 j0 c0,((some ((Vg u1 u2 u0).toNat,0,CV.own 88 false (WS u1 u2 u0).length)):Option (Nat × Nat × CV))=some (i0,j0,c0)→i0=(Vg u1 u2 u0).toNat∧j0=0,(fun i0 j0 c0 e=>by cases e;exact⟨rfl,rfl⟩)⟩]<| .im (.ll 87 (Ur u1) (k71 u1 u2 u0 u3))<| .r<| .en (.next ((k71 u1 u2 u0 u3),(OE u1 u2 u0),(k10 u3))) [] [(87,60)])
  (.rg {an:=[(2, .look (aW bX u0 u2).isSome (YF u2 u0))]} [.pf ⟨kZ [some .i64] 1 1 u2.length (xU (aH .i64) u2) (xX (aH .i64) u2) [(.int .i64 u0)] [(.d (.int .i64 0))] (aW bX u0 u2).isSome (YF u2 u0),lJ (fun _=>rfl) (fun _ _=>rfl) u2 u0 0 rfl rfl rfl⟩]<| .a3 ((0:Int)≤(Gm u2 u0)∧(Gm u2 u0)<(u1.length:Int)) (((Vd u1 u2 u0).length+[u3].length)*8≤140737488355328) ((Vd u1 u2 u0).length+[u3].length≤4611686018427387904)<| .rg {an:=[(6, .take 91),(8, .arr [u3].length (av (aH .i64) [u3])),(9, .arr (Yz u1 u2 u0 u3).length (k74 u1 u2 u0 u3)),(12, .rows 0 (k75 u1 u2 u0 u3))],fr:=[(8,92),(9,93)]} [0, .t 0 (Gm u2 u0) u1.length, .pf ⟨[u3].length=1,rfl⟩, .pf ⟨aG 1 1 (nk 1 [(.int .i64 u3)]) (av (aH .i64) [u3]),(by intro i hi j hj;match i,j,hi,hj with|0,0,_,_=>rfl)⟩, .e ((Vd u1 u2 u0).length),1,2, .pf ⟨(Yz u1 u2 u0 u3).length=(Vd u1 u2 u0).length+[u3].length,List.length_append⟩, .pf ⟨aG ((Vd u1 u2 u0).length+[u3].length) 1 (qi (av (aH .i64) (Vd u1 u2 u0)) (Vd u1 u2 u0).length (av (aH .i64) [u3])) (k74 u1 u2 u0 u3),dm _ _ _ _⟩,0, .t 0 (Gm u2 u0) u1.length, .e ((Yz u1 u2 u0 u3).length), .pf ⟨Rf u1.length 2 (WT (wQ aI.ev u1) ((Gm u2 u0).toNat) 0 (.row 3 1 (Yz u1 u2 u0 u3).length (k74 u1 u2 u0 u3))) (k75 u1 u2 u0 u3),F9 _ _ _ _ _ _ _ _ rfl (fun j hj=>(match j,hj with|0,_=>rfl|1,_=>rfl))⟩, .pf ⟨∀i0 j0 c0,((some ((Gm u2 u0).toNat,0,CV.own 91 false (Vd u1 u2 u0).length)):Option (Nat × Nat × CV))=some (i0,j0,c0)→i0=(Gm u2 u0).toNat∧j0=0,(fun i0 j0 c0 e=>by cases e;exact⟨rfl,rfl⟩)⟩]<| .im (.ll 60 u1 (k76 u1 u2 u0 u3))<| .r<| .e (.next ((k76 u1 u2 u0 u3),u2,(k10 u3))))))
  (.e (.done (.brk (u1,u2)))))
  (fun(u9,u4)=> .r<| .lp (σ:=((List aI) × Int)) (β:=(List aI)) (u9,0) [] [] ⟨[3,5,8,76,77],[57,58,61],fun(u5,u7)=>[(7,(vO 60 false u5.length)),(78,(vI u7))],fun(u5,u7)=>[(60,some (.rows 122 2 u5.length (wQ aI.ev u5) none))]⟩ ⟨[],[],fun u8=>[(7,(vO 60 false u8.length))],fun u8=>[(60,some (.rows 122 2 u8.length (wQ aI.ev u8) none))]⟩
  (fun(u5,u7)=> .r<| .it (.a1 (k77 u7 p)<| .rg {fr:=[(3,106)],fz:=[106]} []<| .a3 ((0:Int)≤u7∧u7<(s_.on_.length:Int)) (k78 u7 s_) (k79 u7 p s_)<| .rg {} [0,1,2]<| .it (.cr 4 (qh [(0,57)] (gV v0 (k80 u7 p))) fun u6=> .rg {an:=[(5, .look (aW bX u6 u4).isSome (YF u4 u6))]} [0, .pf ⟨kZ [some .i64] 1 1 u4.length (xU (aH .i64) u4) (xX (aH .i64) u4) [(.int .i64 u6)] [(.d (.int .i64 0))] (aW bX u6 u4).isSome (YF u4 u6),lJ (fun _=>rfl) (fun _ _=>rfl) u4 u6 0 rfl rfl rfl⟩]<| .a3 ((0:Int)≤(Gm u4 u6)∧(Gm u4 u6)<(u5.length:Int)) (((U3 u5 u6 u4).length+[u7].length)*8≤140737488355328) ((U3 u5 u6 u4).length+[u7].length≤4611686018427387904)<| .rg {an:=[(6, .take 107),(8, .arr [u7].length (av (aH .i64) [u7])),(9, .arr (Yx u7 u5 u6 u4).length (k83 u7 u5 u6 u4)),(12, .rows 0 (k84 u7 u5 u6 u4))],fr:=[(8,108),(9,109)]} [0, .t 0 (Gm u4 u6) u5.length, .pf ⟨[u7].length=1,rfl⟩, .pf ⟨aG 1 1 (nk 1 [(.int .i64 u7)]) (av (aH .i64) [u7]),(by intro i hi j hj;match i,j,hi,hj with|0,0,_,_=>rfl)⟩, .e ((U3 u5 u6 u4).length),1,2, .pf ⟨(Yx u7 u5 u6 u4).length=(U3 u5 u6 u4).length+[u7].length,List.length_append⟩, .pf ⟨aG ((U3 u5 u6 u4).length+[u7].length) 1 (qi (av (aH .i64) (U3 u5 u6 u4)) (U3 u5 u6 u4).length (av (aH .i64) [u7])) (k83 u7 u5 u6 u4),dm _ _ _ _⟩,0, .t 0 (Gm u4 u6) u5.length, .e ((Yx u7 u5 u6 u4).length), .pf ⟨Rf u5.length 2 (WT (wQ aI.ev u5) ((Gm u4 u6).toNat) 1 (.row 3 1 (Yx u7 u5 u6 u4).length (k83 u7 u5 u6 u4))) (k84 u7 u5 u6 u4),F9 _ _ _ _ _ _ _ _ rfl (fun j hj=>(match j,hj with|0,_=>rfl|1,_=>rfl))⟩, .pf ⟨∀i0 j0 c0,((some ((Gm u4 u6).toNat,1,CV.own 107 false (U3 u5 u6 u4).length)):Option (Nat × Nat × CV))=some (i0,j0,c0)→i0=(Gm u4 u6).toNat∧j0=1,(fun i0 j0 c0 e=>by cases e;exact⟨rfl,rfl⟩)⟩]<| .im (.ll 60 u5 (k85 u7 u5 u6 u4))<| .r<| .e (.next ((k85 u7 u5 u6 u4),(k10 u7))))
  (.r<| .e (.next (u5,(k10 u7)))))
  (.e (.done (.brk u5))))
  (fun u8=> .r<| .fz [60]<| .im (.us 4 (vD (.sl none 2 u8.length (fun i j=>evD (wQ aI.ev u8 i j)))) (vD (bD none 2 aI.cell u8)) (Da.v (nZ.one (eD.d (dK.sl (.inr rfl) (fun i _ j hj=>match j,hj with|0,_=> .refl _|1,_=> .refl _))))))<| .e u8)))
section
variable (p:ah) (u1:(List aI)) (u0:Int) (u3:Int) (u2:(List Bool)) (u6:(List Bool))
abbrev k86:=((1:Int)*p.buses≤281474976710656)
abbrev k87:=((p.buses:Int)≤9223372036854775807)
abbrev Yp:=(List.replicate p.buses.toNat (false:Bool))
abbrev k89:=(av af (Yp p))
abbrev Yy:=(at' ((at' u1 u0.toNat).buses) u3.toNat)
abbrev k90:=((0:Int)≤(Yy u1 u0 u3)∧(Yy u1 u0 u3)<(u2.length:Int))
abbrev k93:=(u2.set ((Yy u1 u0 u3).toNat) (decide (0<(((at' u1 u0.toNat).sources).length:Int))))
abbrev k92:=(av af (k93 u1 u0 u3 u2))
abbrev k94:=(qP (av af u2) ((Yy u1 u0 u3).toNat) 0 [(.bool (decide (0<(((at' u1 u0.toNat).sources).length:Int))))])
abbrev k95:=((k93 u1 u0 u3 u2),(k10 u3))
abbrev k96:=(u6,(k10 u0))
end
theorem rH (p:ah) (s_:State):iF Tryz.prog 14 (k20 s_ p) [] (fun r=>(.fe [(.one (.own 0 false r.1.length)),(sI r.2)])) (fun r=>[(0,some (bn 4 1 af r.1))]) (dP p s_):=
  jr tT mX Tryz.func14 (
  .rg {fr:=[(0,7),(1,8)],fz:=[7,8]} []<| .cl 2 (dz p s_) fun r_=> .r<| .r<| .it (.r<| .im (.ad 4 9 4 1 (av af ([]:List Bool)))<| .en (([]:List Bool),r_) [] [(9,0)])
  (.a3 ((0:Int)≤p.buses) (k86 p) (k87 p)<| .rg {an:=[(2, .arr (Yp p).length (k89 p))],fr:=[(2,10)]} [0, .e ((p.buses:Int)),1,2, .pf ⟨(Yp p).length=p.buses.toNat,List.length_replicate⟩, .pf ⟨aG p.buses.toNat 1 (fun _ j=>[(.bool false)].getD j .nilp) (k89 p),oQ _ _ _ _ _ (fun j hj=>(match j,hj with|0,_=>rfl))⟩]<| .cl 2 (oH p s_) fun u1=> .r<| .lp (σ:=((List Bool) × Int)) (β:=(List Bool)) ((Yp p),0) [] [] ⟨[23,24],[],fun(u4,u0)=>[(7,(vO 10 true u4.length)),(25,(vI u0))],fun(u4,u0)=>[(10,some (bn 4 1 af u4))]⟩ ⟨[],[],fun u5=>[(7,(vO 10 true u5.length))],fun u5=>[(10,some (bn 4 1 af u5))]⟩
  (fun(u4,u0)=> .r<| .it (.a1 ((0:Int)≤u0∧u0<(u1.length:Int))<| .rg {fr:=[(2,14)]} []<| .rg {fz:=[14]} []<| .lp (σ:=((List Bool) × Int)) (β:=(List Bool)) (u4,0) [] [] ⟨[9,23,24,25,30,31],[],fun(u2,u3)=>[(7,(vO 10 true u2.length)),(32,(vI u3))],fun(u2,u3)=>[(10,some (bn 4 1 af u2))]⟩ ⟨[23,24,25],[],fun u6=>[(7,(vO 10 true u6.length))],fun u6=>[(10,some (bn 4 1 af u6))]⟩
  (fun(u2,u3)=> .r<| .it (.a1 ((0:Int)≤u3∧u3<(((at' u1 u0.toNat).buses).length:Int))<| .r<| .a1 (k90 u1 u0 u3 u2)<| .rg {an:=[(7, .arr 0 (k92 u1 u0 u3 u2))]} [0, .t 0 (Yy u1 u0 u3) u2.length, .pf ⟨aG u2.length 1 (k94 u1 u0 u3 u2) (k92 u1 u0 u3 u2),fw _ _ _ _ _ _ _ _ rfl (fun j hj=>(match j,hj with|0,_=>rfl))⟩]<| .im (.ll 10 u2 (k93 u1 u0 u3 u2))<| .r<| .e (.next (k95 u1 u0 u3 u2)))
  (.e (.done (.brk u2))))
  (fun u6=> .r<| .e (.next (k96 u0 u6))))
  (.e (.done (.brk u4))))
  (fun u5=> .r<| .en (u5,0) [] [(10,0)])))
theorem jC (x y:aj):Go.Proofs.ltOf aV x y=true↔x.e0<y.e0∨ ¬ y.e0<x.e0∧x.e1<y.e1:=by
 unfold Go.Proofs.ltOf aV;rw [decide_eq_true_iff]
 by_cases h0:x.e0<y.e0<;>by_cases g0:y.e0<x.e0<;>by_cases h1:x.e1<y.e1<;>by_cases g1:y.e1<x.e1<;>simp [h0,g0,h1,g1]
theorem xR:Go.Sort.SWO (Go.Proofs.ltOf aV) where
 irrefl x:=by rw [←Bool.not_eq_true,jC];omega
 trans x y z h1 h2:=by rw [jC]at*;omega
 ntrans x y z h1 h2:=by rw [←Bool.not_eq_true,jC]at*;omega
theorem xS (x y:aj) (h1:(Go.Proofs.ltOf aV) x y=false) (h2:(Go.Proofs.ltOf aV) y x=false):x=y:=by
 rw [←Bool.not_eq_true,jC]at h1 h2
 obtain⟨a,b⟩:=x
 obtain⟨c,d⟩:=y
 have e1:a=c:=by simp only at h1 h2;omega
 have e2:b=d:=by simp only at h1 h2;omega
 rw [e1,e2]
theorem yZ (s:(List aj)) {r:(List aj)} (h:jL s=some r):Fn Tryz.prog 52 [(.one (.own 0 false s.length)),(sD (.fn 53 0 (xN [])))] [(0,some (.arr 44 2 s.length (av aj.cell s)))] (.fe []) [(0,some (.arr 44 2 r.length (av aj.cell r)))]:=
 Yd Q6 2 UR SY (fun x:aj=>[.int .i64 x.e0, .int .i64 x.e1]) (fun _=>rfl) (fun x v hv=>by simp at hv;rcases hv with rfl|rfl<;>rfl) aV xR xS
  (NE (fun x:aj=>[.int .i64 x.e0, .int .i64 x.e1]) (fun x=>x.e0) (fun x=>x.e1) (fun _=>rfl)) (enters_of Tryz.func53 (by kernel_rfl) rfl)
  (fun F w x j hj v=>match j,hj with|0,_=>Iff.rfl|1,_=>Iff.rfl) 52 rfl ⟨_,Tryz.func52,rfl,rfl⟩ s (by cases s with|nil=>(cases h;simp)|cons x xs=>exact h)
section
variable (u6:(List aj)) (u1:Int) (u2:(List aI)) (u0:Int) (u3:Int) (p:ah) (u4:(List aj))
abbrev Yw:List (Nat × Option Ob):=[(139,some (bn 44 2 aj.cell u6))]
abbrev k98:=((0:Int)≤(k10 u1)∧(k10 u1)≤(((at' u2 u0.toNat).sources).length:Int))
abbrev WC:=((k10 u1).toNat)
abbrev Xw:=(((at' u2 u0.toNat).sources).drop (WC u1))
abbrev aa7:=((0:Int)≤u3∧u3<((Xw u1 u2 u0).length:Int))
abbrev KO:=(at' ((at' u2 u0.toNat).sources) u1.toNat)
abbrev abw:=((0:Int)≤(KO u1 u2 u0)∧(KO u1 u2 u0)<(p.sources.length:Int))
abbrev aaX:=((gB [((decide (((at' p.sources ((KO u1 u2 u0).toNat)).sync)=0)),false)]=true→(0:Int)≤(KO u1 u2 u0)∧(KO u1 u2 u0)<(p.sources.length:Int)))
abbrev Vv:=(at' (Xw u1 u2 u0) u3.toNat)
abbrev abM:=((gB [((decide (((at' p.sources ((KO u1 u2 u0).toNat)).sync)=0)),false)]=true→(0:Int)≤(Vv u1 u2 u0 u3)∧(Vv u1 u2 u0 u3)<(p.sources.length:Int)))
abbrev MR:=(⟨(KO u1 u2 u0),(Vv u1 u2 u0 u3)⟩:aj)
abbrev YV:=(u4.length+[(MR u1 u2 u0 u3)].length)
abbrev aby:=((YV u1 u2 u0 u3 u4)*16≤140737488355328)
abbrev abu:=(u4.length+[(MR u1 u2 u0 u3)].length≤4611686018427387904)
abbrev Xd:=(av aj.cell [(MR u1 u2 u0 u3)])
abbrev Vk:=(u4++[(MR u1 u2 u0 u3)])
abbrev ZL:=(av aj.cell (Vk u1 u2 u0 u3 u4))
abbrev abE:=(nk 2 [(.int .i64 (KO u1 u2 u0)),(.int .i64 (Vv u1 u2 u0 u3))])
abbrev aaZ:=(qi (av aj.cell u4) u4.length (Xd u1 u2 u0 u3))
abbrev aa6:=((Vk u1 u2 u0 u3 u4),(k10 u3))
abbrev XY:=(u4,(k10 u3))
end
theorem lg (p:ah) (s_:State):iF Tryz.prog 15 (k20 s_ p) [] (fun r=>(.fe [(.one (.own 0 false r.1.length)),(sI r.2)])) (fun r=>[(0,some (bn 44 2 aj.cell r.1))]) (dM p s_):=
  jr tT mX Tryz.func15 (
  .rg {fr:=[(0,134),(1,135)],fz:=[134,135]} []<| .cl 2 (dz p s_) fun r_=> .r<| .r<| .it (.r<| .im (.ad 4 136 44 2 (av aj.cell ([]:List aj)))<| .en (([]:List aj),r_) [] [(136,0)])
  (.r<| .cl 2 (oH p s_) fun u2=> .r<| .im (.ad 7 269 44 2 (av aj.cell ([]:List aj)))<| .lp (σ:=((List aj) × Int)) (β:=(List aj)) (([]:List aj),0) [] [(269,139)] ⟨[2,22,23],[],fun(u6,u0)=>[(7,(vO 139 false u6.length)),(24,(vI u0))],fun(u6,u0)=>(Yw u6)⟩ ⟨[],[],fun u5=>[(7,(vO 139 false u5.length))],fun u5=>(Yw u5)⟩
  (fun(u6,u0)=> .r<| .it (.a1 ((0:Int)≤u0∧u0<(u2.length:Int))<| .rg {fr:=[(2,236)],fz:=[236]} []<| .r<| .lp (σ:=((List aj) × Int)) (β:=(List aj)) (u6,0) [] [] ⟨[2,9,22,23,24,29,30],[],fun(u7,u1)=>[(7,(vO 139 false u7.length)),(31,(vI u1))],fun(u7,u1)=>(Yw u7)⟩ ⟨[2,22,23,24],[],fun u8=>[(7,(vO 139 false u8.length))],fun u8=>(Yw u8)⟩
  (fun(u7,u1)=> .r<| .it (.a1 ((0:Int)≤u1∧u1<(((at' u2 u0.toNat).sources).length:Int))<| .r<| .a1 (k98 u1 u2 u0)<| .r<| .im (.us 40 (vD (.sl none 1 (((at' u2 u0.toNat).sources).length - (WC u1)) (fun iq jq=>av (aH .i64) ((at' u2 u0.toNat).sources) (iq+(WC u1)) jq))) (vD (bD none 1 (aH .i64) (Xw u1 u2 u0))) (Da.v (nZ.one (eD.d (dK.slN (by first|rw [List.length_append,List.length_drop]|simp only [List.length_set,List.length_drop,Bt]) (.inr rfl) (RQ _ _ _ _))))))<| .lp (σ:=((List aj) × Int)) (β:=(List aj)) (u7,0) [] [] ⟨[2,9,11,22,23,24,29,30,31,40,41],[],fun(u4,u3)=>[(7,(vO 139 false u4.length)),(42,(vI u3))],fun(u4,u3)=>(Yw u4)⟩ ⟨[2,9,22,23,24,29,30,31],[],fun u9=>[(7,(vO 139 false u9.length))],fun u9=>(Yw u9)⟩
  (fun(u4,u3)=> .r<| .it (.a1 (aa7 u1 u2 u0 u3)<| .r<| .a3 (abw u1 u2 u0 p) (aaX u1 u2 u0 p) (abM u1 u2 u0 u3 p)<| .rg {} [0,1,2]<| .it (.a2 (aby u1 u2 u0 u3 u4) (abu u1 u2 u0 u3 u4)<| .rg {an:=[(4, .arr [(MR u1 u2 u0 u3)].length (Xd u1 u2 u0 u3)),(5, .arr (Vk u1 u2 u0 u3 u4).length (ZL u1 u2 u0 u3 u4))],fr:=[(4,267),(5,268)]} [.pf ⟨[(MR u1 u2 u0 u3)].length=1,rfl⟩, .pf ⟨aG 1 2 (abE u1 u2 u0 u3) (Xd u1 u2 u0 u3),(by intro i hi j hj;match i,j,hi,hj with|0,0,_,_=>rfl|0,1,_,_=>rfl)⟩, .e (u4.length),0,1, .pf ⟨(Vk u1 u2 u0 u3 u4).length=u4.length+[(MR u1 u2 u0 u3)].length,List.length_append⟩, .pf ⟨aG (YV u1 u2 u0 u3 u4) 2 (aaZ u1 u2 u0 u3 u4) (ZL u1 u2 u0 u3 u4),dm _ _ _ _⟩]<| .r<| .en (.next (aa6 u1 u2 u0 u3 u4)) [] [(268,139)])
  (.r<| .e (.next (XY u3 u4))))
  (.e (.done (.brk u4))))
  (fun u9=> .r<| .e (.next (XY u1 u9))))
  (.e (.done (.brk u7))))
  (fun u8=> .r<| .e (.next (XY u0 u8))))
  (.e (.done (.brk u6))))
  (fun u5=> .cl 1 (qh [(0,139)] ⟨fun h=>yZ u5 h⟩) fun v0=> .r<| .a1 (u5.length=v0.length)<| .so 7 139 false u5.length v0.length 0<| .so 77 139 false u5.length v0.length 0<| .r<| .en (v0,0) [] [(139,0)])))
theorem AX (s_:(List aj)) (v_:aj):iF Tryz.prog 176 [(sD (bD none 2 aj.cell s_)),(.agg [(cI v_.e0),(cI v_.e1)])] [] (fun r=>(vI r)) (fun _=>[]) (uw s_ v_):=
  jr tT mX Tryz.func176 (
  .rg {fr:=[(0,1)],fz:=[1]} []<| .r<| .lp (σ:=Int) (β:=Unit) (0) [] [] ⟨[0,3,7],[],fun t8=>[(8,(vI t8))],fun t8=>[]⟩ ⟨[],[],fun _=>[],fun _=>[]⟩
  (fun t8=> .r<| .it (.r<| .a1 ((0:Int)≤t8∧t8<(s_.length:Int))<| .r<| .it (.r<| .e (.done (.ret t8)))
  (.r<| .e (.next (k10 t8))))
  (.e (.done (.brk ()))))
  (fun _=> .r<| .e (-1)))
theorem yU (s_:(List aj)) (v_:aj):iF Tryz.prog 151 [(sD (bD none 2 aj.cell s_)),(.agg [(cI v_.e0),(cI v_.e1)])] [] (fun r=>(vB r)) (fun _=>[]) (mg s_ v_):=
  jr tT mX Tryz.func151 (
  .rg {fr:=[(0,1)],fz:=[1]} []<| .cl 2 (AX s_ v_) fun r_=> .r<| .e (decide (0≤r_)))
theorem AQ (c:aj) (x1:(List aj)):iF Tryz.prog 150 [(.agg [(cI c.e0),(cI c.e1)]),(sD (Gn [(bD none 2 aj.cell x1)] 0))] [] (fun r=>(vB r)) (fun _=>[]) (rE c x1):=
  jr tT mX Tryz.func150 (
  .rg {fr:=[(0,1)],fz:=[1]} []<| .cl 2 (yU x1 c) fun r_=> .r<| .e (!r_))
section
variable (s_:(List aj)) (f_:(List aj))
abbrev ZK:List SV:=[(sD (bD none 2 aj.cell s_)),(sD (.fn 150 1 (xN [(Gn [(bD none 2 aj.cell f_)] 0)])))]
end
theorem vw (s_:(List aj)) (f_:(List aj)):iF Tryz.prog 175 (ZK s_ f_) [] (fun r=>(vI r)) (fun _=>[]) (lT s_ f_):=
  jr tT mX Tryz.func175 (
  .r<| .r<| .lp (σ:=Int) (β:=Unit) (0) [] [] ⟨[0,1,7],[],fun t8=>[(8,(vI t8))],fun t8=>[]⟩ ⟨[],[],fun _=>[],fun _=>[]⟩
  (fun t8=> .r<| .it (.r<| .cl 5 (AQ (at' s_ t8.toNat) f_) fun r_=> .a1 ((0:Int)≤t8∧t8<(s_.length:Int))<| .rg {} [0,1]<| .it (.r<| .e (.done (.ret t8)))
  (.r<| .e (.next (k10 t8))))
  (.e (.done (.brk ()))))
  (fun _=> .r<| .e (-1)))
theorem mr (s_:(List aj)) (f_:(List aj)):iF Tryz.prog 149 (ZK s_ f_) [] (fun r=>(vB r)) (fun _=>[]) (dw s_ f_):=
  jr tT mX Tryz.func149 (
  .r<| .cl 2 (vw s_ f_) fun r_=> .r<| .e (decide (0≤r_)))
section
variable (p:ah) (s_:State) (x:Transfer) (r_:((List Bool) × Int)) (u0:(List Bool)) (u1:Int) (u3:((List Bool) × Int))
abbrev Xb:List SV:=[(.agg (k1 p)),(.agg (k40 s_))]
abbrev Zd:=(bif (bif (at' s_.badBus x.watch.toNat)then true else(at' r_.1 x.watch.toNat))then true else(at' s_.closed x.close.toNat))
abbrev Y8:=((Zd s_ x r_),false)
abbrev YT:=((bif (Zd s_ x r_)then true else(at' s_.badLink x.close.toNat)),false)
abbrev yY:=(u0.set x.close.toNat true)
abbrev Fs:=((yY x u0).set x.open_.toNat false)
abbrev Zy:List SV:=[(.agg (k1 p)),(.agg [(.d (bD none 1 af (Fs x u0))),(.d (bD none 1 af s_.locked)),(.d (bD none 1 af s_.badLink)),(.d (bD none 1 af s_.on_)),(.d (k22 s_)),(.d (bD none 1 af s_.earthed)),(.d (bD none 1 af s_.badBus))])]
abbrev Xp:=(⟨(Fs x u0),s_.locked,s_.badLink,s_.on_,s_.badSource,s_.earthed,s_.badBus⟩:State)
abbrev ZX:List SV:=[(.agg (k1 p)),(.agg [(.own 29 false ((Fs x u0).length)),(.own 1 false s_.locked.length),(.own 2 false s_.badLink.length),(.own 3 false s_.on_.length),(.own 4 false s_.badSource.length),(.own 5 false s_.earthed.length),(.own 6 false s_.badBus.length)])]
abbrev X6:Nat × Option Ob:=(29,some (bn 4 1 af (Fs x u0)))
abbrev Y2:List (Nat × Option Ob):=[(X6 x u0),(Ll s_),(KF s_),(Kh s_),(LB s_),(KH s_),(Ky s_)]
abbrev Zq:=((0:Int)≤u1∧u1<(r_.1.length:Int))
abbrev abC:=(gB [((at' r_.1 u1.toNat),true)]=true→(0:Int)≤u1∧u1<(u3.1.length:Int))
abbrev Z5:=((abC r_ u1 u3))
abbrev Rt:=((bif (at' r_.1 u1.toNat)then(!(at' u3.1 u1.toNat))else false),false)
abbrev aaj:=((gB [(Rt r_ u1 u3)]=true→(0:Int)≤u1∧u1<(u3.1.length:Int)))
abbrev YO:=((gB [((at' u3.1 u1.toNat),true),(Rt r_ u1 u3)]=true→(0:Int)≤u1∧u1<(s_.earthed.length:Int)))
abbrev Zl:=((gB [((bif (at' u3.1 u1.toNat)then(at' s_.earthed u1.toNat)else false),true),(Rt r_ u1 u3)]=true→(0:Int)≤u1∧u1<(r_.1.length:Int)))
abbrev ZV:List SV:=[(.agg (k1 p)),(.agg [(.d (bD none 1 af (yY x u0))),(.d (bD none 1 af s_.locked)),(.d (bD none 1 af s_.badLink)),(.d (bD none 1 af s_.on_)),(.d (k22 s_)),(.d (bD none 1 af s_.earthed)),(.d (bD none 1 af s_.badBus))])]
abbrev Xl:=(⟨(yY x u0),s_.locked,s_.badLink,s_.on_,s_.badSource,s_.earthed,s_.badBus⟩:State)
abbrev Zn:List SV:=[(.agg (k1 p)),(.agg [(.own 29 false ((yY x u0).length)),(.own 1 false s_.locked.length),(.own 2 false s_.badLink.length),(.own 3 false s_.on_.length),(.own 4 false s_.badSource.length),(.own 5 false s_.earthed.length),(.own 6 false s_.badBus.length)])]
abbrev XQ:Nat × Option Ob:=(29,some (bn 4 1 af (yY x u0)))
abbrev Z9:List (Nat × Option Ob):=[(XQ x u0),(Ll s_),(KF s_),(Kh s_),(LB s_),(KH s_),(Ky s_)]
end
theorem Co (p:ah) (s_:State) (x:Transfer):iF Tryz.prog 103 [(.agg (k1 p)),(.agg (k40 s_)),(.agg [(cI x.watch),(cI x.open_),(cI x.close)])] (k41 s_) (fun r=>(.fe [(.agg [(.own 7 false r.1.closed.length),(.own 1 false s_.locked.length),(.own 2 false s_.badLink.length),(.own 3 false s_.on_.length),(.own 4 false s_.badSource.length),(.own 5 false s_.earthed.length),(.own 6 false s_.badBus.length)]),(sB r.2)])) (fun r=>[(WE s_),(Ll s_),(KF s_),(Kh s_),(LB s_),(KH s_),(Ky s_),(7,bif r.2 then some (bn 4 1 af r.1.closed)else none),(8,none)]) (oz p s_ x):=
  jr tT mX Tryz.func103 (
  .rg {fr:=[(0,22),(1,23),(2,24),(3,25)],fz:=[22]} []<| .cl 2 ⟨fun{r_} hr_=>((Fn.qm (args:=(k20 s_ p)) (frz:=[0,1,2,3,4,5,6]) (p:=[s_.closed.length=s_.closed.length,s_.locked.length=s_.locked.length,s_.badLink.length=s_.badLink.length,s_.on_.length=s_.on_.length,s_.badSource.length=s_.badSource.length,s_.earthed.length=s_.earthed.length,s_.badBus.length=s_.badBus.length]) (rK [(0,26)] (rH p s_ hr_)) (by kernel_rfl) ⟨rfl,rfl,rfl,rfl,rfl,rfl,rfl,trivial⟩ (by kernel_rfl) ⟨(fun _ _=>rfl),trivial⟩ (by kernel_rfl)):Fn Tryz.prog 14 (Xb p s_) (k41 s_) (.fe [(.one (.own 26 false r_.1.length)),(sI r_.2)]) [(WE s_),(Ll s_),(KF s_),(Kh s_),(LB s_),(KH s_),(Ky s_),(26,some (bn 4 1 af r_.1))])⟩ fun r_=> .rg {fz:=[26]} []<| .a5 ((0:Int)≤x.watch∧x.watch<(s_.badBus.length:Int)) ((gB [((at' s_.badBus x.watch.toNat),false)]=true→(0:Int)≤x.watch∧x.watch<(r_.1.length:Int))) ((gB [((bif (at' s_.badBus x.watch.toNat)then true else(at' r_.1 x.watch.toNat)),false)]=true→(0:Int)≤x.close∧x.close<(s_.closed.length:Int))) ((gB [(Y8 s_ x r_)]=true→(0:Int)≤x.close∧x.close<(s_.badLink.length:Int))) ((gB [(YT s_ x r_)]=true→(0:Int)≤x.close∧x.close<(s_.locked.length:Int)))<| .rg {} [0, .t 0 x.watch s_.badBus.length,1,2, .tg 2 [((bif (at' s_.badBus x.watch.toNat)then true else(at' r_.1 x.watch.toNat)),false)] x.close s_.closed.length,3, .tg 3 [(Y8 s_ x r_)] x.close s_.badLink.length,4, .tg 4 [(YT s_ x r_)] x.close s_.locked.length]<| .it (.r<| .im (.ac 25 0 0 27)<| .en (s_,false) [] [(27,7),(25,8)])
  (.rg {fr:=[(1,28)]} []<| .cl 2 ⟨fun{u0} hr_1=>((Fn.qm (args:=[(sD (bD none 1 af s_.closed))]) (frz:=[0]) (p:=[s_.closed.length=s_.closed.length]) (Fn.wW [(0,29)] (aN s_.closed hr_1) (by kernel_rfl) (by kernel_rfl) (by kernel_rfl) (by kernel_rfl)) (by kernel_rfl) ⟨rfl,trivial⟩ (by kernel_rfl) ⟨(fun _ _=>rfl),trivial⟩ (by kernel_rfl)):Fn Tryz.prog 101 [(.one (.own 0 false s_.closed.length))] [(WE s_)] (vO 29 false u0.length) [(WE s_),(29,some (bn 4 1 af u0))])⟩ fun u0=> .r<| .a1 ((0:Int)≤x.close∧x.close<(u0.length:Int))<| .rg {an:=[(5, .arr 0 (av af (yY x u0)))]} [0, .t 0 x.close u0.length, .pf ⟨aG u0.length 1 (qP (av af u0) x.close.toNat 0 [(.bool true)]) (av af (yY x u0)),fw _ _ _ _ _ _ _ _ rfl (fun j hj=>(match j,hj with|0,_=>rfl))⟩]<| .im (.ll 29 u0 (yY x u0))<| .r<| .it (.a2 ((0:Int)≤x.open_∧x.open_<(s_.badLink.length:Int)) ((gB [((at' s_.badLink x.open_.toNat),false)]=true→(0:Int)≤x.open_∧x.open_<(s_.locked.length:Int)))<| .rg {} [0, .t 0 x.open_ s_.badLink.length,1, .tg 1 [((at' s_.badLink x.open_.toNat),false)] x.open_ s_.locked.length]<| .it (.r<| .im (.ac 25 0 0 30)<| .en (s_,false) [] [(30,7),(25,8)])
  (.a1 ((0:Int)≤x.open_∧x.open_<((yY x u0).length:Int))<| .rg {an:=[(5, .arr 0 (av af (Fs x u0)))],fz:=[24]} [0, .t 0 x.open_ ((yY x u0).length), .pf ⟨aG (yY x u0).length 1 (qP (av af (yY x u0)) x.open_.toNat 0 [(.bool false)]) (av af (Fs x u0)),fw _ _ _ _ _ _ _ _ rfl (fun j hj=>(match j,hj with|0,_=>rfl))⟩]<| .im (.ll 29 (yY x u0) (Fs x u0))<| .cl 2 ⟨fun{u3} hr_2=>((Fn.qm (args:=(Zy p s_ x u0)) (frz:=[29,1,2,3,4,5,6]) (p:=[(Fs x u0).length=(Fs x u0).length,s_.locked.length=s_.locked.length,s_.badLink.length=s_.badLink.length,s_.on_.length=s_.on_.length,s_.badSource.length=s_.badSource.length,s_.earthed.length=s_.earthed.length,s_.badBus.length=s_.badBus.length]) (Fn.wW [(0,31)] (rH p (Xp s_ x u0) hr_2) (by kernel_rfl) (by kernel_rfl) (by kernel_rfl) (by kernel_rfl)) (by kernel_rfl) ⟨rfl,rfl,rfl,rfl,rfl,rfl,rfl,trivial⟩ (by kernel_rfl) ⟨(fun _ _=>rfl),trivial⟩ (by kernel_rfl)):Fn Tryz.prog 14 (ZX p s_ x u0) (Y2 s_ x u0) (.fe [(.one (.own 31 false u3.1.length)),(sI u3.2)]) [(X6 x u0),(Ll s_),(KF s_),(Kh s_),(LB s_),(KH s_),(Ky s_),(31,some (bn 4 1 af u3.1))])⟩ fun u3=> .rg {fz:=[31]} []<| .r<| .lp (σ:=Int) (β:=Unit) (0) [] [] ⟨[3,4,5,6,8,10,11,102],[0,1,2,3,4,5,6,23,25,28,29],fun u1=>[(103,(vI u1))],fun u1=>[]⟩ ⟨[3,4,5,6,10,11],[0,1,2,3,4,5,6,23,25,28,29],fun _=>[],fun _=>[]⟩
  (fun u1=> .r<| .it (.r<| .a5 (Zq r_ u1) (Z5 r_ u1 u3) (aaj r_ u1 u3) (YO s_ r_ u1 u3) (Zl s_ r_ u1 u3)<| .rg {} [0,1,2,3, .tg 3 [((at' u3.1 u1.toNat),true),(Rt r_ u1 u3)] u1 s_.earthed.length,4]<| .it (.r<| .im (.ac 25 0 0 32)<| .en (.done (.ret (s_,false))) [] [(32,7),(25,8)])
  (.r<| .e (.next (k10 u1))))
  (.e (.done (.brk ()))))
  (fun _=> .cl 2 ⟨fun{u5} hr_3=>((Fn.qm (args:=(k20 s_ p)) (frz:=[0,1,2,3,4,5,6]) (p:=[s_.closed.length=s_.closed.length,s_.locked.length=s_.locked.length,s_.badLink.length=s_.badLink.length,s_.on_.length=s_.on_.length,s_.badSource.length=s_.badSource.length,s_.earthed.length=s_.earthed.length,s_.badBus.length=s_.badBus.length]) (Fn.wW [(0,33)] (lg p s_ hr_3) (by kernel_rfl) (by kernel_rfl) (by kernel_rfl) (by kernel_rfl)) (by kernel_rfl) ⟨rfl,rfl,rfl,rfl,rfl,rfl,rfl,trivial⟩ (by kernel_rfl) ⟨(fun _ j=>match j with|0=>rfl|1=>rfl|_+2=>rfl),trivial⟩ (by kernel_rfl)):Fn Tryz.prog 15 (Xb p s_) (k41 s_) (.fe [(.one (.own 33 false u5.1.length)),(sI u5.2)]) [(WE s_),(Ll s_),(KF s_),(Kh s_),(LB s_),(KH s_),(Ky s_),(33,some (bn 44 2 aj.cell u5.1))])⟩ fun u5=> .rg {fr:=[(6,34)],fz:=[33]} []<| .fz [34]<| .cl 2 ⟨fun{u6} hr_4=>((Fn.qm (args:=(Zy p s_ x u0)) (frz:=[29,1,2,3,4,5,6]) (p:=[(Fs x u0).length=(Fs x u0).length,s_.locked.length=s_.locked.length,s_.badLink.length=s_.badLink.length,s_.on_.length=s_.on_.length,s_.badSource.length=s_.badSource.length,s_.earthed.length=s_.earthed.length,s_.badBus.length=s_.badBus.length]) (Fn.wW [(0,35)] (lg p (Xp s_ x u0) hr_4) (by kernel_rfl) (by kernel_rfl) (by kernel_rfl) (by kernel_rfl)) (by kernel_rfl) ⟨rfl,rfl,rfl,rfl,rfl,rfl,rfl,trivial⟩ (by kernel_rfl) ⟨(fun _ j=>match j with|0=>rfl|1=>rfl|_+2=>rfl),trivial⟩ (by kernel_rfl)):Fn Tryz.prog 15 (ZX p s_ x u0) (Y2 s_ x u0) (.fe [(.one (.own 35 false u6.1.length)),(sI u6.2)]) [(X6 x u0),(Ll s_),(KF s_),(Kh s_),(LB s_),(KH s_),(Ky s_),(35,some (bn 44 2 aj.cell u6.1))])⟩ fun u6=> .rg {fz:=[35]} []<| .cg 9 [((!(at' u3.1 x.watch.toNat)),false)] (mr u6.1 u5.1) fun u9=> .a1 ((0:Int)≤x.watch∧x.watch<(u3.1.length:Int))<| .rg {} [0,1]<| .it (.r<| .im (.ac 25 0 0 36)<| .en (s_,false) [] [(36,7),(25,8)])
  (.r<| .en ((Xp s_ x u0),true) [] [(29,7),(25,8)]))))
  (.cl 2 ⟨fun{u4} hr_6=>((Fn.qm (args:=(ZV p s_ x u0)) (frz:=[29,1,2,3,4,5,6]) (p:=[(yY x u0).length=(yY x u0).length,s_.locked.length=s_.locked.length,s_.badLink.length=s_.badLink.length,s_.on_.length=s_.on_.length,s_.badSource.length=s_.badSource.length,s_.earthed.length=s_.earthed.length,s_.badBus.length=s_.badBus.length]) (Fn.wW [(0,37)] (rH p (Xl s_ x u0) hr_6) (by kernel_rfl) (by kernel_rfl) (by kernel_rfl) (by kernel_rfl)) (by kernel_rfl) ⟨rfl,rfl,rfl,rfl,rfl,rfl,rfl,trivial⟩ (by kernel_rfl) ⟨(fun _ _=>rfl),trivial⟩ (by kernel_rfl)):Fn Tryz.prog 14 (Zn p s_ x u0) (Z9 s_ x u0) (.fe [(.one (.own 37 false u4.1.length)),(sI u4.2)]) [(XQ x u0),(Ll s_),(KF s_),(Kh s_),(LB s_),(KH s_),(Ky s_),(37,some (bn 4 1 af u4.1))])⟩ fun u4=> .rg {fz:=[24,37]} []<| .r<| .lp (σ:=Int) (β:=Unit) (0) [] [] ⟨[3,4,5,6,8,10,11,102],[0,1,2,3,4,5,6,23,25,28,29],fun u2=>[(103,(vI u2))],fun u2=>[]⟩ ⟨[3,4,5,6,10,11],[0,1,2,3,4,5,6,23,25,28,29],fun _=>[],fun _=>[]⟩
  (fun u2=> .r<| .it (.r<| .a5 (Zq r_ u2) (Z5 r_ u2 u4) (aaj r_ u2 u4) (YO s_ r_ u2 u4) (Zl s_ r_ u2 u4)<| .rg {} [0,1,2,3, .tg 3 [((at' u4.1 u2.toNat),true),(Rt r_ u2 u4)] u2 s_.earthed.length,4]<| .it (.r<| .im (.ac 25 0 0 38)<| .en (.done (.ret (s_,false))) [] [(38,7),(25,8)])
  (.r<| .e (.next (k10 u2))))
  (.e (.done (.brk ()))))
  (fun _=> .cl 2 ⟨fun{u7} hr_7=>((Fn.qm (args:=(k20 s_ p)) (frz:=[0,1,2,3,4,5,6]) (p:=[s_.closed.length=s_.closed.length,s_.locked.length=s_.locked.length,s_.badLink.length=s_.badLink.length,s_.on_.length=s_.on_.length,s_.badSource.length=s_.badSource.length,s_.earthed.length=s_.earthed.length,s_.badBus.length=s_.badBus.length]) (Fn.wW [(0,39)] (lg p s_ hr_7) (by kernel_rfl) (by kernel_rfl) (by kernel_rfl) (by kernel_rfl)) (by kernel_rfl) ⟨rfl,rfl,rfl,rfl,rfl,rfl,rfl,trivial⟩ (by kernel_rfl) ⟨(fun _ j=>match j with|0=>rfl|1=>rfl|_+2=>rfl),trivial⟩ (by kernel_rfl)):Fn Tryz.prog 15 (Xb p s_) (k41 s_) (.fe [(.one (.own 39 false u7.1.length)),(sI u7.2)]) [(WE s_),(Ll s_),(KF s_),(Kh s_),(LB s_),(KH s_),(Ky s_),(39,some (bn 44 2 aj.cell u7.1))])⟩ fun u7=> .rg {fr:=[(6,40)],fz:=[39]} []<| .fz [40]<| .cl 2 ⟨fun{u8} hr_8=>((Fn.qm (args:=(ZV p s_ x u0)) (frz:=[29,1,2,3,4,5,6]) (p:=[(yY x u0).length=(yY x u0).length,s_.locked.length=s_.locked.length,s_.badLink.length=s_.badLink.length,s_.on_.length=s_.on_.length,s_.badSource.length=s_.badSource.length,s_.earthed.length=s_.earthed.length,s_.badBus.length=s_.badBus.length]) (Fn.wW [(0,41)] (lg p (Xl s_ x u0) hr_8) (by kernel_rfl) (by kernel_rfl) (by kernel_rfl) (by kernel_rfl)) (by kernel_rfl) ⟨rfl,rfl,rfl,rfl,rfl,rfl,rfl,trivial⟩ (by kernel_rfl) ⟨(fun _ j=>match j with|0=>rfl|1=>rfl|_+2=>rfl),trivial⟩ (by kernel_rfl)):Fn Tryz.prog 15 (Zn p s_ x u0) (Z9 s_ x u0) (.fe [(.one (.own 41 false u8.1.length)),(sI u8.2)]) [(XQ x u0),(Ll s_),(KF s_),(Kh s_),(LB s_),(KH s_),(Ky s_),(41,some (bn 44 2 aj.cell u8.1))])⟩ fun u8=> .rg {fz:=[41]} []<| .cg 9 [((!(at' u4.1 x.watch.toNat)),false)] (mr u8.1 u7.1) fun v0=> .a1 ((0:Int)≤x.watch∧x.watch<(u4.1.length:Int))<| .rg {} [0,1]<| .it (.r<| .im (.ac 25 0 0 42)<| .en (s_,false) [] [(42,7),(25,8)])
  (.r<| .en ((Xl s_ x u0),true) [] [(29,7),(25,8)])))))
section
variable (u7:(List Bool)) (u1:(List Bool)) (u2:(List Bool)) (u3:(List Bool)) (u4:(List Bool)) (u5:(List Bool)) (u6:(List Bool)) (o_:(List Int)) (u0:Int)
abbrev YN:List CV:=[(.own 1 false u7.length),(.own 2 false u1.length),(.own 3 false u2.length),(.own 4 false u3.length),(.own 5 false u4.length),(.own 6 false u5.length),(.own 7 false u6.length)]
abbrev I6:Ob:=(bn 3 1 (aH .i64) o_)
abbrev ZM:Ob:=(.cells 29 (YN u7 u1 u2 u3 u4 u5 u6))
abbrev XR:=((o_.length+[u0].length)*8≤140737488355328)
abbrev XI:=(o_.length+[u0].length≤4611686018427387904)
abbrev P8:=(av (aH .i64) (o_++[u0]))
abbrev Xf:=(qi (av (aH .i64) o_) o_.length (av (aH .i64) [u0]))
end
theorem xB (u0:Int) (u7:(List Bool)) (u1:(List Bool)) (u2:(List Bool)) (u3:(List Bool)) (u4:(List Bool)) (u5:(List Bool)) (u6:(List Bool)) (u8:State) (o_:(List Int)):Ye Tryz.prog 0 [(sI u0),(.agg (YN u7 u1 u2 u3 u4 u5 u6))] [(0,some (.loop jJ 0 [(10,(vP 8 0)),(11,(vP 9 0))])),(1,some (bn 4 1 af u7)),(2,some (bn 4 1 af u1)),(3,some (bn 4 1 af u2)),(4,some (bn 4 1 af u3)),(5,some (bn 4 1 af u4)),(6,some (bn 4 1 af u5)),(7,some (bn 4 1 af u6)),(8,some (.cells 29 [(.own 10 false u8.closed.length),(.own 2 false u1.length),(.own 3 false u2.length),(.own 4 false u3.length),(.own 5 false u4.length),(.own 6 false u5.length),(.own 7 false u6.length)])),(9,some (.cells 36 [(.own 11 false o_.length)])),(10,some (bn 4 1 af u8.closed)),(11,some (I6 o_))] (fun _=>vB true) (fun r=>[(0,some (.loop jJ 0 [(10,(vP 8 0)),(11,(vP 9 0))])),(1,some (bn 4 1 af u7)),(2,some (bn 4 1 af u1)),(3,some (bn 4 1 af u2)),(4,some (bn 4 1 af u3)),(5,some (bn 4 1 af u4)),(6,some (bn 4 1 af u5)),(7,some (bn 4 1 af u6)),(8,some (ZM u7 u1 u2 u3 u4 u5 u6)),(9,some (.cells 36 [(.own 12 false r.2.length)])),(10,some (bn 4 1 af u8.closed)),(11,none),(12,some (bn 3 1 (aH .i64) r.2))]) (nX u0 u7 u1 u2 u3 u4 u5 u6 u8 o_):=
  scY tT mX jJ ⟨[10,11],[0,1,2,3,4,5,6,7,8,9,10,11],fun _=>[(12,(vI u0)),(13,(vP 15 0))],fun _=>[(15,some (ZM u7 u1 u2 u3 u4 u5 u6))]⟩ (.r<| .rg {fr:=[(0,15)]} []<| .e ())
  (.r<| .a2 (XR o_ u0) (XI o_ u0)<| .rg {an:=[(2, .arr [u0].length (av (aH .i64) [u0])),(3, .arr (o_++[u0]).length (P8 o_ u0))],fr:=[(2,16),(3,17)]} [.pf ⟨[u0].length=1,rfl⟩, .pf ⟨aG 1 1 (nk 1 [(.int .i64 u0)]) (av (aH .i64) [u0]),(by intro i hi j hj;match i,j,hi,hj with|0,0,_,_=>rfl)⟩, .e (o_.length),0,1, .pf ⟨(o_++[u0]).length=o_.length+[u0].length,List.length_append⟩, .pf ⟨aG (o_.length+[u0].length) 1 (Xf o_ u0) (P8 o_ u0),dm _ _ _ _⟩]<| .en ((VG u7 u1 u2 u3 u4 u5 u6),(o_++[u0])) [] [(17,12)])
section
variable (u0:State) (x1:(List Transfer)) (u2:(List Bool)) (r_:(State × Bool)) (x2:Int) (u4:(List Source)) (u5:(List Link)) (u6:(List aS)) (u1:Int)
abbrev Y1:Ob:=(.cells 29 [(.own 4 false u0.closed.length),(.own 5 false u0.locked.length),(.own 6 false u0.badLink.length),(.own 7 false u0.on_.length),(.own 8 false u0.badSource.length),(.own 9 false u0.earthed.length),(.own 10 false u0.badBus.length)])
abbrev R7:Nat × Option Ob:=(5,some (bn 4 1 af u0.locked))
abbrev Rw:Nat × Option Ob:=(6,some (bn 4 1 af u0.badLink))
abbrev Tk:Nat × Option Ob:=(7,some (bn 4 1 af u0.on_))
abbrev TL:Nat × Option Ob:=(8,some (bn 4 1 af u0.badSource))
abbrev Tj:Nat × Option Ob:=(9,some (bn 4 1 af u0.earthed))
abbrev Tm:Nat × Option Ob:=(10,some (bn 4 1 af u0.badBus))
abbrev Wm:=(List.replicate ((x1.length:Int).toNat) (false:Bool))
abbrev YZ:List CV:=[(.own 99 false u2.length),(.own 5 false u0.locked.length),(.own 6 false u0.badLink.length),(.own 7 false u0.on_.length),(.own 8 false u0.badSource.length),(.own 9 false u0.earthed.length),(.own 10 false u0.badBus.length)]
abbrev Z0:Ob:=(.cells 29 (YZ u0 u2))
abbrev Zc:Nat × Option Ob:=(1,some (Z0 u0 u2))
abbrev aam:Nat × Option Ob:=(2,some (Z0 u0 u2))
abbrev Zi:=(av af (Wm x1))
abbrev UO:=(⟨u2,u0.locked,u0.badLink,u0.on_,u0.badSource,u0.earthed,u0.badBus⟩:State)
abbrev YX:List CV:=[(.own 148 false r_.1.closed.length),(.own 5 false u0.locked.length),(.own 6 false u0.badLink.length),(.own 7 false u0.on_.length),(.own 8 false u0.badSource.length),(.own 9 false u0.earthed.length),(.own 10 false u0.badBus.length)]
abbrev Pm:Ob:=(bn 4 1 af r_.1.closed)
abbrev Pd:List SV:=[(.agg [(cI x2),(.d (bD none 5 Source.cell u4)),(.d (bD none 6 Link.cell u5)),(.d (bD none 4 aS.cell u6))]),(.agg (YZ u0 u2)),(.agg [(cI ((at' x1 u1.toNat).watch)),(cI ((at' x1 u1.toNat).open_)),(cI ((at' x1 u1.toNat).close))])]
abbrev PK:List (Nat × Option Ob):=[(99,some (bn 4 1 af u2)),(R7 u0),(Rw u0),(Tk u0),(TL u0),(Tj u0),(Tm u0)]
abbrev SL:List CV:=[(.own 7 false r_.1.closed.length),(.own 1 false u0.locked.length),(.own 2 false u0.badLink.length),(.own 3 false u0.on_.length),(.own 4 false u0.badSource.length),(.own 5 false u0.earthed.length),(.own 6 false u0.badBus.length)]
abbrev Zr:TV:=(.fe [(.agg (SL u0 r_)),(sB r_.2)])
abbrev Y9:=(rZ (swp [(0,99),(1,5),(2,6),(3,7),(4,8),(1,9),(2,10),(3,148),(4,149)]) [(0,some (bn 4 1 af u2)),(Ll u0),(KF u0),(Kh u0),(LB u0),(KH u0),(Ky u0),(7,bif r_.2 then some (Pm r_)else none),(8,none)])
end
theorem zK (x1:(List Transfer)) (x2:Int) (u4:(List Source)) (u5:(List Link)) (u6:(List aS)) (u0:State) (v0:State) (o_:(List Int)):iF Tryz.prog 102 [(.one (.yl 0)),(sD (Gn [(O1 x1)] 0)),(sD (k3 x2 u4 u5 u6)),(.one (.ptr 1 0))] [(0,some (.loop jJ 0 [(10,(vP 2 0)),(11,(vP 3 0))])),(1,some (Y1 u0)),(2,some (Y1 u0)),(3,some (.cells 36 [(.own 11 false o_.length)])),(4,some (bn 4 1 af u0.closed)),(R7 u0),(Rw u0),(Tk u0),(TL u0),(Tj u0),(Tm u0),(11,some (I6 o_))] (fun r=>(.fe [])) (fun r=>[(0,some (.loop jJ 0 [(10,(vP 2 0)),(11,(vP 3 0))])),(1,some (.cells 29 [(.own 12 false r.1.closed.length),(.own 5 false u0.locked.length),(.own 6 false u0.badLink.length),(.own 7 false u0.on_.length),(.own 8 false u0.badSource.length),(.own 9 false u0.earthed.length),(.own 10 false u0.badBus.length)])),(2,some (.cells 29 [(.own 12 false r.1.closed.length),(.own 5 false u0.locked.length),(.own 6 false u0.badLink.length),(.own 7 false u0.on_.length),(.own 8 false u0.badSource.length),(.own 9 false u0.earthed.length),(.own 10 false u0.badBus.length)])),(3,some (.cells 36 [(.own 13 false r.2.2.length)])),(4,none),(R7 u0),(Rw u0),(Tk u0),(TL u0),(Tj u0),(Tm u0),(11,none),(12,some (bn 4 1 af r.1.closed)),(13,some (bn 3 1 (aH .i64) r.2.2))]) (qE x1 x2 u4 u5 u6 u0 v0 o_):=
  jr tT mX Tryz.func102 (
  .sp (σ:=((List Bool) × (List Int) × (List Bool))) (β:=((List Bool) × (List Int))) (u0.closed,o_,(Wm x1)) ⟨[0,1,2,3],[0,5,6,7,8,9,10],fun(u2,u8,u3)=>[(5,(vO 82 true u3.length))],fun(u2,u8,u3)=>[(Zc u0 u2),(aam u0 u2),(3,some (.cells 36 [(.own 100 false u8.length)])),(4,none),(11,none),(82,some (bn 4 1 af u3)),(99,some (bn 4 1 af u2)),(100,some (I6 u8))]⟩ ⟨[],[0,5,6,7,8,9,10],fun(u7,u9)=>[],fun(u7,u9)=>[(Zc u0 u7),(aam u0 u7),(3,some (.cells 36 [(.own 100 false u9.length)])),(4,none),(11,none),(99,some (bn 4 1 af u7)),(100,some (I6 u9))]⟩ (.a3 ((0:Int)≤(x1.length:Int)) ((1:Int)*(x1.length:Int)≤281474976710656) (((x1.length:Int):Int)≤9223372036854775807)<| .rg {an:=[(2, .arr (Wm x1).length (Zi x1))],fr:=[(2,151)]} [0, .e (((x1.length:Int):Int)),1,2, .pf ⟨(Wm x1).length=((x1.length:Int).toNat),List.length_replicate⟩, .pf ⟨aG ((x1.length:Int).toNat) 1 (fun _ j=>[(.bool false)].getD j .nilp) (Zi x1),oQ _ _ _ _ _ (fun j hj=>(match j,hj with|0,_=>rfl))⟩]<| .im (.ra 4 152)<| .im (.re 3 0 11 153)<| .en () [] [(151,82),(152,99),(153,100)])
  (fun(u2,u8,u3)=> .r<| .lp (σ:=Int) (β:=Unit) (0) [] [] ⟨[0,1,2,3,5,13,14],[0,1,2,3,4,5,6,7,8,9,10,11,82,99,100],fun u1=>[(15,(vI u1))],fun u1=>[]⟩ ⟨[],[0,1,2,3,4,5,6,7,8,9,10,11,99,100],fun _=>[],fun _=>[]⟩
  (fun u1=> .r<| .it (.a1 (k35 x1 u1)<| .rg {fr:=[(3,147)],fz:=[147]} []<| .a1 (YD u3 u1)<| .rg {} [0, .t 0 u1 u3.length]<| .it (.r<| .e (.next (k10 u1)))
  (.cl 3 (qh [(0,99),(1,5),(2,6),(3,7),(4,8),(1,9),(2,10),(3,148),(4,149)] (Co (⟨x2,u4,u5,u6⟩:ah) (UO u0 u2) (at' x1 u1.toNat))) fun r_=> .fk r_.2 (.rg {an:=[(3, .call [99,5,6,7,8,9,10] (.fe [(.agg (YX u0 r_)),(sB true)]) [(99,some (bn 4 1 af u2)),(R7 u0),(Rw u0),(Tk u0),(TL u0),(Tj u0),(Tm u0),(148,some (Pm r_)),(149,none)])],fr:=[(7,150)]} [.m [1,0] [Fn Tryz.prog 103 (Pd u0 x1 u2 x2 u4 u5 u6 u1) (PK u0 u2) (TV.ren (swp [(0,99),(1,5),(2,6),(3,7),(4,8),(1,9),(2,10),(3,148),(4,149)]) (Zr u0 r_)) (Y9 u0 u2 r_),r_.2=true] (Fn Tryz.prog 103 (Pd u0 x1 u2 x2 u4 u5 u6 u1) (PK u0 u2) (TV.ren (swp [(0,99),(1,5),(2,6),(3,7),(4,8),(1,9),(2,10),(3,148),(4,149)]) (.fe [(.agg (SL u0 r_)),(sB true)])) (rZ (swp [(0,99),(1,5),(2,6),(3,7),(4,8),(1,9),(2,10),(3,148),(4,149)]) [(0,some (bn 4 1 af u2)),(Ll u0),(KF u0),(Kh u0),(LB u0),(KH u0),(Ky u0),(7,bif true then some (Pm r_)else none),(8,none)])) (fun⟨hy,hb2,_⟩=>(congrArg (fun bq=>Fn Tryz.prog 103 (Pd u0 x1 u2 x2 u4 u5 u6 u1) (PK u0 u2) (TV.ren (swp [(0,99),(1,5),(2,6),(3,7),(4,8),(1,9),(2,10),(3,148),(4,149)]) (.fe [(.agg (SL u0 r_)),(sB bq)])) (rZ (swp [(0,99),(1,5),(2,6),(3,7),(4,8),(1,9),(2,10),(3,148),(4,149)]) [(0,some (bn 4 1 af u2)),(Ll u0),(KF u0),(Kh u0),(LB u0),(KH u0),(Ky u0),(7,bif bq then some (Pm r_)else none),(8,none)])) hb2).mp hy)]<| .r<| .t<| .a1 (YD u3 u1)<| .rg {an:=[(5, .arr 0 (av af (u3.set u1.toNat true)))]} [0, .t 0 u1 u3.length, .pf ⟨aG u3.length 1 (qP (av af u3) u1.toNat 0 [(.bool true)]) (av af (u3.set u1.toNat true)),fw _ _ _ _ _ _ _ _ rfl (fun j hj=>(match j,hj with|0,_=>rfl))⟩]<| .im (.ll 82 u3 (u3.set u1.toNat true))<| .cy 3 (rkY [(1,148),(2,5),(3,6),(4,7),(2,8),(3,9),(4,10),(4,99),(11,100),(12,151)] (xB u1 r_.1.closed u0.locked u0.badLink u0.on_ u0.badSource u0.earthed u0.badBus (UO u0 u2) u8)) fun v1=> .r<| .f<| .en (.done (.ret (.next (r_.1.closed,v1.2,(u3.set u1.toNat true))))) [] [(148,99),(151,100)])
  (.rg {an:=[(3, .call [99,5,6,7,8,9,10] (.fe [(.agg (YX u0 r_)),(sB false)]) [(99,some (bn 4 1 af u2)),(R7 u0),(Rw u0),(Tk u0),(TL u0),(Tj u0),(Tm u0),(148,none),(149,none)])],fr:=[(7,150)]} [.m [1,0] [Fn Tryz.prog 103 (Pd u0 x1 u2 x2 u4 u5 u6 u1) (PK u0 u2) (TV.ren (swp [(0,99),(1,5),(2,6),(3,7),(4,8),(1,9),(2,10),(3,148),(4,149)]) (Zr u0 r_)) (Y9 u0 u2 r_),r_.2=false] (Fn Tryz.prog 103 (Pd u0 x1 u2 x2 u4 u5 u6 u1) (PK u0 u2) (TV.ren (swp [(0,99),(1,5),(2,6),(3,7),(4,8),(1,9),(2,10),(3,148),(4,149)]) (.fe [(.agg (SL u0 r_)),(sB false)])) (rZ (swp [(0,99),(1,5),(2,6),(3,7),(4,8),(1,9),(2,10),(3,148),(4,149)]) [(0,some (bn 4 1 af u2)),(Ll u0),(KF u0),(Kh u0),(LB u0),(KH u0),(Ky u0),(7,bif false then some (Pm r_)else none),(8,none)])) (fun⟨hy,hb2,_⟩=>(congrArg (fun bq=>Fn Tryz.prog 103 (Pd u0 x1 u2 x2 u4 u5 u6 u1) (PK u0 u2) (TV.ren (swp [(0,99),(1,5),(2,6),(3,7),(4,8),(1,9),(2,10),(3,148),(4,149)]) (.fe [(.agg (SL u0 r_)),(sB bq)])) (rZ (swp [(0,99),(1,5),(2,6),(3,7),(4,8),(1,9),(2,10),(3,148),(4,149)]) [(0,some (bn 4 1 af u2)),(Ll u0),(KF u0),(Kh u0),(LB u0),(KH u0),(Ky u0),(7,bif bq then some (Pm r_)else none),(8,none)])) hb2).mp hy)]<| .r<| .f<| .r<| .e (.next (k10 u1)))))
  (.e (.done (.brk ()))))
  (fun _=> .e (.done (.brk (u2,u8)))))
  (fun(u7,u9)=> .en ((UO u0 u7),(UO u0 u7),u9) [] [(99,12),(100,13)]))
theorem qa (a:(List Int)) (b:(List Int)):iF Tryz.prog 20 [(sD (bD none 1 (aH .i64) a)),(sD (bD none 1 (aH .i64) b))] [] (fun r=>(vB r)) (fun _=>[]) (qd a b):=
  jr tT mX Tryz.func20 (
  .r<| .r<| .it (.r<| .e false)
  (.r<| .lp (σ:=Int) (β:=Unit) (0) [] [] ⟨[0,1],[],fun i=>[(5,(vI i))],fun i=>[]⟩ ⟨[],[],fun _=>[],fun _=>[]⟩
  (fun i=> .r<| .it (.a2 ((0:Int)≤i∧i<(a.length:Int)) ((0:Int)≤i∧i<(b.length:Int))<| .rg {} [0,1]<| .it (.r<| .e (.done (.ret false)))
  (.r<| .e (.next (k10 i))))
  (.e (.done (.brk ()))))
  (fun _=> .r<| .e true)))
end
end Sg
