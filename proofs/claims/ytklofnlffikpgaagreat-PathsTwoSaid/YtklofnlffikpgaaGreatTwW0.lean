import Derived.Test.YtklofnlffikpgaaGreatTwGm
import Derived.Test.YtklofnlffikpgaaGreatProg
import Derived.Test.YtklofnlffikpgaaGreatTwLf
import Derived.Test.YtklofnlffikpgaaGreatTwLe
set_option linter.all false
namespace Sg
open Go Go.Proofs
set_option maxRecDepth 20000
noncomputable section
noncomputable def TT:List (Nat × TI):=[(3,⟨Tryz.t3.desc,Tryz.t3.size,Tryz.t3.bytes,zl Tryz.t3,false⟩),
  (4,⟨Tryz.t4.desc,Tryz.t4.size,Tryz.t4.bytes,zl Tryz.t4,false⟩),
  (22,⟨Tryz.t22.desc,Tryz.t22.size,Tryz.t22.bytes,zl Tryz.t22,false⟩),
  (23,⟨Tryz.t23.desc,Tryz.t23.size,Tryz.t23.bytes,zl Tryz.t23,false⟩),
  (24,⟨Tryz.t24.desc,Tryz.t24.size,Tryz.t24.bytes,zl Tryz.t24,false⟩),
  (26,⟨Tryz.t25.desc,Tryz.t26.size,Tryz.t26.bytes,zl Tryz.t26,false⟩),
  (27,⟨Tryz.t27.desc,Tryz.t27.size,Tryz.t27.bytes,zl Tryz.t27,false⟩),
  (29,⟨Tryz.t28.desc,Tryz.t29.size,Tryz.t29.bytes,zl Tryz.t29,false⟩),
  (30,⟨Tryz.t30.desc,Tryz.t30.size,Tryz.t30.bytes,zl Tryz.t30,false⟩),
  (34,⟨Tryz.t34.desc,Tryz.t34.size,Tryz.t34.bytes,zl Tryz.t34,false⟩),
  (36,⟨Tryz.t36.desc,Tryz.t36.size,Tryz.t36.bytes,zl Tryz.t36,false⟩),
  (41,⟨Tryz.t41.desc,Tryz.t41.size,Tryz.t41.bytes,zl Tryz.t41,false⟩),
  (44,⟨Tryz.t44.desc,Tryz.t44.size,Tryz.t44.bytes,zl Tryz.t44,true⟩),
  (46,⟨Tryz.t45.desc,Tryz.t46.size,Tryz.t46.bytes,zl Tryz.t46,true⟩),
  (48,⟨Tryz.t48.desc,Tryz.t48.size,Tryz.t48.bytes,zl Tryz.t48,false⟩),
  (61,⟨Tryz.t61.desc,Tryz.t61.size,Tryz.t61.bytes,zl Tryz.t61,false⟩),
  (82,⟨Tryz.t3.desc,Tryz.t82.size,Tryz.t82.bytes,zl Tryz.t82,false⟩),
  (84,⟨Tryz.t83.desc,Tryz.t84.size,Tryz.t84.bytes,zl Tryz.t84,true⟩),
  (92,⟨Tryz.t92.desc,Tryz.t92.size,Tryz.t92.bytes,zl Tryz.t92,false⟩),
  (95,⟨Tryz.t95.desc,Tryz.t95.size,Tryz.t95.bytes,zl Tryz.t95,true⟩),
  (97,⟨Tryz.t97.desc,Tryz.t97.size,Tryz.t97.bytes,zl Tryz.t97,false⟩),
  (100,⟨Tryz.t99.desc,Tryz.t100.size,Tryz.t100.bytes,zl Tryz.t100,true⟩),
  (101,⟨Tryz.t45.desc,Tryz.t101.size,Tryz.t101.bytes,zl Tryz.t101,true⟩),
  (108,⟨Tryz.t108.desc,Tryz.t108.size,Tryz.t108.bytes,zl Tryz.t108,false⟩),
  (109,⟨Tryz.t109.desc,Tryz.t109.size,Tryz.t109.bytes,zl Tryz.t109,false⟩),
  (110,⟨Tryz.t3.desc,Tryz.t110.size,Tryz.t110.bytes,zl Tryz.t110,false⟩),
  (111,⟨Tryz.t111.desc,Tryz.t111.size,Tryz.t111.bytes,zl Tryz.t111,false⟩),
  (113,⟨Tryz.t112.desc,Tryz.t113.size,Tryz.t113.bytes,zl Tryz.t113,false⟩),
  (119,⟨Tryz.t119.desc,Tryz.t119.size,Tryz.t119.bytes,zl Tryz.t119,false⟩),
  (122,⟨Tryz.t121.desc,Tryz.t122.size,Tryz.t122.bytes,zl Tryz.t122,false⟩),
  (123,⟨Tryz.t3.desc,Tryz.t123.size,Tryz.t123.bytes,zl Tryz.t123,false⟩),
  (125,⟨Tryz.t124.desc,Tryz.t125.size,Tryz.t125.bytes,zl Tryz.t125,true⟩),
  (141,⟨Tryz.t141.desc,Tryz.t141.size,Tryz.t141.bytes,zl Tryz.t141,false⟩),
  (161,⟨Tryz.t161.desc,Tryz.t161.size,Tryz.t161.bytes,zl Tryz.t161,false⟩),
  (164,⟨Tryz.t164.desc,Tryz.t164.size,Tryz.t164.bytes,zl Tryz.t164,false⟩),
  (167,⟨Tryz.t167.desc,Tryz.t167.size,Tryz.t167.bytes,zl Tryz.t167,false⟩),
  (169,⟨Tryz.t169.desc,Tryz.t169.size,Tryz.t169.bytes,zl Tryz.t169,false⟩),
  (172,⟨Tryz.t172.desc,Tryz.t172.size,Tryz.t172.bytes,zl Tryz.t172,false⟩),
  (173,⟨Tryz.t173.desc,Tryz.t173.size,Tryz.t173.bytes,zl Tryz.t173,false⟩),
  (176,⟨Tryz.t176.desc,Tryz.t176.size,Tryz.t176.bytes,zl Tryz.t176,false⟩),
  (178,⟨Tryz.t177.desc,Tryz.t178.size,Tryz.t178.bytes,zl Tryz.t178,false⟩),
  (192,⟨Tryz.t192.desc,Tryz.t192.size,Tryz.t192.bytes,zl Tryz.t192,false⟩),
  (193,⟨Tryz.t193.desc,Tryz.t193.size,Tryz.t193.bytes,zl Tryz.t193,false⟩),
  (195,⟨Tryz.t194.desc,Tryz.t195.size,Tryz.t195.bytes,zl Tryz.t195,false⟩),
  (198,⟨Tryz.t198.desc,Tryz.t198.size,Tryz.t198.bytes,zl Tryz.t198,false⟩),
  (211,⟨Tryz.t210.desc,Tryz.t211.size,Tryz.t211.bytes,zl Tryz.t211,true⟩),
  (232,⟨Tryz.t232.desc,Tryz.t232.size,Tryz.t232.bytes,zl Tryz.t232,false⟩),
  (236,⟨Tryz.t236.desc,Tryz.t236.size,Tryz.t236.bytes,zl Tryz.t236,false⟩)]
theorem tT:nZ Tryz.prog TT:=⟨iD (by kernel_rfl) (by kernel_rfl) (by kernel_rfl),⟨jS,dF (by kernel_rfl)⟩,iD (by kernel_rfl) (by kernel_rfl) (by kernel_rfl),⟨jS,dF (by kernel_rfl)⟩,iD (by kernel_rfl) (by kernel_rfl) (by kernel_rfl),⟨jS,dF (by kernel_rfl)⟩,iD (by kernel_rfl) (by kernel_rfl) (by kernel_rfl),⟨jS,dF (by kernel_rfl)⟩,iD (by kernel_rfl) (by kernel_rfl) (by kernel_rfl),⟨jS,dF (by kernel_rfl)⟩,iD (by kernel_rfl) (by kernel_rfl) (by kernel_rfl),⟨jS,dF (by kernel_rfl)⟩,iD (by kernel_rfl) (by kernel_rfl) (by kernel_rfl),⟨jS,dF (by kernel_rfl)⟩,iD (by kernel_rfl) (by kernel_rfl) (by kernel_rfl),⟨jS,dF (by kernel_rfl)⟩,iD (by kernel_rfl) (by kernel_rfl) (by kernel_rfl),⟨jS,dF (by kernel_rfl)⟩,iD (by kernel_rfl) (by kernel_rfl) (by kernel_rfl),⟨jS,dF (by kernel_rfl)⟩,iD (by kernel_rfl) (by kernel_rfl) (by kernel_rfl),⟨jS,dF (by kernel_rfl)⟩,iD (by kernel_rfl) (by kernel_rfl) (by kernel_rfl),⟨jS,dF (by kernel_rfl)⟩,iD (by kernel_rfl) (by kernel_rfl) (by kernel_rfl),⟨fun _=> ⟨by kernel_rfl,by kernel_rfl⟩,dF (by kernel_rfl)⟩,iD (by kernel_rfl) (by kernel_rfl) (by kernel_rfl),⟨fun _=> ⟨by kernel_rfl,by kernel_rfl⟩,dF (by kernel_rfl)⟩,iD (by kernel_rfl) (by kernel_rfl) (by kernel_rfl),⟨jS,dF (by kernel_rfl)⟩,iD (by kernel_rfl) (by kernel_rfl) (by kernel_rfl),⟨jS,dF (by kernel_rfl)⟩,iD (by kernel_rfl) (by kernel_rfl) (by kernel_rfl),⟨jS,dF (by kernel_rfl)⟩,iD (by kernel_rfl) (by kernel_rfl) (by kernel_rfl),⟨fun _=> ⟨by kernel_rfl,by kernel_rfl⟩,dF (by kernel_rfl)⟩,iD (by kernel_rfl) (by kernel_rfl) (by kernel_rfl),⟨jS,dF (by kernel_rfl)⟩,iD (by kernel_rfl) (by kernel_rfl) (by kernel_rfl),⟨fun _=> ⟨by kernel_rfl,by kernel_rfl⟩,dF (by kernel_rfl)⟩,iD (by kernel_rfl) (by kernel_rfl) (by kernel_rfl),⟨jS,dF (by kernel_rfl)⟩,iD (by kernel_rfl) (by kernel_rfl) (by kernel_rfl),⟨fun _=> ⟨by kernel_rfl,by kernel_rfl⟩,dF (by kernel_rfl)⟩,iD (by kernel_rfl) (by kernel_rfl) (by kernel_rfl),⟨fun _=> ⟨by kernel_rfl,by kernel_rfl⟩,dF (by kernel_rfl)⟩,iD (by kernel_rfl) (by kernel_rfl) (by kernel_rfl),⟨jS,dF (by kernel_rfl)⟩,iD (by kernel_rfl) (by kernel_rfl) (by kernel_rfl),⟨jS,dF (by kernel_rfl)⟩,iD (by kernel_rfl) (by kernel_rfl) (by kernel_rfl),⟨jS,dF (by kernel_rfl)⟩,iD (by kernel_rfl) (by kernel_rfl) (by kernel_rfl),⟨jS,dF (by kernel_rfl)⟩,iD (by kernel_rfl) (by kernel_rfl) (by kernel_rfl),⟨jS,dF (by kernel_rfl)⟩,iD (by kernel_rfl) (by kernel_rfl) (by kernel_rfl),⟨jS,dF (by kernel_rfl)⟩,iD (by kernel_rfl) (by kernel_rfl) (by kernel_rfl),⟨jS,dF (by kernel_rfl)⟩,iD (by kernel_rfl) (by kernel_rfl) (by kernel_rfl),⟨jS,dF (by kernel_rfl)⟩,iD (by kernel_rfl) (by kernel_rfl) (by kernel_rfl),⟨fun _=> ⟨by kernel_rfl,by kernel_rfl⟩,dF (by kernel_rfl)⟩,iD (by kernel_rfl) (by kernel_rfl) (by kernel_rfl),⟨jS,dF (by kernel_rfl)⟩,iD (by kernel_rfl) (by kernel_rfl) (by kernel_rfl),⟨jS,dF (by kernel_rfl)⟩,iD (by kernel_rfl) (by kernel_rfl) (by kernel_rfl),⟨jS,dF (by kernel_rfl)⟩,iD (by kernel_rfl) (by kernel_rfl) (by kernel_rfl),⟨jS,dF (by kernel_rfl)⟩,iD (by kernel_rfl) (by kernel_rfl) (by kernel_rfl),⟨jS,dF (by kernel_rfl)⟩,iD (by kernel_rfl) (by kernel_rfl) (by kernel_rfl),⟨jS,dF (by kernel_rfl)⟩,iD (by kernel_rfl) (by kernel_rfl) (by kernel_rfl),⟨jS,dF (by kernel_rfl)⟩,iD (by kernel_rfl) (by kernel_rfl) (by kernel_rfl),⟨jS,dF (by kernel_rfl)⟩,iD (by kernel_rfl) (by kernel_rfl) (by kernel_rfl),⟨jS,dF (by kernel_rfl)⟩,iD (by kernel_rfl) (by kernel_rfl) (by kernel_rfl),⟨jS,dF (by kernel_rfl)⟩,iD (by kernel_rfl) (by kernel_rfl) (by kernel_rfl),⟨jS,dF (by kernel_rfl)⟩,iD (by kernel_rfl) (by kernel_rfl) (by kernel_rfl),⟨jS,dF (by kernel_rfl)⟩,iD (by kernel_rfl) (by kernel_rfl) (by kernel_rfl),⟨jS,dF (by kernel_rfl)⟩,iD (by kernel_rfl) (by kernel_rfl) (by kernel_rfl),⟨fun _=> ⟨by kernel_rfl,by kernel_rfl⟩,dF (by kernel_rfl)⟩,iD (by kernel_rfl) (by kernel_rfl) (by kernel_rfl),⟨jS,dF (by kernel_rfl)⟩,iD (by kernel_rfl) (by kernel_rfl) (by kernel_rfl),⟨jS,dF (by kernel_rfl)⟩,trivial⟩
theorem mX:Tryz.prog.follows .mixedOrders=true:=by kernel_rfl
def Gv:Go.Shelf.Ren:=⟨fun|6=>52|14=>107|15=>108|20=>153|21=>154|22=>155|23=>156|24=>157|25=>158|26=>159|27=>160|28=>161|29=>162|46=>177|47=>178|48=>179|49=>180|50=>181|57=>182|n=>n,fun|0=>0|3=>3|4=>4|5=>5|9=>9|22=>41|24=>44|25=>128|39=>104|45=>219|46=>220|50=>184|53=>226|55=>228|66=>243|70=>247|76=>249|77=>250|n=>n,fun n=>n⟩
theorem Pp:Go.Proofs.SlLaysF0.n6 Tryz.prog Gv:=⟨by kernel_rfl,⟨Tryz.f52.name,by kernel_rfl,Tryz.func52.trans (congrArg some (by kernel_rfl))⟩,⟨Tryz.f107.name,by kernel_rfl,Tryz.func107.trans (congrArg some (by kernel_rfl))⟩,Tryz.func108.trans (congrArg some (by kernel_rfl)),⟨Tryz.f153.name,by kernel_rfl,Tryz.func153.trans (congrArg some (by kernel_rfl))⟩,⟨Tryz.f154.name,by kernel_rfl,Tryz.func154.trans (congrArg some (by kernel_rfl))⟩,⟨Tryz.f155.name,by kernel_rfl,Tryz.func155.trans (congrArg some (by kernel_rfl))⟩,⟨Tryz.f156.name,by kernel_rfl,Tryz.func156.trans (congrArg some (by kernel_rfl))⟩,⟨Tryz.f157.name,by kernel_rfl,Tryz.func157.trans (congrArg some (by kernel_rfl))⟩,⟨Tryz.f158.name,by kernel_rfl,Tryz.func158.trans (congrArg some (by kernel_rfl))⟩,⟨Tryz.f159.name,by kernel_rfl,Tryz.func159.trans (congrArg some (by kernel_rfl))⟩,⟨Tryz.f160.name,by kernel_rfl,Tryz.func160.trans (congrArg some (by kernel_rfl))⟩,Tryz.func161.trans (congrArg some (by kernel_rfl)),Tryz.func162.trans (congrArg some (by kernel_rfl)),⟨Tryz.f177.name,by kernel_rfl,Tryz.func177.trans (congrArg some (by kernel_rfl))⟩,Tryz.func178.trans (congrArg some (by kernel_rfl)),Tryz.func179.trans (congrArg some (by kernel_rfl)),⟨Tryz.f180.name,by kernel_rfl,Tryz.func180.trans (congrArg some (by kernel_rfl))⟩,⟨Tryz.f181.name,by kernel_rfl,Tryz.func181.trans (congrArg some (by kernel_rfl))⟩,⟨Tryz.f182.name,by kernel_rfl,Tryz.func182.trans (congrArg some (by kernel_rfl))⟩,Tryz.underlying0,Tryz.isAgg0,Tryz.sizeOf0,Tryz.zeroValue0,Tryz.underlying3,Tryz.isAgg3,Tryz.sizeOf3,Tryz.zeroValue3,Tryz.underlying4,Tryz.isAgg4,Tryz.sizeOf4,Tryz.zeroValue4,Tryz.underlying5,Tryz.isAgg5,Tryz.sizeOf5,Tryz.zeroValue5,Tryz.underlying9,Tryz.isAgg9,Tryz.sizeOf9,Tryz.zeroValue9,Tryz.underlying41,Tryz.isAgg41,Tryz.sizeOf41,Tryz.zeroValue41,Tryz.underlying128,Tryz.isAgg128,Tryz.sizeOf128,Tryz.zeroValue128,Tryz.underlying104,Tryz.isAgg104,Tryz.sizeOf104,Tryz.zeroValue104,Tryz.underlying219,Tryz.isAgg219,Tryz.sizeOf219,Tryz.zeroValue219,Tryz.underlying220,Tryz.isAgg220,Tryz.sizeOf220,Tryz.zeroValue220,Tryz.underlying184,Tryz.isAgg184,Tryz.sizeOf184,Tryz.zeroValue184,Tryz.underlying226,Tryz.isAgg226,Tryz.sizeOf226,Tryz.zeroValue226,Tryz.underlying228,Tryz.isAgg228,Tryz.sizeOf228,Tryz.zeroValue228,Tryz.underlying243,Tryz.isAgg243,Tryz.sizeOf243,Tryz.zeroValue243,Tryz.underlying247,Tryz.isAgg247,Tryz.sizeOf247,Tryz.zeroValue247,Tryz.underlying249,Tryz.isAgg249,Tryz.sizeOf249,Tryz.zeroValue249,Tryz.underlying250,Tryz.isAgg250,Tryz.sizeOf250,Tryz.zeroValue250⟩
theorem RB (w:World):(isAgg (Gv.t 24)).run Tryz.prog w= .ok true w:=Tryz.isAgg44 w
theorem Ol (w:World):(Go.sizeOf (Gv.t 24)).run Tryz.prog w= .ok 2 w:=Tryz.sizeOf44 w
def Vm:Go.Shelf.Ren:=⟨fun|23=>170|n=>n,fun|0=>0|3=>3|4=>4|22=>36|n=>n,fun n=>n⟩
theorem QY:Go.Proofs.Lays2.n23 Tryz.prog Vm:=⟨by kernel_rfl,Tryz.func170.trans (congrArg some (by kernel_rfl)),Tryz.underlying0,Tryz.isAgg0,Tryz.sizeOf0,Tryz.zeroValue0,Tryz.underlying3,Tryz.isAgg3,Tryz.sizeOf3,Tryz.zeroValue3,Tryz.underlying4,Tryz.isAgg4,Tryz.sizeOf4,Tryz.zeroValue4,Tryz.underlying36,Tryz.isAgg36,Tryz.sizeOf36,Tryz.zeroValue36,by kernel_rfl⟩
theorem aJ (n:Int) (u0:Int) (u1:Int):gG Tryz.prog 91 [(sI n),(sI u0),(sI u1)] [] (fun r=>(vB r)) (fun _=>[]) (aO n u0 u1):=
  iO tT mX Tryz.func91 (
  .r<| .r<| .e (bif (decide (u0≤n))then(decide (n≤u1))else false))
section
variable (p:ah)
abbrev k1:List CV:=[(cI p.buses),(.d (aZ none 5 Source.cell p.sources)),(.d (aZ none 6 Link.cell p.links)),(.d (aZ none 4 aN.cell p.racks))]
abbrev k0:List SV:=[(.agg (k1 p))]
end
theorem zA (p:ah):gG Tryz.prog 93 (k0 p) [] (fun r=>(vD (.fn 140 1 (vH [(Fz [(.int .i64 r.1),(aZ none 5 Source.cell r.2.1),(aZ none 6 Link.cell r.2.2.1),(aZ none 4 aN.cell r.2.2.2)] 0)])))) (fun _=>[]) (qE p):=
  iO tT mX Tryz.func93 (
  .rg {fr:=[(0,1)],fz:=[1]} []<| .r<| .e (p.buses,p.sources,p.links,p.racks))
theorem BH (p:ah):gG Tryz.prog 95 (k0 p) [] (fun r=>(vD (.fn 143 1 (vH [(Fz [(.int .i64 r.1),(aZ none 5 Source.cell r.2.1),(aZ none 6 Link.cell r.2.2.1),(aZ none 4 aN.cell r.2.2.2)] 0)])))) (fun _=>[]) (uM p):=
  iO tT mX Tryz.func95 (
  .rg {fr:=[(0,1)],fz:=[1]} []<| .r<| .e (p.buses,p.sources,p.links,p.racks))
theorem BK (p:ah):gG Tryz.prog 97 (k0 p) [] (fun r=>(vD (.fn 146 1 (vH [(Fz [(.int .i64 r.1),(aZ none 5 Source.cell r.2.1),(aZ none 6 Link.cell r.2.2.1),(aZ none 4 aN.cell r.2.2.2)] 0)])))) (fun _=>[]) (uS p):=
  iO tT mX Tryz.func97 (
  .rg {fr:=[(0,1)],fz:=[1]} []<| .r<| .e (p.buses,p.sources,p.links,p.racks))
section
variable (x1:Int) (u2:(List Source)) (u3:(List Link)) (u4:(List aN))
abbrev k2:DV:=(Fz [(.int .i64 x1),(aZ none 5 Source.cell u2),(aZ none 6 Link.cell u3),(aZ none 4 aN.cell u4)] 0)
abbrev k3:=(IntKind.wrap .i64 (x1 - 1))
end
theorem xE (x:Source) (x1:Int) (u2:(List Source)) (u3:(List Link)) (u4:(List aN)):gG Tryz.prog 140 [(.agg [(cI x.bus),(cI x.kind),(cI x.power),(cI x.sync),(cI x.ohm)]),(sD (k2 x1 u2 u3 u4))] [] (fun r=>(vB r)) (fun _=>[]) (lN x x1 u2 u3 u4):=
  iO tT mX Tryz.func140 (
  .rg {fr:=[(0,1)],fz:=[1]} []<| .cl 5 (aJ x.bus 0 (k3 x1)) fun r_=> .cg 9 [(r_,true)] (aJ x.kind 1 3) fun u0=> .cg 14 [((bif r_ then u0 else false),true)] (aJ x.power 1 100000) fun u1=> .cg 19 [((bif (bif r_ then u0 else false)then u1 else false),true)] (aJ x.sync 0 8) fun u5=> .cg 24 [((bif (bif (bif r_ then u0 else false)then u1 else false)then u5 else false),true)] (aJ x.ohm 10 100000) fun u6=> .r<| .e (bif (bif (bif (bif r_ then u0 else false)then u1 else false)then u5 else false)then u6 else false))
section
variable (x1:Int) (u0:(List Source)) (u1:(List Link)) (u2:(List aN))
abbrev k5:=(vH [(k2 x1 u0 u1 u2)])
abbrev k4:DV:=(Fz [(.fn 140 1 (k5 x1 u0 u1 u2))] 0)
end
theorem zX (x:Source) (x1:Int) (u0:(List Source)) (u1:(List Link)) (u2:(List aN)):gG Tryz.prog 139 [(.agg [(cI x.bus),(cI x.kind),(cI x.power),(cI x.sync),(cI x.ohm)]),(sD (k4 x1 u0 u1 u2))] [] (fun r=>(vB r)) (fun _=>[]) (qG x x1 u0 u1 u2):=
  iO tT mX Tryz.func139 (
  .rg {fr:=[(0,1)],fz:=[1]} []<| .cl 2 (xE x x1 u0 u1 u2) fun r_=> .r<| .e (!r_))
section
variable (s_:(List Source)) (f_:Int) (u0:(List Source)) (u1:(List Link)) (u2:(List aN)) (t8:Int)
abbrev k6:List SV:=[(sD (aZ none 5 Source.cell s_)),(sD (.fn 139 1 (vH [(k4 f_ u0 u1 u2)])))]
abbrev k7:=(IntKind.wrap .i64 (t8+1))
end
theorem vC (s_:(List Source)) (f_:Int) (u0:(List Source)) (u1:(List Link)) (u2:(List aN)):gG Tryz.prog 172 (k6 s_ f_ u0 u1 u2) [] (fun r=>(vI r)) (fun _=>[]) (mY s_ f_ u0 u1 u2):=
  iO tT mX Tryz.func172 (
  .r<| .r<| .lp (σ:=Int) (β:=Unit) (0) [] [] ⟨[0,1,7],[],fun t8=>[(8,(vI t8))],fun t8=>[]⟩ ⟨[],[],fun _=>[],fun _=>[]⟩
  (fun t8=> .r<| .it (.r<| .cl 5 (zX (at' s_ t8.toNat) f_ u0 u1 u2) fun r_=> .a1 ((0:Int)≤t8∧t8<(s_.length:Int))<| .rg {} [0,1]<| .it (.r<| .e (.done (.ret t8)))
  (.r<| .e (.next (k7 t8))))
  (.e (.done (.brk ()))))
  (fun _=> .r<| .e (-1)))
theorem sJ (s_:(List Source)) (f_:Int) (u0:(List Source)) (u1:(List Link)) (u2:(List aN)):gG Tryz.prog 138 (k6 s_ f_ u0 u1 u2) [] (fun r=>(vB r)) (fun _=>[]) (iP s_ f_ u0 u1 u2):=
  iO tT mX Tryz.func138 (
  .r<| .cl 2 (vC s_ f_ u0 u1 u2) fun r_=> .r<| .e (decide (0≤r_)))
theorem BI (l:(List Source)) (u0:Int) (u1:Int) (u2:(List Source)) (u3:(List Link)) (u4:(List aN)):gG Tryz.prog 92 [(sD (aZ none 5 Source.cell l)),(sI u0),(sD (.fn 140 1 (k5 u1 u2 u3 u4)))] [] (fun r=>(vB r)) (fun _=>[]) (qc l u0 u1 u2 u3 u4):=
  iO tT mX Tryz.func92 (
  .rg {fr:=[(0,1)],fz:=[1]} []<| .cg 7 [((decide ((l.length:Int)≤u0)),true)] (sJ l u1 u2 u3 u4) fun r_=> .r<| .e (bif (decide ((l.length:Int)≤u0))then(!r_)else false))
section
variable (x:Link)
abbrev k8:List CV:=[(cI x.a),(cI x.b),(cI x.kind),(cI x.most),(cI x.ohm),(.d (aZ none 2 sP.cell x.trip))]
end
theorem Af (x:Link) (x1:Int) (u3:(List Source)) (u4:(List Link)) (u5:(List aN)):gG Tryz.prog 143 [(.agg (k8 x)),(sD (k2 x1 u3 u4 u5))] [] (fun r=>(vB r)) (fun _=>[]) (nV x x1 u3 u4 u5):=
  iO tT mX Tryz.func143 (
  .rg {fr:=[(0,5)]} []<| .cl 5 (aJ x.a 0 (k3 x1)) fun r_=> .cg 13 [((!r_),false)] (aJ x.b 0 (k3 x1)) fun u1=> .cg 26 [((bif (bif (!r_)then true else(!u1))then true else(decide (x.a=x.b))),false)] (aJ x.kind 1 3) fun u6=> .cg 32 [((bif (bif (bif (!r_)then true else(!u1))then true else(decide (x.a=x.b)))then true else(!u6)),false)] (aJ x.most 1 100000) fun u8=> .cg 38 [((bif (bif (bif (bif (!r_)then true else(!u1))then true else(decide (x.a=x.b)))then true else(!u6))then true else(!u8)),false)] (aJ x.ohm 10 100000) fun u9=> .r<| .it (.r<| .e false)
  (.rg {fz:=[5]} []<| .lp (σ:=Int) (β:=Unit) (0) [] [] ⟨[2,48,49],[],fun u0=>[(50,(vI u0))],fun u0=>[]⟩ ⟨[2],[],fun _=>[],fun _=>[]⟩
  (fun u0=> .r<| .it (.a1 ((0:Int)≤u0∧u0<(x.trip.length:Int))<| .rg {fr:=[(3,9)],fz:=[9]} []<| .cl 2 (aJ ((at' x.trip u0.toNat).amps) 1 1000000) fun u2=> .cg 7 [((!u2),false)] (aJ ((at' x.trip u0.toNat).millis) 1 100000) fun u7=> .a2 ((gB [((decide (0<u0)),true),((bif (!u2)then true else(!u7)),false)]=true→(0:Int)≤(k3 u0)∧(k3 u0)<(x.trip.length:Int))) ((gB [((decide (((at' x.trip u0.toNat).amps)≤((at' x.trip ((k3 u0).toNat)).amps))),false),((decide (0<u0)),true),((bif (!u2)then true else(!u7)),false)]=true→(0:Int)≤(k3 u0)∧(k3 u0)<(x.trip.length:Int)))<| .rg {} [3,2,0,1]<| .it (.r<| .e (.done (.ret false)))
  (.r<| .e (.next (k7 u0))))
  (.e (.done (.brk ()))))
  (fun _=> .r<| .e (bif (decide ((x.trip.length:Int)≤6))then(bif (decide ((x.trip.length:Int)=0))then true else(decide (x.kind=3)))else false))))
section
variable (x1:Int) (u0:(List Source)) (u1:(List Link)) (u2:(List aN))
abbrev k9:DV:=(Fz [(.fn 143 1 (k5 x1 u0 u1 u2))] 0)
end
theorem wR (x:Link) (x1:Int) (u0:(List Source)) (u1:(List Link)) (u2:(List aN)):gG Tryz.prog 142 [(.agg (k8 x)),(sD (k9 x1 u0 u1 u2))] [] (fun r=>(vB r)) (fun _=>[]) (oq x x1 u0 u1 u2):=
  iO tT mX Tryz.func142 (
  .rg {fr:=[(0,1)],fz:=[1]} []<| .cl 2 (Af x x1 u0 u1 u2) fun r_=> .r<| .e (!r_))
section
variable (s_:(List Link)) (f_:Int) (u0:(List Source)) (u1:(List Link)) (u2:(List aN))
abbrev k10:List SV:=[(sD (aZ none 6 Link.cell s_)),(sD (.fn 142 1 (vH [(k9 f_ u0 u1 u2)])))]
end
theorem r9 (s_:(List Link)) (f_:Int) (u0:(List Source)) (u1:(List Link)) (u2:(List aN)):gG Tryz.prog 173 (k10 s_ f_ u0 u1 u2) [] (fun r=>(vI r)) (fun _=>[]) (kH s_ f_ u0 u1 u2):=
  iO tT mX Tryz.func173 (
  .r<| .r<| .lp (σ:=Int) (β:=Unit) (0) [] [] ⟨[0,1,7],[],fun t8=>[(8,(vI t8))],fun t8=>[]⟩ ⟨[],[],fun _=>[],fun _=>[]⟩
  (fun t8=> .r<| .it (.r<| .cl 5 (wR (at' s_ t8.toNat) f_ u0 u1 u2) fun r_=> .a1 ((0:Int)≤t8∧t8<(s_.length:Int))<| .rg {} [0,1]<| .it (.r<| .e (.done (.ret t8)))
  (.r<| .e (.next (k7 t8))))
  (.e (.done (.brk ()))))
  (fun _=> .r<| .e (-1)))
theorem p9 (s_:(List Link)) (f_:Int) (u0:(List Source)) (u1:(List Link)) (u2:(List aN)):gG Tryz.prog 141 (k10 s_ f_ u0 u1 u2) [] (fun r=>(vB r)) (fun _=>[]) (fT s_ f_ u0 u1 u2):=
  iO tT mX Tryz.func141 (
  .r<| .cl 2 (r9 s_ f_ u0 u1 u2) fun r_=> .r<| .e (decide (0≤r_)))
theorem Ak (l:(List Link)) (u0:Int) (u1:Int) (u2:(List Source)) (u3:(List Link)) (u4:(List aN)):gG Tryz.prog 94 [(sD (aZ none 6 Link.cell l)),(sI u0),(sD (.fn 143 1 (k5 u1 u2 u3 u4)))] [] (fun r=>(vB r)) (fun _=>[]) (nT l u0 u1 u2 u3 u4):=
  iO tT mX Tryz.func94 (
  .rg {fr:=[(0,1)],fz:=[1]} []<| .cg 7 [((decide ((l.length:Int)≤u0)),true)] (p9 l u1 u2 u3 u4) fun r_=> .r<| .e (bif (decide ((l.length:Int)≤u0))then(!r_)else false))
section
variable (x:aN)
abbrev k11:List CV:=[(cI x.feeds.e0),(cI x.feeds.e1),(cI x.power),(cI x.paths)]
end
theorem AV (x:aN):gG Tryz.prog 147 [(.agg (k11 x))] [] (fun r=>(vI r)) (fun _=>[]) (oU x):=
  iO tT mX Tryz.func147 (
  .rg {fr:=[(0,1)],fz:=[1]} []<| .rg {} [.pf ⟨(0:Int)≤1∧(1:Int)<(2:Nat),(by decide)⟩]<| .it (.r<| .e 1)
  (.r<| .e 2))
section
variable (r_:Bool) (u0:Bool) (x:aN) (u1:Bool)
abbrev k13:=(bif (bif (bif r_ then u0 else false)then(!decide (x.feeds.e0=x.feeds.e1))else false)then u1 else false)
abbrev k12:=((k13 r_ u0 x u1),true)
end
theorem zn (x:aN) (x1:Int) (u2:(List Source)) (u3:(List Link)) (u4:(List aN)):gG Tryz.prog 146 [(.agg (k11 x)),(sD (k2 x1 u2 u3 u4))] [] (fun r=>(vB r)) (fun _=>[]) (nQ x x1 u2 u3 u4):=
  iO tT mX Tryz.func146 (
  .rg {fr:=[(0,1)],fz:=[1]} []<| .rg {} [.pf ⟨(0:Int)≤0∧(0:Int)<(2:Nat),(by decide)⟩, .pf ⟨(0:Int)≤1∧(1:Int)<(2:Nat),(by decide)⟩]<| .cl 4 (aJ x.feeds.e0 0 (k3 x1)) fun r_=> .cg 10 [(r_,true)] (aJ x.feeds.e1 (-1) (k3 x1)) fun u0=> .cg 20 [((bif (bif r_ then u0 else false)then(!decide (x.feeds.e0=x.feeds.e1))else false),true)] (aJ x.power 1 100000) fun u1=> .cg 26 [(k12 r_ u0 x u1)] (AV x) fun u5=> .cg 27 [(k12 r_ u0 x u1)] (aJ x.paths 0 u5) fun u6=> .r<| .e (bif (k13 r_ u0 x u1)then u6 else false))
section
variable (x1:Int) (u0:(List Source)) (u1:(List Link)) (u2:(List aN))
abbrev k14:DV:=(Fz [(.fn 146 1 (k5 x1 u0 u1 u2))] 0)
end
theorem wh (x:aN) (x1:Int) (u0:(List Source)) (u1:(List Link)) (u2:(List aN)):gG Tryz.prog 145 [(.agg (k11 x)),(sD (k14 x1 u0 u1 u2))] [] (fun r=>(vB r)) (fun _=>[]) (nU x x1 u0 u1 u2):=
  iO tT mX Tryz.func145 (
  .rg {fr:=[(0,1)],fz:=[1]} []<| .cl 2 (zn x x1 u0 u1 u2) fun r_=> .r<| .e (!r_))
section
variable (s_:(List aN)) (f_:Int) (u0:(List Source)) (u1:(List Link)) (u2:(List aN))
abbrev k15:List SV:=[(sD (aZ none 4 aN.cell s_)),(sD (.fn 145 1 (vH [(k14 f_ u0 u1 u2)])))]
end
theorem sN (s_:(List aN)) (f_:Int) (u0:(List Source)) (u1:(List Link)) (u2:(List aN)):gG Tryz.prog 174 (k15 s_ f_ u0 u1 u2) [] (fun r=>(vI r)) (fun _=>[]) (kI s_ f_ u0 u1 u2):=
  iO tT mX Tryz.func174 (
  .r<| .r<| .lp (σ:=Int) (β:=Unit) (0) [] [] ⟨[0,1,7],[],fun t8=>[(8,(vI t8))],fun t8=>[]⟩ ⟨[],[],fun _=>[],fun _=>[]⟩
  (fun t8=> .r<| .it (.r<| .cl 5 (wh (⟨((at' s_ t8.toNat).feeds),(at' s_ t8.toNat).power,(at' s_ t8.toNat).paths⟩:aN) f_ u0 u1 u2) fun r_=> .a1 ((0:Int)≤t8∧t8<(s_.length:Int))<| .rg {} [0,1]<| .it (.r<| .e (.done (.ret t8)))
  (.r<| .e (.next (k7 t8))))
  (.e (.done (.brk ()))))
  (fun _=> .r<| .e (-1)))
theorem qa (s_:(List aN)) (f_:Int) (u0:(List Source)) (u1:(List Link)) (u2:(List aN)):gG Tryz.prog 144 (k15 s_ f_ u0 u1 u2) [] (fun r=>(vB r)) (fun _=>[]) (fV s_ f_ u0 u1 u2):=
  iO tT mX Tryz.func144 (
  .r<| .cl 2 (sN s_ f_ u0 u1 u2) fun r_=> .r<| .e (decide (0≤r_)))
theorem zm (l:(List aN)) (u0:Int) (u1:Int) (u2:(List Source)) (u3:(List Link)) (u4:(List aN)):gG Tryz.prog 96 [(sD (aZ none 4 aN.cell l)),(sI u0),(sD (.fn 146 1 (k5 u1 u2 u3 u4)))] [] (fun r=>(vB r)) (fun _=>[]) (ow l u0 u1 u2 u3 u4):=
  iO tT mX Tryz.func96 (
  .rg {fr:=[(0,1)],fz:=[1]} []<| .cg 7 [((decide ((l.length:Int)≤u0)),true)] (qa l u1 u2 u3 u4) fun r_=> .r<| .e (bif (decide ((l.length:Int)≤u0))then(!r_)else false))
theorem oO (p:ah):gG Tryz.prog 46 (k0 p) [] (fun r=>(vI r)) (fun _=>[]) (mO p):=
  iO tT mX Tryz.func46 (
  .rg {fr:=[(0,1)],fz:=[1]} []<| .cl 2 (aJ p.buses 1 24) fun r_=> .r<| .it (.r<| .e 10)
  (.cl 3 (zA p) fun u0=> .cl 4 (BI p.sources 8 u0.1 u0.2.1 u0.2.2.1 u0.2.2.2) fun u3=> .r<| .it (.r<| .e 11)
  (.cl 3 (BH p) fun u1=> .cl 4 (Ak p.links 40 u1.1 u1.2.1 u1.2.2.1 u1.2.2.2) fun u4=> .r<| .it (.r<| .e 12)
  (.cl 3 (BK p) fun u2=> .cl 4 (zm p.racks 24 u2.1 u2.2.1 u2.2.2.1 u2.2.2.2) fun u5=> .r<| .it (.r<| .e 13)
  (.r<| .e 0)))))
section
variable (s_:State) (p:ah)
abbrev k18:DV:=(aZ none 1 af s_.badSource)
abbrev k17:List CV:=[(.d (aZ none 1 af s_.closed)),(.d (aZ none 1 af s_.locked)),(.d (aZ none 1 af s_.badLink)),(.d (aZ none 1 af s_.on_)),(.d (k18 s_)),(.d (aZ none 1 af s_.earthed)),(.d (aZ none 1 af s_.badBus))]
abbrev k16:List SV:=[(.agg (k1 p)),(.agg (k17 s_))]
abbrev k19:=(⟨s_.closed,(p.links.length:Int)⟩:bY)
abbrev k20:=(⟨s_.locked,(p.links.length:Int)⟩:bY)
abbrev k21:=(⟨s_.badLink,(p.links.length:Int)⟩:bY)
abbrev k22:=(⟨s_.on_,(p.sources.length:Int)⟩:bY)
abbrev k23:=(⟨s_.badSource,(p.sources.length:Int)⟩:bY)
abbrev k24:=(av bY.cell [(k19 s_ p),(k20 s_ p),(k21 s_ p),(k22 s_ p),(k23 s_ p),(⟨s_.earthed,p.buses⟩:bY),(⟨s_.badBus,p.buses⟩:bY)])
end
theorem dm (p:ah) (s_:State):gG Tryz.prog 10 (k16 s_ p) [] (fun r=>(vI r)) (fun _=>[]) (cO p s_):=
  iO tT mX Tryz.func10 (
  .rg {fr:=[(0,11),(1,12)]} []<| .cl 1 (oO p) fun r_=> .r<| .r<| .it (.r<| .e r_)
  (.r<| .rg {an:=[(30, .arr [(k19 s_ p),(k20 s_ p),(k21 s_ p),(k22 s_ p),(k23 s_ p),(⟨s_.earthed,p.buses⟩:bY),(⟨s_.badBus,p.buses⟩:bY)].length (k24 s_ p))],fr:=[(30,13)],fz:=[12]} [.pf ⟨[(k19 s_ p),(k20 s_ p),(k21 s_ p),(k22 s_ p),(k23 s_ p),(⟨s_.earthed,p.buses⟩:bY),(⟨s_.badBus,p.buses⟩:bY)].length=7,rfl⟩, .pf ⟨aH 7 2 (mF 2 [(aZ none 1 af s_.closed),(.int .i64 (p.links.length:Int)),(aZ none 1 af s_.locked),(.int .i64 (p.links.length:Int)),(aZ none 1 af s_.badLink),(.int .i64 (p.links.length:Int)),(aZ none 1 af s_.on_),(.int .i64 (p.sources.length:Int)),(k18 s_),(.int .i64 (p.sources.length:Int)),(aZ none 1 af s_.earthed),(.int .i64 p.buses),(aZ none 1 af s_.badBus),(.int .i64 p.buses)]) (k24 s_ p),(by intro i hi j hj;match i,j,hi,hj with|0,0,_,_=>rfl|0,1,_,_=>rfl|1,0,_,_=>rfl|1,1,_,_=>rfl|2,0,_,_=>rfl|2,1,_,_=>rfl|3,0,_,_=>rfl|3,1,_,_=>rfl|4,0,_,_=>rfl|4,1,_,_=>rfl|5,0,_,_=>rfl|5,1,_,_=>rfl|6,0,_,_=>rfl|6,1,_,_=>rfl)⟩]<| .lp (σ:=Int) (β:=Unit) (0) [] [] ⟨[2,3,53,54],[11,13],fun u1=>[(55,(vI u1))],fun u1=>[]⟩ ⟨[2,3],[11],fun _=>[],fun _=>[]⟩
  (fun u1=> .r<| .it (.a1 ((0:Int)≤u1∧u1<([(k19 s_ p),(k20 s_ p),(k21 s_ p),(k22 s_ p),(k23 s_ p),(⟨s_.earthed,p.buses⟩:bY),(⟨s_.badBus,p.buses⟩:bY)].length:Int))<| .rg {fr:=[(2,17)],fz:=[17]} [0, .t 0 u1 ([(k19 s_ p),(k20 s_ p),(k21 s_ p),(k22 s_ p),(k23 s_ p),(⟨s_.earthed,p.buses⟩:bY),(⟨s_.badBus,p.buses⟩:bY)].length)]<| .r<| .it (.r<| .e (.done (.ret 9)))
  (.r<| .e (.next (k7 u1))))
  (.e (.done (.brk ()))))
  (fun _=> .r<| .lp (σ:=Int) (β:=Unit) (0) [] [] ⟨[3,67,68],[],fun u0=>[(69,(vI u0))],fun u0=>[]⟩ ⟨[],[],fun _=>[],fun _=>[]⟩
  (fun u0=> .r<| .it (.a1 ((0:Int)≤u0∧u0<(p.links.length:Int))<| .rg {fr:=[(3,21)],fz:=[21]} []<| .a2 ((gB [((decide (((at' p.links u0.toNat).kind)=1)),true)]=true→(0:Int)≤u0∧u0<(s_.closed.length:Int))) ((gB [((!(at' s_.closed u0.toNat)),false),((decide (((at' p.links u0.toNat).kind)=1)),true)]=true→(0:Int)≤u0∧u0<(s_.locked.length:Int)))<| .rg {} [0,1]<| .it (.r<| .e (.done (.ret 9)))
  (.r<| .e (.next (k7 u0))))
  (.e (.done (.brk ()))))
  (fun _=> .r<| .e 0))))
theorem kY (i:Int) (x1:Int) (u1:(List Source)) (u0:(List Link)) (u2:(List aN)):gG Tryz.prog 98 [(sI i),(sD (k2 x1 u1 u0 u2))] [] (fun r=>(vB r)) (fun _=>[]) (eT i x1 u1 u0 u2):=
  iO tT mX Tryz.func98 (
  .r<| .a1 ((gB [((bif (decide (0≤i))then(decide (i<(u0.length:Int)))else false),true)]=true→(0:Int)≤i∧i<(u0.length:Int)))<| .r<| .e (bif (bif (decide (0≤i))then(decide (i<(u0.length:Int)))else false)then(!decide (((at' u0 i.toNat).kind)=1))else false))
section
variable (x2:Int) (u0:(List Source)) (u1:(List Link)) (u2:(List aN))
abbrev k25:DV:=(Fz [(.fn 98 1 (k5 x2 u0 u1 u2))] 0)
end
theorem qM (x:Transfer) (x1:Int) (u3:(List Source)) (u4:(List Link)) (u5:(List aN)) (x2:Int) (u0:(List Source)) (u1:(List Link)) (u2:(List aN)):gG Tryz.prog 100 [(.agg [(cI x.watch),(cI x.open_),(cI x.close)]),(sD (k2 x1 u3 u4 u5)),(sD (k25 x2 u0 u1 u2))] [] (fun r=>(vB r)) (fun _=>[]) (gK x x1 u3 u4 u5 x2 u0 u1 u2):=
  iO tT mX Tryz.func100 (
  .rg {fr:=[(0,1)],fz:=[1]} []<| .cg 14 [((bif (decide (x.watch<0))then true else(decide (x1≤x.watch))),false)] (kY x.close x2 u0 u1 u2) fun r_=> .cg 25 [((!decide (x.open_=(-1))),true),((bif (bif (decide (x.watch<0))then true else(decide (x1≤x.watch)))then true else(!r_)),false)] (kY x.open_ x2 u0 u1 u2) fun u6=> .r<| .e (bif (bif (bif (decide (x.watch<0))then true else(decide (x1≤x.watch)))then true else(!r_))then true else(bif (!decide (x.open_=(-1)))then(bif (!u6)then true else(decide (x.open_=x.close)))else false)))
section
variable (s_:(List Transfer)) (f_:Int) (u0:(List Source)) (u1:(List Link)) (u2:(List aN)) (u3:Int) (u4:(List Source)) (u5:(List Link)) (u6:(List aN))
abbrev k27:DV:=(aZ none 3 Transfer.cell s_)
abbrev k26:List SV:=[(sD (k27 s_)),(sD (.fn 100 2 (vH [(k2 f_ u0 u1 u2),(k25 u3 u4 u5 u6)])))]
end
theorem sF (s_:(List Transfer)) (f_:Int) (u0:(List Source)) (u1:(List Link)) (u2:(List aN)) (u3:Int) (u4:(List Source)) (u5:(List Link)) (u6:(List aN)):gG Tryz.prog 148 (k26 s_ f_ u0 u1 u2 u3 u4 u5 u6) [] (fun r=>(vI r)) (fun _=>[]) (kJ s_ f_ u0 u1 u2 u3 u4 u5 u6):=
  iO tT mX Tryz.func148 (
  .r<| .r<| .lp (σ:=Int) (β:=Unit) (0) [] [] ⟨[0,1,7],[],fun t8=>[(8,(vI t8))],fun t8=>[]⟩ ⟨[],[],fun _=>[],fun _=>[]⟩
  (fun t8=> .r<| .it (.r<| .cl 5 (qM (at' s_ t8.toNat) f_ u0 u1 u2 u3 u4 u5 u6) fun r_=> .a1 ((0:Int)≤t8∧t8<(s_.length:Int))<| .rg {} [0,1]<| .it (.r<| .e (.done (.ret t8)))
  (.r<| .e (.next (k7 t8))))
  (.e (.done (.brk ()))))
  (fun _=> .r<| .e (-1)))
theorem rF (s_:(List Transfer)) (f_:Int) (u0:(List Source)) (u1:(List Link)) (u2:(List aN)) (u3:Int) (u4:(List Source)) (u5:(List Link)) (u6:(List aN)):gG Tryz.prog 99 (k26 s_ f_ u0 u1 u2 u3 u4 u5 u6) [] (fun r=>(vB r)) (fun _=>[]) (gJ s_ f_ u0 u1 u2 u3 u4 u5 u6):=
  iO tT mX Tryz.func99 (
  .r<| .cl 2 (sF s_ f_ u0 u1 u2 u3 u4 u5 u6) fun r_=> .r<| .e (decide (0≤r_)))
section
variable (p:ah) (s_:State) (l:(List Transfer))
abbrev k28:List SV:=[(.agg (k1 p)),(.agg (k17 s_)),(sD (k27 l))]
end
theorem mK (p:ah) (s_:State) (l:(List Transfer)):gG Tryz.prog 48 (k28 p s_ l) [] (fun r=>(vI r)) (fun _=>[]) (fM p s_ l):=
  iO tT mX Tryz.func48 (
  .rg {fr:=[(0,3),(1,4)],fz:=[4]} []<| .cl 2 (dm p s_) fun r_=> .r<| .r<| .it (.r<| .e r_)
  (.rg {fr:=[(1,5)],fz:=[3]} []<| .fz [5]<| .cg 6 [((decide (16<(l.length:Int))),false)] (rF l p.buses p.sources p.links p.racks p.buses p.sources p.links p.racks) fun u0=> .r<| .it (.r<| .e 1)
  (.r<| .e 0)))
theorem pI (s_:(List Bool)) (u0:Bool):gG Tryz.prog 101 [(sD (aZ (some u0) 1 af s_))] [] (fun r=>(vO 0 false r.length)) (fun r=>[(0,some (aV 4 1 af r))]) (qD s_ u0):=
  iO tT mX Tryz.func101 (
  .r<| .r<| .it (.r<| .im (.ad 2 2 4 1 (av af ([]:List Bool)))<| .en ([]:List Bool) [] [(2,0)])
  (.a2 ((([]:List Bool).length+s_.length)*1≤140737488355328) (([]:List Bool).length+s_.length≤4611686018427387904)<| .rg {an:=[(0, .arr ([]:List Bool).length (av af ([]:List Bool))),(2, .arr (([]:List Bool)++s_).length (av af (([]:List Bool)++s_)))],fr:=[(0,3),(2,4)]} [.pf ⟨([]:List Bool).length=0,rfl⟩, .pf ⟨aH 0 1 (mF 1 []) (av af ([]:List Bool)),(fun i hi=>absurd hi (Nat.not_lt_zero i))⟩, .e (([]:List Bool).length),0,1, .pf ⟨(([]:List Bool)++s_).length=([]:List Bool).length+s_.length,List.length_append⟩, .pf ⟨aH (([]:List Bool).length+s_.length) 1 (rq (av af ([]:List Bool)) ([]:List Bool).length (av af s_)) (av af (([]:List Bool)++s_)),dU _ _ _ _⟩]<| .en (([]:List Bool)++s_) [] [(4,0)]))
theorem aM (s:(List Bool)) {r:(List Bool)} (h:aU s=some r):Fn Tryz.prog 101 [(sD (aZ none 1 af s))] [] (vO 0 false r.length) [(0,some (aV 4 1 af r))]:=by
 refine Fn.nn (pI s true h) fun hl=> ?_
 have hs:s=[]:=List.eq_nil_of_length_eq_zero hl
 subst hs
 exact pI [] false (by rw [←h];kernel_rfl)
section
variable (s_:State)
abbrev Zm:List SV:=[(.agg (k17 s_))]
end
theorem wK (s_:State):gG Tryz.prog 49 (Zm s_) [] (fun r=>(.v (.agg [(.own 0 false r.closed.length),(.own 1 false r.locked.length),(.own 2 false r.badLink.length),(.own 3 false r.on_.length),(.own 4 false r.badSource.length),(.own 5 false r.earthed.length),(.own 6 false r.badBus.length)]))) (fun r=>[(0,some (aV 4 1 af r.closed)),(1,some (aV 4 1 af r.locked)),(2,some (aV 4 1 af r.badLink)),(3,some (aV 4 1 af r.on_)),(4,some (aV 4 1 af r.badSource)),(5,some (aV 4 1 af r.earthed)),(6,some (aV 4 1 af r.badBus)),(7,none)]) (og s_):=
  iO tT mX Tryz.func49 (
  .rg {fr:=[(0,10),(1,11)]} []<| .rg {an:=[(7, .cells)],fr:=[(7,12)]} []<| .ul 11<| .r<| .t<| .a1 ((0:Int)≤0∧0<(7:Int))<| .r<| .cl 4 (o9 [(0,13)] ⟨fun h=>aM s_.closed h⟩) fun r_=> .r<| .r<| .im (.dp [1,2,12,13,14])<| .r<| .t<| .a1 ((0:Int)≤1∧1<(7:Int))<| .r<| .cl 4 (o9 [(0,14)] ⟨fun h=>aM s_.locked h⟩) fun u0=> .r<| .r<| .im (.dp [1,2,12,13,14])<| .r<| .t<| .a1 ((0:Int)≤2∧2<(7:Int))<| .r<| .cl 4 (o9 [(0,15)] ⟨fun h=>aM s_.badLink h⟩) fun u1=> .r<| .r<| .im (.dp [1,2,12,13,14])<| .r<| .t<| .a1 ((0:Int)≤3∧3<(7:Int))<| .r<| .cl 4 (o9 [(0,16)] ⟨fun h=>aM s_.on_ h⟩) fun u2=> .r<| .r<| .im (.dp [1,2,12,13,14])<| .r<| .t<| .a1 ((0:Int)≤4∧4<(7:Int))<| .r<| .cl 4 (o9 [(0,17)] ⟨fun h=>aM s_.badSource h⟩) fun u3=> .r<| .r<| .im (.dp [1,2,12,13,14])<| .r<| .t<| .a1 ((0:Int)≤5∧5<(7:Int))<| .r<| .cl 4 (o9 [(0,18)] ⟨fun h=>aM s_.earthed h⟩) fun u4=> .r<| .r<| .im (.dp [1,2,12,13,14])<| .r<| .t<| .a1 ((0:Int)≤6∧6<(7:Int))<| .r<| .cl 4 (o9 [(0,19)] ⟨fun h=>aM s_.badBus h⟩) fun u5=> .r<| .r<| .im (.dp [1,2,12,13,14])<| .r<| .f<| .r<| .en (⟨r_,u0,u1,u2,u3,u4,u5⟩:State) [] [(13,0),(14,1),(15,2),(16,3),(17,4),(18,5),(19,6),(11,7)])
section
variable (s_:State)
abbrev X4:List CV:=[(.own 0 false s_.closed.length),(.own 1 false s_.locked.length),(.own 2 false s_.badLink.length),(.own 3 false s_.on_.length),(.own 4 false s_.badSource.length),(.own 5 false s_.earthed.length),(.own 6 false s_.badBus.length)]
abbrev TF:Nat × Option Ob:=(0,some (aV 4 1 af s_.closed))
abbrev JI:Nat × Option Ob:=(1,some (aV 4 1 af s_.locked))
abbrev Ji:Nat × Option Ob:=(2,some (aV 4 1 af s_.badLink))
abbrev Hl:Nat × Option Ob:=(3,some (aV 4 1 af s_.on_))
abbrev Jg:Nat × Option Ob:=(4,some (aV 4 1 af s_.badSource))
abbrev Jv:Nat × Option Ob:=(5,some (aV 4 1 af s_.earthed))
abbrev Jk:Nat × Option Ob:=(6,some (aV 4 1 af s_.badBus))
abbrev Xg:List (Nat × Option Ob):=[(TF s_),(JI s_),(Ji s_),(Hl s_),(Jg s_),(Jv s_),(Jk s_)]
end
theorem vU (p:ah) (s_:State) (l:(List Transfer)):gG Tryz.prog 50 [(.agg (k1 p)),(.agg (X4 s_)),(sD (k27 l))] (Xg s_) (fun r=>(.v (.one (.fn 102 0 3 (OA [(.d (Fz [(aZ none 3 Transfer.cell r.1)] 0)),(.d (Fz [(.int .i64 r.2.1),(aZ none 5 Source.cell r.2.2.1),(aZ none 6 Link.cell r.2.2.2.1),(aZ none 4 aN.cell r.2.2.2.2.1)] 0)),(.ptr 7 0)]))))) (fun r=>[(TF s_),(JI s_),(Ji s_),(Hl s_),(Jg s_),(Jv s_),(Jk s_),(7,some (.cells 29 (X4 s_)))]) (nY p s_ l):=
  iO tT mX Tryz.func50 (
  .rg {fr:=[(0,10),(1,11),(2,12)],fz:=[10,12]} []<| .r<| .en (l,p.buses,p.sources,p.links,p.racks,s_) [] [(11,7)])
noncomputable def ja:jd:=⟨[28,29],NF ([1,1,1,1,0,1,0]++[0]) (uI Tryz.f13),NF ([1,1,1,1,0,1,0]++[1]) (uI Tryz.f13),37,[]⟩
theorem vK (p:ah) (s_:State):gG Tryz.prog 104 (k16 s_ p) [] (fun r=>(vD (.fn 152 2 (vH [(Fz [(.int .i64 r.1),(aZ none 5 Source.cell r.2.1),(aZ none 6 Link.cell r.2.2.1),(aZ none 4 aN.cell r.2.2.2.1)] 0),(Fz [(aZ none 1 af r.2.2.2.2.1),(aZ none 1 af r.2.2.2.2.2.1),(aZ none 1 af r.2.2.2.2.2.2.1),(aZ none 1 af r.2.2.2.2.2.2.2.1),(aZ none 1 af r.2.2.2.2.2.2.2.2.1),(aZ none 1 af r.2.2.2.2.2.2.2.2.2.1),(aZ none 1 af r.2.2.2.2.2.2.2.2.2.2)] 0)])))) (fun _=>[]) (jV p s_):=
  iO tT mX Tryz.func104 (
  .rg {fr:=[(0,2),(1,3)],fz:=[2,3]} []<| .r<| .e (p.buses,p.sources,p.links,p.racks,s_.closed,s_.locked,s_.badLink,s_.on_,s_.badSource,s_.earthed,s_.badBus))
noncomputable def qF:jd:=⟨[22],NF ([1,1,0,1,0]++[0]) (uI Tryz.f51),NF ([1,1,0,1,0]++[1]) (uI Tryz.f51),125,[]⟩
section
variable (g:aW)
abbrev YH:List (Nat × Option Ob):=[(0,some (Gd 3 3 false false 1 1 (aF .i64) (aF .i64) g.head))]
end
theorem gI (g:aW) (x:Int):gG Tryz.prog 106 [(.agg [(.mp 0)]),(sI x)] (YH g) (fun r=>(vI r)) (fun r=>(YH g)) (cu g x):=
  iO tT mX Tryz.func106 (
  .rg {fr:=[(0,2)]} []<| .lp (σ:=Int) (β:=Unit) (x) [] [] ⟨[2],[0,2],fun x1=>[(1,(vI x1))],fun x1=>[]⟩ ⟨[],[],fun _=>[],fun _=>[]⟩
  (fun x1=> .rg {an:=[(3, .look (aT bU x1 g.head).isSome [(cI ((aT bU x1 g.head).getD 0))])]} [.pf ⟨j3 [some .i64] 1 1 g.head.length (vw (aF .i64) g.head) (vQ (aF .i64) g.head) [(.int .i64 x1)] [(.d (.int .i64 0))] (aT bU x1 g.head).isSome [(cI ((aT bU x1 g.head).getD 0))],kD (fun _=>rfl) (fun _ _=>rfl) g.head x1 0 rfl rfl rfl⟩]<| .r<| .it (.r<| .e (.done (.ret x1)))
  (.r<| .e (.next ((aT bU x1 g.head).getD 0))))
  (fun _=> .no))
theorem uP (g:aW) (a:Int) (b:Int):gG Tryz.prog 105 [(.agg [(.mp 0)]),(sI a),(sI b)] (YH g) (fun r=>(.fC [])) (fun r=>[(0,some (Gd 3 3 false false 1 1 (aF .i64) (aF .i64) r))]) (jE g a b):=
  iO tT mX Tryz.func105 (
  .rg {fr:=[(0,2)]} []<| .cr 2 (gI g a) fun r_=> .cr 5 (gI g b) fun u0=> .r<| .r<| .it (.rg {an:=[(4, .map (fA bU r_ u0 g.head).length (vw (aF .i64) (fA bU r_ u0 g.head)) (vQ (aF .i64) (fA bU r_ u0 g.head)) [])]} [.pf ⟨o7 [some .i64] 1 1 g.head.length (vw (aF .i64) g.head) (vQ (aF .i64) g.head) [(.int .i64 r_)] [(cI u0)] [] (fA bU r_ u0 g.head).length (vw (aF .i64) (fA bU r_ u0 g.head)) (vQ (aF .i64) (fA bU r_ u0 g.head)),Cu (fun _=>rfl) (fun _ _=>rfl) g.head r_ u0 rfl rfl⟩]<| .e (fA bU r_ u0 g.head))
  (.e g.head))
section
variable (o_:aW)
abbrev YI:Nat × Option Ob:=(0,some (.loop qF 0 [(5,(vP 1 0))]))
abbrev Zc:List (Nat × Option Ob):=[YI,(1,some (.cells 178 [(.mp 2)])),(2,some (Gd 3 3 false false 1 1 (aF .i64) (aF .i64) o_.head))]
end
theorem tL (u0:Int) (u1:Int) (u2:Int) (u3:Int) (u4:Int) (u5:(List sP)) (o_:aW):U4 Tryz.prog 0 [(.agg [(cI u0),(cI u1),(cI u2),(cI u3),(cI u4),(.d (aZ none 2 sP.cell u5))])] (Zc o_) (fun _=>vB true) (fun r=>[YI,(1,some (.cells 178 [(.mp 2)])),(2,some (Gd 3 3 false false 1 1 (aF .i64) (aF .i64) r.head))]) (lH u0 u1 u2 u3 u4 u5 o_):=
  Ze tT mX qF ⟨[5],[0,1,2],fun _=>[(6,(vD (Fz [(.int .i64 u0),(.int .i64 u1),(.int .i64 u2),(.int .i64 u3),(.int .i64 u4),(aZ none 2 sP.cell u5)] 0)))],fun _=>[]⟩ (.rg {fr:=[(0,4)],fz:=[4]} []<| .e ())
  (.cl 5 (o9 [(0,2)] (uP o_ u0 u1)) fun r_=> .r<| .e (⟨r_⟩:aW))
section
variable (x2:(List Bool)) (u6:(List Bool)) (u2:(List Bool)) (u7:(List Bool)) (u8:(List Bool)) (u9:(List Bool)) (u1:(List Bool)) (t9:Int) (u0:(List Link))
abbrev Vx:DV:=(Fz [(aZ none 1 af x2),(aZ none 1 af u6),(aZ none 1 af u2),(aZ none 1 af u7),(aZ none 1 af u8),(aZ none 1 af u9),(aZ none 1 af u1)] 0)
abbrev Y8:=(bif (bif (at' x2 t9.toNat)then(!(at' u2 t9.toNat))else false)then(!(at' u1 (((at' u0 t9.toNat).a).toNat)))else false)
abbrev VK:=((0:Int)≤t9∧t9<(x2.length:Int))
abbrev Y7:=((gB [((bif (at' x2 t9.toNat)then(!(at' u2 t9.toNat))else false),true)]=true→(0:Int)≤(at' u0 t9.toNat).a∧(at' u0 t9.toNat).a<(u1.length:Int)))
abbrev Y6:=((gB [((Y8 x2 u2 u1 t9 u0),true)]=true→(0:Int)≤(at' u0 t9.toNat).b∧(at' u0 t9.toNat).b<(u1.length:Int)))
end
theorem tY (x1:Int) (u4:(List Source)) (u0:(List Link)) (u5:(List aN)) (x2:(List Bool)) (u6:(List Bool)) (u2:(List Bool)) (u7:(List Bool)) (u8:(List Bool)) (u9:(List Bool)) (u1:(List Bool)) (o_:aW):gG Tryz.prog 152 [(.one (.yl 0)),(sD (k2 x1 u4 u0 u5)),(sD (Vx x2 u6 u2 u7 u8 u9 u1))] (Zc o_) (fun r=>(.fC [])) (fun r=>[YI,(1,some (.cells 178 [(.mp 2)])),(2,some (Gd 3 3 false false 1 1 (aF .i64) (aF .i64) r.head))]) (lu x1 u4 u0 u5 x2 u6 u2 u7 u8 u9 u1 o_):=
  iO tT mX Tryz.func152 (
  .r<| .lp (σ:=((List (Int × Int)) × Int)) (β:=(List (Int × Int))) (o_.head,0) [] [] ⟨[0,2,7,8],[0,1],fun(u3,t9)=>[(9,(vI t9))],fun(u3,t9)=>[(2,some (Gd 3 3 false false 1 1 (aF .i64) (aF .i64) u3))]⟩ ⟨[],[0,1],fun o501=>[],fun o501=>[(2,some (Gd 3 3 false false 1 1 (aF .i64) (aF .i64) o501))]⟩
  (fun(u3,t9)=> .r<| .it (.a1 ((0:Int)≤t9∧t9<(u0.length:Int))<| .rg {fr:=[(3,10)],fz:=[10]} []<| .fk (bif (Y8 x2 u2 u1 t9 u0)then(!(at' u1 (((at' u0 t9.toNat).b).toNat)))else false) (.cy 34 (tL ((at' u0 t9.toNat).a) ((at' u0 t9.toNat).b) ((at' u0 t9.toNat).kind) ((at' u0 t9.toNat).most) ((at' u0 t9.toNat).ohm) ((at' u0 t9.toNat).trip) (⟨u3⟩:aW)) fun r_=> .a4 (VK x2 t9) ((gB [((at' x2 t9.toNat),true)]=true→(0:Int)≤t9∧t9<(u2.length:Int))) (Y7 x2 u2 u1 t9 u0) (Y6 x2 u2 u1 t9 u0)<| .rg {ov:=[(31,true,5)]} [0,1,2,3, .k 4]<| .f<| .r<| .e (.next (r_.head,(k7 t9))))
  (.a4 (VK x2 t9) ((gB [((at' x2 t9.toNat),true)]=true→(0:Int)≤t9∧t9<(u2.length:Int))) (Y7 x2 u2 u1 t9 u0) (Y6 x2 u2 u1 t9 u0)<| .rg {ov:=[(31,false,4)],sk:=[32,33,34,35]} [0,1,2,3]<| .f<| .r<| .e (.next (u3,(k7 t9)))))
  (.e (.done (.brk u3))))
  (fun o501=> .e (⟨o501⟩:aW)))
section
variable (u1:(List aI)) (u2:(List (Int × Int))) (u0:Int) (u3:Int) (s_:State) (u7:Int) (p:ah) (u5:(List aI)) (u6:Int) (u4:(List (Int × Int)))
abbrev Y3:List (Nat × Option Ob):=[(60,some (.rows 122 2 u1.length (uH aI.ev u1) none)),(61,some (Gd 3 3 false false 1 1 (aF .i64) (aF .i64) u2))]
abbrev Ew:=((aT bU u0 u2).getD 0)
abbrev VB:List CV:=[(cI (Ew u2 u0))]
abbrev LQ:=(fA bU u0 (u1.length:Int) u2)
abbrev QT:=(u1++[(⟨([]:List Int),([]:List Int)⟩:aI)])
abbrev YR:=(uH aI.ev (QT u1))
abbrev Tc:=((aT bU u0 (LQ u1 u2 u0)).getD 0)
abbrev Yu:=((Tc u1 u2 u0).toNat)
abbrev Zi:=(at' (QT u1) (Yu u1 u2 u0))
abbrev TP:=((Zi u1 u2 u0).buses)
abbrev Zr:=((TP u1 u2 u0).length+[u3].length)
abbrev VJ:=((TP u1 u2 u0)++[u3])
abbrev YP:=(av (aF .i64) (VJ u1 u2 u0 u3))
abbrev Yv:=((QT u1).set (Yu u1 u2 u0) (⟨(VJ u1 u2 u0 u3),(Zi u1 u2 u0).sources⟩:aI))
abbrev Y4:=(uH aI.ev (Yv u1 u2 u0 u3))
abbrev Q6:=((at' u1 ((Ew u2 u0).toNat)).buses)
abbrev VD:=((Q6 u1 u2 u0)++[u3])
abbrev YL:=(av (aF .i64) (VD u1 u2 u0 u3))
abbrev YX:=(u1.set ((Ew u2 u0).toNat) (⟨(VD u1 u2 u0 u3),(at' u1 ((Ew u2 u0).toNat)).sources⟩:aI))
abbrev Y2:=(uH aI.ev (YX u1 u2 u0 u3))
abbrev Y9:=((gB [((at' s_.on_ u7.toNat),true)]=true→(0:Int)≤u7∧u7<(s_.badSource.length:Int)))
abbrev Zn:=((gB [((bif (at' s_.on_ u7.toNat)then(!(at' s_.badSource u7.toNat))else false),true)]=true→(0:Int)≤(at' p.sources u7.toNat).bus∧(at' p.sources u7.toNat).bus<(s_.badBus.length:Int)))
abbrev Tk:=((at' u5 ((Ew u4 u6).toNat)).sources)
abbrev Vz:=((Tk u5 u6 u4)++[u7])
abbrev YO:=(av (aF .i64) (Vz u7 u5 u6 u4))
abbrev Yx:=(u5.set ((Ew u4 u6).toNat) (⟨(at' u5 ((Ew u4 u6).toNat)).buses,(Vz u7 u5 u6 u4)⟩:aI))
abbrev Zt:=(uH aI.ev (Yx u7 u5 u6 u4))
end
theorem mW (p:ah) (s_:State):gG Tryz.prog 51 (k16 s_ p) [] (fun r=>(vD (aZ none 2 aI.cell r))) (fun _=>[]) (gU p s_):=
  iO tT mX Tryz.func51 (
  .rg {fr:=[(0,55),(1,56)],fz:=[56]} []<| .rg {an:=[(0, .map 0 (vw (aF .i64) ([]:(List (Int × Int)))) (vQ (aF .i64) ([]:(List (Int × Int)))) [])],fr:=[(0,57),(2,58)]} []<| .cl 2 (vK p s_) fun r_=> .r<| .cl 0 (o9 [(0,59),(1,58),(2,57)] (tY r_.1 r_.2.1 r_.2.2.1 r_.2.2.2.1 r_.2.2.2.2.1 r_.2.2.2.2.2.1 r_.2.2.2.2.2.2.1 r_.2.2.2.2.2.2.2.1 r_.2.2.2.2.2.2.2.2.1 r_.2.2.2.2.2.2.2.2.2.1 r_.2.2.2.2.2.2.2.2.2.2 (⟨([]:(List (Int × Int)))⟩:aW))) fun v0=> .rf 59 [5] [] none 0 []<| .r<| .im (.Zy 7 60 122 2 (uH aI.ev ([]:List aI)))<| .rg {an:=[(0, .map 0 (vw (aF .i64) ([]:(List (Int × Int)))) (vQ (aF .i64) ([]:(List (Int × Int)))) [])],fr:=[(0,61)]} []<| .r<| .lp (σ:=((List aI) × (List (Int × Int)) × Int)) (β:=((List aI) × (List (Int × Int)))) (([]:List aI),([]:(List (Int × Int))),0) [] [] ⟨[2,3,5,8,31],[55,57,58],fun(u1,u2,u3)=>[(7,(vO 60 false u1.length)),(32,(vI u3))],fun(u1,u2,u3)=>(Y3 u1 u2)⟩ ⟨[2,3,5,8],[55,57,58],fun(u9,u4)=>[(7,(vO 60 false u9.length))],fun(u9,u4)=>(Y3 u9 u4)⟩
  (fun(u1,u2,u3)=> .r<| .it (.r<| .a1 ((0:Int)≤u3∧u3<(s_.badBus.length:Int))<| .r<| .it (.r<| .e (.next (u1,u2,(k7 u3))))
  (.cr 2 (o9 [(0,57)] (gI v0 u3)) fun u0=> .r<| .rg {an:=[(2, .look (aT bU u0 u2).isSome (VB u2 u0))]} [.pf ⟨j3 [some .i64] 1 1 u2.length (vw (aF .i64) u2) (vQ (aF .i64) u2) [(.int .i64 u0)] [(.d (.int .i64 0))] (aT bU u0 u2).isSome (VB u2 u0),kD (fun _=>rfl) (fun _ _=>rfl) u2 u0 0 rfl rfl rfl⟩]<| .r<| .it (.rg {an:=[(4, .map (LQ u1 u2 u0).length (vw (aF .i64) (LQ u1 u2 u0)) (vQ (aF .i64) (LQ u1 u2 u0)) [])]} [.pf ⟨o7 [some .i64] 1 1 u2.length (vw (aF .i64) u2) (vQ (aF .i64) u2) [(.int .i64 u0)] [(cI (u1.length:Int))] [] (LQ u1 u2 u0).length (vw (aF .i64) (LQ u1 u2 u0)) (vQ (aF .i64) (LQ u1 u2 u0)),Cu (fun _=>rfl) (fun _ _=>rfl) u2 u0 (u1.length:Int) rfl rfl⟩]<| .a2 ((u1.length+[(⟨([]:List Int),([]:List Int)⟩:aI)].length)*48≤140737488355328) (u1.length+[(⟨([]:List Int),([]:List Int)⟩:aI)].length≤4611686018427387904)<| .rg {an:=[(2, .arr [(⟨([]:List Int),([]:List Int)⟩:aI)].length (mF 2 [nS,nS])),(3, .rows (QT u1).length (YR u1))],fr:=[(2,86),(3,87)]} [.pf ⟨[(⟨([]:List Int),([]:List Int)⟩:aI)].length=1,rfl⟩, .pf ⟨aH 1 2 (mF 2 [nS,nS]) (mF 2 [nS,nS]),DW _ _ _⟩, .e (u1.length),0,1, .pf ⟨(QT u1).length=u1.length+[(⟨([]:List Int),([]:List Int)⟩:aI)].length,List.length_append⟩, .pf ⟨Ca u1.length [(⟨([]:List Int),([]:List Int)⟩:aI)].length 2 (uH aI.ev u1) (mF 2 [nS,nS]) (YR u1),Rc _ _ _ _ _ (by intro i hi j hj;match i,j,hi,hj with|0,0,_,_=>exact⟨rfl,_,_,_,rfl⟩|0,1,_,_=>exact⟨rfl,_,_,_,rfl⟩)⟩]<| .rg {an:=[(2, .look (aT bU u0 (LQ u1 u2 u0)).isSome [(cI (Tc u1 u2 u0))])]} [.pf ⟨j3 [some .i64] 1 1 (LQ u1 u2 u0).length (vw (aF .i64) (LQ u1 u2 u0)) (vQ (aF .i64) (LQ u1 u2 u0)) [(.int .i64 u0)] [(.d (.int .i64 0))] (aT bU u0 (LQ u1 u2 u0)).isSome [(cI (Tc u1 u2 u0))],kD (fun _=>rfl) (fun _ _=>rfl) (LQ u1 u2 u0) u0 0 rfl rfl rfl⟩]<| .a3 ((0:Int)≤(Tc u1 u2 u0)∧(Tc u1 u2 u0)<((QT u1).length:Int)) ((Zr u1 u2 u0 u3)*8≤140737488355328) ((TP u1 u2 u0).length+[u3].length≤4611686018427387904)<| .rg {an:=[(6, .take 88),(8, .arr [u3].length (av (aF .i64) [u3])),(9, .arr (VJ u1 u2 u0 u3).length (YP u1 u2 u0 u3)),(12, .rows 0 (Y4 u1 u2 u0 u3))],fr:=[(8,89),(9,90)]} [0, .t 0 (Tc u1 u2 u0) ((QT u1).length), .pf ⟨[u3].length=1,rfl⟩, .pf ⟨aH 1 1 (mF 1 [(.int .i64 u3)]) (av (aF .i64) [u3]),(by intro i hi j hj;match i,j,hi,hj with|0,0,_,_=>rfl)⟩, .e ((TP u1 u2 u0).length),1,2, .pf ⟨(VJ u1 u2 u0 u3).length=(TP u1 u2 u0).length+[u3].length,List.length_append⟩, .pf ⟨aH (Zr u1 u2 u0 u3) 1 (rq (av (aF .i64) (TP u1 u2 u0)) (TP u1 u2 u0).length (av (aF .i64) [u3])) (YP u1 u2 u0 u3),dU _ _ _ _⟩,0, .t 0 (Tc u1 u2 u0) ((QT u1).length), .e ((VJ u1 u2 u0 u3).length), .pf ⟨PD (QT u1).length 2 (TN (YR u1) (Yu u1 u2 u0) 0 (.row 3 1 (VJ u1 u2 u0 u3).length (YP u1 u2 u0 u3))) (Y4 u1 u2 u0 u3),D6 _ _ _ _ _ _ _ _ rfl (fun j hj=>(match j,hj with|0,_=>rfl|1,_=>rfl))⟩, .pf ⟨∀i0 j0 c0,((some ((Tc u1 u2 u0).toNat,0,CV.own 88 false (TP u1 u2 u0).length)):Option (Nat × Nat × CV))=some (i0,j0,c0)→i0=(Tc u1 u2 u0).toNat∧j0=0,(fun i0 j0 c0 e=>by cases e;exact⟨rfl,rfl⟩)⟩]<| .im (.ll 87 (QT u1) (Yv u1 u2 u0 u3))<| .r<| .en (.next ((Yv u1 u2 u0 u3),(LQ u1 u2 u0),(k7 u3))) [] [(87,60)])
  (.rg {an:=[(2, .look (aT bU u0 u2).isSome (VB u2 u0))]} [.pf ⟨j3 [some .i64] 1 1 u2.length (vw (aF .i64) u2) (vQ (aF .i64) u2) [(.int .i64 u0)] [(.d (.int .i64 0))] (aT bU u0 u2).isSome (VB u2 u0),kD (fun _=>rfl) (fun _ _=>rfl) u2 u0 0 rfl rfl rfl⟩]<| .a3 ((0:Int)≤(Ew u2 u0)∧(Ew u2 u0)<(u1.length:Int)) (((Q6 u1 u2 u0).length+[u3].length)*8≤140737488355328) ((Q6 u1 u2 u0).length+[u3].length≤4611686018427387904)<| .rg {an:=[(6, .take 91),(8, .arr [u3].length (av (aF .i64) [u3])),(9, .arr (VD u1 u2 u0 u3).length (YL u1 u2 u0 u3)),(12, .rows 0 (Y2 u1 u2 u0 u3))],fr:=[(8,92),(9,93)]} [0, .t 0 (Ew u2 u0) u1.length, .pf ⟨[u3].length=1,rfl⟩, .pf ⟨aH 1 1 (mF 1 [(.int .i64 u3)]) (av (aF .i64) [u3]),(by intro i hi j hj;match i,j,hi,hj with|0,0,_,_=>rfl)⟩, .e ((Q6 u1 u2 u0).length),1,2, .pf ⟨(VD u1 u2 u0 u3).length=(Q6 u1 u2 u0).length+[u3].length,List.length_append⟩, .pf ⟨aH ((Q6 u1 u2 u0).length+[u3].length) 1 (rq (av (aF .i64) (Q6 u1 u2 u0)) (Q6 u1 u2 u0).length (av (aF .i64) [u3])) (YL u1 u2 u0 u3),dU _ _ _ _⟩,0, .t 0 (Ew u2 u0) u1.length, .e ((VD u1 u2 u0 u3).length), .pf ⟨PD u1.length 2 (TN (uH aI.ev u1) ((Ew u2 u0).toNat) 0 (.row 3 1 (VD u1 u2 u0 u3).length (YL u1 u2 u0 u3))) (Y2 u1 u2 u0 u3),D6 _ _ _ _ _ _ _ _ rfl (fun j hj=>(match j,hj with|0,_=>rfl|1,_=>rfl))⟩, .pf ⟨∀i0 j0 c0,((some ((Ew u2 u0).toNat,0,CV.own 91 false (Q6 u1 u2 u0).length)):Option (Nat × Nat × CV))=some (i0,j0,c0)→i0=(Ew u2 u0).toNat∧j0=0,(fun i0 j0 c0 e=>by cases e;exact⟨rfl,rfl⟩)⟩]<| .im (.ll 60 u1 (YX u1 u2 u0 u3))<| .r<| .e (.next ((YX u1 u2 u0 u3),u2,(k7 u3))))))
  (.e (.done (.brk (u1,u2)))))
  (fun(u9,u4)=> .r<| .lp (σ:=((List aI) × Int)) (β:=(List aI)) (u9,0) [] [] ⟨[3,5,8,76,77],[57,58,61],fun(u5,u7)=>[(7,(vO 60 false u5.length)),(78,(vI u7))],fun(u5,u7)=>[(60,some (.rows 122 2 u5.length (uH aI.ev u5) none))]⟩ ⟨[],[],fun u8=>[(7,(vO 60 false u8.length))],fun u8=>[(60,some (.rows 122 2 u8.length (uH aI.ev u8) none))]⟩
  (fun(u5,u7)=> .r<| .it (.a1 ((0:Int)≤u7∧u7<(p.sources.length:Int))<| .rg {fr:=[(3,106)],fz:=[106]} []<| .a3 ((0:Int)≤u7∧u7<(s_.on_.length:Int)) (Y9 s_ u7) (Zn s_ u7 p)<| .rg {} [0,1,2]<| .it (.cr 4 (o9 [(0,57)] (gI v0 ((at' p.sources u7.toNat).bus))) fun u6=> .rg {an:=[(5, .look (aT bU u6 u4).isSome (VB u4 u6))]} [0, .pf ⟨j3 [some .i64] 1 1 u4.length (vw (aF .i64) u4) (vQ (aF .i64) u4) [(.int .i64 u6)] [(.d (.int .i64 0))] (aT bU u6 u4).isSome (VB u4 u6),kD (fun _=>rfl) (fun _ _=>rfl) u4 u6 0 rfl rfl rfl⟩]<| .a3 ((0:Int)≤(Ew u4 u6)∧(Ew u4 u6)<(u5.length:Int)) (((Tk u5 u6 u4).length+[u7].length)*8≤140737488355328) ((Tk u5 u6 u4).length+[u7].length≤4611686018427387904)<| .rg {an:=[(6, .take 107),(8, .arr [u7].length (av (aF .i64) [u7])),(9, .arr (Vz u7 u5 u6 u4).length (YO u7 u5 u6 u4)),(12, .rows 0 (Zt u7 u5 u6 u4))],fr:=[(8,108),(9,109)]} [0, .t 0 (Ew u4 u6) u5.length, .pf ⟨[u7].length=1,rfl⟩, .pf ⟨aH 1 1 (mF 1 [(.int .i64 u7)]) (av (aF .i64) [u7]),(by intro i hi j hj;match i,j,hi,hj with|0,0,_,_=>rfl)⟩, .e ((Tk u5 u6 u4).length),1,2, .pf ⟨(Vz u7 u5 u6 u4).length=(Tk u5 u6 u4).length+[u7].length,List.length_append⟩, .pf ⟨aH ((Tk u5 u6 u4).length+[u7].length) 1 (rq (av (aF .i64) (Tk u5 u6 u4)) (Tk u5 u6 u4).length (av (aF .i64) [u7])) (YO u7 u5 u6 u4),dU _ _ _ _⟩,0, .t 0 (Ew u4 u6) u5.length, .e ((Vz u7 u5 u6 u4).length), .pf ⟨PD u5.length 2 (TN (uH aI.ev u5) ((Ew u4 u6).toNat) 1 (.row 3 1 (Vz u7 u5 u6 u4).length (YO u7 u5 u6 u4))) (Zt u7 u5 u6 u4),D6 _ _ _ _ _ _ _ _ rfl (fun j hj=>(match j,hj with|0,_=>rfl|1,_=>rfl))⟩, .pf ⟨∀i0 j0 c0,((some ((Ew u4 u6).toNat,1,CV.own 107 false (Tk u5 u6 u4).length)):Option (Nat × Nat × CV))=some (i0,j0,c0)→i0=(Ew u4 u6).toNat∧j0=1,(fun i0 j0 c0 e=>by cases e;exact⟨rfl,rfl⟩)⟩]<| .im (.ll 60 u5 (Yx u7 u5 u6 u4))<| .r<| .e (.next ((Yx u7 u5 u6 u4),(k7 u7))))
  (.r<| .e (.next (u5,(k7 u7)))))
  (.e (.done (.brk u5))))
  (fun u8=> .r<| .fz [60]<| .im (.us 4 (vD (.sl none 2 u8.length (fun i j=>YE (uH aI.ev u8 i j)))) (vD (aZ none 2 aI.cell u8)) (Bl.v (mD.one (eF.d (dN.sl (.inr rfl) (fun i _ j hj=>match j,hj with|0,_=> .refl _|1,_=> .refl _))))))<| .e u8)))
section
variable (p:ah) (u1:(List aI)) (u0:Int) (u3:Int) (u2:(List Bool))
abbrev Uj:=(List.replicate p.buses.toNat (false:Bool))
abbrev Ye:=(av af (Uj p))
abbrev VI:=(at' ((at' u1 u0.toNat).buses) u3.toNat)
abbrev Y1:=((0:Int)≤(VI u1 u0 u3)∧(VI u1 u0 u3)<(u2.length:Int))
abbrev Ym:=(u2.set ((VI u1 u0 u3).toNat) (decide (0<(((at' u1 u0.toNat).sources).length:Int))))
abbrev XZ:=(av af (Ym u1 u0 u3 u2))
abbrev Za:=(pq (av af u2) ((VI u1 u0 u3).toNat) 0 [(.bool (decide (0<(((at' u1 u0.toNat).sources).length:Int))))])
abbrev Zu:=((Ym u1 u0 u3 u2),(k7 u3))
end
theorem pK (p:ah) (s_:State):gG Tryz.prog 14 (k16 s_ p) [] (fun r=>(.fC [(.one (.own 0 false r.1.length)),(sI r.2)])) (fun r=>[(0,some (aV 4 1 af r.1))]) (eD p s_):=
  iO tT mX Tryz.func14 (
  .rg {fr:=[(0,7),(1,8)],fz:=[7,8]} []<| .cl 2 (dm p s_) fun r_=> .r<| .r<| .it (.r<| .im (.ad 4 9 4 1 (av af ([]:List Bool)))<| .en (([]:List Bool),r_) [] [(9,0)])
  (.a3 ((0:Int)≤p.buses) ((1:Int)*p.buses≤281474976710656) ((p.buses:Int)≤9223372036854775807)<| .rg {an:=[(2, .arr (Uj p).length (Ye p))],fr:=[(2,10)]} [0, .e ((p.buses:Int)),1,2, .pf ⟨(Uj p).length=p.buses.toNat,List.length_replicate⟩, .pf ⟨aH p.buses.toNat 1 (fun _ j=>[(.bool false)].getD j .nilp) (Ye p),lY _ _ _ _ _ (fun j hj=>(match j,hj with|0,_=>rfl))⟩]<| .cl 2 (mW p s_) fun u1=> .r<| .lp (σ:=((List Bool) × Int)) (β:=(List Bool)) ((Uj p),0) [] [] ⟨[23,24],[],fun(u4,u0)=>[(7,(vO 10 true u4.length)),(25,(vI u0))],fun(u4,u0)=>[(10,some (aV 4 1 af u4))]⟩ ⟨[],[],fun u5=>[(7,(vO 10 true u5.length))],fun u5=>[(10,some (aV 4 1 af u5))]⟩
  (fun(u4,u0)=> .r<| .it (.a1 ((0:Int)≤u0∧u0<(u1.length:Int))<| .rg {fr:=[(2,14)]} []<| .rg {fz:=[14]} []<| .lp (σ:=((List Bool) × Int)) (β:=(List Bool)) (u4,0) [] [] ⟨[9,23,24,25,30,31],[],fun(u2,u3)=>[(7,(vO 10 true u2.length)),(32,(vI u3))],fun(u2,u3)=>[(10,some (aV 4 1 af u2))]⟩ ⟨[23,24,25],[],fun u6=>[(7,(vO 10 true u6.length))],fun u6=>[(10,some (aV 4 1 af u6))]⟩
  (fun(u2,u3)=> .r<| .it (.a1 ((0:Int)≤u3∧u3<(((at' u1 u0.toNat).buses).length:Int))<| .r<| .a1 (Y1 u1 u0 u3 u2)<| .rg {an:=[(7, .arr 0 (XZ u1 u0 u3 u2))]} [0, .t 0 (VI u1 u0 u3) u2.length, .pf ⟨aH u2.length 1 (Za u1 u0 u3 u2) (XZ u1 u0 u3 u2),fe _ _ _ _ _ _ _ _ rfl (fun j hj=>(match j,hj with|0,_=>rfl))⟩]<| .im (.ll 10 u2 (Ym u1 u0 u3 u2))<| .r<| .e (.next (Zu u1 u0 u3 u2)))
  (.e (.done (.brk u2))))
  (fun u6=> .r<| .e (.next (u6,(k7 u0)))))
  (.e (.done (.brk u4))))
  (fun u5=> .r<| .en (u5,0) [] [(10,0)])))
theorem iZ (x y:ay):Go.Proofs.ltOf bN x y=true↔x.e0<y.e0∨ ¬ y.e0<x.e0∧x.e1<y.e1:=by
 unfold Go.Proofs.ltOf bN;rw [decide_eq_true_iff]
 by_cases h0:x.e0<y.e0<;>by_cases g0:y.e0<x.e0<;>by_cases h1:x.e1<y.e1<;>by_cases g1:y.e1<x.e1<;>simp [h0,g0,h1,g1]
theorem vG:Go.Sort.SWO (Go.Proofs.ltOf bN) where
 irrefl x:=by rw [←Bool.not_eq_true,iZ];omega
 trans x y z h1 h2:=by rw [iZ]at*;omega
 ntrans x y z h1 h2:=by rw [←Bool.not_eq_true,iZ]at*;omega
theorem vE (x y:ay) (h1:(Go.Proofs.ltOf bN) x y=false) (h2:(Go.Proofs.ltOf bN) y x=false):x=y:=by
 rw [←Bool.not_eq_true,iZ]at h1 h2
 obtain⟨a,b⟩:=x
 obtain⟨c,d⟩:=y
 have e1:a=c:=by simp only at h1 h2;omega
 have e2:b=d:=by simp only at h1 h2;omega
 rw [e1,e2]
theorem wL (s:(List ay)) {r:(List ay)} (h:jb s=some r):Fn Tryz.prog 52 [(.one (.own 0 false s.length)),(sD (.fn 53 0 (vH [])))] [(0,some (.arr 44 2 s.length (av ay.cell s)))] (.fC []) [(0,some (.arr 44 2 r.length (av ay.cell r)))]:=
 UX Pp 2 RB Ol (fun x:ay=>[.int .i64 x.e0, .int .i64 x.e1]) (fun _=>rfl) (fun x v hv=>by simp at hv;rcases hv with rfl|rfl<;>rfl) bN vG vE
  (J6 (fun x:ay=>[.int .i64 x.e0, .int .i64 x.e1]) (fun x=>x.e0) (fun x=>x.e1) (fun _=>rfl)) (enters_of Tryz.func53 (by kernel_rfl) rfl)
  (fun F w x j hj v=>match j,hj with|0,_=>Iff.rfl|1,_=>Iff.rfl) 52 rfl ⟨_,Tryz.func52,rfl,rfl⟩ s (by cases s with|nil=>(cases h;simp)|cons x xs=>exact h)
section
variable (u6:(List ay)) (u1:Int) (u2:(List aI)) (u0:Int) (u3:Int) (u4:(List ay))
abbrev VA:List (Nat × Option Ob):=[(139,some (aV 44 2 ay.cell u6))]
abbrev R7:=((k7 u1).toNat)
abbrev YQ:=(((at' u2 u0.toNat).sources).drop (R7 u1))
abbrev Uc:=(at' ((at' u2 u0.toNat).sources) u1.toNat)
abbrev Yh:=(at' (YQ u1 u2 u0) u3.toNat)
abbrev UH:=(⟨(Uc u1 u2 u0),(Yh u1 u2 u0 u3)⟩:ay)
abbrev Y5:=(u4.length+[(UH u1 u2 u0 u3)].length)
abbrev Yw:=(av ay.cell [(UH u1 u2 u0 u3)])
abbrev Yi:=(u4++[(UH u1 u2 u0 u3)])
abbrev Zb:=(av ay.cell (Yi u1 u2 u0 u3 u4))
end
theorem jX (p:ah) (s_:State):gG Tryz.prog 15 (k16 s_ p) [] (fun r=>(.fC [(.one (.own 0 false r.1.length)),(sI r.2)])) (fun r=>[(0,some (aV 44 2 ay.cell r.1))]) (dM p s_):=
  iO tT mX Tryz.func15 (
  .rg {fr:=[(0,134),(1,135)],fz:=[134,135]} []<| .cl 2 (dm p s_) fun r_=> .r<| .r<| .it (.r<| .im (.ad 4 136 44 2 (av ay.cell ([]:List ay)))<| .en (([]:List ay),r_) [] [(136,0)])
  (.r<| .cl 2 (mW p s_) fun u2=> .r<| .im (.ad 7 269 44 2 (av ay.cell ([]:List ay)))<| .lp (σ:=((List ay) × Int)) (β:=(List ay)) (([]:List ay),0) [] [(269,139)] ⟨[2,22,23],[],fun(u6,u0)=>[(7,(vO 139 false u6.length)),(24,(vI u0))],fun(u6,u0)=>(VA u6)⟩ ⟨[],[],fun u5=>[(7,(vO 139 false u5.length))],fun u5=>(VA u5)⟩
  (fun(u6,u0)=> .r<| .it (.a1 ((0:Int)≤u0∧u0<(u2.length:Int))<| .rg {fr:=[(2,236)],fz:=[236]} []<| .r<| .lp (σ:=((List ay) × Int)) (β:=(List ay)) (u6,0) [] [] ⟨[2,9,22,23,24,29,30],[],fun(u7,u1)=>[(7,(vO 139 false u7.length)),(31,(vI u1))],fun(u7,u1)=>(VA u7)⟩ ⟨[2,22,23,24],[],fun u8=>[(7,(vO 139 false u8.length))],fun u8=>(VA u8)⟩
  (fun(u7,u1)=> .r<| .it (.a1 ((0:Int)≤u1∧u1<(((at' u2 u0.toNat).sources).length:Int))<| .r<| .a1 ((0:Int)≤(k7 u1)∧(k7 u1)≤(((at' u2 u0.toNat).sources).length:Int))<| .r<| .im (.us 40 (vD (.sl none 1 (((at' u2 u0.toNat).sources).length - (R7 u1)) (fun iq jq=>av (aF .i64) ((at' u2 u0.toNat).sources) (iq+(R7 u1)) jq))) (vD (aZ none 1 (aF .i64) (YQ u1 u2 u0))) (Bl.v (mD.one (eF.d (dN.X6 (by first|rw [List.length_append,List.length_drop]|simp only [List.length_set,List.length_drop,zI]) (.inr rfl) (UZ _ _ _ _))))))<| .lp (σ:=((List ay) × Int)) (β:=(List ay)) (u7,0) [] [] ⟨[2,9,11,22,23,24,29,30,31,40,41],[],fun(u4,u3)=>[(7,(vO 139 false u4.length)),(42,(vI u3))],fun(u4,u3)=>(VA u4)⟩ ⟨[2,9,22,23,24,29,30,31],[],fun u9=>[(7,(vO 139 false u9.length))],fun u9=>(VA u9)⟩
  (fun(u4,u3)=> .r<| .it (.a1 ((0:Int)≤u3∧u3<((YQ u1 u2 u0).length:Int))<| .r<| .a3 ((0:Int)≤(Uc u1 u2 u0)∧(Uc u1 u2 u0)<(p.sources.length:Int)) ((gB [((decide (((at' p.sources ((Uc u1 u2 u0).toNat)).sync)=0)),false)]=true→(0:Int)≤(Uc u1 u2 u0)∧(Uc u1 u2 u0)<(p.sources.length:Int))) ((gB [((decide (((at' p.sources ((Uc u1 u2 u0).toNat)).sync)=0)),false)]=true→(0:Int)≤(Yh u1 u2 u0 u3)∧(Yh u1 u2 u0 u3)<(p.sources.length:Int)))<| .rg {} [0,1,2]<| .it (.a2 ((Y5 u1 u2 u0 u3 u4)*16≤140737488355328) (u4.length+[(UH u1 u2 u0 u3)].length≤4611686018427387904)<| .rg {an:=[(4, .arr [(UH u1 u2 u0 u3)].length (Yw u1 u2 u0 u3)),(5, .arr (Yi u1 u2 u0 u3 u4).length (Zb u1 u2 u0 u3 u4))],fr:=[(4,267),(5,268)]} [.pf ⟨[(UH u1 u2 u0 u3)].length=1,rfl⟩, .pf ⟨aH 1 2 (mF 2 [(.int .i64 (Uc u1 u2 u0)),(.int .i64 (Yh u1 u2 u0 u3))]) (Yw u1 u2 u0 u3),(by intro i hi j hj;match i,j,hi,hj with|0,0,_,_=>rfl|0,1,_,_=>rfl)⟩, .e (u4.length),0,1, .pf ⟨(Yi u1 u2 u0 u3 u4).length=u4.length+[(UH u1 u2 u0 u3)].length,List.length_append⟩, .pf ⟨aH (Y5 u1 u2 u0 u3 u4) 2 (rq (av ay.cell u4) u4.length (Yw u1 u2 u0 u3)) (Zb u1 u2 u0 u3 u4),dU _ _ _ _⟩]<| .r<| .en (.next ((Yi u1 u2 u0 u3 u4),(k7 u3))) [] [(268,139)])
  (.r<| .e (.next (u4,(k7 u3)))))
  (.e (.done (.brk u4))))
  (fun u9=> .r<| .e (.next (u9,(k7 u1)))))
  (.e (.done (.brk u7))))
  (fun u8=> .r<| .e (.next (u8,(k7 u0)))))
  (.e (.done (.brk u6))))
  (fun u5=> .cl 1 (o9 [(0,139)] ⟨fun h=>wL u5 h⟩) fun v0=> .r<| .a1 (u5.length=v0.length)<| .so 7 139 false u5.length v0.length 0<| .so 77 139 false u5.length v0.length 0<| .r<| .en (v0,0) [] [(139,0)])))
theorem Am (s_:(List ay)) (v_:ay):gG Tryz.prog 176 [(sD (aZ none 2 ay.cell s_)),(.agg [(cI v_.e0),(cI v_.e1)])] [] (fun r=>(vI r)) (fun _=>[]) (qI s_ v_):=
  iO tT mX Tryz.func176 (
  .rg {fr:=[(0,1)],fz:=[1]} []<| .r<| .lp (σ:=Int) (β:=Unit) (0) [] [] ⟨[0,3,7],[],fun t8=>[(8,(vI t8))],fun t8=>[]⟩ ⟨[],[],fun _=>[],fun _=>[]⟩
  (fun t8=> .r<| .it (.r<| .a1 ((0:Int)≤t8∧t8<(s_.length:Int))<| .r<| .it (.r<| .e (.done (.ret t8)))
  (.r<| .e (.next (k7 t8))))
  (.e (.done (.brk ()))))
  (fun _=> .r<| .e (-1)))
theorem wO (s_:(List ay)) (v_:ay):gG Tryz.prog 151 [(sD (aZ none 2 ay.cell s_)),(.agg [(cI v_.e0),(cI v_.e1)])] [] (fun r=>(vB r)) (fun _=>[]) (kK s_ v_):=
  iO tT mX Tryz.func151 (
  .rg {fr:=[(0,1)],fz:=[1]} []<| .cl 2 (Am s_ v_) fun r_=> .r<| .e (decide (0≤r_)))
theorem yL (c:ay) (x1:(List ay)):gG Tryz.prog 150 [(.agg [(cI c.e0),(cI c.e1)]),(sD (Fz [(aZ none 2 ay.cell x1)] 0))] [] (fun r=>(vB r)) (fun _=>[]) (pO c x1):=
  iO tT mX Tryz.func150 (
  .rg {fr:=[(0,1)],fz:=[1]} []<| .cl 2 (wO x1 c) fun r_=> .r<| .e (!r_))
section
variable (s_:(List ay)) (f_:(List ay))
abbrev Zd:List SV:=[(sD (aZ none 2 ay.cell s_)),(sD (.fn 150 1 (vH [(Fz [(aZ none 2 ay.cell f_)] 0)])))]
end
theorem su (s_:(List ay)) (f_:(List ay)):gG Tryz.prog 175 (Zd s_ f_) [] (fun r=>(vI r)) (fun _=>[]) (kE s_ f_):=
  iO tT mX Tryz.func175 (
  .r<| .r<| .lp (σ:=Int) (β:=Unit) (0) [] [] ⟨[0,1,7],[],fun t8=>[(8,(vI t8))],fun t8=>[]⟩ ⟨[],[],fun _=>[],fun _=>[]⟩
  (fun t8=> .r<| .it (.r<| .cl 5 (yL (at' s_ t8.toNat) f_) fun r_=> .a1 ((0:Int)≤t8∧t8<(s_.length:Int))<| .rg {} [0,1]<| .it (.r<| .e (.done (.ret t8)))
  (.r<| .e (.next (k7 t8))))
  (.e (.done (.brk ()))))
  (fun _=> .r<| .e (-1)))
theorem kP (s_:(List ay)) (f_:(List ay)):gG Tryz.prog 149 (Zd s_ f_) [] (fun r=>(vB r)) (fun _=>[]) (di s_ f_):=
  iO tT mX Tryz.func149 (
  .r<| .cl 2 (su s_ f_) fun r_=> .r<| .e (decide (0≤r_)))
section
variable (p:ah) (s_:State) (x:Transfer) (r_:((List Bool) × Int)) (u0:(List Bool)) (u1:Int) (u3:((List Bool) × Int))
abbrev YF:List SV:=[(.agg (k1 p)),(.agg (X4 s_))]
abbrev Zh:=(bif (bif (at' s_.badBus x.watch.toNat)then true else(at' r_.1 x.watch.toNat))then true else(at' s_.closed x.close.toNat))
abbrev Zx:=((Zh s_ x r_),false)
abbrev Zl:=((bif (Zh s_ x r_)then true else(at' s_.badLink x.close.toNat)),false)
abbrev IG:=(u0.set x.close.toNat true)
abbrev Ps:=((IG x u0).set x.open_.toNat false)
abbrev Zv:List SV:=[(.agg (k1 p)),(.agg [(.d (aZ none 1 af (Ps x u0))),(.d (aZ none 1 af s_.locked)),(.d (aZ none 1 af s_.badLink)),(.d (aZ none 1 af s_.on_)),(.d (k18 s_)),(.d (aZ none 1 af s_.earthed)),(.d (aZ none 1 af s_.badBus))])]
abbrev Vo:=(⟨(Ps x u0),s_.locked,s_.badLink,s_.on_,s_.badSource,s_.earthed,s_.badBus⟩:State)
abbrev XE:List SV:=[(.agg (k1 p)),(.agg [(.own 29 false ((Ps x u0).length)),(.own 1 false s_.locked.length),(.own 2 false s_.badLink.length),(.own 3 false s_.on_.length),(.own 4 false s_.badSource.length),(.own 5 false s_.earthed.length),(.own 6 false s_.badBus.length)])]
abbrev UC:Nat × Option Ob:=(29,some (aV 4 1 af (Ps x u0)))
abbrev Xb:List (Nat × Option Ob):=[(UC x u0),(JI s_),(Ji s_),(Hl s_),(Jg s_),(Jv s_),(Jk s_)]
abbrev QH:=((bif (at' r_.1 u1.toNat)then(!(at' u3.1 u1.toNat))else false),false)
abbrev Wt:=((gB [(QH r_ u1 u3)]=true→(0:Int)≤u1∧u1<(u3.1.length:Int)))
abbrev Ws:=((gB [((at' u3.1 u1.toNat),true),(QH r_ u1 u3)]=true→(0:Int)≤u1∧u1<(s_.earthed.length:Int)))
abbrev Wv:=((gB [((bif (at' u3.1 u1.toNat)then(at' s_.earthed u1.toNat)else false),true),(QH r_ u1 u3)]=true→(0:Int)≤u1∧u1<(r_.1.length:Int)))
abbrev VY:List SV:=[(.agg (k1 p)),(.agg [(.d (aZ none 1 af (IG x u0))),(.d (aZ none 1 af s_.locked)),(.d (aZ none 1 af s_.badLink)),(.d (aZ none 1 af s_.on_)),(.d (k18 s_)),(.d (aZ none 1 af s_.earthed)),(.d (aZ none 1 af s_.badBus))])]
abbrev Vl:=(⟨(IG x u0),s_.locked,s_.badLink,s_.on_,s_.badSource,s_.earthed,s_.badBus⟩:State)
abbrev Wq:List SV:=[(.agg (k1 p)),(.agg [(.own 29 false ((IG x u0).length)),(.own 1 false s_.locked.length),(.own 2 false s_.badLink.length),(.own 3 false s_.on_.length),(.own 4 false s_.badSource.length),(.own 5 false s_.earthed.length),(.own 6 false s_.badBus.length)])]
abbrev Vt:Nat × Option Ob:=(29,some (aV 4 1 af (IG x u0)))
abbrev Wh:List (Nat × Option Ob):=[(Vt x u0),(JI s_),(Ji s_),(Hl s_),(Jg s_),(Jv s_),(Jk s_)]
end
theorem AU (p:ah) (s_:State) (x:Transfer):gG Tryz.prog 103 [(.agg (k1 p)),(.agg (X4 s_)),(.agg [(cI x.watch),(cI x.open_),(cI x.close)])] (Xg s_) (fun r=>(.fC [(.agg [(.own 7 false r.1.closed.length),(.own 1 false s_.locked.length),(.own 2 false s_.badLink.length),(.own 3 false s_.on_.length),(.own 4 false s_.badSource.length),(.own 5 false s_.earthed.length),(.own 6 false s_.badBus.length)]),(sB r.2)])) (fun r=>[(TF s_),(JI s_),(Ji s_),(Hl s_),(Jg s_),(Jv s_),(Jk s_),(7,bif r.2 then some (aV 4 1 af r.1.closed)else none),(8,none)]) (mJ p s_ x):=
  iO tT mX Tryz.func103 (
  .rg {fr:=[(0,22),(1,23),(2,24),(3,25)],fz:=[22]} []<| .cl 2 ⟨fun{r_} hr_=>((Fn.p8 (args:=(k16 s_ p)) (frz:=[0,1,2,3,4,5,6]) (p:=[s_.closed.length=s_.closed.length,s_.locked.length=s_.locked.length,s_.badLink.length=s_.badLink.length,s_.on_.length=s_.on_.length,s_.badSource.length=s_.badSource.length,s_.earthed.length=s_.earthed.length,s_.badBus.length=s_.badBus.length]) (rK [(0,26)] (pK p s_ hr_)) (by kernel_rfl) ⟨rfl,rfl,rfl,rfl,rfl,rfl,rfl,trivial⟩ (by kernel_rfl) ⟨(fun _ _=>rfl),trivial⟩ (by kernel_rfl)):Fn Tryz.prog 14 (YF p s_) (Xg s_) (.fC [(.one (.own 26 false r_.1.length)),(sI r_.2)]) [(TF s_),(JI s_),(Ji s_),(Hl s_),(Jg s_),(Jv s_),(Jk s_),(26,some (aV 4 1 af r_.1))])⟩ fun r_=> .rg {fz:=[26]} []<| .a5 ((0:Int)≤x.watch∧x.watch<(s_.badBus.length:Int)) ((gB [((at' s_.badBus x.watch.toNat),false)]=true→(0:Int)≤x.watch∧x.watch<(r_.1.length:Int))) ((gB [((bif (at' s_.badBus x.watch.toNat)then true else(at' r_.1 x.watch.toNat)),false)]=true→(0:Int)≤x.close∧x.close<(s_.closed.length:Int))) ((gB [(Zx s_ x r_)]=true→(0:Int)≤x.close∧x.close<(s_.badLink.length:Int))) ((gB [(Zl s_ x r_)]=true→(0:Int)≤x.close∧x.close<(s_.locked.length:Int)))<| .rg {} [0, .t 0 x.watch s_.badBus.length,1,2, .tg 2 [((bif (at' s_.badBus x.watch.toNat)then true else(at' r_.1 x.watch.toNat)),false)] x.close s_.closed.length,3, .tg 3 [(Zx s_ x r_)] x.close s_.badLink.length,4, .tg 4 [(Zl s_ x r_)] x.close s_.locked.length]<| .it (.r<| .im (.ac 25 0 0 27)<| .en (s_,false) [] [(27,7),(25,8)])
  (.rg {fr:=[(1,28)]} []<| .cl 2 ⟨fun{u0} hr_1=>((Fn.p8 (args:=[(sD (aZ none 1 af s_.closed))]) (frz:=[0]) (p:=[s_.closed.length=s_.closed.length]) (Fn.uF [(0,29)] (aM s_.closed hr_1) (by kernel_rfl) (by kernel_rfl) (by kernel_rfl) (by kernel_rfl)) (by kernel_rfl) ⟨rfl,trivial⟩ (by kernel_rfl) ⟨(fun _ _=>rfl),trivial⟩ (by kernel_rfl)):Fn Tryz.prog 101 [(.one (.own 0 false s_.closed.length))] [(TF s_)] (vO 29 false u0.length) [(TF s_),(29,some (aV 4 1 af u0))])⟩ fun u0=> .r<| .a1 ((0:Int)≤x.close∧x.close<(u0.length:Int))<| .rg {an:=[(5, .arr 0 (av af (IG x u0)))]} [0, .t 0 x.close u0.length, .pf ⟨aH u0.length 1 (pq (av af u0) x.close.toNat 0 [(.bool true)]) (av af (IG x u0)),fe _ _ _ _ _ _ _ _ rfl (fun j hj=>(match j,hj with|0,_=>rfl))⟩]<| .im (.ll 29 u0 (IG x u0))<| .r<| .it (.a2 ((0:Int)≤x.open_∧x.open_<(s_.badLink.length:Int)) ((gB [((at' s_.badLink x.open_.toNat),false)]=true→(0:Int)≤x.open_∧x.open_<(s_.locked.length:Int)))<| .rg {} [0, .t 0 x.open_ s_.badLink.length,1, .tg 1 [((at' s_.badLink x.open_.toNat),false)] x.open_ s_.locked.length]<| .it (.r<| .im (.ac 25 0 0 30)<| .en (s_,false) [] [(30,7),(25,8)])
  (.a1 ((0:Int)≤x.open_∧x.open_<((IG x u0).length:Int))<| .rg {an:=[(5, .arr 0 (av af (Ps x u0)))],fz:=[24]} [0, .t 0 x.open_ ((IG x u0).length), .pf ⟨aH (IG x u0).length 1 (pq (av af (IG x u0)) x.open_.toNat 0 [(.bool false)]) (av af (Ps x u0)),fe _ _ _ _ _ _ _ _ rfl (fun j hj=>(match j,hj with|0,_=>rfl))⟩]<| .im (.ll 29 (IG x u0) (Ps x u0))<| .cl 2 ⟨fun{u3} hr_2=>((Fn.p8 (args:=(Zv p s_ x u0)) (frz:=[29,1,2,3,4,5,6]) (p:=[(Ps x u0).length=(Ps x u0).length,s_.locked.length=s_.locked.length,s_.badLink.length=s_.badLink.length,s_.on_.length=s_.on_.length,s_.badSource.length=s_.badSource.length,s_.earthed.length=s_.earthed.length,s_.badBus.length=s_.badBus.length]) (Fn.uF [(0,31)] (pK p (Vo s_ x u0) hr_2) (by kernel_rfl) (by kernel_rfl) (by kernel_rfl) (by kernel_rfl)) (by kernel_rfl) ⟨rfl,rfl,rfl,rfl,rfl,rfl,rfl,trivial⟩ (by kernel_rfl) ⟨(fun _ _=>rfl),trivial⟩ (by kernel_rfl)):Fn Tryz.prog 14 (XE p s_ x u0) (Xb s_ x u0) (.fC [(.one (.own 31 false u3.1.length)),(sI u3.2)]) [(UC x u0),(JI s_),(Ji s_),(Hl s_),(Jg s_),(Jv s_),(Jk s_),(31,some (aV 4 1 af u3.1))])⟩ fun u3=> .rg {fz:=[31]} []<| .r<| .lp (σ:=Int) (β:=Unit) (0) [] [] ⟨[3,4,5,6,8,10,11,102],[0,1,2,3,4,5,6,23,25,28,29],fun u1=>[(103,(vI u1))],fun u1=>[]⟩ ⟨[3,4,5,6,10,11],[0,1,2,3,4,5,6,23,25,28,29],fun _=>[],fun _=>[]⟩
  (fun u1=> .r<| .it (.r<| .a5 ((0:Int)≤u1∧u1<(r_.1.length:Int)) ((gB [((at' r_.1 u1.toNat),true)]=true→(0:Int)≤u1∧u1<(u3.1.length:Int))) (Wt r_ u1 u3) (Ws s_ r_ u1 u3) (Wv s_ r_ u1 u3)<| .rg {} [0,1,2,3, .tg 3 [((at' u3.1 u1.toNat),true),(QH r_ u1 u3)] u1 s_.earthed.length,4]<| .it (.r<| .im (.ac 25 0 0 32)<| .en (.done (.ret (s_,false))) [] [(32,7),(25,8)])
  (.r<| .e (.next (k7 u1))))
  (.e (.done (.brk ()))))
  (fun _=> .cl 2 ⟨fun{u5} hr_3=>((Fn.p8 (args:=(k16 s_ p)) (frz:=[0,1,2,3,4,5,6]) (p:=[s_.closed.length=s_.closed.length,s_.locked.length=s_.locked.length,s_.badLink.length=s_.badLink.length,s_.on_.length=s_.on_.length,s_.badSource.length=s_.badSource.length,s_.earthed.length=s_.earthed.length,s_.badBus.length=s_.badBus.length]) (Fn.uF [(0,33)] (jX p s_ hr_3) (by kernel_rfl) (by kernel_rfl) (by kernel_rfl) (by kernel_rfl)) (by kernel_rfl) ⟨rfl,rfl,rfl,rfl,rfl,rfl,rfl,trivial⟩ (by kernel_rfl) ⟨(fun _ j=>match j with|0=>rfl|1=>rfl|_+2=>rfl),trivial⟩ (by kernel_rfl)):Fn Tryz.prog 15 (YF p s_) (Xg s_) (.fC [(.one (.own 33 false u5.1.length)),(sI u5.2)]) [(TF s_),(JI s_),(Ji s_),(Hl s_),(Jg s_),(Jv s_),(Jk s_),(33,some (aV 44 2 ay.cell u5.1))])⟩ fun u5=> .rg {fr:=[(6,34)],fz:=[33]} []<| .fz [34]<| .cl 2 ⟨fun{u6} hr_4=>((Fn.p8 (args:=(Zv p s_ x u0)) (frz:=[29,1,2,3,4,5,6]) (p:=[(Ps x u0).length=(Ps x u0).length,s_.locked.length=s_.locked.length,s_.badLink.length=s_.badLink.length,s_.on_.length=s_.on_.length,s_.badSource.length=s_.badSource.length,s_.earthed.length=s_.earthed.length,s_.badBus.length=s_.badBus.length]) (Fn.uF [(0,35)] (jX p (Vo s_ x u0) hr_4) (by kernel_rfl) (by kernel_rfl) (by kernel_rfl) (by kernel_rfl)) (by kernel_rfl) ⟨rfl,rfl,rfl,rfl,rfl,rfl,rfl,trivial⟩ (by kernel_rfl) ⟨(fun _ j=>match j with|0=>rfl|1=>rfl|_+2=>rfl),trivial⟩ (by kernel_rfl)):Fn Tryz.prog 15 (XE p s_ x u0) (Xb s_ x u0) (.fC [(.one (.own 35 false u6.1.length)),(sI u6.2)]) [(UC x u0),(JI s_),(Ji s_),(Hl s_),(Jg s_),(Jv s_),(Jk s_),(35,some (aV 44 2 ay.cell u6.1))])⟩ fun u6=> .rg {fz:=[35]} []<| .cg 9 [((!(at' u3.1 x.watch.toNat)),false)] (kP u6.1 u5.1) fun u9=> .a1 ((0:Int)≤x.watch∧x.watch<(u3.1.length:Int))<| .rg {} [0,1]<| .it (.r<| .im (.ac 25 0 0 36)<| .en (s_,false) [] [(36,7),(25,8)])
  (.r<| .en ((Vo s_ x u0),true) [] [(29,7),(25,8)]))))
  (.cl 2 ⟨fun{u4} hr_6=>((Fn.p8 (args:=(VY p s_ x u0)) (frz:=[29,1,2,3,4,5,6]) (p:=[(IG x u0).length=(IG x u0).length,s_.locked.length=s_.locked.length,s_.badLink.length=s_.badLink.length,s_.on_.length=s_.on_.length,s_.badSource.length=s_.badSource.length,s_.earthed.length=s_.earthed.length,s_.badBus.length=s_.badBus.length]) (Fn.uF [(0,37)] (pK p (Vl s_ x u0) hr_6) (by kernel_rfl) (by kernel_rfl) (by kernel_rfl) (by kernel_rfl)) (by kernel_rfl) ⟨rfl,rfl,rfl,rfl,rfl,rfl,rfl,trivial⟩ (by kernel_rfl) ⟨(fun _ _=>rfl),trivial⟩ (by kernel_rfl)):Fn Tryz.prog 14 (Wq p s_ x u0) (Wh s_ x u0) (.fC [(.one (.own 37 false u4.1.length)),(sI u4.2)]) [(Vt x u0),(JI s_),(Ji s_),(Hl s_),(Jg s_),(Jv s_),(Jk s_),(37,some (aV 4 1 af u4.1))])⟩ fun u4=> .rg {fz:=[24,37]} []<| .r<| .lp (σ:=Int) (β:=Unit) (0) [] [] ⟨[3,4,5,6,8,10,11,102],[0,1,2,3,4,5,6,23,25,28,29],fun u2=>[(103,(vI u2))],fun u2=>[]⟩ ⟨[3,4,5,6,10,11],[0,1,2,3,4,5,6,23,25,28,29],fun _=>[],fun _=>[]⟩
  (fun u2=> .r<| .it (.r<| .a5 ((0:Int)≤u2∧u2<(r_.1.length:Int)) ((gB [((at' r_.1 u2.toNat),true)]=true→(0:Int)≤u2∧u2<(u4.1.length:Int))) (Wt r_ u2 u4) (Ws s_ r_ u2 u4) (Wv s_ r_ u2 u4)<| .rg {} [0,1,2,3, .tg 3 [((at' u4.1 u2.toNat),true),(QH r_ u2 u4)] u2 s_.earthed.length,4]<| .it (.r<| .im (.ac 25 0 0 38)<| .en (.done (.ret (s_,false))) [] [(38,7),(25,8)])
  (.r<| .e (.next (k7 u2))))
  (.e (.done (.brk ()))))
  (fun _=> .cl 2 ⟨fun{u7} hr_7=>((Fn.p8 (args:=(k16 s_ p)) (frz:=[0,1,2,3,4,5,6]) (p:=[s_.closed.length=s_.closed.length,s_.locked.length=s_.locked.length,s_.badLink.length=s_.badLink.length,s_.on_.length=s_.on_.length,s_.badSource.length=s_.badSource.length,s_.earthed.length=s_.earthed.length,s_.badBus.length=s_.badBus.length]) (Fn.uF [(0,39)] (jX p s_ hr_7) (by kernel_rfl) (by kernel_rfl) (by kernel_rfl) (by kernel_rfl)) (by kernel_rfl) ⟨rfl,rfl,rfl,rfl,rfl,rfl,rfl,trivial⟩ (by kernel_rfl) ⟨(fun _ j=>match j with|0=>rfl|1=>rfl|_+2=>rfl),trivial⟩ (by kernel_rfl)):Fn Tryz.prog 15 (YF p s_) (Xg s_) (.fC [(.one (.own 39 false u7.1.length)),(sI u7.2)]) [(TF s_),(JI s_),(Ji s_),(Hl s_),(Jg s_),(Jv s_),(Jk s_),(39,some (aV 44 2 ay.cell u7.1))])⟩ fun u7=> .rg {fr:=[(6,40)],fz:=[39]} []<| .fz [40]<| .cl 2 ⟨fun{u8} hr_8=>((Fn.p8 (args:=(VY p s_ x u0)) (frz:=[29,1,2,3,4,5,6]) (p:=[(IG x u0).length=(IG x u0).length,s_.locked.length=s_.locked.length,s_.badLink.length=s_.badLink.length,s_.on_.length=s_.on_.length,s_.badSource.length=s_.badSource.length,s_.earthed.length=s_.earthed.length,s_.badBus.length=s_.badBus.length]) (Fn.uF [(0,41)] (jX p (Vl s_ x u0) hr_8) (by kernel_rfl) (by kernel_rfl) (by kernel_rfl) (by kernel_rfl)) (by kernel_rfl) ⟨rfl,rfl,rfl,rfl,rfl,rfl,rfl,trivial⟩ (by kernel_rfl) ⟨(fun _ j=>match j with|0=>rfl|1=>rfl|_+2=>rfl),trivial⟩ (by kernel_rfl)):Fn Tryz.prog 15 (Wq p s_ x u0) (Wh s_ x u0) (.fC [(.one (.own 41 false u8.1.length)),(sI u8.2)]) [(Vt x u0),(JI s_),(Ji s_),(Hl s_),(Jg s_),(Jv s_),(Jk s_),(41,some (aV 44 2 ay.cell u8.1))])⟩ fun u8=> .rg {fz:=[41]} []<| .cg 9 [((!(at' u4.1 x.watch.toNat)),false)] (kP u8.1 u7.1) fun v0=> .a1 ((0:Int)≤x.watch∧x.watch<(u4.1.length:Int))<| .rg {} [0,1]<| .it (.r<| .im (.ac 25 0 0 42)<| .en (s_,false) [] [(42,7),(25,8)])
  (.r<| .en ((Vl s_ x u0),true) [] [(29,7),(25,8)])))))
section
variable (u7:(List Bool)) (u1:(List Bool)) (u2:(List Bool)) (u3:(List Bool)) (u4:(List Bool)) (u5:(List Bool)) (u6:(List Bool))
abbrev Xx:List CV:=[(.own 1 false u7.length),(.own 2 false u1.length),(.own 3 false u2.length),(.own 4 false u3.length),(.own 5 false u4.length),(.own 6 false u5.length),(.own 7 false u6.length)]
abbrev XC:Ob:=(.cells 29 (Xx u7 u1 u2 u3 u4 u5 u6))
end
theorem uY (u0:Int) (u7:(List Bool)) (u1:(List Bool)) (u2:(List Bool)) (u3:(List Bool)) (u4:(List Bool)) (u5:(List Bool)) (u6:(List Bool)) (u8:State) (o_:(List Int)):U4 Tryz.prog 0 [(sI u0),(.agg (Xx u7 u1 u2 u3 u4 u5 u6))] [(0,some (.loop ja 0 [(10,(vP 8 0)),(11,(vP 9 0))])),(1,some (aV 4 1 af u7)),(2,some (aV 4 1 af u1)),(3,some (aV 4 1 af u2)),(4,some (aV 4 1 af u3)),(5,some (aV 4 1 af u4)),(6,some (aV 4 1 af u5)),(7,some (aV 4 1 af u6)),(8,some (.cells 29 [(.own 10 false u8.closed.length),(.own 2 false u1.length),(.own 3 false u2.length),(.own 4 false u3.length),(.own 5 false u4.length),(.own 6 false u5.length),(.own 7 false u6.length)])),(9,some (.cells 36 [(.own 11 false o_.length)])),(10,some (aV 4 1 af u8.closed)),(11,some (aV 3 1 (aF .i64) o_))] (fun _=>vB true) (fun r=>[(0,some (.loop ja 0 [(10,(vP 8 0)),(11,(vP 9 0))])),(1,some (aV 4 1 af u7)),(2,some (aV 4 1 af u1)),(3,some (aV 4 1 af u2)),(4,some (aV 4 1 af u3)),(5,some (aV 4 1 af u4)),(6,some (aV 4 1 af u5)),(7,some (aV 4 1 af u6)),(8,some (XC u7 u1 u2 u3 u4 u5 u6)),(9,some (.cells 36 [(.own 12 false r.2.length)])),(10,some (aV 4 1 af u8.closed)),(11,none),(12,some (aV 3 1 (aF .i64) r.2))]) (mr u0 u7 u1 u2 u3 u4 u5 u6 u8 o_):=
  Ze tT mX ja ⟨[10,11],[0,1,2,3,4,5,6,7,8,9,10,11],fun _=>[(12,(vI u0)),(13,(vP 15 0))],fun _=>[(15,some (XC u7 u1 u2 u3 u4 u5 u6))]⟩ (.r<| .rg {fr:=[(0,15)]} []<| .e ())
  (.r<| .a2 ((o_.length+[u0].length)*8≤140737488355328) (o_.length+[u0].length≤4611686018427387904)<| .rg {an:=[(2, .arr [u0].length (av (aF .i64) [u0])),(3, .arr (o_++[u0]).length (av (aF .i64) (o_++[u0])))],fr:=[(2,16),(3,17)]} [.pf ⟨[u0].length=1,rfl⟩, .pf ⟨aH 1 1 (mF 1 [(.int .i64 u0)]) (av (aF .i64) [u0]),(by intro i hi j hj;match i,j,hi,hj with|0,0,_,_=>rfl)⟩, .e (o_.length),0,1, .pf ⟨(o_++[u0]).length=o_.length+[u0].length,List.length_append⟩, .pf ⟨aH (o_.length+[u0].length) 1 (rq (av (aF .i64) o_) o_.length (av (aF .i64) [u0])) (av (aF .i64) (o_++[u0])),dU _ _ _ _⟩]<| .en ((⟨u7,u1,u2,u3,u4,u5,u6⟩:State),(o_++[u0])) [] [(17,12)])
section
variable (u0:State) (x1:(List Transfer)) (u2:(List Bool)) (r_:(State × Bool)) (x2:Int) (u4:(List Source)) (u5:(List Link)) (u6:(List aN)) (u1:Int)
abbrev Xk:Ob:=(.cells 29 [(.own 4 false u0.closed.length),(.own 5 false u0.locked.length),(.own 6 false u0.badLink.length),(.own 7 false u0.on_.length),(.own 8 false u0.badSource.length),(.own 9 false u0.earthed.length),(.own 10 false u0.badBus.length)])
abbrev PL:Nat × Option Ob:=(5,some (aV 4 1 af u0.locked))
abbrev Qj:Nat × Option Ob:=(6,some (aV 4 1 af u0.badLink))
abbrev OW:Nat × Option Ob:=(7,some (aV 4 1 af u0.on_))
abbrev Ph:Nat × Option Ob:=(8,some (aV 4 1 af u0.badSource))
abbrev OM:Nat × Option Ob:=(9,some (aV 4 1 af u0.earthed))
abbrev Pb:Nat × Option Ob:=(10,some (aV 4 1 af u0.badBus))
abbrev P5:=(List.replicate ((x1.length:Int).toNat) (false:Bool))
abbrev Xh:List CV:=[(.own 99 false u2.length),(.own 5 false u0.locked.length),(.own 6 false u0.badLink.length),(.own 7 false u0.on_.length),(.own 8 false u0.badSource.length),(.own 9 false u0.earthed.length),(.own 10 false u0.badBus.length)]
abbrev Xq:Ob:=(.cells 29 (Xh u0 u2))
abbrev V8:Nat × Option Ob:=(1,some (Xq u0 u2))
abbrev Wy:Nat × Option Ob:=(2,some (Xq u0 u2))
abbrev RG:=(⟨u2,u0.locked,u0.badLink,u0.on_,u0.badSource,u0.earthed,u0.badBus⟩:State)
abbrev WB:List CV:=[(.own 148 false r_.1.closed.length),(.own 5 false u0.locked.length),(.own 6 false u0.badLink.length),(.own 7 false u0.on_.length),(.own 8 false u0.badSource.length),(.own 9 false u0.earthed.length),(.own 10 false u0.badBus.length)]
abbrev Mt:Ob:=(aV 4 1 af r_.1.closed)
abbrev Ml:List SV:=[(.agg [(cI x2),(.d (aZ none 5 Source.cell u4)),(.d (aZ none 6 Link.cell u5)),(.d (aZ none 4 aN.cell u6))]),(.agg (Xh u0 u2)),(.agg [(cI ((at' x1 u1.toNat).watch)),(cI ((at' x1 u1.toNat).open_)),(cI ((at' x1 u1.toNat).close))])]
abbrev N8:List (Nat × Option Ob):=[(99,some (aV 4 1 af u2)),(PL u0),(Qj u0),(OW u0),(Ph u0),(OM u0),(Pb u0)]
abbrev QO:List CV:=[(.own 7 false r_.1.closed.length),(.own 1 false u0.locked.length),(.own 2 false u0.badLink.length),(.own 3 false u0.on_.length),(.own 4 false u0.badSource.length),(.own 5 false u0.earthed.length),(.own 6 false u0.badBus.length)]
abbrev Wm:TV:=(.fC [(.agg (QO u0 r_)),(sB r_.2)])
abbrev Xp:=(qf (swp [(0,99),(1,5),(2,6),(3,7),(4,8),(1,9),(2,10),(3,148),(4,149)]) [(0,some (aV 4 1 af u2)),(JI u0),(Ji u0),(Hl u0),(Jg u0),(Jv u0),(Jk u0),(7,bif r_.2 then some (Mt r_)else none),(8,none)])
end
theorem xL (x1:(List Transfer)) (x2:Int) (u4:(List Source)) (u5:(List Link)) (u6:(List aN)) (u0:State) (v0:State) (o_:(List Int)):gG Tryz.prog 102 [(.one (.yl 0)),(sD (Fz [(k27 x1)] 0)),(sD (k2 x2 u4 u5 u6)),(.one (.ptr 1 0))] [(0,some (.loop ja 0 [(10,(vP 2 0)),(11,(vP 3 0))])),(1,some (Xk u0)),(2,some (Xk u0)),(3,some (.cells 36 [(.own 11 false o_.length)])),(4,some (aV 4 1 af u0.closed)),(PL u0),(Qj u0),(OW u0),(Ph u0),(OM u0),(Pb u0),(11,some (aV 3 1 (aF .i64) o_))] (fun r=>(.fC [])) (fun r=>[(0,some (.loop ja 0 [(10,(vP 2 0)),(11,(vP 3 0))])),(1,some (.cells 29 [(.own 12 false r.1.closed.length),(.own 5 false u0.locked.length),(.own 6 false u0.badLink.length),(.own 7 false u0.on_.length),(.own 8 false u0.badSource.length),(.own 9 false u0.earthed.length),(.own 10 false u0.badBus.length)])),(2,some (.cells 29 [(.own 12 false r.1.closed.length),(.own 5 false u0.locked.length),(.own 6 false u0.badLink.length),(.own 7 false u0.on_.length),(.own 8 false u0.badSource.length),(.own 9 false u0.earthed.length),(.own 10 false u0.badBus.length)])),(3,some (.cells 36 [(.own 13 false r.2.2.length)])),(4,none),(PL u0),(Qj u0),(OW u0),(Ph u0),(OM u0),(Pb u0),(11,none),(12,some (aV 4 1 af r.1.closed)),(13,some (aV 3 1 (aF .i64) r.2.2))]) (oN x1 x2 u4 u5 u6 u0 v0 o_):=
  iO tT mX Tryz.func102 (
  .sp (σ:=((List Bool) × (List Int) × (List Bool))) (β:=((List Bool) × (List Int))) (u0.closed,o_,(P5 x1)) ⟨[0,1,2,3],[0,5,6,7,8,9,10],fun(u2,u8,u3)=>[(5,(vO 82 true u3.length))],fun(u2,u8,u3)=>[(V8 u0 u2),(Wy u0 u2),(3,some (.cells 36 [(.own 100 false u8.length)])),(4,none),(11,none),(82,some (aV 4 1 af u3)),(99,some (aV 4 1 af u2)),(100,some (aV 3 1 (aF .i64) u8))]⟩ ⟨[],[0,5,6,7,8,9,10],fun(u7,u9)=>[],fun(u7,u9)=>[(V8 u0 u7),(Wy u0 u7),(3,some (.cells 36 [(.own 100 false u9.length)])),(4,none),(11,none),(99,some (aV 4 1 af u7)),(100,some (aV 3 1 (aF .i64) u9))]⟩ (.a3 ((0:Int)≤(x1.length:Int)) ((1:Int)*(x1.length:Int)≤281474976710656) (((x1.length:Int):Int)≤9223372036854775807)<| .rg {an:=[(2, .arr (P5 x1).length (av af (P5 x1)))],fr:=[(2,151)]} [0, .e (((x1.length:Int):Int)),1,2, .pf ⟨(P5 x1).length=((x1.length:Int).toNat),List.length_replicate⟩, .pf ⟨aH ((x1.length:Int).toNat) 1 (fun _ j=>[(.bool false)].getD j .nilp) (av af (P5 x1)),lY _ _ _ _ _ (fun j hj=>(match j,hj with|0,_=>rfl))⟩]<| .im (.ra 4 152)<| .im (.re 3 0 11 153)<| .en () [] [(151,82),(152,99),(153,100)])
  (fun(u2,u8,u3)=> .r<| .lp (σ:=Int) (β:=Unit) (0) [] [] ⟨[0,1,2,3,5,13,14],[0,1,2,3,4,5,6,7,8,9,10,11,82,99,100],fun u1=>[(15,(vI u1))],fun u1=>[]⟩ ⟨[],[0,1,2,3,4,5,6,7,8,9,10,11,99,100],fun _=>[],fun _=>[]⟩
  (fun u1=> .r<| .it (.a1 ((0:Int)≤u1∧u1<(x1.length:Int))<| .rg {fr:=[(3,147)],fz:=[147]} []<| .a1 (VK u3 u1)<| .rg {} [0, .t 0 u1 u3.length]<| .it (.r<| .e (.next (k7 u1)))
  (.cl 3 (o9 [(0,99),(1,5),(2,6),(3,7),(4,8),(1,9),(2,10),(3,148),(4,149)] (AU (⟨x2,u4,u5,u6⟩:ah) (RG u0 u2) (at' x1 u1.toNat))) fun r_=> .fk r_.2 (.rg {an:=[(3, .call [99,5,6,7,8,9,10] (.fC [(.agg (WB u0 r_)),(sB true)]) [(99,some (aV 4 1 af u2)),(PL u0),(Qj u0),(OW u0),(Ph u0),(OM u0),(Pb u0),(148,some (Mt r_)),(149,none)])],fr:=[(7,150)]} [.m [1,0] [Fn Tryz.prog 103 (Ml u0 x1 u2 x2 u4 u5 u6 u1) (N8 u0 u2) (TV.ren (swp [(0,99),(1,5),(2,6),(3,7),(4,8),(1,9),(2,10),(3,148),(4,149)]) (Wm u0 r_)) (Xp u0 u2 r_),r_.2=true] (Fn Tryz.prog 103 (Ml u0 x1 u2 x2 u4 u5 u6 u1) (N8 u0 u2) (TV.ren (swp [(0,99),(1,5),(2,6),(3,7),(4,8),(1,9),(2,10),(3,148),(4,149)]) (.fC [(.agg (QO u0 r_)),(sB true)])) (qf (swp [(0,99),(1,5),(2,6),(3,7),(4,8),(1,9),(2,10),(3,148),(4,149)]) [(0,some (aV 4 1 af u2)),(JI u0),(Ji u0),(Hl u0),(Jg u0),(Jv u0),(Jk u0),(7,bif true then some (Mt r_)else none),(8,none)])) (fun⟨hy,hb2,_⟩=>(congrArg (fun bq=>Fn Tryz.prog 103 (Ml u0 x1 u2 x2 u4 u5 u6 u1) (N8 u0 u2) (TV.ren (swp [(0,99),(1,5),(2,6),(3,7),(4,8),(1,9),(2,10),(3,148),(4,149)]) (.fC [(.agg (QO u0 r_)),(sB bq)])) (qf (swp [(0,99),(1,5),(2,6),(3,7),(4,8),(1,9),(2,10),(3,148),(4,149)]) [(0,some (aV 4 1 af u2)),(JI u0),(Ji u0),(Hl u0),(Jg u0),(Jv u0),(Jk u0),(7,bif bq then some (Mt r_)else none),(8,none)])) hb2).mp hy)]<| .r<| .t<| .a1 (VK u3 u1)<| .rg {an:=[(5, .arr 0 (av af (u3.set u1.toNat true)))]} [0, .t 0 u1 u3.length, .pf ⟨aH u3.length 1 (pq (av af u3) u1.toNat 0 [(.bool true)]) (av af (u3.set u1.toNat true)),fe _ _ _ _ _ _ _ _ rfl (fun j hj=>(match j,hj with|0,_=>rfl))⟩]<| .im (.ll 82 u3 (u3.set u1.toNat true))<| .cy 3 (ZL [(1,148),(2,5),(3,6),(4,7),(2,8),(3,9),(4,10),(4,99),(11,100),(12,151)] (uY u1 r_.1.closed u0.locked u0.badLink u0.on_ u0.badSource u0.earthed u0.badBus (RG u0 u2) u8)) fun v1=> .r<| .f<| .en (.done (.ret (.next (r_.1.closed,v1.2,(u3.set u1.toNat true))))) [] [(148,99),(151,100)])
  (.rg {an:=[(3, .call [99,5,6,7,8,9,10] (.fC [(.agg (WB u0 r_)),(sB false)]) [(99,some (aV 4 1 af u2)),(PL u0),(Qj u0),(OW u0),(Ph u0),(OM u0),(Pb u0),(148,none),(149,none)])],fr:=[(7,150)]} [.m [1,0] [Fn Tryz.prog 103 (Ml u0 x1 u2 x2 u4 u5 u6 u1) (N8 u0 u2) (TV.ren (swp [(0,99),(1,5),(2,6),(3,7),(4,8),(1,9),(2,10),(3,148),(4,149)]) (Wm u0 r_)) (Xp u0 u2 r_),r_.2=false] (Fn Tryz.prog 103 (Ml u0 x1 u2 x2 u4 u5 u6 u1) (N8 u0 u2) (TV.ren (swp [(0,99),(1,5),(2,6),(3,7),(4,8),(1,9),(2,10),(3,148),(4,149)]) (.fC [(.agg (QO u0 r_)),(sB false)])) (qf (swp [(0,99),(1,5),(2,6),(3,7),(4,8),(1,9),(2,10),(3,148),(4,149)]) [(0,some (aV 4 1 af u2)),(JI u0),(Ji u0),(Hl u0),(Jg u0),(Jv u0),(Jk u0),(7,bif false then some (Mt r_)else none),(8,none)])) (fun⟨hy,hb2,_⟩=>(congrArg (fun bq=>Fn Tryz.prog 103 (Ml u0 x1 u2 x2 u4 u5 u6 u1) (N8 u0 u2) (TV.ren (swp [(0,99),(1,5),(2,6),(3,7),(4,8),(1,9),(2,10),(3,148),(4,149)]) (.fC [(.agg (QO u0 r_)),(sB bq)])) (qf (swp [(0,99),(1,5),(2,6),(3,7),(4,8),(1,9),(2,10),(3,148),(4,149)]) [(0,some (aV 4 1 af u2)),(JI u0),(Ji u0),(Hl u0),(Jg u0),(Jv u0),(Jk u0),(7,bif bq then some (Mt r_)else none),(8,none)])) hb2).mp hy)]<| .r<| .f<| .r<| .e (.next (k7 u1)))))
  (.e (.done (.brk ()))))
  (fun _=> .e (.done (.brk (u2,u8)))))
  (fun(u7,u9)=> .en ((RG u0 u7),(RG u0 u7),u9) [] [(99,12),(100,13)]))
theorem oC (a:(List Int)) (b:(List Int)):gG Tryz.prog 20 [(sD (aZ none 1 (aF .i64) a)),(sD (aZ none 1 (aF .i64) b))] [] (fun r=>(vB r)) (fun _=>[]) (ol a b):=
  iO tT mX Tryz.func20 (
  .r<| .r<| .it (.r<| .e false)
  (.r<| .lp (σ:=Int) (β:=Unit) (0) [] [] ⟨[0,1],[],fun i=>[(5,(vI i))],fun i=>[]⟩ ⟨[],[],fun _=>[],fun _=>[]⟩
  (fun i=> .r<| .it (.a2 ((0:Int)≤i∧i<(a.length:Int)) ((0:Int)≤i∧i<(b.length:Int))<| .rg {} [0,1]<| .it (.r<| .e (.done (.ret false)))
  (.r<| .e (.next (k7 i))))
  (.e (.done (.brk ()))))
  (fun _=> .r<| .e true)))
theorem vW (s_:State):gG Tryz.prog 167 (Zm s_) [] (fun r=>(.v (.agg [(.own 0 false r.closed.length),(.own 1 false r.locked.length),(.own 2 false r.badLink.length),(.own 3 false r.on_.length),(.own 4 false r.badSource.length),(.own 5 false r.earthed.length),(.own 6 false r.badBus.length)]))) (fun r=>[(0,some (aV 4 1 af r.closed)),(1,some (aV 4 1 af r.locked)),(2,some (aV 4 1 af r.badLink)),(3,some (aV 4 1 af r.on_)),(4,some (aV 4 1 af r.badSource)),(5,some (aV 4 1 af r.earthed)),(6,some (aV 4 1 af r.badBus)),(7,none)]) (oh s_):=
  iO tT mX Tryz.func167 (
  .rg {fr:=[(0,10),(1,11)]} []<| .rg {an:=[(7, .cells)],fr:=[(7,12)]} []<| .ul 11<| .r<| .t<| .a1 ((0:Int)≤0∧0<(7:Int))<| .r<| .cl 4 (o9 [(0,13)] ⟨fun h=>aM s_.closed h⟩) fun r_=> .r<| .r<| .im (.dp [1,2,12,13,14])<| .r<| .t<| .a1 ((0:Int)≤1∧1<(7:Int))<| .r<| .cl 4 (o9 [(0,14)] ⟨fun h=>aM s_.locked h⟩) fun u0=> .r<| .r<| .im (.dp [1,2,12,13,14])<| .r<| .t<| .a1 ((0:Int)≤2∧2<(7:Int))<| .r<| .cl 4 (o9 [(0,15)] ⟨fun h=>aM s_.badLink h⟩) fun u1=> .r<| .r<| .im (.dp [1,2,12,13,14])<| .r<| .t<| .a1 ((0:Int)≤3∧3<(7:Int))<| .r<| .cl 4 (o9 [(0,16)] ⟨fun h=>aM s_.on_ h⟩) fun u2=> .r<| .r<| .im (.dp [1,2,12,13,14])<| .r<| .t<| .a1 ((0:Int)≤4∧4<(7:Int))<| .r<| .cl 4 (o9 [(0,17)] ⟨fun h=>aM s_.badSource h⟩) fun u3=> .r<| .r<| .im (.dp [1,2,12,13,14])<| .r<| .t<| .a1 ((0:Int)≤5∧5<(7:Int))<| .r<| .cl 4 (o9 [(0,18)] ⟨fun h=>aM s_.earthed h⟩) fun u4=> .r<| .r<| .im (.dp [1,2,12,13,14])<| .r<| .t<| .a1 ((0:Int)≤6∧6<(7:Int))<| .r<| .cl 4 (o9 [(0,19)] ⟨fun h=>aM s_.badBus h⟩) fun u5=> .r<| .r<| .im (.dp [1,2,12,13,14])<| .r<| .f<| .r<| .en (⟨r_,u0,u1,u2,u3,u4,u5⟩:State) [] [(13,0),(14,1),(15,2),(16,3),(17,4),(18,5),(19,6),(11,7)])
end
end Sg
