import Derived.Test.YtklofnlffikpgaaGreatHaGm
import Derived.Test.YtklofnlffikpgaaGreatProg
import Derived.Test.YtklofnlffikpgaaGreatHaLf
import Derived.Test.YtklofnlffikpgaaGreatHaLe
set_option linter.all false
namespace Sg
open Go Go.Proofs
set_option maxRecDepth 20000
noncomputable section
noncomputable def TT:List (Nat × TI):=[(3,⟨Tryz.t3.desc,Tryz.t3.size,Tryz.t3.bytes,zl Tryz.t3,false⟩),
  (4,⟨Tryz.t4.desc,Tryz.t4.size,Tryz.t4.bytes,zl Tryz.t4,false⟩),
  (22,⟨Tryz.t22.desc,Tryz.t22.size,Tryz.t22.bytes,zl Tryz.t22,false⟩),
  (23,⟨Tryz.t23.desc,Tryz.t23.size,Tryz.t23.bytes,zl Tryz.t23,false⟩),
  (24,⟨Tryz.t24.desc,Tryz.t24.size,Tryz.t24.bytes,zl Tryz.t24,false⟩),
  (26,⟨Tryz.t25.desc,Tryz.t26.size,Tryz.t26.bytes,zl Tryz.t26,false⟩),
  (27,⟨Tryz.t27.desc,Tryz.t27.size,Tryz.t27.bytes,zl Tryz.t27,false⟩),
  (29,⟨Tryz.t28.desc,Tryz.t29.size,Tryz.t29.bytes,zl Tryz.t29,false⟩),
  (30,⟨Tryz.t30.desc,Tryz.t30.size,Tryz.t30.bytes,zl Tryz.t30,false⟩),
  (34,⟨Tryz.t34.desc,Tryz.t34.size,Tryz.t34.bytes,zl Tryz.t34,false⟩),
  (36,⟨Tryz.t36.desc,Tryz.t36.size,Tryz.t36.bytes,zl Tryz.t36,false⟩),
  (41,⟨Tryz.t41.desc,Tryz.t41.size,Tryz.t41.bytes,zl Tryz.t41,false⟩),
  (44,⟨Tryz.t44.desc,Tryz.t44.size,Tryz.t44.bytes,zl Tryz.t44,true⟩),
  (46,⟨Tryz.t45.desc,Tryz.t46.size,Tryz.t46.bytes,zl Tryz.t46,true⟩),
  (48,⟨Tryz.t48.desc,Tryz.t48.size,Tryz.t48.bytes,zl Tryz.t48,false⟩),
  (61,⟨Tryz.t61.desc,Tryz.t61.size,Tryz.t61.bytes,zl Tryz.t61,false⟩),
  (76,⟨Tryz.t76.desc,Tryz.t76.size,Tryz.t76.bytes,zl Tryz.t76,false⟩),
  (79,⟨Tryz.t79.desc,Tryz.t79.size,Tryz.t79.bytes,zl Tryz.t79,false⟩),
  (82,⟨Tryz.t3.desc,Tryz.t82.size,Tryz.t82.bytes,zl Tryz.t82,false⟩),
  (84,⟨Tryz.t83.desc,Tryz.t84.size,Tryz.t84.bytes,zl Tryz.t84,true⟩),
  (86,⟨Tryz.t85.desc,Tryz.t86.size,Tryz.t86.bytes,zl Tryz.t86,true⟩),
  (87,⟨Tryz.t85.desc,Tryz.t87.size,Tryz.t87.bytes,zl Tryz.t87,true⟩),
  (92,⟨Tryz.t92.desc,Tryz.t92.size,Tryz.t92.bytes,zl Tryz.t92,false⟩),
  (95,⟨Tryz.t95.desc,Tryz.t95.size,Tryz.t95.bytes,zl Tryz.t95,true⟩),
  (100,⟨Tryz.t99.desc,Tryz.t100.size,Tryz.t100.bytes,zl Tryz.t100,true⟩),
  (101,⟨Tryz.t45.desc,Tryz.t101.size,Tryz.t101.bytes,zl Tryz.t101,true⟩),
  (108,⟨Tryz.t108.desc,Tryz.t108.size,Tryz.t108.bytes,zl Tryz.t108,false⟩),
  (109,⟨Tryz.t109.desc,Tryz.t109.size,Tryz.t109.bytes,zl Tryz.t109,false⟩),
  (110,⟨Tryz.t3.desc,Tryz.t110.size,Tryz.t110.bytes,zl Tryz.t110,false⟩),
  (111,⟨Tryz.t111.desc,Tryz.t111.size,Tryz.t111.bytes,zl Tryz.t111,false⟩),
  (113,⟨Tryz.t112.desc,Tryz.t113.size,Tryz.t113.bytes,zl Tryz.t113,false⟩),
  (119,⟨Tryz.t119.desc,Tryz.t119.size,Tryz.t119.bytes,zl Tryz.t119,false⟩),
  (122,⟨Tryz.t121.desc,Tryz.t122.size,Tryz.t122.bytes,zl Tryz.t122,false⟩),
  (123,⟨Tryz.t3.desc,Tryz.t123.size,Tryz.t123.bytes,zl Tryz.t123,false⟩),
  (125,⟨Tryz.t124.desc,Tryz.t125.size,Tryz.t125.bytes,zl Tryz.t125,true⟩),
  (141,⟨Tryz.t141.desc,Tryz.t141.size,Tryz.t141.bytes,zl Tryz.t141,false⟩),
  (161,⟨Tryz.t161.desc,Tryz.t161.size,Tryz.t161.bytes,zl Tryz.t161,false⟩),
  (164,⟨Tryz.t164.desc,Tryz.t164.size,Tryz.t164.bytes,zl Tryz.t164,false⟩),
  (167,⟨Tryz.t167.desc,Tryz.t167.size,Tryz.t167.bytes,zl Tryz.t167,false⟩),
  (169,⟨Tryz.t169.desc,Tryz.t169.size,Tryz.t169.bytes,zl Tryz.t169,false⟩),
  (172,⟨Tryz.t172.desc,Tryz.t172.size,Tryz.t172.bytes,zl Tryz.t172,false⟩),
  (173,⟨Tryz.t173.desc,Tryz.t173.size,Tryz.t173.bytes,zl Tryz.t173,false⟩),
  (176,⟨Tryz.t176.desc,Tryz.t176.size,Tryz.t176.bytes,zl Tryz.t176,false⟩),
  (178,⟨Tryz.t177.desc,Tryz.t178.size,Tryz.t178.bytes,zl Tryz.t178,false⟩),
  (192,⟨Tryz.t192.desc,Tryz.t192.size,Tryz.t192.bytes,zl Tryz.t192,false⟩),
  (193,⟨Tryz.t193.desc,Tryz.t193.size,Tryz.t193.bytes,zl Tryz.t193,false⟩),
  (195,⟨Tryz.t194.desc,Tryz.t195.size,Tryz.t195.bytes,zl Tryz.t195,false⟩),
  (198,⟨Tryz.t198.desc,Tryz.t198.size,Tryz.t198.bytes,zl Tryz.t198,false⟩),
  (211,⟨Tryz.t210.desc,Tryz.t211.size,Tryz.t211.bytes,zl Tryz.t211,true⟩),
  (232,⟨Tryz.t232.desc,Tryz.t232.size,Tryz.t232.bytes,zl Tryz.t232,false⟩),
  (236,⟨Tryz.t236.desc,Tryz.t236.size,Tryz.t236.bytes,zl Tryz.t236,false⟩)]
theorem tT:kG Tryz.prog TT:=⟨eX (by kernel_rfl) (by kernel_rfl) (by kernel_rfl),⟨gU,bR (by kernel_rfl)⟩,eX (by kernel_rfl) (by kernel_rfl) (by kernel_rfl),⟨gU,bR (by kernel_rfl)⟩,eX (by kernel_rfl) (by kernel_rfl) (by kernel_rfl),⟨gU,bR (by kernel_rfl)⟩,eX (by kernel_rfl) (by kernel_rfl) (by kernel_rfl),⟨gU,bR (by kernel_rfl)⟩,eX (by kernel_rfl) (by kernel_rfl) (by kernel_rfl),⟨gU,bR (by kernel_rfl)⟩,eX (by kernel_rfl) (by kernel_rfl) (by kernel_rfl),⟨gU,bR (by kernel_rfl)⟩,eX (by kernel_rfl) (by kernel_rfl) (by kernel_rfl),⟨gU,bR (by kernel_rfl)⟩,eX (by kernel_rfl) (by kernel_rfl) (by kernel_rfl),⟨gU,bR (by kernel_rfl)⟩,eX (by kernel_rfl) (by kernel_rfl) (by kernel_rfl),⟨gU,bR (by kernel_rfl)⟩,eX (by kernel_rfl) (by kernel_rfl) (by kernel_rfl),⟨gU,bR (by kernel_rfl)⟩,eX (by kernel_rfl) (by kernel_rfl) (by kernel_rfl),⟨gU,bR (by kernel_rfl)⟩,eX (by kernel_rfl) (by kernel_rfl) (by kernel_rfl),⟨gU,bR (by kernel_rfl)⟩,eX (by kernel_rfl) (by kernel_rfl) (by kernel_rfl),⟨fun _=> ⟨by kernel_rfl,by kernel_rfl⟩,bR (by kernel_rfl)⟩,eX (by kernel_rfl) (by kernel_rfl) (by kernel_rfl),⟨fun _=> ⟨by kernel_rfl,by kernel_rfl⟩,bR (by kernel_rfl)⟩,eX (by kernel_rfl) (by kernel_rfl) (by kernel_rfl),⟨gU,bR (by kernel_rfl)⟩,eX (by kernel_rfl) (by kernel_rfl) (by kernel_rfl),⟨gU,bR (by kernel_rfl)⟩,eX (by kernel_rfl) (by kernel_rfl) (by kernel_rfl),⟨gU,bR (by kernel_rfl)⟩,eX (by kernel_rfl) (by kernel_rfl) (by kernel_rfl),⟨gU,bR (by kernel_rfl)⟩,eX (by kernel_rfl) (by kernel_rfl) (by kernel_rfl),⟨gU,bR (by kernel_rfl)⟩,eX (by kernel_rfl) (by kernel_rfl) (by kernel_rfl),⟨fun _=> ⟨by kernel_rfl,by kernel_rfl⟩,bR (by kernel_rfl)⟩,eX (by kernel_rfl) (by kernel_rfl) (by kernel_rfl),⟨fun _=> ⟨by kernel_rfl,by kernel_rfl⟩,bR (by kernel_rfl)⟩,eX (by kernel_rfl) (by kernel_rfl) (by kernel_rfl),⟨fun _=> ⟨by kernel_rfl,by kernel_rfl⟩,bR (by kernel_rfl)⟩,eX (by kernel_rfl) (by kernel_rfl) (by kernel_rfl),⟨gU,bR (by kernel_rfl)⟩,eX (by kernel_rfl) (by kernel_rfl) (by kernel_rfl),⟨fun _=> ⟨by kernel_rfl,by kernel_rfl⟩,bR (by kernel_rfl)⟩,eX (by kernel_rfl) (by kernel_rfl) (by kernel_rfl),⟨fun _=> ⟨by kernel_rfl,by kernel_rfl⟩,bR (by kernel_rfl)⟩,eX (by kernel_rfl) (by kernel_rfl) (by kernel_rfl),⟨fun _=> ⟨by kernel_rfl,by kernel_rfl⟩,bR (by kernel_rfl)⟩,eX (by kernel_rfl) (by kernel_rfl) (by kernel_rfl),⟨gU,bR (by kernel_rfl)⟩,eX (by kernel_rfl) (by kernel_rfl) (by kernel_rfl),⟨gU,bR (by kernel_rfl)⟩,eX (by kernel_rfl) (by kernel_rfl) (by kernel_rfl),⟨gU,bR (by kernel_rfl)⟩,eX (by kernel_rfl) (by kernel_rfl) (by kernel_rfl),⟨gU,bR (by kernel_rfl)⟩,eX (by kernel_rfl) (by kernel_rfl) (by kernel_rfl),⟨gU,bR (by kernel_rfl)⟩,eX (by kernel_rfl) (by kernel_rfl) (by kernel_rfl),⟨gU,bR (by kernel_rfl)⟩,eX (by kernel_rfl) (by kernel_rfl) (by kernel_rfl),⟨gU,bR (by kernel_rfl)⟩,eX (by kernel_rfl) (by kernel_rfl) (by kernel_rfl),⟨gU,bR (by kernel_rfl)⟩,eX (by kernel_rfl) (by kernel_rfl) (by kernel_rfl),⟨fun _=> ⟨by kernel_rfl,by kernel_rfl⟩,bR (by kernel_rfl)⟩,eX (by kernel_rfl) (by kernel_rfl) (by kernel_rfl),⟨gU,bR (by kernel_rfl)⟩,eX (by kernel_rfl) (by kernel_rfl) (by kernel_rfl),⟨gU,bR (by kernel_rfl)⟩,eX (by kernel_rfl) (by kernel_rfl) (by kernel_rfl),⟨gU,bR (by kernel_rfl)⟩,eX (by kernel_rfl) (by kernel_rfl) (by kernel_rfl),⟨gU,bR (by kernel_rfl)⟩,eX (by kernel_rfl) (by kernel_rfl) (by kernel_rfl),⟨gU,bR (by kernel_rfl)⟩,eX (by kernel_rfl) (by kernel_rfl) (by kernel_rfl),⟨gU,bR (by kernel_rfl)⟩,eX (by kernel_rfl) (by kernel_rfl) (by kernel_rfl),⟨gU,bR (by kernel_rfl)⟩,eX (by kernel_rfl) (by kernel_rfl) (by kernel_rfl),⟨gU,bR (by kernel_rfl)⟩,eX (by kernel_rfl) (by kernel_rfl) (by kernel_rfl),⟨gU,bR (by kernel_rfl)⟩,eX (by kernel_rfl) (by kernel_rfl) (by kernel_rfl),⟨gU,bR (by kernel_rfl)⟩,eX (by kernel_rfl) (by kernel_rfl) (by kernel_rfl),⟨gU,bR (by kernel_rfl)⟩,eX (by kernel_rfl) (by kernel_rfl) (by kernel_rfl),⟨gU,bR (by kernel_rfl)⟩,eX (by kernel_rfl) (by kernel_rfl) (by kernel_rfl),⟨gU,bR (by kernel_rfl)⟩,eX (by kernel_rfl) (by kernel_rfl) (by kernel_rfl),⟨fun _=> ⟨by kernel_rfl,by kernel_rfl⟩,bR (by kernel_rfl)⟩,eX (by kernel_rfl) (by kernel_rfl) (by kernel_rfl),⟨gU,bR (by kernel_rfl)⟩,eX (by kernel_rfl) (by kernel_rfl) (by kernel_rfl),⟨gU,bR (by kernel_rfl)⟩,trivial⟩
theorem mX:Tryz.prog.follows .mixedOrders=true:=by kernel_rfl
def D6:Go.Shelf.Ren:=⟨fun|6=>52|14=>107|15=>108|20=>153|21=>154|22=>155|23=>156|24=>157|25=>158|26=>159|27=>160|28=>161|29=>162|46=>177|47=>178|48=>179|49=>180|50=>181|57=>182|n=>n,fun|0=>0|3=>3|4=>4|5=>5|9=>9|22=>41|24=>44|25=>128|39=>104|45=>219|46=>220|50=>184|53=>226|55=>228|66=>243|70=>247|76=>249|77=>250|n=>n,fun n=>n⟩
theorem MF:Go.Proofs.SlLaysF0.n6 Tryz.prog D6:=⟨by kernel_rfl,⟨Tryz.f52.name,by kernel_rfl,Tryz.func52.trans (congrArg some (by kernel_rfl))⟩,⟨Tryz.f107.name,by kernel_rfl,Tryz.func107.trans (congrArg some (by kernel_rfl))⟩,Tryz.func108.trans (congrArg some (by kernel_rfl)),⟨Tryz.f153.name,by kernel_rfl,Tryz.func153.trans (congrArg some (by kernel_rfl))⟩,⟨Tryz.f154.name,by kernel_rfl,Tryz.func154.trans (congrArg some (by kernel_rfl))⟩,⟨Tryz.f155.name,by kernel_rfl,Tryz.func155.trans (congrArg some (by kernel_rfl))⟩,⟨Tryz.f156.name,by kernel_rfl,Tryz.func156.trans (congrArg some (by kernel_rfl))⟩,⟨Tryz.f157.name,by kernel_rfl,Tryz.func157.trans (congrArg some (by kernel_rfl))⟩,⟨Tryz.f158.name,by kernel_rfl,Tryz.func158.trans (congrArg some (by kernel_rfl))⟩,⟨Tryz.f159.name,by kernel_rfl,Tryz.func159.trans (congrArg some (by kernel_rfl))⟩,⟨Tryz.f160.name,by kernel_rfl,Tryz.func160.trans (congrArg some (by kernel_rfl))⟩,Tryz.func161.trans (congrArg some (by kernel_rfl)),Tryz.func162.trans (congrArg some (by kernel_rfl)),⟨Tryz.f177.name,by kernel_rfl,Tryz.func177.trans (congrArg some (by kernel_rfl))⟩,Tryz.func178.trans (congrArg some (by kernel_rfl)),Tryz.func179.trans (congrArg some (by kernel_rfl)),⟨Tryz.f180.name,by kernel_rfl,Tryz.func180.trans (congrArg some (by kernel_rfl))⟩,⟨Tryz.f181.name,by kernel_rfl,Tryz.func181.trans (congrArg some (by kernel_rfl))⟩,⟨Tryz.f182.name,by kernel_rfl,Tryz.func182.trans (congrArg some (by kernel_rfl))⟩,Tryz.underlying0,Tryz.isAgg0,Tryz.sizeOf0,Tryz.zeroValue0,Tryz.underlying3,Tryz.isAgg3,Tryz.sizeOf3,Tryz.zeroValue3,Tryz.underlying4,Tryz.isAgg4,Tryz.sizeOf4,Tryz.zeroValue4,Tryz.underlying5,Tryz.isAgg5,Tryz.sizeOf5,Tryz.zeroValue5,Tryz.underlying9,Tryz.isAgg9,Tryz.sizeOf9,Tryz.zeroValue9,Tryz.underlying41,Tryz.isAgg41,Tryz.sizeOf41,Tryz.zeroValue41,Tryz.underlying128,Tryz.isAgg128,Tryz.sizeOf128,Tryz.zeroValue128,Tryz.underlying104,Tryz.isAgg104,Tryz.sizeOf104,Tryz.zeroValue104,Tryz.underlying219,Tryz.isAgg219,Tryz.sizeOf219,Tryz.zeroValue219,Tryz.underlying220,Tryz.isAgg220,Tryz.sizeOf220,Tryz.zeroValue220,Tryz.underlying184,Tryz.isAgg184,Tryz.sizeOf184,Tryz.zeroValue184,Tryz.underlying226,Tryz.isAgg226,Tryz.sizeOf226,Tryz.zeroValue226,Tryz.underlying228,Tryz.isAgg228,Tryz.sizeOf228,Tryz.zeroValue228,Tryz.underlying243,Tryz.isAgg243,Tryz.sizeOf243,Tryz.zeroValue243,Tryz.underlying247,Tryz.isAgg247,Tryz.sizeOf247,Tryz.zeroValue247,Tryz.underlying249,Tryz.isAgg249,Tryz.sizeOf249,Tryz.zeroValue249,Tryz.underlying250,Tryz.isAgg250,Tryz.sizeOf250,Tryz.zeroValue250⟩
theorem NK (w:World):(isAgg (D6.t 24)).run Tryz.prog w= .ok true w:=Tryz.isAgg44 w
theorem Mw (w:World):(Go.sizeOf (D6.t 24)).run Tryz.prog w= .ok 2 w:=Tryz.sizeOf44 w
def QL:Go.Shelf.Ren:=⟨fun|23=>170|n=>n,fun|0=>0|3=>3|4=>4|22=>36|n=>n,fun n=>n⟩
theorem OG:Go.Proofs.Lays2.n23 Tryz.prog QL:=⟨by kernel_rfl,Tryz.func170.trans (congrArg some (by kernel_rfl)),Tryz.underlying0,Tryz.isAgg0,Tryz.sizeOf0,Tryz.zeroValue0,Tryz.underlying3,Tryz.isAgg3,Tryz.sizeOf3,Tryz.zeroValue3,Tryz.underlying4,Tryz.isAgg4,Tryz.sizeOf4,Tryz.zeroValue4,Tryz.underlying36,Tryz.isAgg36,Tryz.sizeOf36,Tryz.zeroValue36,by kernel_rfl⟩
theorem aF (n:Int) (u0:Int) (u1:Int):fJ Tryz.prog 91 [(sI n),(sI u0),(sI u1)] [] (fun r=>(vB r)) (fun _=>[]) (aK n u0 u1):=
  gL tT mX Tryz.func91 (
  .r<| .r<| .e (bif (decide (u0≤n))then(decide (n≤u1))else false))
section
variable (p:au)
abbrev k1:List CV:=[(cI p.buses),(.d (aU none 5 Source.cell p.sources)),(.d (aU none 6 Link.cell p.links)),(.d (aU none 4 aN.cell p.racks))]
abbrev k0:List SV:=[(.agg (k1 p))]
end
theorem xq (p:au):fJ Tryz.prog 93 (k0 p) [] (fun r=>(vD (.fn 140 1 (sJ [(DT [(.int .i64 r.1),(aU none 5 Source.cell r.2.1),(aU none 6 Link.cell r.2.2.1),(aU none 4 aN.cell r.2.2.2)] 0)])))) (fun _=>[]) (nZ p):=
  gL tT mX Tryz.func93 (
  .rg {fr:=[(0,1)],fz:=[1]} []<| .r<| .e (p.buses,p.sources,p.links,p.racks))
theorem zH (p:au):fJ Tryz.prog 95 (k0 p) [] (fun r=>(vD (.fn 143 1 (sJ [(DT [(.int .i64 r.1),(aU none 5 Source.cell r.2.1),(aU none 6 Link.cell r.2.2.1),(aU none 4 aN.cell r.2.2.2)] 0)])))) (fun _=>[]) (rF p):=
  gL tT mX Tryz.func95 (
  .rg {fr:=[(0,1)],fz:=[1]} []<| .r<| .e (p.buses,p.sources,p.links,p.racks))
theorem zK (p:au):fJ Tryz.prog 97 (k0 p) [] (fun r=>(vD (.fn 146 1 (sJ [(DT [(.int .i64 r.1),(aU none 5 Source.cell r.2.1),(aU none 6 Link.cell r.2.2.1),(aU none 4 aN.cell r.2.2.2)] 0)])))) (fun _=>[]) (rA p):=
  gL tT mX Tryz.func97 (
  .rg {fr:=[(0,1)],fz:=[1]} []<| .r<| .e (p.buses,p.sources,p.links,p.racks))
section
variable (x:Source) (x1:Int) (u2:(List Source)) (u3:(List Link)) (u4:(List aN)) (r_:Bool) (u0:Bool) (u1:Bool) (u5:Bool) (u6:Bool)
abbrev k2:List CV:=[(cI x.bus),(cI x.kind),(cI x.power),(cI x.sync),(cI x.ohm)]
abbrev k3:DV:=(DT [(.int .i64 x1),(aU none 5 Source.cell u2),(aU none 6 Link.cell u3),(aU none 4 aN.cell u4)] 0)
abbrev k4:=(IntKind.wrap .i64 (x1 - 1))
abbrev k5:=((bif r_ then u0 else false),true)
abbrev k6:=(bif (bif (bif (bif r_ then u0 else false)then u1 else false)then u5 else false)then u6 else false)
end
theorem vE (x:Source) (x1:Int) (u2:(List Source)) (u3:(List Link)) (u4:(List aN)):fJ Tryz.prog 140 [(.agg (k2 x)),(sD (k3 x1 u2 u3 u4))] [] (fun r=>(vB r)) (fun _=>[]) (jw x x1 u2 u3 u4):=
  gL tT mX Tryz.func140 (
  .rg {fr:=[(0,1)],fz:=[1]} []<| .cl 5 (aF x.bus 0 (k4 x1)) fun r_=> .cg 9 [(r_,true)] (aF x.kind 1 3) fun u0=> .cg 14 [(k5 r_ u0)] (aF x.power 1 100000) fun u1=> .cg 19 [((bif (bif r_ then u0 else false)then u1 else false),true)] (aF x.sync 0 8) fun u5=> .cg 24 [((bif (bif (bif r_ then u0 else false)then u1 else false)then u5 else false),true)] (aF x.ohm 10 100000) fun u6=> .r<| .e (k6 r_ u0 u1 u5 u6))
section
variable (x1:Int) (u0:(List Source)) (u1:(List Link)) (u2:(List aN))
abbrev k8:=(sJ [(k3 x1 u0 u1 u2)])
abbrev k7:DV:=(DT [(.fn 140 1 (k8 x1 u0 u1 u2))] 0)
end
theorem xg (x:Source) (x1:Int) (u0:(List Source)) (u1:(List Link)) (u2:(List aN)):fJ Tryz.prog 139 [(.agg (k2 x)),(sD (k7 x1 u0 u1 u2))] [] (fun r=>(vB r)) (fun _=>[]) (og x x1 u0 u1 u2):=
  gL tT mX Tryz.func139 (
  .rg {fr:=[(0,1)],fz:=[1]} []<| .cl 2 (vE x x1 u0 u1 u2) fun r_=> .r<| .e (!r_))
section
variable (s_:(List Source)) (f_:Int) (u0:(List Source)) (u1:(List Link)) (u2:(List aN)) (t8:Int)
abbrev k9:List SV:=[(sD (aU none 5 Source.cell s_)),(sD (.fn 139 1 (sJ [(k7 f_ u0 u1 u2)])))]
abbrev k10:=(IntKind.wrap .i64 (t8+1))
end
theorem sP (s_:(List Source)) (f_:Int) (u0:(List Source)) (u1:(List Link)) (u2:(List aN)):fJ Tryz.prog 172 (k9 s_ f_ u0 u1 u2) [] (fun r=>(vI r)) (fun _=>[]) (jS s_ f_ u0 u1 u2):=
  gL tT mX Tryz.func172 (
  .r<| .r<| .lp (σ:=Int) (β:=Unit) (0) [] [] ⟨[0,1,7],[],fun t8=>[(8,(vI t8))],fun t8=>[]⟩ ⟨[],[],fun _=>[],fun _=>[]⟩
  (fun t8=> .r<| .it (.r<| .cl 5 (xg (at' s_ t8.toNat) f_ u0 u1 u2) fun r_=> .a1 ((0:Int)≤t8∧t8<(s_.length:Int))<| .rg {} [0,1]<| .it (.r<| .e (.done (.ret t8)))
  (.r<| .e (.next (k10 t8))))
  (.e (.done (.brk ()))))
  (fun _=> .r<| .e (-1)))
theorem pM (s_:(List Source)) (f_:Int) (u0:(List Source)) (u1:(List Link)) (u2:(List aN)):fJ Tryz.prog 138 (k9 s_ f_ u0 u1 u2) [] (fun r=>(vB r)) (fun _=>[]) (fH s_ f_ u0 u1 u2):=
  gL tT mX Tryz.func138 (
  .r<| .cl 2 (sP s_ f_ u0 u1 u2) fun r_=> .r<| .e (decide (0≤r_)))
theorem zw (l:(List Source)) (u0:Int) (u1:Int) (u2:(List Source)) (u3:(List Link)) (u4:(List aN)):fJ Tryz.prog 92 [(sD (aU none 5 Source.cell l)),(sI u0),(sD (.fn 140 1 (k8 u1 u2 u3 u4)))] [] (fun r=>(vB r)) (fun _=>[]) (nk l u0 u1 u2 u3 u4):=
  gL tT mX Tryz.func92 (
  .rg {fr:=[(0,1)],fz:=[1]} []<| .cg 7 [((decide ((l.length:Int)≤u0)),true)] (pM l u1 u2 u3 u4) fun r_=> .r<| .e (bif (decide ((l.length:Int)≤u0))then(!r_)else false))
section
variable (x:Link) (u0:Int)
abbrev k11:List CV:=[(cI x.a),(cI x.b),(cI x.kind),(cI x.most),(cI x.ohm),(.d (aU none 2 qd.cell x.trip))]
abbrev k12:=((decide (((at' x.trip u0.toNat).amps)≤((at' x.trip ((k4 u0).toNat)).amps))),false)
end
theorem xV (x:Link) (x1:Int) (u3:(List Source)) (u4:(List Link)) (u5:(List aN)):fJ Tryz.prog 143 [(.agg (k11 x)),(sD (k3 x1 u3 u4 u5))] [] (fun r=>(vB r)) (fun _=>[]) (ko x x1 u3 u4 u5):=
  gL tT mX Tryz.func143 (
  .rg {fr:=[(0,5)]} []<| .cl 5 (aF x.a 0 (k4 x1)) fun r_=> .cg 13 [((!r_),false)] (aF x.b 0 (k4 x1)) fun u1=> .cg 26 [((bif (bif (!r_)then true else(!u1))then true else(decide (x.a=x.b))),false)] (aF x.kind 1 3) fun u6=> .cg 32 [((bif (bif (bif (!r_)then true else(!u1))then true else(decide (x.a=x.b)))then true else(!u6)),false)] (aF x.most 1 100000) fun u8=> .cg 38 [((bif (bif (bif (bif (!r_)then true else(!u1))then true else(decide (x.a=x.b)))then true else(!u6))then true else(!u8)),false)] (aF x.ohm 10 100000) fun u9=> .r<| .it (.r<| .e false)
  (.rg {fz:=[5]} []<| .lp (σ:=Int) (β:=Unit) (0) [] [] ⟨[2,48,49],[],fun u0=>[(50,(vI u0))],fun u0=>[]⟩ ⟨[2],[],fun _=>[],fun _=>[]⟩
  (fun u0=> .r<| .it (.a1 ((0:Int)≤u0∧u0<(x.trip.length:Int))<| .rg {fr:=[(3,9)],fz:=[9]} []<| .cl 2 (aF ((at' x.trip u0.toNat).amps) 1 1000000) fun u2=> .cg 7 [((!u2),false)] (aF ((at' x.trip u0.toNat).millis) 1 100000) fun u7=> .a2 ((gB [((decide (0<u0)),true),((bif (!u2)then true else(!u7)),false)]=true→(0:Int)≤(k4 u0)∧(k4 u0)<(x.trip.length:Int))) ((gB [(k12 x u0),((decide (0<u0)),true),((bif (!u2)then true else(!u7)),false)]=true→(0:Int)≤(k4 u0)∧(k4 u0)<(x.trip.length:Int)))<| .rg {} [3,2,0,1]<| .it (.r<| .e (.done (.ret false)))
  (.r<| .e (.next (k10 u0))))
  (.e (.done (.brk ()))))
  (fun _=> .r<| .e (bif (decide ((x.trip.length:Int)≤6))then(bif (decide ((x.trip.length:Int)=0))then true else(decide (x.kind=3)))else false))))
section
variable (x1:Int) (u0:(List Source)) (u1:(List Link)) (u2:(List aN))
abbrev k13:DV:=(DT [(.fn 143 1 (k8 x1 u0 u1 u2))] 0)
end
theorem uH (x:Link) (x1:Int) (u0:(List Source)) (u1:(List Link)) (u2:(List aN)):fJ Tryz.prog 142 [(.agg (k11 x)),(sD (k13 x1 u0 u1 u2))] [] (fun r=>(vB r)) (fun _=>[]) (ku x x1 u0 u1 u2):=
  gL tT mX Tryz.func142 (
  .rg {fr:=[(0,1)],fz:=[1]} []<| .cl 2 (xV x x1 u0 u1 u2) fun r_=> .r<| .e (!r_))
section
variable (s_:(List Link)) (f_:Int) (u0:(List Source)) (u1:(List Link)) (u2:(List aN))
abbrev k14:List SV:=[(sD (aU none 6 Link.cell s_)),(sD (.fn 142 1 (sJ [(k13 f_ u0 u1 u2)])))]
end
theorem pY (s_:(List Link)) (f_:Int) (u0:(List Source)) (u1:(List Link)) (u2:(List aN)):fJ Tryz.prog 173 (k14 s_ f_ u0 u1 u2) [] (fun r=>(vI r)) (fun _=>[]) (iN s_ f_ u0 u1 u2):=
  gL tT mX Tryz.func173 (
  .r<| .r<| .lp (σ:=Int) (β:=Unit) (0) [] [] ⟨[0,1,7],[],fun t8=>[(8,(vI t8))],fun t8=>[]⟩ ⟨[],[],fun _=>[],fun _=>[]⟩
  (fun t8=> .r<| .it (.r<| .cl 5 (uH (at' s_ t8.toNat) f_ u0 u1 u2) fun r_=> .a1 ((0:Int)≤t8∧t8<(s_.length:Int))<| .rg {} [0,1]<| .it (.r<| .e (.done (.ret t8)))
  (.r<| .e (.next (k10 t8))))
  (.e (.done (.brk ()))))
  (fun _=> .r<| .e (-1)))
theorem nA (s_:(List Link)) (f_:Int) (u0:(List Source)) (u1:(List Link)) (u2:(List aN)):fJ Tryz.prog 141 (k14 s_ f_ u0 u1 u2) [] (fun r=>(vB r)) (fun _=>[]) (d9 s_ f_ u0 u1 u2):=
  gL tT mX Tryz.func141 (
  .r<| .cl 2 (pY s_ f_ u0 u1 u2) fun r_=> .r<| .e (decide (0≤r_)))
theorem xO (l:(List Link)) (u0:Int) (u1:Int) (u2:(List Source)) (u3:(List Link)) (u4:(List aN)):fJ Tryz.prog 94 [(sD (aU none 6 Link.cell l)),(sI u0),(sD (.fn 143 1 (k8 u1 u2 u3 u4)))] [] (fun r=>(vB r)) (fun _=>[]) (kW l u0 u1 u2 u3 u4):=
  gL tT mX Tryz.func94 (
  .rg {fr:=[(0,1)],fz:=[1]} []<| .cg 7 [((decide ((l.length:Int)≤u0)),true)] (nA l u1 u2 u3 u4) fun r_=> .r<| .e (bif (decide ((l.length:Int)≤u0))then(!r_)else false))
section
variable (x:aN)
abbrev k15:List CV:=[(cI x.feeds.e0),(cI x.feeds.e1),(cI x.power),(cI x.paths)]
end
theorem yx (x:aN):fJ Tryz.prog 147 [(.agg (k15 x))] [] (fun r=>(vI r)) (fun _=>[]) (lU x):=
  gL tT mX Tryz.func147 (
  .rg {fr:=[(0,1)],fz:=[1]} []<| .rg {} [.pf ⟨(0:Int)≤1∧(1:Int)<(2:Nat),(by decide)⟩]<| .it (.r<| .e 1)
  (.r<| .e 2))
section
variable (r_:Bool) (u0:Bool) (x:aN) (u1:Bool)
abbrev k17:=(bif (bif (bif r_ then u0 else false)then(!decide (x.feeds.e0=x.feeds.e1))else false)then u1 else false)
abbrev k16:=((k17 r_ u0 x u1),true)
end
theorem xS (x:aN) (x1:Int) (u2:(List Source)) (u3:(List Link)) (u4:(List aN)):fJ Tryz.prog 146 [(.agg (k15 x)),(sD (k3 x1 u2 u3 u4))] [] (fun r=>(vB r)) (fun _=>[]) (kU x x1 u2 u3 u4):=
  gL tT mX Tryz.func146 (
  .rg {fr:=[(0,1)],fz:=[1]} []<| .rg {} [.pf ⟨(0:Int)≤0∧(0:Int)<(2:Nat),(by decide)⟩, .pf ⟨(0:Int)≤1∧(1:Int)<(2:Nat),(by decide)⟩]<| .cl 4 (aF x.feeds.e0 0 (k4 x1)) fun r_=> .cg 10 [(r_,true)] (aF x.feeds.e1 (-1) (k4 x1)) fun u0=> .cg 20 [((bif (bif r_ then u0 else false)then(!decide (x.feeds.e0=x.feeds.e1))else false),true)] (aF x.power 1 100000) fun u1=> .cg 26 [(k16 r_ u0 x u1)] (yx x) fun u5=> .cg 27 [(k16 r_ u0 x u1)] (aF x.paths 0 u5) fun u6=> .r<| .e (bif (k17 r_ u0 x u1)then u6 else false))
section
variable (x1:Int) (u0:(List Source)) (u1:(List Link)) (u2:(List aN))
abbrev k18:DV:=(DT [(.fn 146 1 (k8 x1 u0 u1 u2))] 0)
end
theorem uJ (x:aN) (x1:Int) (u0:(List Source)) (u1:(List Link)) (u2:(List aN)):fJ Tryz.prog 145 [(.agg (k15 x)),(sD (k18 x1 u0 u1 u2))] [] (fun r=>(vB r)) (fun _=>[]) (kQ x x1 u0 u1 u2):=
  gL tT mX Tryz.func145 (
  .rg {fr:=[(0,1)],fz:=[1]} []<| .cl 2 (xS x x1 u0 u1 u2) fun r_=> .r<| .e (!r_))
section
variable (s_:(List aN)) (f_:Int) (u0:(List Source)) (u1:(List Link)) (u2:(List aN))
abbrev k19:List SV:=[(sD (aU none 4 aN.cell s_)),(sD (.fn 145 1 (sJ [(k18 f_ u0 u1 u2)])))]
end
theorem pR (s_:(List aN)) (f_:Int) (u0:(List Source)) (u1:(List Link)) (u2:(List aN)):fJ Tryz.prog 174 (k19 s_ f_ u0 u1 u2) [] (fun r=>(vI r)) (fun _=>[]) (iM s_ f_ u0 u1 u2):=
  gL tT mX Tryz.func174 (
  .r<| .r<| .lp (σ:=Int) (β:=Unit) (0) [] [] ⟨[0,1,7],[],fun t8=>[(8,(vI t8))],fun t8=>[]⟩ ⟨[],[],fun _=>[],fun _=>[]⟩
  (fun t8=> .r<| .it (.r<| .cl 5 (uJ (⟨((at' s_ t8.toNat).feeds),(at' s_ t8.toNat).power,(at' s_ t8.toNat).paths⟩:aN) f_ u0 u1 u2) fun r_=> .a1 ((0:Int)≤t8∧t8<(s_.length:Int))<| .rg {} [0,1]<| .it (.r<| .e (.done (.ret t8)))
  (.r<| .e (.next (k10 t8))))
  (.e (.done (.brk ()))))
  (fun _=> .r<| .e (-1)))
theorem nL (s_:(List aN)) (f_:Int) (u0:(List Source)) (u1:(List Link)) (u2:(List aN)):fJ Tryz.prog 144 (k19 s_ f_ u0 u1 u2) [] (fun r=>(vB r)) (fun _=>[]) (eu s_ f_ u0 u1 u2):=
  gL tT mX Tryz.func144 (
  .r<| .cl 2 (pR s_ f_ u0 u1 u2) fun r_=> .r<| .e (decide (0≤r_)))
theorem xu (l:(List aN)) (u0:Int) (u1:Int) (u2:(List Source)) (u3:(List Link)) (u4:(List aN)):fJ Tryz.prog 96 [(sD (aU none 4 aN.cell l)),(sI u0),(sD (.fn 146 1 (k8 u1 u2 u3 u4)))] [] (fun r=>(vB r)) (fun _=>[]) (kF l u0 u1 u2 u3 u4):=
  gL tT mX Tryz.func96 (
  .rg {fr:=[(0,1)],fz:=[1]} []<| .cg 7 [((decide ((l.length:Int)≤u0)),true)] (nL l u1 u2 u3 u4) fun r_=> .r<| .e (bif (decide ((l.length:Int)≤u0))then(!r_)else false))
theorem qA (p:au):fJ Tryz.prog 46 (k0 p) [] (fun r=>(vI r)) (fun _=>[]) (jO p):=
  gL tT mX Tryz.func46 (
  .rg {fr:=[(0,1)],fz:=[1]} []<| .cl 2 (aF p.buses 1 24) fun r_=> .r<| .it (.r<| .e 10)
  (.cl 3 (xq p) fun u0=> .cl 4 (zw p.sources 8 u0.1 u0.2.1 u0.2.2.1 u0.2.2.2) fun u3=> .r<| .it (.r<| .e 11)
  (.cl 3 (zH p) fun u1=> .cl 4 (xO p.links 40 u1.1 u1.2.1 u1.2.2.1 u1.2.2.2) fun u4=> .r<| .it (.r<| .e 12)
  (.cl 3 (zK p) fun u2=> .cl 4 (xu p.racks 24 u2.1 u2.2.1 u2.2.2.1 u2.2.2.2) fun u5=> .r<| .it (.r<| .e 13)
  (.r<| .e 0)))))
section
variable (s_:State) (p:au) (u0:Int)
abbrev k22:DV:=(aU none 1 af s_.badSource)
abbrev k21:List CV:=[(.d (aU none 1 af s_.closed)),(.d (aU none 1 af s_.locked)),(.d (aU none 1 af s_.badLink)),(.d (aU none 1 af s_.on_)),(.d (k22 s_)),(.d (aU none 1 af s_.earthed)),(.d (aU none 1 af s_.badBus))]
abbrev k20:List SV:=[(.agg (k1 p)),(.agg (k21 s_))]
abbrev k23:=(⟨s_.closed,(p.links.length:Int)⟩:bM)
abbrev k24:=(⟨s_.locked,(p.links.length:Int)⟩:bM)
abbrev k25:=(⟨s_.badLink,(p.links.length:Int)⟩:bM)
abbrev k26:=(⟨s_.on_,(p.sources.length:Int)⟩:bM)
abbrev k27:=(⟨s_.badSource,(p.sources.length:Int)⟩:bM)
abbrev k28:=(av bM.cell [(k23 s_ p),(k24 s_ p),(k25 s_ p),(k26 s_ p),(k27 s_ p),(⟨s_.earthed,p.buses⟩:bM),(⟨s_.badBus,p.buses⟩:bM)])
abbrev VT:=((0:Int)≤u0∧u0<(p.links.length:Int))
abbrev Wo:=((gB [((decide (((at' p.links u0.toNat).kind)=1)),true)]=true→(0:Int)≤u0∧u0<(s_.closed.length:Int)))
abbrev V9:=((gB [((!(at' s_.closed u0.toNat)),false),((decide (((at' p.links u0.toNat).kind)=1)),true)]=true→(0:Int)≤u0∧u0<(s_.locked.length:Int)))
end
theorem bK (p:au) (s_:State):fJ Tryz.prog 10 (k20 s_ p) [] (fun r=>(vI r)) (fun _=>[]) (bP p s_):=
  gL tT mX Tryz.func10 (
  .rg {fr:=[(0,11),(1,12)]} []<| .cl 1 (qA p) fun r_=> .r<| .r<| .it (.r<| .e r_)
  (.r<| .rg {an:=[(30, .arr [(k23 s_ p),(k24 s_ p),(k25 s_ p),(k26 s_ p),(k27 s_ p),(⟨s_.earthed,p.buses⟩:bM),(⟨s_.badBus,p.buses⟩:bM)].length (k28 s_ p))],fr:=[(30,13)],fz:=[12]} [.pf ⟨[(k23 s_ p),(k24 s_ p),(k25 s_ p),(k26 s_ p),(k27 s_ p),(⟨s_.earthed,p.buses⟩:bM),(⟨s_.badBus,p.buses⟩:bM)].length=7,rfl⟩, .pf ⟨aC 7 2 (j3 2 [(aU none 1 af s_.closed),(.int .i64 (p.links.length:Int)),(aU none 1 af s_.locked),(.int .i64 (p.links.length:Int)),(aU none 1 af s_.badLink),(.int .i64 (p.links.length:Int)),(aU none 1 af s_.on_),(.int .i64 (p.sources.length:Int)),(k22 s_),(.int .i64 (p.sources.length:Int)),(aU none 1 af s_.earthed),(.int .i64 p.buses),(aU none 1 af s_.badBus),(.int .i64 p.buses)]) (k28 s_ p),(by intro i hi j hj;match i,j,hi,hj with|0,0,_,_=>rfl|0,1,_,_=>rfl|1,0,_,_=>rfl|1,1,_,_=>rfl|2,0,_,_=>rfl|2,1,_,_=>rfl|3,0,_,_=>rfl|3,1,_,_=>rfl|4,0,_,_=>rfl|4,1,_,_=>rfl|5,0,_,_=>rfl|5,1,_,_=>rfl|6,0,_,_=>rfl|6,1,_,_=>rfl)⟩]<| .lp (σ:=Int) (β:=Unit) (0) [] [] ⟨[2,3,53,54],[11,13],fun u1=>[(55,(vI u1))],fun u1=>[]⟩ ⟨[2,3],[11],fun _=>[],fun _=>[]⟩
  (fun u1=> .r<| .it (.a1 ((0:Int)≤u1∧u1<([(k23 s_ p),(k24 s_ p),(k25 s_ p),(k26 s_ p),(k27 s_ p),(⟨s_.earthed,p.buses⟩:bM),(⟨s_.badBus,p.buses⟩:bM)].length:Int))<| .rg {fr:=[(2,17)],fz:=[17]} [0, .t 0 u1 ([(k23 s_ p),(k24 s_ p),(k25 s_ p),(k26 s_ p),(k27 s_ p),(⟨s_.earthed,p.buses⟩:bM),(⟨s_.badBus,p.buses⟩:bM)].length)]<| .r<| .it (.r<| .e (.done (.ret 9)))
  (.r<| .e (.next (k10 u1))))
  (.e (.done (.brk ()))))
  (fun _=> .r<| .lp (σ:=Int) (β:=Unit) (0) [] [] ⟨[3,67,68],[],fun u0=>[(69,(vI u0))],fun u0=>[]⟩ ⟨[],[],fun _=>[],fun _=>[]⟩
  (fun u0=> .r<| .it (.a1 (VT p u0)<| .rg {fr:=[(3,21)],fz:=[21]} []<| .a2 (Wo s_ p u0) (V9 s_ p u0)<| .rg {} [0,1]<| .it (.r<| .e (.done (.ret 9)))
  (.r<| .e (.next (k10 u0))))
  (.e (.done (.brk ()))))
  (fun _=> .r<| .e 0))))
theorem ji (i:Int) (x1:Int) (u1:(List Source)) (u0:(List Link)) (u2:(List aN)):fJ Tryz.prog 98 [(sI i),(sD (k3 x1 u1 u0 u2))] [] (fun r=>(vB r)) (fun _=>[]) (dP i x1 u1 u0 u2):=
  gL tT mX Tryz.func98 (
  .r<| .a1 ((gB [((bif (decide (0≤i))then(decide (i<(u0.length:Int)))else false),true)]=true→(0:Int)≤i∧i<(u0.length:Int)))<| .r<| .e (bif (bif (decide (0≤i))then(decide (i<(u0.length:Int)))else false)then(!decide (((at' u0 i.toNat).kind)=1))else false))
section
variable (x2:Int) (u0:(List Source)) (u1:(List Link)) (u2:(List aN))
abbrev Vq:DV:=(DT [(.fn 98 1 (k8 x2 u0 u1 u2))] 0)
end
theorem oP (x:Transfer) (x1:Int) (u3:(List Source)) (u4:(List Link)) (u5:(List aN)) (x2:Int) (u0:(List Source)) (u1:(List Link)) (u2:(List aN)):fJ Tryz.prog 100 [(.agg [(cI x.watch),(cI x.open_),(cI x.close)]),(sD (k3 x1 u3 u4 u5)),(sD (Vq x2 u0 u1 u2))] [] (fun r=>(vB r)) (fun _=>[]) (eG x x1 u3 u4 u5 x2 u0 u1 u2):=
  gL tT mX Tryz.func100 (
  .rg {fr:=[(0,1)],fz:=[1]} []<| .cg 14 [((bif (decide (x.watch<0))then true else(decide (x1≤x.watch))),false)] (ji x.close x2 u0 u1 u2) fun r_=> .cg 25 [((!decide (x.open_=(-1))),true),((bif (bif (decide (x.watch<0))then true else(decide (x1≤x.watch)))then true else(!r_)),false)] (ji x.open_ x2 u0 u1 u2) fun u6=> .r<| .e (bif (bif (bif (decide (x.watch<0))then true else(decide (x1≤x.watch)))then true else(!r_))then true else(bif (!decide (x.open_=(-1)))then(bif (!u6)then true else(decide (x.open_=x.close)))else false)))
section
variable (s_:(List Transfer)) (f_:Int) (u0:(List Source)) (u1:(List Link)) (u2:(List aN)) (u3:Int) (u4:(List Source)) (u5:(List Link)) (u6:(List aN)) (t8:Int)
abbrev Ud:DV:=(aU none 3 Transfer.cell s_)
abbrev VW:List SV:=[(sD (Ud s_)),(sD (.fn 100 2 (sJ [(k3 f_ u0 u1 u2),(Vq u3 u4 u5 u6)])))]
abbrev U0:=((0:Int)≤t8∧t8<(s_.length:Int))
end
theorem qh (s_:(List Transfer)) (f_:Int) (u0:(List Source)) (u1:(List Link)) (u2:(List aN)) (u3:Int) (u4:(List Source)) (u5:(List Link)) (u6:(List aN)):fJ Tryz.prog 148 (VW s_ f_ u0 u1 u2 u3 u4 u5 u6) [] (fun r=>(vI r)) (fun _=>[]) (iJ s_ f_ u0 u1 u2 u3 u4 u5 u6):=
  gL tT mX Tryz.func148 (
  .r<| .r<| .lp (σ:=Int) (β:=Unit) (0) [] [] ⟨[0,1,7],[],fun t8=>[(8,(vI t8))],fun t8=>[]⟩ ⟨[],[],fun _=>[],fun _=>[]⟩
  (fun t8=> .r<| .it (.r<| .cl 5 (oP (at' s_ t8.toNat) f_ u0 u1 u2 u3 u4 u5 u6) fun r_=> .a1 (U0 s_ t8)<| .rg {} [0,1]<| .it (.r<| .e (.done (.ret t8)))
  (.r<| .e (.next (k10 t8))))
  (.e (.done (.brk ()))))
  (fun _=> .r<| .e (-1)))
theorem oI (s_:(List Transfer)) (f_:Int) (u0:(List Source)) (u1:(List Link)) (u2:(List aN)) (u3:Int) (u4:(List Source)) (u5:(List Link)) (u6:(List aN)):fJ Tryz.prog 99 (VW s_ f_ u0 u1 u2 u3 u4 u5 u6) [] (fun r=>(vB r)) (fun _=>[]) (eD s_ f_ u0 u1 u2 u3 u4 u5 u6):=
  gL tT mX Tryz.func99 (
  .r<| .cl 2 (qh s_ f_ u0 u1 u2 u3 u4 u5 u6) fun r_=> .r<| .e (decide (0≤r_)))
section
variable (p:au) (s_:State) (l:(List Transfer))
abbrev Ut:List SV:=[(.agg (k1 p)),(.agg (k21 s_)),(sD (Ud l))]
end
theorem jP (p:au) (s_:State) (l:(List Transfer)):fJ Tryz.prog 48 (Ut p s_ l) [] (fun r=>(vI r)) (fun _=>[]) (dY p s_ l):=
  gL tT mX Tryz.func48 (
  .rg {fr:=[(0,3),(1,4)],fz:=[4]} []<| .cl 2 (bK p s_) fun r_=> .r<| .r<| .it (.r<| .e r_)
  (.rg {fr:=[(1,5)],fz:=[3]} []<| .fz [5]<| .cg 6 [((decide (16<(l.length:Int))),false)] (oI l p.buses p.sources p.links p.racks p.buses p.sources p.links p.racks) fun u0=> .r<| .it (.r<| .e 1)
  (.r<| .e 0)))
section
variable (s_:(List Bool))
abbrev V3:=(av af (([]:List Bool)++s_))
end
theorem mD (s_:(List Bool)) (u0:Bool):fJ Tryz.prog 101 [(sD (aU (some u0) 1 af s_))] [] (fun r=>(vO 0 false r.length)) (fun r=>[(0,some (aX 4 1 af r))]) (oQ s_ u0):=
  gL tT mX Tryz.func101 (
  .r<| .r<| .it (.r<| .im (.ad 2 2 4 1 (av af ([]:List Bool)))<| .en ([]:List Bool) [] [(2,0)])
  (.a2 ((([]:List Bool).length+s_.length)*1≤140737488355328) (([]:List Bool).length+s_.length≤4611686018427387904)<| .rg {an:=[(0, .arr ([]:List Bool).length (av af ([]:List Bool))),(2, .arr (([]:List Bool)++s_).length (V3 s_))],fr:=[(0,3),(2,4)]} [.pf ⟨([]:List Bool).length=0,rfl⟩, .pf ⟨aC 0 1 (j3 1 []) (av af ([]:List Bool)),(fun i hi=>absurd hi (Nat.not_lt_zero i))⟩, .e (([]:List Bool).length),0,1, .pf ⟨(([]:List Bool)++s_).length=([]:List Bool).length+s_.length,List.length_append⟩, .pf ⟨aC (([]:List Bool).length+s_.length) 1 (qo (av af ([]:List Bool)) ([]:List Bool).length (av af s_)) (V3 s_),dV _ _ _ _⟩]<| .en (([]:List Bool)++s_) [] [(4,0)]))
theorem aI (s:(List Bool)) {r:(List Bool)} (h:aP s=some r):Fn Tryz.prog 101 [(sD (aU none 1 af s))] [] (vO 0 false r.length) [(0,some (aX 4 1 af r))]:=by
 refine Fn.nn (mD s true h) fun hl=> ?_
 have hs:s=[]:=List.eq_nil_of_length_eq_zero hl
 subst hs
 exact mD [] false (by rw [←h];kernel_rfl)
section
variable (s_:State) (r_:(List Bool)) (u0:(List Bool)) (u1:(List Bool)) (u2:(List Bool)) (u3:(List Bool)) (u4:(List Bool)) (u5:(List Bool))
abbrev VX:List SV:=[(.agg (k21 s_))]
abbrev Py:=(⟨r_,u0,u1,u2,u3,u4,u5⟩:State)
end
theorem uF (s_:State):fJ Tryz.prog 49 (VX s_) [] (fun r=>(.v (.agg [(.own 0 false r.closed.length),(.own 1 false r.locked.length),(.own 2 false r.badLink.length),(.own 3 false r.on_.length),(.own 4 false r.badSource.length),(.own 5 false r.earthed.length),(.own 6 false r.badBus.length)]))) (fun r=>[(0,some (aX 4 1 af r.closed)),(1,some (aX 4 1 af r.locked)),(2,some (aX 4 1 af r.badLink)),(3,some (aX 4 1 af r.on_)),(4,some (aX 4 1 af r.badSource)),(5,some (aX 4 1 af r.earthed)),(6,some (aX 4 1 af r.badBus)),(7,none)]) (kI s_):=
  gL tT mX Tryz.func49 (
  .rg {fr:=[(0,10),(1,11)]} []<| .rg {an:=[(7, .cells)],fr:=[(7,12)]} []<| .ul 11<| .r<| .t<| .a1 ((0:Int)≤0∧0<(7:Int))<| .r<| .cl 4 (l8 [(0,13)] ⟨fun h=>aI s_.closed h⟩) fun r_=> .r<| .r<| .im (.dp [1,2,12,13,14])<| .r<| .t<| .a1 ((0:Int)≤1∧1<(7:Int))<| .r<| .cl 4 (l8 [(0,14)] ⟨fun h=>aI s_.locked h⟩) fun u0=> .r<| .r<| .im (.dp [1,2,12,13,14])<| .r<| .t<| .a1 ((0:Int)≤2∧2<(7:Int))<| .r<| .cl 4 (l8 [(0,15)] ⟨fun h=>aI s_.badLink h⟩) fun u1=> .r<| .r<| .im (.dp [1,2,12,13,14])<| .r<| .t<| .a1 ((0:Int)≤3∧3<(7:Int))<| .r<| .cl 4 (l8 [(0,16)] ⟨fun h=>aI s_.on_ h⟩) fun u2=> .r<| .r<| .im (.dp [1,2,12,13,14])<| .r<| .t<| .a1 ((0:Int)≤4∧4<(7:Int))<| .r<| .cl 4 (l8 [(0,17)] ⟨fun h=>aI s_.badSource h⟩) fun u3=> .r<| .r<| .im (.dp [1,2,12,13,14])<| .r<| .t<| .a1 ((0:Int)≤5∧5<(7:Int))<| .r<| .cl 4 (l8 [(0,18)] ⟨fun h=>aI s_.earthed h⟩) fun u4=> .r<| .r<| .im (.dp [1,2,12,13,14])<| .r<| .t<| .a1 ((0:Int)≤6∧6<(7:Int))<| .r<| .cl 4 (l8 [(0,19)] ⟨fun h=>aI s_.badBus h⟩) fun u5=> .r<| .r<| .im (.dp [1,2,12,13,14])<| .r<| .f<| .r<| .en (Py r_ u0 u1 u2 u3 u4 u5) [] [(13,0),(14,1),(15,2),(16,3),(17,4),(18,5),(19,6),(11,7)])
section
variable (s_:State)
abbrev Us:List CV:=[(.own 0 false s_.closed.length),(.own 1 false s_.locked.length),(.own 2 false s_.badLink.length),(.own 3 false s_.on_.length),(.own 4 false s_.badSource.length),(.own 5 false s_.earthed.length),(.own 6 false s_.badBus.length)]
abbrev Pm:Nat × Option Ob:=(0,some (aX 4 1 af s_.closed))
abbrev EG:Nat × Option Ob:=(1,some (aX 4 1 af s_.locked))
abbrev EY:Nat × Option Ob:=(2,some (aX 4 1 af s_.badLink))
abbrev Ff:Nat × Option Ob:=(3,some (aX 4 1 af s_.on_))
abbrev ET:Nat × Option Ob:=(4,some (aX 4 1 af s_.badSource))
abbrev FM:Nat × Option Ob:=(5,some (aX 4 1 af s_.earthed))
abbrev Gh:Nat × Option Ob:=(6,some (aX 4 1 af s_.badBus))
abbrev R8:List (Nat × Option Ob):=[(Pm s_),(EG s_),(EY s_),(Ff s_),(ET s_),(FM s_),(Gh s_)]
end
theorem tY (p:au) (s_:State) (l:(List Transfer)):fJ Tryz.prog 50 [(.agg (k1 p)),(.agg (Us s_)),(sD (Ud l))] (R8 s_) (fun r=>(.v (.one (.fn 102 0 3 (K4 [(.d (DT [(aU none 3 Transfer.cell r.1)] 0)),(.d (DT [(.int .i64 r.2.1),(aU none 5 Source.cell r.2.2.1),(aU none 6 Link.cell r.2.2.2.1),(aU none 4 aN.cell r.2.2.2.2.1)] 0)),(.ptr 7 0)]))))) (fun r=>[(Pm s_),(EG s_),(EY s_),(Ff s_),(ET s_),(FM s_),(Gh s_),(7,some (.cells 29 (Us s_)))]) (kT p s_ l):=
  gL tT mX Tryz.func50 (
  .rg {fr:=[(0,10),(1,11),(2,12)],fz:=[10,12]} []<| .r<| .en (l,p.buses,p.sources,p.links,p.racks,s_) [] [(11,7)])
noncomputable def fP:fT:=⟨[28,29],J4 ([1,1,1,1,0,1,0]++[0]) (qU Tryz.f13),J4 ([1,1,1,1,0,1,0]++[1]) (qU Tryz.f13),37,[]⟩
theorem sM (p:au) (s_:State):fJ Tryz.prog 104 (k20 s_ p) [] (fun r=>(vD (.fn 152 2 (sJ [(DT [(.int .i64 r.1),(aU none 5 Source.cell r.2.1),(aU none 6 Link.cell r.2.2.1),(aU none 4 aN.cell r.2.2.2.1)] 0),(DT [(aU none 1 af r.2.2.2.2.1),(aU none 1 af r.2.2.2.2.2.1),(aU none 1 af r.2.2.2.2.2.2.1),(aU none 1 af r.2.2.2.2.2.2.2.1),(aU none 1 af r.2.2.2.2.2.2.2.2.1),(aU none 1 af r.2.2.2.2.2.2.2.2.2.1),(aU none 1 af r.2.2.2.2.2.2.2.2.2.2)] 0)])))) (fun _=>[]) (iB p s_):=
  gL tT mX Tryz.func104 (
  .rg {fr:=[(0,2),(1,3)],fz:=[2,3]} []<| .r<| .e (p.buses,p.sources,p.links,p.racks,s_.closed,s_.locked,s_.badLink,s_.on_,s_.badSource,s_.earthed,s_.badBus))
noncomputable def oh:fT:=⟨[22],J4 ([1,1,0,1,0]++[0]) (qU Tryz.f51),J4 ([1,1,0,1,0]++[1]) (qU Tryz.f51),125,[]⟩
section
variable (g:aS)
abbrev Vb:List (Nat × Option Ob):=[(0,some (Ed 3 3 false false 1 1 (aB .i64) (aB .i64) g.head))]
end
theorem eH (g:aS) (x:Int):fJ Tryz.prog 106 [(.agg [(.mp 0)]),(sI x)] (Vb g) (fun r=>(vI r)) (fun r=>(Vb g)) (bN g x):=
  gL tT mX Tryz.func106 (
  .rg {fr:=[(0,2)]} []<| .lp (σ:=Int) (β:=Unit) (x) [] [] ⟨[2],[0,2],fun x1=>[(1,(vI x1))],fun x1=>[]⟩ ⟨[],[],fun _=>[],fun _=>[]⟩
  (fun x1=> .rg {an:=[(3, .look (aQ bO x1 g.head).isSome [(cI ((aQ bO x1 g.head).getD 0))])]} [.pf ⟨iC [some .i64] 1 1 g.head.length (sN (aB .i64) g.head) (sU (aB .i64) g.head) [(.int .i64 x1)] [(.d (.int .i64 0))] (aQ bO x1 g.head).isSome [(cI ((aQ bO x1 g.head).getD 0))],iH (fun _=>rfl) (fun _ _=>rfl) g.head x1 0 rfl rfl rfl⟩]<| .r<| .it (.r<| .e (.done (.ret x1)))
  (.r<| .e (.next ((aQ bO x1 g.head).getD 0))))
  (fun _=> .no))
theorem rJ (g:aS) (a:Int) (b:Int):fJ Tryz.prog 105 [(.agg [(.mp 0)]),(sI a),(sI b)] (Vb g) (fun r=>(.dX [])) (fun r=>[(0,some (Ed 3 3 false false 1 1 (aB .i64) (aB .i64) r))]) (gT g a b):=
  gL tT mX Tryz.func105 (
  .rg {fr:=[(0,2)]} []<| .cr 2 (eH g a) fun r_=> .cr 5 (eH g b) fun u0=> .r<| .r<| .it (.rg {an:=[(4, .map (fe bO r_ u0 g.head).length (sN (aB .i64) (fe bO r_ u0 g.head)) (sU (aB .i64) (fe bO r_ u0 g.head)) [])]} [.pf ⟨mF [some .i64] 1 1 g.head.length (sN (aB .i64) g.head) (sU (aB .i64) g.head) [(.int .i64 r_)] [(cI u0)] [] (fe bO r_ u0 g.head).length (sN (aB .i64) (fe bO r_ u0 g.head)) (sU (aB .i64) (fe bO r_ u0 g.head)),Ak (fun _=>rfl) (fun _ _=>rfl) g.head r_ u0 rfl rfl⟩]<| .e (fe bO r_ u0 g.head))
  (.e g.head))
section
variable (o_:aS)
abbrev Va:Nat × Option Ob:=(0,some (.loop oh 0 [(5,(vP 1 0))]))
abbrev V5:List (Nat × Option Ob):=[Va,(1,some (.cells 178 [(.mp 2)])),(2,some (Ed 3 3 false false 1 1 (aB .i64) (aB .i64) o_.head))]
end
theorem qL (u0:Int) (u1:Int) (u2:Int) (u3:Int) (u4:Int) (u5:(List qd)) (o_:aS):Qw Tryz.prog 0 [(.agg [(cI u0),(cI u1),(cI u2),(cI u3),(cI u4),(.d (aU none 2 qd.cell u5))])] (V5 o_) (fun _=>vB true) (fun r=>[Va,(1,some (.cells 178 [(.mp 2)])),(2,some (Ed 3 3 false false 1 1 (aB .i64) (aB .i64) r.head))]) (iX u0 u1 u2 u3 u4 u5 o_):=
  VD tT mX oh ⟨[5],[0,1,2],fun _=>[(6,(vD (DT [(.int .i64 u0),(.int .i64 u1),(.int .i64 u2),(.int .i64 u3),(.int .i64 u4),(aU none 2 qd.cell u5)] 0)))],fun _=>[]⟩ (.rg {fr:=[(0,4)],fz:=[4]} []<| .e ())
  (.cl 5 (l8 [(0,2)] (rJ o_ u0 u1)) fun r_=> .r<| .e (⟨r_⟩:aS))
section
variable (x2:(List Bool)) (u6:(List Bool)) (u2:(List Bool)) (u7:(List Bool)) (u8:(List Bool)) (u9:(List Bool)) (u1:(List Bool)) (t9:Int) (u0:(List Link))
abbrev TD:DV:=(DT [(aU none 1 af x2),(aU none 1 af u6),(aU none 1 af u2),(aU none 1 af u7),(aU none 1 af u8),(aU none 1 af u9),(aU none 1 af u1)] 0)
abbrev V7:=(bif (bif (at' x2 t9.toNat)then(!(at' u2 t9.toNat))else false)then(!(at' u1 (((at' u0 t9.toNat).a).toNat)))else false)
abbrev Qu:=((0:Int)≤t9∧t9<(x2.length:Int))
abbrev VB:=((gB [((bif (at' x2 t9.toNat)then(!(at' u2 t9.toNat))else false),true)]=true→(0:Int)≤(at' u0 t9.toNat).a∧(at' u0 t9.toNat).a<(u1.length:Int)))
abbrev VF:=((gB [((V7 x2 u2 u1 t9 u0),true)]=true→(0:Int)≤(at' u0 t9.toNat).b∧(at' u0 t9.toNat).b<(u1.length:Int)))
end
theorem qJ (x1:Int) (u4:(List Source)) (u0:(List Link)) (u5:(List aN)) (x2:(List Bool)) (u6:(List Bool)) (u2:(List Bool)) (u7:(List Bool)) (u8:(List Bool)) (u9:(List Bool)) (u1:(List Bool)) (o_:aS):fJ Tryz.prog 152 [(.one (.yl 0)),(sD (k3 x1 u4 u0 u5)),(sD (TD x2 u6 u2 u7 u8 u9 u1))] (V5 o_) (fun r=>(.dX [])) (fun r=>[Va,(1,some (.cells 178 [(.mp 2)])),(2,some (Ed 3 3 false false 1 1 (aB .i64) (aB .i64) r.head))]) (iZ x1 u4 u0 u5 x2 u6 u2 u7 u8 u9 u1 o_):=
  gL tT mX Tryz.func152 (
  .r<| .lp (σ:=((List (Int × Int)) × Int)) (β:=(List (Int × Int))) (o_.head,0) [] [] ⟨[0,2,7,8],[0,1],fun(u3,t9)=>[(9,(vI t9))],fun(u3,t9)=>[(2,some (Ed 3 3 false false 1 1 (aB .i64) (aB .i64) u3))]⟩ ⟨[],[0,1],fun o501=>[],fun o501=>[(2,some (Ed 3 3 false false 1 1 (aB .i64) (aB .i64) o501))]⟩
  (fun(u3,t9)=> .r<| .it (.a1 ((0:Int)≤t9∧t9<(u0.length:Int))<| .rg {fr:=[(3,10)],fz:=[10]} []<| .fk (bif (V7 x2 u2 u1 t9 u0)then(!(at' u1 (((at' u0 t9.toNat).b).toNat)))else false) (.cy 34 (qL ((at' u0 t9.toNat).a) ((at' u0 t9.toNat).b) ((at' u0 t9.toNat).kind) ((at' u0 t9.toNat).most) ((at' u0 t9.toNat).ohm) ((at' u0 t9.toNat).trip) (⟨u3⟩:aS)) fun r_=> .a4 (Qu x2 t9) ((gB [((at' x2 t9.toNat),true)]=true→(0:Int)≤t9∧t9<(u2.length:Int))) (VB x2 u2 u1 t9 u0) (VF x2 u2 u1 t9 u0)<| .rg {ov:=[(31,true,5)]} [0,1,2,3, .k 4]<| .f<| .r<| .e (.next (r_.head,(k10 t9))))
  (.a4 (Qu x2 t9) ((gB [((at' x2 t9.toNat),true)]=true→(0:Int)≤t9∧t9<(u2.length:Int))) (VB x2 u2 u1 t9 u0) (VF x2 u2 u1 t9 u0)<| .rg {ov:=[(31,false,4)],sk:=[32,33,34,35]} [0,1,2,3]<| .f<| .r<| .e (.next (u3,(k10 t9)))))
  (.e (.done (.brk u3))))
  (fun o501=> .e (⟨o501⟩:aS)))
section
variable (u1:(List aD)) (u2:(List (Int × Int))) (u0:Int) (u3:Int) (u7:Int) (p:au) (s_:State) (u5:(List aD)) (u6:Int) (u4:(List (Int × Int)))
abbrev VJ:List (Nat × Option Ob):=[(60,some (.rows 122 2 u1.length (rO aD.ev u1) none)),(61,some (Ed 3 3 false false 1 1 (aB .i64) (aB .i64) u2))]
abbrev Cc:=((aQ bO u0 u2).getD 0)
abbrev Q0:List CV:=[(cI (Cc u2 u0))]
abbrev Jh:=(fe bO u0 (u1.length:Int) u2)
abbrev Nl:=(u1++[(⟨([]:List Int),([]:List Int)⟩:aD)])
abbrev Vj:=(rO aD.ev (Nl u1))
abbrev Oh:=((aQ bO u0 (Jh u1 u2 u0)).getD 0)
abbrev UL:=((Oh u1 u2 u0).toNat)
abbrev VI:=(at' (Nl u1) (UL u1 u2 u0))
abbrev Pq:=((VI u1 u2 u0).buses)
abbrev Vw:=((Pq u1 u2 u0).length+[u3].length)
abbrev QZ:=((Pq u1 u2 u0)++[u3])
abbrev UN:=(av (aB .i64) (QZ u1 u2 u0 u3))
abbrev UW:=((Nl u1).set (UL u1 u2 u0) (⟨(QZ u1 u2 u0 u3),(VI u1 u2 u0).sources⟩:aD))
abbrev VG:=(rO aD.ev (UW u1 u2 u0 u3))
abbrev Np:=((at' u1 ((Cc u2 u0).toNat)).buses)
abbrev QX:=((Np u1 u2 u0)++[u3])
abbrev UZ:=(av (aB .i64) (QX u1 u2 u0 u3))
abbrev Vd:=(u1.set ((Cc u2 u0).toNat) (⟨(QX u1 u2 u0 u3),(at' u1 ((Cc u2 u0).toNat)).sources⟩:aD))
abbrev V4:=(rO aD.ev (Vd u1 u2 u0 u3))
abbrev VU:=((0:Int)≤u7∧u7<(p.sources.length:Int))
abbrev Vx:=((gB [((at' s_.on_ u7.toNat),true)]=true→(0:Int)≤u7∧u7<(s_.badSource.length:Int)))
abbrev Vp:=((gB [((bif (at' s_.on_ u7.toNat)then(!(at' s_.badSource u7.toNat))else false),true)]=true→(0:Int)≤(at' p.sources u7.toNat).bus∧(at' p.sources u7.toNat).bus<(s_.badBus.length:Int)))
abbrev Vt:=((at' p.sources u7.toNat).bus)
abbrev OA:=((at' u5 ((Cc u4 u6).toNat)).sources)
abbrev QR:=((OA u5 u6 u4)++[u7])
abbrev Vi:=(av (aB .i64) (QR u7 u5 u6 u4))
abbrev UB:=(u5.set ((Cc u4 u6).toNat) (⟨(at' u5 ((Cc u4 u6).toNat)).buses,(QR u7 u5 u6 u4)⟩:aD))
abbrev VE:=(rO aD.ev (UB u7 u5 u6 u4))
end
theorem gZ (p:au) (s_:State):fJ Tryz.prog 51 (k20 s_ p) [] (fun r=>(vD (aU none 2 aD.cell r))) (fun _=>[]) (eU p s_):=
  gL tT mX Tryz.func51 (
  .rg {fr:=[(0,55),(1,56)],fz:=[56]} []<| .rg {an:=[(0, .map 0 (sN (aB .i64) ([]:(List (Int × Int)))) (sU (aB .i64) ([]:(List (Int × Int)))) [])],fr:=[(0,57),(2,58)]} []<| .cl 2 (sM p s_) fun r_=> .r<| .cl 0 (l8 [(0,59),(1,58),(2,57)] (qJ r_.1 r_.2.1 r_.2.2.1 r_.2.2.2.1 r_.2.2.2.2.1 r_.2.2.2.2.2.1 r_.2.2.2.2.2.2.1 r_.2.2.2.2.2.2.2.1 r_.2.2.2.2.2.2.2.2.1 r_.2.2.2.2.2.2.2.2.2.1 r_.2.2.2.2.2.2.2.2.2.2 (⟨([]:(List (Int × Int)))⟩:aS))) fun v0=> .rf 59 [5] [] none 0 []<| .r<| .im (.Wq 7 60 122 2 (rO aD.ev ([]:List aD)))<| .rg {an:=[(0, .map 0 (sN (aB .i64) ([]:(List (Int × Int)))) (sU (aB .i64) ([]:(List (Int × Int)))) [])],fr:=[(0,61)]} []<| .r<| .lp (σ:=((List aD) × (List (Int × Int)) × Int)) (β:=((List aD) × (List (Int × Int)))) (([]:List aD),([]:(List (Int × Int))),0) [] [] ⟨[2,3,5,8,31],[55,57,58],fun(u1,u2,u3)=>[(7,(vO 60 false u1.length)),(32,(vI u3))],fun(u1,u2,u3)=>(VJ u1 u2)⟩ ⟨[2,3,5,8],[55,57,58],fun(u9,u4)=>[(7,(vO 60 false u9.length))],fun(u9,u4)=>(VJ u9 u4)⟩
  (fun(u1,u2,u3)=> .r<| .it (.r<| .a1 ((0:Int)≤u3∧u3<(s_.badBus.length:Int))<| .r<| .it (.r<| .e (.next (u1,u2,(k10 u3))))
  (.cr 2 (l8 [(0,57)] (eH v0 u3)) fun u0=> .r<| .rg {an:=[(2, .look (aQ bO u0 u2).isSome (Q0 u2 u0))]} [.pf ⟨iC [some .i64] 1 1 u2.length (sN (aB .i64) u2) (sU (aB .i64) u2) [(.int .i64 u0)] [(.d (.int .i64 0))] (aQ bO u0 u2).isSome (Q0 u2 u0),iH (fun _=>rfl) (fun _ _=>rfl) u2 u0 0 rfl rfl rfl⟩]<| .r<| .it (.rg {an:=[(4, .map (Jh u1 u2 u0).length (sN (aB .i64) (Jh u1 u2 u0)) (sU (aB .i64) (Jh u1 u2 u0)) [])]} [.pf ⟨mF [some .i64] 1 1 u2.length (sN (aB .i64) u2) (sU (aB .i64) u2) [(.int .i64 u0)] [(cI (u1.length:Int))] [] (Jh u1 u2 u0).length (sN (aB .i64) (Jh u1 u2 u0)) (sU (aB .i64) (Jh u1 u2 u0)),Ak (fun _=>rfl) (fun _ _=>rfl) u2 u0 (u1.length:Int) rfl rfl⟩]<| .a2 ((u1.length+[(⟨([]:List Int),([]:List Int)⟩:aD)].length)*48≤140737488355328) (u1.length+[(⟨([]:List Int),([]:List Int)⟩:aD)].length≤4611686018427387904)<| .rg {an:=[(2, .arr [(⟨([]:List Int),([]:List Int)⟩:aD)].length (j3 2 [nS,nS])),(3, .rows (Nl u1).length (Vj u1))],fr:=[(2,86),(3,87)]} [.pf ⟨[(⟨([]:List Int),([]:List Int)⟩:aD)].length=1,rfl⟩, .pf ⟨aC 1 2 (j3 2 [nS,nS]) (j3 2 [nS,nS]),H8 _ _ _⟩, .e (u1.length),0,1, .pf ⟨(Nl u1).length=u1.length+[(⟨([]:List Int),([]:List Int)⟩:aD)].length,List.length_append⟩, .pf ⟨zM u1.length [(⟨([]:List Int),([]:List Int)⟩:aD)].length 2 (rO aD.ev u1) (j3 2 [nS,nS]) (Vj u1),Oy _ _ _ _ _ (by intro i hi j hj;match i,j,hi,hj with|0,0,_,_=>exact⟨rfl,_,_,_,rfl⟩|0,1,_,_=>exact⟨rfl,_,_,_,rfl⟩)⟩]<| .rg {an:=[(2, .look (aQ bO u0 (Jh u1 u2 u0)).isSome [(cI (Oh u1 u2 u0))])]} [.pf ⟨iC [some .i64] 1 1 (Jh u1 u2 u0).length (sN (aB .i64) (Jh u1 u2 u0)) (sU (aB .i64) (Jh u1 u2 u0)) [(.int .i64 u0)] [(.d (.int .i64 0))] (aQ bO u0 (Jh u1 u2 u0)).isSome [(cI (Oh u1 u2 u0))],iH (fun _=>rfl) (fun _ _=>rfl) (Jh u1 u2 u0) u0 0 rfl rfl rfl⟩]<| .a3 ((0:Int)≤(Oh u1 u2 u0)∧(Oh u1 u2 u0)<((Nl u1).length:Int)) ((Vw u1 u2 u0 u3)*8≤140737488355328) ((Pq u1 u2 u0).length+[u3].length≤4611686018427387904)<| .rg {an:=[(6, .take 88),(8, .arr [u3].length (av (aB .i64) [u3])),(9, .arr (QZ u1 u2 u0 u3).length (UN u1 u2 u0 u3)),(12, .rows 0 (VG u1 u2 u0 u3))],fr:=[(8,89),(9,90)]} [0, .t 0 (Oh u1 u2 u0) ((Nl u1).length), .pf ⟨[u3].length=1,rfl⟩, .pf ⟨aC 1 1 (j3 1 [(.int .i64 u3)]) (av (aB .i64) [u3]),(by intro i hi j hj;match i,j,hi,hj with|0,0,_,_=>rfl)⟩, .e ((Pq u1 u2 u0).length),1,2, .pf ⟨(QZ u1 u2 u0 u3).length=(Pq u1 u2 u0).length+[u3].length,List.length_append⟩, .pf ⟨aC (Vw u1 u2 u0 u3) 1 (qo (av (aB .i64) (Pq u1 u2 u0)) (Pq u1 u2 u0).length (av (aB .i64) [u3])) (UN u1 u2 u0 u3),dV _ _ _ _⟩,0, .t 0 (Oh u1 u2 u0) ((Nl u1).length), .e ((QZ u1 u2 u0 u3).length), .pf ⟨Mq (Nl u1).length 2 (OZ (Vj u1) (UL u1 u2 u0) 0 (.row 3 1 (QZ u1 u2 u0 u3).length (UN u1 u2 u0 u3))) (VG u1 u2 u0 u3),Am _ _ _ _ _ _ _ _ rfl (fun j hj=>(match j,hj with|0,_=>rfl|1,_=>rfl))⟩, .pf ⟨∀i0 j0 c0,((some ((Oh u1 u2 u0).toNat,0,CV.own 88 false (Pq u1 u2 u0).length)):Option (Nat × Nat × CV))=some (i0,j0,c0)→i0=(Oh u1 u2 u0).toNat∧j0=0,(fun i0 j0 c0 e=>by cases e;exact⟨rfl,rfl⟩)⟩]<| .im (.ll 87 (Nl u1) (UW u1 u2 u0 u3))<| .r<| .en (.next ((UW u1 u2 u0 u3),(Jh u1 u2 u0),(k10 u3))) [] [(87,60)])
  (.rg {an:=[(2, .look (aQ bO u0 u2).isSome (Q0 u2 u0))]} [.pf ⟨iC [some .i64] 1 1 u2.length (sN (aB .i64) u2) (sU (aB .i64) u2) [(.int .i64 u0)] [(.d (.int .i64 0))] (aQ bO u0 u2).isSome (Q0 u2 u0),iH (fun _=>rfl) (fun _ _=>rfl) u2 u0 0 rfl rfl rfl⟩]<| .a3 ((0:Int)≤(Cc u2 u0)∧(Cc u2 u0)<(u1.length:Int)) (((Np u1 u2 u0).length+[u3].length)*8≤140737488355328) ((Np u1 u2 u0).length+[u3].length≤4611686018427387904)<| .rg {an:=[(6, .take 91),(8, .arr [u3].length (av (aB .i64) [u3])),(9, .arr (QX u1 u2 u0 u3).length (UZ u1 u2 u0 u3)),(12, .rows 0 (V4 u1 u2 u0 u3))],fr:=[(8,92),(9,93)]} [0, .t 0 (Cc u2 u0) u1.length, .pf ⟨[u3].length=1,rfl⟩, .pf ⟨aC 1 1 (j3 1 [(.int .i64 u3)]) (av (aB .i64) [u3]),(by intro i hi j hj;match i,j,hi,hj with|0,0,_,_=>rfl)⟩, .e ((Np u1 u2 u0).length),1,2, .pf ⟨(QX u1 u2 u0 u3).length=(Np u1 u2 u0).length+[u3].length,List.length_append⟩, .pf ⟨aC ((Np u1 u2 u0).length+[u3].length) 1 (qo (av (aB .i64) (Np u1 u2 u0)) (Np u1 u2 u0).length (av (aB .i64) [u3])) (UZ u1 u2 u0 u3),dV _ _ _ _⟩,0, .t 0 (Cc u2 u0) u1.length, .e ((QX u1 u2 u0 u3).length), .pf ⟨Mq u1.length 2 (OZ (rO aD.ev u1) ((Cc u2 u0).toNat) 0 (.row 3 1 (QX u1 u2 u0 u3).length (UZ u1 u2 u0 u3))) (V4 u1 u2 u0 u3),Am _ _ _ _ _ _ _ _ rfl (fun j hj=>(match j,hj with|0,_=>rfl|1,_=>rfl))⟩, .pf ⟨∀i0 j0 c0,((some ((Cc u2 u0).toNat,0,CV.own 91 false (Np u1 u2 u0).length)):Option (Nat × Nat × CV))=some (i0,j0,c0)→i0=(Cc u2 u0).toNat∧j0=0,(fun i0 j0 c0 e=>by cases e;exact⟨rfl,rfl⟩)⟩]<| .im (.ll 60 u1 (Vd u1 u2 u0 u3))<| .r<| .e (.next ((Vd u1 u2 u0 u3),u2,(k10 u3))))))
  (.e (.done (.brk (u1,u2)))))
  (fun(u9,u4)=> .r<| .lp (σ:=((List aD) × Int)) (β:=(List aD)) (u9,0) [] [] ⟨[3,5,8,76,77],[57,58,61],fun(u5,u7)=>[(7,(vO 60 false u5.length)),(78,(vI u7))],fun(u5,u7)=>[(60,some (.rows 122 2 u5.length (rO aD.ev u5) none))]⟩ ⟨[],[],fun u8=>[(7,(vO 60 false u8.length))],fun u8=>[(60,some (.rows 122 2 u8.length (rO aD.ev u8) none))]⟩
  (fun(u5,u7)=> .r<| .it (.a1 (VU u7 p)<| .rg {fr:=[(3,106)],fz:=[106]} []<| .a3 ((0:Int)≤u7∧u7<(s_.on_.length:Int)) (Vx u7 s_) (Vp u7 p s_)<| .rg {} [0,1,2]<| .it (.cr 4 (l8 [(0,57)] (eH v0 (Vt u7 p))) fun u6=> .rg {an:=[(5, .look (aQ bO u6 u4).isSome (Q0 u4 u6))]} [0, .pf ⟨iC [some .i64] 1 1 u4.length (sN (aB .i64) u4) (sU (aB .i64) u4) [(.int .i64 u6)] [(.d (.int .i64 0))] (aQ bO u6 u4).isSome (Q0 u4 u6),iH (fun _=>rfl) (fun _ _=>rfl) u4 u6 0 rfl rfl rfl⟩]<| .a3 ((0:Int)≤(Cc u4 u6)∧(Cc u4 u6)<(u5.length:Int)) (((OA u5 u6 u4).length+[u7].length)*8≤140737488355328) ((OA u5 u6 u4).length+[u7].length≤4611686018427387904)<| .rg {an:=[(6, .take 107),(8, .arr [u7].length (av (aB .i64) [u7])),(9, .arr (QR u7 u5 u6 u4).length (Vi u7 u5 u6 u4)),(12, .rows 0 (VE u7 u5 u6 u4))],fr:=[(8,108),(9,109)]} [0, .t 0 (Cc u4 u6) u5.length, .pf ⟨[u7].length=1,rfl⟩, .pf ⟨aC 1 1 (j3 1 [(.int .i64 u7)]) (av (aB .i64) [u7]),(by intro i hi j hj;match i,j,hi,hj with|0,0,_,_=>rfl)⟩, .e ((OA u5 u6 u4).length),1,2, .pf ⟨(QR u7 u5 u6 u4).length=(OA u5 u6 u4).length+[u7].length,List.length_append⟩, .pf ⟨aC ((OA u5 u6 u4).length+[u7].length) 1 (qo (av (aB .i64) (OA u5 u6 u4)) (OA u5 u6 u4).length (av (aB .i64) [u7])) (Vi u7 u5 u6 u4),dV _ _ _ _⟩,0, .t 0 (Cc u4 u6) u5.length, .e ((QR u7 u5 u6 u4).length), .pf ⟨Mq u5.length 2 (OZ (rO aD.ev u5) ((Cc u4 u6).toNat) 1 (.row 3 1 (QR u7 u5 u6 u4).length (Vi u7 u5 u6 u4))) (VE u7 u5 u6 u4),Am _ _ _ _ _ _ _ _ rfl (fun j hj=>(match j,hj with|0,_=>rfl|1,_=>rfl))⟩, .pf ⟨∀i0 j0 c0,((some ((Cc u4 u6).toNat,1,CV.own 107 false (OA u5 u6 u4).length)):Option (Nat × Nat × CV))=some (i0,j0,c0)→i0=(Cc u4 u6).toNat∧j0=1,(fun i0 j0 c0 e=>by cases e;exact⟨rfl,rfl⟩)⟩]<| .im (.ll 60 u5 (UB u7 u5 u6 u4))<| .r<| .e (.next ((UB u7 u5 u6 u4),(k10 u7))))
  (.r<| .e (.next (u5,(k10 u7)))))
  (.e (.done (.brk u5))))
  (fun u8=> .r<| .fz [60]<| .im (.us 4 (vD (.sl none 2 u8.length (fun i j=>UO (rO aD.ev u8 i j)))) (vD (aU none 2 aD.cell u8)) (zb.v (j4.one (dL.d (dm.sl (.inr rfl) (fun i _ j hj=>match j,hj with|0,_=> .refl _|1,_=> .refl _))))))<| .e u8)))
section
variable (p:au) (u1:(List aD)) (u0:Int) (u3:Int) (u2:(List Bool)) (u6:(List Bool))
abbrev VH:=((1:Int)*p.buses≤281474976710656)
abbrev Vr:=((p.buses:Int)≤9223372036854775807)
abbrev PO:=(List.replicate p.buses.toNat (false:Bool))
abbrev Ur:=(av af (PO p))
abbrev QU:=(at' ((at' u1 u0.toNat).buses) u3.toNat)
abbrev Vu:=((0:Int)≤(QU u1 u0 u3)∧(QU u1 u0 u3)<(u2.length:Int))
abbrev Uh:=(u2.set ((QU u1 u0 u3).toNat) (decide (0<(((at' u1 u0.toNat).sources).length:Int))))
abbrev Uw:=(av af (Uh u1 u0 u3 u2))
abbrev VZ:=(lu (av af u2) ((QU u1 u0 u3).toNat) 0 [(.bool (decide (0<(((at' u1 u0.toNat).sources).length:Int))))])
abbrev Vs:=((Uh u1 u0 u3 u2),(k10 u3))
abbrev V6:=(u6,(k10 u0))
end
theorem mR (p:au) (s_:State):fJ Tryz.prog 14 (k20 s_ p) [] (fun r=>(.dX [(.one (.own 0 false r.1.length)),(sI r.2)])) (fun r=>[(0,some (aX 4 1 af r.1))]) (cO p s_):=
  gL tT mX Tryz.func14 (
  .rg {fr:=[(0,7),(1,8)],fz:=[7,8]} []<| .cl 2 (bK p s_) fun r_=> .r<| .r<| .it (.r<| .im (.ad 4 9 4 1 (av af ([]:List Bool)))<| .en (([]:List Bool),r_) [] [(9,0)])
  (.a3 ((0:Int)≤p.buses) (VH p) (Vr p)<| .rg {an:=[(2, .arr (PO p).length (Ur p))],fr:=[(2,10)]} [0, .e ((p.buses:Int)),1,2, .pf ⟨(PO p).length=p.buses.toNat,List.length_replicate⟩, .pf ⟨aC p.buses.toNat 1 (fun _ j=>[(.bool false)].getD j .nilp) (Ur p),jr _ _ _ _ _ (fun j hj=>(match j,hj with|0,_=>rfl))⟩]<| .cl 2 (gZ p s_) fun u1=> .r<| .lp (σ:=((List Bool) × Int)) (β:=(List Bool)) ((PO p),0) [] [] ⟨[23,24],[],fun(u4,u0)=>[(7,(vO 10 true u4.length)),(25,(vI u0))],fun(u4,u0)=>[(10,some (aX 4 1 af u4))]⟩ ⟨[],[],fun u5=>[(7,(vO 10 true u5.length))],fun u5=>[(10,some (aX 4 1 af u5))]⟩
  (fun(u4,u0)=> .r<| .it (.a1 ((0:Int)≤u0∧u0<(u1.length:Int))<| .rg {fr:=[(2,14)]} []<| .rg {fz:=[14]} []<| .lp (σ:=((List Bool) × Int)) (β:=(List Bool)) (u4,0) [] [] ⟨[9,23,24,25,30,31],[],fun(u2,u3)=>[(7,(vO 10 true u2.length)),(32,(vI u3))],fun(u2,u3)=>[(10,some (aX 4 1 af u2))]⟩ ⟨[23,24,25],[],fun u6=>[(7,(vO 10 true u6.length))],fun u6=>[(10,some (aX 4 1 af u6))]⟩
  (fun(u2,u3)=> .r<| .it (.a1 ((0:Int)≤u3∧u3<(((at' u1 u0.toNat).buses).length:Int))<| .r<| .a1 (Vu u1 u0 u3 u2)<| .rg {an:=[(7, .arr 0 (Uw u1 u0 u3 u2))]} [0, .t 0 (QU u1 u0 u3) u2.length, .pf ⟨aC u2.length 1 (VZ u1 u0 u3 u2) (Uw u1 u0 u3 u2),dK _ _ _ _ _ _ _ _ rfl (fun j hj=>(match j,hj with|0,_=>rfl))⟩]<| .im (.ll 10 u2 (Uh u1 u0 u3 u2))<| .r<| .e (.next (Vs u1 u0 u3 u2)))
  (.e (.done (.brk u2))))
  (fun u6=> .r<| .e (.next (V6 u0 u6))))
  (.e (.done (.brk u4))))
  (fun u5=> .r<| .en (u5,0) [] [(10,0)])))
theorem fQ (x y:ah):Go.Proofs.ltOf bC x y=true↔x.e0<y.e0∨ ¬ y.e0<x.e0∧x.e1<y.e1:=by
 unfold Go.Proofs.ltOf bC;rw [decide_eq_true_iff]
 by_cases h0:x.e0<y.e0<;>by_cases g0:y.e0<x.e0<;>by_cases h1:x.e1<y.e1<;>by_cases g1:y.e1<x.e1<;>simp [h0,g0,h1,g1]
theorem rY:Go.Sort.SWO (Go.Proofs.ltOf bC) where
 irrefl x:=by rw [←Bool.not_eq_true,fQ];omega
 trans x y z h1 h2:=by rw [fQ]at*;omega
 ntrans x y z h1 h2:=by rw [←Bool.not_eq_true,fQ]at*;omega
theorem r9 (x y:ah) (h1:(Go.Proofs.ltOf bC) x y=false) (h2:(Go.Proofs.ltOf bC) y x=false):x=y:=by
 rw [←Bool.not_eq_true,fQ]at h1 h2
 obtain⟨a,b⟩:=x
 obtain⟨c,d⟩:=y
 have e1:a=c:=by simp only at h1 h2;omega
 have e2:b=d:=by simp only at h1 h2;omega
 rw [e1,e2]
theorem mI (s:(List ah)) {r:(List ah)} (h:fZ s=some r):Fn Tryz.prog 52 [(.one (.own 0 false s.length)),(sD (.fn 53 0 (sJ [])))] [(0,some (.arr 44 2 s.length (av ah.cell s)))] (.dX []) [(0,some (.arr 44 2 r.length (av ah.cell r)))]:=
 Qp MF 2 NK Mw (fun x:ah=>[.int .i64 x.e0, .int .i64 x.e1]) (fun _=>rfl) (fun x v hv=>by simp at hv;rcases hv with rfl|rfl<;>rfl) bC rY r9
  (Hw (fun x:ah=>[.int .i64 x.e0, .int .i64 x.e1]) (fun x=>x.e0) (fun x=>x.e1) (fun _=>rfl)) (enters_of Tryz.func53 (by kernel_rfl) rfl)
  (fun F w x j hj v=>match j,hj with|0,_=>Iff.rfl|1,_=>Iff.rfl) 52 rfl ⟨_,Tryz.func52,rfl,rfl⟩ s (by cases s with|nil=>(cases h;simp)|cons x xs=>exact h)
section
variable (u6:(List ah)) (u1:Int) (u2:(List aD)) (u0:Int) (u3:Int) (p:au) (u4:(List ah))
abbrev QV:List (Nat × Option Ob):=[(139,some (aX 44 2 ah.cell u6))]
abbrev Vv:=((0:Int)≤(k10 u1)∧(k10 u1)≤(((at' u2 u0.toNat).sources).length:Int))
abbrev Q7:=((k10 u1).toNat)
abbrev Ol:=(((at' u2 u0.toNat).sources).drop (Q7 u1))
abbrev Sk:=((0:Int)≤u3∧u3<((Ol u1 u2 u0).length:Int))
abbrev EC:=(at' ((at' u2 u0.toNat).sources) u1.toNat)
abbrev RG:=((0:Int)≤(EC u1 u2 u0)∧(EC u1 u2 u0)<(p.sources.length:Int))
abbrev S9:=((gB [((decide (((at' p.sources ((EC u1 u2 u0).toNat)).sync)=0)),false)]=true→(0:Int)≤(EC u1 u2 u0)∧(EC u1 u2 u0)<(p.sources.length:Int)))
abbrev Ny:=(at' (Ol u1 u2 u0) u3.toNat)
abbrev Rz:=((gB [((decide (((at' p.sources ((EC u1 u2 u0).toNat)).sync)=0)),false)]=true→(0:Int)≤(Ny u1 u2 u0 u3)∧(Ny u1 u2 u0 u3)<(p.sources.length:Int)))
abbrev BO:=(⟨(EC u1 u2 u0),(Ny u1 u2 u0 u3)⟩:ah)
abbrev PS:=(u4.length+[(BO u1 u2 u0 u3)].length)
abbrev Sn:=((PS u1 u2 u0 u3 u4)*16≤140737488355328)
abbrev Rb:=(u4.length+[(BO u1 u2 u0 u3)].length≤4611686018427387904)
abbrev LY:=(av ah.cell [(BO u1 u2 u0 u3)])
abbrev Kl:=(u4++[(BO u1 u2 u0 u3)])
abbrev Oz:=(av ah.cell (Kl u1 u2 u0 u3 u4))
abbrev R9:=(j3 2 [(.int .i64 (EC u1 u2 u0)),(.int .i64 (Ny u1 u2 u0 u3))])
abbrev Sr:=(qo (av ah.cell u4) u4.length (LY u1 u2 u0 u3))
abbrev Tn:=((Kl u1 u2 u0 u3 u4),(k10 u3))
abbrev Jr:=(u4,(k10 u3))
end
theorem ic (p:au) (s_:State):fJ Tryz.prog 15 (k20 s_ p) [] (fun r=>(.dX [(.one (.own 0 false r.1.length)),(sI r.2)])) (fun r=>[(0,some (aX 44 2 ah.cell r.1))]) (bE p s_):=
  gL tT mX Tryz.func15 (
  .rg {fr:=[(0,134),(1,135)],fz:=[134,135]} []<| .cl 2 (bK p s_) fun r_=> .r<| .r<| .it (.r<| .im (.ad 4 136 44 2 (av ah.cell ([]:List ah)))<| .en (([]:List ah),r_) [] [(136,0)])
  (.r<| .cl 2 (gZ p s_) fun u2=> .r<| .im (.ad 7 269 44 2 (av ah.cell ([]:List ah)))<| .lp (σ:=((List ah) × Int)) (β:=(List ah)) (([]:List ah),0) [] [(269,139)] ⟨[2,22,23],[],fun(u6,u0)=>[(7,(vO 139 false u6.length)),(24,(vI u0))],fun(u6,u0)=>(QV u6)⟩ ⟨[],[],fun u5=>[(7,(vO 139 false u5.length))],fun u5=>(QV u5)⟩
  (fun(u6,u0)=> .r<| .it (.a1 ((0:Int)≤u0∧u0<(u2.length:Int))<| .rg {fr:=[(2,236)],fz:=[236]} []<| .r<| .lp (σ:=((List ah) × Int)) (β:=(List ah)) (u6,0) [] [] ⟨[2,9,22,23,24,29,30],[],fun(u7,u1)=>[(7,(vO 139 false u7.length)),(31,(vI u1))],fun(u7,u1)=>(QV u7)⟩ ⟨[2,22,23,24],[],fun u8=>[(7,(vO 139 false u8.length))],fun u8=>(QV u8)⟩
  (fun(u7,u1)=> .r<| .it (.a1 ((0:Int)≤u1∧u1<(((at' u2 u0.toNat).sources).length:Int))<| .r<| .a1 (Vv u1 u2 u0)<| .r<| .im (.us 40 (vD (.sl none 1 (((at' u2 u0.toNat).sources).length - (Q7 u1)) (fun iq jq=>av (aB .i64) ((at' u2 u0.toNat).sources) (iq+(Q7 u1)) jq))) (vD (aU none 1 (aB .i64) (Ol u1 u2 u0))) (zb.v (j4.one (dL.d (dm.UA (by first|rw [List.length_append,List.length_drop]|simp only [List.length_set,List.length_drop,wT]) (.inr rfl) (K9 _ _ _ _))))))<| .lp (σ:=((List ah) × Int)) (β:=(List ah)) (u7,0) [] [] ⟨[2,9,11,22,23,24,29,30,31,40,41],[],fun(u4,u3)=>[(7,(vO 139 false u4.length)),(42,(vI u3))],fun(u4,u3)=>(QV u4)⟩ ⟨[2,9,22,23,24,29,30,31],[],fun u9=>[(7,(vO 139 false u9.length))],fun u9=>(QV u9)⟩
  (fun(u4,u3)=> .r<| .it (.a1 (Sk u1 u2 u0 u3)<| .r<| .a3 (RG u1 u2 u0 p) (S9 u1 u2 u0 p) (Rz u1 u2 u0 u3 p)<| .rg {} [0,1,2]<| .it (.a2 (Sn u1 u2 u0 u3 u4) (Rb u1 u2 u0 u3 u4)<| .rg {an:=[(4, .arr [(BO u1 u2 u0 u3)].length (LY u1 u2 u0 u3)),(5, .arr (Kl u1 u2 u0 u3 u4).length (Oz u1 u2 u0 u3 u4))],fr:=[(4,267),(5,268)]} [.pf ⟨[(BO u1 u2 u0 u3)].length=1,rfl⟩, .pf ⟨aC 1 2 (R9 u1 u2 u0 u3) (LY u1 u2 u0 u3),(by intro i hi j hj;match i,j,hi,hj with|0,0,_,_=>rfl|0,1,_,_=>rfl)⟩, .e (u4.length),0,1, .pf ⟨(Kl u1 u2 u0 u3 u4).length=u4.length+[(BO u1 u2 u0 u3)].length,List.length_append⟩, .pf ⟨aC (PS u1 u2 u0 u3 u4) 2 (Sr u1 u2 u0 u3 u4) (Oz u1 u2 u0 u3 u4),dV _ _ _ _⟩]<| .r<| .en (.next (Tn u1 u2 u0 u3 u4)) [] [(268,139)])
  (.r<| .e (.next (Jr u3 u4))))
  (.e (.done (.brk u4))))
  (fun u9=> .r<| .e (.next (Jr u1 u9))))
  (.e (.done (.brk u7))))
  (fun u8=> .r<| .e (.next (Jr u0 u8))))
  (.e (.done (.brk u6))))
  (fun u5=> .cl 1 (l8 [(0,139)] ⟨fun h=>mI u5 h⟩) fun v0=> .r<| .a1 (u5.length=v0.length)<| .so 7 139 false u5.length v0.length 0<| .so 77 139 false u5.length v0.length 0<| .r<| .en (v0,0) [] [(139,0)])))
theorem xN (s_:(List ah)) (v_:ah):fJ Tryz.prog 176 [(sD (aU none 2 ah.cell s_)),(.agg [(cI v_.e0),(cI v_.e1)])] [] (fun r=>(vI r)) (fun _=>[]) (oF s_ v_):=
  gL tT mX Tryz.func176 (
  .rg {fr:=[(0,1)],fz:=[1]} []<| .r<| .lp (σ:=Int) (β:=Unit) (0) [] [] ⟨[0,3,7],[],fun t8=>[(8,(vI t8))],fun t8=>[]⟩ ⟨[],[],fun _=>[],fun _=>[]⟩
  (fun t8=> .r<| .it (.r<| .a1 ((0:Int)≤t8∧t8<(s_.length:Int))<| .r<| .it (.r<| .e (.done (.ret t8)))
  (.r<| .e (.next (k10 t8))))
  (.e (.done (.brk ()))))
  (fun _=> .r<| .e (-1)))
theorem uq (s_:(List ah)) (v_:ah):fJ Tryz.prog 151 [(sD (aU none 2 ah.cell s_)),(.agg [(cI v_.e0),(cI v_.e1)])] [] (fun r=>(vB r)) (fun _=>[]) (iO s_ v_):=
  gL tT mX Tryz.func151 (
  .rg {fr:=[(0,1)],fz:=[1]} []<| .cl 2 (xN s_ v_) fun r_=> .r<| .e (decide (0≤r_)))
theorem wO (c:ah) (x1:(List ah)):fJ Tryz.prog 150 [(.agg [(cI c.e0),(cI c.e1)]),(sD (DT [(aU none 2 ah.cell x1)] 0))] [] (fun r=>(vB r)) (fun _=>[]) (mO c x1):=
  gL tT mX Tryz.func150 (
  .rg {fr:=[(0,1)],fz:=[1]} []<| .cl 2 (uq x1 c) fun r_=> .r<| .e (!r_))
section
variable (s_:(List ah)) (f_:(List ah))
abbrev R6:List SV:=[(sD (aU none 2 ah.cell s_)),(sD (.fn 150 1 (sJ [(DT [(aU none 2 ah.cell f_)] 0)])))]
end
theorem pQ (s_:(List ah)) (f_:(List ah)):fJ Tryz.prog 175 (R6 s_ f_) [] (fun r=>(vI r)) (fun _=>[]) (iK s_ f_):=
  gL tT mX Tryz.func175 (
  .r<| .r<| .lp (σ:=Int) (β:=Unit) (0) [] [] ⟨[0,1,7],[],fun t8=>[(8,(vI t8))],fun t8=>[]⟩ ⟨[],[],fun _=>[],fun _=>[]⟩
  (fun t8=> .r<| .it (.r<| .cl 5 (wO (at' s_ t8.toNat) f_) fun r_=> .a1 ((0:Int)≤t8∧t8<(s_.length:Int))<| .rg {} [0,1]<| .it (.r<| .e (.done (.ret t8)))
  (.r<| .e (.next (k10 t8))))
  (.e (.done (.brk ()))))
  (fun _=> .r<| .e (-1)))
theorem iR (s_:(List ah)) (f_:(List ah)):fJ Tryz.prog 149 (R6 s_ f_) [] (fun r=>(vB r)) (fun _=>[]) (bU s_ f_):=
  gL tT mX Tryz.func149 (
  .r<| .cl 2 (pQ s_ f_) fun r_=> .r<| .e (decide (0≤r_)))
section
variable (p:au) (s_:State) (x:Transfer) (r_:((List Bool) × Int)) (u0:(List Bool)) (u1:Int) (u3:((List Bool) × Int))
abbrev QO:List SV:=[(.agg (k1 p)),(.agg (Us s_))]
abbrev Sw:=(bif (bif (at' s_.badBus x.watch.toNat)then true else(at' r_.1 x.watch.toNat))then true else(at' s_.closed x.close.toNat))
abbrev TF:=((Sw s_ x r_),false)
abbrev Rt:=((bif (Sw s_ x r_)then true else(at' s_.badLink x.close.toNat)),false)
abbrev tZ:=(u0.set x.close.toNat true)
abbrev Bb:=((tZ x u0).set x.open_.toNat false)
abbrev Sv:List SV:=[(.agg (k1 p)),(.agg [(.d (aU none 1 af (Bb x u0))),(.d (aU none 1 af s_.locked)),(.d (aU none 1 af s_.badLink)),(.d (aU none 1 af s_.on_)),(.d (k22 s_)),(.d (aU none 1 af s_.earthed)),(.d (aU none 1 af s_.badBus))])]
abbrev QN:=(⟨(Bb x u0),s_.locked,s_.badLink,s_.on_,s_.badSource,s_.earthed,s_.badBus⟩:State)
abbrev TU:List SV:=[(.agg (k1 p)),(.agg [(.own 29 false ((Bb x u0).length)),(.own 1 false s_.locked.length),(.own 2 false s_.badLink.length),(.own 3 false s_.on_.length),(.own 4 false s_.badSource.length),(.own 5 false s_.earthed.length),(.own 6 false s_.badBus.length)])]
abbrev Qo:Nat × Option Ob:=(29,some (aX 4 1 af (Bb x u0)))
abbrev Rm:List (Nat × Option Ob):=[(Qo x u0),(EG s_),(EY s_),(Ff s_),(ET s_),(FM s_),(Gh s_)]
abbrev PW:=((0:Int)≤u1∧u1<(r_.1.length:Int))
abbrev Qa:=(gB [((at' r_.1 u1.toNat),true)]=true→(0:Int)≤u1∧u1<(u3.1.length:Int))
abbrev RJ:=((Qa r_ u1 u3))
abbrev H7:=((bif (at' r_.1 u1.toNat)then(!(at' u3.1 u1.toNat))else false),false)
abbrev Rs:=((gB [(H7 r_ u1 u3)]=true→(0:Int)≤u1∧u1<(u3.1.length:Int)))
abbrev RO:=((gB [((at' u3.1 u1.toNat),true),(H7 r_ u1 u3)]=true→(0:Int)≤u1∧u1<(s_.earthed.length:Int)))
abbrev TA:=((gB [((bif (at' u3.1 u1.toNat)then(at' s_.earthed u1.toNat)else false),true),(H7 r_ u1 u3)]=true→(0:Int)≤u1∧u1<(r_.1.length:Int)))
abbrev Ty:List SV:=[(.agg (k1 p)),(.agg [(.d (aU none 1 af (tZ x u0))),(.d (aU none 1 af s_.locked)),(.d (aU none 1 af s_.badLink)),(.d (aU none 1 af s_.on_)),(.d (k22 s_)),(.d (aU none 1 af s_.earthed)),(.d (aU none 1 af s_.badBus))])]
abbrev P7:=(⟨(tZ x u0),s_.locked,s_.badLink,s_.on_,s_.badSource,s_.earthed,s_.badBus⟩:State)
abbrev Rk:List SV:=[(.agg (k1 p)),(.agg [(.own 29 false ((tZ x u0).length)),(.own 1 false s_.locked.length),(.own 2 false s_.badLink.length),(.own 3 false s_.on_.length),(.own 4 false s_.badSource.length),(.own 5 false s_.earthed.length),(.own 6 false s_.badBus.length)])]
abbrev PU:Nat × Option Ob:=(29,some (aX 4 1 af (tZ x u0)))
abbrev Tt:List (Nat × Option Ob):=[(PU x u0),(EG s_),(EY s_),(Ff s_),(ET s_),(FM s_),(Gh s_)]
end
theorem yL (p:au) (s_:State) (x:Transfer):fJ Tryz.prog 103 [(.agg (k1 p)),(.agg (Us s_)),(.agg [(cI x.watch),(cI x.open_),(cI x.close)])] (R8 s_) (fun r=>(.dX [(.agg [(.own 7 false r.1.closed.length),(.own 1 false s_.locked.length),(.own 2 false s_.badLink.length),(.own 3 false s_.on_.length),(.own 4 false s_.badSource.length),(.own 5 false s_.earthed.length),(.own 6 false s_.badBus.length)]),(sB r.2)])) (fun r=>[(Pm s_),(EG s_),(EY s_),(Ff s_),(ET s_),(FM s_),(Gh s_),(7,bif r.2 then some (aX 4 1 af r.1.closed)else none),(8,none)]) (jM p s_ x):=
  gL tT mX Tryz.func103 (
  .rg {fr:=[(0,22),(1,23),(2,24),(3,25)],fz:=[22]} []<| .cl 2 ⟨fun{r_} hr_=>((Fn.mW (args:=(k20 s_ p)) (frz:=[0,1,2,3,4,5,6]) (p:=[s_.closed.length=s_.closed.length,s_.locked.length=s_.locked.length,s_.badLink.length=s_.badLink.length,s_.on_.length=s_.on_.length,s_.badSource.length=s_.badSource.length,s_.earthed.length=s_.earthed.length,s_.badBus.length=s_.badBus.length]) (rK [(0,26)] (mR p s_ hr_)) (by kernel_rfl) ⟨rfl,rfl,rfl,rfl,rfl,rfl,rfl,trivial⟩ (by kernel_rfl) ⟨(fun _ _=>rfl),trivial⟩ (by kernel_rfl)):Fn Tryz.prog 14 (QO p s_) (R8 s_) (.dX [(.one (.own 26 false r_.1.length)),(sI r_.2)]) [(Pm s_),(EG s_),(EY s_),(Ff s_),(ET s_),(FM s_),(Gh s_),(26,some (aX 4 1 af r_.1))])⟩ fun r_=> .rg {fz:=[26]} []<| .a5 ((0:Int)≤x.watch∧x.watch<(s_.badBus.length:Int)) ((gB [((at' s_.badBus x.watch.toNat),false)]=true→(0:Int)≤x.watch∧x.watch<(r_.1.length:Int))) ((gB [((bif (at' s_.badBus x.watch.toNat)then true else(at' r_.1 x.watch.toNat)),false)]=true→(0:Int)≤x.close∧x.close<(s_.closed.length:Int))) ((gB [(TF s_ x r_)]=true→(0:Int)≤x.close∧x.close<(s_.badLink.length:Int))) ((gB [(Rt s_ x r_)]=true→(0:Int)≤x.close∧x.close<(s_.locked.length:Int)))<| .rg {} [0, .t 0 x.watch s_.badBus.length,1,2, .tg 2 [((bif (at' s_.badBus x.watch.toNat)then true else(at' r_.1 x.watch.toNat)),false)] x.close s_.closed.length,3, .tg 3 [(TF s_ x r_)] x.close s_.badLink.length,4, .tg 4 [(Rt s_ x r_)] x.close s_.locked.length]<| .it (.r<| .im (.ac 25 0 0 27)<| .en (s_,false) [] [(27,7),(25,8)])
  (.rg {fr:=[(1,28)]} []<| .cl 2 ⟨fun{u0} hr_1=>((Fn.mW (args:=[(sD (aU none 1 af s_.closed))]) (frz:=[0]) (p:=[s_.closed.length=s_.closed.length]) (Fn.qR [(0,29)] (aI s_.closed hr_1) (by kernel_rfl) (by kernel_rfl) (by kernel_rfl) (by kernel_rfl)) (by kernel_rfl) ⟨rfl,trivial⟩ (by kernel_rfl) ⟨(fun _ _=>rfl),trivial⟩ (by kernel_rfl)):Fn Tryz.prog 101 [(.one (.own 0 false s_.closed.length))] [(Pm s_)] (vO 29 false u0.length) [(Pm s_),(29,some (aX 4 1 af u0))])⟩ fun u0=> .r<| .a1 ((0:Int)≤x.close∧x.close<(u0.length:Int))<| .rg {an:=[(5, .arr 0 (av af (tZ x u0)))]} [0, .t 0 x.close u0.length, .pf ⟨aC u0.length 1 (lu (av af u0) x.close.toNat 0 [(.bool true)]) (av af (tZ x u0)),dK _ _ _ _ _ _ _ _ rfl (fun j hj=>(match j,hj with|0,_=>rfl))⟩]<| .im (.ll 29 u0 (tZ x u0))<| .r<| .it (.a2 ((0:Int)≤x.open_∧x.open_<(s_.badLink.length:Int)) ((gB [((at' s_.badLink x.open_.toNat),false)]=true→(0:Int)≤x.open_∧x.open_<(s_.locked.length:Int)))<| .rg {} [0, .t 0 x.open_ s_.badLink.length,1, .tg 1 [((at' s_.badLink x.open_.toNat),false)] x.open_ s_.locked.length]<| .it (.r<| .im (.ac 25 0 0 30)<| .en (s_,false) [] [(30,7),(25,8)])
  (.a1 ((0:Int)≤x.open_∧x.open_<((tZ x u0).length:Int))<| .rg {an:=[(5, .arr 0 (av af (Bb x u0)))],fz:=[24]} [0, .t 0 x.open_ ((tZ x u0).length), .pf ⟨aC (tZ x u0).length 1 (lu (av af (tZ x u0)) x.open_.toNat 0 [(.bool false)]) (av af (Bb x u0)),dK _ _ _ _ _ _ _ _ rfl (fun j hj=>(match j,hj with|0,_=>rfl))⟩]<| .im (.ll 29 (tZ x u0) (Bb x u0))<| .cl 2 ⟨fun{u3} hr_2=>((Fn.mW (args:=(Sv p s_ x u0)) (frz:=[29,1,2,3,4,5,6]) (p:=[(Bb x u0).length=(Bb x u0).length,s_.locked.length=s_.locked.length,s_.badLink.length=s_.badLink.length,s_.on_.length=s_.on_.length,s_.badSource.length=s_.badSource.length,s_.earthed.length=s_.earthed.length,s_.badBus.length=s_.badBus.length]) (Fn.qR [(0,31)] (mR p (QN s_ x u0) hr_2) (by kernel_rfl) (by kernel_rfl) (by kernel_rfl) (by kernel_rfl)) (by kernel_rfl) ⟨rfl,rfl,rfl,rfl,rfl,rfl,rfl,trivial⟩ (by kernel_rfl) ⟨(fun _ _=>rfl),trivial⟩ (by kernel_rfl)):Fn Tryz.prog 14 (TU p s_ x u0) (Rm s_ x u0) (.dX [(.one (.own 31 false u3.1.length)),(sI u3.2)]) [(Qo x u0),(EG s_),(EY s_),(Ff s_),(ET s_),(FM s_),(Gh s_),(31,some (aX 4 1 af u3.1))])⟩ fun u3=> .rg {fz:=[31]} []<| .r<| .lp (σ:=Int) (β:=Unit) (0) [] [] ⟨[3,4,5,6,8,10,11,102],[0,1,2,3,4,5,6,23,25,28,29],fun u1=>[(103,(vI u1))],fun u1=>[]⟩ ⟨[3,4,5,6,10,11],[0,1,2,3,4,5,6,23,25,28,29],fun _=>[],fun _=>[]⟩
  (fun u1=> .r<| .it (.r<| .a5 (PW r_ u1) (RJ r_ u1 u3) (Rs r_ u1 u3) (RO s_ r_ u1 u3) (TA s_ r_ u1 u3)<| .rg {} [0,1,2,3, .tg 3 [((at' u3.1 u1.toNat),true),(H7 r_ u1 u3)] u1 s_.earthed.length,4]<| .it (.r<| .im (.ac 25 0 0 32)<| .en (.done (.ret (s_,false))) [] [(32,7),(25,8)])
  (.r<| .e (.next (k10 u1))))
  (.e (.done (.brk ()))))
  (fun _=> .cl 2 ⟨fun{u5} hr_3=>((Fn.mW (args:=(k20 s_ p)) (frz:=[0,1,2,3,4,5,6]) (p:=[s_.closed.length=s_.closed.length,s_.locked.length=s_.locked.length,s_.badLink.length=s_.badLink.length,s_.on_.length=s_.on_.length,s_.badSource.length=s_.badSource.length,s_.earthed.length=s_.earthed.length,s_.badBus.length=s_.badBus.length]) (Fn.qR [(0,33)] (ic p s_ hr_3) (by kernel_rfl) (by kernel_rfl) (by kernel_rfl) (by kernel_rfl)) (by kernel_rfl) ⟨rfl,rfl,rfl,rfl,rfl,rfl,rfl,trivial⟩ (by kernel_rfl) ⟨(fun _ j=>match j with|0=>rfl|1=>rfl|_+2=>rfl),trivial⟩ (by kernel_rfl)):Fn Tryz.prog 15 (QO p s_) (R8 s_) (.dX [(.one (.own 33 false u5.1.length)),(sI u5.2)]) [(Pm s_),(EG s_),(EY s_),(Ff s_),(ET s_),(FM s_),(Gh s_),(33,some (aX 44 2 ah.cell u5.1))])⟩ fun u5=> .rg {fr:=[(6,34)],fz:=[33]} []<| .fz [34]<| .cl 2 ⟨fun{u6} hr_4=>((Fn.mW (args:=(Sv p s_ x u0)) (frz:=[29,1,2,3,4,5,6]) (p:=[(Bb x u0).length=(Bb x u0).length,s_.locked.length=s_.locked.length,s_.badLink.length=s_.badLink.length,s_.on_.length=s_.on_.length,s_.badSource.length=s_.badSource.length,s_.earthed.length=s_.earthed.length,s_.badBus.length=s_.badBus.length]) (Fn.qR [(0,35)] (ic p (QN s_ x u0) hr_4) (by kernel_rfl) (by kernel_rfl) (by kernel_rfl) (by kernel_rfl)) (by kernel_rfl) ⟨rfl,rfl,rfl,rfl,rfl,rfl,rfl,trivial⟩ (by kernel_rfl) ⟨(fun _ j=>match j with|0=>rfl|1=>rfl|_+2=>rfl),trivial⟩ (by kernel_rfl)):Fn Tryz.prog 15 (TU p s_ x u0) (Rm s_ x u0) (.dX [(.one (.own 35 false u6.1.length)),(sI u6.2)]) [(Qo x u0),(EG s_),(EY s_),(Ff s_),(ET s_),(FM s_),(Gh s_),(35,some (aX 44 2 ah.cell u6.1))])⟩ fun u6=> .rg {fz:=[35]} []<| .cg 9 [((!(at' u3.1 x.watch.toNat)),false)] (iR u6.1 u5.1) fun u9=> .a1 ((0:Int)≤x.watch∧x.watch<(u3.1.length:Int))<| .rg {} [0,1]<| .it (.r<| .im (.ac 25 0 0 36)<| .en (s_,false) [] [(36,7),(25,8)])
  (.r<| .en ((QN s_ x u0),true) [] [(29,7),(25,8)]))))
  (.cl 2 ⟨fun{u4} hr_6=>((Fn.mW (args:=(Ty p s_ x u0)) (frz:=[29,1,2,3,4,5,6]) (p:=[(tZ x u0).length=(tZ x u0).length,s_.locked.length=s_.locked.length,s_.badLink.length=s_.badLink.length,s_.on_.length=s_.on_.length,s_.badSource.length=s_.badSource.length,s_.earthed.length=s_.earthed.length,s_.badBus.length=s_.badBus.length]) (Fn.qR [(0,37)] (mR p (P7 s_ x u0) hr_6) (by kernel_rfl) (by kernel_rfl) (by kernel_rfl) (by kernel_rfl)) (by kernel_rfl) ⟨rfl,rfl,rfl,rfl,rfl,rfl,rfl,trivial⟩ (by kernel_rfl) ⟨(fun _ _=>rfl),trivial⟩ (by kernel_rfl)):Fn Tryz.prog 14 (Rk p s_ x u0) (Tt s_ x u0) (.dX [(.one (.own 37 false u4.1.length)),(sI u4.2)]) [(PU x u0),(EG s_),(EY s_),(Ff s_),(ET s_),(FM s_),(Gh s_),(37,some (aX 4 1 af u4.1))])⟩ fun u4=> .rg {fz:=[24,37]} []<| .r<| .lp (σ:=Int) (β:=Unit) (0) [] [] ⟨[3,4,5,6,8,10,11,102],[0,1,2,3,4,5,6,23,25,28,29],fun u2=>[(103,(vI u2))],fun u2=>[]⟩ ⟨[3,4,5,6,10,11],[0,1,2,3,4,5,6,23,25,28,29],fun _=>[],fun _=>[]⟩
  (fun u2=> .r<| .it (.r<| .a5 (PW r_ u2) (RJ r_ u2 u4) (Rs r_ u2 u4) (RO s_ r_ u2 u4) (TA s_ r_ u2 u4)<| .rg {} [0,1,2,3, .tg 3 [((at' u4.1 u2.toNat),true),(H7 r_ u2 u4)] u2 s_.earthed.length,4]<| .it (.r<| .im (.ac 25 0 0 38)<| .en (.done (.ret (s_,false))) [] [(38,7),(25,8)])
  (.r<| .e (.next (k10 u2))))
  (.e (.done (.brk ()))))
  (fun _=> .cl 2 ⟨fun{u7} hr_7=>((Fn.mW (args:=(k20 s_ p)) (frz:=[0,1,2,3,4,5,6]) (p:=[s_.closed.length=s_.closed.length,s_.locked.length=s_.locked.length,s_.badLink.length=s_.badLink.length,s_.on_.length=s_.on_.length,s_.badSource.length=s_.badSource.length,s_.earthed.length=s_.earthed.length,s_.badBus.length=s_.badBus.length]) (Fn.qR [(0,39)] (ic p s_ hr_7) (by kernel_rfl) (by kernel_rfl) (by kernel_rfl) (by kernel_rfl)) (by kernel_rfl) ⟨rfl,rfl,rfl,rfl,rfl,rfl,rfl,trivial⟩ (by kernel_rfl) ⟨(fun _ j=>match j with|0=>rfl|1=>rfl|_+2=>rfl),trivial⟩ (by kernel_rfl)):Fn Tryz.prog 15 (QO p s_) (R8 s_) (.dX [(.one (.own 39 false u7.1.length)),(sI u7.2)]) [(Pm s_),(EG s_),(EY s_),(Ff s_),(ET s_),(FM s_),(Gh s_),(39,some (aX 44 2 ah.cell u7.1))])⟩ fun u7=> .rg {fr:=[(6,40)],fz:=[39]} []<| .fz [40]<| .cl 2 ⟨fun{u8} hr_8=>((Fn.mW (args:=(Ty p s_ x u0)) (frz:=[29,1,2,3,4,5,6]) (p:=[(tZ x u0).length=(tZ x u0).length,s_.locked.length=s_.locked.length,s_.badLink.length=s_.badLink.length,s_.on_.length=s_.on_.length,s_.badSource.length=s_.badSource.length,s_.earthed.length=s_.earthed.length,s_.badBus.length=s_.badBus.length]) (Fn.qR [(0,41)] (ic p (P7 s_ x u0) hr_8) (by kernel_rfl) (by kernel_rfl) (by kernel_rfl) (by kernel_rfl)) (by kernel_rfl) ⟨rfl,rfl,rfl,rfl,rfl,rfl,rfl,trivial⟩ (by kernel_rfl) ⟨(fun _ j=>match j with|0=>rfl|1=>rfl|_+2=>rfl),trivial⟩ (by kernel_rfl)):Fn Tryz.prog 15 (Rk p s_ x u0) (Tt s_ x u0) (.dX [(.one (.own 41 false u8.1.length)),(sI u8.2)]) [(PU x u0),(EG s_),(EY s_),(Ff s_),(ET s_),(FM s_),(Gh s_),(41,some (aX 44 2 ah.cell u8.1))])⟩ fun u8=> .rg {fz:=[41]} []<| .cg 9 [((!(at' u4.1 x.watch.toNat)),false)] (iR u8.1 u7.1) fun v0=> .a1 ((0:Int)≤x.watch∧x.watch<(u4.1.length:Int))<| .rg {} [0,1]<| .it (.r<| .im (.ac 25 0 0 42)<| .en (s_,false) [] [(42,7),(25,8)])
  (.r<| .en ((P7 s_ x u0),true) [] [(29,7),(25,8)])))))
section
variable (u7:(List Bool)) (u1:(List Bool)) (u2:(List Bool)) (u3:(List Bool)) (u4:(List Bool)) (u5:(List Bool)) (u6:(List Bool)) (o_:(List Int)) (u0:Int)
abbrev Uf:List CV:=[(.own 1 false u7.length),(.own 2 false u1.length),(.own 3 false u2.length),(.own 4 false u3.length),(.own 5 false u4.length),(.own 6 false u5.length),(.own 7 false u6.length)]
abbrev Lf:Ob:=(aX 3 1 (aB .i64) o_)
abbrev SH:Ob:=(.cells 29 (Uf u7 u1 u2 u3 u4 u5 u6))
abbrev UD:=((o_.length+[u0].length)*8≤140737488355328)
abbrev UQ:=(o_.length+[u0].length≤4611686018427387904)
abbrev SX:=(av (aB .i64) (o_++[u0]))
abbrev UE:=(qo (av (aB .i64) o_) o_.length (av (aB .i64) [u0]))
end
theorem rE (u0:Int) (u7:(List Bool)) (u1:(List Bool)) (u2:(List Bool)) (u3:(List Bool)) (u4:(List Bool)) (u5:(List Bool)) (u6:(List Bool)) (u8:State) (o_:(List Int)):Qw Tryz.prog 0 [(sI u0),(.agg (Uf u7 u1 u2 u3 u4 u5 u6))] [(0,some (.loop fP 0 [(10,(vP 8 0)),(11,(vP 9 0))])),(1,some (aX 4 1 af u7)),(2,some (aX 4 1 af u1)),(3,some (aX 4 1 af u2)),(4,some (aX 4 1 af u3)),(5,some (aX 4 1 af u4)),(6,some (aX 4 1 af u5)),(7,some (aX 4 1 af u6)),(8,some (.cells 29 [(.own 10 false u8.closed.length),(.own 2 false u1.length),(.own 3 false u2.length),(.own 4 false u3.length),(.own 5 false u4.length),(.own 6 false u5.length),(.own 7 false u6.length)])),(9,some (.cells 36 [(.own 11 false o_.length)])),(10,some (aX 4 1 af u8.closed)),(11,some (Lf o_))] (fun _=>vB true) (fun r=>[(0,some (.loop fP 0 [(10,(vP 8 0)),(11,(vP 9 0))])),(1,some (aX 4 1 af u7)),(2,some (aX 4 1 af u1)),(3,some (aX 4 1 af u2)),(4,some (aX 4 1 af u3)),(5,some (aX 4 1 af u4)),(6,some (aX 4 1 af u5)),(7,some (aX 4 1 af u6)),(8,some (SH u7 u1 u2 u3 u4 u5 u6)),(9,some (.cells 36 [(.own 12 false r.2.length)])),(10,some (aX 4 1 af u8.closed)),(11,none),(12,some (aX 3 1 (aB .i64) r.2))]) (jE u0 u7 u1 u2 u3 u4 u5 u6 u8 o_):=
  VD tT mX fP ⟨[10,11],[0,1,2,3,4,5,6,7,8,9,10,11],fun _=>[(12,(vI u0)),(13,(vP 15 0))],fun _=>[(15,some (SH u7 u1 u2 u3 u4 u5 u6))]⟩ (.r<| .rg {fr:=[(0,15)]} []<| .e ())
  (.r<| .a2 (UD o_ u0) (UQ o_ u0)<| .rg {an:=[(2, .arr [u0].length (av (aB .i64) [u0])),(3, .arr (o_++[u0]).length (SX o_ u0))],fr:=[(2,16),(3,17)]} [.pf ⟨[u0].length=1,rfl⟩, .pf ⟨aC 1 1 (j3 1 [(.int .i64 u0)]) (av (aB .i64) [u0]),(by intro i hi j hj;match i,j,hi,hj with|0,0,_,_=>rfl)⟩, .e (o_.length),0,1, .pf ⟨(o_++[u0]).length=o_.length+[u0].length,List.length_append⟩, .pf ⟨aC (o_.length+[u0].length) 1 (UE o_ u0) (SX o_ u0),dV _ _ _ _⟩]<| .en ((Py u7 u1 u2 u3 u4 u5 u6),(o_++[u0])) [] [(17,12)])
section
variable (u0:State) (x1:(List Transfer)) (u2:(List Bool)) (r_:(State × Bool)) (x2:Int) (u4:(List Source)) (u5:(List Link)) (u6:(List aN)) (u1:Int)
abbrev Sj:Ob:=(.cells 29 [(.own 4 false u0.closed.length),(.own 5 false u0.locked.length),(.own 6 false u0.badLink.length),(.own 7 false u0.on_.length),(.own 8 false u0.badSource.length),(.own 9 false u0.earthed.length),(.own 10 false u0.badBus.length)])
abbrev LH:Nat × Option Ob:=(5,some (aX 4 1 af u0.locked))
abbrev Lm:Nat × Option Ob:=(6,some (aX 4 1 af u0.badLink))
abbrev M5:Nat × Option Ob:=(7,some (aX 4 1 af u0.on_))
abbrev Lb:Nat × Option Ob:=(8,some (aX 4 1 af u0.badSource))
abbrev M8:Nat × Option Ob:=(9,some (aX 4 1 af u0.earthed))
abbrev M6:Nat × Option Ob:=(10,some (aX 4 1 af u0.badBus))
abbrev Iw:=(List.replicate ((x1.length:Int).toNat) (false:Bool))
abbrev Tf:List CV:=[(.own 99 false u2.length),(.own 5 false u0.locked.length),(.own 6 false u0.badLink.length),(.own 7 false u0.on_.length),(.own 8 false u0.badSource.length),(.own 9 false u0.earthed.length),(.own 10 false u0.badBus.length)]
abbrev Ry:Ob:=(.cells 29 (Tf u0 u2))
abbrev RZ:Nat × Option Ob:=(1,some (Ry u0 u2))
abbrev Tv:Nat × Option Ob:=(2,some (Ry u0 u2))
abbrev OB:=(av af (Iw x1))
abbrev NQ:=(⟨u2,u0.locked,u0.badLink,u0.on_,u0.badSource,u0.earthed,u0.badBus⟩:State)
abbrev Q9:List CV:=[(.own 148 false r_.1.closed.length),(.own 5 false u0.locked.length),(.own 6 false u0.badLink.length),(.own 7 false u0.on_.length),(.own 8 false u0.badSource.length),(.own 9 false u0.earthed.length),(.own 10 false u0.badBus.length)]
abbrev Jp:Ob:=(aX 4 1 af r_.1.closed)
abbrev KJ:List SV:=[(.agg [(cI x2),(.d (aU none 5 Source.cell u4)),(.d (aU none 6 Link.cell u5)),(.d (aU none 4 aN.cell u6))]),(.agg (Tf u0 u2)),(.agg [(cI ((at' x1 u1.toNat).watch)),(cI ((at' x1 u1.toNat).open_)),(cI ((at' x1 u1.toNat).close))])]
abbrev Js:List (Nat × Option Ob):=[(99,some (aX 4 1 af u2)),(LH u0),(Lm u0),(M5 u0),(Lb u0),(M8 u0),(M6 u0)]
abbrev Lv:List CV:=[(.own 7 false r_.1.closed.length),(.own 1 false u0.locked.length),(.own 2 false u0.badLink.length),(.own 3 false u0.on_.length),(.own 4 false u0.badSource.length),(.own 5 false u0.earthed.length),(.own 6 false u0.badBus.length)]
abbrev TW:TV:=(.dX [(.agg (Lv u0 r_)),(sB r_.2)])
abbrev Tw:=(nH (swp [(0,99),(1,5),(2,6),(3,7),(4,8),(1,9),(2,10),(3,148),(4,149)]) [(0,some (aX 4 1 af u2)),(EG u0),(EY u0),(Ff u0),(ET u0),(FM u0),(Gh u0),(7,bif r_.2 then some (Jp r_)else none),(8,none)])
end
theorem vw (x1:(List Transfer)) (x2:Int) (u4:(List Source)) (u5:(List Link)) (u6:(List aN)) (u0:State) (v0:State) (o_:(List Int)):fJ Tryz.prog 102 [(.one (.yl 0)),(sD (DT [(Ud x1)] 0)),(sD (k3 x2 u4 u5 u6)),(.one (.ptr 1 0))] [(0,some (.loop fP 0 [(10,(vP 2 0)),(11,(vP 3 0))])),(1,some (Sj u0)),(2,some (Sj u0)),(3,some (.cells 36 [(.own 11 false o_.length)])),(4,some (aX 4 1 af u0.closed)),(LH u0),(Lm u0),(M5 u0),(Lb u0),(M8 u0),(M6 u0),(11,some (Lf o_))] (fun r=>(.dX [])) (fun r=>[(0,some (.loop fP 0 [(10,(vP 2 0)),(11,(vP 3 0))])),(1,some (.cells 29 [(.own 12 false r.1.closed.length),(.own 5 false u0.locked.length),(.own 6 false u0.badLink.length),(.own 7 false u0.on_.length),(.own 8 false u0.badSource.length),(.own 9 false u0.earthed.length),(.own 10 false u0.badBus.length)])),(2,some (.cells 29 [(.own 12 false r.1.closed.length),(.own 5 false u0.locked.length),(.own 6 false u0.badLink.length),(.own 7 false u0.on_.length),(.own 8 false u0.badSource.length),(.own 9 false u0.earthed.length),(.own 10 false u0.badBus.length)])),(3,some (.cells 36 [(.own 13 false r.2.2.length)])),(4,none),(LH u0),(Lm u0),(M5 u0),(Lb u0),(M8 u0),(M6 u0),(11,none),(12,some (aX 4 1 af r.1.closed)),(13,some (aX 3 1 (aB .i64) r.2.2))]) (lQ x1 x2 u4 u5 u6 u0 v0 o_):=
  gL tT mX Tryz.func102 (
  .sp (σ:=((List Bool) × (List Int) × (List Bool))) (β:=((List Bool) × (List Int))) (u0.closed,o_,(Iw x1)) ⟨[0,1,2,3],[0,5,6,7,8,9,10],fun(u2,u8,u3)=>[(5,(vO 82 true u3.length))],fun(u2,u8,u3)=>[(RZ u0 u2),(Tv u0 u2),(3,some (.cells 36 [(.own 100 false u8.length)])),(4,none),(11,none),(82,some (aX 4 1 af u3)),(99,some (aX 4 1 af u2)),(100,some (Lf u8))]⟩ ⟨[],[0,5,6,7,8,9,10],fun(u7,u9)=>[],fun(u7,u9)=>[(RZ u0 u7),(Tv u0 u7),(3,some (.cells 36 [(.own 100 false u9.length)])),(4,none),(11,none),(99,some (aX 4 1 af u7)),(100,some (Lf u9))]⟩ (.a3 ((0:Int)≤(x1.length:Int)) ((1:Int)*(x1.length:Int)≤281474976710656) (((x1.length:Int):Int)≤9223372036854775807)<| .rg {an:=[(2, .arr (Iw x1).length (OB x1))],fr:=[(2,151)]} [0, .e (((x1.length:Int):Int)),1,2, .pf ⟨(Iw x1).length=((x1.length:Int).toNat),List.length_replicate⟩, .pf ⟨aC ((x1.length:Int).toNat) 1 (fun _ j=>[(.bool false)].getD j .nilp) (OB x1),jr _ _ _ _ _ (fun j hj=>(match j,hj with|0,_=>rfl))⟩]<| .im (.ra 4 152)<| .im (.re 3 0 11 153)<| .en () [] [(151,82),(152,99),(153,100)])
  (fun(u2,u8,u3)=> .r<| .lp (σ:=Int) (β:=Unit) (0) [] [] ⟨[0,1,2,3,5,13,14],[0,1,2,3,4,5,6,7,8,9,10,11,82,99,100],fun u1=>[(15,(vI u1))],fun u1=>[]⟩ ⟨[],[0,1,2,3,4,5,6,7,8,9,10,11,99,100],fun _=>[],fun _=>[]⟩
  (fun u1=> .r<| .it (.a1 (U0 x1 u1)<| .rg {fr:=[(3,147)],fz:=[147]} []<| .a1 (Qu u3 u1)<| .rg {} [0, .t 0 u1 u3.length]<| .it (.r<| .e (.next (k10 u1)))
  (.cl 3 (l8 [(0,99),(1,5),(2,6),(3,7),(4,8),(1,9),(2,10),(3,148),(4,149)] (yL (⟨x2,u4,u5,u6⟩:au) (NQ u0 u2) (at' x1 u1.toNat))) fun r_=> .fk r_.2 (.rg {an:=[(3, .call [99,5,6,7,8,9,10] (.dX [(.agg (Q9 u0 r_)),(sB true)]) [(99,some (aX 4 1 af u2)),(LH u0),(Lm u0),(M5 u0),(Lb u0),(M8 u0),(M6 u0),(148,some (Jp r_)),(149,none)])],fr:=[(7,150)]} [.m [1,0] [Fn Tryz.prog 103 (KJ u0 x1 u2 x2 u4 u5 u6 u1) (Js u0 u2) (TV.ren (swp [(0,99),(1,5),(2,6),(3,7),(4,8),(1,9),(2,10),(3,148),(4,149)]) (TW u0 r_)) (Tw u0 u2 r_),r_.2=true] (Fn Tryz.prog 103 (KJ u0 x1 u2 x2 u4 u5 u6 u1) (Js u0 u2) (TV.ren (swp [(0,99),(1,5),(2,6),(3,7),(4,8),(1,9),(2,10),(3,148),(4,149)]) (.dX [(.agg (Lv u0 r_)),(sB true)])) (nH (swp [(0,99),(1,5),(2,6),(3,7),(4,8),(1,9),(2,10),(3,148),(4,149)]) [(0,some (aX 4 1 af u2)),(EG u0),(EY u0),(Ff u0),(ET u0),(FM u0),(Gh u0),(7,bif true then some (Jp r_)else none),(8,none)])) (fun⟨hy,hb2,_⟩=>(congrArg (fun bq=>Fn Tryz.prog 103 (KJ u0 x1 u2 x2 u4 u5 u6 u1) (Js u0 u2) (TV.ren (swp [(0,99),(1,5),(2,6),(3,7),(4,8),(1,9),(2,10),(3,148),(4,149)]) (.dX [(.agg (Lv u0 r_)),(sB bq)])) (nH (swp [(0,99),(1,5),(2,6),(3,7),(4,8),(1,9),(2,10),(3,148),(4,149)]) [(0,some (aX 4 1 af u2)),(EG u0),(EY u0),(Ff u0),(ET u0),(FM u0),(Gh u0),(7,bif bq then some (Jp r_)else none),(8,none)])) hb2).mp hy)]<| .r<| .t<| .a1 (Qu u3 u1)<| .rg {an:=[(5, .arr 0 (av af (u3.set u1.toNat true)))]} [0, .t 0 u1 u3.length, .pf ⟨aC u3.length 1 (lu (av af u3) u1.toNat 0 [(.bool true)]) (av af (u3.set u1.toNat true)),dK _ _ _ _ _ _ _ _ rfl (fun j hj=>(match j,hj with|0,_=>rfl))⟩]<| .im (.ll 82 u3 (u3.set u1.toNat true))<| .cy 3 (Wd [(1,148),(2,5),(3,6),(4,7),(2,8),(3,9),(4,10),(4,99),(11,100),(12,151)] (rE u1 r_.1.closed u0.locked u0.badLink u0.on_ u0.badSource u0.earthed u0.badBus (NQ u0 u2) u8)) fun v1=> .r<| .f<| .en (.done (.ret (.next (r_.1.closed,v1.2,(u3.set u1.toNat true))))) [] [(148,99),(151,100)])
  (.rg {an:=[(3, .call [99,5,6,7,8,9,10] (.dX [(.agg (Q9 u0 r_)),(sB false)]) [(99,some (aX 4 1 af u2)),(LH u0),(Lm u0),(M5 u0),(Lb u0),(M8 u0),(M6 u0),(148,none),(149,none)])],fr:=[(7,150)]} [.m [1,0] [Fn Tryz.prog 103 (KJ u0 x1 u2 x2 u4 u5 u6 u1) (Js u0 u2) (TV.ren (swp [(0,99),(1,5),(2,6),(3,7),(4,8),(1,9),(2,10),(3,148),(4,149)]) (TW u0 r_)) (Tw u0 u2 r_),r_.2=false] (Fn Tryz.prog 103 (KJ u0 x1 u2 x2 u4 u5 u6 u1) (Js u0 u2) (TV.ren (swp [(0,99),(1,5),(2,6),(3,7),(4,8),(1,9),(2,10),(3,148),(4,149)]) (.dX [(.agg (Lv u0 r_)),(sB false)])) (nH (swp [(0,99),(1,5),(2,6),(3,7),(4,8),(1,9),(2,10),(3,148),(4,149)]) [(0,some (aX 4 1 af u2)),(EG u0),(EY u0),(Ff u0),(ET u0),(FM u0),(Gh u0),(7,bif false then some (Jp r_)else none),(8,none)])) (fun⟨hy,hb2,_⟩=>(congrArg (fun bq=>Fn Tryz.prog 103 (KJ u0 x1 u2 x2 u4 u5 u6 u1) (Js u0 u2) (TV.ren (swp [(0,99),(1,5),(2,6),(3,7),(4,8),(1,9),(2,10),(3,148),(4,149)]) (.dX [(.agg (Lv u0 r_)),(sB bq)])) (nH (swp [(0,99),(1,5),(2,6),(3,7),(4,8),(1,9),(2,10),(3,148),(4,149)]) [(0,some (aX 4 1 af u2)),(EG u0),(EY u0),(Ff u0),(ET u0),(FM u0),(Gh u0),(7,bif bq then some (Jp r_)else none),(8,none)])) hb2).mp hy)]<| .r<| .f<| .r<| .e (.next (k10 u1)))))
  (.e (.done (.brk ()))))
  (fun _=> .e (.done (.brk (u2,u8)))))
  (fun(u7,u9)=> .en ((NQ u0 u7),(NQ u0 u7),u9) [] [(99,12),(100,13)]))
theorem kK (a:(List Int)) (b:(List Int)):fJ Tryz.prog 20 [(sD (aU none 1 (aB .i64) a)),(sD (aU none 1 (aB .i64) b))] [] (fun r=>(vB r)) (fun _=>[]) (kS a b):=
  gL tT mX Tryz.func20 (
  .r<| .r<| .it (.r<| .e false)
  (.r<| .lp (σ:=Int) (β:=Unit) (0) [] [] ⟨[0,1],[],fun i=>[(5,(vI i))],fun i=>[]⟩ ⟨[],[],fun _=>[],fun _=>[]⟩
  (fun i=> .r<| .it (.a2 ((0:Int)≤i∧i<(a.length:Int)) ((0:Int)≤i∧i<(b.length:Int))<| .rg {} [0,1]<| .it (.r<| .e (.done (.ret false)))
  (.r<| .e (.next (k10 i))))
  (.e (.done (.brk ()))))
  (fun _=> .r<| .e true)))
end
end Sg
