import Derived.Test.YtklofnlffikpgaaGreatSlGm
import Derived.Test.YtklofnlffikpgaaGreatProg
import Derived.Test.YtklofnlffikpgaaGreatSlLf
import Derived.Test.YtklofnlffikpgaaGreatSlLe
set_option linter.all false
namespace Sg
open Go Go.Proofs
set_option maxRecDepth 20000
noncomputable section
noncomputable def TT:List (Nat × TI):=[(3,⟨Tryz.t3.desc,Tryz.t3.size,Tryz.t3.bytes,zl Tryz.t3,false⟩),
  (4,⟨Tryz.t4.desc,Tryz.t4.size,Tryz.t4.bytes,zl Tryz.t4,false⟩),
  (22,⟨Tryz.t22.desc,Tryz.t22.size,Tryz.t22.bytes,zl Tryz.t22,false⟩),
  (23,⟨Tryz.t23.desc,Tryz.t23.size,Tryz.t23.bytes,zl Tryz.t23,false⟩),
  (24,⟨Tryz.t24.desc,Tryz.t24.size,Tryz.t24.bytes,zl Tryz.t24,false⟩),
  (26,⟨Tryz.t25.desc,Tryz.t26.size,Tryz.t26.bytes,zl Tryz.t26,false⟩),
  (27,⟨Tryz.t27.desc,Tryz.t27.size,Tryz.t27.bytes,zl Tryz.t27,false⟩),
  (29,⟨Tryz.t28.desc,Tryz.t29.size,Tryz.t29.bytes,zl Tryz.t29,false⟩),
  (30,⟨Tryz.t30.desc,Tryz.t30.size,Tryz.t30.bytes,zl Tryz.t30,false⟩),
  (34,⟨Tryz.t34.desc,Tryz.t34.size,Tryz.t34.bytes,zl Tryz.t34,false⟩),
  (36,⟨Tryz.t36.desc,Tryz.t36.size,Tryz.t36.bytes,zl Tryz.t36,false⟩),
  (41,⟨Tryz.t41.desc,Tryz.t41.size,Tryz.t41.bytes,zl Tryz.t41,false⟩),
  (44,⟨Tryz.t44.desc,Tryz.t44.size,Tryz.t44.bytes,zl Tryz.t44,true⟩),
  (46,⟨Tryz.t45.desc,Tryz.t46.size,Tryz.t46.bytes,zl Tryz.t46,true⟩),
  (48,⟨Tryz.t48.desc,Tryz.t48.size,Tryz.t48.bytes,zl Tryz.t48,false⟩),
  (61,⟨Tryz.t61.desc,Tryz.t61.size,Tryz.t61.bytes,zl Tryz.t61,false⟩),
  (76,⟨Tryz.t76.desc,Tryz.t76.size,Tryz.t76.bytes,zl Tryz.t76,false⟩),
  (79,⟨Tryz.t79.desc,Tryz.t79.size,Tryz.t79.bytes,zl Tryz.t79,false⟩),
  (82,⟨Tryz.t3.desc,Tryz.t82.size,Tryz.t82.bytes,zl Tryz.t82,false⟩),
  (84,⟨Tryz.t83.desc,Tryz.t84.size,Tryz.t84.bytes,zl Tryz.t84,true⟩),
  (86,⟨Tryz.t85.desc,Tryz.t86.size,Tryz.t86.bytes,zl Tryz.t86,true⟩),
  (87,⟨Tryz.t85.desc,Tryz.t87.size,Tryz.t87.bytes,zl Tryz.t87,true⟩),
  (92,⟨Tryz.t92.desc,Tryz.t92.size,Tryz.t92.bytes,zl Tryz.t92,false⟩),
  (95,⟨Tryz.t95.desc,Tryz.t95.size,Tryz.t95.bytes,zl Tryz.t95,true⟩),
  (100,⟨Tryz.t99.desc,Tryz.t100.size,Tryz.t100.bytes,zl Tryz.t100,true⟩),
  (101,⟨Tryz.t45.desc,Tryz.t101.size,Tryz.t101.bytes,zl Tryz.t101,true⟩),
  (105,⟨Tryz.t105.desc,Tryz.t105.size,Tryz.t105.bytes,zl Tryz.t105,false⟩),
  (106,⟨Tryz.t106.desc,Tryz.t106.size,Tryz.t106.bytes,zl Tryz.t106,false⟩),
  (108,⟨Tryz.t108.desc,Tryz.t108.size,Tryz.t108.bytes,zl Tryz.t108,false⟩),
  (109,⟨Tryz.t109.desc,Tryz.t109.size,Tryz.t109.bytes,zl Tryz.t109,false⟩),
  (110,⟨Tryz.t3.desc,Tryz.t110.size,Tryz.t110.bytes,zl Tryz.t110,false⟩),
  (111,⟨Tryz.t111.desc,Tryz.t111.size,Tryz.t111.bytes,zl Tryz.t111,false⟩),
  (113,⟨Tryz.t112.desc,Tryz.t113.size,Tryz.t113.bytes,zl Tryz.t113,false⟩),
  (119,⟨Tryz.t119.desc,Tryz.t119.size,Tryz.t119.bytes,zl Tryz.t119,false⟩),
  (122,⟨Tryz.t121.desc,Tryz.t122.size,Tryz.t122.bytes,zl Tryz.t122,false⟩),
  (123,⟨Tryz.t3.desc,Tryz.t123.size,Tryz.t123.bytes,zl Tryz.t123,false⟩),
  (125,⟨Tryz.t124.desc,Tryz.t125.size,Tryz.t125.bytes,zl Tryz.t125,true⟩),
  (141,⟨Tryz.t141.desc,Tryz.t141.size,Tryz.t141.bytes,zl Tryz.t141,false⟩),
  (161,⟨Tryz.t161.desc,Tryz.t161.size,Tryz.t161.bytes,zl Tryz.t161,false⟩),
  (164,⟨Tryz.t164.desc,Tryz.t164.size,Tryz.t164.bytes,zl Tryz.t164,false⟩),
  (167,⟨Tryz.t167.desc,Tryz.t167.size,Tryz.t167.bytes,zl Tryz.t167,false⟩),
  (169,⟨Tryz.t169.desc,Tryz.t169.size,Tryz.t169.bytes,zl Tryz.t169,false⟩),
  (172,⟨Tryz.t172.desc,Tryz.t172.size,Tryz.t172.bytes,zl Tryz.t172,false⟩),
  (173,⟨Tryz.t173.desc,Tryz.t173.size,Tryz.t173.bytes,zl Tryz.t173,false⟩),
  (176,⟨Tryz.t176.desc,Tryz.t176.size,Tryz.t176.bytes,zl Tryz.t176,false⟩),
  (178,⟨Tryz.t177.desc,Tryz.t178.size,Tryz.t178.bytes,zl Tryz.t178,false⟩),
  (192,⟨Tryz.t192.desc,Tryz.t192.size,Tryz.t192.bytes,zl Tryz.t192,false⟩),
  (193,⟨Tryz.t193.desc,Tryz.t193.size,Tryz.t193.bytes,zl Tryz.t193,false⟩),
  (195,⟨Tryz.t194.desc,Tryz.t195.size,Tryz.t195.bytes,zl Tryz.t195,false⟩),
  (198,⟨Tryz.t198.desc,Tryz.t198.size,Tryz.t198.bytes,zl Tryz.t198,false⟩),
  (211,⟨Tryz.t210.desc,Tryz.t211.size,Tryz.t211.bytes,zl Tryz.t211,true⟩),
  (232,⟨Tryz.t232.desc,Tryz.t232.size,Tryz.t232.bytes,zl Tryz.t232,false⟩),
  (236,⟨Tryz.t236.desc,Tryz.t236.size,Tryz.t236.bytes,zl Tryz.t236,false⟩)]
theorem tT:ql Tryz.prog TT:=⟨gK (by kernel_rfl) (by kernel_rfl) (by kernel_rfl),⟨kr,dm (by kernel_rfl)⟩,gK (by kernel_rfl) (by kernel_rfl) (by kernel_rfl),⟨kr,dm (by kernel_rfl)⟩,gK (by kernel_rfl) (by kernel_rfl) (by kernel_rfl),⟨kr,dm (by kernel_rfl)⟩,gK (by kernel_rfl) (by kernel_rfl) (by kernel_rfl),⟨kr,dm (by kernel_rfl)⟩,gK (by kernel_rfl) (by kernel_rfl) (by kernel_rfl),⟨kr,dm (by kernel_rfl)⟩,gK (by kernel_rfl) (by kernel_rfl) (by kernel_rfl),⟨kr,dm (by kernel_rfl)⟩,gK (by kernel_rfl) (by kernel_rfl) (by kernel_rfl),⟨kr,dm (by kernel_rfl)⟩,gK (by kernel_rfl) (by kernel_rfl) (by kernel_rfl),⟨kr,dm (by kernel_rfl)⟩,gK (by kernel_rfl) (by kernel_rfl) (by kernel_rfl),⟨kr,dm (by kernel_rfl)⟩,gK (by kernel_rfl) (by kernel_rfl) (by kernel_rfl),⟨kr,dm (by kernel_rfl)⟩,gK (by kernel_rfl) (by kernel_rfl) (by kernel_rfl),⟨kr,dm (by kernel_rfl)⟩,gK (by kernel_rfl) (by kernel_rfl) (by kernel_rfl),⟨kr,dm (by kernel_rfl)⟩,gK (by kernel_rfl) (by kernel_rfl) (by kernel_rfl),⟨fun _=> ⟨by kernel_rfl,by kernel_rfl⟩,dm (by kernel_rfl)⟩,gK (by kernel_rfl) (by kernel_rfl) (by kernel_rfl),⟨fun _=> ⟨by kernel_rfl,by kernel_rfl⟩,dm (by kernel_rfl)⟩,gK (by kernel_rfl) (by kernel_rfl) (by kernel_rfl),⟨kr,dm (by kernel_rfl)⟩,gK (by kernel_rfl) (by kernel_rfl) (by kernel_rfl),⟨kr,dm (by kernel_rfl)⟩,gK (by kernel_rfl) (by kernel_rfl) (by kernel_rfl),⟨kr,dm (by kernel_rfl)⟩,gK (by kernel_rfl) (by kernel_rfl) (by kernel_rfl),⟨kr,dm (by kernel_rfl)⟩,gK (by kernel_rfl) (by kernel_rfl) (by kernel_rfl),⟨kr,dm (by kernel_rfl)⟩,gK (by kernel_rfl) (by kernel_rfl) (by kernel_rfl),⟨fun _=> ⟨by kernel_rfl,by kernel_rfl⟩,dm (by kernel_rfl)⟩,gK (by kernel_rfl) (by kernel_rfl) (by kernel_rfl),⟨fun _=> ⟨by kernel_rfl,by kernel_rfl⟩,dm (by kernel_rfl)⟩,gK (by kernel_rfl) (by kernel_rfl) (by kernel_rfl),⟨fun _=> ⟨by kernel_rfl,by kernel_rfl⟩,dm (by kernel_rfl)⟩,gK (by kernel_rfl) (by kernel_rfl) (by kernel_rfl),⟨kr,dm (by kernel_rfl)⟩,gK (by kernel_rfl) (by kernel_rfl) (by kernel_rfl),⟨fun _=> ⟨by kernel_rfl,by kernel_rfl⟩,dm (by kernel_rfl)⟩,gK (by kernel_rfl) (by kernel_rfl) (by kernel_rfl),⟨fun _=> ⟨by kernel_rfl,by kernel_rfl⟩,dm (by kernel_rfl)⟩,gK (by kernel_rfl) (by kernel_rfl) (by kernel_rfl),⟨fun _=> ⟨by kernel_rfl,by kernel_rfl⟩,dm (by kernel_rfl)⟩,gK (by kernel_rfl) (by kernel_rfl) (by kernel_rfl),⟨kr,dm (by kernel_rfl)⟩,gK (by kernel_rfl) (by kernel_rfl) (by kernel_rfl),⟨kr,dm (by kernel_rfl)⟩,gK (by kernel_rfl) (by kernel_rfl) (by kernel_rfl),⟨kr,dm (by kernel_rfl)⟩,gK (by kernel_rfl) (by kernel_rfl) (by kernel_rfl),⟨kr,dm (by kernel_rfl)⟩,gK (by kernel_rfl) (by kernel_rfl) (by kernel_rfl),⟨kr,dm (by kernel_rfl)⟩,gK (by kernel_rfl) (by kernel_rfl) (by kernel_rfl),⟨kr,dm (by kernel_rfl)⟩,gK (by kernel_rfl) (by kernel_rfl) (by kernel_rfl),⟨kr,dm (by kernel_rfl)⟩,gK (by kernel_rfl) (by kernel_rfl) (by kernel_rfl),⟨kr,dm (by kernel_rfl)⟩,gK (by kernel_rfl) (by kernel_rfl) (by kernel_rfl),⟨kr,dm (by kernel_rfl)⟩,gK (by kernel_rfl) (by kernel_rfl) (by kernel_rfl),⟨kr,dm (by kernel_rfl)⟩,gK (by kernel_rfl) (by kernel_rfl) (by kernel_rfl),⟨fun _=> ⟨by kernel_rfl,by kernel_rfl⟩,dm (by kernel_rfl)⟩,gK (by kernel_rfl) (by kernel_rfl) (by kernel_rfl),⟨kr,dm (by kernel_rfl)⟩,gK (by kernel_rfl) (by kernel_rfl) (by kernel_rfl),⟨kr,dm (by kernel_rfl)⟩,gK (by kernel_rfl) (by kernel_rfl) (by kernel_rfl),⟨kr,dm (by kernel_rfl)⟩,gK (by kernel_rfl) (by kernel_rfl) (by kernel_rfl),⟨kr,dm (by kernel_rfl)⟩,gK (by kernel_rfl) (by kernel_rfl) (by kernel_rfl),⟨kr,dm (by kernel_rfl)⟩,gK (by kernel_rfl) (by kernel_rfl) (by kernel_rfl),⟨kr,dm (by kernel_rfl)⟩,gK (by kernel_rfl) (by kernel_rfl) (by kernel_rfl),⟨kr,dm (by kernel_rfl)⟩,gK (by kernel_rfl) (by kernel_rfl) (by kernel_rfl),⟨kr,dm (by kernel_rfl)⟩,gK (by kernel_rfl) (by kernel_rfl) (by kernel_rfl),⟨kr,dm (by kernel_rfl)⟩,gK (by kernel_rfl) (by kernel_rfl) (by kernel_rfl),⟨kr,dm (by kernel_rfl)⟩,gK (by kernel_rfl) (by kernel_rfl) (by kernel_rfl),⟨kr,dm (by kernel_rfl)⟩,gK (by kernel_rfl) (by kernel_rfl) (by kernel_rfl),⟨kr,dm (by kernel_rfl)⟩,gK (by kernel_rfl) (by kernel_rfl) (by kernel_rfl),⟨kr,dm (by kernel_rfl)⟩,gK (by kernel_rfl) (by kernel_rfl) (by kernel_rfl),⟨fun _=> ⟨by kernel_rfl,by kernel_rfl⟩,dm (by kernel_rfl)⟩,gK (by kernel_rfl) (by kernel_rfl) (by kernel_rfl),⟨kr,dm (by kernel_rfl)⟩,gK (by kernel_rfl) (by kernel_rfl) (by kernel_rfl),⟨kr,dm (by kernel_rfl)⟩,trivial⟩
theorem mX:Tryz.prog.follows .mixedOrders=true:=by kernel_rfl
def MV:Go.Shelf.Ren:=⟨fun|6=>52|14=>107|15=>108|20=>153|21=>154|22=>155|23=>156|24=>157|25=>158|26=>159|27=>160|28=>161|29=>162|46=>177|47=>178|48=>179|49=>180|50=>181|57=>182|n=>n,fun|0=>0|3=>3|4=>4|5=>5|9=>9|22=>41|24=>44|25=>128|39=>104|45=>219|46=>220|50=>184|53=>226|55=>228|66=>243|70=>247|76=>249|77=>250|n=>n,fun n=>n⟩
theorem Vy:Go.Proofs.SlLaysF0.n6 Tryz.prog MV:=⟨by kernel_rfl,⟨Tryz.f52.name,by kernel_rfl,Tryz.func52.trans (congrArg some (by kernel_rfl))⟩,⟨Tryz.f107.name,by kernel_rfl,Tryz.func107.trans (congrArg some (by kernel_rfl))⟩,Tryz.func108.trans (congrArg some (by kernel_rfl)),⟨Tryz.f153.name,by kernel_rfl,Tryz.func153.trans (congrArg some (by kernel_rfl))⟩,⟨Tryz.f154.name,by kernel_rfl,Tryz.func154.trans (congrArg some (by kernel_rfl))⟩,⟨Tryz.f155.name,by kernel_rfl,Tryz.func155.trans (congrArg some (by kernel_rfl))⟩,⟨Tryz.f156.name,by kernel_rfl,Tryz.func156.trans (congrArg some (by kernel_rfl))⟩,⟨Tryz.f157.name,by kernel_rfl,Tryz.func157.trans (congrArg some (by kernel_rfl))⟩,⟨Tryz.f158.name,by kernel_rfl,Tryz.func158.trans (congrArg some (by kernel_rfl))⟩,⟨Tryz.f159.name,by kernel_rfl,Tryz.func159.trans (congrArg some (by kernel_rfl))⟩,⟨Tryz.f160.name,by kernel_rfl,Tryz.func160.trans (congrArg some (by kernel_rfl))⟩,Tryz.func161.trans (congrArg some (by kernel_rfl)),Tryz.func162.trans (congrArg some (by kernel_rfl)),⟨Tryz.f177.name,by kernel_rfl,Tryz.func177.trans (congrArg some (by kernel_rfl))⟩,Tryz.func178.trans (congrArg some (by kernel_rfl)),Tryz.func179.trans (congrArg some (by kernel_rfl)),⟨Tryz.f180.name,by kernel_rfl,Tryz.func180.trans (congrArg some (by kernel_rfl))⟩,⟨Tryz.f181.name,by kernel_rfl,Tryz.func181.trans (congrArg some (by kernel_rfl))⟩,⟨Tryz.f182.name,by kernel_rfl,Tryz.func182.trans (congrArg some (by kernel_rfl))⟩,Tryz.underlying0,Tryz.isAgg0,Tryz.sizeOf0,Tryz.zeroValue0,Tryz.underlying3,Tryz.isAgg3,Tryz.sizeOf3,Tryz.zeroValue3,Tryz.underlying4,Tryz.isAgg4,Tryz.sizeOf4,Tryz.zeroValue4,Tryz.underlying5,Tryz.isAgg5,Tryz.sizeOf5,Tryz.zeroValue5,Tryz.underlying9,Tryz.isAgg9,Tryz.sizeOf9,Tryz.zeroValue9,Tryz.underlying41,Tryz.isAgg41,Tryz.sizeOf41,Tryz.zeroValue41,Tryz.underlying128,Tryz.isAgg128,Tryz.sizeOf128,Tryz.zeroValue128,Tryz.underlying104,Tryz.isAgg104,Tryz.sizeOf104,Tryz.zeroValue104,Tryz.underlying219,Tryz.isAgg219,Tryz.sizeOf219,Tryz.zeroValue219,Tryz.underlying220,Tryz.isAgg220,Tryz.sizeOf220,Tryz.zeroValue220,Tryz.underlying184,Tryz.isAgg184,Tryz.sizeOf184,Tryz.zeroValue184,Tryz.underlying226,Tryz.isAgg226,Tryz.sizeOf226,Tryz.zeroValue226,Tryz.underlying228,Tryz.isAgg228,Tryz.sizeOf228,Tryz.zeroValue228,Tryz.underlying243,Tryz.isAgg243,Tryz.sizeOf243,Tryz.zeroValue243,Tryz.underlying247,Tryz.isAgg247,Tryz.sizeOf247,Tryz.zeroValue247,Tryz.underlying249,Tryz.isAgg249,Tryz.sizeOf249,Tryz.zeroValue249,Tryz.underlying250,Tryz.isAgg250,Tryz.sizeOf250,Tryz.zeroValue250⟩
theorem Y1 (w:World):(isAgg (MV.t 24)).run Tryz.prog w= .ok true w:=Tryz.isAgg44 w
theorem WL (w:World):(Go.sizeOf (MV.t 24)).run Tryz.prog w= .ok 2 w:=Tryz.sizeOf44 w
def aaF:Go.Shelf.Ren:=⟨fun|23=>170|n=>n,fun|0=>0|3=>3|4=>4|22=>36|n=>n,fun n=>n⟩
theorem Yj:Go.Proofs.Lays2.n23 Tryz.prog aaF:=⟨by kernel_rfl,Tryz.func170.trans (congrArg some (by kernel_rfl)),Tryz.underlying0,Tryz.isAgg0,Tryz.sizeOf0,Tryz.zeroValue0,Tryz.underlying3,Tryz.isAgg3,Tryz.sizeOf3,Tryz.zeroValue3,Tryz.underlying4,Tryz.isAgg4,Tryz.sizeOf4,Tryz.zeroValue4,Tryz.underlying36,Tryz.isAgg36,Tryz.sizeOf36,Tryz.zeroValue36,by kernel_rfl⟩
theorem aM (n:Int) (u0:Int) (u1:Int):cu Tryz.prog 91 [sI n,sI u0,sI u1] [] (fun r=>(vB r)) (fun _=>[]) (aV n u0 u1):=
  cZ tT mX Tryz.func91 (
  .r<| .r<| .e (bif (decide (u0<=n))then(decide (n<=u1))else false))
section
variable (p:ah)
abbrev k1:List CV:=[cI p.ar,.d (aN none 5 Source.cell p.aa),.d (aN none 6 Link.cell p.aq),.d (aN none 4 aO.cell p.a_)]
abbrev k0:List SV:=[.agg (k1 p)]
end
theorem Fh (p:ah):cu Tryz.prog 93 (k0 p) [] (fun r=>(vD (.fn 140 1 (z8 [J9 [.int .i64 r.1,aN none 5 Source.cell r.2.1,aN none 6 Link.cell r.2.2.1,aN none 4 aO.cell r.2.2.2] 0])))) (fun _=>[]) (vQ p):=
  cZ tT mX Tryz.func93 (
  .rg {fr:=[(0,1)],fz:=[1]} []<| .r<| .e (p.ar,p.aa,p.aq,p.a_))
theorem G6 (p:ah):cu Tryz.prog 95 (k0 p) [] (fun r=>(vD (.fn 143 1 (z8 [J9 [.int .i64 r.1,aN none 5 Source.cell r.2.1,aN none 6 Link.cell r.2.2.1,aN none 4 aO.cell r.2.2.2] 0])))) (fun _=>[]) (zk p):=
  cZ tT mX Tryz.func95 (
  .rg {fr:=[(0,1)],fz:=[1]} []<| .r<| .e (p.ar,p.aa,p.aq,p.a_))
theorem He (p:ah):cu Tryz.prog 97 (k0 p) [] (fun r=>(vD (.fn 146 1 (z8 [J9 [.int .i64 r.1,aN none 5 Source.cell r.2.1,aN none 6 Link.cell r.2.2.1,aN none 4 aO.cell r.2.2.2] 0])))) (fun _=>[]) (yN p):=
  cZ tT mX Tryz.func97 (
  .rg {fr:=[(0,1)],fz:=[1]} []<| .r<| .e (p.ar,p.aa,p.aq,p.a_))
section
variable (x:Source) (u2:List Source) (u3:List Link) (u4:List aO) (x1:Int) (r_:Bool) (u0:Bool) (u1:Bool) (u5:Bool) (u6:Bool)
abbrev k2:List CV:=[cI x.bus,cI x.kind,cI x.power,cI x.bp,cI x.ohm]
abbrev k4:DV:=(aN none 5 Source.cell u2)
abbrev k5:DV:=(aN none 6 Link.cell u3)
abbrev k6:DV:=(aN none 4 aO.cell u4)
abbrev k3:DV:=(J9 [.int .i64 x1,k4 u2,k5 u3,k6 u4] 0)
abbrev k7:=(IntKind.wrap .i64 (x1 - 1))
abbrev k8:=((bif r_ then u0 else false),true)
abbrev k9:=(bif (bif (bif (bif r_ then u0 else false)then u1 else false)then u5 else false)then u6 else false)
end
theorem Cv (x:Source) (x1:Int) (u2:List Source) (u3:List Link) (u4:List aO):cu Tryz.prog 140 [.agg (k2 x),sD (k3 u2 u3 u4 x1)] [] (fun r=>(vB r)) (fun _=>[]) (oM x x1 u2 u3 u4):=
  cZ tT mX Tryz.func140 (
  .rg {fr:=[(0,1)],fz:=[1]} []<| .cl 5 (aM x.bus 0 (k7 x1)) fun r_=> .cg 9 [(r_,true)] (aM x.kind 1 3) fun u0=> .cg 14 [k8 r_ u0] (aM x.power 1 100000) fun u1=> .cg 19 [((bif (bif r_ then u0 else false)then u1 else false),true)] (aM x.bp 0 8) fun u5=> .cg 24 [((bif (bif (bif r_ then u0 else false)then u1 else false)then u5 else false),true)] (aM x.ohm 10 100000) fun u6=> .r<| .e (k9 r_ u0 u1 u5 u6))
section
variable (x1:Int) (u0:List Source) (u1:List Link) (u2:List aO)
abbrev k11:=(z8 [k3 u0 u1 u2 x1])
abbrev k10:DV:=(J9 [.fn 140 1 (k11 x1 u0 u1 u2)] 0)
end
theorem EK (x:Source) (x1:Int) (u0:List Source) (u1:List Link) (u2:List aO):cu Tryz.prog 139 [.agg (k2 x),sD (k10 x1 u0 u1 u2)] [] (fun r=>(vB r)) (fun _=>[]) (uY x x1 u0 u1 u2):=
  cZ tT mX Tryz.func139 (
  .rg {fr:=[(0,1)],fz:=[1]} []<| .cl 2 (Cv x x1 u0 u1 u2) fun r_=> .r<| .e (!r_))
section
variable (s_:List Source) (f_:Int) (u0:List Source) (u1:List Link) (u2:List aO) (t8:Int)
abbrev k12:List SV:=[sD (k4 s_),sD (.fn 139 1 (z8 [k10 f_ u0 u1 u2]))]
abbrev k13:=(IntKind.wrap .i64 (t8+1))
end
theorem Ab (s_:List Source) (f_:Int) (u0:List Source) (u1:List Link) (u2:List aO):cu Tryz.prog 172 (k12 s_ f_ u0 u1 u2) [] (fun r=>(vI r)) (fun _=>[]) (p9 s_ f_ u0 u1 u2):=
  cZ tT mX Tryz.func172 (
  .r<| .r<| .lp (σ:=Int) (β:=Unit) (0) [] [] ⟨[0,1,7],[],fun t8=>[(8,vI t8)],fun t8=>[]⟩ ⟨[],[],fun _=>[],fun _=>[]⟩
  (fun t8=> .r<| .it (.r<| .cl 5 (EK (at' s_ t8.toNat) f_ u0 u1 u2) fun r_=> .a1 ((0:Int)<=t8/\t8<(s_.length:Int))<| .rg {} [0,1]<| .it (.r<| .e (.done (.ret t8)))
  (.r<| .e (.next (k13 t8))))
  (.e (.done (.brk ()))))
  (fun _=> .r<| .e (-1)))
theorem wY (s_:List Source) (f_:Int) (u0:List Source) (u1:List Link) (u2:List aO):cu Tryz.prog 138 (k12 s_ f_ u0 u1 u2) [] (fun r=>(vB r)) (fun _=>[]) (jo s_ f_ u0 u1 u2):=
  cZ tT mX Tryz.func138 (
  .r<| .cl 2 (Ab s_ f_ u0 u1 u2) fun r_=> .r<| .e (decide (0<=r_)))
theorem GX (l:List Source) (u0:Int) (u1:Int) (u2:List Source) (u3:List Link) (u4:List aO):cu Tryz.prog 92 [sD (k4 l),sI u0,sD (.fn 140 1 (k11 u1 u2 u3 u4))] [] (fun r=>(vB r)) (fun _=>[]) (uj l u0 u1 u2 u3 u4):=
  cZ tT mX Tryz.func92 (
  .rg {fr:=[(0,1)],fz:=[1]} []<| .cg 7 [(decide ((l.length:Int)<=u0),true)] (wY l u1 u2 u3 u4) fun r_=> .r<| .e (bif (decide ((l.length:Int)<=u0))then(!r_)else false))
section
variable (x:Link) (u0:Int)
abbrev k14:List CV:=[cI x.a,cI x.b,cI x.kind,cI x.most,cI x.ohm,.d (aN none 2 nT.cell x.trip)]
abbrev k15:=(decide (((at' x.trip u0.toNat).amps)<=((at' x.trip ((k7 u0).toNat)).amps)),false)
end
theorem FB (x:Link) (x1:Int) (u3:List Source) (u4:List Link) (u5:List aO):cu Tryz.prog 143 [.agg (k14 x),sD (k3 u3 u4 u5 x1)] [] (fun r=>(vB r)) (fun _=>[]) (qO x x1 u3 u4 u5):=
  cZ tT mX Tryz.func143 (
  .rg {fr:=[(0,5)]} []<| .cl 5 (aM x.a 0 (k7 x1)) fun r_=> .cg 13 [(!r_,false)] (aM x.b 0 (k7 x1)) fun u1=> .cg 26 [((bif (bif (!r_)then true else(!u1))then true else(decide (x.a=x.b))),false)] (aM x.kind 1 3) fun u6=> .cg 32 [((bif (bif (bif (!r_)then true else(!u1))then true else(decide (x.a=x.b)))then true else(!u6)),false)] (aM x.most 1 100000) fun u8=> .cg 38 [((bif (bif (bif (bif (!r_)then true else(!u1))then true else(decide (x.a=x.b)))then true else(!u6))then true else(!u8)),false)] (aM x.ohm 10 100000) fun u9=> .r<| .it (.r<| .e false)
  (.rg {fz:=[5]} []<| .lp (σ:=Int) (β:=Unit) (0) [] [] ⟨[2,48,49],[],fun u0=>[(50,vI u0)],fun u0=>[]⟩ ⟨[2],[],fun _=>[],fun _=>[]⟩
  (fun u0=> .r<| .it (.a1 ((0:Int)<=u0/\u0<(x.trip.length:Int))<| .rg {fr:=[(3,9)],fz:=[9]} []<| .cl 2 (aM ((at' x.trip u0.toNat).amps) 1 1000000) fun u2=> .cg 7 [(!u2,false)] (aM ((at' x.trip u0.toNat).bm) 1 100000) fun u7=> .a2 ((gB [(decide (0<u0),true),((bif (!u2)then true else(!u7)),false)]=true->(0:Int)<=(k7 u0)/\(k7 u0)<(x.trip.length:Int))) ((gB [k15 x u0,(decide (0<u0),true),((bif (!u2)then true else(!u7)),false)]=true->(0:Int)<=(k7 u0)/\(k7 u0)<(x.trip.length:Int)))<| .rg {} [3,2,0,1]<| .it (.r<| .e (.done (.ret false)))
  (.r<| .e (.next (k13 u0))))
  (.e (.done (.brk ()))))
  (fun _=> .r<| .e (bif (decide ((x.trip.length:Int)<=6))then(bif (decide ((x.trip.length:Int)=0))then true else(decide (x.kind=3)))else false))))
section
variable (x1:Int) (u0:List Source) (u1:List Link) (u2:List aO)
abbrev k16:DV:=(J9 [.fn 143 1 (k11 x1 u0 u1 u2)] 0)
end
theorem BB (x:Link) (x1:Int) (u0:List Source) (u1:List Link) (u2:List aO):cu Tryz.prog 142 [.agg (k14 x),sD (k16 x1 u0 u1 u2)] [] (fun r=>(vB r)) (fun _=>[]) (qH x x1 u0 u1 u2):=
  cZ tT mX Tryz.func142 (
  .rg {fr:=[(0,1)],fz:=[1]} []<| .cl 2 (FB x x1 u0 u1 u2) fun r_=> .r<| .e (!r_))
section
variable (s_:List Link) (f_:Int) (u0:List Source) (u1:List Link) (u2:List aO) (t8:Int)
abbrev k17:List SV:=[sD (k5 s_),sD (.fn 142 1 (z8 [k16 f_ u0 u1 u2]))]
abbrev k18:=((0:Int)<=t8/\t8<(s_.length:Int))
end
theorem xk (s_:List Link) (f_:Int) (u0:List Source) (u1:List Link) (u2:List aO):cu Tryz.prog 173 (k17 s_ f_ u0 u1 u2) [] (fun r=>(vI r)) (fun _=>[]) (mJ s_ f_ u0 u1 u2):=
  cZ tT mX Tryz.func173 (
  .r<| .r<| .lp (σ:=Int) (β:=Unit) (0) [] [] ⟨[0,1,7],[],fun t8=>[(8,vI t8)],fun t8=>[]⟩ ⟨[],[],fun _=>[],fun _=>[]⟩
  (fun t8=> .r<| .it (.r<| .cl 5 (BB (at' s_ t8.toNat) f_ u0 u1 u2) fun r_=> .a1 (k18 s_ t8)<| .rg {} [0,1]<| .it (.r<| .e (.done (.ret t8)))
  (.r<| .e (.next (k13 t8))))
  (.e (.done (.brk ()))))
  (fun _=> .r<| .e (-1)))
theorem uE (s_:List Link) (f_:Int) (u0:List Source) (u1:List Link) (u2:List aO):cu Tryz.prog 141 (k17 s_ f_ u0 u1 u2) [] (fun r=>(vB r)) (fun _=>[]) (fV s_ f_ u0 u1 u2):=
  cZ tT mX Tryz.func141 (
  .r<| .cl 2 (xk s_ f_ u0 u1 u2) fun r_=> .r<| .e (decide (0<=r_)))
theorem Ff (l:List Link) (u0:Int) (u1:Int) (u2:List Source) (u3:List Link) (u4:List aO):cu Tryz.prog 94 [sD (k5 l),sI u0,sD (.fn 143 1 (k11 u1 u2 u3 u4))] [] (fun r=>(vB r)) (fun _=>[]) (qy l u0 u1 u2 u3 u4):=
  cZ tT mX Tryz.func94 (
  .rg {fr:=[(0,1)],fz:=[1]} []<| .cg 7 [(decide ((l.length:Int)<=u0),true)] (uE l u1 u2 u3 u4) fun r_=> .r<| .e (bif (decide ((l.length:Int)<=u0))then(!r_)else false))
section
variable (x:aO)
abbrev k19:List CV:=[cI x.bj.e0,cI x.bj.e1,cI x.power,cI x.bk]
end
theorem FX (x:aO):cu Tryz.prog 147 [.agg (k19 x)] [] (fun r=>(vI r)) (fun _=>[]) (rR x):=
  cZ tT mX Tryz.func147 (
  .rg {fr:=[(0,1)],fz:=[1]} []<| .rg {} [.pf ⟨(0:Int)<=1/\(1:Int)<(2:Nat),(by decide)⟩]<| .it (.r<| .e 1)
  (.r<| .e 2))
section
variable (r_:Bool) (u0:Bool) (x:aO) (u1:Bool)
abbrev k21:=(bif (bif (bif r_ then u0 else false)then(!decide (x.bj.e0=x.bj.e1))else false)then u1 else false)
abbrev k20:=(k21 r_ u0 x u1,true)
end
theorem Fa (x:aO) (x1:Int) (u2:List Source) (u3:List Link) (u4:List aO):cu Tryz.prog 146 [.agg (k19 x),sD (k3 u2 u3 u4 x1)] [] (fun r=>(vB r)) (fun _=>[]) (qP x x1 u2 u3 u4):=
  cZ tT mX Tryz.func146 (
  .rg {fr:=[(0,1)],fz:=[1]} []<| .rg {} [.pf ⟨(0:Int)<=0/\(0:Int)<(2:Nat),(by decide)⟩, .pf ⟨(0:Int)<=1/\(1:Int)<(2:Nat),(by decide)⟩]<| .cl 4 (aM x.bj.e0 0 (k7 x1)) fun r_=> .cg 10 [(r_,true)] (aM x.bj.e1 (-1) (k7 x1)) fun u0=> .cg 20 [((bif (bif r_ then u0 else false)then(!decide (x.bj.e0=x.bj.e1))else false),true)] (aM x.power 1 100000) fun u1=> .cg 26 [k20 r_ u0 x u1] (FX x) fun u5=> .cg 27 [k20 r_ u0 x u1] (aM x.bk 0 u5) fun u6=> .r<| .e (bif (k21 r_ u0 x u1)then u6 else false))
section
variable (x1:Int) (u0:List Source) (u1:List Link) (u2:List aO)
abbrev k22:DV:=(J9 [.fn 146 1 (k11 x1 u0 u1 u2)] 0)
end
theorem Bq (x:aO) (x1:Int) (u0:List Source) (u1:List Link) (u2:List aO):cu Tryz.prog 145 [.agg (k19 x),sD (k22 x1 u0 u1 u2)] [] (fun r=>(vB r)) (fun _=>[]) (qw x x1 u0 u1 u2):=
  cZ tT mX Tryz.func145 (
  .rg {fr:=[(0,1)],fz:=[1]} []<| .cl 2 (Fa x x1 u0 u1 u2) fun r_=> .r<| .e (!r_))
section
variable (s_:List aO) (f_:Int) (u0:List Source) (u1:List Link) (u2:List aO)
abbrev k23:List SV:=[sD (k6 s_),sD (.fn 145 1 (z8 [k22 f_ u0 u1 u2]))]
end
theorem xw (s_:List aO) (f_:Int) (u0:List Source) (u1:List Link) (u2:List aO):cu Tryz.prog 174 (k23 s_ f_ u0 u1 u2) [] (fun r=>(vI r)) (fun _=>[]) (mG s_ f_ u0 u1 u2):=
  cZ tT mX Tryz.func174 (
  .r<| .r<| .lp (σ:=Int) (β:=Unit) (0) [] [] ⟨[0,1,7],[],fun t8=>[(8,vI t8)],fun t8=>[]⟩ ⟨[],[],fun _=>[],fun _=>[]⟩
  (fun t8=> .r<| .it (.r<| .cl 5 (Bq (⟨(at' s_ t8.toNat).bj,(at' s_ t8.toNat).power,(at' s_ t8.toNat).bk⟩:aO) f_ u0 u1 u2) fun r_=> .a1 ((0:Int)<=t8/\t8<(s_.length:Int))<| .rg {} [0,1]<| .it (.r<| .e (.done (.ret t8)))
  (.r<| .e (.next (k13 t8))))
  (.e (.done (.brk ()))))
  (fun _=> .r<| .e (-1)))
theorem uD (s_:List aO) (f_:Int) (u0:List Source) (u1:List Link) (u2:List aO):cu Tryz.prog 144 (k23 s_ f_ u0 u1 u2) [] (fun r=>(vB r)) (fun _=>[]) (gu s_ f_ u0 u1 u2):=
  cZ tT mX Tryz.func144 (
  .r<| .cl 2 (xw s_ f_ u0 u1 u2) fun r_=> .r<| .e (decide (0<=r_)))
theorem Er (l:List aO) (u0:Int) (u1:Int) (u2:List Source) (u3:List Link) (u4:List aO):cu Tryz.prog 96 [sD (k6 l),sI u0,sD (.fn 146 1 (k11 u1 u2 u3 u4))] [] (fun r=>(vB r)) (fun _=>[]) (qF l u0 u1 u2 u3 u4):=
  cZ tT mX Tryz.func96 (
  .rg {fr:=[(0,1)],fz:=[1]} []<| .cg 7 [(decide ((l.length:Int)<=u0),true)] (uD l u1 u2 u3 u4) fun r_=> .r<| .e (bif (decide ((l.length:Int)<=u0))then(!r_)else false))
theorem xX (p:ah):cu Tryz.prog 46 (k0 p) [] (fun r=>(vI r)) (fun _=>[]) (pu p):=
  cZ tT mX Tryz.func46 (
  .rg {fr:=[(0,1)],fz:=[1]} []<| .cl 2 (aM p.ar 1 24) fun r_=> .r<| .it (.r<| .e 10)
  (.cl 3 (Fh p) fun u0=> .cl 4 (GX p.aa 8 u0.1 u0.2.1 u0.2.2.1 u0.2.2.2) fun u3=> .r<| .it (.r<| .e 11)
  (.cl 3 (G6 p) fun u1=> .cl 4 (Ff p.aq 40 u1.1 u1.2.1 u1.2.2.1 u1.2.2.2) fun u4=> .r<| .it (.r<| .e 12)
  (.cl 3 (He p) fun u2=> .cl 4 (Er p.a_ 24 u2.1 u2.2.1 u2.2.2.1 u2.2.2.2) fun u5=> .r<| .it (.r<| .e 13)
  (.r<| .e 0)))))
section
variable (s_:State) (p:ah) (u0:Int)
abbrev k26:DV:=(aN none 1 af s_.ae)
abbrev k25:List CV:=[.d (aN none 1 af s_.ap),.d (aN none 1 af s_.aw),.d (aN none 1 af s_.ag),.d (aN none 1 af s_.on_),.d (k26 s_),.d (aN none 1 af s_.am),.d (aN none 1 af s_.al)]
abbrev k24:List SV:=[.agg (k1 p),.agg (k25 s_)]
abbrev k27:=(⟨s_.ap,(p.aq.length:Int)⟩:cO)
abbrev k28:=(⟨s_.aw,(p.aq.length:Int)⟩:cO)
abbrev k29:=(⟨s_.ag,(p.aq.length:Int)⟩:cO)
abbrev k30:=(⟨s_.on_,(p.aa.length:Int)⟩:cO)
abbrev k31:=(⟨s_.ae,(p.aa.length:Int)⟩:cO)
abbrev k32:=(aj cO.cell [k27 s_ p,k28 s_ p,k29 s_ p,k30 s_ p,k31 s_ p,(⟨s_.am,p.ar⟩:cO),(⟨s_.al,p.ar⟩:cO)])
abbrev Z5:=((0:Int)<=u0/\u0<(p.aq.length:Int))
abbrev k34:=((gB [(decide (((at' p.aq u0.toNat).kind)=1),true)]=true->(0:Int)<=u0/\u0<(s_.ap.length:Int)))
abbrev k35:=((gB [(!(at' s_.ap u0.toNat),false),(decide (((at' p.aq u0.toNat).kind)=1),true)]=true->(0:Int)<=u0/\u0<(s_.aw.length:Int)))
end
theorem dZ (p:ah) (s_:State):cu Tryz.prog 10 (k24 s_ p) [] (fun r=>(vI r)) (fun _=>[]) (dQ p s_):=
  cZ tT mX Tryz.func10 (
  .rg {fr:=[(0,11),(1,12)]} []<| .cl 1 (xX p) fun r_=> .r<| .r<| .it (.r<| .e r_)
  (.r<| .rg {an:=[(30, .arr [k27 s_ p,k28 s_ p,k29 s_ p,k30 s_ p,k31 s_ p,(⟨s_.am,p.ar⟩:cO),(⟨s_.al,p.ar⟩:cO)].length (k32 s_ p))],fr:=[(30,13)],fz:=[12]} [.pf ⟨[k27 s_ p,k28 s_ p,k29 s_ p,k30 s_ p,k31 s_ p,(⟨s_.am,p.ar⟩:cO),(⟨s_.al,p.ar⟩:cO)].length=7,rfl⟩, .pf ⟨av 7 2 (iY 2 [aN none 1 af s_.ap,.int .i64 (p.aq.length:Int),aN none 1 af s_.aw,.int .i64 (p.aq.length:Int),aN none 1 af s_.ag,.int .i64 (p.aq.length:Int),aN none 1 af s_.on_,.int .i64 (p.aa.length:Int),k26 s_,.int .i64 (p.aa.length:Int),aN none 1 af s_.am,.int .i64 p.ar,aN none 1 af s_.al,.int .i64 p.ar]) (k32 s_ p),(by intro i hi j hj;match i,j,hi,hj with|0,0,_,_=>rfl|0,1,_,_=>rfl|1,0,_,_=>rfl|1,1,_,_=>rfl|2,0,_,_=>rfl|2,1,_,_=>rfl|3,0,_,_=>rfl|3,1,_,_=>rfl|4,0,_,_=>rfl|4,1,_,_=>rfl|5,0,_,_=>rfl|5,1,_,_=>rfl|6,0,_,_=>rfl|6,1,_,_=>rfl)⟩]<| .lp (σ:=Int) (β:=Unit) (0) [] [] ⟨[2,3,53,54],[11,13],fun u1=>[(55,vI u1)],fun u1=>[]⟩ ⟨[2,3],[11],fun _=>[],fun _=>[]⟩
  (fun u1=> .r<| .it (.a1 ((0:Int)<=u1/\u1<([k27 s_ p,k28 s_ p,k29 s_ p,k30 s_ p,k31 s_ p,(⟨s_.am,p.ar⟩:cO),(⟨s_.al,p.ar⟩:cO)].length:Int))<| .rg {fr:=[(2,17)],fz:=[17]} [0, .t 0 u1 ([k27 s_ p,k28 s_ p,k29 s_ p,k30 s_ p,k31 s_ p,(⟨s_.am,p.ar⟩:cO),(⟨s_.al,p.ar⟩:cO)].length)]<| .r<| .it (.r<| .e (.done (.ret 9)))
  (.r<| .e (.next (k13 u1))))
  (.e (.done (.brk ()))))
  (fun _=> .r<| .lp (σ:=Int) (β:=Unit) (0) [] [] ⟨[3,67,68],[],fun u0=>[(69,vI u0)],fun u0=>[]⟩ ⟨[],[],fun _=>[],fun _=>[]⟩
  (fun u0=> .r<| .it (.a1 (Z5 p u0)<| .rg {fr:=[(3,21)],fz:=[21]} []<| .a2 (k34 s_ p u0) (k35 s_ p u0)<| .rg {} [0,1]<| .it (.r<| .e (.done (.ret 9)))
  (.r<| .e (.next (k13 u0))))
  (.e (.done (.brk ()))))
  (fun _=> .r<| .e 0))))
theorem nH (i:Int) (x1:Int) (u1:List Source) (u0:List Link) (u2:List aO):cu Tryz.prog 98 [sI i,sD (k3 u1 u0 u2 x1)] [] (fun r=>(vB r)) (fun _=>[]) (fo i x1 u1 u0 u2):=
  cZ tT mX Tryz.func98 (
  .r<| .a1 ((gB [((bif (decide (0<=i))then(decide (i<(u0.length:Int)))else false),true)]=true->(0:Int)<=i/\i<(u0.length:Int)))<| .r<| .e (bif (bif (decide (0<=i))then(decide (i<(u0.length:Int)))else false)then(!decide (((at' u0 i.toNat).kind)=1))else false))
section
variable (x2:Int) (u0:List Source) (u1:List Link) (u2:List aO)
abbrev k36:DV:=(J9 [.fn 98 1 (k11 x2 u0 u1 u2)] 0)
end
theorem vW (x:Transfer) (x1:Int) (u3:List Source) (u4:List Link) (u5:List aO) (x2:Int) (u0:List Source) (u1:List Link) (u2:List aO):cu Tryz.prog 100 [.agg [cI x.bh,cI x.open_,cI x.close],sD (k3 u3 u4 u5 x1),sD (k36 x2 u0 u1 u2)] [] (fun r=>(vB r)) (fun _=>[]) (gT x x1 u3 u4 u5 x2 u0 u1 u2):=
  cZ tT mX Tryz.func100 (
  .rg {fr:=[(0,1)],fz:=[1]} []<| .cg 14 [((bif (decide (x.bh<0))then true else(decide (x1<=x.bh))),false)] (nH x.close x2 u0 u1 u2) fun r_=> .cg 25 [(!decide (x.open_=(-1)),true),((bif (bif (decide (x.bh<0))then true else(decide (x1<=x.bh)))then true else(!r_)),false)] (nH x.open_ x2 u0 u1 u2) fun u6=> .r<| .e (bif (bif (bif (decide (x.bh<0))then true else(decide (x1<=x.bh)))then true else(!r_))then true else(bif (!decide (x.open_=(-1)))then(bif (!u6)then true else(decide (x.open_=x.close)))else false)))
section
variable (s_:List Transfer) (f_:Int) (u0:List Source) (u1:List Link) (u2:List aO) (u3:Int) (u4:List Source) (u5:List Link) (u6:List aO) (t8:Int)
abbrev LK:DV:=(aN none 3 Transfer.cell s_)
abbrev k37:List SV:=[sD (LK s_),sD (.fn 100 2 (z8 [k3 u0 u1 u2 f_,k36 u3 u4 u5 u6]))]
abbrev k39:=((0:Int)<=t8/\t8<(s_.length:Int))
end
theorem xq (s_:List Transfer) (f_:Int) (u0:List Source) (u1:List Link) (u2:List aO) (u3:Int) (u4:List Source) (u5:List Link) (u6:List aO):cu Tryz.prog 148 (k37 s_ f_ u0 u1 u2 u3 u4 u5 u6) [] (fun r=>(vI r)) (fun _=>[]) (mI s_ f_ u0 u1 u2 u3 u4 u5 u6):=
  cZ tT mX Tryz.func148 (
  .r<| .r<| .lp (σ:=Int) (β:=Unit) (0) [] [] ⟨[0,1,7],[],fun t8=>[(8,vI t8)],fun t8=>[]⟩ ⟨[],[],fun _=>[],fun _=>[]⟩
  (fun t8=> .r<| .it (.r<| .cl 5 (vW (at' s_ t8.toNat) f_ u0 u1 u2 u3 u4 u5 u6) fun r_=> .a1 (k39 s_ t8)<| .rg {} [0,1]<| .it (.r<| .e (.done (.ret t8)))
  (.r<| .e (.next (k13 t8))))
  (.e (.done (.brk ()))))
  (fun _=> .r<| .e (-1)))
theorem uW (s_:List Transfer) (f_:Int) (u0:List Source) (u1:List Link) (u2:List aO) (u3:Int) (u4:List Source) (u5:List Link) (u6:List aO):cu Tryz.prog 99 (k37 s_ f_ u0 u1 u2 u3 u4 u5 u6) [] (fun r=>(vB r)) (fun _=>[]) (gU s_ f_ u0 u1 u2 u3 u4 u5 u6):=
  cZ tT mX Tryz.func99 (
  .r<| .cl 2 (xq s_ f_ u0 u1 u2 u3 u4 u5 u6) fun r_=> .r<| .e (decide (0<=r_)))
section
variable (p:ah) (s_:State) (l:List Transfer)
abbrev k40:List SV:=[.agg (k1 p),.agg (k25 s_),sD (LK l)]
end
theorem gF (p:ah) (s_:State) (l:List Transfer):cu Tryz.prog 48 (k40 p s_ l) [] (fun r=>(vI r)) (fun _=>[]) (dI p s_ l):=
  cZ tT mX Tryz.func48 (
  .rg {fr:=[(0,3),(1,4)],fz:=[4]} []<| .cl 2 (dZ p s_) fun r_=> .r<| .r<| .it (.r<| .e r_)
  (.rg {fr:=[(1,5)],fz:=[3]} []<| .fz [5]<| .cg 6 [(decide (16<(l.length:Int)),false)] (uW l p.ar p.aa p.aq p.a_ p.ar p.aa p.aq p.a_) fun u0=> .r<| .it (.r<| .e 1)
  (.r<| .e 0)))
section
variable (s_:List Bool)
abbrev k41:=(aj af (([]:List Bool)++s_))
end
theorem sF (s_:List Bool) (u0:Bool):cu Tryz.prog 101 [sD (aN (some u0) 1 af s_)] [] (fun r=>(vO 0 false r.length)) (fun r=>[(0,some (aX 4 1 af r))]) (vX s_ u0):=
  cZ tT mX Tryz.func101 (
  .r<| .r<| .it (.r<| .im (.ad 2 2 4 1 (aj af ([]:List Bool)))<| .en ([]:List Bool) [] [(2,0)])
  (.a2 ((([]:List Bool).length+s_.length)*1<=140737488355328) (([]:List Bool).length+s_.length<=4611686018427387904)<| .rg {an:=[(0, .arr ([]:List Bool).length (aj af ([]:List Bool))),(2, .arr (([]:List Bool)++s_).length (k41 s_))],fr:=[(0,3),(2,4)]} [.pf ⟨([]:List Bool).length=0,rfl⟩, .pf ⟨av 0 1 (iY 1 []) (aj af ([]:List Bool)),(fun i hi=>absurd hi (cL i))⟩, .e (([]:List Bool).length),0,1, .pf ⟨(([]:List Bool)++s_).length=([]:List Bool).length+s_.length,b_⟩, .pf ⟨av (([]:List Bool).length+s_.length) 1 (fQ (aj af ([]:List Bool)) ([]:List Bool).length (aj af s_)) (k41 s_),aP _ _ _ _⟩]<| .en (([]:List Bool)++s_) [] [(4,0)]))
theorem aR (s:List Bool) {r:List Bool} (h:bB s=some r):Fn Tryz.prog 101 [sD (aN none 1 af s)] [] (vO 0 false r.length) [(0,some (aX 4 1 af r))]:=by
 refine Fn.nn (sF s true h) fun hl=> ?_
 have hs:s=[]:=List.eq_nil_of_length_eq_zero hl
 subst hs
 exact sF [] false (by rw [<-h];kernel_rfl)
section
variable (s_:State) (r_:List Bool) (u0:List Bool) (u1:List Bool) (u2:List Bool) (u3:List Bool) (u4:List Bool) (u5:List Bool)
abbrev k42:List SV:=[.agg (k25 s_)]
abbrev Ng:=(⟨r_,u0,u1,u2,u3,u4,u5⟩:State)
end
theorem A8 (s_:State):cu Tryz.prog 49 (k42 s_) [] (fun r=>(.v (.agg [.own 0 false r.ap.length,.own 1 false r.aw.length,.own 2 false r.ag.length,.own 3 false r.on_.length,.own 4 false r.ae.length,.own 5 false r.am.length,.own 6 false r.al.length]))) (fun r=>[(0,some (aX 4 1 af r.ap)),(1,some (aX 4 1 af r.aw)),(2,some (aX 4 1 af r.ag)),(3,some (aX 4 1 af r.on_)),(4,some (aX 4 1 af r.ae)),(5,some (aX 4 1 af r.am)),(6,some (aX 4 1 af r.al)),(7,none)]) (qp s_):=
  cZ tT mX Tryz.func49 (
  .rg {fr:=[(0,10),(1,11)]} []<| .rg {an:=[(7, .cells)],fr:=[(7,12)]} []<| .ul 11<| .r<| .t<| .a1 ((0:Int)<=0/\0<(7:Int))<| .r<| .cl 4 (iT [(0,13)] ⟨fun h=>aR s_.ap h⟩) fun r_=> .r<| .r<| .im (.dp [1,2,12,13,14])<| .r<| .t<| .a1 ((0:Int)<=1/\1<(7:Int))<| .r<| .cl 4 (iT [(0,14)] ⟨fun h=>aR s_.aw h⟩) fun u0=> .r<| .r<| .im (.dp [1,2,12,13,14])<| .r<| .t<| .a1 ((0:Int)<=2/\2<(7:Int))<| .r<| .cl 4 (iT [(0,15)] ⟨fun h=>aR s_.ag h⟩) fun u1=> .r<| .r<| .im (.dp [1,2,12,13,14])<| .r<| .t<| .a1 ((0:Int)<=3/\3<(7:Int))<| .r<| .cl 4 (iT [(0,16)] ⟨fun h=>aR s_.on_ h⟩) fun u2=> .r<| .r<| .im (.dp [1,2,12,13,14])<| .r<| .t<| .a1 ((0:Int)<=4/\4<(7:Int))<| .r<| .cl 4 (iT [(0,17)] ⟨fun h=>aR s_.ae h⟩) fun u3=> .r<| .r<| .im (.dp [1,2,12,13,14])<| .r<| .t<| .a1 ((0:Int)<=5/\5<(7:Int))<| .r<| .cl 4 (iT [(0,18)] ⟨fun h=>aR s_.am h⟩) fun u4=> .r<| .r<| .im (.dp [1,2,12,13,14])<| .r<| .t<| .a1 ((0:Int)<=6/\6<(7:Int))<| .r<| .cl 4 (iT [(0,19)] ⟨fun h=>aR s_.al h⟩) fun u5=> .r<| .r<| .im (.dp [1,2,12,13,14])<| .r<| .f<| .r<| .en (Ng r_ u0 u1 u2 u3 u4 u5) [] [(13,0),(14,1),(15,2),(16,3),(17,4),(18,5),(19,6),(11,7)])
section
variable (s_:State)
abbrev k44:List CV:=[.own 0 false s_.ap.length,.own 1 false s_.aw.length,.own 2 false s_.ag.length,.own 3 false s_.on_.length,.own 4 false s_.ae.length,.own 5 false s_.am.length,.own 6 false s_.al.length]
abbrev ZQ:Nat × Option Ob:=(0,some (aX 4 1 af s_.ap))
abbrev Oy:Nat × Option Ob:=(1,some (aX 4 1 af s_.aw))
abbrev Ni:Nat × Option Ob:=(2,some (aX 4 1 af s_.ag))
abbrev OA:Nat × Option Ob:=(3,some (aX 4 1 af s_.on_))
abbrev OT:Nat × Option Ob:=(4,some (aX 4 1 af s_.ae))
abbrev Oz:Nat × Option Ob:=(5,some (aX 4 1 af s_.am))
abbrev Oc:Nat × Option Ob:=(6,some (aX 4 1 af s_.al))
abbrev JW:List (Nat × Option Ob):=[ZQ s_,Oy s_,Ni s_,OA s_,OT s_,Oz s_,Oc s_]
end
theorem AJ (p:ah) (s_:State) (l:List Transfer):cu Tryz.prog 50 [.agg (k1 p),.agg (k44 s_),sD (LK l)] (JW s_) (fun r=>(.v (.one (.fn 102 0 3 (Wj [.d (J9 [aN none 3 Transfer.cell r.1] 0),.d (J9 [.int .i64 r.2.1,aN none 5 Source.cell r.2.2.1,aN none 6 Link.cell r.2.2.2.1,aN none 4 aO.cell r.2.2.2.2.1] 0),.ptr 7 0]))))) (fun r=>[ZQ s_,Oy s_,Ni s_,OA s_,OT s_,Oz s_,Oc s_,(7,some (.cells 29 (k44 s_)))]) (qD p s_ l):=
  cZ tT mX Tryz.func50 (
  .rg {fr:=[(0,10),(1,11),(2,12)],fz:=[10,12]} []<| .r<| .en (l,p.ar,p.aa,p.aq,p.a_,s_) [] [(11,7)])
noncomputable def jM:jR:=⟨[28,29],Ut ([1,1,1,1,0,1,0]++[0]) (yP Tryz.f13),Ut ([1,1,1,1,0,1,0]++[1]) (yP Tryz.f13),37,[]⟩
theorem zW (p:ah) (s_:State):cu Tryz.prog 104 (k24 s_ p) [] (fun r=>(vD (.fn 152 2 (z8 [J9 [.int .i64 r.1,aN none 5 Source.cell r.2.1,aN none 6 Link.cell r.2.2.1,aN none 4 aO.cell r.2.2.2.1] 0,J9 [aN none 1 af r.2.2.2.2.1,aN none 1 af r.2.2.2.2.2.1,aN none 1 af r.2.2.2.2.2.2.1,aN none 1 af r.2.2.2.2.2.2.2.1,aN none 1 af r.2.2.2.2.2.2.2.2.1,aN none 1 af r.2.2.2.2.2.2.2.2.2.1,aN none 1 af r.2.2.2.2.2.2.2.2.2.2] 0])))) (fun _=>[]) (lQ p s_):=
  cZ tT mX Tryz.func104 (
  .rg {fr:=[(0,2),(1,3)],fz:=[2,3]} []<| .r<| .e (p.ar,p.aa,p.aq,p.a_,s_.ap,s_.aw,s_.ag,s_.on_,s_.ae,s_.am,s_.al))
noncomputable def vV:jR:=⟨[22],Ut ([1,1,0,1,0]++[0]) (yP Tryz.f51),Ut ([1,1,0,1,0]++[1]) (yP Tryz.f51),125,[]⟩
section
variable (g:bE)
abbrev k53:List (Nat × Option Ob):=[(0,some (MR 3 3 false false 1 1 (aG .i64) (aG .i64) g.br))]
end
theorem gW (g:bE) (x:Int):cu Tryz.prog 106 [.agg [.mp 0],sI x] (k53 g) (fun r=>(vI r)) (fun r=>(k53 g)) (di g x):=
  cZ tT mX Tryz.func106 (
  .rg {fr:=[(0,2)]} []<| .lp (σ:=Int) (β:=Unit) (x) [] [] ⟨[2],[0,2],fun x1=>[(1,vI x1)],fun x1=>[]⟩ ⟨[],[],fun _=>[],fun _=>[]⟩
  (fun x1=> .rg {an:=[(3, .look (bC cK x1 g.br).isSome [cI ((bC cK x1 g.br).getD 0)])]} [.pf ⟨lK [some .i64] 1 1 g.br.length (zO (aG .i64) g.br) (Al (aG .i64) g.br) [.int .i64 x1] [.d (.int .i64 0)] (bC cK x1 g.br).isSome [cI ((bC cK x1 g.br).getD 0)],mD (fun _=>rfl) (fun _ _=>rfl) g.br x1 0 rfl rfl rfl⟩]<| .r<| .it (.r<| .e (.done (.ret x1)))
  (.r<| .e (.next ((bC cK x1 g.br).getD 0))))
  (fun _=> .no))
theorem yZ (g:bE) (a:Int) (b:Int):cu Tryz.prog 105 [.agg [.mp 0],sI a,sI b] (k53 g) (fun r=>(.dV [])) (fun r=>[(0,some (MR 3 3 false false 1 1 (aG .i64) (aG .i64) r))]) (kJ g a b):=
  cZ tT mX Tryz.func105 (
  .rg {fr:=[(0,2)]} []<| .cr 2 (gW g a) fun r_=> .cr 5 (gW g b) fun u0=> .r<| .r<| .it (.rg {an:=[(4, .map (iC cK r_ u0 g.br).length (zO (aG .i64) (iC cK r_ u0 g.br)) (Al (aG .i64) (iC cK r_ u0 g.br)) [])]} [.pf ⟨sO [some .i64] 1 1 g.br.length (zO (aG .i64) g.br) (Al (aG .i64) g.br) [.int .i64 r_] [cI u0] [] (iC cK r_ u0 g.br).length (zO (aG .i64) (iC cK r_ u0 g.br)) (Al (aG .i64) (iC cK r_ u0 g.br)),Jo (fun _=>rfl) (fun _ _=>rfl) g.br r_ u0 rfl rfl⟩]<| .e (iC cK r_ u0 g.br))
  (.e g.br))
section
variable (o_:bE)
abbrev k55:Nat × Option Ob:=(0,some (.loop vV 0 [(5,vP 1 0)]))
abbrev k54:List (Nat × Option Ob):=[k55,(1,some (.cells 178 [.mp 2])),(2,some (MR 3 3 false false 1 1 (aG .i64) (aG .i64) o_.br))]
end
theorem xV (u0:Int) (u1:Int) (u2:Int) (u3:Int) (u4:Int) (u5:List nT) (o_:bE):YlO Tryz.prog 0 [.agg [cI u0,cI u1,cI u2,cI u3,cI u4,.d (aN none 2 nT.cell u5)]] (k54 o_) (fun _=>vB true) (fun r=>[k55,(1,some (.cells 178 [.mp 2])),(2,some (MR 3 3 false false 1 1 (aG .i64) (aG .i64) r.br))]) (nO u0 u1 u2 u3 u4 u5 o_):=
  scY tT mX vV ⟨[5],[0,1,2],fun _=>[(6,vD (J9 [.int .i64 u0,.int .i64 u1,.int .i64 u2,.int .i64 u3,.int .i64 u4,aN none 2 nT.cell u5] 0))],fun _=>[]⟩ (.rg {fr:=[(0,4)],fz:=[4]} []<| .e ())
  (.cl 5 (iT [(0,2)] (yZ o_ u0 u1)) fun r_=> .r<| .e (⟨r_⟩:bE))
section
variable (x2:List Bool) (u6:List Bool) (u2:List Bool) (u7:List Bool) (u8:List Bool) (u9:List Bool) (u1:List Bool) (t9:Int) (u0:List Link)
abbrev Z6:DV:=(J9 [aN none 1 af x2,aN none 1 af u6,aN none 1 af u2,aN none 1 af u7,aN none 1 af u8,aN none 1 af u9,aN none 1 af u1] 0)
abbrev k57:=(bif (bif (at' x2 t9.toNat)then(!(at' u2 t9.toNat))else false)then(!(at' u1 (((at' u0 t9.toNat).a).toNat)))else false)
abbrev U2:=((0:Int)<=t9/\t9<(x2.length:Int))
abbrev k59:=((gB [((bif (at' x2 t9.toNat)then(!(at' u2 t9.toNat))else false),true)]=true->(0:Int)<=(at' u0 t9.toNat).a/\(at' u0 t9.toNat).a<(u1.length:Int)))
abbrev k60:=((gB [(k57 x2 u2 u1 t9 u0,true)]=true->(0:Int)<=(at' u0 t9.toNat).b/\(at' u0 t9.toNat).b<(u1.length:Int)))
end
theorem yc (x1:Int) (u4:List Source) (u0:List Link) (u5:List aO) (x2:List Bool) (u6:List Bool) (u2:List Bool) (u7:List Bool) (u8:List Bool) (u9:List Bool) (u1:List Bool) (o_:bE):cu Tryz.prog 152 [.one (.yl 0),sD (k3 u4 u0 u5 x1),sD (Z6 x2 u6 u2 u7 u8 u9 u1)] (k54 o_) (fun r=>(.dV [])) (fun r=>[k55,(1,some (.cells 178 [.mp 2])),(2,some (MR 3 3 false false 1 1 (aG .i64) (aG .i64) r.br))]) (oh x1 u4 u0 u5 x2 u6 u2 u7 u8 u9 u1 o_):=
  cZ tT mX Tryz.func152 (
  .r<| .lp (σ:=((List (Int × Int)) × Int)) (β:=(List (Int × Int))) (o_.br,0) [] [] ⟨[0,2,7,8],[0,1],fun(u3,t9)=>[(9,vI t9)],fun(u3,t9)=>[(2,some (MR 3 3 false false 1 1 (aG .i64) (aG .i64) u3))]⟩ ⟨[],[0,1],fun o501=>[],fun o501=>[(2,some (MR 3 3 false false 1 1 (aG .i64) (aG .i64) o501))]⟩
  (fun(u3,t9)=> .r<| .it (.a1 (k18 u0 t9)<| .rg {fr:=[(3,10)],fz:=[10]} []<| .fk (bif (k57 x2 u2 u1 t9 u0)then(!(at' u1 (((at' u0 t9.toNat).b).toNat)))else false) (.cy 34 (xV ((at' u0 t9.toNat).a) ((at' u0 t9.toNat).b) ((at' u0 t9.toNat).kind) ((at' u0 t9.toNat).most) ((at' u0 t9.toNat).ohm) ((at' u0 t9.toNat).trip) (⟨u3⟩:bE)) fun r_=> .a4 (U2 x2 t9) ((gB [(at' x2 t9.toNat,true)]=true->(0:Int)<=t9/\t9<(u2.length:Int))) (k59 x2 u2 u1 t9 u0) (k60 x2 u2 u1 t9 u0)<| .rg {ov:=[(31,true,5)]} [0,1,2,3, .k 4]<| .f<| .r<| .e (.next (r_.br,k13 t9)))
  (.a4 (U2 x2 t9) ((gB [(at' x2 t9.toNat,true)]=true->(0:Int)<=t9/\t9<(u2.length:Int))) (k59 x2 u2 u1 t9 u0) (k60 x2 u2 u1 t9 u0)<| .rg {ov:=[(31,false,4)],sk:=[32,33,34,35]} [0,1,2,3]<| .f<| .r<| .e (.next (u3,k13 t9))))
  (.e (.done (.brk u3))))
  (fun o501=> .e (⟨o501⟩:bE)))
section
variable (u1:List aI) (u2:List (Int × Int)) (u0:Int) (u3:Int) (u7:Int) (p:ah) (s_:State) (u5:List aI) (u6:Int) (u4:List (Int × Int))
abbrev k61:List (Nat × Option Ob):=[(60,some (.rows 122 2 u1.length (yI aI.ev u1) none)),(61,some (MR 3 3 false false 1 1 (aG .i64) (aG .i64) u2))]
abbrev Ki:=((bC cK u0 u2).getD 0)
abbrev k62:List CV:=[cI (Ki u2 u0)]
abbrev RZ:=(iC cK u0 (u1.length:Int) u2)
abbrev XL:=(u1++[(⟨([]:List Int),([]:List Int)⟩:aI)])
abbrev k66:=(yI aI.ev (XL u1))
abbrev XV:=((bC cK u0 (RZ u1 u2 u0)).getD 0)
abbrev k71:=((XV u1 u2 u0).toNat)
abbrev k70:=(at' (XL u1) (k71 u1 u2 u0))
abbrev k69:=((k70 u1 u2 u0).ar)
abbrev k68:=((k69 u1 u2 u0).length+[u3].length)
abbrev k72:=((k69 u1 u2 u0)++[u3])
abbrev k73:=(aj (aG .i64) (k72 u1 u2 u0 u3))
abbrev k75:=((XL u1).set (k71 u1 u2 u0) (⟨k72 u1 u2 u0 u3,(k70 u1 u2 u0).aa⟩:aI))
abbrev k74:=(yI aI.ev (k75 u1 u2 u0 u3))
abbrev ZM:=((at' u1 ((Ki u2 u0).toNat)).ar)
abbrev k77:=((ZM u1 u2 u0)++[u3])
abbrev k78:=(aj (aG .i64) (k77 u1 u2 u0 u3))
abbrev k80:=(u1.set ((Ki u2 u0).toNat) (⟨k77 u1 u2 u0 u3,(at' u1 ((Ki u2 u0).toNat)).aa⟩:aI))
abbrev k79:=(yI aI.ev (k80 u1 u2 u0 u3))
abbrev k81:=((0:Int)<=u7/\u7<(p.aa.length:Int))
abbrev k82:=((gB [(at' s_.on_ u7.toNat,true)]=true->(0:Int)<=u7/\u7<(s_.ae.length:Int)))
abbrev k83:=((gB [((bif (at' s_.on_ u7.toNat)then(!(at' s_.ae u7.toNat))else false),true)]=true->(0:Int)<=(at' p.aa u7.toNat).bus/\(at' p.aa u7.toNat).bus<(s_.al.length:Int)))
abbrev YG:=((at' p.aa u7.toNat).bus)
abbrev Zy:=((at' u5 ((Ki u4 u6).toNat)).aa)
abbrev k86:=((Zy u5 u6 u4)++[u7])
abbrev k87:=(aj (aG .i64) (k86 u7 u5 u6 u4))
abbrev k89:=(u5.set ((Ki u4 u6).toNat) (⟨(at' u5 ((Ki u4 u6).toNat)).ar,k86 u7 u5 u6 u4⟩:aI))
abbrev k88:=(yI aI.ev (k89 u7 u5 u6 u4))
end
theorem pY (p:ah) (s_:State):cu Tryz.prog 51 (k24 s_ p) [] (fun r=>(vD (aN none 2 aI.cell r))) (fun _=>[]) (ig p s_):=
  cZ tT mX Tryz.func51 (
  .rg {fr:=[(0,55),(1,56)],fz:=[56]} []<| .rg {an:=[(0, .map 0 (zO (aG .i64) ([]:(List (Int × Int)))) (Al (aG .i64) ([]:(List (Int × Int)))) [])],fr:=[(0,57),(2,58)]} []<| .cl 2 (zW p s_) fun r_=> .r<| .cl 0 (iT [(0,59),(1,58),(2,57)] (yc r_.1 r_.2.1 r_.2.2.1 r_.2.2.2.1 r_.2.2.2.2.1 r_.2.2.2.2.2.1 r_.2.2.2.2.2.2.1 r_.2.2.2.2.2.2.2.1 r_.2.2.2.2.2.2.2.2.1 r_.2.2.2.2.2.2.2.2.2.1 r_.2.2.2.2.2.2.2.2.2.2 (⟨([]:(List (Int × Int)))⟩:bE))) fun v0=> .rf 59 [5] [] none 0 []<| .r<| .im (.adR 7 60 122 2 (yI aI.ev ([]:List aI)))<| .rg {an:=[(0, .map 0 (zO (aG .i64) ([]:(List (Int × Int)))) (Al (aG .i64) ([]:(List (Int × Int)))) [])],fr:=[(0,61)]} []<| .r<| .lp (σ:=((List aI) × (List (Int × Int)) × Int)) (β:=((List aI) × (List (Int × Int)))) (([]:List aI),([]:(List (Int × Int))),0) [] [] ⟨[2,3,5,8,31],[55,57,58],fun(u1,u2,u3)=>[(7,vO 60 false u1.length),(32,vI u3)],fun(u1,u2,u3)=>(k61 u1 u2)⟩ ⟨[2,3,5,8],[55,57,58],fun(u9,u4)=>[(7,vO 60 false u9.length)],fun(u9,u4)=>(k61 u9 u4)⟩
  (fun(u1,u2,u3)=> .r<| .it (.r<| .a1 ((0:Int)<=u3/\u3<(s_.al.length:Int))<| .r<| .it (.r<| .e (.next (u1,u2,k13 u3)))
  (.cr 2 (iT [(0,57)] (gW v0 u3)) fun u0=> .r<| .rg {an:=[(2, .look (bC cK u0 u2).isSome (k62 u2 u0))]} [.pf ⟨lK [some .i64] 1 1 u2.length (zO (aG .i64) u2) (Al (aG .i64) u2) [.int .i64 u0] [.d (.int .i64 0)] (bC cK u0 u2).isSome (k62 u2 u0),mD (fun _=>rfl) (fun _ _=>rfl) u2 u0 0 rfl rfl rfl⟩]<| .r<| .it (.rg {an:=[(4, .map (RZ u1 u2 u0).length (zO (aG .i64) (RZ u1 u2 u0)) (Al (aG .i64) (RZ u1 u2 u0)) [])]} [.pf ⟨sO [some .i64] 1 1 u2.length (zO (aG .i64) u2) (Al (aG .i64) u2) [.int .i64 u0] [cI (u1.length:Int)] [] (RZ u1 u2 u0).length (zO (aG .i64) (RZ u1 u2 u0)) (Al (aG .i64) (RZ u1 u2 u0)),Jo (fun _=>rfl) (fun _ _=>rfl) u2 u0 (u1.length:Int) rfl rfl⟩]<| .a2 ((u1.length+[(⟨([]:List Int),([]:List Int)⟩:aI)].length)*48<=140737488355328) (u1.length+[(⟨([]:List Int),([]:List Int)⟩:aI)].length<=4611686018427387904)<| .rg {an:=[(2, .arr [(⟨([]:List Int),([]:List Int)⟩:aI)].length (iY 2 [nS,nS])),(3, .rows (XL u1).length (k66 u1))],fr:=[(2,86),(3,87)]} [.pf ⟨[(⟨([]:List Int),([]:List Int)⟩:aI)].length=1,rfl⟩, .pf ⟨av 1 2 (iY 2 [nS,nS]) (iY 2 [nS,nS]),dO _ _ _⟩, .e (u1.length),0,1, .pf ⟨(XL u1).length=u1.length+[(⟨([]:List Int),([]:List Int)⟩:aI)].length,b_⟩, .pf ⟨HV u1.length [(⟨([]:List Int),([]:List Int)⟩:aI)].length 2 (yI aI.ev u1) (iY 2 [nS,nS]) (k66 u1),YV _ _ _ _ _ (by intro i hi j hj;match i,j,hi,hj with|0,0,_,_=>exact⟨rfl,_,_,_,rfl⟩|0,1,_,_=>exact⟨rfl,_,_,_,rfl⟩)⟩]<| .rg {an:=[(2, .look (bC cK u0 (RZ u1 u2 u0)).isSome [cI (XV u1 u2 u0)])]} [.pf ⟨lK [some .i64] 1 1 (RZ u1 u2 u0).length (zO (aG .i64) (RZ u1 u2 u0)) (Al (aG .i64) (RZ u1 u2 u0)) [.int .i64 u0] [.d (.int .i64 0)] (bC cK u0 (RZ u1 u2 u0)).isSome [cI (XV u1 u2 u0)],mD (fun _=>rfl) (fun _ _=>rfl) (RZ u1 u2 u0) u0 0 rfl rfl rfl⟩]<| .a3 ((0:Int)<=(XV u1 u2 u0)/\(XV u1 u2 u0)<((XL u1).length:Int)) ((k68 u1 u2 u0 u3)*8<=140737488355328) ((k69 u1 u2 u0).length+[u3].length<=4611686018427387904)<| .rg {an:=[(6, .take 88),(8, .arr [u3].length (aj (aG .i64) [u3])),(9, .arr (k72 u1 u2 u0 u3).length (k73 u1 u2 u0 u3)),(12, .rows 0 (k74 u1 u2 u0 u3))],fr:=[(8,89),(9,90)]} [0, .t 0 (XV u1 u2 u0) ((XL u1).length), .pf ⟨[u3].length=1,rfl⟩, .pf ⟨av 1 1 (iY 1 [.int .i64 u3]) (aj (aG .i64) [u3]),(by intro i hi j hj;match i,j,hi,hj with|0,0,_,_=>rfl)⟩, .e ((k69 u1 u2 u0).length),1,2, .pf ⟨(k72 u1 u2 u0 u3).length=(k69 u1 u2 u0).length+[u3].length,b_⟩, .pf ⟨av (k68 u1 u2 u0 u3) 1 (fQ (aj (aG .i64) (k69 u1 u2 u0)) (k69 u1 u2 u0).length (aj (aG .i64) [u3])) (k73 u1 u2 u0 u3),aP _ _ _ _⟩,0, .t 0 (XV u1 u2 u0) ((XL u1).length), .e ((k72 u1 u2 u0 u3).length), .pf ⟨Xo (XL u1).length 2 (Z4 (k66 u1) (k71 u1 u2 u0) 0 (.row 3 1 (k72 u1 u2 u0 u3).length (k73 u1 u2 u0 u3))) (k74 u1 u2 u0 u3),IU _ _ _ _ _ _ _ _ rfl (fun j hj=>(match j,hj with|0,_=>rfl|1,_=>rfl))⟩, .pf ⟨∀i0 j0 c0,((some ((XV u1 u2 u0).toNat,0,CV.own 88 false (k69 u1 u2 u0).length)):Option (Nat × Nat × CV))=some (i0,j0,c0)->i0=(XV u1 u2 u0).toNat/\j0=0,(fun i0 j0 c0 e=>by cases e;exact⟨rfl,rfl⟩)⟩]<| .im (.ll 87 (XL u1) (k75 u1 u2 u0 u3))<| .r<| .en (.next (k75 u1 u2 u0 u3,RZ u1 u2 u0,k13 u3)) [] [(87,60)])
  (.rg {an:=[(2, .look (bC cK u0 u2).isSome (k62 u2 u0))]} [.pf ⟨lK [some .i64] 1 1 u2.length (zO (aG .i64) u2) (Al (aG .i64) u2) [.int .i64 u0] [.d (.int .i64 0)] (bC cK u0 u2).isSome (k62 u2 u0),mD (fun _=>rfl) (fun _ _=>rfl) u2 u0 0 rfl rfl rfl⟩]<| .a3 ((0:Int)<=(Ki u2 u0)/\(Ki u2 u0)<(u1.length:Int)) (((ZM u1 u2 u0).length+[u3].length)*8<=140737488355328) ((ZM u1 u2 u0).length+[u3].length<=4611686018427387904)<| .rg {an:=[(6, .take 91),(8, .arr [u3].length (aj (aG .i64) [u3])),(9, .arr (k77 u1 u2 u0 u3).length (k78 u1 u2 u0 u3)),(12, .rows 0 (k79 u1 u2 u0 u3))],fr:=[(8,92),(9,93)]} [0, .t 0 (Ki u2 u0) u1.length, .pf ⟨[u3].length=1,rfl⟩, .pf ⟨av 1 1 (iY 1 [.int .i64 u3]) (aj (aG .i64) [u3]),(by intro i hi j hj;match i,j,hi,hj with|0,0,_,_=>rfl)⟩, .e ((ZM u1 u2 u0).length),1,2, .pf ⟨(k77 u1 u2 u0 u3).length=(ZM u1 u2 u0).length+[u3].length,b_⟩, .pf ⟨av ((ZM u1 u2 u0).length+[u3].length) 1 (fQ (aj (aG .i64) (ZM u1 u2 u0)) (ZM u1 u2 u0).length (aj (aG .i64) [u3])) (k78 u1 u2 u0 u3),aP _ _ _ _⟩,0, .t 0 (Ki u2 u0) u1.length, .e ((k77 u1 u2 u0 u3).length), .pf ⟨Xo u1.length 2 (Z4 (yI aI.ev u1) ((Ki u2 u0).toNat) 0 (.row 3 1 (k77 u1 u2 u0 u3).length (k78 u1 u2 u0 u3))) (k79 u1 u2 u0 u3),IU _ _ _ _ _ _ _ _ rfl (fun j hj=>(match j,hj with|0,_=>rfl|1,_=>rfl))⟩, .pf ⟨∀i0 j0 c0,((some ((Ki u2 u0).toNat,0,CV.own 91 false (ZM u1 u2 u0).length)):Option (Nat × Nat × CV))=some (i0,j0,c0)->i0=(Ki u2 u0).toNat/\j0=0,(fun i0 j0 c0 e=>by cases e;exact⟨rfl,rfl⟩)⟩]<| .im (.ll 60 u1 (k80 u1 u2 u0 u3))<| .r<| .e (.next (k80 u1 u2 u0 u3,u2,k13 u3)))))
  (.e (.done (.brk (u1,u2)))))
  (fun(u9,u4)=> .r<| .lp (σ:=((List aI) × Int)) (β:=(List aI)) (u9,0) [] [] ⟨[3,5,8,76,77],[57,58,61],fun(u5,u7)=>[(7,vO 60 false u5.length),(78,vI u7)],fun(u5,u7)=>[(60,some (.rows 122 2 u5.length (yI aI.ev u5) none))]⟩ ⟨[],[],fun u8=>[(7,vO 60 false u8.length)],fun u8=>[(60,some (.rows 122 2 u8.length (yI aI.ev u8) none))]⟩
  (fun(u5,u7)=> .r<| .it (.a1 (k81 u7 p)<| .rg {fr:=[(3,106)],fz:=[106]} []<| .a3 ((0:Int)<=u7/\u7<(s_.on_.length:Int)) (k82 u7 s_) (k83 u7 p s_)<| .rg {} [0,1,2]<| .it (.cr 4 (iT [(0,57)] (gW v0 (YG u7 p))) fun u6=> .rg {an:=[(5, .look (bC cK u6 u4).isSome (k62 u4 u6))]} [0, .pf ⟨lK [some .i64] 1 1 u4.length (zO (aG .i64) u4) (Al (aG .i64) u4) [.int .i64 u6] [.d (.int .i64 0)] (bC cK u6 u4).isSome (k62 u4 u6),mD (fun _=>rfl) (fun _ _=>rfl) u4 u6 0 rfl rfl rfl⟩]<| .a3 ((0:Int)<=(Ki u4 u6)/\(Ki u4 u6)<(u5.length:Int)) (((Zy u5 u6 u4).length+[u7].length)*8<=140737488355328) ((Zy u5 u6 u4).length+[u7].length<=4611686018427387904)<| .rg {an:=[(6, .take 107),(8, .arr [u7].length (aj (aG .i64) [u7])),(9, .arr (k86 u7 u5 u6 u4).length (k87 u7 u5 u6 u4)),(12, .rows 0 (k88 u7 u5 u6 u4))],fr:=[(8,108),(9,109)]} [0, .t 0 (Ki u4 u6) u5.length, .pf ⟨[u7].length=1,rfl⟩, .pf ⟨av 1 1 (iY 1 [.int .i64 u7]) (aj (aG .i64) [u7]),(by intro i hi j hj;match i,j,hi,hj with|0,0,_,_=>rfl)⟩, .e ((Zy u5 u6 u4).length),1,2, .pf ⟨(k86 u7 u5 u6 u4).length=(Zy u5 u6 u4).length+[u7].length,b_⟩, .pf ⟨av ((Zy u5 u6 u4).length+[u7].length) 1 (fQ (aj (aG .i64) (Zy u5 u6 u4)) (Zy u5 u6 u4).length (aj (aG .i64) [u7])) (k87 u7 u5 u6 u4),aP _ _ _ _⟩,0, .t 0 (Ki u4 u6) u5.length, .e ((k86 u7 u5 u6 u4).length), .pf ⟨Xo u5.length 2 (Z4 (yI aI.ev u5) ((Ki u4 u6).toNat) 1 (.row 3 1 (k86 u7 u5 u6 u4).length (k87 u7 u5 u6 u4))) (k88 u7 u5 u6 u4),IU _ _ _ _ _ _ _ _ rfl (fun j hj=>(match j,hj with|0,_=>rfl|1,_=>rfl))⟩, .pf ⟨∀i0 j0 c0,((some ((Ki u4 u6).toNat,1,CV.own 107 false (Zy u5 u6 u4).length)):Option (Nat × Nat × CV))=some (i0,j0,c0)->i0=(Ki u4 u6).toNat/\j0=1,(fun i0 j0 c0 e=>by cases e;exact⟨rfl,rfl⟩)⟩]<| .im (.ll 60 u5 (k89 u7 u5 u6 u4))<| .r<| .e (.next (k89 u7 u5 u6 u4,k13 u7)))
  (.r<| .e (.next (u5,k13 u7))))
  (.e (.done (.brk u5))))
  (fun u8=> .r<| .fz [60]<| .im (.us 4 (vD (.sl none 2 u8.length (fun i j=>evD (yI aI.ev u8 i j)))) (vD (aN none 2 aI.cell u8)) (Gw.v (kD.one (bY.d (bO.sl (.inr rfl) (fun i _ j hj=>match j,hj with|0,_=> .refl _|1,_=> .refl _))))))<| .e u8)))
section
variable (p:ah) (u1:List aI) (u0:Int) (u3:Int) (u2:List Bool) (u6:List Bool)
abbrev k90:=((1:Int)*p.ar<=281474976710656)
abbrev k91:=((p.ar:Int)<=9223372036854775807)
abbrev Gs:=(List.replicate p.ar.toNat (false:Bool))
abbrev Si:=(aj af (Gs p))
abbrev k95:=(at' ((at' u1 u0.toNat).ar) u3.toNat)
abbrev k94:=((0:Int)<=(k95 u1 u0 u3)/\(k95 u1 u0 u3)<(u2.length:Int))
abbrev k97:=(u2.set ((k95 u1 u0 u3).toNat) (decide (0<(((at' u1 u0.toNat).aa).length:Int))))
abbrev k96:=(aj af (k97 u1 u0 u3 u2))
abbrev k98:=(fe (aj af u2) ((k95 u1 u0 u3).toNat) 0 [.bool (decide (0<(((at' u1 u0.toNat).aa).length:Int)))])
abbrev k99:=(k97 u1 u0 u3 u2,k13 u3)
abbrev Kq:=(u6,k13 u0)
end
theorem sZ (p:ah) (s_:State):cu Tryz.prog 14 (k24 s_ p) [] (fun r=>(.dV [.one (.own 0 false r.1.length),sI r.2])) (fun r=>[(0,some (aX 4 1 af r.1))]) (dU p s_):=
  cZ tT mX Tryz.func14 (
  .rg {fr:=[(0,7),(1,8)],fz:=[7,8]} []<| .cl 2 (dZ p s_) fun r_=> .r<| .r<| .it (.r<| .im (.ad 4 9 4 1 (aj af ([]:List Bool)))<| .en (([]:List Bool),r_) [] [(9,0)])
  (.a3 ((0:Int)<=p.ar) (k90 p) (k91 p)<| .rg {an:=[(2, .arr (Gs p).length (Si p))],fr:=[(2,10)]} [0, .e ((p.ar:Int)),1,2, .pf ⟨(Gs p).length=p.ar.toNat,dj⟩, .pf ⟨av p.ar.toNat 1 (fun _ j=>[.bool false].getD j .nilp) (Si p),gV _ _ _ _ _ (fun j hj=>(match j,hj with|0,_=>rfl))⟩]<| .cl 2 (pY p s_) fun u1=> .r<| .lp (σ:=((List Bool) × Int)) (β:=(List Bool)) (Gs p,0) [] [] ⟨[23,24],[],fun(u4,u0)=>[(7,vO 10 true u4.length),(25,vI u0)],fun(u4,u0)=>[(10,some (aX 4 1 af u4))]⟩ ⟨[],[],fun u5=>[(7,vO 10 true u5.length)],fun u5=>[(10,some (aX 4 1 af u5))]⟩
  (fun(u4,u0)=> .r<| .it (.a1 ((0:Int)<=u0/\u0<(u1.length:Int))<| .rg {fr:=[(2,14)]} []<| .rg {fz:=[14]} []<| .lp (σ:=((List Bool) × Int)) (β:=(List Bool)) (u4,0) [] [] ⟨[9,23,24,25,30,31],[],fun(u2,u3)=>[(7,vO 10 true u2.length),(32,vI u3)],fun(u2,u3)=>[(10,some (aX 4 1 af u2))]⟩ ⟨[23,24,25],[],fun u6=>[(7,vO 10 true u6.length)],fun u6=>[(10,some (aX 4 1 af u6))]⟩
  (fun(u2,u3)=> .r<| .it (.a1 ((0:Int)<=u3/\u3<(((at' u1 u0.toNat).ar).length:Int))<| .r<| .a1 (k94 u1 u0 u3 u2)<| .rg {an:=[(7, .arr 0 (k96 u1 u0 u3 u2))]} [0, .t 0 (k95 u1 u0 u3) u2.length, .pf ⟨av u2.length 1 (k98 u1 u0 u3 u2) (k96 u1 u0 u3 u2),aQ _ _ _ _ _ _ _ _ rfl (fun j hj=>(match j,hj with|0,_=>rfl))⟩]<| .im (.ll 10 u2 (k97 u1 u0 u3 u2))<| .r<| .e (.next (k99 u1 u0 u3 u2)))
  (.e (.done (.brk u2))))
  (fun u6=> .r<| .e (.next (Kq u0 u6))))
  (.e (.done (.brk u4))))
  (fun u5=> .r<| .en (u5,0) [] [(10,0)])))
theorem jX (x y:ai):Go.Proofs.ltOf bn x y=true↔x.e0<y.e0\/ ¬ y.e0<x.e0/\x.e1<y.e1:=by
 unfold Go.Proofs.ltOf bn;rw [decide_eq_true_iff]
 by_cases h0:x.e0<y.e0<;>by_cases g0:y.e0<x.e0<;>by_cases h1:x.e1<y.e1<;>by_cases g1:y.e1<x.e1<;>simp [h0,g0,h1,g1]
theorem Ac:Go.Sort.SWO (Go.Proofs.ltOf bn) where
 irrefl x:=by rw [<-Bool.not_eq_true,jX];omega
 trans x y z h1 h2:=by rw [jX]at*;omega
 ntrans x y z h1 h2:=by rw [<-Bool.not_eq_true,jX]at*;omega
theorem Ah (x y:ai) (h1:(Go.Proofs.ltOf bn) x y=false) (h2:(Go.Proofs.ltOf bn) y x=false):x=y:=by
 rw [<-Bool.not_eq_true,jX]at h1 h2
 obtain⟨a,b⟩:=x
 obtain⟨c,d⟩:=y
 have e1:a=c:=by simp only at h1 h2;omega
 have e2:b=d:=by simp only at h1 h2;omega
 rw [e1,e2]
theorem Bc (s:List ai) {r:List ai} (h:jQ s=some r):Fn Tryz.prog 52 [.one (.own 0 false s.length),sD (.fn 53 0 (z8 []))] [(0,some (.arr 44 2 s.length (aj ai.cell s)))] (.dV []) [(0,some (.arr 44 2 r.length (aj ai.cell r)))]:=
 aa7 Vy 2 Y1 WL (fun x:ai=>[.int .i64 x.e0, .int .i64 x.e1]) (fun _=>rfl) (fun x v hv=>by simp at hv;rcases hv with rfl|rfl<;>rfl) bn Ac Ah
  (QY (fun x:ai=>[.int .i64 x.e0, .int .i64 x.e1]) (fun x=>x.e0) (fun x=>x.e1) (fun _=>rfl)) (enters_of Tryz.func53 (by kernel_rfl) rfl)
  (fun F w x j hj v=>match j,hj with|0,_=>Iff.rfl|1,_=>Iff.rfl) 52 rfl ⟨_,Tryz.func52,rfl,rfl⟩ s (by cases s with|nil=>(cases h;simp)|cons x xs=>exact h)
section
variable (u6:List ai) (u1:Int) (u2:List aI) (u0:Int) (u3:Int) (u4:List ai)
abbrev Td:List (Nat × Option Ob):=[(139,some (aX 44 2 ai.cell u6))]
abbrev EU:=((k13 u1).toNat)
abbrev abF:=(((at' u2 u0.toNat).aa).drop (EU u1))
abbrev OH:=(at' ((at' u2 u0.toNat).aa) u1.toNat)
abbrev YT:=(at' (abF u1 u2 u0) u3.toNat)
abbrev QK:=(⟨OH u1 u2 u0,YT u1 u2 u0 u3⟩:ai)
abbrev ael:=(u4.length+[QK u1 u2 u0 u3].length)
abbrev aao:=(aj ai.cell [QK u1 u2 u0 u3])
abbrev Y3:=(u4++[QK u1 u2 u0 u3])
abbrev aeF:=(aj ai.cell (Y3 u1 u2 u0 u3 u4))
abbrev Nb:=(u4,k13 u3)
end
theorem lV (p:ah) (s_:State):cu Tryz.prog 15 (k24 s_ p) [] (fun r=>(.dV [.one (.own 0 false r.1.length),sI r.2])) (fun r=>[(0,some (aX 44 2 ai.cell r.1))]) (dR p s_):=
  cZ tT mX Tryz.func15 (
  .rg {fr:=[(0,134),(1,135)],fz:=[134,135]} []<| .cl 2 (dZ p s_) fun r_=> .r<| .r<| .it (.r<| .im (.ad 4 136 44 2 (aj ai.cell ([]:List ai)))<| .en (([]:List ai),r_) [] [(136,0)])
  (.r<| .cl 2 (pY p s_) fun u2=> .r<| .im (.ad 7 269 44 2 (aj ai.cell ([]:List ai)))<| .lp (σ:=((List ai) × Int)) (β:=(List ai)) (([]:List ai),0) [] [(269,139)] ⟨[2,22,23],[],fun(u6,u0)=>[(7,vO 139 false u6.length),(24,vI u0)],fun(u6,u0)=>(Td u6)⟩ ⟨[],[],fun u5=>[(7,vO 139 false u5.length)],fun u5=>(Td u5)⟩
  (fun(u6,u0)=> .r<| .it (.a1 ((0:Int)<=u0/\u0<(u2.length:Int))<| .rg {fr:=[(2,236)],fz:=[236]} []<| .r<| .lp (σ:=((List ai) × Int)) (β:=(List ai)) (u6,0) [] [] ⟨[2,9,22,23,24,29,30],[],fun(u7,u1)=>[(7,vO 139 false u7.length),(31,vI u1)],fun(u7,u1)=>(Td u7)⟩ ⟨[2,22,23,24],[],fun u8=>[(7,vO 139 false u8.length)],fun u8=>(Td u8)⟩
  (fun(u7,u1)=> .r<| .it (.a1 ((0:Int)<=u1/\u1<(((at' u2 u0.toNat).aa).length:Int))<| .r<| .a1 ((0:Int)<=(k13 u1)/\(k13 u1)<=(((at' u2 u0.toNat).aa).length:Int))<| .r<| .im (.us 40 (vD (.sl none 1 (((at' u2 u0.toNat).aa).length - (EU u1)) (fun iq jq=>aj (aG .i64) ((at' u2 u0.toNat).aa) (iq+(EU u1)) jq))) (vD (aN none 1 (aG .i64) (abF u1 u2 u0))) (Gw.v (kD.one (bY.d (bO.ZW (by first|rw [b_,dE]|simp only [cJ,dE,kY]) (.inr rfl) (P6 _ _ _ _))))))<| .lp (σ:=((List ai) × Int)) (β:=(List ai)) (u7,0) [] [] ⟨[2,9,11,22,23,24,29,30,31,40,41],[],fun(u4,u3)=>[(7,vO 139 false u4.length),(42,vI u3)],fun(u4,u3)=>(Td u4)⟩ ⟨[2,9,22,23,24,29,30,31],[],fun u9=>[(7,vO 139 false u9.length)],fun u9=>(Td u9)⟩
  (fun(u4,u3)=> .r<| .it (.a1 ((0:Int)<=u3/\u3<((abF u1 u2 u0).length:Int))<| .r<| .a3 ((0:Int)<=(OH u1 u2 u0)/\(OH u1 u2 u0)<(p.aa.length:Int)) ((gB [(decide (((at' p.aa ((OH u1 u2 u0).toNat)).bp)=0),false)]=true->(0:Int)<=(OH u1 u2 u0)/\(OH u1 u2 u0)<(p.aa.length:Int))) ((gB [(decide (((at' p.aa ((OH u1 u2 u0).toNat)).bp)=0),false)]=true->(0:Int)<=(YT u1 u2 u0 u3)/\(YT u1 u2 u0 u3)<(p.aa.length:Int)))<| .rg {} [0,1,2]<| .it (.a2 ((ael u1 u2 u0 u3 u4)*16<=140737488355328) (u4.length+[QK u1 u2 u0 u3].length<=4611686018427387904)<| .rg {an:=[(4, .arr [QK u1 u2 u0 u3].length (aao u1 u2 u0 u3)),(5, .arr (Y3 u1 u2 u0 u3 u4).length (aeF u1 u2 u0 u3 u4))],fr:=[(4,267),(5,268)]} [.pf ⟨[QK u1 u2 u0 u3].length=1,rfl⟩, .pf ⟨av 1 2 (iY 2 [.int .i64 (OH u1 u2 u0),.int .i64 (YT u1 u2 u0 u3)]) (aao u1 u2 u0 u3),(by intro i hi j hj;match i,j,hi,hj with|0,0,_,_=>rfl|0,1,_,_=>rfl)⟩, .e (u4.length),0,1, .pf ⟨(Y3 u1 u2 u0 u3 u4).length=u4.length+[QK u1 u2 u0 u3].length,b_⟩, .pf ⟨av (ael u1 u2 u0 u3 u4) 2 (fQ (aj ai.cell u4) u4.length (aao u1 u2 u0 u3)) (aeF u1 u2 u0 u3 u4),aP _ _ _ _⟩]<| .r<| .en (.next (Y3 u1 u2 u0 u3 u4,k13 u3)) [] [(268,139)])
  (.r<| .e (.next (Nb u3 u4))))
  (.e (.done (.brk u4))))
  (fun u9=> .r<| .e (.next (Nb u1 u9))))
  (.e (.done (.brk u7))))
  (fun u8=> .r<| .e (.next (Nb u0 u8))))
  (.e (.done (.brk u6))))
  (fun u5=> .cl 1 (iT [(0,139)] ⟨fun h=>Bc u5 h⟩) fun v0=> .r<| .a1 (u5.length=v0.length)<| .so 7 139 false u5.length v0.length 0<| .so 77 139 false u5.length v0.length 0<| .r<| .en (v0,0) [] [(139,0)])))
theorem ER (s_:List ai) (v_:ai):cu Tryz.prog 176 [sD (aN none 2 ai.cell s_),.agg [cI v_.e0,cI v_.e1]] [] (fun r=>(vI r)) (fun _=>[]) (vU s_ v_):=
  cZ tT mX Tryz.func176 (
  .rg {fr:=[(0,1)],fz:=[1]} []<| .r<| .lp (σ:=Int) (β:=Unit) (0) [] [] ⟨[0,3,7],[],fun t8=>[(8,vI t8)],fun t8=>[]⟩ ⟨[],[],fun _=>[],fun _=>[]⟩
  (fun t8=> .r<| .it (.r<| .a1 ((0:Int)<=t8/\t8<(s_.length:Int))<| .r<| .it (.r<| .e (.done (.ret t8)))
  (.r<| .e (.next (k13 t8))))
  (.e (.done (.brk ()))))
  (fun _=> .r<| .e (-1)))
theorem Bf (s_:List ai) (v_:ai):cu Tryz.prog 151 [sD (aN none 2 ai.cell s_),.agg [cI v_.e0,cI v_.e1]] [] (fun r=>(vB r)) (fun _=>[]) (mR s_ v_):=
  cZ tT mX Tryz.func151 (
  .rg {fr:=[(0,1)],fz:=[1]} []<| .cl 2 (ER s_ v_) fun r_=> .r<| .e (decide (0<=r_)))
theorem DZ (c:ai) (x1:List ai):cu Tryz.prog 150 [.agg [cI c.e0,cI c.e1],sD (J9 [aN none 2 ai.cell x1] 0)] [] (fun r=>(vB r)) (fun _=>[]) (sS c x1):=
  cZ tT mX Tryz.func150 (
  .rg {fr:=[(0,1)],fz:=[1]} []<| .cl 2 (Bf x1 c) fun r_=> .r<| .e (!r_))
section
variable (s_:List ai) (f_:List ai)
abbrev adk:List SV:=[sD (aN none 2 ai.cell s_),sD (.fn 150 1 (z8 [J9 [aN none 2 ai.cell f_] 0]))]
end
theorem xG (s_:List ai) (f_:List ai):cu Tryz.prog 175 (adk s_ f_) [] (fun r=>(vI r)) (fun _=>[]) (mM s_ f_):=
  cZ tT mX Tryz.func175 (
  .r<| .r<| .lp (σ:=Int) (β:=Unit) (0) [] [] ⟨[0,1,7],[],fun t8=>[(8,vI t8)],fun t8=>[]⟩ ⟨[],[],fun _=>[],fun _=>[]⟩
  (fun t8=> .r<| .it (.r<| .cl 5 (DZ (at' s_ t8.toNat) f_) fun r_=> .a1 ((0:Int)<=t8/\t8<(s_.length:Int))<| .rg {} [0,1]<| .it (.r<| .e (.done (.ret t8)))
  (.r<| .e (.next (k13 t8))))
  (.e (.done (.brk ()))))
  (fun _=> .r<| .e (-1)))
theorem mZ (s_:List ai) (f_:List ai):cu Tryz.prog 149 (adk s_ f_) [] (fun r=>(vB r)) (fun _=>[]) (dD s_ f_):=
  cZ tT mX Tryz.func149 (
  .r<| .cl 2 (xG s_ f_) fun r_=> .r<| .e (decide (0<=r_)))
section
variable (p:ah) (s_:State) (x:Transfer) (r_:(List Bool) × Int) (u0:List Bool) (u1:Int) (u3:(List Bool) × Int)
abbrev QD:List SV:=[.agg (k1 p),.agg (k44 s_)]
abbrev aeE:=(bif (bif (at' s_.al x.bh.toNat)then true else(at' r_.1 x.bh.toNat))then true else(at' s_.ap x.close.toNat))
abbrev adu:=(aeE s_ x r_,false)
abbrev acX:=((bif (aeE s_ x r_)then true else(at' s_.ag x.close.toNat)),false)
abbrev Bu:=(u0.set x.close.toNat true)
abbrev Jr:=((Bu x u0).set x.open_.toNat false)
abbrev aez:List SV:=[.agg (k1 p),.agg [.d (aN none 1 af (Jr x u0)),.d (aN none 1 af s_.aw),.d (aN none 1 af s_.ag),.d (aN none 1 af s_.on_),.d (k26 s_),.d (aN none 1 af s_.am),.d (aN none 1 af s_.al)]]
abbrev aaN:=(⟨Jr x u0,s_.aw,s_.ag,s_.on_,s_.ae,s_.am,s_.al⟩:State)
abbrev ack:List SV:=[.agg (k1 p),.agg [.own 29 false ((Jr x u0).length),.own 1 false s_.aw.length,.own 2 false s_.ag.length,.own 3 false s_.on_.length,.own 4 false s_.ae.length,.own 5 false s_.am.length,.own 6 false s_.al.length]]
abbrev abt:Nat × Option Ob:=(29,some (aX 4 1 af (Jr x u0)))
abbrev aek:List (Nat × Option Ob):=[abt x u0,Oy s_,Ni s_,OA s_,OT s_,Oz s_,Oc s_]
abbrev ZP:=((0:Int)<=u1/\u1<(r_.1.length:Int))
abbrev XP:=((gB [(at' r_.1 u1.toNat,true)]=true->(0:Int)<=u1/\u1<(u3.1.length:Int)))
abbrev WK:=((bif (at' r_.1 u1.toNat)then(!(at' u3.1 u1.toNat))else false),false)
abbrev Yz:=((gB [WK r_ u1 u3]=true->(0:Int)<=u1/\u1<(u3.1.length:Int)))
abbrev X4:=((gB [(at' u3.1 u1.toNat,true),WK r_ u1 u3]=true->(0:Int)<=u1/\u1<(s_.am.length:Int)))
abbrev YP:=((gB [((bif (at' u3.1 u1.toNat)then(at' s_.am u1.toNat)else false),true),WK r_ u1 u3]=true->(0:Int)<=u1/\u1<(r_.1.length:Int)))
abbrev ac8:List SV:=[.agg (k1 p),.agg [.d (aN none 1 af (Bu x u0)),.d (aN none 1 af s_.aw),.d (aN none 1 af s_.ag),.d (aN none 1 af s_.on_),.d (k26 s_),.d (aN none 1 af s_.am),.d (aN none 1 af s_.al)]]
abbrev abr:=(⟨Bu x u0,s_.aw,s_.ag,s_.on_,s_.ae,s_.am,s_.al⟩:State)
abbrev acZ:List SV:=[.agg (k1 p),.agg [.own 29 false ((Bu x u0).length),.own 1 false s_.aw.length,.own 2 false s_.ag.length,.own 3 false s_.on_.length,.own 4 false s_.ae.length,.own 5 false s_.am.length,.own 6 false s_.al.length]]
abbrev aak:Nat × Option Ob:=(29,some (aX 4 1 af (Bu x u0)))
abbrev aef:List (Nat × Option Ob):=[aak x u0,Oy s_,Ni s_,OA s_,OT s_,Oz s_,Oc s_]
end
theorem FI (p:ah) (s_:State) (x:Transfer):cu Tryz.prog 103 [.agg (k1 p),.agg (k44 s_),.agg [cI x.bh,cI x.open_,cI x.close]] (JW s_) (fun r=>(.dV [.agg [.own 7 false r.1.ap.length,.own 1 false s_.aw.length,.own 2 false s_.ag.length,.own 3 false s_.on_.length,.own 4 false s_.ae.length,.own 5 false s_.am.length,.own 6 false s_.al.length],sB r.2])) (fun r=>[ZQ s_,Oy s_,Ni s_,OA s_,OT s_,Oz s_,Oc s_,(7,bif r.2 then some (aX 4 1 af r.1.ap)else none),(8,none)]) (pq p s_ x):=
  cZ tT mX Tryz.func103 (
  .rg {fr:=[(0,22),(1,23),(2,24),(3,25)],fz:=[22]} []<| .cl 2 ⟨fun{r_} hr_=>((Fn.qx (args:=(k24 s_ p)) (frz:=[0,1,2,3,4,5,6]) (p:=[s_.ap.length=s_.ap.length,s_.aw.length=s_.aw.length,s_.ag.length=s_.ag.length,s_.on_.length=s_.on_.length,s_.ae.length=s_.ae.length,s_.am.length=s_.am.length,s_.al.length=s_.al.length]) (rK [(0,26)] (sZ p s_ hr_)) (by kernel_rfl) ⟨rfl,rfl,rfl,rfl,rfl,rfl,rfl,trivial⟩ (by kernel_rfl) ⟨(fun _ _=>rfl),trivial⟩ (by kernel_rfl)):Fn Tryz.prog 14 (QD p s_) (JW s_) (.dV [.one (.own 26 false r_.1.length),sI r_.2]) [ZQ s_,Oy s_,Ni s_,OA s_,OT s_,Oz s_,Oc s_,(26,some (aX 4 1 af r_.1))])⟩ fun r_=> .rg {fz:=[26]} []<| .a5 ((0:Int)<=x.bh/\x.bh<(s_.al.length:Int)) ((gB [(at' s_.al x.bh.toNat,false)]=true->(0:Int)<=x.bh/\x.bh<(r_.1.length:Int))) ((gB [((bif (at' s_.al x.bh.toNat)then true else(at' r_.1 x.bh.toNat)),false)]=true->(0:Int)<=x.close/\x.close<(s_.ap.length:Int))) ((gB [adu s_ x r_]=true->(0:Int)<=x.close/\x.close<(s_.ag.length:Int))) ((gB [acX s_ x r_]=true->(0:Int)<=x.close/\x.close<(s_.aw.length:Int)))<| .rg {} [0, .t 0 x.bh s_.al.length,1,2, .tg 2 [((bif (at' s_.al x.bh.toNat)then true else(at' r_.1 x.bh.toNat)),false)] x.close s_.ap.length,3, .tg 3 [adu s_ x r_] x.close s_.ag.length,4, .tg 4 [acX s_ x r_] x.close s_.aw.length]<| .it (.r<| .im (.ac 25 0 0 27)<| .en (s_,false) [] [(27,7),(25,8)])
  (.rg {fr:=[(1,28)]} []<| .cl 2 ⟨fun{u0} hr_1=>((Fn.qx (args:=[sD (aN none 1 af s_.ap)]) (frz:=[0]) (p:=[s_.ap.length=s_.ap.length]) (Fn.yu [(0,29)] (aR s_.ap hr_1) (by kernel_rfl) (by kernel_rfl) (by kernel_rfl) (by kernel_rfl)) (by kernel_rfl) ⟨rfl,trivial⟩ (by kernel_rfl) ⟨(fun _ _=>rfl),trivial⟩ (by kernel_rfl)):Fn Tryz.prog 101 [.one (.own 0 false s_.ap.length)] [ZQ s_] (vO 29 false u0.length) [ZQ s_,(29,some (aX 4 1 af u0))])⟩ fun u0=> .r<| .a1 ((0:Int)<=x.close/\x.close<(u0.length:Int))<| .rg {an:=[(5, .arr 0 (aj af (Bu x u0)))]} [0, .t 0 x.close u0.length, .pf ⟨av u0.length 1 (fe (aj af u0) x.close.toNat 0 [.bool true]) (aj af (Bu x u0)),aQ _ _ _ _ _ _ _ _ rfl (fun j hj=>(match j,hj with|0,_=>rfl))⟩]<| .im (.ll 29 u0 (Bu x u0))<| .r<| .it (.a2 ((0:Int)<=x.open_/\x.open_<(s_.ag.length:Int)) ((gB [(at' s_.ag x.open_.toNat,false)]=true->(0:Int)<=x.open_/\x.open_<(s_.aw.length:Int)))<| .rg {} [0, .t 0 x.open_ s_.ag.length,1, .tg 1 [(at' s_.ag x.open_.toNat,false)] x.open_ s_.aw.length]<| .it (.r<| .im (.ac 25 0 0 30)<| .en (s_,false) [] [(30,7),(25,8)])
  (.a1 ((0:Int)<=x.open_/\x.open_<((Bu x u0).length:Int))<| .rg {an:=[(5, .arr 0 (aj af (Jr x u0)))],fz:=[24]} [0, .t 0 x.open_ ((Bu x u0).length), .pf ⟨av (Bu x u0).length 1 (fe (aj af (Bu x u0)) x.open_.toNat 0 [.bool false]) (aj af (Jr x u0)),aQ _ _ _ _ _ _ _ _ rfl (fun j hj=>(match j,hj with|0,_=>rfl))⟩]<| .im (.ll 29 (Bu x u0) (Jr x u0))<| .cl 2 ⟨fun{u3} hr_2=>((Fn.qx (args:=(aez p s_ x u0)) (frz:=[29,1,2,3,4,5,6]) (p:=[(Jr x u0).length=(Jr x u0).length,s_.aw.length=s_.aw.length,s_.ag.length=s_.ag.length,s_.on_.length=s_.on_.length,s_.ae.length=s_.ae.length,s_.am.length=s_.am.length,s_.al.length=s_.al.length]) (Fn.yu [(0,31)] (sZ p (aaN s_ x u0) hr_2) (by kernel_rfl) (by kernel_rfl) (by kernel_rfl) (by kernel_rfl)) (by kernel_rfl) ⟨rfl,rfl,rfl,rfl,rfl,rfl,rfl,trivial⟩ (by kernel_rfl) ⟨(fun _ _=>rfl),trivial⟩ (by kernel_rfl)):Fn Tryz.prog 14 (ack p s_ x u0) (aek s_ x u0) (.dV [.one (.own 31 false u3.1.length),sI u3.2]) [abt x u0,Oy s_,Ni s_,OA s_,OT s_,Oz s_,Oc s_,(31,some (aX 4 1 af u3.1))])⟩ fun u3=> .rg {fz:=[31]} []<| .r<| .lp (σ:=Int) (β:=Unit) (0) [] [] ⟨[3,4,5,6,8,10,11,102],[0,1,2,3,4,5,6,23,25,28,29],fun u1=>[(103,vI u1)],fun u1=>[]⟩ ⟨[3,4,5,6,10,11],[0,1,2,3,4,5,6,23,25,28,29],fun _=>[],fun _=>[]⟩
  (fun u1=> .r<| .it (.r<| .a5 (ZP r_ u1) (XP r_ u1 u3) (Yz r_ u1 u3) (X4 s_ r_ u1 u3) (YP s_ r_ u1 u3)<| .rg {} [0,1,2,3, .tg 3 [(at' u3.1 u1.toNat,true),WK r_ u1 u3] u1 s_.am.length,4]<| .it (.r<| .im (.ac 25 0 0 32)<| .en (.done (.ret (s_,false))) [] [(32,7),(25,8)])
  (.r<| .e (.next (k13 u1))))
  (.e (.done (.brk ()))))
  (fun _=> .cl 2 ⟨fun{u5} hr_3=>((Fn.qx (args:=(k24 s_ p)) (frz:=[0,1,2,3,4,5,6]) (p:=[s_.ap.length=s_.ap.length,s_.aw.length=s_.aw.length,s_.ag.length=s_.ag.length,s_.on_.length=s_.on_.length,s_.ae.length=s_.ae.length,s_.am.length=s_.am.length,s_.al.length=s_.al.length]) (Fn.yu [(0,33)] (lV p s_ hr_3) (by kernel_rfl) (by kernel_rfl) (by kernel_rfl) (by kernel_rfl)) (by kernel_rfl) ⟨rfl,rfl,rfl,rfl,rfl,rfl,rfl,trivial⟩ (by kernel_rfl) ⟨(fun _ j=>match j with|0=>rfl|1=>rfl|_+2=>rfl),trivial⟩ (by kernel_rfl)):Fn Tryz.prog 15 (QD p s_) (JW s_) (.dV [.one (.own 33 false u5.1.length),sI u5.2]) [ZQ s_,Oy s_,Ni s_,OA s_,OT s_,Oz s_,Oc s_,(33,some (aX 44 2 ai.cell u5.1))])⟩ fun u5=> .rg {fr:=[(6,34)],fz:=[33]} []<| .fz [34]<| .cl 2 ⟨fun{u6} hr_4=>((Fn.qx (args:=(aez p s_ x u0)) (frz:=[29,1,2,3,4,5,6]) (p:=[(Jr x u0).length=(Jr x u0).length,s_.aw.length=s_.aw.length,s_.ag.length=s_.ag.length,s_.on_.length=s_.on_.length,s_.ae.length=s_.ae.length,s_.am.length=s_.am.length,s_.al.length=s_.al.length]) (Fn.yu [(0,35)] (lV p (aaN s_ x u0) hr_4) (by kernel_rfl) (by kernel_rfl) (by kernel_rfl) (by kernel_rfl)) (by kernel_rfl) ⟨rfl,rfl,rfl,rfl,rfl,rfl,rfl,trivial⟩ (by kernel_rfl) ⟨(fun _ j=>match j with|0=>rfl|1=>rfl|_+2=>rfl),trivial⟩ (by kernel_rfl)):Fn Tryz.prog 15 (ack p s_ x u0) (aek s_ x u0) (.dV [.one (.own 35 false u6.1.length),sI u6.2]) [abt x u0,Oy s_,Ni s_,OA s_,OT s_,Oz s_,Oc s_,(35,some (aX 44 2 ai.cell u6.1))])⟩ fun u6=> .rg {fz:=[35]} []<| .cg 9 [(!(at' u3.1 x.bh.toNat),false)] (mZ u6.1 u5.1) fun u9=> .a1 ((0:Int)<=x.bh/\x.bh<(u3.1.length:Int))<| .rg {} [0,1]<| .it (.r<| .im (.ac 25 0 0 36)<| .en (s_,false) [] [(36,7),(25,8)])
  (.r<| .en (aaN s_ x u0,true) [] [(29,7),(25,8)]))))
  (.cl 2 ⟨fun{u4} hr_6=>((Fn.qx (args:=(ac8 p s_ x u0)) (frz:=[29,1,2,3,4,5,6]) (p:=[(Bu x u0).length=(Bu x u0).length,s_.aw.length=s_.aw.length,s_.ag.length=s_.ag.length,s_.on_.length=s_.on_.length,s_.ae.length=s_.ae.length,s_.am.length=s_.am.length,s_.al.length=s_.al.length]) (Fn.yu [(0,37)] (sZ p (abr s_ x u0) hr_6) (by kernel_rfl) (by kernel_rfl) (by kernel_rfl) (by kernel_rfl)) (by kernel_rfl) ⟨rfl,rfl,rfl,rfl,rfl,rfl,rfl,trivial⟩ (by kernel_rfl) ⟨(fun _ _=>rfl),trivial⟩ (by kernel_rfl)):Fn Tryz.prog 14 (acZ p s_ x u0) (aef s_ x u0) (.dV [.one (.own 37 false u4.1.length),sI u4.2]) [aak x u0,Oy s_,Ni s_,OA s_,OT s_,Oz s_,Oc s_,(37,some (aX 4 1 af u4.1))])⟩ fun u4=> .rg {fz:=[24,37]} []<| .r<| .lp (σ:=Int) (β:=Unit) (0) [] [] ⟨[3,4,5,6,8,10,11,102],[0,1,2,3,4,5,6,23,25,28,29],fun u2=>[(103,vI u2)],fun u2=>[]⟩ ⟨[3,4,5,6,10,11],[0,1,2,3,4,5,6,23,25,28,29],fun _=>[],fun _=>[]⟩
  (fun u2=> .r<| .it (.r<| .a5 (ZP r_ u2) (XP r_ u2 u4) (Yz r_ u2 u4) (X4 s_ r_ u2 u4) (YP s_ r_ u2 u4)<| .rg {} [0,1,2,3, .tg 3 [(at' u4.1 u2.toNat,true),WK r_ u2 u4] u2 s_.am.length,4]<| .it (.r<| .im (.ac 25 0 0 38)<| .en (.done (.ret (s_,false))) [] [(38,7),(25,8)])
  (.r<| .e (.next (k13 u2))))
  (.e (.done (.brk ()))))
  (fun _=> .cl 2 ⟨fun{u7} hr_7=>((Fn.qx (args:=(k24 s_ p)) (frz:=[0,1,2,3,4,5,6]) (p:=[s_.ap.length=s_.ap.length,s_.aw.length=s_.aw.length,s_.ag.length=s_.ag.length,s_.on_.length=s_.on_.length,s_.ae.length=s_.ae.length,s_.am.length=s_.am.length,s_.al.length=s_.al.length]) (Fn.yu [(0,39)] (lV p s_ hr_7) (by kernel_rfl) (by kernel_rfl) (by kernel_rfl) (by kernel_rfl)) (by kernel_rfl) ⟨rfl,rfl,rfl,rfl,rfl,rfl,rfl,trivial⟩ (by kernel_rfl) ⟨(fun _ j=>match j with|0=>rfl|1=>rfl|_+2=>rfl),trivial⟩ (by kernel_rfl)):Fn Tryz.prog 15 (QD p s_) (JW s_) (.dV [.one (.own 39 false u7.1.length),sI u7.2]) [ZQ s_,Oy s_,Ni s_,OA s_,OT s_,Oz s_,Oc s_,(39,some (aX 44 2 ai.cell u7.1))])⟩ fun u7=> .rg {fr:=[(6,40)],fz:=[39]} []<| .fz [40]<| .cl 2 ⟨fun{u8} hr_8=>((Fn.qx (args:=(ac8 p s_ x u0)) (frz:=[29,1,2,3,4,5,6]) (p:=[(Bu x u0).length=(Bu x u0).length,s_.aw.length=s_.aw.length,s_.ag.length=s_.ag.length,s_.on_.length=s_.on_.length,s_.ae.length=s_.ae.length,s_.am.length=s_.am.length,s_.al.length=s_.al.length]) (Fn.yu [(0,41)] (lV p (abr s_ x u0) hr_8) (by kernel_rfl) (by kernel_rfl) (by kernel_rfl) (by kernel_rfl)) (by kernel_rfl) ⟨rfl,rfl,rfl,rfl,rfl,rfl,rfl,trivial⟩ (by kernel_rfl) ⟨(fun _ j=>match j with|0=>rfl|1=>rfl|_+2=>rfl),trivial⟩ (by kernel_rfl)):Fn Tryz.prog 15 (acZ p s_ x u0) (aef s_ x u0) (.dV [.one (.own 41 false u8.1.length),sI u8.2]) [aak x u0,Oy s_,Ni s_,OA s_,OT s_,Oz s_,Oc s_,(41,some (aX 44 2 ai.cell u8.1))])⟩ fun u8=> .rg {fz:=[41]} []<| .cg 9 [(!(at' u4.1 x.bh.toNat),false)] (mZ u8.1 u7.1) fun v0=> .a1 ((0:Int)<=x.bh/\x.bh<(u4.1.length:Int))<| .rg {} [0,1]<| .it (.r<| .im (.ac 25 0 0 42)<| .en (s_,false) [] [(42,7),(25,8)])
  (.r<| .en (abr s_ x u0,true) [] [(29,7),(25,8)])))))
section
variable (u7:List Bool) (u1:List Bool) (u2:List Bool) (u3:List Bool) (u4:List Bool) (u5:List Bool) (u6:List Bool) (o_:List Int) (u0:Int)
abbrev aev:List CV:=[.own 1 false u7.length,.own 2 false u1.length,.own 3 false u2.length,.own 4 false u3.length,.own 5 false u4.length,.own 6 false u5.length,.own 7 false u6.length]
abbrev Cy:Ob:=(aX 3 1 (aG .i64) o_)
abbrev adN:Ob:=(.cells 29 (aev u7 u1 u2 u3 u4 u5 u6))
abbrev VO:=((o_.length+[u0].length)*8<=140737488355328)
abbrev V6:=(o_.length+[u0].length<=4611686018427387904)
abbrev KI:=(aj (aG .i64) (o_++[u0]))
abbrev V8:=(fQ (aj (aG .i64) o_) o_.length (aj (aG .i64) [u0]))
end
theorem zo (u0:Int) (u7:List Bool) (u1:List Bool) (u2:List Bool) (u3:List Bool) (u4:List Bool) (u5:List Bool) (u6:List Bool) (u8:State) (o_:List Int):YlO Tryz.prog 0 [sI u0,.agg (aev u7 u1 u2 u3 u4 u5 u6)] [(0,some (.loop jM 0 [(10,vP 8 0),(11,vP 9 0)])),(1,some (aX 4 1 af u7)),(2,some (aX 4 1 af u1)),(3,some (aX 4 1 af u2)),(4,some (aX 4 1 af u3)),(5,some (aX 4 1 af u4)),(6,some (aX 4 1 af u5)),(7,some (aX 4 1 af u6)),(8,some (.cells 29 [.own 10 false u8.ap.length,.own 2 false u1.length,.own 3 false u2.length,.own 4 false u3.length,.own 5 false u4.length,.own 6 false u5.length,.own 7 false u6.length])),(9,some (.cells 36 [.own 11 false o_.length])),(10,some (aX 4 1 af u8.ap)),(11,some (Cy o_))] (fun _=>vB true) (fun r=>[(0,some (.loop jM 0 [(10,vP 8 0),(11,vP 9 0)])),(1,some (aX 4 1 af u7)),(2,some (aX 4 1 af u1)),(3,some (aX 4 1 af u2)),(4,some (aX 4 1 af u3)),(5,some (aX 4 1 af u4)),(6,some (aX 4 1 af u5)),(7,some (aX 4 1 af u6)),(8,some (adN u7 u1 u2 u3 u4 u5 u6)),(9,some (.cells 36 [.own 12 false r.2.length])),(10,some (aX 4 1 af u8.ap)),(11,none),(12,some (aX 3 1 (aG .i64) r.2))]) (oZ u0 u7 u1 u2 u3 u4 u5 u6 u8 o_):=
  scY tT mX jM ⟨[10,11],[0,1,2,3,4,5,6,7,8,9,10,11],fun _=>[(12,vI u0),(13,vP 15 0)],fun _=>[(15,some (adN u7 u1 u2 u3 u4 u5 u6))]⟩ (.r<| .rg {fr:=[(0,15)]} []<| .e ())
  (.r<| .a2 (VO o_ u0) (V6 o_ u0)<| .rg {an:=[(2, .arr [u0].length (aj (aG .i64) [u0])),(3, .arr (o_++[u0]).length (KI o_ u0))],fr:=[(2,16),(3,17)]} [.pf ⟨[u0].length=1,rfl⟩, .pf ⟨av 1 1 (iY 1 [.int .i64 u0]) (aj (aG .i64) [u0]),(by intro i hi j hj;match i,j,hi,hj with|0,0,_,_=>rfl)⟩, .e (o_.length),0,1, .pf ⟨(o_++[u0]).length=o_.length+[u0].length,b_⟩, .pf ⟨av (o_.length+[u0].length) 1 (V8 o_ u0) (KI o_ u0),aP _ _ _ _⟩]<| .en (Ng u7 u1 u2 u3 u4 u5 u6,o_++[u0]) [] [(17,12)])
section
variable (u0:State) (x1:List Transfer) (u2:List Bool) (r_:State × Bool) (x2:Int) (u4:List Source) (u5:List Link) (u6:List aO) (u1:Int)
abbrev abZ:Ob:=(.cells 29 [.own 4 false u0.ap.length,.own 5 false u0.aw.length,.own 6 false u0.ag.length,.own 7 false u0.on_.length,.own 8 false u0.ae.length,.own 9 false u0.am.length,.own 10 false u0.al.length])
abbrev Wz:Nat × Option Ob:=(5,some (aX 4 1 af u0.aw))
abbrev WH:Nat × Option Ob:=(6,some (aX 4 1 af u0.ag))
abbrev Vp:Nat × Option Ob:=(7,some (aX 4 1 af u0.on_))
abbrev WJ:Nat × Option Ob:=(8,some (aX 4 1 af u0.ae))
abbrev Vn:Nat × Option Ob:=(9,some (aX 4 1 af u0.am))
abbrev Va:Nat × Option Ob:=(10,some (aX 4 1 af u0.al))
abbrev VY:=(List.replicate ((x1.length:Int).toNat) (false:Bool))
abbrev acB:List CV:=[.own 99 false u2.length,.own 5 false u0.aw.length,.own 6 false u0.ag.length,.own 7 false u0.on_.length,.own 8 false u0.ae.length,.own 9 false u0.am.length,.own 10 false u0.al.length]
abbrev acU:Ob:=(.cells 29 (acB u0 u2))
abbrev aen:Nat × Option Ob:=(1,some (acU u0 u2))
abbrev adP:Nat × Option Ob:=(2,some (acU u0 u2))
abbrev Yg:=(⟨u2,u0.aw,u0.ag,u0.on_,u0.ae,u0.am,u0.al⟩:State)
abbrev aeB:List CV:=[.own 148 false r_.1.ap.length,.own 5 false u0.aw.length,.own 6 false u0.ag.length,.own 7 false u0.on_.length,.own 8 false u0.ae.length,.own 9 false u0.am.length,.own 10 false u0.al.length]
abbrev SH:Ob:=(aX 4 1 af r_.1.ap)
abbrev TA:List SV:=[.agg [cI x2,.d (k4 u4),.d (k5 u5),.d (k6 u6)],.agg (acB u0 u2),.agg [cI ((at' x1 u1.toNat).bh),cI ((at' x1 u1.toNat).open_),cI ((at' x1 u1.toNat).close)]]
abbrev Tn:List (Nat × Option Ob):=[(99,some (aX 4 1 af u2)),Wz u0,WH u0,Vp u0,WJ u0,Vn u0,Va u0]
abbrev VA:List CV:=[.own 7 false r_.1.ap.length,.own 1 false u0.aw.length,.own 2 false u0.ag.length,.own 3 false u0.on_.length,.own 4 false u0.ae.length,.own 5 false u0.am.length,.own 6 false u0.al.length]
abbrev aej:TV:=(.dV [.agg (VA u0 r_),sB r_.2])
abbrev adY:=(tY (swp [(0,99),(1,5),(2,6),(3,7),(4,8),(1,9),(2,10),(3,148),(4,149)]) [(0,some (aX 4 1 af u2)),Oy u0,Ni u0,OA u0,OT u0,Oz u0,Oc u0,(7,bif r_.2 then some (SH r_)else none),(8,none)])
end
theorem Cr (x1:List Transfer) (x2:Int) (u4:List Source) (u5:List Link) (u6:List aO) (u0:State) (v0:State) (o_:List Int):cu Tryz.prog 102 [.one (.yl 0),sD (J9 [LK x1] 0),sD (k3 u4 u5 u6 x2),.one (.ptr 1 0)] [(0,some (.loop jM 0 [(10,vP 2 0),(11,vP 3 0)])),(1,some (abZ u0)),(2,some (abZ u0)),(3,some (.cells 36 [.own 11 false o_.length])),(4,some (aX 4 1 af u0.ap)),Wz u0,WH u0,Vp u0,WJ u0,Vn u0,Va u0,(11,some (Cy o_))] (fun r=>(.dV [])) (fun r=>[(0,some (.loop jM 0 [(10,vP 2 0),(11,vP 3 0)])),(1,some (.cells 29 [.own 12 false r.1.ap.length,.own 5 false u0.aw.length,.own 6 false u0.ag.length,.own 7 false u0.on_.length,.own 8 false u0.ae.length,.own 9 false u0.am.length,.own 10 false u0.al.length])),(2,some (.cells 29 [.own 12 false r.1.ap.length,.own 5 false u0.aw.length,.own 6 false u0.ag.length,.own 7 false u0.on_.length,.own 8 false u0.ae.length,.own 9 false u0.am.length,.own 10 false u0.al.length])),(3,some (.cells 36 [.own 13 false r.2.2.length])),(4,none),Wz u0,WH u0,Vp u0,WJ u0,Vn u0,Va u0,(11,none),(12,some (aX 4 1 af r.1.ap)),(13,some (aX 3 1 (aG .i64) r.2.2))]) (rJ x1 x2 u4 u5 u6 u0 v0 o_):=
  cZ tT mX Tryz.func102 (
  .sp (σ:=((List Bool) × (List Int) × (List Bool))) (β:=((List Bool) × (List Int))) (u0.ap,o_,VY x1) ⟨[0,1,2,3],[0,5,6,7,8,9,10],fun(u2,u8,u3)=>[(5,vO 82 true u3.length)],fun(u2,u8,u3)=>[aen u0 u2,adP u0 u2,(3,some (.cells 36 [.own 100 false u8.length])),(4,none),(11,none),(82,some (aX 4 1 af u3)),(99,some (aX 4 1 af u2)),(100,some (Cy u8))]⟩ ⟨[],[0,5,6,7,8,9,10],fun(u7,u9)=>[],fun(u7,u9)=>[aen u0 u7,adP u0 u7,(3,some (.cells 36 [.own 100 false u9.length])),(4,none),(11,none),(99,some (aX 4 1 af u7)),(100,some (Cy u9))]⟩ (.a3 ((0:Int)<=(x1.length:Int)) ((1:Int)*(x1.length:Int)<=281474976710656) (((x1.length:Int):Int)<=9223372036854775807)<| .rg {an:=[(2, .arr (VY x1).length (aj af (VY x1)))],fr:=[(2,151)]} [0, .e (((x1.length:Int):Int)),1,2, .pf ⟨(VY x1).length=((x1.length:Int).toNat),dj⟩, .pf ⟨av ((x1.length:Int).toNat) 1 (fun _ j=>[.bool false].getD j .nilp) (aj af (VY x1)),gV _ _ _ _ _ (fun j hj=>(match j,hj with|0,_=>rfl))⟩]<| .im (.ra 4 152)<| .im (.re 3 0 11 153)<| .en () [] [(151,82),(152,99),(153,100)])
  (fun(u2,u8,u3)=> .r<| .lp (σ:=Int) (β:=Unit) (0) [] [] ⟨[0,1,2,3,5,13,14],[0,1,2,3,4,5,6,7,8,9,10,11,82,99,100],fun u1=>[(15,vI u1)],fun u1=>[]⟩ ⟨[],[0,1,2,3,4,5,6,7,8,9,10,11,99,100],fun _=>[],fun _=>[]⟩
  (fun u1=> .r<| .it (.a1 (k39 x1 u1)<| .rg {fr:=[(3,147)],fz:=[147]} []<| .a1 (U2 u3 u1)<| .rg {} [0, .t 0 u1 u3.length]<| .it (.r<| .e (.next (k13 u1)))
  (.cl 3 (iT [(0,99),(1,5),(2,6),(3,7),(4,8),(1,9),(2,10),(3,148),(4,149)] (FI (⟨x2,u4,u5,u6⟩:ah) (Yg u0 u2) (at' x1 u1.toNat))) fun r_=> .fk r_.2 (.rg {an:=[(3, .call [99,5,6,7,8,9,10] (.dV [.agg (aeB u0 r_),sB true]) [(99,some (aX 4 1 af u2)),Wz u0,WH u0,Vp u0,WJ u0,Vn u0,Va u0,(148,some (SH r_)),(149,none)])],fr:=[(7,150)]} [.m [1,0] [Fn Tryz.prog 103 (TA u0 x1 u2 x2 u4 u5 u6 u1) (Tn u0 u2) (TV.ren (swp [(0,99),(1,5),(2,6),(3,7),(4,8),(1,9),(2,10),(3,148),(4,149)]) (aej u0 r_)) (adY u0 u2 r_),r_.2=true] (Fn Tryz.prog 103 (TA u0 x1 u2 x2 u4 u5 u6 u1) (Tn u0 u2) (TV.ren (swp [(0,99),(1,5),(2,6),(3,7),(4,8),(1,9),(2,10),(3,148),(4,149)]) (.dV [.agg (VA u0 r_),sB true])) (tY (swp [(0,99),(1,5),(2,6),(3,7),(4,8),(1,9),(2,10),(3,148),(4,149)]) [(0,some (aX 4 1 af u2)),Oy u0,Ni u0,OA u0,OT u0,Oz u0,Oc u0,(7,bif true then some (SH r_)else none),(8,none)])) (fun⟨hy,hb2,_⟩=>(congrArg (fun bq=>Fn Tryz.prog 103 (TA u0 x1 u2 x2 u4 u5 u6 u1) (Tn u0 u2) (TV.ren (swp [(0,99),(1,5),(2,6),(3,7),(4,8),(1,9),(2,10),(3,148),(4,149)]) (.dV [.agg (VA u0 r_),sB bq])) (tY (swp [(0,99),(1,5),(2,6),(3,7),(4,8),(1,9),(2,10),(3,148),(4,149)]) [(0,some (aX 4 1 af u2)),Oy u0,Ni u0,OA u0,OT u0,Oz u0,Oc u0,(7,bif bq then some (SH r_)else none),(8,none)])) hb2).mp hy)]<| .r<| .t<| .a1 (U2 u3 u1)<| .rg {an:=[(5, .arr 0 (aj af (u3.set u1.toNat true)))]} [0, .t 0 u1 u3.length, .pf ⟨av u3.length 1 (fe (aj af u3) u1.toNat 0 [.bool true]) (aj af (u3.set u1.toNat true)),aQ _ _ _ _ _ _ _ _ rfl (fun j hj=>(match j,hj with|0,_=>rfl))⟩]<| .im (.ll 82 u3 (u3.set u1.toNat true))<| .cy 3 (rkY [(1,148),(2,5),(3,6),(4,7),(2,8),(3,9),(4,10),(4,99),(11,100),(12,151)] (zo u1 r_.1.ap u0.aw u0.ag u0.on_ u0.ae u0.am u0.al (Yg u0 u2) u8)) fun v1=> .r<| .f<| .en (.done (.ret (.next (r_.1.ap,v1.2,u3.set u1.toNat true)))) [] [(148,99),(151,100)])
  (.rg {an:=[(3, .call [99,5,6,7,8,9,10] (.dV [.agg (aeB u0 r_),sB false]) [(99,some (aX 4 1 af u2)),Wz u0,WH u0,Vp u0,WJ u0,Vn u0,Va u0,(148,none),(149,none)])],fr:=[(7,150)]} [.m [1,0] [Fn Tryz.prog 103 (TA u0 x1 u2 x2 u4 u5 u6 u1) (Tn u0 u2) (TV.ren (swp [(0,99),(1,5),(2,6),(3,7),(4,8),(1,9),(2,10),(3,148),(4,149)]) (aej u0 r_)) (adY u0 u2 r_),r_.2=false] (Fn Tryz.prog 103 (TA u0 x1 u2 x2 u4 u5 u6 u1) (Tn u0 u2) (TV.ren (swp [(0,99),(1,5),(2,6),(3,7),(4,8),(1,9),(2,10),(3,148),(4,149)]) (.dV [.agg (VA u0 r_),sB false])) (tY (swp [(0,99),(1,5),(2,6),(3,7),(4,8),(1,9),(2,10),(3,148),(4,149)]) [(0,some (aX 4 1 af u2)),Oy u0,Ni u0,OA u0,OT u0,Oz u0,Oc u0,(7,bif false then some (SH r_)else none),(8,none)])) (fun⟨hy,hb2,_⟩=>(congrArg (fun bq=>Fn Tryz.prog 103 (TA u0 x1 u2 x2 u4 u5 u6 u1) (Tn u0 u2) (TV.ren (swp [(0,99),(1,5),(2,6),(3,7),(4,8),(1,9),(2,10),(3,148),(4,149)]) (.dV [.agg (VA u0 r_),sB bq])) (tY (swp [(0,99),(1,5),(2,6),(3,7),(4,8),(1,9),(2,10),(3,148),(4,149)]) [(0,some (aX 4 1 af u2)),Oy u0,Ni u0,OA u0,OT u0,Oz u0,Oc u0,(7,bif bq then some (SH r_)else none),(8,none)])) hb2).mp hy)]<| .r<| .f<| .r<| .e (.next (k13 u1)))))
  (.e (.done (.brk ()))))
  (fun _=> .e (.done (.brk (u2,u8)))))
  (fun(u7,u9)=> .en (Yg u0 u7,Yg u0 u7,u9) [] [(99,12),(100,13)]))
theorem jW (a:List Int) (b:List Int):cu Tryz.prog 20 [sD (aN none 1 (aG .i64) a),sD (aN none 1 (aG .i64) b)] [] (fun r=>(vB r)) (fun _=>[]) (gI a b):=
  cZ tT mX Tryz.func20 (
  .r<| .r<| .it (.r<| .e false)
  (.r<| .lp (σ:=Int) (β:=Unit) (0) [] [] ⟨[0,1],[],fun i=>[(5,vI i)],fun i=>[]⟩ ⟨[],[],fun _=>[],fun _=>[]⟩
  (fun i=> .r<| .it (.a2 ((0:Int)<=i/\i<(a.length:Int)) ((0:Int)<=i/\i<(b.length:Int))<| .rg {} [0,1]<| .it (.r<| .e (.done (.ret false)))
  (.r<| .e (.next (k13 i))))
  (.e (.done (.brk ()))))
  (fun _=> .r<| .e true)))
theorem AY (s_:State):cu Tryz.prog 167 (k42 s_) [] (fun r=>(.v (.agg [.own 0 false r.ap.length,.own 1 false r.aw.length,.own 2 false r.ag.length,.own 3 false r.on_.length,.own 4 false r.ae.length,.own 5 false r.am.length,.own 6 false r.al.length]))) (fun r=>[(0,some (aX 4 1 af r.ap)),(1,some (aX 4 1 af r.aw)),(2,some (aX 4 1 af r.ag)),(3,some (aX 4 1 af r.on_)),(4,some (aX 4 1 af r.ae)),(5,some (aX 4 1 af r.am)),(6,some (aX 4 1 af r.al)),(7,none)]) (qN s_):=
  cZ tT mX Tryz.func167 (
  .rg {fr:=[(0,10),(1,11)]} []<| .rg {an:=[(7, .cells)],fr:=[(7,12)]} []<| .ul 11<| .r<| .t<| .a1 ((0:Int)<=0/\0<(7:Int))<| .r<| .cl 4 (iT [(0,13)] ⟨fun h=>aR s_.ap h⟩) fun r_=> .r<| .r<| .im (.dp [1,2,12,13,14])<| .r<| .t<| .a1 ((0:Int)<=1/\1<(7:Int))<| .r<| .cl 4 (iT [(0,14)] ⟨fun h=>aR s_.aw h⟩) fun u0=> .r<| .r<| .im (.dp [1,2,12,13,14])<| .r<| .t<| .a1 ((0:Int)<=2/\2<(7:Int))<| .r<| .cl 4 (iT [(0,15)] ⟨fun h=>aR s_.ag h⟩) fun u1=> .r<| .r<| .im (.dp [1,2,12,13,14])<| .r<| .t<| .a1 ((0:Int)<=3/\3<(7:Int))<| .r<| .cl 4 (iT [(0,16)] ⟨fun h=>aR s_.on_ h⟩) fun u2=> .r<| .r<| .im (.dp [1,2,12,13,14])<| .r<| .t<| .a1 ((0:Int)<=4/\4<(7:Int))<| .r<| .cl 4 (iT [(0,17)] ⟨fun h=>aR s_.ae h⟩) fun u3=> .r<| .r<| .im (.dp [1,2,12,13,14])<| .r<| .t<| .a1 ((0:Int)<=5/\5<(7:Int))<| .r<| .cl 4 (iT [(0,18)] ⟨fun h=>aR s_.am h⟩) fun u4=> .r<| .r<| .im (.dp [1,2,12,13,14])<| .r<| .t<| .a1 ((0:Int)<=6/\6<(7:Int))<| .r<| .cl 4 (iT [(0,19)] ⟨fun h=>aR s_.al h⟩) fun u5=> .r<| .r<| .im (.dp [1,2,12,13,14])<| .r<| .f<| .r<| .en (Ng r_ u0 u1 u2 u3 u4 u5) [] [(13,0),(14,1),(15,2),(16,3),(17,4),(18,5),(19,6),(11,7)])
end
end Sg
