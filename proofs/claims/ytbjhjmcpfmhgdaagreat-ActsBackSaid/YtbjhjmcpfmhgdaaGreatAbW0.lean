import Derived.Test.YtbjhjmcpfmhgdaaGreatAbGm
import Derived.Test.YtbjhjmcpfmhgdaaGreatProg
import Derived.Test.YtbjhjmcpfmhgdaaGreatAbLf
set_option linter.all false
namespace Sg
open Go Go.Proofs
set_option maxRecDepth 20000
noncomputable section
noncomputable def TT:List (Nat × TI):=[(3,⟨Tryz.t3.desc,Tryz.t3.size,Tryz.t3.bytes,zl Tryz.t3,false⟩),
  (4,⟨Tryz.t4.desc,Tryz.t4.size,Tryz.t4.bytes,zl Tryz.t4,false⟩),
  (5,⟨Tryz.t5.desc,Tryz.t5.size,Tryz.t5.bytes,zl Tryz.t5,false⟩),
  (9,⟨Tryz.t9.desc,Tryz.t9.size,Tryz.t9.bytes,zl Tryz.t9,false⟩),
  (22,⟨Tryz.t22.desc,Tryz.t22.size,Tryz.t22.bytes,zl Tryz.t22,false⟩),
  (23,⟨Tryz.t23.desc,Tryz.t23.size,Tryz.t23.bytes,zl Tryz.t23,false⟩),
  (24,⟨Tryz.t24.desc,Tryz.t24.size,Tryz.t24.bytes,zl Tryz.t24,false⟩),
  (26,⟨Tryz.t25.desc,Tryz.t26.size,Tryz.t26.bytes,zl Tryz.t26,false⟩),
  (27,⟨Tryz.t27.desc,Tryz.t27.size,Tryz.t27.bytes,zl Tryz.t27,false⟩),
  (29,⟨Tryz.t28.desc,Tryz.t29.size,Tryz.t29.bytes,zl Tryz.t29,false⟩),
  (32,⟨Tryz.t3.desc,Tryz.t32.size,Tryz.t32.bytes,zl Tryz.t32,false⟩),
  (33,⟨Tryz.t33.desc,Tryz.t33.size,Tryz.t33.bytes,zl Tryz.t33,false⟩),
  (35,⟨Tryz.t34.desc,Tryz.t35.size,Tryz.t35.bytes,zl Tryz.t35,false⟩),
  (36,⟨Tryz.t3.desc,Tryz.t36.size,Tryz.t36.bytes,zl Tryz.t36,false⟩),
  (38,⟨Tryz.t37.desc,Tryz.t38.size,Tryz.t38.bytes,zl Tryz.t38,true⟩),
  (39,⟨Tryz.t39.desc,Tryz.t39.size,Tryz.t39.bytes,zl Tryz.t39,false⟩),
  (40,⟨Tryz.t40.desc,Tryz.t40.size,Tryz.t40.bytes,zl Tryz.t40,false⟩),
  (42,⟨Tryz.t41.desc,Tryz.t42.size,Tryz.t42.bytes,zl Tryz.t42,false⟩),
  (43,⟨Tryz.t3.desc,Tryz.t43.size,Tryz.t43.bytes,zl Tryz.t43,false⟩),
  (45,⟨Tryz.t44.desc,Tryz.t45.size,Tryz.t45.bytes,zl Tryz.t45,true⟩),
  (47,⟨Tryz.t41.desc,Tryz.t47.size,Tryz.t47.bytes,zl Tryz.t47,false⟩),
  (49,⟨Tryz.t3.desc,Tryz.t49.size,Tryz.t49.bytes,zl Tryz.t49,false⟩),
  (76,⟨Tryz.t3.desc,Tryz.t76.size,Tryz.t76.bytes,zl Tryz.t76,false⟩),
  (78,⟨Tryz.t77.desc,Tryz.t78.size,Tryz.t78.bytes,zl Tryz.t78,true⟩),
  (99,⟨Tryz.t99.desc,Tryz.t99.size,Tryz.t99.bytes,zl Tryz.t99,false⟩),
  (101,⟨Tryz.t101.desc,Tryz.t101.size,Tryz.t101.bytes,zl Tryz.t101,false⟩),
  (104,⟨Tryz.t104.desc,Tryz.t104.size,Tryz.t104.bytes,zl Tryz.t104,false⟩),
  (108,⟨Tryz.t107.desc,Tryz.t108.size,Tryz.t108.bytes,zl Tryz.t108,true⟩),
  (111,⟨Tryz.t110.desc,Tryz.t111.size,Tryz.t111.bytes,zl Tryz.t111,true⟩),
  (121,⟨Tryz.t121.desc,Tryz.t121.size,Tryz.t121.bytes,zl Tryz.t121,false⟩),
  (125,⟨Tryz.t125.desc,Tryz.t125.size,Tryz.t125.bytes,zl Tryz.t125,false⟩),
  (129,⟨Tryz.t128.desc,Tryz.t129.size,Tryz.t129.bytes,zl Tryz.t129,true⟩),
  (130,⟨Tryz.t130.desc,Tryz.t130.size,Tryz.t130.bytes,zl Tryz.t130,false⟩),
  (133,⟨Tryz.t133.desc,Tryz.t133.size,Tryz.t133.bytes,zl Tryz.t133,true⟩),
  (137,⟨Tryz.t107.desc,Tryz.t137.size,Tryz.t137.bytes,zl Tryz.t137,true⟩),
  (138,⟨Tryz.t3.desc,Tryz.t138.size,Tryz.t138.bytes,zl Tryz.t138,false⟩),
  (140,⟨Tryz.t139.desc,Tryz.t140.size,Tryz.t140.bytes,zl Tryz.t140,true⟩),
  (141,⟨Tryz.t141.desc,Tryz.t141.size,Tryz.t141.bytes,zl Tryz.t141,false⟩),
  (143,⟨Tryz.t142.desc,Tryz.t143.size,Tryz.t143.bytes,zl Tryz.t143,false⟩),
  (145,⟨Tryz.t145.desc,Tryz.t145.size,Tryz.t145.bytes,zl Tryz.t145,true⟩),
  (147,⟨Tryz.t146.desc,Tryz.t147.size,Tryz.t147.bytes,zl Tryz.t147,true⟩),
  (155,⟨Tryz.t155.desc,Tryz.t155.size,Tryz.t155.bytes,zl Tryz.t155,false⟩),
  (221,⟨Tryz.t220.desc,Tryz.t221.size,Tryz.t221.bytes,zl Tryz.t221,false⟩),
  (229,⟨Tryz.t229.desc,Tryz.t229.size,Tryz.t229.bytes,zl Tryz.t229,false⟩),
  (231,⟨Tryz.t231.desc,Tryz.t231.size,Tryz.t231.bytes,zl Tryz.t231,false⟩),
  (232,⟨Tryz.t232.desc,Tryz.t232.size,Tryz.t232.bytes,zl Tryz.t232,false⟩),
  (242,⟨Tryz.t242.desc,Tryz.t242.size,Tryz.t242.bytes,zl Tryz.t242,false⟩),
  (244,⟨Tryz.t243.desc,Tryz.t244.size,Tryz.t244.bytes,zl Tryz.t244,false⟩),
  (245,⟨Tryz.t245.desc,Tryz.t245.size,Tryz.t245.bytes,zl Tryz.t245,false⟩),
  (247,⟨Tryz.t247.desc,Tryz.t247.size,Tryz.t247.bytes,zl Tryz.t247,false⟩),
  (248,⟨Tryz.t248.desc,Tryz.t248.size,Tryz.t248.bytes,zl Tryz.t248,false⟩),
  (272,⟨Tryz.t272.desc,Tryz.t272.size,Tryz.t272.bytes,zl Tryz.t272,false⟩),
  (282,⟨Tryz.t281.desc,Tryz.t282.size,Tryz.t282.bytes,zl Tryz.t282,true⟩),
  (284,⟨Tryz.t284.desc,Tryz.t284.size,Tryz.t284.bytes,zl Tryz.t284,false⟩),
  (287,⟨Tryz.t286.desc,Tryz.t287.size,Tryz.t287.bytes,zl Tryz.t287,false⟩),
  (290,⟨Tryz.t290.desc,Tryz.t290.size,Tryz.t290.bytes,zl Tryz.t290,false⟩),
  (293,⟨Tryz.t293.desc,Tryz.t293.size,Tryz.t293.bytes,zl Tryz.t293,false⟩),
  (296,⟨Tryz.t296.desc,Tryz.t296.size,Tryz.t296.bytes,zl Tryz.t296,false⟩),
  (303,⟨Tryz.t303.desc,Tryz.t303.size,Tryz.t303.bytes,zl Tryz.t303,false⟩),
  (305,⟨Tryz.t304.desc,Tryz.t305.size,Tryz.t305.bytes,zl Tryz.t305,false⟩),
  (306,⟨Tryz.t306.desc,Tryz.t306.size,Tryz.t306.bytes,zl Tryz.t306,false⟩),
  (313,⟨Tryz.t313.desc,Tryz.t313.size,Tryz.t313.bytes,zl Tryz.t313,false⟩),
  (329,⟨Tryz.t329.desc,Tryz.t329.size,Tryz.t329.bytes,zl Tryz.t329,false⟩),
  (331,⟨Tryz.t331.desc,Tryz.t331.size,Tryz.t331.bytes,zl Tryz.t331,false⟩),
  (337,⟨Tryz.t336.desc,Tryz.t337.size,Tryz.t337.bytes,zl Tryz.t337,false⟩)]
theorem tT:lY Tryz.prog TT:=⟨dQ (by kernel_rfl) (by kernel_rfl) (by kernel_rfl),⟨fD,bK (by kernel_rfl)⟩,dQ (by kernel_rfl) (by kernel_rfl) (by kernel_rfl),⟨fD,bK (by kernel_rfl)⟩,dQ (by kernel_rfl) (by kernel_rfl) (by kernel_rfl),⟨fD,bK (by kernel_rfl)⟩,dQ (by kernel_rfl) (by kernel_rfl) (by kernel_rfl),⟨fD,bK (by kernel_rfl)⟩,dQ (by kernel_rfl) (by kernel_rfl) (by kernel_rfl),⟨fD,bK (by kernel_rfl)⟩,dQ (by kernel_rfl) (by kernel_rfl) (by kernel_rfl),⟨fD,bK (by kernel_rfl)⟩,dQ (by kernel_rfl) (by kernel_rfl) (by kernel_rfl),⟨fD,bK (by kernel_rfl)⟩,dQ (by kernel_rfl) (by kernel_rfl) (by kernel_rfl),⟨fD,bK (by kernel_rfl)⟩,dQ (by kernel_rfl) (by kernel_rfl) (by kernel_rfl),⟨fD,bK (by kernel_rfl)⟩,dQ (by kernel_rfl) (by kernel_rfl) (by kernel_rfl),⟨fD,bK (by kernel_rfl)⟩,dQ (by kernel_rfl) (by kernel_rfl) (by kernel_rfl),⟨fD,bK (by kernel_rfl)⟩,dQ (by kernel_rfl) (by kernel_rfl) (by kernel_rfl),⟨fD,bK (by kernel_rfl)⟩,dQ (by kernel_rfl) (by kernel_rfl) (by kernel_rfl),⟨fD,bK (by kernel_rfl)⟩,dQ (by kernel_rfl) (by kernel_rfl) (by kernel_rfl),⟨fD,bK (by kernel_rfl)⟩,dQ (by kernel_rfl) (by kernel_rfl) (by kernel_rfl),⟨fun _=> ⟨by kernel_rfl,by kernel_rfl⟩,bK (by kernel_rfl)⟩,dQ (by kernel_rfl) (by kernel_rfl) (by kernel_rfl),⟨fD,bK (by kernel_rfl)⟩,dQ (by kernel_rfl) (by kernel_rfl) (by kernel_rfl),⟨fD,bK (by kernel_rfl)⟩,dQ (by kernel_rfl) (by kernel_rfl) (by kernel_rfl),⟨fD,bK (by kernel_rfl)⟩,dQ (by kernel_rfl) (by kernel_rfl) (by kernel_rfl),⟨fD,bK (by kernel_rfl)⟩,dQ (by kernel_rfl) (by kernel_rfl) (by kernel_rfl),⟨fun _=> ⟨by kernel_rfl,by kernel_rfl⟩,bK (by kernel_rfl)⟩,dQ (by kernel_rfl) (by kernel_rfl) (by kernel_rfl),⟨fD,bK (by kernel_rfl)⟩,dQ (by kernel_rfl) (by kernel_rfl) (by kernel_rfl),⟨fD,bK (by kernel_rfl)⟩,dQ (by kernel_rfl) (by kernel_rfl) (by kernel_rfl),⟨fD,bK (by kernel_rfl)⟩,dQ (by kernel_rfl) (by kernel_rfl) (by kernel_rfl),⟨fun _=> ⟨by kernel_rfl,by kernel_rfl⟩,bK (by kernel_rfl)⟩,dQ (by kernel_rfl) (by kernel_rfl) (by kernel_rfl),⟨fD,bK (by kernel_rfl)⟩,dQ (by kernel_rfl) (by kernel_rfl) (by kernel_rfl),⟨fD,bK (by kernel_rfl)⟩,dQ (by kernel_rfl) (by kernel_rfl) (by kernel_rfl),⟨fD,bK (by kernel_rfl)⟩,dQ (by kernel_rfl) (by kernel_rfl) (by kernel_rfl),⟨fun _=> ⟨by kernel_rfl,by kernel_rfl⟩,bK (by kernel_rfl)⟩,dQ (by kernel_rfl) (by kernel_rfl) (by kernel_rfl),⟨fun _=> ⟨by kernel_rfl,by kernel_rfl⟩,bK (by kernel_rfl)⟩,dQ (by kernel_rfl) (by kernel_rfl) (by kernel_rfl),⟨fD,bK (by kernel_rfl)⟩,dQ (by kernel_rfl) (by kernel_rfl) (by kernel_rfl),⟨fD,bK (by kernel_rfl)⟩,dQ (by kernel_rfl) (by kernel_rfl) (by kernel_rfl),⟨fun _=> ⟨by kernel_rfl,by kernel_rfl⟩,bK (by kernel_rfl)⟩,dQ (by kernel_rfl) (by kernel_rfl) (by kernel_rfl),⟨fD,bK (by kernel_rfl)⟩,dQ (by kernel_rfl) (by kernel_rfl) (by kernel_rfl),⟨fun _=> ⟨by kernel_rfl,by kernel_rfl⟩,bK (by kernel_rfl)⟩,dQ (by kernel_rfl) (by kernel_rfl) (by kernel_rfl),⟨fun _=> ⟨by kernel_rfl,by kernel_rfl⟩,bK (by kernel_rfl)⟩,dQ (by kernel_rfl) (by kernel_rfl) (by kernel_rfl),⟨fD,bK (by kernel_rfl)⟩,dQ (by kernel_rfl) (by kernel_rfl) (by kernel_rfl),⟨fun _=> ⟨by kernel_rfl,by kernel_rfl⟩,bK (by kernel_rfl)⟩,dQ (by kernel_rfl) (by kernel_rfl) (by kernel_rfl),⟨fD,bK (by kernel_rfl)⟩,dQ (by kernel_rfl) (by kernel_rfl) (by kernel_rfl),⟨fD,bK (by kernel_rfl)⟩,dQ (by kernel_rfl) (by kernel_rfl) (by kernel_rfl),⟨fun _=> ⟨by kernel_rfl,by kernel_rfl⟩,bK (by kernel_rfl)⟩,dQ (by kernel_rfl) (by kernel_rfl) (by kernel_rfl),⟨fun _=> ⟨by kernel_rfl,by kernel_rfl⟩,bK (by kernel_rfl)⟩,dQ (by kernel_rfl) (by kernel_rfl) (by kernel_rfl),⟨fD,bK (by kernel_rfl)⟩,dQ (by kernel_rfl) (by kernel_rfl) (by kernel_rfl),⟨fD,bK (by kernel_rfl)⟩,dQ (by kernel_rfl) (by kernel_rfl) (by kernel_rfl),⟨fD,bK (by kernel_rfl)⟩,dQ (by kernel_rfl) (by kernel_rfl) (by kernel_rfl),⟨fD,bK (by kernel_rfl)⟩,dQ (by kernel_rfl) (by kernel_rfl) (by kernel_rfl),⟨fD,bK (by kernel_rfl)⟩,dQ (by kernel_rfl) (by kernel_rfl) (by kernel_rfl),⟨fD,bK (by kernel_rfl)⟩,dQ (by kernel_rfl) (by kernel_rfl) (by kernel_rfl),⟨fD,bK (by kernel_rfl)⟩,dQ (by kernel_rfl) (by kernel_rfl) (by kernel_rfl),⟨fD,bK (by kernel_rfl)⟩,dQ (by kernel_rfl) (by kernel_rfl) (by kernel_rfl),⟨fD,bK (by kernel_rfl)⟩,dQ (by kernel_rfl) (by kernel_rfl) (by kernel_rfl),⟨fD,bK (by kernel_rfl)⟩,dQ (by kernel_rfl) (by kernel_rfl) (by kernel_rfl),⟨fD,bK (by kernel_rfl)⟩,dQ (by kernel_rfl) (by kernel_rfl) (by kernel_rfl),⟨fun _=> ⟨by kernel_rfl,by kernel_rfl⟩,bK (by kernel_rfl)⟩,dQ (by kernel_rfl) (by kernel_rfl) (by kernel_rfl),⟨fD,bK (by kernel_rfl)⟩,dQ (by kernel_rfl) (by kernel_rfl) (by kernel_rfl),⟨fD,bK (by kernel_rfl)⟩,dQ (by kernel_rfl) (by kernel_rfl) (by kernel_rfl),⟨fD,bK (by kernel_rfl)⟩,dQ (by kernel_rfl) (by kernel_rfl) (by kernel_rfl),⟨fD,bK (by kernel_rfl)⟩,dQ (by kernel_rfl) (by kernel_rfl) (by kernel_rfl),⟨fD,bK (by kernel_rfl)⟩,dQ (by kernel_rfl) (by kernel_rfl) (by kernel_rfl),⟨fD,bK (by kernel_rfl)⟩,dQ (by kernel_rfl) (by kernel_rfl) (by kernel_rfl),⟨fD,bK (by kernel_rfl)⟩,dQ (by kernel_rfl) (by kernel_rfl) (by kernel_rfl),⟨fD,bK (by kernel_rfl)⟩,dQ (by kernel_rfl) (by kernel_rfl) (by kernel_rfl),⟨fD,bK (by kernel_rfl)⟩,dQ (by kernel_rfl) (by kernel_rfl) (by kernel_rfl),⟨fD,bK (by kernel_rfl)⟩,dQ (by kernel_rfl) (by kernel_rfl) (by kernel_rfl),⟨fD,bK (by kernel_rfl)⟩,dQ (by kernel_rfl) (by kernel_rfl) (by kernel_rfl),⟨fD,bK (by kernel_rfl)⟩,trivial⟩
theorem mX:Tryz.prog.follows .mixedOrders=true:=by kernel_rfl
def Ht:Go.Shelf.Ren:=⟨fun|6=>207|14=>261|15=>176|20=>288|21=>289|22=>290|23=>291|24=>292|25=>293|26=>294|27=>295|28=>241|29=>242|46=>299|47=>277|48=>278|49=>300|50=>301|57=>302|n=>n,fun|0=>0|3=>3|4=>4|5=>5|9=>9|22=>155|24=>145|25=>301|39=>272|45=>321|46=>322|50=>326|53=>329|55=>331|66=>357|70=>361|76=>374|77=>375|n=>n,fun n=>n⟩
theorem Ot:Go.Proofs.SlLaysF0.n6 Tryz.prog Ht:=⟨by kernel_rfl,⟨Tryz.f207.name,by kernel_rfl,Tryz.func207.trans (congrArg some (by kernel_rfl))⟩,⟨Tryz.f261.name,by kernel_rfl,Tryz.func261.trans (congrArg some (by kernel_rfl))⟩,Tryz.func176.trans (congrArg some (by kernel_rfl)),⟨Tryz.f288.name,by kernel_rfl,Tryz.func288.trans (congrArg some (by kernel_rfl))⟩,⟨Tryz.f289.name,by kernel_rfl,Tryz.func289.trans (congrArg some (by kernel_rfl))⟩,⟨Tryz.f290.name,by kernel_rfl,Tryz.func290.trans (congrArg some (by kernel_rfl))⟩,⟨Tryz.f291.name,by kernel_rfl,Tryz.func291.trans (congrArg some (by kernel_rfl))⟩,⟨Tryz.f292.name,by kernel_rfl,Tryz.func292.trans (congrArg some (by kernel_rfl))⟩,⟨Tryz.f293.name,by kernel_rfl,Tryz.func293.trans (congrArg some (by kernel_rfl))⟩,⟨Tryz.f294.name,by kernel_rfl,Tryz.func294.trans (congrArg some (by kernel_rfl))⟩,⟨Tryz.f295.name,by kernel_rfl,Tryz.func295.trans (congrArg some (by kernel_rfl))⟩,Tryz.func241.trans (congrArg some (by kernel_rfl)),Tryz.func242.trans (congrArg some (by kernel_rfl)),⟨Tryz.f299.name,by kernel_rfl,Tryz.func299.trans (congrArg some (by kernel_rfl))⟩,Tryz.func277.trans (congrArg some (by kernel_rfl)),Tryz.func278.trans (congrArg some (by kernel_rfl)),⟨Tryz.f300.name,by kernel_rfl,Tryz.func300.trans (congrArg some (by kernel_rfl))⟩,⟨Tryz.f301.name,by kernel_rfl,Tryz.func301.trans (congrArg some (by kernel_rfl))⟩,⟨Tryz.f302.name,by kernel_rfl,Tryz.func302.trans (congrArg some (by kernel_rfl))⟩,Tryz.underlying0,Tryz.isAgg0,Tryz.sizeOf0,Tryz.zeroValue0,Tryz.underlying3,Tryz.isAgg3,Tryz.sizeOf3,Tryz.zeroValue3,Tryz.underlying4,Tryz.isAgg4,Tryz.sizeOf4,Tryz.zeroValue4,Tryz.underlying5,Tryz.isAgg5,Tryz.sizeOf5,Tryz.zeroValue5,Tryz.underlying9,Tryz.isAgg9,Tryz.sizeOf9,Tryz.zeroValue9,Tryz.underlying155,Tryz.isAgg155,Tryz.sizeOf155,Tryz.zeroValue155,Tryz.underlying301,Tryz.isAgg301,Tryz.sizeOf301,Tryz.zeroValue301,Tryz.underlying272,Tryz.isAgg272,Tryz.sizeOf272,Tryz.zeroValue272,Tryz.underlying321,Tryz.isAgg321,Tryz.sizeOf321,Tryz.zeroValue321,Tryz.underlying322,Tryz.isAgg322,Tryz.sizeOf322,Tryz.zeroValue322,Tryz.underlying326,Tryz.isAgg326,Tryz.sizeOf326,Tryz.zeroValue326,Tryz.underlying329,Tryz.isAgg329,Tryz.sizeOf329,Tryz.zeroValue329,Tryz.underlying331,Tryz.isAgg331,Tryz.sizeOf331,Tryz.zeroValue331,Tryz.underlying357,Tryz.isAgg357,Tryz.sizeOf357,Tryz.zeroValue357,Tryz.underlying361,Tryz.isAgg361,Tryz.sizeOf361,Tryz.zeroValue361,Tryz.underlying374,Tryz.isAgg374,Tryz.sizeOf374,Tryz.zeroValue374,Tryz.underlying375,Tryz.isAgg375,Tryz.sizeOf375,Tryz.zeroValue375⟩
theorem R4 (w:World):(isAgg (Ht.t 24)).run Tryz.prog w= .ok true w:=Tryz.isAgg145 w
theorem Pt (w:World):(Go.sizeOf (Ht.t 24)).run Tryz.prog w= .ok 2 w:=Tryz.sizeOf145 w
section
variable (i:Int)
abbrev k0:=(IntKind.wrap .i64 (i+1))
end
theorem dL (a:(List Bool)) (b:(List Bool)):dK Tryz.prog 73 [(sD (aA none 1 af a)),(sD (aA none 1 af b))] [] (fun r=>(vB r)) (fun _=>[]) (di a b):=
  dS tT mX Tryz.func73 (
  .r<| .r<| .it (.r<| .e false)
  (.r<| .lp (σ:=Int) (β:=Unit) (0) [] [] ⟨[0,1],[],fun i=>[(5,(vI i))],fun i=>[]⟩ ⟨[],[],fun _=>[],fun _=>[]⟩
  (fun i=> .r<| .it (.a2 ((0:Int)≤i∧i<(a.length:Int)) ((0:Int)≤i∧i<(b.length:Int))<| .rg {} [0,1]<| .it (.r<| .e (.done (.ret false)))
  (.r<| .e (.next (k0 i))))
  (.e (.done (.brk ()))))
  (fun _=> .r<| .e true)))
section
variable (a:State) (r_:Bool) (u0:Bool) (u1:Bool) (u2:Bool) (u3:Bool) (u4:Bool)
abbrev k1:List CV:=[(.d (aA none 1 af a.closed)),(.d (aA none 1 af a.locked)),(.d (aA none 1 af a.badLink)),(.d (aA none 1 af a.on_)),(.d (aA none 1 af a.badSource)),(.d (aA none 1 af a.earthed)),(.d (aA none 1 af a.badBus))]
abbrev k2:=((bif (bif r_ then u0 else false)then u1 else false),true)
abbrev k3:=(bif (bif (bif r_ then u0 else false)then u1 else false)then u2 else false)
abbrev k4:=(bif (k3 r_ u0 u1 u2)then u3 else false)
abbrev k5:=(bif (k4 r_ u0 u1 u2 u3)then u4 else false)
end
theorem qz (a:State) (b:State):dK Tryz.prog 17 [(.agg (k1 a)),(.agg (k1 b))] [] (fun r=>(vB r)) (fun _=>[]) (gV a b):=
  dS tT mX Tryz.func17 (
  .rg {fr:=[(0,2),(1,3)],fz:=[2,3]} []<| .cl 4 (dL a.closed b.closed) fun r_=> .cg 10 [(r_,true)] (dL a.locked b.locked) fun u0=> .cg 17 [((bif r_ then u0 else false),true)] (dL a.badLink b.badLink) fun u1=> .cg 24 [(k2 r_ u0 u1)] (dL a.on_ b.on_) fun u2=> .cg 31 [((k3 r_ u0 u1 u2),true)] (dL a.badSource b.badSource) fun u3=> .cg 38 [((k4 r_ u0 u1 u2 u3),true)] (dL a.earthed b.earthed) fun u4=> .cg 45 [((k5 r_ u0 u1 u2 u3 u4),true)] (dL a.badBus b.badBus) fun u5=> .r<| .e (bif (k5 r_ u0 u1 u2 u3 u4)then u5 else false))
section
variable (p:av) (t:Task)
abbrev k6:List CV:=[(cI p.buses),(.d (aA none 5 Source.cell p.sources)),(.d (aA none 6 Link.cell p.links)),(.d (aA none 4 aJ.cell p.racks))]
abbrev k7:List CV:=[(.d (aA none 1 (aT .i64) t.fed)),(.d (aA none 1 (aT .i64) t.crew)),(.d (aA none 2 aj.cell t.allowed)),(.d (aA none 2 aj.cell t.goal))]
end
theorem Dx (p:av) (t:Task) (l:(List Item)):dK Tryz.prog 39 [(.agg (k6 p)),(.agg (k7 t)),(sD (aA none 3 Item.cell l))] [] (fun r=>(vB r)) (fun _=>[]) (oJ p t l):=
  dS tT mX Tryz.func39 (
  .rg {fr:=[(0,2),(1,3)],fz:=[2,3]} []<| .r<| .e (bif (bif (bif (bif (bif (bif (bif (decide (60<(p.sources.length:Int)))then true else(decide (60<(p.links.length:Int))))then true else(decide (60<(p.racks.length:Int))))then true else(decide (60<(t.fed.length:Int))))then true else(decide (60<(t.crew.length:Int))))then true else(decide (60<(t.allowed.length:Int))))then true else(decide (60<(t.goal.length:Int))))then true else(decide (70<(l.length:Int)))))
theorem aI (n:Int) (u0:Int) (u1:Int):dK Tryz.prog 198 [(sI n),(sI u0),(sI u1)] [] (fun r=>(vB r)) (fun _=>[]) (aS n u0 u1):=
  dS tT mX Tryz.func198 (
  .r<| .r<| .e (bif (decide (u0≤n))then(decide (n≤u1))else false))
section
variable (p:av)
abbrev k8:List SV:=[(.agg (k6 p))]
end
theorem A9 (p:av):dK Tryz.prog 200 (k8 p) [] (fun r=>(vD (.fn 253 1 (bn [(wC [(.int .i64 r.1),(aA none 5 Source.cell r.2.1),(aA none 6 Link.cell r.2.2.1),(aA none 4 aJ.cell r.2.2.2)] 0)])))) (fun _=>[]) (qO p):=
  dS tT mX Tryz.func200 (
  .rg {fr:=[(0,1)],fz:=[1]} []<| .r<| .e (p.buses,p.sources,p.links,p.racks))
theorem Cu (p:av):dK Tryz.prog 202 (k8 p) [] (fun r=>(vD (.fn 256 1 (bn [(wC [(.int .i64 r.1),(aA none 5 Source.cell r.2.1),(aA none 6 Link.cell r.2.2.1),(aA none 4 aJ.cell r.2.2.2)] 0)])))) (fun _=>[]) (uQ p):=
  dS tT mX Tryz.func202 (
  .rg {fr:=[(0,1)],fz:=[1]} []<| .r<| .e (p.buses,p.sources,p.links,p.racks))
theorem CU (p:av):dK Tryz.prog 204 (k8 p) [] (fun r=>(vD (.fn 259 1 (bn [(wC [(.int .i64 r.1),(aA none 5 Source.cell r.2.1),(aA none 6 Link.cell r.2.2.1),(aA none 4 aJ.cell r.2.2.2)] 0)])))) (fun _=>[]) (vQ p):=
  dS tT mX Tryz.func204 (
  .rg {fr:=[(0,1)],fz:=[1]} []<| .r<| .e (p.buses,p.sources,p.links,p.racks))
section
variable (x1:Int) (u2:(List Source)) (u3:(List Link)) (u4:(List aJ))
abbrev k9:DV:=(wC [(.int .i64 x1),(aA none 5 Source.cell u2),(aA none 6 Link.cell u3),(aA none 4 aJ.cell u4)] 0)
abbrev k10:=(IntKind.wrap .i64 (x1 - 1))
end
theorem yN (x:Source) (x1:Int) (u2:(List Source)) (u3:(List Link)) (u4:(List aJ)):dK Tryz.prog 253 [(.agg [(cI x.bus),(cI x.kind),(cI x.power),(cI x.sync),(cI x.ohm)]),(sD (k9 x1 u2 u3 u4))] [] (fun r=>(vB r)) (fun _=>[]) (kN x x1 u2 u3 u4):=
  dS tT mX Tryz.func253 (
  .rg {fr:=[(0,1)],fz:=[1]} []<| .cl 5 (aI x.bus 0 (k10 x1)) fun r_=> .cg 9 [(r_,true)] (aI x.kind 1 3) fun u0=> .cg 14 [((bif r_ then u0 else false),true)] (aI x.power 1 100000) fun u1=> .cg 19 [(k2 r_ u0 u1)] (aI x.sync 0 8) fun u5=> .cg 24 [((k3 r_ u0 u1 u5),true)] (aI x.ohm 10 100000) fun u6=> .r<| .e (k4 r_ u0 u1 u5 u6))
section
variable (x1:Int) (u0:(List Source)) (u1:(List Link)) (u2:(List aJ))
abbrev k12:=(bn [(k9 x1 u0 u1 u2)])
abbrev k11:DV:=(wC [(.fn 253 1 (k12 x1 u0 u1 u2))] 0)
end
theorem Ba (x:Source) (x1:Int) (u0:(List Source)) (u1:(List Link)) (u2:(List aJ)):dK Tryz.prog 252 [(.agg [(cI x.bus),(cI x.kind),(cI x.power),(cI x.sync),(cI x.ohm)]),(sD (k11 x1 u0 u1 u2))] [] (fun r=>(vB r)) (fun _=>[]) (qN x x1 u0 u1 u2):=
  dS tT mX Tryz.func252 (
  .rg {fr:=[(0,1)],fz:=[1]} []<| .cl 2 (yN x x1 u0 u1 u2) fun r_=> .r<| .e (!r_))
section
variable (s_:(List Source)) (f_:Int) (u0:(List Source)) (u1:(List Link)) (u2:(List aJ))
abbrev k13:List SV:=[(sD (aA none 5 Source.cell s_)),(sD (.fn 252 1 (bn [(k11 f_ u0 u1 u2)])))]
end
theorem wR (s_:(List Source)) (f_:Int) (u0:(List Source)) (u1:(List Link)) (u2:(List aJ)):dK Tryz.prog 285 (k13 s_ f_ u0 u1 u2) [] (fun r=>(vI r)) (fun _=>[]) (lU s_ f_ u0 u1 u2):=
  dS tT mX Tryz.func285 (
  .r<| .r<| .lp (σ:=Int) (β:=Unit) (0) [] [] ⟨[0,1,7],[],fun t8=>[(8,(vI t8))],fun t8=>[]⟩ ⟨[],[],fun _=>[],fun _=>[]⟩
  (fun t8=> .r<| .it (.r<| .cl 5 (Ba (at' s_ t8.toNat) f_ u0 u1 u2) fun r_=> .a1 ((0:Int)≤t8∧t8<(s_.length:Int))<| .rg {} [0,1]<| .it (.r<| .e (.done (.ret t8)))
  (.r<| .e (.next (k0 t8))))
  (.e (.done (.brk ()))))
  (fun _=> .r<| .e (-1)))
theorem sN (s_:(List Source)) (f_:Int) (u0:(List Source)) (u1:(List Link)) (u2:(List aJ)):dK Tryz.prog 251 (k13 s_ f_ u0 u1 u2) [] (fun r=>(vB r)) (fun _=>[]) (gL s_ f_ u0 u1 u2):=
  dS tT mX Tryz.func251 (
  .r<| .cl 2 (wR s_ f_ u0 u1 u2) fun r_=> .r<| .e (decide (0≤r_)))
theorem Cx (l:(List Source)) (u0:Int) (u1:Int) (u2:(List Source)) (u3:(List Link)) (u4:(List aJ)):dK Tryz.prog 199 [(sD (aA none 5 Source.cell l)),(sI u0),(sD (.fn 253 1 (k12 u1 u2 u3 u4)))] [] (fun r=>(vB r)) (fun _=>[]) (p8 l u0 u1 u2 u3 u4):=
  dS tT mX Tryz.func199 (
  .rg {fr:=[(0,1)],fz:=[1]} []<| .cg 7 [((decide ((l.length:Int)≤u0)),true)] (sN l u1 u2 u3 u4) fun r_=> .r<| .e (bif (decide ((l.length:Int)≤u0))then(!r_)else false))
section
variable (x:Link)
abbrev k14:List CV:=[(cI x.a),(cI x.b),(cI x.kind),(cI x.most),(cI x.ohm),(.d (aA none 2 dJ.cell x.trip))]
end
theorem AX (x:Link) (x1:Int) (u3:(List Source)) (u4:(List Link)) (u5:(List aJ)):dK Tryz.prog 256 [(.agg (k14 x)),(sD (k9 x1 u3 u4 u5))] [] (fun r=>(vB r)) (fun _=>[]) (nD x x1 u3 u4 u5):=
  dS tT mX Tryz.func256 (
  .rg {fr:=[(0,5)]} []<| .cl 5 (aI x.a 0 (k10 x1)) fun r_=> .cg 13 [((!r_),false)] (aI x.b 0 (k10 x1)) fun u1=> .cg 26 [((bif (bif (!r_)then true else(!u1))then true else(decide (x.a=x.b))),false)] (aI x.kind 1 3) fun u6=> .cg 32 [((bif (bif (bif (!r_)then true else(!u1))then true else(decide (x.a=x.b)))then true else(!u6)),false)] (aI x.most 1 100000) fun u8=> .cg 38 [((bif (bif (bif (bif (!r_)then true else(!u1))then true else(decide (x.a=x.b)))then true else(!u6))then true else(!u8)),false)] (aI x.ohm 10 100000) fun u9=> .r<| .it (.r<| .e false)
  (.rg {fz:=[5]} []<| .lp (σ:=Int) (β:=Unit) (0) [] [] ⟨[2,48,49],[],fun u0=>[(50,(vI u0))],fun u0=>[]⟩ ⟨[2],[],fun _=>[],fun _=>[]⟩
  (fun u0=> .r<| .it (.a1 ((0:Int)≤u0∧u0<(x.trip.length:Int))<| .rg {fr:=[(3,9)],fz:=[9]} []<| .cl 2 (aI ((at' x.trip u0.toNat).amps) 1 1000000) fun u2=> .cg 7 [((!u2),false)] (aI ((at' x.trip u0.toNat).millis) 1 100000) fun u7=> .a2 ((gB [((decide (0<u0)),true),((bif (!u2)then true else(!u7)),false)]=true→(0:Int)≤(k10 u0)∧(k10 u0)<(x.trip.length:Int))) ((gB [((decide (((at' x.trip u0.toNat).amps)≤((at' x.trip ((k10 u0).toNat)).amps))),false),((decide (0<u0)),true),((bif (!u2)then true else(!u7)),false)]=true→(0:Int)≤(k10 u0)∧(k10 u0)<(x.trip.length:Int)))<| .rg {} [3,2,0,1]<| .it (.r<| .e (.done (.ret false)))
  (.r<| .e (.next (k0 u0))))
  (.e (.done (.brk ()))))
  (fun _=> .r<| .e (bif (decide ((x.trip.length:Int)≤6))then(bif (decide ((x.trip.length:Int)=0))then true else(decide (x.kind=3)))else false))))
section
variable (x1:Int) (u0:(List Source)) (u1:(List Link)) (u2:(List aJ))
abbrev k15:DV:=(wC [(.fn 256 1 (k12 x1 u0 u1 u2))] 0)
end
theorem xN (x:Link) (x1:Int) (u0:(List Source)) (u1:(List Link)) (u2:(List aJ)):dK Tryz.prog 255 [(.agg (k14 x)),(sD (k15 x1 u0 u1 u2))] [] (fun r=>(vB r)) (fun _=>[]) (mK x x1 u0 u1 u2):=
  dS tT mX Tryz.func255 (
  .rg {fr:=[(0,1)],fz:=[1]} []<| .cl 2 (AX x x1 u0 u1 u2) fun r_=> .r<| .e (!r_))
section
variable (s_:(List Link)) (f_:Int) (u0:(List Source)) (u1:(List Link)) (u2:(List aJ))
abbrev k16:List SV:=[(sD (aA none 6 Link.cell s_)),(sD (.fn 255 1 (bn [(k15 f_ u0 u1 u2)])))]
end
theorem sO (s_:(List Link)) (f_:Int) (u0:(List Source)) (u1:(List Link)) (u2:(List aJ)):dK Tryz.prog 286 (k16 s_ f_ u0 u1 u2) [] (fun r=>(vI r)) (fun _=>[]) (jU s_ f_ u0 u1 u2):=
  dS tT mX Tryz.func286 (
  .r<| .r<| .lp (σ:=Int) (β:=Unit) (0) [] [] ⟨[0,1,7],[],fun t8=>[(8,(vI t8))],fun t8=>[]⟩ ⟨[],[],fun _=>[],fun _=>[]⟩
  (fun t8=> .r<| .it (.r<| .cl 5 (xN (at' s_ t8.toNat) f_ u0 u1 u2) fun r_=> .a1 ((0:Int)≤t8∧t8<(s_.length:Int))<| .rg {} [0,1]<| .it (.r<| .e (.done (.ret t8)))
  (.r<| .e (.next (k0 t8))))
  (.e (.done (.brk ()))))
  (fun _=> .r<| .e (-1)))
theorem pM (s_:(List Link)) (f_:Int) (u0:(List Source)) (u1:(List Link)) (u2:(List aJ)):dK Tryz.prog 254 (k16 s_ f_ u0 u1 u2) [] (fun r=>(vB r)) (fun _=>[]) (fw s_ f_ u0 u1 u2):=
  dS tT mX Tryz.func254 (
  .r<| .cl 2 (sO s_ f_ u0 u1 u2) fun r_=> .r<| .e (decide (0≤r_)))
theorem Av (l:(List Link)) (u0:Int) (u1:Int) (u2:(List Source)) (u3:(List Link)) (u4:(List aJ)):dK Tryz.prog 201 [(sD (aA none 6 Link.cell l)),(sI u0),(sD (.fn 256 1 (k12 u1 u2 u3 u4)))] [] (fun r=>(vB r)) (fun _=>[]) (mM l u0 u1 u2 u3 u4):=
  dS tT mX Tryz.func201 (
  .rg {fr:=[(0,1)],fz:=[1]} []<| .cg 7 [((decide ((l.length:Int)≤u0)),true)] (pM l u1 u2 u3 u4) fun r_=> .r<| .e (bif (decide ((l.length:Int)≤u0))then(!r_)else false))
section
variable (x:aJ)
abbrev k17:List CV:=[(cI x.feeds.e0),(cI x.feeds.e1),(cI x.power),(cI x.paths)]
end
theorem Bo (x:aJ):dK Tryz.prog 260 [(.agg (k17 x))] [] (fun r=>(vI r)) (fun _=>[]) (ou x):=
  dS tT mX Tryz.func260 (
  .rg {fr:=[(0,1)],fz:=[1]} []<| .rg {} [.pf ⟨(0:Int)≤1∧(1:Int)<(2:Nat),(by decide)⟩]<| .it (.r<| .e 1)
  (.r<| .e 2))
section
variable (r_:Bool) (u0:Bool) (x:aJ) (u1:Bool)
abbrev k19:=(bif (bif (bif r_ then u0 else false)then(!decide (x.feeds.e0=x.feeds.e1))else false)then u1 else false)
abbrev k18:=((k19 r_ u0 x u1),true)
end
theorem Ac (x:aJ) (x1:Int) (u2:(List Source)) (u3:(List Link)) (u4:(List aJ)):dK Tryz.prog 259 [(.agg (k17 x)),(sD (k9 x1 u2 u3 u4))] [] (fun r=>(vB r)) (fun _=>[]) (mD x x1 u2 u3 u4):=
  dS tT mX Tryz.func259 (
  .rg {fr:=[(0,1)],fz:=[1]} []<| .rg {} [.pf ⟨(0:Int)≤0∧(0:Int)<(2:Nat),(by decide)⟩, .pf ⟨(0:Int)≤1∧(1:Int)<(2:Nat),(by decide)⟩]<| .cl 4 (aI x.feeds.e0 0 (k10 x1)) fun r_=> .cg 10 [(r_,true)] (aI x.feeds.e1 (-1) (k10 x1)) fun u0=> .cg 20 [((bif (bif r_ then u0 else false)then(!decide (x.feeds.e0=x.feeds.e1))else false),true)] (aI x.power 1 100000) fun u1=> .cg 26 [(k18 r_ u0 x u1)] (Bo x) fun u5=> .cg 27 [(k18 r_ u0 x u1)] (aI x.paths 0 u5) fun u6=> .r<| .e (bif (k19 r_ u0 x u1)then u6 else false))
section
variable (x1:Int) (u0:(List Source)) (u1:(List Link)) (u2:(List aJ))
abbrev k20:DV:=(wC [(.fn 259 1 (k12 x1 u0 u1 u2))] 0)
end
theorem xP (x:aJ) (x1:Int) (u0:(List Source)) (u1:(List Link)) (u2:(List aJ)):dK Tryz.prog 258 [(.agg (k17 x)),(sD (k20 x1 u0 u1 u2))] [] (fun r=>(vB r)) (fun _=>[]) (mU x x1 u0 u1 u2):=
  dS tT mX Tryz.func258 (
  .rg {fr:=[(0,1)],fz:=[1]} []<| .cl 2 (Ac x x1 u0 u1 u2) fun r_=> .r<| .e (!r_))
section
variable (s_:(List aJ)) (f_:Int) (u0:(List Source)) (u1:(List Link)) (u2:(List aJ))
abbrev k21:List SV:=[(sD (aA none 4 aJ.cell s_)),(sD (.fn 258 1 (bn [(k20 f_ u0 u1 u2)])))]
end
theorem sU (s_:(List aJ)) (f_:Int) (u0:(List Source)) (u1:(List Link)) (u2:(List aJ)):dK Tryz.prog 287 (k21 s_ f_ u0 u1 u2) [] (fun r=>(vI r)) (fun _=>[]) (jS s_ f_ u0 u1 u2):=
  dS tT mX Tryz.func287 (
  .r<| .r<| .lp (σ:=Int) (β:=Unit) (0) [] [] ⟨[0,1,7],[],fun t8=>[(8,(vI t8))],fun t8=>[]⟩ ⟨[],[],fun _=>[],fun _=>[]⟩
  (fun t8=> .r<| .it (.r<| .cl 5 (xP (⟨((at' s_ t8.toNat).feeds),(at' s_ t8.toNat).power,(at' s_ t8.toNat).paths⟩:aJ) f_ u0 u1 u2) fun r_=> .a1 ((0:Int)≤t8∧t8<(s_.length:Int))<| .rg {} [0,1]<| .it (.r<| .e (.done (.ret t8)))
  (.r<| .e (.next (k0 t8))))
  (.e (.done (.brk ()))))
  (fun _=> .r<| .e (-1)))
theorem pU (s_:(List aJ)) (f_:Int) (u0:(List Source)) (u1:(List Link)) (u2:(List aJ)):dK Tryz.prog 257 (k21 s_ f_ u0 u1 u2) [] (fun r=>(vB r)) (fun _=>[]) (fA s_ f_ u0 u1 u2):=
  dS tT mX Tryz.func257 (
  .r<| .cl 2 (sU s_ f_ u0 u1 u2) fun r_=> .r<| .e (decide (0≤r_)))
theorem Ah (l:(List aJ)) (u0:Int) (u1:Int) (u2:(List Source)) (u3:(List Link)) (u4:(List aJ)):dK Tryz.prog 203 [(sD (aA none 4 aJ.cell l)),(sI u0),(sD (.fn 259 1 (k12 u1 u2 u3 u4)))] [] (fun r=>(vB r)) (fun _=>[]) (mE l u0 u1 u2 u3 u4):=
  dS tT mX Tryz.func203 (
  .rg {fr:=[(0,1)],fz:=[1]} []<| .cg 7 [((decide ((l.length:Int)≤u0)),true)] (pU l u1 u2 u3 u4) fun r_=> .r<| .e (bif (decide ((l.length:Int)≤u0))then(!r_)else false))
theorem Bv (p:av):dK Tryz.prog 127 (k8 p) [] (fun r=>(vI r)) (fun _=>[]) (oq p):=
  dS tT mX Tryz.func127 (
  .rg {fr:=[(0,1)],fz:=[1]} []<| .cl 2 (aI p.buses 1 24) fun r_=> .r<| .it (.r<| .e 10)
  (.cl 3 (A9 p) fun u0=> .cl 4 (Cx p.sources 8 u0.1 u0.2.1 u0.2.2.1 u0.2.2.2) fun u3=> .r<| .it (.r<| .e 11)
  (.cl 3 (Cu p) fun u1=> .cl 4 (Av p.links 40 u1.1 u1.2.1 u1.2.2.1 u1.2.2.2) fun u4=> .r<| .it (.r<| .e 12)
  (.cl 3 (CU p) fun u2=> .cl 4 (Ah p.racks 24 u2.1 u2.2.1 u2.2.2.1 u2.2.2.2) fun u5=> .r<| .it (.r<| .e 13)
  (.r<| .e 0)))))
section
variable (p:av) (s_:State) (u0:Int)
abbrev k22:List SV:=[(.agg (k6 p)),(.agg (k1 s_))]
abbrev k23:=(⟨s_.closed,(p.links.length:Int)⟩:bZ)
abbrev k24:=(⟨s_.locked,(p.links.length:Int)⟩:bZ)
abbrev k25:=(⟨s_.badLink,(p.links.length:Int)⟩:bZ)
abbrev k26:=(⟨s_.on_,(p.sources.length:Int)⟩:bZ)
abbrev k27:=(⟨s_.badSource,(p.sources.length:Int)⟩:bZ)
abbrev k28:=(aB bZ.cell [(k23 p s_),(k24 p s_),(k25 p s_),(k26 p s_),(k27 p s_),(⟨s_.earthed,p.buses⟩:bZ),(⟨s_.badBus,p.buses⟩:bZ)])
abbrev WL:=((0:Int)≤u0∧u0<(p.links.length:Int))
end
theorem bO (p:av) (s_:State):dK Tryz.prog 60 (k22 p s_) [] (fun r=>(vI r)) (fun _=>[]) (cK p s_):=
  dS tT mX Tryz.func60 (
  .rg {fr:=[(0,11),(1,12)]} []<| .cl 1 (Bv p) fun r_=> .r<| .r<| .it (.r<| .e r_)
  (.r<| .rg {an:=[(30, .arr [(k23 p s_),(k24 p s_),(k25 p s_),(k26 p s_),(k27 p s_),(⟨s_.earthed,p.buses⟩:bZ),(⟨s_.badBus,p.buses⟩:bZ)].length (k28 p s_))],fr:=[(30,13)],fz:=[12]} [.pf ⟨[(k23 p s_),(k24 p s_),(k25 p s_),(k26 p s_),(k27 p s_),(⟨s_.earthed,p.buses⟩:bZ),(⟨s_.badBus,p.buses⟩:bZ)].length=7,rfl⟩, .pf ⟨aQ 7 2 (rZ 2 [(aA none 1 af s_.closed),(.int .i64 (p.links.length:Int)),(aA none 1 af s_.locked),(.int .i64 (p.links.length:Int)),(aA none 1 af s_.badLink),(.int .i64 (p.links.length:Int)),(aA none 1 af s_.on_),(.int .i64 (p.sources.length:Int)),(aA none 1 af s_.badSource),(.int .i64 (p.sources.length:Int)),(aA none 1 af s_.earthed),(.int .i64 p.buses),(aA none 1 af s_.badBus),(.int .i64 p.buses)]) (k28 p s_),(by intro i hi j hj;match i,j,hi,hj with|0,0,_,_=>rfl|0,1,_,_=>rfl|1,0,_,_=>rfl|1,1,_,_=>rfl|2,0,_,_=>rfl|2,1,_,_=>rfl|3,0,_,_=>rfl|3,1,_,_=>rfl|4,0,_,_=>rfl|4,1,_,_=>rfl|5,0,_,_=>rfl|5,1,_,_=>rfl|6,0,_,_=>rfl|6,1,_,_=>rfl)⟩]<| .lp (σ:=Int) (β:=Unit) (0) [] [] ⟨[2,3,53,54],[11,13],fun u1=>[(55,(vI u1))],fun u1=>[]⟩ ⟨[2,3],[11],fun _=>[],fun _=>[]⟩
  (fun u1=> .r<| .it (.a1 ((0:Int)≤u1∧u1<([(k23 p s_),(k24 p s_),(k25 p s_),(k26 p s_),(k27 p s_),(⟨s_.earthed,p.buses⟩:bZ),(⟨s_.badBus,p.buses⟩:bZ)].length:Int))<| .rg {fr:=[(2,17)],fz:=[17]} [0, .t 0 u1 ([(k23 p s_),(k24 p s_),(k25 p s_),(k26 p s_),(k27 p s_),(⟨s_.earthed,p.buses⟩:bZ),(⟨s_.badBus,p.buses⟩:bZ)].length)]<| .r<| .it (.r<| .e (.done (.ret 9)))
  (.r<| .e (.next (k0 u1))))
  (.e (.done (.brk ()))))
  (fun _=> .r<| .lp (σ:=Int) (β:=Unit) (0) [] [] ⟨[3,67,68],[],fun u0=>[(69,(vI u0))],fun u0=>[]⟩ ⟨[],[],fun _=>[],fun _=>[]⟩
  (fun u0=> .r<| .it (.a1 (WL p u0)<| .rg {fr:=[(3,21)],fz:=[21]} []<| .a2 ((gB [((decide (((at' p.links u0.toNat).kind)=1)),true)]=true→(0:Int)≤u0∧u0<(s_.closed.length:Int))) ((gB [((!(at' s_.closed u0.toNat)),false),((decide (((at' p.links u0.toNat).kind)=1)),true)]=true→(0:Int)≤u0∧u0<(s_.locked.length:Int)))<| .rg {} [0,1]<| .it (.r<| .e (.done (.ret 9)))
  (.r<| .e (.next (k0 u0))))
  (.e (.done (.brk ()))))
  (fun _=> .r<| .e 0))))
theorem wI (i:Int) (x1:Int):dK Tryz.prog 130 [(sI i),(sD (wC [(.int .i64 x1)] 0))] [] (fun r=>(vB r)) (fun _=>[]) (lT i x1):=
  dS tT mX Tryz.func130 (
  .r<| .r<| .e (bif (decide (i<0))then true else(decide (x1≤i))))
section
variable (s_:(List Int))
abbrev NY:DV:=(aA none 1 (aT .i64) s_)
end
theorem sP (s_:(List Int)) (f_:Int):dK Tryz.prog 205 [(sD (NY s_)),(sD (.fn 130 1 (bn [(wC [(.int .i64 f_)] 0)])))] [] (fun r=>(vI r)) (fun _=>[]) (jV s_ f_):=
  dS tT mX Tryz.func205 (
  .r<| .r<| .lp (σ:=Int) (β:=Unit) (0) [] [] ⟨[0,1,7],[],fun t8=>[(8,(vI t8))],fun t8=>[]⟩ ⟨[],[],fun _=>[],fun _=>[]⟩
  (fun t8=> .r<| .it (.r<| .cl 5 (wI (at' s_ t8.toNat) f_) fun r_=> .a1 ((0:Int)≤t8∧t8<(s_.length:Int))<| .rg {} [0,1]<| .it (.r<| .e (.done (.ret t8)))
  (.r<| .e (.next (k0 t8))))
  (.e (.done (.brk ()))))
  (fun _=> .r<| .e (-1)))
theorem qW (s_:(List Int)) (f_:Int):dK Tryz.prog 129 [(sD (NY s_)),(sD (.fn 130 1 (bn [(wC [(.int .i64 f_)] 0)])))] [] (fun r=>(vB r)) (fun _=>[]) (fG s_ f_):=
  dS tT mX Tryz.func129 (
  .r<| .cl 2 (sP s_ f_) fun r_=> .r<| .e (decide (0≤r_)))
theorem pu (l:(List Int)) (n:Int):dK Tryz.prog 128 [(sD (NY l)),(sI n)] [] (fun r=>(vB r)) (fun _=>[]) (iY l n):=
  dS tT mX Tryz.func128 (
  .rg {fr:=[(0,1)],fz:=[1]} []<| .cg 6 [((decide ((l.length:Int)≤24)),true)] (qW l n) fun r_=> .r<| .e (bif (decide ((l.length:Int)≤24))then(!r_)else false))
section
variable (x:aj) (p:av)
abbrev Rw:List CV:=[(cI x.deed),(cI x.index)]
abbrev Xe:=((gB [((bif (decide (0≤x.index))then(decide (x.index<(p.links.length:Int)))else false),true)]=true→(0:Int)≤x.index∧x.index<(p.links.length:Int)))
abbrev WX:=(bif (bif (decide (0≤x.index))then(decide (x.index<(p.links.length:Int)))else false)then(!decide (((at' p.links x.index.toNat).kind)=1))else false)
abbrev R6:=(bif (decide (0≤x.index))then(decide (x.index<p.buses))else false)
abbrev Ko:=(bif (decide (0≤x.index))then(decide (x.index<(p.sources.length:Int)))else false)
abbrev Kr:=((gB [((bif (decide (0≤x.index))then(decide (x.index<0))else false),true)]=true→(0:Int)≤x.index∧x.index<(p.links.length:Int)))
abbrev Kt:=(bif (bif (decide (0≤x.index))then(decide (x.index<0))else false)then(!decide (((at' p.links x.index.toNat).kind)=1))else false)
end
theorem sF (p:av) (x:aj):dK Tryz.prog 134 [(.agg (k6 p)),(.agg (Rw x))] [] (fun r=>(vB r)) (fun _=>[]) (kD p x):=
  dS tT mX Tryz.func134 (
  .rg {fr:=[(0,2),(1,3)],fz:=[2,3]} []<| .r<| .r<| .r<| .it (.it (.r<| .a1 (Xe x p)<| .r<| .e (WX x p))
  (.r<| .it (.it (.r<| .e (R6 x p))
  (.r<| .it (.it (.r<| .e (Ko x p))
  (.a1 (Kr x p)<| .r<| .e (Kt x p)))
  (.r<| .it (.r<| .e (Ko x p))
  (.a1 (Kr x p)<| .r<| .e (Kt x p)))))
  (.r<| .it (.r<| .e (R6 x p))
  (.r<| .it (.it (.r<| .e (Ko x p))
  (.a1 (Kr x p)<| .r<| .e (Kt x p)))
  (.r<| .it (.r<| .e (Ko x p))
  (.a1 (Kr x p)<| .r<| .e (Kt x p)))))))
  (.r<| .it (.it (.r<| .a1 (Xe x p)<| .r<| .e (WX x p))
  (.r<| .it (.it (.r<| .e (R6 x p))
  (.r<| .it (.it (.r<| .e (Ko x p))
  (.a1 (Kr x p)<| .r<| .e (Kt x p)))
  (.r<| .it (.r<| .e (Ko x p))
  (.a1 (Kr x p)<| .r<| .e (Kt x p)))))
  (.r<| .it (.r<| .e (R6 x p))
  (.r<| .it (.it (.r<| .e (Ko x p))
  (.a1 (Kr x p)<| .r<| .e (Kt x p)))
  (.r<| .it (.r<| .e (Ko x p))
  (.a1 (Kr x p)<| .r<| .e (Kt x p)))))))
  (.r<| .it (.it (.r<| .a1 (Xe x p)<| .r<| .e (WX x p))
  (.r<| .it (.it (.r<| .e (R6 x p))
  (.r<| .it (.it (.r<| .e (Ko x p))
  (.a1 (Kr x p)<| .r<| .e (Kt x p)))
  (.r<| .it (.r<| .e (Ko x p))
  (.a1 (Kr x p)<| .r<| .e (Kt x p)))))
  (.r<| .it (.r<| .e (R6 x p))
  (.r<| .it (.it (.r<| .e (Ko x p))
  (.a1 (Kr x p)<| .r<| .e (Kt x p)))
  (.r<| .it (.r<| .e (Ko x p))
  (.a1 (Kr x p)<| .r<| .e (Kt x p)))))))
  (.r<| .it (.r<| .a1 (Xe x p)<| .r<| .e (WX x p))
  (.r<| .it (.it (.r<| .e (R6 x p))
  (.r<| .it (.it (.r<| .e (Ko x p))
  (.a1 (Kr x p)<| .r<| .e (Kt x p)))
  (.r<| .it (.r<| .e (Ko x p))
  (.a1 (Kr x p)<| .r<| .e (Kt x p)))))
  (.r<| .it (.r<| .e (R6 x p))
  (.r<| .it (.it (.r<| .e (Ko x p))
  (.a1 (Kr x p)<| .r<| .e (Kt x p)))
  (.r<| .it (.r<| .e (Ko x p))
  (.a1 (Kr x p)<| .r<| .e (Kt x p))))))))))
theorem wN (x:aj) (x1:Int) (u0:(List Source)) (u1:(List Link)) (u2:(List aJ)):dK Tryz.prog 133 [(.agg (Rw x)),(sD (k9 x1 u0 u1 u2))] [] (fun r=>(vB r)) (fun _=>[]) (lS x x1 u0 u1 u2):=
  dS tT mX Tryz.func133 (
  .rg {fr:=[(0,1)],fz:=[1]} []<| .cl 2 (sF (⟨x1,u0,u1,u2⟩:av) x) fun r_=> .r<| .e (!r_))
section
variable (s_:(List aj)) (f_:Int) (u0:(List Source)) (u1:(List Link)) (u2:(List aJ))
abbrev R8:DV:=(aA none 2 aj.cell s_)
abbrev YJ:List SV:=[(sD (R8 s_)),(sD (.fn 133 1 (k12 f_ u0 u1 u2)))]
end
theorem tF (s_:(List aj)) (f_:Int) (u0:(List Source)) (u1:(List Link)) (u2:(List aJ)):dK Tryz.prog 206 (YJ s_ f_ u0 u1 u2) [] (fun r=>(vI r)) (fun _=>[]) (jT s_ f_ u0 u1 u2):=
  dS tT mX Tryz.func206 (
  .r<| .r<| .lp (σ:=Int) (β:=Unit) (0) [] [] ⟨[0,1,7],[],fun t8=>[(8,(vI t8))],fun t8=>[]⟩ ⟨[],[],fun _=>[],fun _=>[]⟩
  (fun t8=> .r<| .it (.r<| .cl 5 (wN (at' s_ t8.toNat) f_ u0 u1 u2) fun r_=> .a1 ((0:Int)≤t8∧t8<(s_.length:Int))<| .rg {} [0,1]<| .it (.r<| .e (.done (.ret t8)))
  (.r<| .e (.next (k0 t8))))
  (.e (.done (.brk ()))))
  (fun _=> .r<| .e (-1)))
theorem qV (s_:(List aj)) (f_:Int) (u0:(List Source)) (u1:(List Link)) (u2:(List aJ)):dK Tryz.prog 132 (YJ s_ f_ u0 u1 u2) [] (fun r=>(vB r)) (fun _=>[]) (fF s_ f_ u0 u1 u2):=
  dS tT mX Tryz.func132 (
  .r<| .cl 2 (tF s_ f_ u0 u1 u2) fun r_=> .r<| .e (decide (0≤r_)))
theorem pq (l:(List aj)) (x1:Int) (u0:(List Source)) (u1:(List Link)) (u2:(List aJ)):dK Tryz.prog 131 [(sD (R8 l)),(sD (k9 x1 u0 u1 u2))] [] (fun r=>(vB r)) (fun _=>[]) (iW l x1 u0 u1 u2):=
  dS tT mX Tryz.func131 (
  .r<| .cg 6 [((decide ((l.length:Int)≤24)),true)] (qV l x1 u0 u1 u2) fun r_=> .r<| .e (bif (decide ((l.length:Int)≤24))then(!r_)else false))
theorem AR (p:av) (t:Task):dK Tryz.prog 61 [(.agg (k6 p)),(.agg (k7 t))] [] (fun r=>(vB r)) (fun _=>[]) (mF p t):=
  dS tT mX Tryz.func61 (
  .rg {fr:=[(0,2),(1,3)],fz:=[2,3]} []<| .r<| .r<| .cl 6 (pu t.fed (p.racks.length:Int)) fun r_=> .cg 13 [(r_,true)] (pu t.crew p.buses) fun u0=> .cg 19 [((bif r_ then u0 else false),true)] (pq t.allowed p.buses p.sources p.links p.racks) fun u1=> .cg 25 [(k2 r_ u0 u1)] (pq t.goal p.buses p.sources p.links p.racks) fun u2=> .r<| .e (k3 r_ u0 u1 u2))
theorem wG (p:av) (s_:State):dK Tryz.prog 248 (k22 p s_) [] (fun r=>(vD (.fn 284 2 (bn [(wC [(.int .i64 r.1),(aA none 5 Source.cell r.2.1),(aA none 6 Link.cell r.2.2.1),(aA none 4 aJ.cell r.2.2.2.1)] 0),(wC [(aA none 1 af r.2.2.2.2.1),(aA none 1 af r.2.2.2.2.2.1),(aA none 1 af r.2.2.2.2.2.2.1),(aA none 1 af r.2.2.2.2.2.2.2.1),(aA none 1 af r.2.2.2.2.2.2.2.2.1),(aA none 1 af r.2.2.2.2.2.2.2.2.2.1),(aA none 1 af r.2.2.2.2.2.2.2.2.2.2)] 0)])))) (fun _=>[]) (jD p s_):=
  dS tT mX Tryz.func248 (
  .rg {fr:=[(0,2),(1,3)],fz:=[2,3]} []<| .r<| .e (p.buses,p.sources,p.links,p.racks,s_.closed,s_.locked,s_.badLink,s_.on_,s_.badSource,s_.earthed,s_.badBus))
noncomputable def rD:ig:=⟨[22],Np ([1,1,0,1,0]++[0]) (kC Tryz.f197),Np ([1,1,0,1,0]++[1]) (kC Tryz.f197),125,[]⟩
section
variable (g:aY)
abbrev X4:List (Nat × Option Ob):=[(0,some (Ny 3 3 false false 1 1 (aT .i64) (aT .i64) g.head))]
end
theorem fH (g:aY) (x:Int):dK Tryz.prog 250 [(.agg [(.mp 0)]),(sI x)] (X4 g) (fun r=>(vI r)) (fun r=>(X4 g)) (cu g x):=
  dS tT mX Tryz.func250 (
  .rg {fr:=[(0,2)]} []<| .lp (σ:=Int) (β:=Unit) (x) [] [] ⟨[2],[0,2],fun x1=>[(1,(vI x1))],fun x1=>[]⟩ ⟨[],[],fun _=>[],fun _=>[]⟩
  (fun x1=> .rg {an:=[(3, .look (bC aU x1 g.head).isSome [(cI ((bC aU x1 g.head).getD 0))])]} [.pf ⟨dD [some .i64] 1 1 g.head.length (yK (aT .i64) g.head) (zb (aT .i64) g.head) [(.int .i64 x1)] [(.d (.int .i64 0))] (bC aU x1 g.head).isSome [(cI ((bC aU x1 g.head).getD 0))],qg (fun _=>rfl) (fun _ _=>rfl) g.head x1 0 rfl rfl rfl⟩]<| .r<| .it (.r<| .e (.done (.ret x1)))
  (.r<| .e (.next ((bC aU x1 g.head).getD 0))))
  (fun _=> .no))
theorem vT (g:aY) (a:Int) (b:Int):dK Tryz.prog 249 [(.agg [(.mp 0)]),(sI a),(sI b)] (X4 g) (fun r=>(.dX [])) (fun r=>[(0,some (Ny 3 3 false false 1 1 (aT .i64) (aT .i64) r))]) (iT g a b):=
  dS tT mX Tryz.func249 (
  .rg {fr:=[(0,2)]} []<| .cr 2 (fH g a) fun r_=> .cr 5 (fH g b) fun u0=> .r<| .r<| .it (.rg {an:=[(4, .map (eB aU r_ u0 g.head).length (yK (aT .i64) (eB aU r_ u0 g.head)) (zb (aT .i64) (eB aU r_ u0 g.head)) [])]} [.pf ⟨eD [some .i64] 1 1 g.head.length (yK (aT .i64) g.head) (zb (aT .i64) g.head) [(.int .i64 r_)] [(cI u0)] [] (eB aU r_ u0 g.head).length (yK (aT .i64) (eB aU r_ u0 g.head)) (zb (aT .i64) (eB aU r_ u0 g.head)),Ak (fun _=>rfl) (fun _ _=>rfl) g.head r_ u0 rfl rfl⟩]<| .e (eB aU r_ u0 g.head))
  (.e g.head))
section
variable (o_:aY)
abbrev Yf:Nat × Option Ob:=(0,some (.loop rD 0 [(5,(vP 1 0))]))
abbrev YD:List (Nat × Option Ob):=[Yf,(1,some (.cells 337 [(.mp 2)])),(2,some (Ny 3 3 false false 1 1 (aT .i64) (aT .i64) o_.head))]
end
theorem uy (u0:Int) (u1:Int) (u2:Int) (u3:Int) (u4:Int) (u5:(List dJ)) (o_:aY):SX Tryz.prog 0 [(.agg [(cI u0),(cI u1),(cI u2),(cI u3),(cI u4),(.d (aA none 2 dJ.cell u5))])] (YD o_) (fun _=>vB true) (fun r=>[Yf,(1,some (.cells 337 [(.mp 2)])),(2,some (Ny 3 3 false false 1 1 (aT .i64) (aT .i64) r.head))]) (kI u0 u1 u2 u3 u4 u5 o_):=
  YN tT mX rD ⟨[5],[0,1,2],fun _=>[(6,(vD (wC [(.int .i64 u0),(.int .i64 u1),(.int .i64 u2),(.int .i64 u3),(.int .i64 u4),(aA none 2 dJ.cell u5)] 0)))],fun _=>[]⟩ (.rg {fr:=[(0,4)],fz:=[4]} []<| .e ())
  (.cl 5 (dI [(0,2)] (vT o_ u0 u1)) fun r_=> .r<| .e (⟨r_⟩:aY))
section
variable (x2:(List Bool)) (u6:(List Bool)) (u2:(List Bool)) (u7:(List Bool)) (u8:(List Bool)) (u9:(List Bool)) (u1:(List Bool)) (u3:(List (Int × Int))) (t9:Int) (u0:(List Link))
abbrev VJ:DV:=(wC [(aA none 1 af x2),(aA none 1 af u6),(aA none 1 af u2),(aA none 1 af u7),(aA none 1 af u8),(aA none 1 af u9),(aA none 1 af u1)] 0)
abbrev Ub:Ob:=(Ny 3 3 false false 1 1 (aT .i64) (aT .i64) u3)
abbrev YA:=(bif (bif (at' x2 t9.toNat)then(!(at' u2 t9.toNat))else false)then(!(at' u1 (((at' u0 t9.toNat).a).toNat)))else false)
abbrev YF:=((gB [((bif (at' x2 t9.toNat)then(!(at' u2 t9.toNat))else false),true)]=true→(0:Int)≤(at' u0 t9.toNat).a∧(at' u0 t9.toNat).a<(u1.length:Int)))
abbrev YT:=((gB [((YA x2 u2 u1 t9 u0),true)]=true→(0:Int)≤(at' u0 t9.toNat).b∧(at' u0 t9.toNat).b<(u1.length:Int)))
end
theorem tN (x1:Int) (u4:(List Source)) (u0:(List Link)) (u5:(List aJ)) (x2:(List Bool)) (u6:(List Bool)) (u2:(List Bool)) (u7:(List Bool)) (u8:(List Bool)) (u9:(List Bool)) (u1:(List Bool)) (o_:aY):dK Tryz.prog 284 [(.one (.yl 0)),(sD (k9 x1 u4 u0 u5)),(sD (VJ x2 u6 u2 u7 u8 u9 u1))] (YD o_) (fun r=>(.dX [])) (fun r=>[Yf,(1,some (.cells 337 [(.mp 2)])),(2,some (Ny 3 3 false false 1 1 (aT .i64) (aT .i64) r.head))]) (kz x1 u4 u0 u5 x2 u6 u2 u7 u8 u9 u1 o_):=
  dS tT mX Tryz.func284 (
  .r<| .lp (σ:=((List (Int × Int)) × Int)) (β:=(List (Int × Int))) (o_.head,0) [] [] ⟨[0,2,7,8],[0,1],fun(u3,t9)=>[(9,(vI t9))],fun(u3,t9)=>[(2,some (Ub u3))]⟩ ⟨[],[0,1],fun o501=>[],fun o501=>[(2,some (Ny 3 3 false false 1 1 (aT .i64) (aT .i64) o501))]⟩
  (fun(u3,t9)=> .r<| .it (.a1 ((0:Int)≤t9∧t9<(u0.length:Int))<| .rg {fr:=[(3,10)],fz:=[10]} []<| .fk (bif (YA x2 u2 u1 t9 u0)then(!(at' u1 (((at' u0 t9.toNat).b).toNat)))else false) (.cy 34 (uy ((at' u0 t9.toNat).a) ((at' u0 t9.toNat).b) ((at' u0 t9.toNat).kind) ((at' u0 t9.toNat).most) ((at' u0 t9.toNat).ohm) ((at' u0 t9.toNat).trip) (⟨u3⟩:aY)) fun r_=> .a4 ((0:Int)≤t9∧t9<(x2.length:Int)) ((gB [((at' x2 t9.toNat),true)]=true→(0:Int)≤t9∧t9<(u2.length:Int))) (YF x2 u2 u1 t9 u0) (YT x2 u2 u1 t9 u0)<| .rg {ov:=[(31,true,5)]} [0,1,2,3, .k 4]<| .f<| .r<| .e (.next (r_.head,(k0 t9))))
  (.a4 ((0:Int)≤t9∧t9<(x2.length:Int)) ((gB [((at' x2 t9.toNat),true)]=true→(0:Int)≤t9∧t9<(u2.length:Int))) (YF x2 u2 u1 t9 u0) (YT x2 u2 u1 t9 u0)<| .rg {ov:=[(31,false,4)],sk:=[32,33,34,35]} [0,1,2,3]<| .f<| .r<| .e (.next (u3,(k0 t9)))))
  (.e (.done (.brk u3))))
  (fun o501=> .e (⟨o501⟩:aY)))
section
variable (u1:(List aH)) (u2:(List (Int × Int))) (u0:Int) (u3:Int) (u5:(List aH)) (u6:Int) (u4:(List (Int × Int))) (u7:Int)
abbrev Yn:List (Nat × Option Ob):=[(60,some (.rows 287 2 u1.length (vL aH.ev u1) none)),(61,some (Ub u2))]
abbrev EY:=((bC aU u0 u2).getD 0)
abbrev UK:List CV:=[(cI (EY u2 u0))]
abbrev Mi:=(eB aU u0 (u1.length:Int) u2)
abbrev Qq:=(u1++[(⟨([]:List Int),([]:List Int)⟩:aH)])
abbrev Xp:=(vL aH.ev (Qq u1))
abbrev QL:=((bC aU u0 (Mi u1 u2 u0)).getD 0)
abbrev Xu:=((QL u1 u2 u0).toNat)
abbrev YK:=(at' (Qq u1) (Xu u1 u2 u0))
abbrev SI:=((YK u1 u2 u0).buses)
abbrev Yx:=((SI u1 u2 u0).length+[u3].length)
abbrev UH:=((SI u1 u2 u0)++[u3])
abbrev Yd:=(aB (aT .i64) (UH u1 u2 u0 u3))
abbrev X8:=((Qq u1).set (Xu u1 u2 u0) (⟨(UH u1 u2 u0 u3),(YK u1 u2 u0).sources⟩:aH))
abbrev YR:=(vL aH.ev (X8 u1 u2 u0 u3))
abbrev RV:=((at' u1 ((EY u2 u0).toNat)).buses)
abbrev UN:=((RV u1 u2 u0)++[u3])
abbrev Xm:=(aB (aT .i64) (UN u1 u2 u0 u3))
abbrev Xx:=(u1.set ((EY u2 u0).toNat) (⟨(UN u1 u2 u0 u3),(at' u1 ((EY u2 u0).toNat)).sources⟩:aH))
abbrev YU:=(vL aH.ev (Xx u1 u2 u0 u3))
abbrev QV:=((at' u5 ((EY u4 u6).toNat)).sources)
abbrev UM:=((QV u5 u6 u4)++[u7])
abbrev Ye:=(aB (aT .i64) (UM u5 u6 u4 u7))
abbrev X9:=(u5.set ((EY u4 u6).toNat) (⟨(at' u5 ((EY u4 u6).toNat)).buses,(UM u5 u6 u4 u7)⟩:aH))
abbrev Ym:=(vL aH.ev (X9 u5 u6 u4 u7))
end
theorem gM (p:av) (s_:State):dK Tryz.prog 197 (k22 p s_) [] (fun r=>(vD (aA none 2 aH.cell r))) (fun _=>[]) (eF p s_):=
  dS tT mX Tryz.func197 (
  .rg {fr:=[(0,55),(1,56)],fz:=[56]} []<| .rg {an:=[(0, .map 0 (yK (aT .i64) ([]:(List (Int × Int)))) (zb (aT .i64) ([]:(List (Int × Int)))) [])],fr:=[(0,57),(2,58)]} []<| .cl 2 (wG p s_) fun r_=> .r<| .cl 0 (dI [(0,59),(1,58),(2,57)] (tN r_.1 r_.2.1 r_.2.2.1 r_.2.2.2.1 r_.2.2.2.2.1 r_.2.2.2.2.2.1 r_.2.2.2.2.2.2.1 r_.2.2.2.2.2.2.2.1 r_.2.2.2.2.2.2.2.2.1 r_.2.2.2.2.2.2.2.2.2.1 r_.2.2.2.2.2.2.2.2.2.2 (⟨([]:(List (Int × Int)))⟩:aY))) fun v0=> .rf 59 [5] [] none 0 []<| .r<| .im (.YX 7 60 287 2 (vL aH.ev ([]:List aH)))<| .rg {an:=[(0, .map 0 (yK (aT .i64) ([]:(List (Int × Int)))) (zb (aT .i64) ([]:(List (Int × Int)))) [])],fr:=[(0,61)]} []<| .r<| .lp (σ:=((List aH) × (List (Int × Int)) × Int)) (β:=((List aH) × (List (Int × Int)))) (([]:List aH),([]:(List (Int × Int))),0) [] [] ⟨[2,3,5,8,31],[55,57,58],fun(u1,u2,u3)=>[(7,(vO 60 false u1.length)),(32,(vI u3))],fun(u1,u2,u3)=>(Yn u1 u2)⟩ ⟨[2,3,5,8],[55,57,58],fun(u9,u4)=>[(7,(vO 60 false u9.length))],fun(u9,u4)=>(Yn u9 u4)⟩
  (fun(u1,u2,u3)=> .r<| .it (.r<| .a1 ((0:Int)≤u3∧u3<(s_.badBus.length:Int))<| .r<| .it (.r<| .e (.next (u1,u2,(k0 u3))))
  (.cr 2 (dI [(0,57)] (fH v0 u3)) fun u0=> .r<| .rg {an:=[(2, .look (bC aU u0 u2).isSome (UK u2 u0))]} [.pf ⟨dD [some .i64] 1 1 u2.length (yK (aT .i64) u2) (zb (aT .i64) u2) [(.int .i64 u0)] [(.d (.int .i64 0))] (bC aU u0 u2).isSome (UK u2 u0),qg (fun _=>rfl) (fun _ _=>rfl) u2 u0 0 rfl rfl rfl⟩]<| .r<| .it (.rg {an:=[(4, .map (Mi u1 u2 u0).length (yK (aT .i64) (Mi u1 u2 u0)) (zb (aT .i64) (Mi u1 u2 u0)) [])]} [.pf ⟨eD [some .i64] 1 1 u2.length (yK (aT .i64) u2) (zb (aT .i64) u2) [(.int .i64 u0)] [(cI (u1.length:Int))] [] (Mi u1 u2 u0).length (yK (aT .i64) (Mi u1 u2 u0)) (zb (aT .i64) (Mi u1 u2 u0)),Ak (fun _=>rfl) (fun _ _=>rfl) u2 u0 (u1.length:Int) rfl rfl⟩]<| .a2 ((u1.length+[(⟨([]:List Int),([]:List Int)⟩:aH)].length)*48≤140737488355328) (u1.length+[(⟨([]:List Int),([]:List Int)⟩:aH)].length≤4611686018427387904)<| .rg {an:=[(2, .arr [(⟨([]:List Int),([]:List Int)⟩:aH)].length (rZ 2 [nS,nS])),(3, .rows (Qq u1).length (Xp u1))],fr:=[(2,86),(3,87)]} [.pf ⟨[(⟨([]:List Int),([]:List Int)⟩:aH)].length=1,rfl⟩, .pf ⟨aQ 1 2 (rZ 2 [nS,nS]) (rZ 2 [nS,nS]),vJ _ _ _⟩, .e (u1.length),0,1, .pf ⟨(Qq u1).length=u1.length+[(⟨([]:List Int),([]:List Int)⟩:aH)].length,List.length_append⟩, .pf ⟨Dc u1.length [(⟨([]:List Int),([]:List Int)⟩:aH)].length 2 (vL aH.ev u1) (rZ 2 [nS,nS]) (Xp u1),RO _ _ _ _ _ (by intro i hi j hj;match i,j,hi,hj with|0,0,_,_=>exact⟨rfl,_,_,_,rfl⟩|0,1,_,_=>exact⟨rfl,_,_,_,rfl⟩)⟩]<| .rg {an:=[(2, .look (bC aU u0 (Mi u1 u2 u0)).isSome [(cI (QL u1 u2 u0))])]} [.pf ⟨dD [some .i64] 1 1 (Mi u1 u2 u0).length (yK (aT .i64) (Mi u1 u2 u0)) (zb (aT .i64) (Mi u1 u2 u0)) [(.int .i64 u0)] [(.d (.int .i64 0))] (bC aU u0 (Mi u1 u2 u0)).isSome [(cI (QL u1 u2 u0))],qg (fun _=>rfl) (fun _ _=>rfl) (Mi u1 u2 u0) u0 0 rfl rfl rfl⟩]<| .a3 ((0:Int)≤(QL u1 u2 u0)∧(QL u1 u2 u0)<((Qq u1).length:Int)) ((Yx u1 u2 u0 u3)*8≤140737488355328) ((SI u1 u2 u0).length+[u3].length≤4611686018427387904)<| .rg {an:=[(6, .take 88),(8, .arr [u3].length (aB (aT .i64) [u3])),(9, .arr (UH u1 u2 u0 u3).length (Yd u1 u2 u0 u3)),(12, .rows 0 (YR u1 u2 u0 u3))],fr:=[(8,89),(9,90)]} [0, .t 0 (QL u1 u2 u0) ((Qq u1).length), .pf ⟨[u3].length=1,rfl⟩, .pf ⟨aQ 1 1 (rZ 1 [(.int .i64 u3)]) (aB (aT .i64) [u3]),(by intro i hi j hj;match i,j,hi,hj with|0,0,_,_=>rfl)⟩, .e ((SI u1 u2 u0).length),1,2, .pf ⟨(UH u1 u2 u0 u3).length=(SI u1 u2 u0).length+[u3].length,List.length_append⟩, .pf ⟨aQ (Yx u1 u2 u0 u3) 1 (lu (aB (aT .i64) (SI u1 u2 u0)) (SI u1 u2 u0).length (aB (aT .i64) [u3])) (Yd u1 u2 u0 u3),dm _ _ _ _⟩,0, .t 0 (QL u1 u2 u0) ((Qq u1).length), .e ((UH u1 u2 u0 u3).length), .pf ⟨PN (Qq u1).length 2 (Si (Xp u1) (Xu u1 u2 u0) 0 (.row 3 1 (UH u1 u2 u0 u3).length (Yd u1 u2 u0 u3))) (YR u1 u2 u0 u3),Dh _ _ _ _ _ _ _ _ rfl (fun j hj=>(match j,hj with|0,_=>rfl|1,_=>rfl))⟩, .pf ⟨∀i0 j0 c0,((some ((QL u1 u2 u0).toNat,0,CV.own 88 false (SI u1 u2 u0).length)):Option (Nat × Nat × CV))=some (i0,j0,c0)→i0=(QL u1 u2 u0).toNat∧j0=0,(fun i0 j0 c0 e=>by cases e;exact⟨rfl,rfl⟩)⟩]<| .im (.ll 87 (Qq u1) (X8 u1 u2 u0 u3))<| .r<| .en (.next ((X8 u1 u2 u0 u3),(Mi u1 u2 u0),(k0 u3))) [] [(87,60)])
  (.rg {an:=[(2, .look (bC aU u0 u2).isSome (UK u2 u0))]} [.pf ⟨dD [some .i64] 1 1 u2.length (yK (aT .i64) u2) (zb (aT .i64) u2) [(.int .i64 u0)] [(.d (.int .i64 0))] (bC aU u0 u2).isSome (UK u2 u0),qg (fun _=>rfl) (fun _ _=>rfl) u2 u0 0 rfl rfl rfl⟩]<| .a3 ((0:Int)≤(EY u2 u0)∧(EY u2 u0)<(u1.length:Int)) (((RV u1 u2 u0).length+[u3].length)*8≤140737488355328) ((RV u1 u2 u0).length+[u3].length≤4611686018427387904)<| .rg {an:=[(6, .take 91),(8, .arr [u3].length (aB (aT .i64) [u3])),(9, .arr (UN u1 u2 u0 u3).length (Xm u1 u2 u0 u3)),(12, .rows 0 (YU u1 u2 u0 u3))],fr:=[(8,92),(9,93)]} [0, .t 0 (EY u2 u0) u1.length, .pf ⟨[u3].length=1,rfl⟩, .pf ⟨aQ 1 1 (rZ 1 [(.int .i64 u3)]) (aB (aT .i64) [u3]),(by intro i hi j hj;match i,j,hi,hj with|0,0,_,_=>rfl)⟩, .e ((RV u1 u2 u0).length),1,2, .pf ⟨(UN u1 u2 u0 u3).length=(RV u1 u2 u0).length+[u3].length,List.length_append⟩, .pf ⟨aQ ((RV u1 u2 u0).length+[u3].length) 1 (lu (aB (aT .i64) (RV u1 u2 u0)) (RV u1 u2 u0).length (aB (aT .i64) [u3])) (Xm u1 u2 u0 u3),dm _ _ _ _⟩,0, .t 0 (EY u2 u0) u1.length, .e ((UN u1 u2 u0 u3).length), .pf ⟨PN u1.length 2 (Si (vL aH.ev u1) ((EY u2 u0).toNat) 0 (.row 3 1 (UN u1 u2 u0 u3).length (Xm u1 u2 u0 u3))) (YU u1 u2 u0 u3),Dh _ _ _ _ _ _ _ _ rfl (fun j hj=>(match j,hj with|0,_=>rfl|1,_=>rfl))⟩, .pf ⟨∀i0 j0 c0,((some ((EY u2 u0).toNat,0,CV.own 91 false (RV u1 u2 u0).length)):Option (Nat × Nat × CV))=some (i0,j0,c0)→i0=(EY u2 u0).toNat∧j0=0,(fun i0 j0 c0 e=>by cases e;exact⟨rfl,rfl⟩)⟩]<| .im (.ll 60 u1 (Xx u1 u2 u0 u3))<| .r<| .e (.next ((Xx u1 u2 u0 u3),u2,(k0 u3))))))
  (.e (.done (.brk (u1,u2)))))
  (fun(u9,u4)=> .r<| .lp (σ:=((List aH) × Int)) (β:=(List aH)) (u9,0) [] [] ⟨[3,5,8,76,77],[57,58,61],fun(u5,u7)=>[(7,(vO 60 false u5.length)),(78,(vI u7))],fun(u5,u7)=>[(60,some (.rows 287 2 u5.length (vL aH.ev u5) none))]⟩ ⟨[],[],fun u8=>[(7,(vO 60 false u8.length))],fun u8=>[(60,some (.rows 287 2 u8.length (vL aH.ev u8) none))]⟩
  (fun(u5,u7)=> .r<| .it (.a1 ((0:Int)≤u7∧u7<(p.sources.length:Int))<| .rg {fr:=[(3,106)],fz:=[106]} []<| .a3 ((0:Int)≤u7∧u7<(s_.on_.length:Int)) ((gB [((at' s_.on_ u7.toNat),true)]=true→(0:Int)≤u7∧u7<(s_.badSource.length:Int))) ((gB [((bif (at' s_.on_ u7.toNat)then(!(at' s_.badSource u7.toNat))else false),true)]=true→(0:Int)≤(at' p.sources u7.toNat).bus∧(at' p.sources u7.toNat).bus<(s_.badBus.length:Int)))<| .rg {} [0,1,2]<| .it (.cr 4 (dI [(0,57)] (fH v0 ((at' p.sources u7.toNat).bus))) fun u6=> .rg {an:=[(5, .look (bC aU u6 u4).isSome (UK u4 u6))]} [0, .pf ⟨dD [some .i64] 1 1 u4.length (yK (aT .i64) u4) (zb (aT .i64) u4) [(.int .i64 u6)] [(.d (.int .i64 0))] (bC aU u6 u4).isSome (UK u4 u6),qg (fun _=>rfl) (fun _ _=>rfl) u4 u6 0 rfl rfl rfl⟩]<| .a3 ((0:Int)≤(EY u4 u6)∧(EY u4 u6)<(u5.length:Int)) (((QV u5 u6 u4).length+[u7].length)*8≤140737488355328) ((QV u5 u6 u4).length+[u7].length≤4611686018427387904)<| .rg {an:=[(6, .take 107),(8, .arr [u7].length (aB (aT .i64) [u7])),(9, .arr (UM u5 u6 u4 u7).length (Ye u5 u6 u4 u7)),(12, .rows 0 (Ym u5 u6 u4 u7))],fr:=[(8,108),(9,109)]} [0, .t 0 (EY u4 u6) u5.length, .pf ⟨[u7].length=1,rfl⟩, .pf ⟨aQ 1 1 (rZ 1 [(.int .i64 u7)]) (aB (aT .i64) [u7]),(by intro i hi j hj;match i,j,hi,hj with|0,0,_,_=>rfl)⟩, .e ((QV u5 u6 u4).length),1,2, .pf ⟨(UM u5 u6 u4 u7).length=(QV u5 u6 u4).length+[u7].length,List.length_append⟩, .pf ⟨aQ ((QV u5 u6 u4).length+[u7].length) 1 (lu (aB (aT .i64) (QV u5 u6 u4)) (QV u5 u6 u4).length (aB (aT .i64) [u7])) (Ye u5 u6 u4 u7),dm _ _ _ _⟩,0, .t 0 (EY u4 u6) u5.length, .e ((UM u5 u6 u4 u7).length), .pf ⟨PN u5.length 2 (Si (vL aH.ev u5) ((EY u4 u6).toNat) 1 (.row 3 1 (UM u5 u6 u4 u7).length (Ye u5 u6 u4 u7))) (Ym u5 u6 u4 u7),Dh _ _ _ _ _ _ _ _ rfl (fun j hj=>(match j,hj with|0,_=>rfl|1,_=>rfl))⟩, .pf ⟨∀i0 j0 c0,((some ((EY u4 u6).toNat,1,CV.own 107 false (QV u5 u6 u4).length)):Option (Nat × Nat × CV))=some (i0,j0,c0)→i0=(EY u4 u6).toNat∧j0=1,(fun i0 j0 c0 e=>by cases e;exact⟨rfl,rfl⟩)⟩]<| .im (.ll 60 u5 (X9 u5 u6 u4 u7))<| .r<| .e (.next ((X9 u5 u6 u4 u7),(k0 u7))))
  (.r<| .e (.next (u5,(k0 u7)))))
  (.e (.done (.brk u5))))
  (fun u8=> .r<| .fz [60]<| .im (.us 4 (vD (.sl none 2 u8.length (fun i j=>Xo (vL aH.ev u8 i j)))) (vD (aA none 2 aH.cell u8)) (BB.v (Ib.one (GK.d (wS.sl (.inr rfl) (fun i _ j hj=>match j,hj with|0,_=> .refl _|1,_=> .refl _))))))<| .e u8)))
section
variable (p:av) (u1:(List aH)) (u0:Int) (u3:Int) (u2:(List Bool))
abbrev Tx:=(List.replicate p.buses.toNat (false:Bool))
abbrev Xf:=(aB af (Tx p))
abbrev UE:=(at' ((at' u1 u0.toNat).buses) u3.toNat)
abbrev Yq:=((0:Int)≤(UE u1 u0 u3)∧(UE u1 u0 u3)<(u2.length:Int))
abbrev WZ:=(u2.set ((UE u1 u0 u3).toNat) (decide (0<(((at' u1 u0.toNat).sources).length:Int))))
abbrev WV:=(aB af (WZ u1 u0 u3 u2))
abbrev Yi:=(qX (aB af u2) ((UE u1 u0 u3).toNat) 0 [(.bool (decide (0<(((at' u1 u0.toNat).sources).length:Int))))])
abbrev Yr:=((WZ u1 u0 u3 u2),(k0 u3))
end
theorem Cz (p:av) (s_:State):dK Tryz.prog 126 (k22 p s_) [] (fun r=>(.dX [(sD (aA none 1 af r.1)),(sI r.2)])) (fun _=>[]) (fZ p s_):=
  dS tT mX Tryz.func126 (
  .rg {fr:=[(0,7),(1,8)],fz:=[7,8]} []<| .cl 2 (bO p s_) fun r_=> .r<| .r<| .it (.r<| .e (([]:List Bool),r_))
  (.a3 ((0:Int)≤p.buses) ((1:Int)*p.buses≤281474976710656) ((p.buses:Int)≤9223372036854775807)<| .rg {an:=[(2, .arr (Tx p).length (Xf p))],fr:=[(2,9)]} [0, .e ((p.buses:Int)),1,2, .pf ⟨(Tx p).length=p.buses.toNat,List.length_replicate⟩, .pf ⟨aQ p.buses.toNat 1 (fun _ j=>[(.bool false)].getD j .nilp) (Xf p),l8 _ _ _ _ _ (fun j hj=>(match j,hj with|0,_=>rfl))⟩]<| .cl 2 (gM p s_) fun u1=> .r<| .lp (σ:=((List Bool) × Int)) (β:=(List Bool)) ((Tx p),0) [] [] ⟨[23,24],[],fun(u4,u0)=>[(7,(vO 9 true u4.length)),(25,(vI u0))],fun(u4,u0)=>[(9,some (bX 4 1 af u4))]⟩ ⟨[],[],fun u5=>[(7,(vO 9 true u5.length))],fun u5=>[(9,some (bX 4 1 af u5))]⟩
  (fun(u4,u0)=> .r<| .it (.a1 ((0:Int)≤u0∧u0<(u1.length:Int))<| .rg {fr:=[(2,13)]} []<| .rg {fz:=[13]} []<| .lp (σ:=((List Bool) × Int)) (β:=(List Bool)) (u4,0) [] [] ⟨[9,23,24,25,30,31],[],fun(u2,u3)=>[(7,(vO 9 true u2.length)),(32,(vI u3))],fun(u2,u3)=>[(9,some (bX 4 1 af u2))]⟩ ⟨[23,24,25],[],fun u6=>[(7,(vO 9 true u6.length))],fun u6=>[(9,some (bX 4 1 af u6))]⟩
  (fun(u2,u3)=> .r<| .it (.a1 ((0:Int)≤u3∧u3<(((at' u1 u0.toNat).buses).length:Int))<| .r<| .a1 (Yq u1 u0 u3 u2)<| .rg {an:=[(7, .arr 0 (WV u1 u0 u3 u2))]} [0, .t 0 (UE u1 u0 u3) u2.length, .pf ⟨aQ u2.length 1 (Yi u1 u0 u3 u2) (WV u1 u0 u3 u2),dG _ _ _ _ _ _ _ _ rfl (fun j hj=>(match j,hj with|0,_=>rfl))⟩]<| .im (.ll 9 u2 (WZ u1 u0 u3 u2))<| .r<| .e (.next (Yr u1 u0 u3 u2)))
  (.e (.done (.brk u2))))
  (fun u6=> .r<| .e (.next (u6,(k0 u0)))))
  (.e (.done (.brk u4))))
  (fun u5=> .rg {fz:=[9]} []<| .e (u5,0))))
theorem gW (x y:aN):Go.Proofs.ltOf bI x y=true↔x.e0<y.e0∨ ¬ y.e0<x.e0∧x.e1<y.e1:=by
 unfold Go.Proofs.ltOf bI;rw [decide_eq_true_iff]
 by_cases h0:x.e0<y.e0<;>by_cases g0:y.e0<x.e0<;>by_cases h1:x.e1<y.e1<;>by_cases g1:y.e1<x.e1<;>simp [h0,g0,h1,g1]
theorem wQ:Go.Sort.SWO (Go.Proofs.ltOf bI) where
 irrefl x:=by rw [←Bool.not_eq_true,gW];omega
 trans x y z h1 h2:=by rw [gW]at*;omega
 ntrans x y z h1 h2:=by rw [←Bool.not_eq_true,gW]at*;omega
theorem wE (x y:aN) (h1:(Go.Proofs.ltOf bI) x y=false) (h2:(Go.Proofs.ltOf bI) y x=false):x=y:=by
 rw [←Bool.not_eq_true,gW]at h1 h2
 obtain⟨a,b⟩:=x
 obtain⟨c,d⟩:=y
 have e1:a=c:=by simp only at h1 h2;omega
 have e2:b=d:=by simp only at h1 h2;omega
 rw [e1,e2]
theorem yj (s:(List aN)) {r:(List aN)} (h:ic s=some r):Fn Tryz.prog 207 [(.one (.own 0 false s.length)),(sD (.fn 208 0 (bn [])))] [(0,some (.arr 145 2 s.length (aB aN.cell s)))] (.dX []) [(0,some (.arr 145 2 r.length (aB aN.cell r)))]:=
 TN Ot 2 R4 Pt (fun x:aN=>[.int .i64 x.e0, .int .i64 x.e1]) (fun _=>rfl) (fun x v hv=>by simp at hv;rcases hv with rfl|rfl<;>rfl) bI wQ wE
  (Lb (fun x:aN=>[.int .i64 x.e0, .int .i64 x.e1]) (fun x=>x.e0) (fun x=>x.e1) (fun _=>rfl)) (enters_of Tryz.func208 (by kernel_rfl) rfl)
  (fun F w x j hj v=>match j,hj with|0,_=>Iff.rfl|1,_=>Iff.rfl) 207 rfl ⟨_,Tryz.func207,rfl,rfl⟩ s (by cases s with|nil=>(cases h;simp)|cons x xs=>exact h)
section
variable (u6:(List aN)) (u2:(List aH)) (u0:Int) (u1:Int) (u3:Int) (u4:(List aN))
abbrev UU:List (Nat × Option Ob):=[(138,some (bX 145 2 aN.cell u6))]
abbrev Ya:=(((at' u2 u0.toNat).sources).drop ((k0 u1).toNat))
abbrev Sn:=(at' ((at' u2 u0.toNat).sources) u1.toNat)
abbrev WY:=(at' (Ya u2 u0 u1) u3.toNat)
abbrev Uw:=(⟨(Sn u2 u0 u1),(WY u2 u0 u1 u3)⟩:aN)
abbrev YM:=(u4.length+[(Uw u2 u0 u1 u3)].length)
abbrev Xz:=(aB aN.cell [(Uw u2 u0 u1 u3)])
abbrev WN:=(u4++[(Uw u2 u0 u1 u3)])
abbrev YQ:=(aB aN.cell (WN u2 u0 u1 u3 u4))
end
theorem zV (p:av) (s_:State):dK Tryz.prog 135 (k22 p s_) [] (fun r=>(.dX [(sD (aA none 2 aN.cell r.1)),(sI r.2)])) (fun _=>[]) (lN p s_):=
  dS tT mX Tryz.func135 (
  .rg {fr:=[(0,134),(1,135)],fz:=[134,135]} []<| .cl 2 (bO p s_) fun r_=> .r<| .r<| .it (.r<| .e (([]:List aN),r_))
  (.r<| .cl 2 (gM p s_) fun u2=> .r<| .im (.ad 7 268 145 2 (aB aN.cell ([]:List aN)))<| .lp (σ:=((List aN) × Int)) (β:=(List aN)) (([]:List aN),0) [] [(268,138)] ⟨[2,22,23],[],fun(u6,u0)=>[(7,(vO 138 false u6.length)),(24,(vI u0))],fun(u6,u0)=>(UU u6)⟩ ⟨[],[],fun u5=>[(7,(vO 138 false u5.length))],fun u5=>(UU u5)⟩
  (fun(u6,u0)=> .r<| .it (.a1 ((0:Int)≤u0∧u0<(u2.length:Int))<| .rg {fr:=[(2,235)],fz:=[235]} []<| .r<| .lp (σ:=((List aN) × Int)) (β:=(List aN)) (u6,0) [] [] ⟨[2,9,22,23,24,29,30],[],fun(u7,u1)=>[(7,(vO 138 false u7.length)),(31,(vI u1))],fun(u7,u1)=>(UU u7)⟩ ⟨[2,22,23,24],[],fun u8=>[(7,(vO 138 false u8.length))],fun u8=>(UU u8)⟩
  (fun(u7,u1)=> .r<| .it (.a1 ((0:Int)≤u1∧u1<(((at' u2 u0.toNat).sources).length:Int))<| .r<| .a1 ((0:Int)≤(k0 u1)∧(k0 u1)≤(((at' u2 u0.toNat).sources).length:Int))<| .r<| .im (.us 40 (vD (.sl none 1 (((at' u2 u0.toNat).sources).length - ((k0 u1).toNat)) (fun iq jq=>aB (aT .i64) ((at' u2 u0.toNat).sources) (iq+((k0 u1).toNat)) jq))) (vD (aA none 1 (aT .i64) (Ya u2 u0 u1))) (BB.v (Ib.one (GK.d (wS.Yu (by first|rw [List.length_append,List.length_drop]|simp only [List.length_set,List.length_drop,Jc]|exact List.length_replicate) (.inr rfl) (UC _ _ _ _))))))<| .lp (σ:=((List aN) × Int)) (β:=(List aN)) (u7,0) [] [] ⟨[2,9,11,22,23,24,29,30,31,40,41],[],fun(u4,u3)=>[(7,(vO 138 false u4.length)),(42,(vI u3))],fun(u4,u3)=>(UU u4)⟩ ⟨[2,9,22,23,24,29,30,31],[],fun u9=>[(7,(vO 138 false u9.length))],fun u9=>(UU u9)⟩
  (fun(u4,u3)=> .r<| .it (.a1 ((0:Int)≤u3∧u3<((Ya u2 u0 u1).length:Int))<| .r<| .a3 ((0:Int)≤(Sn u2 u0 u1)∧(Sn u2 u0 u1)<(p.sources.length:Int)) ((gB [((decide (((at' p.sources ((Sn u2 u0 u1).toNat)).sync)=0)),false)]=true→(0:Int)≤(Sn u2 u0 u1)∧(Sn u2 u0 u1)<(p.sources.length:Int))) ((gB [((decide (((at' p.sources ((Sn u2 u0 u1).toNat)).sync)=0)),false)]=true→(0:Int)≤(WY u2 u0 u1 u3)∧(WY u2 u0 u1 u3)<(p.sources.length:Int)))<| .rg {} [0,1,2]<| .it (.a2 ((YM u2 u0 u1 u3 u4)*16≤140737488355328) (u4.length+[(Uw u2 u0 u1 u3)].length≤4611686018427387904)<| .rg {an:=[(4, .arr [(Uw u2 u0 u1 u3)].length (Xz u2 u0 u1 u3)),(5, .arr (WN u2 u0 u1 u3 u4).length (YQ u2 u0 u1 u3 u4))],fr:=[(4,266),(5,267)]} [.pf ⟨[(Uw u2 u0 u1 u3)].length=1,rfl⟩, .pf ⟨aQ 1 2 (rZ 2 [(.int .i64 (Sn u2 u0 u1)),(.int .i64 (WY u2 u0 u1 u3))]) (Xz u2 u0 u1 u3),(by intro i hi j hj;match i,j,hi,hj with|0,0,_,_=>rfl|0,1,_,_=>rfl)⟩, .e (u4.length),0,1, .pf ⟨(WN u2 u0 u1 u3 u4).length=u4.length+[(Uw u2 u0 u1 u3)].length,List.length_append⟩, .pf ⟨aQ (YM u2 u0 u1 u3 u4) 2 (lu (aB aN.cell u4) u4.length (Xz u2 u0 u1 u3)) (YQ u2 u0 u1 u3 u4),dm _ _ _ _⟩]<| .r<| .en (.next ((WN u2 u0 u1 u3 u4),(k0 u3))) [] [(267,138)])
  (.r<| .e (.next (u4,(k0 u3)))))
  (.e (.done (.brk u4))))
  (fun u9=> .r<| .e (.next (u9,(k0 u1)))))
  (.e (.done (.brk u7))))
  (fun u8=> .r<| .e (.next (u8,(k0 u0)))))
  (.e (.done (.brk u6))))
  (fun u5=> .cl 1 (dI [(0,138)] ⟨fun h=>yj u5 h⟩) fun v0=> .r<| .a1 (u5.length=v0.length)<| .so 7 138 false u5.length v0.length 0<| .so 77 138 false u5.length v0.length 0<| .fz [138]<| .r<| .e (v0,0))))
theorem zH (p:av) (s_:State):dK Tryz.prog 126 (k22 p s_) [] (fun r=>(.dX [(.one (.own 0 false r.1.length)),(sI r.2)])) (fun r=>[(0,some (bX 4 1 af r.1))]) (fZ p s_):=
  dS tT mX Tryz.func126 (
  .rg {fr:=[(0,7),(1,8)],fz:=[7,8]} []<| .cl 2 (bO p s_) fun r_=> .r<| .r<| .it (.r<| .im (.ad 4 9 4 1 (aB af ([]:List Bool)))<| .en (([]:List Bool),r_) [] [(9,0)])
  (.a3 ((0:Int)≤p.buses) ((1:Int)*p.buses≤281474976710656) ((p.buses:Int)≤9223372036854775807)<| .rg {an:=[(2, .arr (Tx p).length (Xf p))],fr:=[(2,10)]} [0, .e ((p.buses:Int)),1,2, .pf ⟨(Tx p).length=p.buses.toNat,List.length_replicate⟩, .pf ⟨aQ p.buses.toNat 1 (fun _ j=>[(.bool false)].getD j .nilp) (Xf p),l8 _ _ _ _ _ (fun j hj=>(match j,hj with|0,_=>rfl))⟩]<| .cl 2 (gM p s_) fun u1=> .r<| .lp (σ:=((List Bool) × Int)) (β:=(List Bool)) ((Tx p),0) [] [] ⟨[23,24],[],fun(u4,u0)=>[(7,(vO 10 true u4.length)),(25,(vI u0))],fun(u4,u0)=>[(10,some (bX 4 1 af u4))]⟩ ⟨[],[],fun u5=>[(7,(vO 10 true u5.length))],fun u5=>[(10,some (bX 4 1 af u5))]⟩
  (fun(u4,u0)=> .r<| .it (.a1 ((0:Int)≤u0∧u0<(u1.length:Int))<| .rg {fr:=[(2,14)]} []<| .rg {fz:=[14]} []<| .lp (σ:=((List Bool) × Int)) (β:=(List Bool)) (u4,0) [] [] ⟨[9,23,24,25,30,31],[],fun(u2,u3)=>[(7,(vO 10 true u2.length)),(32,(vI u3))],fun(u2,u3)=>[(10,some (bX 4 1 af u2))]⟩ ⟨[23,24,25],[],fun u6=>[(7,(vO 10 true u6.length))],fun u6=>[(10,some (bX 4 1 af u6))]⟩
  (fun(u2,u3)=> .r<| .it (.a1 ((0:Int)≤u3∧u3<(((at' u1 u0.toNat).buses).length:Int))<| .r<| .a1 (Yq u1 u0 u3 u2)<| .rg {an:=[(7, .arr 0 (WV u1 u0 u3 u2))]} [0, .t 0 (UE u1 u0 u3) u2.length, .pf ⟨aQ u2.length 1 (Yi u1 u0 u3 u2) (WV u1 u0 u3 u2),dG _ _ _ _ _ _ _ _ rfl (fun j hj=>(match j,hj with|0,_=>rfl))⟩]<| .im (.ll 10 u2 (WZ u1 u0 u3 u2))<| .r<| .e (.next (Yr u1 u0 u3 u2)))
  (.e (.done (.brk u2))))
  (fun u6=> .r<| .e (.next (u6,(k0 u0)))))
  (.e (.done (.brk u4))))
  (fun u5=> .r<| .en (u5,0) [] [(10,0)])))
section
variable (p:av) (u0:Int) (r_:((List Bool) × Int)) (u1:(List ax))
abbrev Ku:=((at' p.racks u0.toNat).feeds)
abbrev Xj:List CV:=[(cI ((Ku p u0).e0)),(cI ((Ku p u0).e1))]
abbrev Yo:=(bif (decide (0≤((Ku p u0).e0)))then(at' r_.1 (((Ku p u0).e0).toNat))else false)
abbrev YE:=(bif (decide (0≤((Ku p u0).e1)))then(at' r_.1 (((Ku p u0).e1).toNat))else false)
abbrev Ue:=(⟨(Yo p u0 r_),(YE p u0 r_)⟩:ax)
abbrev Yv:=(u1.length+[(Ue p u0 r_)].length)
abbrev XR:=(aB ax.cell [(Ue p u0 r_)])
abbrev Xc:=(u1++[(Ue p u0 r_)])
abbrev Yj:=(aB ax.cell (Xc p u0 r_ u1))
end
theorem sH (p:av) (s_:State):dK Tryz.prog 56 (k22 p s_) [] (fun r=>(.dX [(.one (.own 0 false r.1.length)),(sI r.2)])) (fun r=>[(0,some (bX 133 2 ax.cell r.1))]) (oU p s_):=
  dS tT mX Tryz.func56 (
  .rg {fr:=[(0,19),(1,20)],fz:=[20]} []<| .cl 2 (dI [(0,21)] (zH p s_)) fun r_=> .rg {fz:=[21]} []<| .r<| .it (.r<| .im (.ad 4 22 133 2 (aB ax.cell ([]:List ax)))<| .en (([]:List ax),r_.2) [] [(22,0)])
  (.r<| .r<| .im (.ad 8 39 133 2 (aB ax.cell ([]:List ax)))<| .lp (σ:=((List ax) × Int)) (β:=(List ax)) (([]:List ax),0) [] [(39,26)] ⟨[6,24,25],[],fun(u1,u0)=>[(8,(vO 26 false u1.length)),(26,(vI u0))],fun(u1,u0)=>[(26,some (bX 133 2 ax.cell u1))]⟩ ⟨[],[],fun u2=>[(8,(vO 26 false u2.length))],fun u2=>[(26,some (bX 133 2 ax.cell u2))]⟩
  (fun(u1,u0)=> .r<| .it (.a1 ((0:Int)≤u0∧u0<(p.racks.length:Int))<| .rg {fr:=[(2,35)],fz:=[35]} []<| .rg {fr:=[(0,36)]} []<| .r<| .ul 11<| .r<| .t<| .rg {an:=[(1, .vals [(.int .i64 ((Ku p u0).e0))])]} [.pf ⟨(0:Int)≤0∧(0:Int)<(2:Nat),(by decide)⟩, .pf ⟨0*1+1≤(Xj p u0).length,Nat.le_of_ble_eq_true rfl⟩, .pf ⟨((Xj p u0).drop (0*1)).take 1=[(.int .i64 ((Ku p u0).e0))].map .d,rfl⟩]<| .a1 ((gB [((decide (0≤((Ku p u0).e0))),true)]=true→(0:Int)≤(Ku p u0).e0∧(Ku p u0).e0<(r_.1.length:Int)))<| .rg {} [0, .pf ⟨(0:Int)≤0∧(0:Int)<(2:Nat),(by decide)⟩]<| .r<| .im (.dp [6,8,11,24,25,26,31,32])<| .r<| .t<| .rg {an:=[(1, .vals [(.int .i64 ((Ku p u0).e1))])]} [.pf ⟨(0:Int)≤1∧(1:Int)<(2:Nat),(by decide)⟩, .pf ⟨1*1+1≤(Xj p u0).length,Nat.le_of_ble_eq_true rfl⟩, .pf ⟨((Xj p u0).drop (1*1)).take 1=[(.int .i64 ((Ku p u0).e1))].map .d,rfl⟩]<| .a1 ((gB [((decide (0≤((Ku p u0).e1))),true)]=true→(0:Int)≤(Ku p u0).e1∧(Ku p u0).e1<(r_.1.length:Int)))<| .rg {} [0, .pf ⟨(0:Int)≤1∧(1:Int)<(2:Nat),(by decide)⟩]<| .r<| .im (.dp [6,8,11,24,25,26,31,32])<| .r<| .f<| .a2 ((Yv p u0 r_ u1)*2≤140737488355328) (u1.length+[(Ue p u0 r_)].length≤4611686018427387904)<| .rg {an:=[(2, .arr [(Ue p u0 r_)].length (XR p u0 r_)),(3, .arr (Xc p u0 r_ u1).length (Yj p u0 r_ u1))],fr:=[(2,37),(3,38)]} [.pf ⟨[(Ue p u0 r_)].length=1,rfl⟩, .pf ⟨aQ 1 2 (rZ 2 [(.bool (Yo p u0 r_)),(.bool (YE p u0 r_))]) (XR p u0 r_),(by intro i hi j hj;match i,j,hi,hj with|0,0,_,_=>rfl|0,1,_,_=>rfl)⟩, .e (u1.length),0,1, .pf ⟨(Xc p u0 r_ u1).length=u1.length+[(Ue p u0 r_)].length,List.length_append⟩, .pf ⟨aQ (Yv p u0 r_ u1) 2 (lu (aB ax.cell u1) u1.length (XR p u0 r_)) (Yj p u0 r_ u1),dm _ _ _ _⟩]<| .r<| .en (.next ((Xc p u0 r_ u1),(k0 u0))) [] [(38,26)])
  (.e (.done (.brk u1))))
  (fun u2=> .r<| .en (u2,0) [] [(26,0)])))
theorem zF (r_:Int) (x1:(List ax)):dK Tryz.prog 136 [(sI r_),(sD (wC [(aA none 2 ax.cell x1)] 0))] [] (fun r=>(vB r)) (fun _=>[]) (o7 r_ x1):=
  dS tT mX Tryz.func136 (
  .r<| .a2 ((0:Int)≤r_∧r_<(x1.length:Int)) ((gB [((!((at' x1 r_.toNat).e0)),true)]=true→(0:Int)≤r_∧r_<(x1.length:Int)))<| .rg {} [0, .pf ⟨(0:Int)≤0∧(0:Int)<(2:Nat),(by decide)⟩,1, .pf ⟨(0:Int)≤1∧(1:Int)<(2:Nat),(by decide)⟩]<| .e (bif (!((at' x1 r_.toNat).e0))then(!((at' x1 r_.toNat).e1))else false))
section
variable (s_:(List Int)) (f_:(List ax))
abbrev YP:List SV:=[(sD (NY s_)),(sD (.fn 136 1 (bn [(wC [(aA none 2 ax.cell f_)] 0)])))]
end
theorem pK (s_:(List Int)) (f_:(List ax)):dK Tryz.prog 205 (YP s_ f_) [] (fun r=>(vI r)) (fun _=>[]) (iI s_ f_):=
  dS tT mX Tryz.func205 (
  .r<| .r<| .lp (σ:=Int) (β:=Unit) (0) [] [] ⟨[0,1,7],[],fun t8=>[(8,(vI t8))],fun t8=>[]⟩ ⟨[],[],fun _=>[],fun _=>[]⟩
  (fun t8=> .r<| .it (.r<| .cl 5 (zF (at' s_ t8.toNat) f_) fun r_=> .a1 ((0:Int)≤t8∧t8<(s_.length:Int))<| .rg {} [0,1]<| .it (.r<| .e (.done (.ret t8)))
  (.r<| .e (.next (k0 t8))))
  (.e (.done (.brk ()))))
  (fun _=> .r<| .e (-1)))
theorem oK (s_:(List Int)) (f_:(List ax)):dK Tryz.prog 129 (YP s_ f_) [] (fun r=>(vB r)) (fun _=>[]) (d9 s_ f_):=
  dS tT mX Tryz.func129 (
  .r<| .cl 2 (pK s_ f_) fun r_=> .r<| .e (decide (0≤r_)))
theorem Af (s_:(List Int)) (v_:Int):dK Tryz.prog 262 [(sD (NY s_)),(sI v_)] [] (fun r=>(vI r)) (fun _=>[]) (qF s_ v_):=
  dS tT mX Tryz.func262 (
  .r<| .r<| .lp (σ:=Int) (β:=Unit) (0) [] [] ⟨[0,1,7],[],fun t8=>[(8,(vI t8))],fun t8=>[]⟩ ⟨[],[],fun _=>[],fun _=>[]⟩
  (fun t8=> .r<| .it (.r<| .a1 ((0:Int)≤t8∧t8<(s_.length:Int))<| .r<| .it (.r<| .e (.done (.ret t8)))
  (.r<| .e (.next (k0 t8))))
  (.e (.done (.brk ()))))
  (fun _=> .r<| .e (-1)))
theorem oL (s_:(List Int)) (v_:Int):dK Tryz.prog 209 [(sD (NY s_)),(sI v_)] [] (fun r=>(vB r)) (fun _=>[]) (iw s_ v_):=
  dS tT mX Tryz.func209 (
  .r<| .cl 2 (Af s_ v_) fun r_=> .r<| .e (decide (0≤r_)))
theorem CB (p:av) (s_:State) (t:Task) (b:Int):dK Tryz.prog 138 [(.agg (k6 p)),(.agg (k1 s_)),(.agg (k7 t)),(sI b)] [] (fun r=>(vB r)) (fun _=>[]) (pI p s_ t b):=
  dS tT mX Tryz.func138 (
  .rg {fr:=[(0,11),(1,12),(2,13)],fz:=[12,13]} []<| .a1 ((0:Int)≤b∧b<(s_.earthed.length:Int))<| .r<| .it (.r<| .e false)
  (.r<| .lp (σ:=Int) (β:=Unit) (0) [] [] ⟨[3,4,5,6,20,21],[11],fun u1=>[(22,(vI u1))],fun u1=>[]⟩ ⟨[3,4,5,6],[11],fun _=>[],fun _=>[]⟩
  (fun u1=> .r<| .it (.a1 ((0:Int)≤u1∧u1<(p.sources.length:Int))<| .rg {fr:=[(3,17)],fz:=[17]} []<| .a1 ((gB [((decide (((at' p.sources u1.toNat).bus)=b)),true)]=true→(0:Int)≤u1∧u1<(s_.on_.length:Int)))<| .r<| .it (.r<| .e (.done (.ret false)))
  (.r<| .e (.next (k0 u1))))
  (.e (.done (.brk ()))))
  (fun _=> .r<| .lp (σ:=Int) (β:=Unit) (0) [] [] ⟨[3,5,6,40,41],[],fun u0=>[(42,(vI u0))],fun u0=>[]⟩ ⟨[],[],fun _=>[],fun _=>[]⟩
  (fun u0=> .r<| .it (.a1 (WL p u0)<| .rg {fr:=[(3,21)],fz:=[21]} []<| .cg 20 [((bif (!decide (((at' p.links u0.toNat).a)=b))then(!decide (((at' p.links u0.toNat).b)=b))else false),false)] (oL t.crew (IntKind.wrap .i64 ((IntKind.wrap .i64 (((at' p.links u0.toNat).a)+((at' p.links u0.toNat).b))) - b))) fun r_=> .r<| .it (.r<| .e (.next (k0 u0)))
  (.a2 ((gB [((decide (((at' p.links u0.toNat).kind)=1)),false)]=true→(0:Int)≤u0∧u0<(s_.closed.length:Int))) ((gB [((bif (decide (((at' p.links u0.toNat).kind)=1))then true else(at' s_.closed u0.toNat)),false)]=true→(0:Int)≤u0∧u0<(s_.locked.length:Int)))<| .rg {} [0,1]<| .it (.r<| .e (.done (.ret false)))
  (.r<| .e (.next (k0 u0)))))
  (.e (.done (.brk ()))))
  (fun _=> .r<| .e true))))
section
variable (x3:(List Int)) (u9:(List Int)) (v0:(List aj)) (v1:(List aj)) (x2:(List Bool)) (u3:(List Bool)) (u4:(List Bool)) (u5:(List Bool)) (u6:(List Bool)) (u7:(List Bool)) (u8:(List Bool))
abbrev Wm:DV:=(wC [(NY x3),(NY u9),(R8 v0),(R8 v1)] 0)
abbrev tV:=(⟨x2,u3,u4,u5,u6,u7,u8⟩:State)
end
theorem zK (b:Int) (x1:Int) (u0:(List Source)) (u1:(List Link)) (u2:(List aJ)) (x2:(List Bool)) (u3:(List Bool)) (u4:(List Bool)) (u5:(List Bool)) (u6:(List Bool)) (u7:(List Bool)) (u8:(List Bool)) (x3:(List Int)) (u9:(List Int)) (v0:(List aj)) (v1:(List aj)):dK Tryz.prog 137 [(sI b),(sD (k9 x1 u0 u1 u2)),(sD (VJ x2 u3 u4 u5 u6 u7 u8)),(sD (Wm x3 u9 v0 v1))] [] (fun r=>(vB r)) (fun _=>[]) (o6 b x1 u0 u1 u2 x2 u3 u4 u5 u6 u7 u8 x3 u9 v0 v1):=
  dS tT mX Tryz.func137 (
  .r<| .cl 4 (CB (⟨x1,u0,u1,u2⟩:av) (tV x2 u3 u4 u5 u6 u7 u8) (⟨x3,u9,v0,v1⟩:Task) b) fun r_=> .r<| .e (!r_))
section
variable (s_:(List Int)) (f_:Int) (u0:(List Source)) (u1:(List Link)) (u2:(List aJ)) (u3:(List Bool)) (u4:(List Bool)) (u5:(List Bool)) (u6:(List Bool)) (u7:(List Bool)) (u8:(List Bool)) (u9:(List Bool)) (v0:(List Int)) (v1:(List Int)) (v2:(List aj)) (v3:(List aj))
abbrev Ww:List SV:=[(sD (NY s_)),(sD (.fn 137 3 (bn [(k9 f_ u0 u1 u2),(VJ u3 u4 u5 u6 u7 u8 u9),(Wm v0 v1 v2 v3)])))]
end
theorem pX (s_:(List Int)) (f_:Int) (u0:(List Source)) (u1:(List Link)) (u2:(List aJ)) (u3:(List Bool)) (u4:(List Bool)) (u5:(List Bool)) (u6:(List Bool)) (u7:(List Bool)) (u8:(List Bool)) (u9:(List Bool)) (v0:(List Int)) (v1:(List Int)) (v2:(List aj)) (v3:(List aj)):dK Tryz.prog 205 (Ww s_ f_ u0 u1 u2 u3 u4 u5 u6 u7 u8 u9 v0 v1 v2 v3) [] (fun r=>(vI r)) (fun _=>[]) (iF s_ f_ u0 u1 u2 u3 u4 u5 u6 u7 u8 u9 v0 v1 v2 v3):=
  dS tT mX Tryz.func205 (
  .r<| .r<| .lp (σ:=Int) (β:=Unit) (0) [] [] ⟨[0,1,7],[],fun t8=>[(8,(vI t8))],fun t8=>[]⟩ ⟨[],[],fun _=>[],fun _=>[]⟩
  (fun t8=> .r<| .it (.r<| .cl 5 (zK (at' s_ t8.toNat) f_ u0 u1 u2 u3 u4 u5 u6 u7 u8 u9 v0 v1 v2 v3) fun r_=> .a1 ((0:Int)≤t8∧t8<(s_.length:Int))<| .rg {} [0,1]<| .it (.r<| .e (.done (.ret t8)))
  (.r<| .e (.next (k0 t8))))
  (.e (.done (.brk ()))))
  (fun _=> .r<| .e (-1)))
theorem oP (s_:(List Int)) (f_:Int) (u0:(List Source)) (u1:(List Link)) (u2:(List aJ)) (u3:(List Bool)) (u4:(List Bool)) (u5:(List Bool)) (u6:(List Bool)) (u7:(List Bool)) (u8:(List Bool)) (u9:(List Bool)) (v0:(List Int)) (v1:(List Int)) (v2:(List aj)) (v3:(List aj)):dK Tryz.prog 129 (Ww s_ f_ u0 u1 u2 u3 u4 u5 u6 u7 u8 u9 v0 v1 v2 v3) [] (fun r=>(vB r)) (fun _=>[]) (dY s_ f_ u0 u1 u2 u3 u4 u5 u6 u7 u8 u9 v0 v1 v2 v3):=
  dS tT mX Tryz.func129 (
  .r<| .cl 2 (pX s_ f_ u0 u1 u2 u3 u4 u5 u6 u7 u8 u9 v0 v1 v2 v3) fun r_=> .r<| .e (decide (0≤r_)))
section
variable (p:av) (s_:State) (t:Task)
abbrev WB:List SV:=[(.agg (k6 p)),(.agg (k1 s_)),(.agg (k7 t))]
end
theorem uD (p:av) (s_:State) (t:Task):dK Tryz.prog 62 (WB p s_ t) [] (fun r=>(vI r)) (fun _=>[]) (lG p s_ t):=
  dS tT mX Tryz.func62 (
  .rg {fr:=[(0,5),(1,6),(2,7)],fz:=[5,6,7]} []<| .cl 2 (Cz p s_) fun r_=> .r<| .r<| .lp (σ:=Int) (β:=Unit) (0) [] [] ⟨[3,4,5,21,22],[],fun u0=>[(23,(vI u0))],fun u0=>[]⟩ ⟨[3,4,5],[],fun _=>[],fun _=>[]⟩
  (fun u0=> .r<| .it (.a1 ((0:Int)≤u0∧u0<(r_.1.length:Int))<| .r<| .a1 ((gB [((at' r_.1 u0.toNat),true)]=true→(0:Int)≤u0∧u0<(s_.earthed.length:Int)))<| .r<| .it (.r<| .e (.done (.ret 40)))
  (.r<| .e (.next (k0 u0))))
  (.e (.done (.brk ()))))
  (fun _=> .cl 2 (zV p s_) fun u2=> .r<| .r<| .it (.r<| .e 41)
  (.cl 2 (dI [(0,8)] (sH p s_)) fun u1=> .rg {fr:=[(6,9)],fz:=[8]} []<| .fz [9]<| .cl 3 (oK t.fed u1.1) fun u3=> .r<| .it (.r<| .e 42)
  (.cl 3 (oP t.crew p.buses p.sources p.links p.racks s_.closed s_.locked s_.badLink s_.on_ s_.badSource s_.earthed s_.badBus t.fed t.crew t.allowed t.goal) fun u4=> .r<| .it (.r<| .e 45)
  (.r<| .e 0)))))
theorem nX (p:av) (s_:State) (t:Task):dK Tryz.prog 13 (WB p s_ t) [] (fun r=>(vI r)) (fun _=>[]) (jO p s_ t):=
  dS tT mX Tryz.func13 (
  .rg {fr:=[(0,3),(1,4),(2,5)],fz:=[3,4,5]} []<| .cl 2 (bO p s_) fun r_=> .r<| .r<| .it (.r<| .e r_)
  (.cl 2 (AR p t) fun u1=> .r<| .it (.r<| .e 1)
  (.cl 3 (uD p s_ t) fun u0=> .r<| .e u0)))
theorem rY (s_:(List Bool)) (u0:Bool):dK Tryz.prog 149 [(sD (aA (some u0) 1 af s_))] [] (fun r=>(vD (aA none 1 af r))) (fun _=>[]) (kG s_ u0):=
  dS tT mX Tryz.func149 (
  .r<| .r<| .it (.r<| .e ([]:List Bool))
  (.a2 ((([]:List Bool).length+s_.length)*1≤140737488355328) (([]:List Bool).length+s_.length≤4611686018427387904)<| .rg {an:=[(0, .arr ([]:List Bool).length (aB af ([]:List Bool))),(2, .arr (([]:List Bool)++s_).length (aB af (([]:List Bool)++s_)))],fr:=[(0,2),(2,3)],fz:=[3]} [.pf ⟨([]:List Bool).length=0,rfl⟩, .pf ⟨aQ 0 1 (rZ 1 []) (aB af ([]:List Bool)),(fun i hi=>absurd hi (Nat.not_lt_zero i))⟩, .e (([]:List Bool).length),0,1, .pf ⟨(([]:List Bool)++s_).length=([]:List Bool).length+s_.length,List.length_append⟩, .pf ⟨aQ (([]:List Bool).length+s_.length) 1 (lu (aB af ([]:List Bool)) ([]:List Bool).length (aB af s_)) (aB af (([]:List Bool)++s_)),dm _ _ _ _⟩]<| .e (([]:List Bool)++s_)))
theorem aX (s:(List Bool)) {r:(List Bool)} (h:ai s=some r):Fn Tryz.prog 149 [(sD (aA none 1 af s))] [] (vD (aA none 1 af r)) []:=by
 refine Fn.nn (rY s true h) fun hl=> ?_
 have hs:s=[]:=List.eq_nil_of_length_eq_zero hl
 subst hs
 exact rY [] false (by rw [←h];kernel_rfl)
abbrev sW:List DV:=[(.int .i64 1),(.int .i64 2),(.int .i64 3),(.int .i64 4),(.int .i64 5),(.int .i64 6),(.int .i64 7),(.int .i64 8)]
abbrev tK:List CV:=[(.d (.fn 267 0 (bn []))),(cB false),(.d (.fn 267 0 (bn []))),(cB true),(.d (.fn 269 0 (bn []))),(cB true),(.d (.fn 269 0 (bn []))),(cB false),(.d (.fn 268 0 (bn []))),(cB true),(.d (.fn 268 0 (bn []))),(cB false),(.d (.fn 270 0 (bn []))),(cB true),(.d (.fn 270 0 (bn []))),(cB false)]
abbrev IL:List CV:=[(.d (.fn 267 0 (bn []))),(cB false)]
abbrev nU:List DV:=[(.int .i64 1),(.int .i64 2)]
abbrev Ud:List CV:=[(.d (.fn 267 0 (bn []))),(cB false),(.d (.fn 267 0 (bn []))),(cB true)]
abbrev nW:List DV:=[(.int .i64 1),(.int .i64 2),(.int .i64 3)]
abbrev TF:List CV:=[(.d (.fn 267 0 (bn []))),(cB false),(.d (.fn 267 0 (bn []))),(cB true),(.d (.fn 269 0 (bn []))),(cB true)]
abbrev Um:List DV:=[(.int .i64 1),(.int .i64 2),(.int .i64 3),(.int .i64 4)]
abbrev TJ:List CV:=[(.d (.fn 267 0 (bn []))),(cB false),(.d (.fn 267 0 (bn []))),(cB true),(.d (.fn 269 0 (bn []))),(cB true),(.d (.fn 269 0 (bn []))),(cB false)]
abbrev Ti:List DV:=[(.int .i64 1),(.int .i64 2),(.int .i64 3),(.int .i64 4),(.int .i64 5)]
abbrev Ta:List CV:=[(.d (.fn 267 0 (bn []))),(cB false),(.d (.fn 267 0 (bn []))),(cB true),(.d (.fn 269 0 (bn []))),(cB true),(.d (.fn 269 0 (bn []))),(cB false),(.d (.fn 268 0 (bn []))),(cB true)]
abbrev Tm:List DV:=[(.int .i64 1),(.int .i64 2),(.int .i64 3),(.int .i64 4),(.int .i64 5),(.int .i64 6)]
abbrev Uy:List CV:=[(.d (.fn 267 0 (bn []))),(cB false),(.d (.fn 267 0 (bn []))),(cB true),(.d (.fn 269 0 (bn []))),(cB true),(.d (.fn 269 0 (bn []))),(cB false),(.d (.fn 268 0 (bn []))),(cB true),(.d (.fn 268 0 (bn []))),(cB false)]
abbrev Td:List DV:=[(.int .i64 1),(.int .i64 2),(.int .i64 3),(.int .i64 4),(.int .i64 5),(.int .i64 6),(.int .i64 7)]
abbrev Uj:List CV:=[(.d (.fn 267 0 (bn []))),(cB false),(.d (.fn 267 0 (bn []))),(cB true),(.d (.fn 269 0 (bn []))),(cB true),(.d (.fn 269 0 (bn []))),(cB false),(.d (.fn 268 0 (bn []))),(cB true),(.d (.fn 268 0 (bn []))),(cB false),(.d (.fn 270 0 (bn []))),(cB true)]
abbrev N9:List CV:=[(.d (.fn 267 0 (bn []))),(cB true)]
abbrev OH:List CV:=[(.d (.fn 269 0 (bn []))),(cB true)]
abbrev Ol:List CV:=[(.d (.fn 269 0 (bn []))),(cB false)]
abbrev Qk:List CV:=[(.d (.fn 268 0 (bn []))),(cB true)]
abbrev Pz:List CV:=[(.d (.fn 268 0 (bn []))),(cB false)]
abbrev Oy:List CV:=[(.d (.fn 270 0 (bn []))),(cB true)]
abbrev OG:List CV:=[(.d (.fn 270 0 (bn []))),(cB false)]
theorem uI:dK Tryz.prog 220 [] [] (fun _=>(.v (.one (.mp 0)))) (fun _=>[(0,some (.map ⟨43,305,false,true,1,2,8,(dP sW),(kX 2 tK),[]⟩))]) (lq):=
  dS tT mX Tryz.func220 (
  .r<| .r<| .r<| .r<| .r<| .rg {an:=[(0, .map 0 (dP []) (kX 2 []) []),(3, .map 1 (dP [(.int .i64 1)]) (kX 2 IL) []),(6, .map 2 (dP nU) (kX 2 Ud) []),(9, .map 3 (dP nW) (kX 2 TF) []),(12, .map 4 (dP Um) (kX 2 TJ) []),(15, .map 5 (dP Ti) (kX 2 Ta) []),(18, .map 6 (dP Tm) (kX 2 Uy) []),(21, .map 7 (dP Td) (kX 2 Uj) []),(24, .map 8 (dP sW) (kX 2 tK) [])],fr:=[(0,1)]} [.pf ⟨eD [some .i64] 1 2 0 (dP []) (kX 2 []) [(.int .i64 1)] IL [] 1 (dP [(.int .i64 1)]) (kX 2 IL),⟨(fun i hi=>absurd hi (Nat.not_lt_zero i)),(by intro i hi j hj;match i,j,hi,hj with|0,0,_,_=>exact au.1 (show aP (CV.aL (.d (.fn 267 0 (bn [])))) []=true from by kernel_rfl)|0,1,_,_=>exact au.1 (show aP (CV.aL (cB false)) []=true from by kernel_rfl)),0,(fun i hi=>absurd hi (Nat.not_lt_zero i)), .inr ⟨rfl,rfl⟩,rfl,rfl,(fun i hi=>absurd hi (Nat.not_lt_zero i))⟩⟩, .pf ⟨eD [some .i64] 1 2 1 (dP [(.int .i64 1)]) (kX 2 IL) [(.int .i64 2)] N9 [] 2 (dP nU) (kX 2 Ud),⟨(by intro i hi;match i,hi with|0,_=>rfl),(by intro i hi j hj;match i,j,hi,hj with|0,0,_,_=>exact au.1 (show aP (CV.aL (.d (.fn 267 0 (bn [])))) []=true from by kernel_rfl)|0,1,_,_=>exact au.1 (show aP (CV.aL (cB false)) []=true from by kernel_rfl)|1,0,_,_=>exact au.1 (show aP (CV.aL (.d (.fn 267 0 (bn [])))) []=true from by kernel_rfl)|1,1,_,_=>exact au.1 (show aP (CV.aL (cB true)) []=true from by kernel_rfl)),1,(by intro i hi;match i,hi with|0,_=>rfl), .inr ⟨rfl,rfl⟩,rfl,rfl,(by intro i hi;match i,hi with|0,_=>exact fun _=> ⟨rfl,rfl⟩)⟩⟩, .pf ⟨eD [some .i64] 1 2 2 (dP nU) (kX 2 Ud) [(.int .i64 3)] OH [] 3 (dP nW) (kX 2 TF),⟨(by intro i hi;match i,hi with|0,_=>rfl|1,_=>rfl),(by intro i hi j hj;match i,j,hi,hj with|0,0,_,_=>exact au.1 (show aP (CV.aL (.d (.fn 267 0 (bn [])))) []=true from by kernel_rfl)|0,1,_,_=>exact au.1 (show aP (CV.aL (cB false)) []=true from by kernel_rfl)|1,0,_,_=>exact au.1 (show aP (CV.aL (.d (.fn 267 0 (bn [])))) []=true from by kernel_rfl)|1,1,_,_=>exact au.1 (show aP (CV.aL (cB true)) []=true from by kernel_rfl)|2,0,_,_=>exact au.1 (show aP (CV.aL (.d (.fn 269 0 (bn [])))) []=true from by kernel_rfl)|2,1,_,_=>exact au.1 (show aP (CV.aL (cB true)) []=true from by kernel_rfl)),2,(by intro i hi;match i,hi with|0,_=>rfl|1,_=>rfl), .inr ⟨rfl,rfl⟩,rfl,rfl,(by intro i hi;match i,hi with|0,_=>exact fun _=> ⟨rfl,rfl⟩|1,_=>exact fun _=> ⟨rfl,rfl⟩)⟩⟩, .pf ⟨eD [some .i64] 1 2 3 (dP nW) (kX 2 TF) [(.int .i64 4)] Ol [] 4 (dP Um) (kX 2 TJ),⟨(by intro i hi;match i,hi with|0,_=>rfl|1,_=>rfl|2,_=>rfl),(by intro i hi j hj;match i,j,hi,hj with|0,0,_,_=>exact au.1 (show aP (CV.aL (.d (.fn 267 0 (bn [])))) []=true from by kernel_rfl)|0,1,_,_=>exact au.1 (show aP (CV.aL (cB false)) []=true from by kernel_rfl)|1,0,_,_=>exact au.1 (show aP (CV.aL (.d (.fn 267 0 (bn [])))) []=true from by kernel_rfl)|1,1,_,_=>exact au.1 (show aP (CV.aL (cB true)) []=true from by kernel_rfl)|2,0,_,_=>exact au.1 (show aP (CV.aL (.d (.fn 269 0 (bn [])))) []=true from by kernel_rfl)|2,1,_,_=>exact au.1 (show aP (CV.aL (cB true)) []=true from by kernel_rfl)|3,0,_,_=>exact au.1 (show aP (CV.aL (.d (.fn 269 0 (bn [])))) []=true from by kernel_rfl)|3,1,_,_=>exact au.1 (show aP (CV.aL (cB false)) []=true from by kernel_rfl)),3,(by intro i hi;match i,hi with|0,_=>rfl|1,_=>rfl|2,_=>rfl), .inr ⟨rfl,rfl⟩,rfl,rfl,(by intro i hi;match i,hi with|0,_=>exact fun _=> ⟨rfl,rfl⟩|1,_=>exact fun _=> ⟨rfl,rfl⟩|2,_=>exact fun _=> ⟨rfl,rfl⟩)⟩⟩, .pf ⟨eD [some .i64] 1 2 4 (dP Um) (kX 2 TJ) [(.int .i64 5)] Qk [] 5 (dP Ti) (kX 2 Ta),⟨(by intro i hi;match i,hi with|0,_=>rfl|1,_=>rfl|2,_=>rfl|3,_=>rfl),(by intro i hi j hj;match i,j,hi,hj with|0,0,_,_=>exact au.1 (show aP (CV.aL (.d (.fn 267 0 (bn [])))) []=true from by kernel_rfl)|0,1,_,_=>exact au.1 (show aP (CV.aL (cB false)) []=true from by kernel_rfl)|1,0,_,_=>exact au.1 (show aP (CV.aL (.d (.fn 267 0 (bn [])))) []=true from by kernel_rfl)|1,1,_,_=>exact au.1 (show aP (CV.aL (cB true)) []=true from by kernel_rfl)|2,0,_,_=>exact au.1 (show aP (CV.aL (.d (.fn 269 0 (bn [])))) []=true from by kernel_rfl)|2,1,_,_=>exact au.1 (show aP (CV.aL (cB true)) []=true from by kernel_rfl)|3,0,_,_=>exact au.1 (show aP (CV.aL (.d (.fn 269 0 (bn [])))) []=true from by kernel_rfl)|3,1,_,_=>exact au.1 (show aP (CV.aL (cB false)) []=true from by kernel_rfl)|4,0,_,_=>exact au.1 (show aP (CV.aL (.d (.fn 268 0 (bn [])))) []=true from by kernel_rfl)|4,1,_,_=>exact au.1 (show aP (CV.aL (cB true)) []=true from by kernel_rfl)),4,(by intro i hi;match i,hi with|0,_=>rfl|1,_=>rfl|2,_=>rfl|3,_=>rfl), .inr ⟨rfl,rfl⟩,rfl,rfl,(by intro i hi;match i,hi with|0,_=>exact fun _=> ⟨rfl,rfl⟩|1,_=>exact fun _=> ⟨rfl,rfl⟩|2,_=>exact fun _=> ⟨rfl,rfl⟩|3,_=>exact fun _=> ⟨rfl,rfl⟩)⟩⟩, .pf ⟨eD [some .i64] 1 2 5 (dP Ti) (kX 2 Ta) [(.int .i64 6)] Pz [] 6 (dP Tm) (kX 2 Uy),⟨(by intro i hi;match i,hi with|0,_=>rfl|1,_=>rfl|2,_=>rfl|3,_=>rfl|4,_=>rfl),(by intro i hi j hj;match i,j,hi,hj with|0,0,_,_=>exact au.1 (show aP (CV.aL (.d (.fn 267 0 (bn [])))) []=true from by kernel_rfl)|0,1,_,_=>exact au.1 (show aP (CV.aL (cB false)) []=true from by kernel_rfl)|1,0,_,_=>exact au.1 (show aP (CV.aL (.d (.fn 267 0 (bn [])))) []=true from by kernel_rfl)|1,1,_,_=>exact au.1 (show aP (CV.aL (cB true)) []=true from by kernel_rfl)|2,0,_,_=>exact au.1 (show aP (CV.aL (.d (.fn 269 0 (bn [])))) []=true from by kernel_rfl)|2,1,_,_=>exact au.1 (show aP (CV.aL (cB true)) []=true from by kernel_rfl)|3,0,_,_=>exact au.1 (show aP (CV.aL (.d (.fn 269 0 (bn [])))) []=true from by kernel_rfl)|3,1,_,_=>exact au.1 (show aP (CV.aL (cB false)) []=true from by kernel_rfl)|4,0,_,_=>exact au.1 (show aP (CV.aL (.d (.fn 268 0 (bn [])))) []=true from by kernel_rfl)|4,1,_,_=>exact au.1 (show aP (CV.aL (cB true)) []=true from by kernel_rfl)|5,0,_,_=>exact au.1 (show aP (CV.aL (.d (.fn 268 0 (bn [])))) []=true from by kernel_rfl)|5,1,_,_=>exact au.1 (show aP (CV.aL (cB false)) []=true from by kernel_rfl)),5,(by intro i hi;match i,hi with|0,_=>rfl|1,_=>rfl|2,_=>rfl|3,_=>rfl|4,_=>rfl), .inr ⟨rfl,rfl⟩,rfl,rfl,(by intro i hi;match i,hi with|0,_=>exact fun _=> ⟨rfl,rfl⟩|1,_=>exact fun _=> ⟨rfl,rfl⟩|2,_=>exact fun _=> ⟨rfl,rfl⟩|3,_=>exact fun _=> ⟨rfl,rfl⟩|4,_=>exact fun _=> ⟨rfl,rfl⟩)⟩⟩, .pf ⟨eD [some .i64] 1 2 6 (dP Tm) (kX 2 Uy) [(.int .i64 7)] Oy [] 7 (dP Td) (kX 2 Uj),⟨(by intro i hi;match i,hi with|0,_=>rfl|1,_=>rfl|2,_=>rfl|3,_=>rfl|4,_=>rfl|5,_=>rfl),(by intro i hi j hj;match i,j,hi,hj with|0,0,_,_=>exact au.1 (show aP (CV.aL (.d (.fn 267 0 (bn [])))) []=true from by kernel_rfl)|0,1,_,_=>exact au.1 (show aP (CV.aL (cB false)) []=true from by kernel_rfl)|1,0,_,_=>exact au.1 (show aP (CV.aL (.d (.fn 267 0 (bn [])))) []=true from by kernel_rfl)|1,1,_,_=>exact au.1 (show aP (CV.aL (cB true)) []=true from by kernel_rfl)|2,0,_,_=>exact au.1 (show aP (CV.aL (.d (.fn 269 0 (bn [])))) []=true from by kernel_rfl)|2,1,_,_=>exact au.1 (show aP (CV.aL (cB true)) []=true from by kernel_rfl)|3,0,_,_=>exact au.1 (show aP (CV.aL (.d (.fn 269 0 (bn [])))) []=true from by kernel_rfl)|3,1,_,_=>exact au.1 (show aP (CV.aL (cB false)) []=true from by kernel_rfl)|4,0,_,_=>exact au.1 (show aP (CV.aL (.d (.fn 268 0 (bn [])))) []=true from by kernel_rfl)|4,1,_,_=>exact au.1 (show aP (CV.aL (cB true)) []=true from by kernel_rfl)|5,0,_,_=>exact au.1 (show aP (CV.aL (.d (.fn 268 0 (bn [])))) []=true from by kernel_rfl)|5,1,_,_=>exact au.1 (show aP (CV.aL (cB false)) []=true from by kernel_rfl)|6,0,_,_=>exact au.1 (show aP (CV.aL (.d (.fn 270 0 (bn [])))) []=true from by kernel_rfl)|6,1,_,_=>exact au.1 (show aP (CV.aL (cB true)) []=true from by kernel_rfl)),6,(by intro i hi;match i,hi with|0,_=>rfl|1,_=>rfl|2,_=>rfl|3,_=>rfl|4,_=>rfl|5,_=>rfl), .inr ⟨rfl,rfl⟩,rfl,rfl,(by intro i hi;match i,hi with|0,_=>exact fun _=> ⟨rfl,rfl⟩|1,_=>exact fun _=> ⟨rfl,rfl⟩|2,_=>exact fun _=> ⟨rfl,rfl⟩|3,_=>exact fun _=> ⟨rfl,rfl⟩|4,_=>exact fun _=> ⟨rfl,rfl⟩|5,_=>exact fun _=> ⟨rfl,rfl⟩)⟩⟩, .pf ⟨eD [some .i64] 1 2 7 (dP Td) (kX 2 Uj) [(.int .i64 8)] OG [] 8 (dP sW) (kX 2 tK),⟨(by intro i hi;match i,hi with|0,_=>rfl|1,_=>rfl|2,_=>rfl|3,_=>rfl|4,_=>rfl|5,_=>rfl|6,_=>rfl),(by intro i hi j hj;match i,j,hi,hj with|0,0,_,_=>exact au.1 (show aP (CV.aL (.d (.fn 267 0 (bn [])))) []=true from by kernel_rfl)|0,1,_,_=>exact au.1 (show aP (CV.aL (cB false)) []=true from by kernel_rfl)|1,0,_,_=>exact au.1 (show aP (CV.aL (.d (.fn 267 0 (bn [])))) []=true from by kernel_rfl)|1,1,_,_=>exact au.1 (show aP (CV.aL (cB true)) []=true from by kernel_rfl)|2,0,_,_=>exact au.1 (show aP (CV.aL (.d (.fn 269 0 (bn [])))) []=true from by kernel_rfl)|2,1,_,_=>exact au.1 (show aP (CV.aL (cB true)) []=true from by kernel_rfl)|3,0,_,_=>exact au.1 (show aP (CV.aL (.d (.fn 269 0 (bn [])))) []=true from by kernel_rfl)|3,1,_,_=>exact au.1 (show aP (CV.aL (cB false)) []=true from by kernel_rfl)|4,0,_,_=>exact au.1 (show aP (CV.aL (.d (.fn 268 0 (bn [])))) []=true from by kernel_rfl)|4,1,_,_=>exact au.1 (show aP (CV.aL (cB true)) []=true from by kernel_rfl)|5,0,_,_=>exact au.1 (show aP (CV.aL (.d (.fn 268 0 (bn [])))) []=true from by kernel_rfl)|5,1,_,_=>exact au.1 (show aP (CV.aL (cB false)) []=true from by kernel_rfl)|6,0,_,_=>exact au.1 (show aP (CV.aL (.d (.fn 270 0 (bn [])))) []=true from by kernel_rfl)|6,1,_,_=>exact au.1 (show aP (CV.aL (cB true)) []=true from by kernel_rfl)|7,0,_,_=>exact au.1 (show aP (CV.aL (.d (.fn 270 0 (bn [])))) []=true from by kernel_rfl)|7,1,_,_=>exact au.1 (show aP (CV.aL (cB false)) []=true from by kernel_rfl)),7,(by intro i hi;match i,hi with|0,_=>rfl|1,_=>rfl|2,_=>rfl|3,_=>rfl|4,_=>rfl|5,_=>rfl|6,_=>rfl), .inr ⟨rfl,rfl⟩,rfl,rfl,(by intro i hi;match i,hi with|0,_=>exact fun _=> ⟨rfl,rfl⟩|1,_=>exact fun _=> ⟨rfl,rfl⟩|2,_=>exact fun _=> ⟨rfl,rfl⟩|3,_=>exact fun _=> ⟨rfl,rfl⟩|4,_=>exact fun _=> ⟨rfl,rfl⟩|5,_=>exact fun _=> ⟨rfl,rfl⟩|6,_=>exact fun _=> ⟨rfl,rfl⟩)⟩⟩]<| .en () [] [(1,0)])
end
end Sg
