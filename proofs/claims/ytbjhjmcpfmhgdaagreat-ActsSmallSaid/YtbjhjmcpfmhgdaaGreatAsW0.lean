import Derived.Test.YtbjhjmcpfmhgdaaGreatAsGm
import Derived.Test.YtbjhjmcpfmhgdaaGreatProg
import Derived.Test.YtbjhjmcpfmhgdaaGreatAsLf
set_option linter.all false
namespace Sg
open Go Go.Proofs
set_option maxRecDepth 20000
noncomputable section
noncomputable def TT:List (Nat × TI):=[(3,⟨Tryz.t3.desc,Tryz.t3.size,Tryz.t3.bytes,zl Tryz.t3,false⟩),
  (4,⟨Tryz.t4.desc,Tryz.t4.size,Tryz.t4.bytes,zl Tryz.t4,false⟩),
  (5,⟨Tryz.t5.desc,Tryz.t5.size,Tryz.t5.bytes,zl Tryz.t5,false⟩),
  (9,⟨Tryz.t9.desc,Tryz.t9.size,Tryz.t9.bytes,zl Tryz.t9,false⟩),
  (22,⟨Tryz.t22.desc,Tryz.t22.size,Tryz.t22.bytes,zl Tryz.t22,false⟩),
  (23,⟨Tryz.t23.desc,Tryz.t23.size,Tryz.t23.bytes,zl Tryz.t23,false⟩),
  (24,⟨Tryz.t24.desc,Tryz.t24.size,Tryz.t24.bytes,zl Tryz.t24,false⟩),
  (26,⟨Tryz.t25.desc,Tryz.t26.size,Tryz.t26.bytes,zl Tryz.t26,false⟩),
  (27,⟨Tryz.t27.desc,Tryz.t27.size,Tryz.t27.bytes,zl Tryz.t27,false⟩),
  (29,⟨Tryz.t28.desc,Tryz.t29.size,Tryz.t29.bytes,zl Tryz.t29,false⟩),
  (32,⟨Tryz.t3.desc,Tryz.t32.size,Tryz.t32.bytes,zl Tryz.t32,false⟩),
  (33,⟨Tryz.t33.desc,Tryz.t33.size,Tryz.t33.bytes,zl Tryz.t33,false⟩),
  (35,⟨Tryz.t34.desc,Tryz.t35.size,Tryz.t35.bytes,zl Tryz.t35,false⟩),
  (36,⟨Tryz.t3.desc,Tryz.t36.size,Tryz.t36.bytes,zl Tryz.t36,false⟩),
  (38,⟨Tryz.t37.desc,Tryz.t38.size,Tryz.t38.bytes,zl Tryz.t38,true⟩),
  (39,⟨Tryz.t39.desc,Tryz.t39.size,Tryz.t39.bytes,zl Tryz.t39,false⟩),
  (40,⟨Tryz.t40.desc,Tryz.t40.size,Tryz.t40.bytes,zl Tryz.t40,false⟩),
  (43,⟨Tryz.t3.desc,Tryz.t43.size,Tryz.t43.bytes,zl Tryz.t43,false⟩),
  (45,⟨Tryz.t44.desc,Tryz.t45.size,Tryz.t45.bytes,zl Tryz.t45,true⟩),
  (47,⟨Tryz.t41.desc,Tryz.t47.size,Tryz.t47.bytes,zl Tryz.t47,false⟩),
  (49,⟨Tryz.t3.desc,Tryz.t49.size,Tryz.t49.bytes,zl Tryz.t49,false⟩),
  (76,⟨Tryz.t3.desc,Tryz.t76.size,Tryz.t76.bytes,zl Tryz.t76,false⟩),
  (78,⟨Tryz.t77.desc,Tryz.t78.size,Tryz.t78.bytes,zl Tryz.t78,true⟩),
  (101,⟨Tryz.t101.desc,Tryz.t101.size,Tryz.t101.bytes,zl Tryz.t101,false⟩),
  (104,⟨Tryz.t104.desc,Tryz.t104.size,Tryz.t104.bytes,zl Tryz.t104,false⟩),
  (111,⟨Tryz.t110.desc,Tryz.t111.size,Tryz.t111.bytes,zl Tryz.t111,true⟩),
  (121,⟨Tryz.t121.desc,Tryz.t121.size,Tryz.t121.bytes,zl Tryz.t121,false⟩),
  (125,⟨Tryz.t125.desc,Tryz.t125.size,Tryz.t125.bytes,zl Tryz.t125,false⟩),
  (129,⟨Tryz.t128.desc,Tryz.t129.size,Tryz.t129.bytes,zl Tryz.t129,true⟩),
  (130,⟨Tryz.t130.desc,Tryz.t130.size,Tryz.t130.bytes,zl Tryz.t130,false⟩),
  (133,⟨Tryz.t133.desc,Tryz.t133.size,Tryz.t133.bytes,zl Tryz.t133,true⟩),
  (137,⟨Tryz.t107.desc,Tryz.t137.size,Tryz.t137.bytes,zl Tryz.t137,true⟩),
  (138,⟨Tryz.t3.desc,Tryz.t138.size,Tryz.t138.bytes,zl Tryz.t138,false⟩),
  (140,⟨Tryz.t139.desc,Tryz.t140.size,Tryz.t140.bytes,zl Tryz.t140,true⟩),
  (141,⟨Tryz.t141.desc,Tryz.t141.size,Tryz.t141.bytes,zl Tryz.t141,false⟩),
  (143,⟨Tryz.t142.desc,Tryz.t143.size,Tryz.t143.bytes,zl Tryz.t143,false⟩),
  (144,⟨Tryz.t144.desc,Tryz.t144.size,Tryz.t144.bytes,zl Tryz.t144,false⟩),
  (145,⟨Tryz.t145.desc,Tryz.t145.size,Tryz.t145.bytes,zl Tryz.t145,true⟩),
  (147,⟨Tryz.t146.desc,Tryz.t147.size,Tryz.t147.bytes,zl Tryz.t147,true⟩),
  (155,⟨Tryz.t155.desc,Tryz.t155.size,Tryz.t155.bytes,zl Tryz.t155,false⟩),
  (221,⟨Tryz.t220.desc,Tryz.t221.size,Tryz.t221.bytes,zl Tryz.t221,false⟩),
  (226,⟨Tryz.t226.desc,Tryz.t226.size,Tryz.t226.bytes,zl Tryz.t226,false⟩),
  (227,⟨Tryz.t227.desc,Tryz.t227.size,Tryz.t227.bytes,zl Tryz.t227,false⟩),
  (229,⟨Tryz.t229.desc,Tryz.t229.size,Tryz.t229.bytes,zl Tryz.t229,false⟩),
  (231,⟨Tryz.t231.desc,Tryz.t231.size,Tryz.t231.bytes,zl Tryz.t231,false⟩),
  (232,⟨Tryz.t232.desc,Tryz.t232.size,Tryz.t232.bytes,zl Tryz.t232,false⟩),
  (242,⟨Tryz.t242.desc,Tryz.t242.size,Tryz.t242.bytes,zl Tryz.t242,false⟩),
  (244,⟨Tryz.t243.desc,Tryz.t244.size,Tryz.t244.bytes,zl Tryz.t244,false⟩),
  (245,⟨Tryz.t245.desc,Tryz.t245.size,Tryz.t245.bytes,zl Tryz.t245,false⟩),
  (247,⟨Tryz.t247.desc,Tryz.t247.size,Tryz.t247.bytes,zl Tryz.t247,false⟩),
  (248,⟨Tryz.t248.desc,Tryz.t248.size,Tryz.t248.bytes,zl Tryz.t248,false⟩),
  (272,⟨Tryz.t272.desc,Tryz.t272.size,Tryz.t272.bytes,zl Tryz.t272,false⟩),
  (282,⟨Tryz.t281.desc,Tryz.t282.size,Tryz.t282.bytes,zl Tryz.t282,true⟩),
  (284,⟨Tryz.t284.desc,Tryz.t284.size,Tryz.t284.bytes,zl Tryz.t284,false⟩),
  (287,⟨Tryz.t286.desc,Tryz.t287.size,Tryz.t287.bytes,zl Tryz.t287,false⟩),
  (290,⟨Tryz.t290.desc,Tryz.t290.size,Tryz.t290.bytes,zl Tryz.t290,false⟩),
  (293,⟨Tryz.t293.desc,Tryz.t293.size,Tryz.t293.bytes,zl Tryz.t293,false⟩),
  (296,⟨Tryz.t296.desc,Tryz.t296.size,Tryz.t296.bytes,zl Tryz.t296,false⟩),
  (303,⟨Tryz.t303.desc,Tryz.t303.size,Tryz.t303.bytes,zl Tryz.t303,false⟩),
  (305,⟨Tryz.t304.desc,Tryz.t305.size,Tryz.t305.bytes,zl Tryz.t305,false⟩),
  (306,⟨Tryz.t306.desc,Tryz.t306.size,Tryz.t306.bytes,zl Tryz.t306,false⟩),
  (313,⟨Tryz.t313.desc,Tryz.t313.size,Tryz.t313.bytes,zl Tryz.t313,false⟩),
  (329,⟨Tryz.t329.desc,Tryz.t329.size,Tryz.t329.bytes,zl Tryz.t329,false⟩),
  (331,⟨Tryz.t331.desc,Tryz.t331.size,Tryz.t331.bytes,zl Tryz.t331,false⟩),
  (337,⟨Tryz.t336.desc,Tryz.t337.size,Tryz.t337.bytes,zl Tryz.t337,false⟩)]
theorem tT:mI Tryz.prog TT:=⟨dZ (by kernel_rfl) (by kernel_rfl) (by kernel_rfl),⟨fP,bL (by kernel_rfl)⟩,dZ (by kernel_rfl) (by kernel_rfl) (by kernel_rfl),⟨fP,bL (by kernel_rfl)⟩,dZ (by kernel_rfl) (by kernel_rfl) (by kernel_rfl),⟨fP,bL (by kernel_rfl)⟩,dZ (by kernel_rfl) (by kernel_rfl) (by kernel_rfl),⟨fP,bL (by kernel_rfl)⟩,dZ (by kernel_rfl) (by kernel_rfl) (by kernel_rfl),⟨fP,bL (by kernel_rfl)⟩,dZ (by kernel_rfl) (by kernel_rfl) (by kernel_rfl),⟨fP,bL (by kernel_rfl)⟩,dZ (by kernel_rfl) (by kernel_rfl) (by kernel_rfl),⟨fP,bL (by kernel_rfl)⟩,dZ (by kernel_rfl) (by kernel_rfl) (by kernel_rfl),⟨fP,bL (by kernel_rfl)⟩,dZ (by kernel_rfl) (by kernel_rfl) (by kernel_rfl),⟨fP,bL (by kernel_rfl)⟩,dZ (by kernel_rfl) (by kernel_rfl) (by kernel_rfl),⟨fP,bL (by kernel_rfl)⟩,dZ (by kernel_rfl) (by kernel_rfl) (by kernel_rfl),⟨fP,bL (by kernel_rfl)⟩,dZ (by kernel_rfl) (by kernel_rfl) (by kernel_rfl),⟨fP,bL (by kernel_rfl)⟩,dZ (by kernel_rfl) (by kernel_rfl) (by kernel_rfl),⟨fP,bL (by kernel_rfl)⟩,dZ (by kernel_rfl) (by kernel_rfl) (by kernel_rfl),⟨fP,bL (by kernel_rfl)⟩,dZ (by kernel_rfl) (by kernel_rfl) (by kernel_rfl),⟨fun _=> ⟨by kernel_rfl,by kernel_rfl⟩,bL (by kernel_rfl)⟩,dZ (by kernel_rfl) (by kernel_rfl) (by kernel_rfl),⟨fP,bL (by kernel_rfl)⟩,dZ (by kernel_rfl) (by kernel_rfl) (by kernel_rfl),⟨fP,bL (by kernel_rfl)⟩,dZ (by kernel_rfl) (by kernel_rfl) (by kernel_rfl),⟨fP,bL (by kernel_rfl)⟩,dZ (by kernel_rfl) (by kernel_rfl) (by kernel_rfl),⟨fun _=> ⟨by kernel_rfl,by kernel_rfl⟩,bL (by kernel_rfl)⟩,dZ (by kernel_rfl) (by kernel_rfl) (by kernel_rfl),⟨fP,bL (by kernel_rfl)⟩,dZ (by kernel_rfl) (by kernel_rfl) (by kernel_rfl),⟨fP,bL (by kernel_rfl)⟩,dZ (by kernel_rfl) (by kernel_rfl) (by kernel_rfl),⟨fP,bL (by kernel_rfl)⟩,dZ (by kernel_rfl) (by kernel_rfl) (by kernel_rfl),⟨fun _=> ⟨by kernel_rfl,by kernel_rfl⟩,bL (by kernel_rfl)⟩,dZ (by kernel_rfl) (by kernel_rfl) (by kernel_rfl),⟨fP,bL (by kernel_rfl)⟩,dZ (by kernel_rfl) (by kernel_rfl) (by kernel_rfl),⟨fP,bL (by kernel_rfl)⟩,dZ (by kernel_rfl) (by kernel_rfl) (by kernel_rfl),⟨fun _=> ⟨by kernel_rfl,by kernel_rfl⟩,bL (by kernel_rfl)⟩,dZ (by kernel_rfl) (by kernel_rfl) (by kernel_rfl),⟨fP,bL (by kernel_rfl)⟩,dZ (by kernel_rfl) (by kernel_rfl) (by kernel_rfl),⟨fP,bL (by kernel_rfl)⟩,dZ (by kernel_rfl) (by kernel_rfl) (by kernel_rfl),⟨fun _=> ⟨by kernel_rfl,by kernel_rfl⟩,bL (by kernel_rfl)⟩,dZ (by kernel_rfl) (by kernel_rfl) (by kernel_rfl),⟨fP,bL (by kernel_rfl)⟩,dZ (by kernel_rfl) (by kernel_rfl) (by kernel_rfl),⟨fun _=> ⟨by kernel_rfl,by kernel_rfl⟩,bL (by kernel_rfl)⟩,dZ (by kernel_rfl) (by kernel_rfl) (by kernel_rfl),⟨fun _=> ⟨by kernel_rfl,by kernel_rfl⟩,bL (by kernel_rfl)⟩,dZ (by kernel_rfl) (by kernel_rfl) (by kernel_rfl),⟨fP,bL (by kernel_rfl)⟩,dZ (by kernel_rfl) (by kernel_rfl) (by kernel_rfl),⟨fun _=> ⟨by kernel_rfl,by kernel_rfl⟩,bL (by kernel_rfl)⟩,dZ (by kernel_rfl) (by kernel_rfl) (by kernel_rfl),⟨fP,bL (by kernel_rfl)⟩,dZ (by kernel_rfl) (by kernel_rfl) (by kernel_rfl),⟨fP,bL (by kernel_rfl)⟩,dZ (by kernel_rfl) (by kernel_rfl) (by kernel_rfl),⟨fP,bL (by kernel_rfl)⟩,dZ (by kernel_rfl) (by kernel_rfl) (by kernel_rfl),⟨fun _=> ⟨by kernel_rfl,by kernel_rfl⟩,bL (by kernel_rfl)⟩,dZ (by kernel_rfl) (by kernel_rfl) (by kernel_rfl),⟨fun _=> ⟨by kernel_rfl,by kernel_rfl⟩,bL (by kernel_rfl)⟩,dZ (by kernel_rfl) (by kernel_rfl) (by kernel_rfl),⟨fP,bL (by kernel_rfl)⟩,dZ (by kernel_rfl) (by kernel_rfl) (by kernel_rfl),⟨fP,bL (by kernel_rfl)⟩,dZ (by kernel_rfl) (by kernel_rfl) (by kernel_rfl),⟨fP,bL (by kernel_rfl)⟩,dZ (by kernel_rfl) (by kernel_rfl) (by kernel_rfl),⟨fP,bL (by kernel_rfl)⟩,dZ (by kernel_rfl) (by kernel_rfl) (by kernel_rfl),⟨fP,bL (by kernel_rfl)⟩,dZ (by kernel_rfl) (by kernel_rfl) (by kernel_rfl),⟨fP,bL (by kernel_rfl)⟩,dZ (by kernel_rfl) (by kernel_rfl) (by kernel_rfl),⟨fP,bL (by kernel_rfl)⟩,dZ (by kernel_rfl) (by kernel_rfl) (by kernel_rfl),⟨fP,bL (by kernel_rfl)⟩,dZ (by kernel_rfl) (by kernel_rfl) (by kernel_rfl),⟨fP,bL (by kernel_rfl)⟩,dZ (by kernel_rfl) (by kernel_rfl) (by kernel_rfl),⟨fP,bL (by kernel_rfl)⟩,dZ (by kernel_rfl) (by kernel_rfl) (by kernel_rfl),⟨fP,bL (by kernel_rfl)⟩,dZ (by kernel_rfl) (by kernel_rfl) (by kernel_rfl),⟨fP,bL (by kernel_rfl)⟩,dZ (by kernel_rfl) (by kernel_rfl) (by kernel_rfl),⟨fP,bL (by kernel_rfl)⟩,dZ (by kernel_rfl) (by kernel_rfl) (by kernel_rfl),⟨fun _=> ⟨by kernel_rfl,by kernel_rfl⟩,bL (by kernel_rfl)⟩,dZ (by kernel_rfl) (by kernel_rfl) (by kernel_rfl),⟨fP,bL (by kernel_rfl)⟩,dZ (by kernel_rfl) (by kernel_rfl) (by kernel_rfl),⟨fP,bL (by kernel_rfl)⟩,dZ (by kernel_rfl) (by kernel_rfl) (by kernel_rfl),⟨fP,bL (by kernel_rfl)⟩,dZ (by kernel_rfl) (by kernel_rfl) (by kernel_rfl),⟨fP,bL (by kernel_rfl)⟩,dZ (by kernel_rfl) (by kernel_rfl) (by kernel_rfl),⟨fP,bL (by kernel_rfl)⟩,dZ (by kernel_rfl) (by kernel_rfl) (by kernel_rfl),⟨fP,bL (by kernel_rfl)⟩,dZ (by kernel_rfl) (by kernel_rfl) (by kernel_rfl),⟨fP,bL (by kernel_rfl)⟩,dZ (by kernel_rfl) (by kernel_rfl) (by kernel_rfl),⟨fP,bL (by kernel_rfl)⟩,dZ (by kernel_rfl) (by kernel_rfl) (by kernel_rfl),⟨fP,bL (by kernel_rfl)⟩,dZ (by kernel_rfl) (by kernel_rfl) (by kernel_rfl),⟨fP,bL (by kernel_rfl)⟩,dZ (by kernel_rfl) (by kernel_rfl) (by kernel_rfl),⟨fP,bL (by kernel_rfl)⟩,dZ (by kernel_rfl) (by kernel_rfl) (by kernel_rfl),⟨fP,bL (by kernel_rfl)⟩,trivial⟩
theorem mX:Tryz.prog.follows .mixedOrders=true:=by kernel_rfl
def IZ:Go.Shelf.Ren:=⟨fun|6=>207|14=>261|15=>176|20=>288|21=>289|22=>290|23=>291|24=>292|25=>293|26=>294|27=>295|28=>241|29=>242|46=>299|47=>277|48=>278|49=>300|50=>301|57=>302|n=>n,fun|0=>0|3=>3|4=>4|5=>5|9=>9|22=>155|24=>145|25=>301|39=>272|45=>321|46=>322|50=>326|53=>329|55=>331|66=>357|70=>361|76=>374|77=>375|n=>n,fun n=>n⟩
theorem PD:Go.Proofs.SlLaysF0.n6 Tryz.prog IZ:=⟨by kernel_rfl,⟨Tryz.f207.name,by kernel_rfl,Tryz.func207.trans (congrArg some (by kernel_rfl))⟩,⟨Tryz.f261.name,by kernel_rfl,Tryz.func261.trans (congrArg some (by kernel_rfl))⟩,Tryz.func176.trans (congrArg some (by kernel_rfl)),⟨Tryz.f288.name,by kernel_rfl,Tryz.func288.trans (congrArg some (by kernel_rfl))⟩,⟨Tryz.f289.name,by kernel_rfl,Tryz.func289.trans (congrArg some (by kernel_rfl))⟩,⟨Tryz.f290.name,by kernel_rfl,Tryz.func290.trans (congrArg some (by kernel_rfl))⟩,⟨Tryz.f291.name,by kernel_rfl,Tryz.func291.trans (congrArg some (by kernel_rfl))⟩,⟨Tryz.f292.name,by kernel_rfl,Tryz.func292.trans (congrArg some (by kernel_rfl))⟩,⟨Tryz.f293.name,by kernel_rfl,Tryz.func293.trans (congrArg some (by kernel_rfl))⟩,⟨Tryz.f294.name,by kernel_rfl,Tryz.func294.trans (congrArg some (by kernel_rfl))⟩,⟨Tryz.f295.name,by kernel_rfl,Tryz.func295.trans (congrArg some (by kernel_rfl))⟩,Tryz.func241.trans (congrArg some (by kernel_rfl)),Tryz.func242.trans (congrArg some (by kernel_rfl)),⟨Tryz.f299.name,by kernel_rfl,Tryz.func299.trans (congrArg some (by kernel_rfl))⟩,Tryz.func277.trans (congrArg some (by kernel_rfl)),Tryz.func278.trans (congrArg some (by kernel_rfl)),⟨Tryz.f300.name,by kernel_rfl,Tryz.func300.trans (congrArg some (by kernel_rfl))⟩,⟨Tryz.f301.name,by kernel_rfl,Tryz.func301.trans (congrArg some (by kernel_rfl))⟩,⟨Tryz.f302.name,by kernel_rfl,Tryz.func302.trans (congrArg some (by kernel_rfl))⟩,Tryz.underlying0,Tryz.isAgg0,Tryz.sizeOf0,Tryz.zeroValue0,Tryz.underlying3,Tryz.isAgg3,Tryz.sizeOf3,Tryz.zeroValue3,Tryz.underlying4,Tryz.isAgg4,Tryz.sizeOf4,Tryz.zeroValue4,Tryz.underlying5,Tryz.isAgg5,Tryz.sizeOf5,Tryz.zeroValue5,Tryz.underlying9,Tryz.isAgg9,Tryz.sizeOf9,Tryz.zeroValue9,Tryz.underlying155,Tryz.isAgg155,Tryz.sizeOf155,Tryz.zeroValue155,Tryz.underlying301,Tryz.isAgg301,Tryz.sizeOf301,Tryz.zeroValue301,Tryz.underlying272,Tryz.isAgg272,Tryz.sizeOf272,Tryz.zeroValue272,Tryz.underlying321,Tryz.isAgg321,Tryz.sizeOf321,Tryz.zeroValue321,Tryz.underlying322,Tryz.isAgg322,Tryz.sizeOf322,Tryz.zeroValue322,Tryz.underlying326,Tryz.isAgg326,Tryz.sizeOf326,Tryz.zeroValue326,Tryz.underlying329,Tryz.isAgg329,Tryz.sizeOf329,Tryz.zeroValue329,Tryz.underlying331,Tryz.isAgg331,Tryz.sizeOf331,Tryz.zeroValue331,Tryz.underlying357,Tryz.isAgg357,Tryz.sizeOf357,Tryz.zeroValue357,Tryz.underlying361,Tryz.isAgg361,Tryz.sizeOf361,Tryz.zeroValue361,Tryz.underlying374,Tryz.isAgg374,Tryz.sizeOf374,Tryz.zeroValue374,Tryz.underlying375,Tryz.isAgg375,Tryz.sizeOf375,Tryz.zeroValue375⟩
theorem Sr (w:World):(isAgg (IZ.t 24)).run Tryz.prog w= .ok true w:=Tryz.isAgg145 w
theorem Qc (w:World):(Go.sizeOf (IZ.t 24)).run Tryz.prog w= .ok 2 w:=Tryz.sizeOf145 w
section
variable (i:Int)
abbrev k0:=(IntKind.wrap .i64 (i+1))
end
theorem dP (a:(List Bool)) (b:(List Bool)):bX Tryz.prog 73 [(sD (ax none 1 af a)),(sD (ax none 1 af b))] [] (fun r=>(vB r)) (fun _=>[]) (eG a b):=
  dm tT mX Tryz.func73 (
  .r<| .r<| .it (.r<| .e false)
  (.r<| .lp (σ:=Int) (β:=Unit) (0) [] [] ⟨[0,1],[],fun i=>[(5,(vI i))],fun i=>[]⟩ ⟨[],[],fun _=>[],fun _=>[]⟩
  (fun i=> .r<| .it (.a2 ((0:Int)≤i∧i<(a.length:Int)) ((0:Int)≤i∧i<(b.length:Int))<| .rg {} [0,1]<| .it (.r<| .e (.done (.ret false)))
  (.r<| .e (.next (k0 i))))
  (.e (.done (.brk ()))))
  (fun _=> .r<| .e true)))
section
variable (a:State) (r_:Bool) (u0:Bool) (u1:Bool) (u2:Bool) (u3:Bool) (u4:Bool)
abbrev k1:List CV:=[(.d (ax none 1 af a.closed)),(.d (ax none 1 af a.locked)),(.d (ax none 1 af a.badLink)),(.d (ax none 1 af a.on_)),(.d (ax none 1 af a.badSource)),(.d (ax none 1 af a.earthed)),(.d (ax none 1 af a.badBus))]
abbrev k2:=((bif (bif r_ then u0 else false)then u1 else false),true)
abbrev k3:=(bif (bif (bif r_ then u0 else false)then u1 else false)then u2 else false)
abbrev k4:=(bif (k3 r_ u0 u1 u2)then u3 else false)
abbrev k5:=(bif (k4 r_ u0 u1 u2 u3)then u4 else false)
end
theorem Bj (a:State) (b:State):bX Tryz.prog 17 [(.agg (k1 a)),(.agg (k1 b))] [] (fun r=>(vB r)) (fun _=>[]) (xw a b):=
  dm tT mX Tryz.func17 (
  .rg {fr:=[(0,2),(1,3)],fz:=[2,3]} []<| .cl 4 (dP a.closed b.closed) fun r_=> .cg 10 [(r_,true)] (dP a.locked b.locked) fun u0=> .cg 17 [((bif r_ then u0 else false),true)] (dP a.badLink b.badLink) fun u1=> .cg 24 [(k2 r_ u0 u1)] (dP a.on_ b.on_) fun u2=> .cg 31 [((k3 r_ u0 u1 u2),true)] (dP a.badSource b.badSource) fun u3=> .cg 38 [((k4 r_ u0 u1 u2 u3),true)] (dP a.earthed b.earthed) fun u4=> .cg 45 [((k5 r_ u0 u1 u2 u3 u4),true)] (dP a.badBus b.badBus) fun u5=> .r<| .e (bif (k5 r_ u0 u1 u2 u3 u4)then u5 else false))
theorem aJ (n:Int) (u0:Int) (u1:Int):bX Tryz.prog 198 [(sI n),(sI u0),(sI u1)] [] (fun r=>(vB r)) (fun _=>[]) (aV n u0 u1):=
  dm tT mX Tryz.func198 (
  .r<| .r<| .e (bif (decide (u0≤n))then(decide (n≤u1))else false))
section
variable (p:ay)
abbrev k7:List CV:=[(cI p.buses),(.d (ax none 5 Source.cell p.sources)),(.d (ax none 6 Link.cell p.links)),(.d (ax none 4 aL.cell p.racks))]
abbrev k6:List SV:=[(.agg (k7 p))]
end
theorem BM (p:ay):bX Tryz.prog 200 (k6 p) [] (fun r=>(vD (.fn 253 1 (aQ [(tQ [(.int .i64 r.1),(ax none 5 Source.cell r.2.1),(ax none 6 Link.cell r.2.2.1),(ax none 4 aL.cell r.2.2.2)] 0)])))) (fun _=>[]) (rJ p):=
  dm tT mX Tryz.func200 (
  .rg {fr:=[(0,1)],fz:=[1]} []<| .r<| .e (p.buses,p.sources,p.links,p.racks))
theorem DT (p:ay):bX Tryz.prog 202 (k6 p) [] (fun r=>(vD (.fn 256 1 (aQ [(tQ [(.int .i64 r.1),(ax none 5 Source.cell r.2.1),(ax none 6 Link.cell r.2.2.1),(ax none 4 aL.cell r.2.2.2)] 0)])))) (fun _=>[]) (wV p):=
  dm tT mX Tryz.func202 (
  .rg {fr:=[(0,1)],fz:=[1]} []<| .r<| .e (p.buses,p.sources,p.links,p.racks))
theorem D8 (p:ay):bX Tryz.prog 204 (k6 p) [] (fun r=>(vD (.fn 259 1 (aQ [(tQ [(.int .i64 r.1),(ax none 5 Source.cell r.2.1),(ax none 6 Link.cell r.2.2.1),(ax none 4 aL.cell r.2.2.2)] 0)])))) (fun _=>[]) (wM p):=
  dm tT mX Tryz.func204 (
  .rg {fr:=[(0,1)],fz:=[1]} []<| .r<| .e (p.buses,p.sources,p.links,p.racks))
section
variable (x1:Int) (u2:(List Source)) (u3:(List Link)) (u4:(List aL))
abbrev k8:DV:=(tQ [(.int .i64 x1),(ax none 5 Source.cell u2),(ax none 6 Link.cell u3),(ax none 4 aL.cell u4)] 0)
abbrev k9:=(IntKind.wrap .i64 (x1 - 1))
end
theorem zO (x:Source) (x1:Int) (u2:(List Source)) (u3:(List Link)) (u4:(List aL)):bX Tryz.prog 253 [(.agg [(cI x.bus),(cI x.kind),(cI x.power),(cI x.sync),(cI x.ohm)]),(sD (k8 x1 u2 u3 u4))] [] (fun r=>(vB r)) (fun _=>[]) (lD x x1 u2 u3 u4):=
  dm tT mX Tryz.func253 (
  .rg {fr:=[(0,1)],fz:=[1]} []<| .cl 5 (aJ x.bus 0 (k9 x1)) fun r_=> .cg 9 [(r_,true)] (aJ x.kind 1 3) fun u0=> .cg 14 [((bif r_ then u0 else false),true)] (aJ x.power 1 100000) fun u1=> .cg 19 [(k2 r_ u0 u1)] (aJ x.sync 0 8) fun u5=> .cg 24 [((k3 r_ u0 u1 u5),true)] (aJ x.ohm 10 100000) fun u6=> .r<| .e (k4 r_ u0 u1 u5 u6))
section
variable (x1:Int) (u0:(List Source)) (u1:(List Link)) (u2:(List aL))
abbrev k11:=(aQ [(k8 x1 u0 u1 u2)])
abbrev k10:DV:=(tQ [(.fn 253 1 (k11 x1 u0 u1 u2))] 0)
end
theorem Cb (x:Source) (x1:Int) (u0:(List Source)) (u1:(List Link)) (u2:(List aL)):bX Tryz.prog 252 [(.agg [(cI x.bus),(cI x.kind),(cI x.power),(cI x.sync),(cI x.ohm)]),(sD (k10 x1 u0 u1 u2))] [] (fun r=>(vB r)) (fun _=>[]) (si x x1 u0 u1 u2):=
  dm tT mX Tryz.func252 (
  .rg {fr:=[(0,1)],fz:=[1]} []<| .cl 2 (zO x x1 u0 u1 u2) fun r_=> .r<| .e (!r_))
section
variable (s_:(List Source)) (f_:Int) (u0:(List Source)) (u1:(List Link)) (u2:(List aL))
abbrev k12:List SV:=[(sD (ax none 5 Source.cell s_)),(sD (.fn 252 1 (aQ [(k10 f_ u0 u1 u2)])))]
end
theorem xB (s_:(List Source)) (f_:Int) (u0:(List Source)) (u1:(List Link)) (u2:(List aL)):bX Tryz.prog 285 (k12 s_ f_ u0 u1 u2) [] (fun r=>(vI r)) (fun _=>[]) (mE s_ f_ u0 u1 u2):=
  dm tT mX Tryz.func285 (
  .r<| .r<| .lp (σ:=Int) (β:=Unit) (0) [] [] ⟨[0,1,7],[],fun t8=>[(8,(vI t8))],fun t8=>[]⟩ ⟨[],[],fun _=>[],fun _=>[]⟩
  (fun t8=> .r<| .it (.r<| .cl 5 (Cb (at' s_ t8.toNat) f_ u0 u1 u2) fun r_=> .a1 ((0:Int)≤t8∧t8<(s_.length:Int))<| .rg {} [0,1]<| .it (.r<| .e (.done (.ret t8)))
  (.r<| .e (.next (k0 t8))))
  (.e (.done (.brk ()))))
  (fun _=> .r<| .e (-1)))
theorem uS (s_:(List Source)) (f_:Int) (u0:(List Source)) (u1:(List Link)) (u2:(List aL)):bX Tryz.prog 251 (k12 s_ f_ u0 u1 u2) [] (fun r=>(vB r)) (fun _=>[]) (iB s_ f_ u0 u1 u2):=
  dm tT mX Tryz.func251 (
  .r<| .cl 2 (xB s_ f_ u0 u1 u2) fun r_=> .r<| .e (decide (0≤r_)))
theorem DY (l:(List Source)) (u0:Int) (u1:Int) (u2:(List Source)) (u3:(List Link)) (u4:(List aL)):bX Tryz.prog 199 [(sD (ax none 5 Source.cell l)),(sI u0),(sD (.fn 253 1 (k11 u1 u2 u3 u4)))] [] (fun r=>(vB r)) (fun _=>[]) (qw l u0 u1 u2 u3 u4):=
  dm tT mX Tryz.func199 (
  .rg {fr:=[(0,1)],fz:=[1]} []<| .cg 7 [((decide ((l.length:Int)≤u0)),true)] (uS l u1 u2 u3 u4) fun r_=> .r<| .e (bif (decide ((l.length:Int)≤u0))then(!r_)else false))
section
variable (x:Link)
abbrev k13:List CV:=[(cI x.a),(cI x.b),(cI x.kind),(cI x.most),(cI x.ohm),(.d (ax none 2 dU.cell x.trip))]
end
theorem Cw (x:Link) (x1:Int) (u3:(List Source)) (u4:(List Link)) (u5:(List aL)):bX Tryz.prog 256 [(.agg (k13 x)),(sD (k8 x1 u3 u4 u5))] [] (fun r=>(vB r)) (fun _=>[]) (ny x x1 u3 u4 u5):=
  dm tT mX Tryz.func256 (
  .rg {fr:=[(0,5)]} []<| .cl 5 (aJ x.a 0 (k9 x1)) fun r_=> .cg 13 [((!r_),false)] (aJ x.b 0 (k9 x1)) fun u1=> .cg 26 [((bif (bif (!r_)then true else(!u1))then true else(decide (x.a=x.b))),false)] (aJ x.kind 1 3) fun u6=> .cg 32 [((bif (bif (bif (!r_)then true else(!u1))then true else(decide (x.a=x.b)))then true else(!u6)),false)] (aJ x.most 1 100000) fun u8=> .cg 38 [((bif (bif (bif (bif (!r_)then true else(!u1))then true else(decide (x.a=x.b)))then true else(!u6))then true else(!u8)),false)] (aJ x.ohm 10 100000) fun u9=> .r<| .it (.r<| .e false)
  (.rg {fz:=[5]} []<| .lp (σ:=Int) (β:=Unit) (0) [] [] ⟨[2,48,49],[],fun u0=>[(50,(vI u0))],fun u0=>[]⟩ ⟨[2],[],fun _=>[],fun _=>[]⟩
  (fun u0=> .r<| .it (.a1 ((0:Int)≤u0∧u0<(x.trip.length:Int))<| .rg {fr:=[(3,9)],fz:=[9]} []<| .cl 2 (aJ ((at' x.trip u0.toNat).amps) 1 1000000) fun u2=> .cg 7 [((!u2),false)] (aJ ((at' x.trip u0.toNat).millis) 1 100000) fun u7=> .a2 ((gB [((decide (0<u0)),true),((bif (!u2)then true else(!u7)),false)]=true→(0:Int)≤(k9 u0)∧(k9 u0)<(x.trip.length:Int))) ((gB [((decide (((at' x.trip u0.toNat).amps)≤((at' x.trip ((k9 u0).toNat)).amps))),false),((decide (0<u0)),true),((bif (!u2)then true else(!u7)),false)]=true→(0:Int)≤(k9 u0)∧(k9 u0)<(x.trip.length:Int)))<| .rg {} [3,2,0,1]<| .it (.r<| .e (.done (.ret false)))
  (.r<| .e (.next (k0 u0))))
  (.e (.done (.brk ()))))
  (fun _=> .r<| .e (bif (decide ((x.trip.length:Int)≤6))then(bif (decide ((x.trip.length:Int)=0))then true else(decide (x.kind=3)))else false))))
section
variable (x1:Int) (u0:(List Source)) (u1:(List Link)) (u2:(List aL))
abbrev k14:DV:=(tQ [(.fn 256 1 (k11 x1 u0 u1 u2))] 0)
end
theorem yt (x:Link) (x1:Int) (u0:(List Source)) (u1:(List Link)) (u2:(List aL)):bX Tryz.prog 255 [(.agg (k13 x)),(sD (k14 x1 u0 u1 u2))] [] (fun r=>(vB r)) (fun _=>[]) (nk x x1 u0 u1 u2):=
  dm tT mX Tryz.func255 (
  .rg {fr:=[(0,1)],fz:=[1]} []<| .cl 2 (Cw x x1 u0 u1 u2) fun r_=> .r<| .e (!r_))
section
variable (s_:(List Link)) (f_:Int) (u0:(List Source)) (u1:(List Link)) (u2:(List aL))
abbrev k15:List SV:=[(sD (ax none 6 Link.cell s_)),(sD (.fn 255 1 (aQ [(k14 f_ u0 u1 u2)])))]
end
theorem uW (s_:(List Link)) (f_:Int) (u0:(List Source)) (u1:(List Link)) (u2:(List aL)):bX Tryz.prog 286 (k15 s_ f_ u0 u1 u2) [] (fun r=>(vI r)) (fun _=>[]) (kC s_ f_ u0 u1 u2):=
  dm tT mX Tryz.func286 (
  .r<| .r<| .lp (σ:=Int) (β:=Unit) (0) [] [] ⟨[0,1,7],[],fun t8=>[(8,(vI t8))],fun t8=>[]⟩ ⟨[],[],fun _=>[],fun _=>[]⟩
  (fun t8=> .r<| .it (.r<| .cl 5 (yt (at' s_ t8.toNat) f_ u0 u1 u2) fun r_=> .a1 ((0:Int)≤t8∧t8<(s_.length:Int))<| .rg {} [0,1]<| .it (.r<| .e (.done (.ret t8)))
  (.r<| .e (.next (k0 t8))))
  (.e (.done (.brk ()))))
  (fun _=> .r<| .e (-1)))
theorem qx (s_:(List Link)) (f_:Int) (u0:(List Source)) (u1:(List Link)) (u2:(List aL)):bX Tryz.prog 254 (k15 s_ f_ u0 u1 u2) [] (fun r=>(vB r)) (fun _=>[]) (fO s_ f_ u0 u1 u2):=
  dm tT mX Tryz.func254 (
  .r<| .cl 2 (uW s_ f_ u0 u1 u2) fun r_=> .r<| .e (decide (0≤r_)))
theorem BK (l:(List Link)) (u0:Int) (u1:Int) (u2:(List Source)) (u3:(List Link)) (u4:(List aL)):bX Tryz.prog 201 [(sD (ax none 6 Link.cell l)),(sI u0),(sD (.fn 256 1 (k11 u1 u2 u3 u4)))] [] (fun r=>(vB r)) (fun _=>[]) (nO l u0 u1 u2 u3 u4):=
  dm tT mX Tryz.func201 (
  .rg {fr:=[(0,1)],fz:=[1]} []<| .cg 7 [((decide ((l.length:Int)≤u0)),true)] (qx l u1 u2 u3 u4) fun r_=> .r<| .e (bif (decide ((l.length:Int)≤u0))then(!r_)else false))
section
variable (x:aL)
abbrev k16:List CV:=[(cI x.feeds.e0),(cI x.feeds.e1),(cI x.power),(cI x.paths)]
end
theorem CQ (x:aL):bX Tryz.prog 260 [(.agg (k16 x))] [] (fun r=>(vI r)) (fun _=>[]) (oO x):=
  dm tT mX Tryz.func260 (
  .rg {fr:=[(0,1)],fz:=[1]} []<| .rg {} [.pf ⟨(0:Int)≤1∧(1:Int)<(2:Nat),(by decide)⟩]<| .it (.r<| .e 1)
  (.r<| .e 2))
section
variable (r_:Bool) (u0:Bool) (x:aL) (u1:Bool)
abbrev k18:=(bif (bif (bif r_ then u0 else false)then(!decide (x.feeds.e0=x.feeds.e1))else false)then u1 else false)
abbrev k17:=((k18 r_ u0 x u1),true)
end
theorem Cn (x:aL) (x1:Int) (u2:(List Source)) (u3:(List Link)) (u4:(List aL)):bX Tryz.prog 259 [(.agg (k16 x)),(sD (k8 x1 u2 u3 u4))] [] (fun r=>(vB r)) (fun _=>[]) (mY x x1 u2 u3 u4):=
  dm tT mX Tryz.func259 (
  .rg {fr:=[(0,1)],fz:=[1]} []<| .rg {} [.pf ⟨(0:Int)≤0∧(0:Int)<(2:Nat),(by decide)⟩, .pf ⟨(0:Int)≤1∧(1:Int)<(2:Nat),(by decide)⟩]<| .cl 4 (aJ x.feeds.e0 0 (k9 x1)) fun r_=> .cg 10 [(r_,true)] (aJ x.feeds.e1 (-1) (k9 x1)) fun u0=> .cg 20 [((bif (bif r_ then u0 else false)then(!decide (x.feeds.e0=x.feeds.e1))else false),true)] (aJ x.power 1 100000) fun u1=> .cg 26 [(k17 r_ u0 x u1)] (CQ x) fun u5=> .cg 27 [(k17 r_ u0 x u1)] (aJ x.paths 0 u5) fun u6=> .r<| .e (bif (k18 r_ u0 x u1)then u6 else false))
section
variable (x1:Int) (u0:(List Source)) (u1:(List Link)) (u2:(List aL))
abbrev k19:DV:=(tQ [(.fn 259 1 (k11 x1 u0 u1 u2))] 0)
end
theorem yT (x:aL) (x1:Int) (u0:(List Source)) (u1:(List Link)) (u2:(List aL)):bX Tryz.prog 258 [(.agg (k16 x)),(sD (k19 x1 u0 u1 u2))] [] (fun r=>(vB r)) (fun _=>[]) (nI x x1 u0 u1 u2):=
  dm tT mX Tryz.func258 (
  .rg {fr:=[(0,1)],fz:=[1]} []<| .cl 2 (Cn x x1 u0 u1 u2) fun r_=> .r<| .e (!r_))
section
variable (s_:(List aL)) (f_:Int) (u0:(List Source)) (u1:(List Link)) (u2:(List aL))
abbrev k20:List SV:=[(sD (ax none 4 aL.cell s_)),(sD (.fn 258 1 (aQ [(k19 f_ u0 u1 u2)])))]
end
theorem uJ (s_:(List aL)) (f_:Int) (u0:(List Source)) (u1:(List Link)) (u2:(List aL)):bX Tryz.prog 287 (k20 s_ f_ u0 u1 u2) [] (fun r=>(vI r)) (fun _=>[]) (kD s_ f_ u0 u1 u2):=
  dm tT mX Tryz.func287 (
  .r<| .r<| .lp (σ:=Int) (β:=Unit) (0) [] [] ⟨[0,1,7],[],fun t8=>[(8,(vI t8))],fun t8=>[]⟩ ⟨[],[],fun _=>[],fun _=>[]⟩
  (fun t8=> .r<| .it (.r<| .cl 5 (yT (⟨((at' s_ t8.toNat).feeds),(at' s_ t8.toNat).power,(at' s_ t8.toNat).paths⟩:aL) f_ u0 u1 u2) fun r_=> .a1 ((0:Int)≤t8∧t8<(s_.length:Int))<| .rg {} [0,1]<| .it (.r<| .e (.done (.ret t8)))
  (.r<| .e (.next (k0 t8))))
  (.e (.done (.brk ()))))
  (fun _=> .r<| .e (-1)))
theorem ql (s_:(List aL)) (f_:Int) (u0:(List Source)) (u1:(List Link)) (u2:(List aL)):bX Tryz.prog 257 (k20 s_ f_ u0 u1 u2) [] (fun r=>(vB r)) (fun _=>[]) (fQ s_ f_ u0 u1 u2):=
  dm tT mX Tryz.func257 (
  .r<| .cl 2 (uJ s_ f_ u0 u1 u2) fun r_=> .r<| .e (decide (0≤r_)))
theorem Cu (l:(List aL)) (u0:Int) (u1:Int) (u2:(List Source)) (u3:(List Link)) (u4:(List aL)):bX Tryz.prog 203 [(sD (ax none 4 aL.cell l)),(sI u0),(sD (.fn 259 1 (k11 u1 u2 u3 u4)))] [] (fun r=>(vB r)) (fun _=>[]) (nu l u0 u1 u2 u3 u4):=
  dm tT mX Tryz.func203 (
  .rg {fr:=[(0,1)],fz:=[1]} []<| .cg 7 [((decide ((l.length:Int)≤u0)),true)] (ql l u1 u2 u3 u4) fun r_=> .r<| .e (bif (decide ((l.length:Int)≤u0))then(!r_)else false))
theorem CX (p:ay):bX Tryz.prog 127 (k6 p) [] (fun r=>(vI r)) (fun _=>[]) (oP p):=
  dm tT mX Tryz.func127 (
  .rg {fr:=[(0,1)],fz:=[1]} []<| .cl 2 (aJ p.buses 1 24) fun r_=> .r<| .it (.r<| .e 10)
  (.cl 3 (BM p) fun u0=> .cl 4 (DY p.sources 8 u0.1 u0.2.1 u0.2.2.1 u0.2.2.2) fun u3=> .r<| .it (.r<| .e 11)
  (.cl 3 (DT p) fun u1=> .cl 4 (BK p.links 40 u1.1 u1.2.1 u1.2.2.1 u1.2.2.2) fun u4=> .r<| .it (.r<| .e 12)
  (.cl 3 (D8 p) fun u2=> .cl 4 (Cu p.racks 24 u2.1 u2.2.1 u2.2.2.1 u2.2.2.2) fun u5=> .r<| .it (.r<| .e 13)
  (.r<| .e 0)))))
section
variable (p:ay) (s_:State) (u0:Int)
abbrev k21:List SV:=[(.agg (k7 p)),(.agg (k1 s_))]
abbrev k22:=(⟨s_.closed,(p.links.length:Int)⟩:cK)
abbrev k23:=(⟨s_.locked,(p.links.length:Int)⟩:cK)
abbrev k24:=(⟨s_.badLink,(p.links.length:Int)⟩:cK)
abbrev k25:=(⟨s_.on_,(p.sources.length:Int)⟩:cK)
abbrev k26:=(⟨s_.badSource,(p.sources.length:Int)⟩:cK)
abbrev k27:=(aD cK.cell [(k22 p s_),(k23 p s_),(k24 p s_),(k25 p s_),(k26 p s_),(⟨s_.earthed,p.buses⟩:cK),(⟨s_.badBus,p.buses⟩:cK)])
abbrev k28:=((0:Int)≤u0∧u0<(p.links.length:Int))
end
theorem bO (p:ay) (s_:State):bX Tryz.prog 60 (k21 p s_) [] (fun r=>(vI r)) (fun _=>[]) (di p s_):=
  dm tT mX Tryz.func60 (
  .rg {fr:=[(0,11),(1,12)]} []<| .cl 1 (CX p) fun r_=> .r<| .r<| .it (.r<| .e r_)
  (.r<| .rg {an:=[(30, .arr [(k22 p s_),(k23 p s_),(k24 p s_),(k25 p s_),(k26 p s_),(⟨s_.earthed,p.buses⟩:cK),(⟨s_.badBus,p.buses⟩:cK)].length (k27 p s_))],fr:=[(30,13)],fz:=[12]} [.pf ⟨[(k22 p s_),(k23 p s_),(k24 p s_),(k25 p s_),(k26 p s_),(⟨s_.earthed,p.buses⟩:cK),(⟨s_.badBus,p.buses⟩:cK)].length=7,rfl⟩, .pf ⟨aP 7 2 (sQ 2 [(ax none 1 af s_.closed),(.int .i64 (p.links.length:Int)),(ax none 1 af s_.locked),(.int .i64 (p.links.length:Int)),(ax none 1 af s_.badLink),(.int .i64 (p.links.length:Int)),(ax none 1 af s_.on_),(.int .i64 (p.sources.length:Int)),(ax none 1 af s_.badSource),(.int .i64 (p.sources.length:Int)),(ax none 1 af s_.earthed),(.int .i64 p.buses),(ax none 1 af s_.badBus),(.int .i64 p.buses)]) (k27 p s_),(by intro i hi j hj;match i,j,hi,hj with|0,0,_,_=>rfl|0,1,_,_=>rfl|1,0,_,_=>rfl|1,1,_,_=>rfl|2,0,_,_=>rfl|2,1,_,_=>rfl|3,0,_,_=>rfl|3,1,_,_=>rfl|4,0,_,_=>rfl|4,1,_,_=>rfl|5,0,_,_=>rfl|5,1,_,_=>rfl|6,0,_,_=>rfl|6,1,_,_=>rfl)⟩]<| .lp (σ:=Int) (β:=Unit) (0) [] [] ⟨[2,3,53,54],[11,13],fun u1=>[(55,(vI u1))],fun u1=>[]⟩ ⟨[2,3],[11],fun _=>[],fun _=>[]⟩
  (fun u1=> .r<| .it (.a1 ((0:Int)≤u1∧u1<([(k22 p s_),(k23 p s_),(k24 p s_),(k25 p s_),(k26 p s_),(⟨s_.earthed,p.buses⟩:cK),(⟨s_.badBus,p.buses⟩:cK)].length:Int))<| .rg {fr:=[(2,17)],fz:=[17]} [0, .t 0 u1 ([(k22 p s_),(k23 p s_),(k24 p s_),(k25 p s_),(k26 p s_),(⟨s_.earthed,p.buses⟩:cK),(⟨s_.badBus,p.buses⟩:cK)].length)]<| .r<| .it (.r<| .e (.done (.ret 9)))
  (.r<| .e (.next (k0 u1))))
  (.e (.done (.brk ()))))
  (fun _=> .r<| .lp (σ:=Int) (β:=Unit) (0) [] [] ⟨[3,67,68],[],fun u0=>[(69,(vI u0))],fun u0=>[]⟩ ⟨[],[],fun _=>[],fun _=>[]⟩
  (fun u0=> .r<| .it (.a1 (k28 p u0)<| .rg {fr:=[(3,21)],fz:=[21]} []<| .a2 ((gB [((decide (((at' p.links u0.toNat).kind)=1)),true)]=true→(0:Int)≤u0∧u0<(s_.closed.length:Int))) ((gB [((!(at' s_.closed u0.toNat)),false),((decide (((at' p.links u0.toNat).kind)=1)),true)]=true→(0:Int)≤u0∧u0<(s_.locked.length:Int)))<| .rg {} [0,1]<| .it (.r<| .e (.done (.ret 9)))
  (.r<| .e (.next (k0 u0))))
  (.e (.done (.brk ()))))
  (fun _=> .r<| .e 0))))
theorem xR (i:Int) (x1:Int):bX Tryz.prog 130 [(sI i),(sD (tQ [(.int .i64 x1)] 0))] [] (fun r=>(vB r)) (fun _=>[]) (mD i x1):=
  dm tT mX Tryz.func130 (
  .r<| .r<| .e (bif (decide (i<0))then true else(decide (x1≤i))))
section
variable (s_:(List Int))
abbrev Td:DV:=(ax none 1 (aU .i64) s_)
end
theorem uN (s_:(List Int)) (f_:Int):bX Tryz.prog 205 [(sD (Td s_)),(sD (.fn 130 1 (aQ [(tQ [(.int .i64 f_)] 0)])))] [] (fun r=>(vI r)) (fun _=>[]) (ku s_ f_):=
  dm tT mX Tryz.func205 (
  .r<| .r<| .lp (σ:=Int) (β:=Unit) (0) [] [] ⟨[0,1,7],[],fun t8=>[(8,(vI t8))],fun t8=>[]⟩ ⟨[],[],fun _=>[],fun _=>[]⟩
  (fun t8=> .r<| .it (.r<| .cl 5 (xR (at' s_ t8.toNat) f_) fun r_=> .a1 ((0:Int)≤t8∧t8<(s_.length:Int))<| .rg {} [0,1]<| .it (.r<| .e (.done (.ret t8)))
  (.r<| .e (.next (k0 t8))))
  (.e (.done (.brk ()))))
  (fun _=> .r<| .e (-1)))
theorem rA (s_:(List Int)) (f_:Int):bX Tryz.prog 129 [(sD (Td s_)),(sD (.fn 130 1 (aQ [(tQ [(.int .i64 f_)] 0)])))] [] (fun r=>(vB r)) (fun _=>[]) (gG s_ f_):=
  dm tT mX Tryz.func129 (
  .r<| .cl 2 (uN s_ f_) fun r_=> .r<| .e (decide (0≤r_)))
theorem qi (l:(List Int)) (n:Int):bX Tryz.prog 128 [(sD (Td l)),(sI n)] [] (fun r=>(vB r)) (fun _=>[]) (jB l n):=
  dm tT mX Tryz.func128 (
  .rg {fr:=[(0,1)],fz:=[1]} []<| .cg 6 [((decide ((l.length:Int)≤24)),true)] (rA l n) fun r_=> .r<| .e (bif (decide ((l.length:Int)≤24))then(!r_)else false))
section
variable (x:aj) (p:ay)
abbrev Ta:List CV:=[(cI x.deed),(cI x.index)]
abbrev YS:=((gB [((bif (decide (0≤x.index))then(decide (x.index<(p.links.length:Int)))else false),true)]=true→(0:Int)≤x.index∧x.index<(p.links.length:Int)))
abbrev YH:=(bif (bif (decide (0≤x.index))then(decide (x.index<(p.links.length:Int)))else false)then(!decide (((at' p.links x.index.toNat).kind)=1))else false)
abbrev UO:=(bif (decide (0≤x.index))then(decide (x.index<p.buses))else false)
abbrev LF:=(bif (decide (0≤x.index))then(decide (x.index<(p.sources.length:Int)))else false)
abbrev LC:=((gB [((bif (decide (0≤x.index))then(decide (x.index<0))else false),true)]=true→(0:Int)≤x.index∧x.index<(p.links.length:Int)))
abbrev LD:=(bif (bif (decide (0≤x.index))then(decide (x.index<0))else false)then(!decide (((at' p.links x.index.toNat).kind)=1))else false)
end
theorem tZ (p:ay) (x:aj):bX Tryz.prog 134 [(.agg (k7 p)),(.agg (Ta x))] [] (fun r=>(vB r)) (fun _=>[]) (kR p x):=
  dm tT mX Tryz.func134 (
  .rg {fr:=[(0,2),(1,3)],fz:=[2,3]} []<| .r<| .r<| .r<| .it (.it (.r<| .a1 (YS x p)<| .r<| .e (YH x p))
  (.r<| .it (.it (.r<| .e (UO x p))
  (.r<| .it (.it (.r<| .e (LF x p))
  (.a1 (LC x p)<| .r<| .e (LD x p)))
  (.r<| .it (.r<| .e (LF x p))
  (.a1 (LC x p)<| .r<| .e (LD x p)))))
  (.r<| .it (.r<| .e (UO x p))
  (.r<| .it (.it (.r<| .e (LF x p))
  (.a1 (LC x p)<| .r<| .e (LD x p)))
  (.r<| .it (.r<| .e (LF x p))
  (.a1 (LC x p)<| .r<| .e (LD x p)))))))
  (.r<| .it (.it (.r<| .a1 (YS x p)<| .r<| .e (YH x p))
  (.r<| .it (.it (.r<| .e (UO x p))
  (.r<| .it (.it (.r<| .e (LF x p))
  (.a1 (LC x p)<| .r<| .e (LD x p)))
  (.r<| .it (.r<| .e (LF x p))
  (.a1 (LC x p)<| .r<| .e (LD x p)))))
  (.r<| .it (.r<| .e (UO x p))
  (.r<| .it (.it (.r<| .e (LF x p))
  (.a1 (LC x p)<| .r<| .e (LD x p)))
  (.r<| .it (.r<| .e (LF x p))
  (.a1 (LC x p)<| .r<| .e (LD x p)))))))
  (.r<| .it (.it (.r<| .a1 (YS x p)<| .r<| .e (YH x p))
  (.r<| .it (.it (.r<| .e (UO x p))
  (.r<| .it (.it (.r<| .e (LF x p))
  (.a1 (LC x p)<| .r<| .e (LD x p)))
  (.r<| .it (.r<| .e (LF x p))
  (.a1 (LC x p)<| .r<| .e (LD x p)))))
  (.r<| .it (.r<| .e (UO x p))
  (.r<| .it (.it (.r<| .e (LF x p))
  (.a1 (LC x p)<| .r<| .e (LD x p)))
  (.r<| .it (.r<| .e (LF x p))
  (.a1 (LC x p)<| .r<| .e (LD x p)))))))
  (.r<| .it (.r<| .a1 (YS x p)<| .r<| .e (YH x p))
  (.r<| .it (.it (.r<| .e (UO x p))
  (.r<| .it (.it (.r<| .e (LF x p))
  (.a1 (LC x p)<| .r<| .e (LD x p)))
  (.r<| .it (.r<| .e (LF x p))
  (.a1 (LC x p)<| .r<| .e (LD x p)))))
  (.r<| .it (.r<| .e (UO x p))
  (.r<| .it (.it (.r<| .e (LF x p))
  (.a1 (LC x p)<| .r<| .e (LD x p)))
  (.r<| .it (.r<| .e (LF x p))
  (.a1 (LC x p)<| .r<| .e (LD x p))))))))))
theorem xW (x:aj) (x1:Int) (u0:(List Source)) (u1:(List Link)) (u2:(List aL)):bX Tryz.prog 133 [(.agg (Ta x)),(sD (k8 x1 u0 u1 u2))] [] (fun r=>(vB r)) (fun _=>[]) (mF x x1 u0 u1 u2):=
  dm tT mX Tryz.func133 (
  .rg {fr:=[(0,1)],fz:=[1]} []<| .cl 2 (tZ (⟨x1,u0,u1,u2⟩:ay) x) fun r_=> .r<| .e (!r_))
section
variable (s_:(List aj)) (f_:Int) (u0:(List Source)) (u1:(List Link)) (u2:(List aL))
abbrev ZP:List SV:=[(sD (ax none 2 aj.cell s_)),(sD (.fn 133 1 (k11 f_ u0 u1 u2)))]
end
theorem uX (s_:(List aj)) (f_:Int) (u0:(List Source)) (u1:(List Link)) (u2:(List aL)):bX Tryz.prog 206 (ZP s_ f_ u0 u1 u2) [] (fun r=>(vI r)) (fun _=>[]) (kE s_ f_ u0 u1 u2):=
  dm tT mX Tryz.func206 (
  .r<| .r<| .lp (σ:=Int) (β:=Unit) (0) [] [] ⟨[0,1,7],[],fun t8=>[(8,(vI t8))],fun t8=>[]⟩ ⟨[],[],fun _=>[],fun _=>[]⟩
  (fun t8=> .r<| .it (.r<| .cl 5 (xW (at' s_ t8.toNat) f_ u0 u1 u2) fun r_=> .a1 ((0:Int)≤t8∧t8<(s_.length:Int))<| .rg {} [0,1]<| .it (.r<| .e (.done (.ret t8)))
  (.r<| .e (.next (k0 t8))))
  (.e (.done (.brk ()))))
  (fun _=> .r<| .e (-1)))
theorem rH (s_:(List aj)) (f_:Int) (u0:(List Source)) (u1:(List Link)) (u2:(List aL)):bX Tryz.prog 132 (ZP s_ f_ u0 u1 u2) [] (fun r=>(vB r)) (fun _=>[]) (gy s_ f_ u0 u1 u2):=
  dm tT mX Tryz.func132 (
  .r<| .cl 2 (uX s_ f_ u0 u1 u2) fun r_=> .r<| .e (decide (0≤r_)))
theorem qh (l:(List aj)) (x1:Int) (u0:(List Source)) (u1:(List Link)) (u2:(List aL)):bX Tryz.prog 131 [(sD (ax none 2 aj.cell l)),(sD (k8 x1 u0 u1 u2))] [] (fun r=>(vB r)) (fun _=>[]) (jv l x1 u0 u1 u2):=
  dm tT mX Tryz.func131 (
  .r<| .cg 6 [((decide ((l.length:Int)≤24)),true)] (rH l x1 u0 u1 u2) fun r_=> .r<| .e (bif (decide ((l.length:Int)≤24))then(!r_)else false))
section
variable (t:Task)
abbrev Ox:List CV:=[(.d (ax none 1 (aU .i64) t.fed)),(.d (ax none 1 (aU .i64) t.crew)),(.d (ax none 2 aj.cell t.allowed)),(.d (ax none 2 aj.cell t.goal))]
end
theorem BB (p:ay) (t:Task):bX Tryz.prog 61 [(.agg (k7 p)),(.agg (Ox t))] [] (fun r=>(vB r)) (fun _=>[]) (ni p t):=
  dm tT mX Tryz.func61 (
  .rg {fr:=[(0,2),(1,3)],fz:=[2,3]} []<| .r<| .r<| .cl 6 (qi t.fed (p.racks.length:Int)) fun r_=> .cg 13 [(r_,true)] (qi t.crew p.buses) fun u0=> .cg 19 [((bif r_ then u0 else false),true)] (qh t.allowed p.buses p.sources p.links p.racks) fun u1=> .cg 25 [(k2 r_ u0 u1)] (qh t.goal p.buses p.sources p.links p.racks) fun u2=> .r<| .e (k3 r_ u0 u1 u2))
theorem xM (p:ay) (s_:State):bX Tryz.prog 248 (k21 p s_) [] (fun r=>(vD (.fn 284 2 (aQ [(tQ [(.int .i64 r.1),(ax none 5 Source.cell r.2.1),(ax none 6 Link.cell r.2.2.1),(ax none 4 aL.cell r.2.2.2.1)] 0),(tQ [(ax none 1 af r.2.2.2.2.1),(ax none 1 af r.2.2.2.2.2.1),(ax none 1 af r.2.2.2.2.2.2.1),(ax none 1 af r.2.2.2.2.2.2.2.1),(ax none 1 af r.2.2.2.2.2.2.2.2.1),(ax none 1 af r.2.2.2.2.2.2.2.2.2.1),(ax none 1 af r.2.2.2.2.2.2.2.2.2.2)] 0)])))) (fun _=>[]) (jQ p s_):=
  dm tT mX Tryz.func248 (
  .rg {fr:=[(0,2),(1,3)],fz:=[2,3]} []<| .r<| .e (p.buses,p.sources,p.links,p.racks,s_.closed,s_.locked,s_.badLink,s_.on_,s_.badSource,s_.earthed,s_.badBus))
noncomputable def sF:iV:=⟨[22],Pw ([1,1,0,1,0]++[0]) (kS Tryz.f197),Pw ([1,1,0,1,0]++[1]) (kS Tryz.f197),125,[]⟩
section
variable (g:bg)
abbrev Zi:List (Nat × Option Ob):=[(0,some (OY 3 3 false false 1 1 (aU .i64) (aU .i64) g.head))]
end
theorem fZ (g:bg) (x:Int):bX Tryz.prog 250 [(.agg [(.mp 0)]),(sI x)] (Zi g) (fun r=>(vI r)) (fun r=>(Zi g)) (dh g x):=
  dm tT mX Tryz.func250 (
  .rg {fr:=[(0,2)]} []<| .lp (σ:=Int) (β:=Unit) (x) [] [] ⟨[2],[0,2],fun x1=>[(1,(vI x1))],fun x1=>[]⟩ ⟨[],[],fun _=>[],fun _=>[]⟩
  (fun x1=> .rg {an:=[(3, .look (bD aS x1 g.head).isSome [(cI ((bD aS x1 g.head).getD 0))])]} [.pf ⟨cO [some .i64] 1 1 g.head.length (zI (aU .i64) g.head) (Af (aU .i64) g.head) [(.int .i64 x1)] [(.d (.int .i64 0))] (bD aS x1 g.head).isSome [(cI ((bD aS x1 g.head).getD 0))],qI (fun _=>rfl) (fun _ _=>rfl) g.head x1 0 rfl rfl rfl⟩]<| .r<| .it (.r<| .e (.done (.ret x1)))
  (.r<| .e (.next ((bD aS x1 g.head).getD 0))))
  (fun _=> .no))
theorem wG (g:bg) (a:Int) (b:Int):bX Tryz.prog 249 [(.agg [(.mp 0)]),(sI a),(sI b)] (Zi g) (fun r=>(.dL [])) (fun r=>[(0,some (OY 3 3 false false 1 1 (aU .i64) (aU .i64) r))]) (jk g a b):=
  dm tT mX Tryz.func249 (
  .rg {fr:=[(0,2)]} []<| .cr 2 (fZ g a) fun r_=> .cr 5 (fZ g b) fun u0=> .r<| .r<| .it (.rg {an:=[(4, .map (fe aS r_ u0 g.head).length (zI (aU .i64) (fe aS r_ u0 g.head)) (Af (aU .i64) (fe aS r_ u0 g.head)) [])]} [.pf ⟨dY [some .i64] 1 1 g.head.length (zI (aU .i64) g.head) (Af (aU .i64) g.head) [(.int .i64 r_)] [(cI u0)] [] (fe aS r_ u0 g.head).length (zI (aU .i64) (fe aS r_ u0 g.head)) (Af (aU .i64) (fe aS r_ u0 g.head)),Cg (fun _=>rfl) (fun _ _=>rfl) g.head r_ u0 rfl rfl⟩]<| .e (fe aS r_ u0 g.head))
  (.e g.head))
section
variable (o_:bg)
abbrev Zd:Nat × Option Ob:=(0,some (.loop sF 0 [(5,(vP 1 0))]))
abbrev Z5:List (Nat × Option Ob):=[Zd,(1,some (.cells 337 [(.mp 2)])),(2,some (OY 3 3 false false 1 1 (aU .i64) (aU .i64) o_.head))]
end
theorem vQ (u0:Int) (u1:Int) (u2:Int) (u3:Int) (u4:Int) (u5:(List dU)) (o_:bg):U6 Tryz.prog 0 [(.agg [(cI u0),(cI u1),(cI u2),(cI u3),(cI u4),(.d (ax none 2 dU.cell u5))])] (Z5 o_) (fun _=>vB true) (fun r=>[Zd,(1,some (.cells 337 [(.mp 2)])),(2,some (OY 3 3 false false 1 1 (aU .i64) (aU .i64) r.head))]) (kU u0 u1 u2 u3 u4 u5 o_):=
  scY tT mX sF ⟨[5],[0,1,2],fun _=>[(6,(vD (tQ [(.int .i64 u0),(.int .i64 u1),(.int .i64 u2),(.int .i64 u3),(.int .i64 u4),(ax none 2 dU.cell u5)] 0)))],fun _=>[]⟩ (.rg {fr:=[(0,4)],fz:=[4]} []<| .e ())
  (.cl 5 (cZ [(0,2)] (wG o_ u0 u1)) fun r_=> .r<| .e (⟨r_⟩:bg))
section
variable (x2:(List Bool)) (u5:(List Bool)) (u2:(List Bool)) (u6:(List Bool)) (u7:(List Bool)) (u8:(List Bool)) (u1:(List Bool)) (o0:(List (Int × Int))) (t9:Int) (u0:(List Link))
abbrev WV:DV:=(tQ [(ax none 1 af x2),(ax none 1 af u5),(ax none 1 af u2),(ax none 1 af u6),(ax none 1 af u7),(ax none 1 af u8),(ax none 1 af u1)] 0)
abbrev Vx:Ob:=(OY 3 3 false false 1 1 (aU .i64) (aU .i64) o0)
abbrev k44:=(bif (bif (at' x2 t9.toNat)then(!(at' u2 t9.toNat))else false)then(!(at' u1 (((at' u0 t9.toNat).a).toNat)))else false)
abbrev Z0:=((gB [((bif (at' x2 t9.toNat)then(!(at' u2 t9.toNat))else false),true)]=true→(0:Int)≤(at' u0 t9.toNat).a∧(at' u0 t9.toNat).a<(u1.length:Int)))
abbrev ZV:=((gB [((k44 x2 u2 u1 t9 u0),true)]=true→(0:Int)≤(at' u0 t9.toNat).b∧(at' u0 t9.toNat).b<(u1.length:Int)))
end
theorem vw (x1:Int) (u3:(List Source)) (u0:(List Link)) (u4:(List aL)) (x2:(List Bool)) (u5:(List Bool)) (u2:(List Bool)) (u6:(List Bool)) (u7:(List Bool)) (u8:(List Bool)) (u1:(List Bool)) (o_:bg):bX Tryz.prog 284 [(.one (.yl 0)),(sD (k8 x1 u3 u0 u4)),(sD (WV x2 u5 u2 u6 u7 u8 u1))] (Z5 o_) (fun r=>(.dL [])) (fun r=>[Zd,(1,some (.cells 337 [(.mp 2)])),(2,some (OY 3 3 false false 1 1 (aU .i64) (aU .i64) r.head))]) (kQ x1 u3 u0 u4 x2 u5 u2 u6 u7 u8 u1 o_):=
  dm tT mX Tryz.func284 (
  .r<| .lp (σ:=((List (Int × Int)) × Int)) (β:=(List (Int × Int))) (o_.head,0) [] [] ⟨[0,2,7,8],[0,1],fun(o0,t9)=>[(9,(vI t9))],fun(o0,t9)=>[(2,some (Vx o0))]⟩ ⟨[],[0,1],fun o01=>[],fun o01=>[(2,some (OY 3 3 false false 1 1 (aU .i64) (aU .i64) o01))]⟩
  (fun(o0,t9)=> .r<| .it (.a1 ((0:Int)≤t9∧t9<(u0.length:Int))<| .rg {fr:=[(3,10)],fz:=[10]} []<| .fk (bif (k44 x2 u2 u1 t9 u0)then(!(at' u1 (((at' u0 t9.toNat).b).toNat)))else false) (.cy 34 (vQ ((at' u0 t9.toNat).a) ((at' u0 t9.toNat).b) ((at' u0 t9.toNat).kind) ((at' u0 t9.toNat).most) ((at' u0 t9.toNat).ohm) ((at' u0 t9.toNat).trip) (⟨o0⟩:bg)) fun r_=> .a4 ((0:Int)≤t9∧t9<(x2.length:Int)) ((gB [((at' x2 t9.toNat),true)]=true→(0:Int)≤t9∧t9<(u2.length:Int))) (Z0 x2 u2 u1 t9 u0) (ZV x2 u2 u1 t9 u0)<| .rg {ov:=[(31,true,5)]} [0,1,2,3, .k 4]<| .f<| .r<| .e (.next (r_.head,(k0 t9))))
  (.a4 ((0:Int)≤t9∧t9<(x2.length:Int)) ((gB [((at' x2 t9.toNat),true)]=true→(0:Int)≤t9∧t9<(u2.length:Int))) (Z0 x2 u2 u1 t9 u0) (ZV x2 u2 u1 t9 u0)<| .rg {ov:=[(31,false,4)],sk:=[32,33,34,35]} [0,1,2,3]<| .f<| .r<| .e (.next (o0,(k0 t9)))))
  (.e (.done (.brk o0))))
  (fun o01=> .e (⟨o01⟩:bg)))
section
variable (u1:(List aH)) (u2:(List (Int × Int))) (u0:Int) (u3:Int) (u5:(List aH)) (u6:Int) (u4:(List (Int × Int))) (u7:Int)
abbrev ZY:List (Nat × Option Ob):=[(60,some (.rows 287 2 u1.length (wo aH.ev u1) none)),(61,some (Vx u2))]
abbrev Gt:=((bD aS u0 u2).getD 0)
abbrev WA:List CV:=[(cI (Gt u2 u0))]
abbrev ND:=(fe aS u0 (u1.length:Int) u2)
abbrev RZ:=(u1++[(⟨([]:List Int),([]:List Int)⟩:aH)])
abbrev Zp:=(wo aH.ev (RZ u1))
abbrev TA:=((bD aS u0 (ND u1 u2 u0)).getD 0)
abbrev ZA:=((TA u1 u2 u0).toNat)
abbrev Z7:=(at' (RZ u1) (ZA u1 u2 u0))
abbrev UJ:=((Z7 u1 u2 u0).buses)
abbrev ZM:=((UJ u1 u2 u0).length+[u3].length)
abbrev WG:=((UJ u1 u2 u0)++[u3])
abbrev ZB:=(aD (aU .i64) (WG u1 u2 u0 u3))
abbrev Y8:=((RZ u1).set (ZA u1 u2 u0) (⟨(WG u1 u2 u0 u3),(Z7 u1 u2 u0).sources⟩:aH))
abbrev ZL:=(wo aH.ev (Y8 u1 u2 u0 u3))
abbrev Uu:=((at' u1 ((Gt u2 u0).toNat)).buses)
abbrev Wx:=((Uu u1 u2 u0)++[u3])
abbrev Zk:=(aD (aU .i64) (Wx u1 u2 u0 u3))
abbrev Zr:=(u1.set ((Gt u2 u0).toNat) (⟨(Wx u1 u2 u0 u3),(at' u1 ((Gt u2 u0).toNat)).sources⟩:aH))
abbrev k65:=(wo aH.ev (Zr u1 u2 u0 u3))
abbrev Ur:=((at' u5 ((Gt u4 u6).toNat)).sources)
abbrev WI:=((Ur u5 u6 u4)++[u7])
abbrev Zx:=(aD (aU .i64) (WI u5 u6 u4 u7))
abbrev Zv:=(u5.set ((Gt u4 u6).toNat) (⟨(at' u5 ((Gt u4 u6).toNat)).buses,(WI u5 u6 u4 u7)⟩:aH))
abbrev k70:=(wo aH.ev (Zv u5 u6 u4 u7))
end
theorem iC (p:ay) (s_:State):bX Tryz.prog 197 (k21 p s_) [] (fun r=>(vD (ax none 2 aH.cell r))) (fun _=>[]) (fq p s_):=
  dm tT mX Tryz.func197 (
  .rg {fr:=[(0,55),(1,56)],fz:=[56]} []<| .rg {an:=[(0, .map 0 (zI (aU .i64) ([]:(List (Int × Int)))) (Af (aU .i64) ([]:(List (Int × Int)))) [])],fr:=[(0,57),(2,58)]} []<| .cl 2 (xM p s_) fun r_=> .r<| .cl 0 (cZ [(0,59),(1,58),(2,57)] (vw r_.1 r_.2.1 r_.2.2.1 r_.2.2.2.1 r_.2.2.2.2.1 r_.2.2.2.2.2.1 r_.2.2.2.2.2.2.1 r_.2.2.2.2.2.2.2.1 r_.2.2.2.2.2.2.2.2.1 r_.2.2.2.2.2.2.2.2.2.1 r_.2.2.2.2.2.2.2.2.2.2 (⟨([]:(List (Int × Int)))⟩:bg))) fun v0=> .rf 59 [5] [] none 0 []<| .r<| .im (.adR 7 60 287 2 (wo aH.ev ([]:List aH)))<| .rg {an:=[(0, .map 0 (zI (aU .i64) ([]:(List (Int × Int)))) (Af (aU .i64) ([]:(List (Int × Int)))) [])],fr:=[(0,61)]} []<| .r<| .lp (σ:=((List aH) × (List (Int × Int)) × Int)) (β:=((List aH) × (List (Int × Int)))) (([]:List aH),([]:(List (Int × Int))),0) [] [] ⟨[2,3,5,8,31],[55,57,58],fun(u1,u2,u3)=>[(7,(vO 60 false u1.length)),(32,(vI u3))],fun(u1,u2,u3)=>(ZY u1 u2)⟩ ⟨[2,3,5,8],[55,57,58],fun(u9,u4)=>[(7,(vO 60 false u9.length))],fun(u9,u4)=>(ZY u9 u4)⟩
  (fun(u1,u2,u3)=> .r<| .it (.r<| .a1 ((0:Int)≤u3∧u3<(s_.badBus.length:Int))<| .r<| .it (.r<| .e (.next (u1,u2,(k0 u3))))
  (.cr 2 (cZ [(0,57)] (fZ v0 u3)) fun u0=> .r<| .rg {an:=[(2, .look (bD aS u0 u2).isSome (WA u2 u0))]} [.pf ⟨cO [some .i64] 1 1 u2.length (zI (aU .i64) u2) (Af (aU .i64) u2) [(.int .i64 u0)] [(.d (.int .i64 0))] (bD aS u0 u2).isSome (WA u2 u0),qI (fun _=>rfl) (fun _ _=>rfl) u2 u0 0 rfl rfl rfl⟩]<| .r<| .it (.rg {an:=[(4, .map (ND u1 u2 u0).length (zI (aU .i64) (ND u1 u2 u0)) (Af (aU .i64) (ND u1 u2 u0)) [])]} [.pf ⟨dY [some .i64] 1 1 u2.length (zI (aU .i64) u2) (Af (aU .i64) u2) [(.int .i64 u0)] [(cI (u1.length:Int))] [] (ND u1 u2 u0).length (zI (aU .i64) (ND u1 u2 u0)) (Af (aU .i64) (ND u1 u2 u0)),Cg (fun _=>rfl) (fun _ _=>rfl) u2 u0 (u1.length:Int) rfl rfl⟩]<| .a2 ((u1.length+[(⟨([]:List Int),([]:List Int)⟩:aH)].length)*48≤140737488355328) (u1.length+[(⟨([]:List Int),([]:List Int)⟩:aH)].length≤4611686018427387904)<| .rg {an:=[(2, .arr [(⟨([]:List Int),([]:List Int)⟩:aH)].length (sQ 2 [nS,nS])),(3, .rows (RZ u1).length (Zp u1))],fr:=[(2,86),(3,87)]} [.pf ⟨[(⟨([]:List Int),([]:List Int)⟩:aH)].length=1,rfl⟩, .pf ⟨aP 1 2 (sQ 2 [nS,nS]) (sQ 2 [nS,nS]),Bc _ _ _⟩, .e (u1.length),0,1, .pf ⟨(RZ u1).length=u1.length+[(⟨([]:List Int),([]:List Int)⟩:aH)].length,List.length_append⟩, .pf ⟨Er u1.length [(⟨([]:List Int),([]:List Int)⟩:aH)].length 2 (wo aH.ev u1) (sQ 2 [nS,nS]) (Zp u1),TG _ _ _ _ _ (by intro i hi j hj;match i,j,hi,hj with|0,0,_,_=>exact⟨rfl,_,_,_,rfl⟩|0,1,_,_=>exact⟨rfl,_,_,_,rfl⟩)⟩]<| .rg {an:=[(2, .look (bD aS u0 (ND u1 u2 u0)).isSome [(cI (TA u1 u2 u0))])]} [.pf ⟨cO [some .i64] 1 1 (ND u1 u2 u0).length (zI (aU .i64) (ND u1 u2 u0)) (Af (aU .i64) (ND u1 u2 u0)) [(.int .i64 u0)] [(.d (.int .i64 0))] (bD aS u0 (ND u1 u2 u0)).isSome [(cI (TA u1 u2 u0))],qI (fun _=>rfl) (fun _ _=>rfl) (ND u1 u2 u0) u0 0 rfl rfl rfl⟩]<| .a3 ((0:Int)≤(TA u1 u2 u0)∧(TA u1 u2 u0)<((RZ u1).length:Int)) ((ZM u1 u2 u0 u3)*8≤140737488355328) ((UJ u1 u2 u0).length+[u3].length≤4611686018427387904)<| .rg {an:=[(6, .take 88),(8, .arr [u3].length (aD (aU .i64) [u3])),(9, .arr (WG u1 u2 u0 u3).length (ZB u1 u2 u0 u3)),(12, .rows 0 (ZL u1 u2 u0 u3))],fr:=[(8,89),(9,90)]} [0, .t 0 (TA u1 u2 u0) ((RZ u1).length), .pf ⟨[u3].length=1,rfl⟩, .pf ⟨aP 1 1 (sQ 1 [(.int .i64 u3)]) (aD (aU .i64) [u3]),(by intro i hi j hj;match i,j,hi,hj with|0,0,_,_=>rfl)⟩, .e ((UJ u1 u2 u0).length),1,2, .pf ⟨(WG u1 u2 u0 u3).length=(UJ u1 u2 u0).length+[u3].length,List.length_append⟩, .pf ⟨aP (ZM u1 u2 u0 u3) 1 (jY (aD (aU .i64) (UJ u1 u2 u0)) (UJ u1 u2 u0).length (aD (aU .i64) [u3])) (ZB u1 u2 u0 u3),bV _ _ _ _⟩,0, .t 0 (TA u1 u2 u0) ((RZ u1).length), .e ((WG u1 u2 u0 u3).length), .pf ⟨PE (RZ u1).length 2 (UD (Zp u1) (ZA u1 u2 u0) 0 (.row 3 1 (WG u1 u2 u0 u3).length (ZB u1 u2 u0 u3))) (ZL u1 u2 u0 u3),Fp _ _ _ _ _ _ _ _ rfl (fun j hj=>(match j,hj with|0,_=>rfl|1,_=>rfl))⟩, .pf ⟨∀i0 j0 c0,((some ((TA u1 u2 u0).toNat,0,CV.own 88 false (UJ u1 u2 u0).length)):Option (Nat × Nat × CV))=some (i0,j0,c0)→i0=(TA u1 u2 u0).toNat∧j0=0,(fun i0 j0 c0 e=>by cases e;exact⟨rfl,rfl⟩)⟩]<| .im (.ll 87 (RZ u1) (Y8 u1 u2 u0 u3))<| .r<| .en (.next ((Y8 u1 u2 u0 u3),(ND u1 u2 u0),(k0 u3))) [] [(87,60)])
  (.rg {an:=[(2, .look (bD aS u0 u2).isSome (WA u2 u0))]} [.pf ⟨cO [some .i64] 1 1 u2.length (zI (aU .i64) u2) (Af (aU .i64) u2) [(.int .i64 u0)] [(.d (.int .i64 0))] (bD aS u0 u2).isSome (WA u2 u0),qI (fun _=>rfl) (fun _ _=>rfl) u2 u0 0 rfl rfl rfl⟩]<| .a3 ((0:Int)≤(Gt u2 u0)∧(Gt u2 u0)<(u1.length:Int)) (((Uu u1 u2 u0).length+[u3].length)*8≤140737488355328) ((Uu u1 u2 u0).length+[u3].length≤4611686018427387904)<| .rg {an:=[(6, .take 91),(8, .arr [u3].length (aD (aU .i64) [u3])),(9, .arr (Wx u1 u2 u0 u3).length (Zk u1 u2 u0 u3)),(12, .rows 0 (k65 u1 u2 u0 u3))],fr:=[(8,92),(9,93)]} [0, .t 0 (Gt u2 u0) u1.length, .pf ⟨[u3].length=1,rfl⟩, .pf ⟨aP 1 1 (sQ 1 [(.int .i64 u3)]) (aD (aU .i64) [u3]),(by intro i hi j hj;match i,j,hi,hj with|0,0,_,_=>rfl)⟩, .e ((Uu u1 u2 u0).length),1,2, .pf ⟨(Wx u1 u2 u0 u3).length=(Uu u1 u2 u0).length+[u3].length,List.length_append⟩, .pf ⟨aP ((Uu u1 u2 u0).length+[u3].length) 1 (jY (aD (aU .i64) (Uu u1 u2 u0)) (Uu u1 u2 u0).length (aD (aU .i64) [u3])) (Zk u1 u2 u0 u3),bV _ _ _ _⟩,0, .t 0 (Gt u2 u0) u1.length, .e ((Wx u1 u2 u0 u3).length), .pf ⟨PE u1.length 2 (UD (wo aH.ev u1) ((Gt u2 u0).toNat) 0 (.row 3 1 (Wx u1 u2 u0 u3).length (Zk u1 u2 u0 u3))) (k65 u1 u2 u0 u3),Fp _ _ _ _ _ _ _ _ rfl (fun j hj=>(match j,hj with|0,_=>rfl|1,_=>rfl))⟩, .pf ⟨∀i0 j0 c0,((some ((Gt u2 u0).toNat,0,CV.own 91 false (Uu u1 u2 u0).length)):Option (Nat × Nat × CV))=some (i0,j0,c0)→i0=(Gt u2 u0).toNat∧j0=0,(fun i0 j0 c0 e=>by cases e;exact⟨rfl,rfl⟩)⟩]<| .im (.ll 60 u1 (Zr u1 u2 u0 u3))<| .r<| .e (.next ((Zr u1 u2 u0 u3),u2,(k0 u3))))))
  (.e (.done (.brk (u1,u2)))))
  (fun(u9,u4)=> .r<| .lp (σ:=((List aH) × Int)) (β:=(List aH)) (u9,0) [] [] ⟨[3,5,8,76,77],[57,58,61],fun(u5,u7)=>[(7,(vO 60 false u5.length)),(78,(vI u7))],fun(u5,u7)=>[(60,some (.rows 287 2 u5.length (wo aH.ev u5) none))]⟩ ⟨[],[],fun u8=>[(7,(vO 60 false u8.length))],fun u8=>[(60,some (.rows 287 2 u8.length (wo aH.ev u8) none))]⟩
  (fun(u5,u7)=> .r<| .it (.a1 ((0:Int)≤u7∧u7<(p.sources.length:Int))<| .rg {fr:=[(3,106)],fz:=[106]} []<| .a3 ((0:Int)≤u7∧u7<(s_.on_.length:Int)) ((gB [((at' s_.on_ u7.toNat),true)]=true→(0:Int)≤u7∧u7<(s_.badSource.length:Int))) ((gB [((bif (at' s_.on_ u7.toNat)then(!(at' s_.badSource u7.toNat))else false),true)]=true→(0:Int)≤(at' p.sources u7.toNat).bus∧(at' p.sources u7.toNat).bus<(s_.badBus.length:Int)))<| .rg {} [0,1,2]<| .it (.cr 4 (cZ [(0,57)] (fZ v0 ((at' p.sources u7.toNat).bus))) fun u6=> .rg {an:=[(5, .look (bD aS u6 u4).isSome (WA u4 u6))]} [0, .pf ⟨cO [some .i64] 1 1 u4.length (zI (aU .i64) u4) (Af (aU .i64) u4) [(.int .i64 u6)] [(.d (.int .i64 0))] (bD aS u6 u4).isSome (WA u4 u6),qI (fun _=>rfl) (fun _ _=>rfl) u4 u6 0 rfl rfl rfl⟩]<| .a3 ((0:Int)≤(Gt u4 u6)∧(Gt u4 u6)<(u5.length:Int)) (((Ur u5 u6 u4).length+[u7].length)*8≤140737488355328) ((Ur u5 u6 u4).length+[u7].length≤4611686018427387904)<| .rg {an:=[(6, .take 107),(8, .arr [u7].length (aD (aU .i64) [u7])),(9, .arr (WI u5 u6 u4 u7).length (Zx u5 u6 u4 u7)),(12, .rows 0 (k70 u5 u6 u4 u7))],fr:=[(8,108),(9,109)]} [0, .t 0 (Gt u4 u6) u5.length, .pf ⟨[u7].length=1,rfl⟩, .pf ⟨aP 1 1 (sQ 1 [(.int .i64 u7)]) (aD (aU .i64) [u7]),(by intro i hi j hj;match i,j,hi,hj with|0,0,_,_=>rfl)⟩, .e ((Ur u5 u6 u4).length),1,2, .pf ⟨(WI u5 u6 u4 u7).length=(Ur u5 u6 u4).length+[u7].length,List.length_append⟩, .pf ⟨aP ((Ur u5 u6 u4).length+[u7].length) 1 (jY (aD (aU .i64) (Ur u5 u6 u4)) (Ur u5 u6 u4).length (aD (aU .i64) [u7])) (Zx u5 u6 u4 u7),bV _ _ _ _⟩,0, .t 0 (Gt u4 u6) u5.length, .e ((WI u5 u6 u4 u7).length), .pf ⟨PE u5.length 2 (UD (wo aH.ev u5) ((Gt u4 u6).toNat) 1 (.row 3 1 (WI u5 u6 u4 u7).length (Zx u5 u6 u4 u7))) (k70 u5 u6 u4 u7),Fp _ _ _ _ _ _ _ _ rfl (fun j hj=>(match j,hj with|0,_=>rfl|1,_=>rfl))⟩, .pf ⟨∀i0 j0 c0,((some ((Gt u4 u6).toNat,1,CV.own 107 false (Ur u5 u6 u4).length)):Option (Nat × Nat × CV))=some (i0,j0,c0)→i0=(Gt u4 u6).toNat∧j0=1,(fun i0 j0 c0 e=>by cases e;exact⟨rfl,rfl⟩)⟩]<| .im (.ll 60 u5 (Zv u5 u6 u4 u7))<| .r<| .e (.next ((Zv u5 u6 u4 u7),(k0 u7))))
  (.r<| .e (.next (u5,(k0 u7)))))
  (.e (.done (.brk u5))))
  (fun u8=> .r<| .fz [60]<| .im (.us 4 (vD (.sl none 2 u8.length (fun i j=>Zn (wo aH.ev u8 i j)))) (vD (ax none 2 aH.cell u8)) (Di.v (Gg.one (zi.d (oo.sl (.inr rfl) (fun i _ j hj=>match j,hj with|0,_=> .refl _|1,_=> .refl _))))))<| .e u8)))
section
variable (p:ay) (u1:(List aH)) (u0:Int) (u3:Int) (u2:(List Bool))
abbrev VT:=(List.replicate p.buses.toNat (false:Bool))
abbrev YK:=(aD af (VT p))
abbrev Wy:=(at' ((at' u1 u0.toNat).buses) u3.toNat)
abbrev ZU:=((0:Int)≤(Wy u1 u0 u3)∧(Wy u1 u0 u3)<(u2.length:Int))
abbrev YP:=(u2.set ((Wy u1 u0 u3).toNat) (decide (0<(((at' u1 u0.toNat).sources).length:Int))))
abbrev YG:=(aD af (YP u1 u0 u3 u2))
abbrev ZJ:=(rD (aD af u2) ((Wy u1 u0 u3).toNat) 0 [(.bool (decide (0<(((at' u1 u0.toNat).sources).length:Int))))])
abbrev k79:=((YP u1 u0 u3 u2),(k0 u3))
end
theorem D9 (p:ay) (s_:State):bX Tryz.prog 126 (k21 p s_) [] (fun r=>(.dL [(sD (ax none 1 af r.1)),(sI r.2)])) (fun _=>[]) (gT p s_):=
  dm tT mX Tryz.func126 (
  .rg {fr:=[(0,7),(1,8)],fz:=[7,8]} []<| .cl 2 (bO p s_) fun r_=> .r<| .r<| .it (.r<| .e (([]:List Bool),r_))
  (.a3 ((0:Int)≤p.buses) ((1:Int)*p.buses≤281474976710656) ((p.buses:Int)≤9223372036854775807)<| .rg {an:=[(2, .arr (VT p).length (YK p))],fr:=[(2,9)]} [0, .e ((p.buses:Int)),1,2, .pf ⟨(VT p).length=p.buses.toNat,List.length_replicate⟩, .pf ⟨aP p.buses.toNat 1 (fun _ j=>[(.bool false)].getD j .nilp) (YK p),lG _ _ _ _ _ (fun j hj=>(match j,hj with|0,_=>rfl))⟩]<| .cl 2 (iC p s_) fun u1=> .r<| .lp (σ:=((List Bool) × Int)) (β:=(List Bool)) ((VT p),0) [] [] ⟨[23,24],[],fun(u4,u0)=>[(7,(vO 9 true u4.length)),(25,(vI u0))],fun(u4,u0)=>[(9,some (bK 4 1 af u4))]⟩ ⟨[],[],fun u5=>[(7,(vO 9 true u5.length))],fun u5=>[(9,some (bK 4 1 af u5))]⟩
  (fun(u4,u0)=> .r<| .it (.a1 ((0:Int)≤u0∧u0<(u1.length:Int))<| .rg {fr:=[(2,13)]} []<| .rg {fz:=[13]} []<| .lp (σ:=((List Bool) × Int)) (β:=(List Bool)) (u4,0) [] [] ⟨[9,23,24,25,30,31],[],fun(u2,u3)=>[(7,(vO 9 true u2.length)),(32,(vI u3))],fun(u2,u3)=>[(9,some (bK 4 1 af u2))]⟩ ⟨[23,24,25],[],fun u6=>[(7,(vO 9 true u6.length))],fun u6=>[(9,some (bK 4 1 af u6))]⟩
  (fun(u2,u3)=> .r<| .it (.a1 ((0:Int)≤u3∧u3<(((at' u1 u0.toNat).buses).length:Int))<| .r<| .a1 (ZU u1 u0 u3 u2)<| .rg {an:=[(7, .arr 0 (YG u1 u0 u3 u2))]} [0, .t 0 (Wy u1 u0 u3) u2.length, .pf ⟨aP u2.length 1 (ZJ u1 u0 u3 u2) (YG u1 u0 u3 u2),dK _ _ _ _ _ _ _ _ rfl (fun j hj=>(match j,hj with|0,_=>rfl))⟩]<| .im (.ll 9 u2 (YP u1 u0 u3 u2))<| .r<| .e (.next (k79 u1 u0 u3 u2)))
  (.e (.done (.brk u2))))
  (fun u6=> .r<| .e (.next (u6,(k0 u0)))))
  (.e (.done (.brk u4))))
  (fun u5=> .rg {fz:=[9]} []<| .e (u5,0))))
theorem iL (x y:aO):Go.Proofs.ltOf bI x y=true↔x.e0<y.e0∨ ¬ y.e0<x.e0∧x.e1<y.e1:=by
 unfold Go.Proofs.ltOf bI;rw [decide_eq_true_iff]
 by_cases h0:x.e0<y.e0<;>by_cases g0:y.e0<x.e0<;>by_cases h1:x.e1<y.e1<;>by_cases g1:y.e1<x.e1<;>simp [h0,g0,h1,g1]
theorem xJ:Go.Sort.SWO (Go.Proofs.ltOf bI) where
 irrefl x:=by rw [←Bool.not_eq_true,iL];omega
 trans x y z h1 h2:=by rw [iL]at*;omega
 ntrans x y z h1 h2:=by rw [←Bool.not_eq_true,iL]at*;omega
theorem xX (x y:aO) (h1:(Go.Proofs.ltOf bI) x y=false) (h2:(Go.Proofs.ltOf bI) y x=false):x=y:=by
 rw [←Bool.not_eq_true,iL]at h1 h2
 obtain⟨a,b⟩:=x
 obtain⟨c,d⟩:=y
 have e1:a=c:=by simp only at h1 h2;omega
 have e2:b=d:=by simp only at h1 h2;omega
 rw [e1,e2]
theorem zb (s:(List aO)) {r:(List aO)} (h:iO s=some r):Fn Tryz.prog 207 [(.one (.own 0 false s.length)),(sD (.fn 208 0 (aQ [])))] [(0,some (.arr 145 2 s.length (aD aO.cell s)))] (.dL []) [(0,some (.arr 145 2 r.length (aD aO.cell r)))]:=
 Wm PD 2 Sr Qc (fun x:aO=>[.int .i64 x.e0, .int .i64 x.e1]) (fun _=>rfl) (fun x v hv=>by simp at hv;rcases hv with rfl|rfl<;>rfl) bI xJ xX
  (MO (fun x:aO=>[.int .i64 x.e0, .int .i64 x.e1]) (fun x=>x.e0) (fun x=>x.e1) (fun _=>rfl)) (enters_of Tryz.func208 (by kernel_rfl) rfl)
  (fun F w x j hj v=>match j,hj with|0,_=>Iff.rfl|1,_=>Iff.rfl) 207 rfl ⟨_,Tryz.func207,rfl,rfl⟩ s (by cases s with|nil=>(cases h;simp)|cons x xs=>exact h)
section
variable (u6:(List aO)) (u2:(List aH)) (u0:Int) (u1:Int) (u3:Int) (u4:(List aO))
abbrev Wz:List (Nat × Option Ob):=[(138,some (bK 145 2 aO.cell u6))]
abbrev Y7:=(((at' u2 u0.toNat).sources).drop ((k0 u1).toNat))
abbrev UM:=(at' ((at' u2 u0.toNat).sources) u1.toNat)
abbrev YT:=(at' (Y7 u2 u0 u1) u3.toNat)
abbrev UY:=(⟨(UM u2 u0 u1),(YT u2 u0 u1 u3)⟩:aO)
abbrev k84:=(u4.length+[(UY u2 u0 u1 u3)].length)
abbrev ZE:=(aD aO.cell [(UY u2 u0 u1 u3)])
abbrev YE:=(u4++[(UY u2 u0 u1 u3)])
abbrev ZK:=(aD aO.cell (YE u2 u0 u1 u3 u4))
end
theorem Bf (p:ay) (s_:State):bX Tryz.prog 135 (k21 p s_) [] (fun r=>(.dL [(sD (ax none 2 aO.cell r.1)),(sI r.2)])) (fun _=>[]) (mq p s_):=
  dm tT mX Tryz.func135 (
  .rg {fr:=[(0,134),(1,135)],fz:=[134,135]} []<| .cl 2 (bO p s_) fun r_=> .r<| .r<| .it (.r<| .e (([]:List aO),r_))
  (.r<| .cl 2 (iC p s_) fun u2=> .r<| .im (.ad 7 268 145 2 (aD aO.cell ([]:List aO)))<| .lp (σ:=((List aO) × Int)) (β:=(List aO)) (([]:List aO),0) [] [(268,138)] ⟨[2,22,23],[],fun(u6,u0)=>[(7,(vO 138 false u6.length)),(24,(vI u0))],fun(u6,u0)=>(Wz u6)⟩ ⟨[],[],fun u5=>[(7,(vO 138 false u5.length))],fun u5=>(Wz u5)⟩
  (fun(u6,u0)=> .r<| .it (.a1 ((0:Int)≤u0∧u0<(u2.length:Int))<| .rg {fr:=[(2,235)],fz:=[235]} []<| .r<| .lp (σ:=((List aO) × Int)) (β:=(List aO)) (u6,0) [] [] ⟨[2,9,22,23,24,29,30],[],fun(u7,u1)=>[(7,(vO 138 false u7.length)),(31,(vI u1))],fun(u7,u1)=>(Wz u7)⟩ ⟨[2,22,23,24],[],fun u8=>[(7,(vO 138 false u8.length))],fun u8=>(Wz u8)⟩
  (fun(u7,u1)=> .r<| .it (.a1 ((0:Int)≤u1∧u1<(((at' u2 u0.toNat).sources).length:Int))<| .r<| .a1 ((0:Int)≤(k0 u1)∧(k0 u1)≤(((at' u2 u0.toNat).sources).length:Int))<| .r<| .im (.us 40 (vD (.sl none 1 (((at' u2 u0.toNat).sources).length - ((k0 u1).toNat)) (fun iq jq=>aD (aU .i64) ((at' u2 u0.toNat).sources) (iq+((k0 u1).toNat)) jq))) (vD (ax none 1 (aU .i64) (Y7 u2 u0 u1))) (Di.v (Gg.one (zi.d (oo.Ze (by first|rw [List.length_append,List.length_drop]|simp only [List.length_set,List.length_drop,zo]|exact List.length_replicate) (.inr rfl) (VO _ _ _ _))))))<| .lp (σ:=((List aO) × Int)) (β:=(List aO)) (u7,0) [] [] ⟨[2,9,11,22,23,24,29,30,31,40,41],[],fun(u4,u3)=>[(7,(vO 138 false u4.length)),(42,(vI u3))],fun(u4,u3)=>(Wz u4)⟩ ⟨[2,9,22,23,24,29,30,31],[],fun u9=>[(7,(vO 138 false u9.length))],fun u9=>(Wz u9)⟩
  (fun(u4,u3)=> .r<| .it (.a1 ((0:Int)≤u3∧u3<((Y7 u2 u0 u1).length:Int))<| .r<| .a3 ((0:Int)≤(UM u2 u0 u1)∧(UM u2 u0 u1)<(p.sources.length:Int)) ((gB [((decide (((at' p.sources ((UM u2 u0 u1).toNat)).sync)=0)),false)]=true→(0:Int)≤(UM u2 u0 u1)∧(UM u2 u0 u1)<(p.sources.length:Int))) ((gB [((decide (((at' p.sources ((UM u2 u0 u1).toNat)).sync)=0)),false)]=true→(0:Int)≤(YT u2 u0 u1 u3)∧(YT u2 u0 u1 u3)<(p.sources.length:Int)))<| .rg {} [0,1,2]<| .it (.a2 ((k84 u2 u0 u1 u3 u4)*16≤140737488355328) (u4.length+[(UY u2 u0 u1 u3)].length≤4611686018427387904)<| .rg {an:=[(4, .arr [(UY u2 u0 u1 u3)].length (ZE u2 u0 u1 u3)),(5, .arr (YE u2 u0 u1 u3 u4).length (ZK u2 u0 u1 u3 u4))],fr:=[(4,266),(5,267)]} [.pf ⟨[(UY u2 u0 u1 u3)].length=1,rfl⟩, .pf ⟨aP 1 2 (sQ 2 [(.int .i64 (UM u2 u0 u1)),(.int .i64 (YT u2 u0 u1 u3))]) (ZE u2 u0 u1 u3),(by intro i hi j hj;match i,j,hi,hj with|0,0,_,_=>rfl|0,1,_,_=>rfl)⟩, .e (u4.length),0,1, .pf ⟨(YE u2 u0 u1 u3 u4).length=u4.length+[(UY u2 u0 u1 u3)].length,List.length_append⟩, .pf ⟨aP (k84 u2 u0 u1 u3 u4) 2 (jY (aD aO.cell u4) u4.length (ZE u2 u0 u1 u3)) (ZK u2 u0 u1 u3 u4),bV _ _ _ _⟩]<| .r<| .en (.next ((YE u2 u0 u1 u3 u4),(k0 u3))) [] [(267,138)])
  (.r<| .e (.next (u4,(k0 u3)))))
  (.e (.done (.brk u4))))
  (fun u9=> .r<| .e (.next (u9,(k0 u1)))))
  (.e (.done (.brk u7))))
  (fun u8=> .r<| .e (.next (u8,(k0 u0)))))
  (.e (.done (.brk u6))))
  (fun u5=> .cl 1 (cZ [(0,138)] ⟨fun h=>zb u5 h⟩) fun v0=> .r<| .a1 (u5.length=v0.length)<| .so 7 138 false u5.length v0.length 0<| .so 77 138 false u5.length v0.length 0<| .fz [138]<| .r<| .e (v0,0))))
theorem AP (p:ay) (s_:State):bX Tryz.prog 126 (k21 p s_) [] (fun r=>(.dL [(.one (.own 0 false r.1.length)),(sI r.2)])) (fun r=>[(0,some (bK 4 1 af r.1))]) (gT p s_):=
  dm tT mX Tryz.func126 (
  .rg {fr:=[(0,7),(1,8)],fz:=[7,8]} []<| .cl 2 (bO p s_) fun r_=> .r<| .r<| .it (.r<| .im (.ad 4 9 4 1 (aD af ([]:List Bool)))<| .en (([]:List Bool),r_) [] [(9,0)])
  (.a3 ((0:Int)≤p.buses) ((1:Int)*p.buses≤281474976710656) ((p.buses:Int)≤9223372036854775807)<| .rg {an:=[(2, .arr (VT p).length (YK p))],fr:=[(2,10)]} [0, .e ((p.buses:Int)),1,2, .pf ⟨(VT p).length=p.buses.toNat,List.length_replicate⟩, .pf ⟨aP p.buses.toNat 1 (fun _ j=>[(.bool false)].getD j .nilp) (YK p),lG _ _ _ _ _ (fun j hj=>(match j,hj with|0,_=>rfl))⟩]<| .cl 2 (iC p s_) fun u1=> .r<| .lp (σ:=((List Bool) × Int)) (β:=(List Bool)) ((VT p),0) [] [] ⟨[23,24],[],fun(u4,u0)=>[(7,(vO 10 true u4.length)),(25,(vI u0))],fun(u4,u0)=>[(10,some (bK 4 1 af u4))]⟩ ⟨[],[],fun u5=>[(7,(vO 10 true u5.length))],fun u5=>[(10,some (bK 4 1 af u5))]⟩
  (fun(u4,u0)=> .r<| .it (.a1 ((0:Int)≤u0∧u0<(u1.length:Int))<| .rg {fr:=[(2,14)]} []<| .rg {fz:=[14]} []<| .lp (σ:=((List Bool) × Int)) (β:=(List Bool)) (u4,0) [] [] ⟨[9,23,24,25,30,31],[],fun(u2,u3)=>[(7,(vO 10 true u2.length)),(32,(vI u3))],fun(u2,u3)=>[(10,some (bK 4 1 af u2))]⟩ ⟨[23,24,25],[],fun u6=>[(7,(vO 10 true u6.length))],fun u6=>[(10,some (bK 4 1 af u6))]⟩
  (fun(u2,u3)=> .r<| .it (.a1 ((0:Int)≤u3∧u3<(((at' u1 u0.toNat).buses).length:Int))<| .r<| .a1 (ZU u1 u0 u3 u2)<| .rg {an:=[(7, .arr 0 (YG u1 u0 u3 u2))]} [0, .t 0 (Wy u1 u0 u3) u2.length, .pf ⟨aP u2.length 1 (ZJ u1 u0 u3 u2) (YG u1 u0 u3 u2),dK _ _ _ _ _ _ _ _ rfl (fun j hj=>(match j,hj with|0,_=>rfl))⟩]<| .im (.ll 10 u2 (YP u1 u0 u3 u2))<| .r<| .e (.next (k79 u1 u0 u3 u2)))
  (.e (.done (.brk u2))))
  (fun u6=> .r<| .e (.next (u6,(k0 u0)))))
  (.e (.done (.brk u4))))
  (fun u5=> .r<| .en (u5,0) [] [(10,0)])))
section
variable (p:ay) (u0:Int) (r_:((List Bool) × Int)) (u1:(List aB))
abbrev LB:=((at' p.racks u0.toNat).feeds)
abbrev Y1:List CV:=[(cI ((LB p u0).e0)),(cI ((LB p u0).e1))]
abbrev ZR:=(bif (decide (0≤((LB p u0).e0)))then(at' r_.1 (((LB p u0).e0).toNat))else false)
abbrev ZN:=(bif (decide (0≤((LB p u0).e1)))then(at' r_.1 (((LB p u0).e1).toNat))else false)
abbrev VJ:=(⟨(ZR p u0 r_),(ZN p u0 r_)⟩:aB)
abbrev k91:=(u1.length+[(VJ p u0 r_)].length)
abbrev ZG:=(aD aB.cell [(VJ p u0 r_)])
abbrev YI:=(u1++[(VJ p u0 r_)])
abbrev Z6:=(aD aB.cell (YI p u0 r_ u1))
end
theorem uD (p:ay) (s_:State):bX Tryz.prog 56 (k21 p s_) [] (fun r=>(.dL [(.one (.own 0 false r.1.length)),(sI r.2)])) (fun r=>[(0,some (bK 133 2 aB.cell r.1))]) (oW p s_):=
  dm tT mX Tryz.func56 (
  .rg {fr:=[(0,19),(1,20)],fz:=[20]} []<| .cl 2 (cZ [(0,21)] (AP p s_)) fun r_=> .rg {fz:=[21]} []<| .r<| .it (.r<| .im (.ad 4 22 133 2 (aD aB.cell ([]:List aB)))<| .en (([]:List aB),r_.2) [] [(22,0)])
  (.r<| .r<| .im (.ad 8 39 133 2 (aD aB.cell ([]:List aB)))<| .lp (σ:=((List aB) × Int)) (β:=(List aB)) (([]:List aB),0) [] [(39,26)] ⟨[6,24,25],[],fun(u1,u0)=>[(8,(vO 26 false u1.length)),(26,(vI u0))],fun(u1,u0)=>[(26,some (bK 133 2 aB.cell u1))]⟩ ⟨[],[],fun u2=>[(8,(vO 26 false u2.length))],fun u2=>[(26,some (bK 133 2 aB.cell u2))]⟩
  (fun(u1,u0)=> .r<| .it (.a1 ((0:Int)≤u0∧u0<(p.racks.length:Int))<| .rg {fr:=[(2,35)],fz:=[35]} []<| .rg {fr:=[(0,36)]} []<| .r<| .ul 11<| .r<| .t<| .rg {an:=[(1, .vals [(.int .i64 ((LB p u0).e0))])]} [.pf ⟨(0:Int)≤0∧(0:Int)<(2:Nat),(by decide)⟩, .pf ⟨0*1+1≤(Y1 p u0).length,Nat.le_of_ble_eq_true rfl⟩, .pf ⟨((Y1 p u0).drop (0*1)).take 1=[(.int .i64 ((LB p u0).e0))].map .d,rfl⟩]<| .a1 ((gB [((decide (0≤((LB p u0).e0))),true)]=true→(0:Int)≤(LB p u0).e0∧(LB p u0).e0<(r_.1.length:Int)))<| .rg {} [0, .pf ⟨(0:Int)≤0∧(0:Int)<(2:Nat),(by decide)⟩]<| .r<| .im (.dp [6,8,11,24,25,26,31,32])<| .r<| .t<| .rg {an:=[(1, .vals [(.int .i64 ((LB p u0).e1))])]} [.pf ⟨(0:Int)≤1∧(1:Int)<(2:Nat),(by decide)⟩, .pf ⟨1*1+1≤(Y1 p u0).length,Nat.le_of_ble_eq_true rfl⟩, .pf ⟨((Y1 p u0).drop (1*1)).take 1=[(.int .i64 ((LB p u0).e1))].map .d,rfl⟩]<| .a1 ((gB [((decide (0≤((LB p u0).e1))),true)]=true→(0:Int)≤(LB p u0).e1∧(LB p u0).e1<(r_.1.length:Int)))<| .rg {} [0, .pf ⟨(0:Int)≤1∧(1:Int)<(2:Nat),(by decide)⟩]<| .r<| .im (.dp [6,8,11,24,25,26,31,32])<| .r<| .f<| .a2 ((k91 p u0 r_ u1)*2≤140737488355328) (u1.length+[(VJ p u0 r_)].length≤4611686018427387904)<| .rg {an:=[(2, .arr [(VJ p u0 r_)].length (ZG p u0 r_)),(3, .arr (YI p u0 r_ u1).length (Z6 p u0 r_ u1))],fr:=[(2,37),(3,38)]} [.pf ⟨[(VJ p u0 r_)].length=1,rfl⟩, .pf ⟨aP 1 2 (sQ 2 [(.bool (ZR p u0 r_)),(.bool (ZN p u0 r_))]) (ZG p u0 r_),(by intro i hi j hj;match i,j,hi,hj with|0,0,_,_=>rfl|0,1,_,_=>rfl)⟩, .e (u1.length),0,1, .pf ⟨(YI p u0 r_ u1).length=u1.length+[(VJ p u0 r_)].length,List.length_append⟩, .pf ⟨aP (k91 p u0 r_ u1) 2 (jY (aD aB.cell u1) u1.length (ZG p u0 r_)) (Z6 p u0 r_ u1),bV _ _ _ _⟩]<| .r<| .en (.next ((YI p u0 r_ u1),(k0 u0))) [] [(38,26)])
  (.e (.done (.brk u1))))
  (fun u2=> .r<| .en (u2,0) [] [(26,0)])))
theorem Br (r_:Int) (x1:(List aB)):bX Tryz.prog 136 [(sI r_),(sD (tQ [(ax none 2 aB.cell x1)] 0))] [] (fun r=>(vB r)) (fun _=>[]) (pW r_ x1):=
  dm tT mX Tryz.func136 (
  .r<| .a2 ((0:Int)≤r_∧r_<(x1.length:Int)) ((gB [((!((at' x1 r_.toNat).e0)),true)]=true→(0:Int)≤r_∧r_<(x1.length:Int)))<| .rg {} [0, .pf ⟨(0:Int)≤0∧(0:Int)<(2:Nat),(by decide)⟩,1, .pf ⟨(0:Int)≤1∧(1:Int)<(2:Nat),(by decide)⟩]<| .e (bif (!((at' x1 r_.toNat).e0))then(!((at' x1 r_.toNat).e1))else false))
section
variable (s_:(List Int)) (f_:(List aB))
abbrev k98:List SV:=[(sD (Td s_)),(sD (.fn 136 1 (aQ [(tQ [(ax none 2 aB.cell f_)] 0)])))]
end
theorem qC (s_:(List Int)) (f_:(List aB)):bX Tryz.prog 205 (k98 s_ f_) [] (fun r=>(vI r)) (fun _=>[]) (iZ s_ f_):=
  dm tT mX Tryz.func205 (
  .r<| .r<| .lp (σ:=Int) (β:=Unit) (0) [] [] ⟨[0,1,7],[],fun t8=>[(8,(vI t8))],fun t8=>[]⟩ ⟨[],[],fun _=>[],fun _=>[]⟩
  (fun t8=> .r<| .it (.r<| .cl 5 (Br (at' s_ t8.toNat) f_) fun r_=> .a1 ((0:Int)≤t8∧t8<(s_.length:Int))<| .rg {} [0,1]<| .it (.r<| .e (.done (.ret t8)))
  (.r<| .e (.next (k0 t8))))
  (.e (.done (.brk ()))))
  (fun _=> .r<| .e (-1)))
theorem pq (s_:(List Int)) (f_:(List aB)):bX Tryz.prog 129 (k98 s_ f_) [] (fun r=>(vB r)) (fun _=>[]) (eP s_ f_):=
  dm tT mX Tryz.func129 (
  .r<| .cl 2 (qC s_ f_) fun r_=> .r<| .e (decide (0≤r_)))
theorem Cc (s_:(List Int)) (v_:Int):bX Tryz.prog 262 [(sD (Td s_)),(sI v_)] [] (fun r=>(vI r)) (fun _=>[]) (rZ s_ v_):=
  dm tT mX Tryz.func262 (
  .r<| .r<| .lp (σ:=Int) (β:=Unit) (0) [] [] ⟨[0,1,7],[],fun t8=>[(8,(vI t8))],fun t8=>[]⟩ ⟨[],[],fun _=>[],fun _=>[]⟩
  (fun t8=> .r<| .it (.r<| .a1 ((0:Int)≤t8∧t8<(s_.length:Int))<| .r<| .it (.r<| .e (.done (.ret t8)))
  (.r<| .e (.next (k0 t8))))
  (.e (.done (.brk ()))))
  (fun _=> .r<| .e (-1)))
theorem pK (s_:(List Int)) (v_:Int):bX Tryz.prog 209 [(sD (Td s_)),(sI v_)] [] (fun r=>(vB r)) (fun _=>[]) (iJ s_ v_):=
  dm tT mX Tryz.func209 (
  .r<| .cl 2 (Cc s_ v_) fun r_=> .r<| .e (decide (0≤r_)))
theorem Ee (p:ay) (s_:State) (t:Task) (b:Int):bX Tryz.prog 138 [(.agg (k7 p)),(.agg (k1 s_)),(.agg (Ox t)),(sI b)] [] (fun r=>(vB r)) (fun _=>[]) (qp p s_ t b):=
  dm tT mX Tryz.func138 (
  .rg {fr:=[(0,11),(1,12),(2,13)],fz:=[12,13]} []<| .a1 ((0:Int)≤b∧b<(s_.earthed.length:Int))<| .r<| .it (.r<| .e false)
  (.r<| .lp (σ:=Int) (β:=Unit) (0) [] [] ⟨[3,4,5,6,20,21],[11],fun u1=>[(22,(vI u1))],fun u1=>[]⟩ ⟨[3,4,5,6],[11],fun _=>[],fun _=>[]⟩
  (fun u1=> .r<| .it (.a1 ((0:Int)≤u1∧u1<(p.sources.length:Int))<| .rg {fr:=[(3,17)],fz:=[17]} []<| .a1 ((gB [((decide (((at' p.sources u1.toNat).bus)=b)),true)]=true→(0:Int)≤u1∧u1<(s_.on_.length:Int)))<| .r<| .it (.r<| .e (.done (.ret false)))
  (.r<| .e (.next (k0 u1))))
  (.e (.done (.brk ()))))
  (fun _=> .r<| .lp (σ:=Int) (β:=Unit) (0) [] [] ⟨[3,5,6,40,41],[],fun u0=>[(42,(vI u0))],fun u0=>[]⟩ ⟨[],[],fun _=>[],fun _=>[]⟩
  (fun u0=> .r<| .it (.a1 (k28 p u0)<| .rg {fr:=[(3,21)],fz:=[21]} []<| .cg 20 [((bif (!decide (((at' p.links u0.toNat).a)=b))then(!decide (((at' p.links u0.toNat).b)=b))else false),false)] (pK t.crew (IntKind.wrap .i64 ((IntKind.wrap .i64 (((at' p.links u0.toNat).a)+((at' p.links u0.toNat).b))) - b))) fun r_=> .r<| .it (.r<| .e (.next (k0 u0)))
  (.a2 ((gB [((decide (((at' p.links u0.toNat).kind)=1)),false)]=true→(0:Int)≤u0∧u0<(s_.closed.length:Int))) ((gB [((bif (decide (((at' p.links u0.toNat).kind)=1))then true else(at' s_.closed u0.toNat)),false)]=true→(0:Int)≤u0∧u0<(s_.locked.length:Int)))<| .rg {} [0,1]<| .it (.r<| .e (.done (.ret false)))
  (.r<| .e (.next (k0 u0)))))
  (.e (.done (.brk ()))))
  (fun _=> .r<| .e true))))
section
variable (x3:(List Int)) (u9:(List Int)) (v0:(List aj)) (v1:(List aj)) (x2:(List Bool)) (u3:(List Bool)) (u4:(List Bool)) (u5:(List Bool)) (u6:(List Bool)) (u7:(List Bool)) (u8:(List Bool))
abbrev Z4:DV:=(tQ [(Td x3),(Td u9),(ax none 2 aj.cell v0),(ax none 2 aj.cell v1)] 0)
abbrev xH:=(⟨x2,u3,u4,u5,u6,u7,u8⟩:State)
end
theorem Ba (b:Int) (x1:Int) (u0:(List Source)) (u1:(List Link)) (u2:(List aL)) (x2:(List Bool)) (u3:(List Bool)) (u4:(List Bool)) (u5:(List Bool)) (u6:(List Bool)) (u7:(List Bool)) (u8:(List Bool)) (x3:(List Int)) (u9:(List Int)) (v0:(List aj)) (v1:(List aj)):bX Tryz.prog 137 [(sI b),(sD (k8 x1 u0 u1 u2)),(sD (WV x2 u3 u4 u5 u6 u7 u8)),(sD (Z4 x3 u9 v0 v1))] [] (fun r=>(vB r)) (fun _=>[]) (p9 b x1 u0 u1 u2 x2 u3 u4 u5 u6 u7 u8 x3 u9 v0 v1):=
  dm tT mX Tryz.func137 (
  .r<| .cl 4 (Ee (⟨x1,u0,u1,u2⟩:ay) (xH x2 u3 u4 u5 u6 u7 u8) (⟨x3,u9,v0,v1⟩:Task) b) fun r_=> .r<| .e (!r_))
section
variable (s_:(List Int)) (f_:Int) (u0:(List Source)) (u1:(List Link)) (u2:(List aL)) (u3:(List Bool)) (u4:(List Bool)) (u5:(List Bool)) (u6:(List Bool)) (u7:(List Bool)) (u8:(List Bool)) (u9:(List Bool)) (v0:(List Int)) (v1:(List Int)) (v2:(List aj)) (v3:(List aj))
abbrev Yd:List SV:=[(sD (Td s_)),(sD (.fn 137 3 (aQ [(k8 f_ u0 u1 u2),(WV u3 u4 u5 u6 u7 u8 u9),(Z4 v0 v1 v2 v3)])))]
end
theorem qD (s_:(List Int)) (f_:Int) (u0:(List Source)) (u1:(List Link)) (u2:(List aL)) (u3:(List Bool)) (u4:(List Bool)) (u5:(List Bool)) (u6:(List Bool)) (u7:(List Bool)) (u8:(List Bool)) (u9:(List Bool)) (v0:(List Int)) (v1:(List Int)) (v2:(List aj)) (v3:(List aj)):bX Tryz.prog 205 (Yd s_ f_ u0 u1 u2 u3 u4 u5 u6 u7 u8 u9 v0 v1 v2 v3) [] (fun r=>(vI r)) (fun _=>[]) (jg s_ f_ u0 u1 u2 u3 u4 u5 u6 u7 u8 u9 v0 v1 v2 v3):=
  dm tT mX Tryz.func205 (
  .r<| .r<| .lp (σ:=Int) (β:=Unit) (0) [] [] ⟨[0,1,7],[],fun t8=>[(8,(vI t8))],fun t8=>[]⟩ ⟨[],[],fun _=>[],fun _=>[]⟩
  (fun t8=> .r<| .it (.r<| .cl 5 (Ba (at' s_ t8.toNat) f_ u0 u1 u2 u3 u4 u5 u6 u7 u8 u9 v0 v1 v2 v3) fun r_=> .a1 ((0:Int)≤t8∧t8<(s_.length:Int))<| .rg {} [0,1]<| .it (.r<| .e (.done (.ret t8)))
  (.r<| .e (.next (k0 t8))))
  (.e (.done (.brk ()))))
  (fun _=> .r<| .e (-1)))
theorem o9 (s_:(List Int)) (f_:Int) (u0:(List Source)) (u1:(List Link)) (u2:(List aL)) (u3:(List Bool)) (u4:(List Bool)) (u5:(List Bool)) (u6:(List Bool)) (u7:(List Bool)) (u8:(List Bool)) (u9:(List Bool)) (v0:(List Int)) (v1:(List Int)) (v2:(List aj)) (v3:(List aj)):bX Tryz.prog 129 (Yd s_ f_ u0 u1 u2 u3 u4 u5 u6 u7 u8 u9 v0 v1 v2 v3) [] (fun r=>(vB r)) (fun _=>[]) (eX s_ f_ u0 u1 u2 u3 u4 u5 u6 u7 u8 u9 v0 v1 v2 v3):=
  dm tT mX Tryz.func129 (
  .r<| .cl 2 (qD s_ f_ u0 u1 u2 u3 u4 u5 u6 u7 u8 u9 v0 v1 v2 v3) fun r_=> .r<| .e (decide (0≤r_)))
section
variable (p:ay) (s_:State) (t:Task)
abbrev Xg:List SV:=[(.agg (k7 p)),(.agg (k1 s_)),(.agg (Ox t))]
end
theorem vU (p:ay) (s_:State) (t:Task):bX Tryz.prog 62 (Xg p s_ t) [] (fun r=>(vI r)) (fun _=>[]) (l9 p s_ t):=
  dm tT mX Tryz.func62 (
  .rg {fr:=[(0,5),(1,6),(2,7)],fz:=[5,6,7]} []<| .cl 2 (D9 p s_) fun r_=> .r<| .r<| .lp (σ:=Int) (β:=Unit) (0) [] [] ⟨[3,4,5,21,22],[],fun u0=>[(23,(vI u0))],fun u0=>[]⟩ ⟨[3,4,5],[],fun _=>[],fun _=>[]⟩
  (fun u0=> .r<| .it (.a1 ((0:Int)≤u0∧u0<(r_.1.length:Int))<| .r<| .a1 ((gB [((at' r_.1 u0.toNat),true)]=true→(0:Int)≤u0∧u0<(s_.earthed.length:Int)))<| .r<| .it (.r<| .e (.done (.ret 40)))
  (.r<| .e (.next (k0 u0))))
  (.e (.done (.brk ()))))
  (fun _=> .cl 2 (Bf p s_) fun u2=> .r<| .r<| .it (.r<| .e 41)
  (.cl 2 (cZ [(0,8)] (uD p s_)) fun u1=> .rg {fr:=[(6,9)],fz:=[8]} []<| .fz [9]<| .cl 3 (pq t.fed u1.1) fun u3=> .r<| .it (.r<| .e 42)
  (.cl 3 (o9 t.crew p.buses p.sources p.links p.racks s_.closed s_.locked s_.badLink s_.on_ s_.badSource s_.earthed s_.badBus t.fed t.crew t.allowed t.goal) fun u4=> .r<| .it (.r<| .e 45)
  (.r<| .e 0)))))
theorem vE (p:ay) (s_:State) (t:Task):bX Tryz.prog 13 (Xg p s_ t) [] (fun r=>(vI r)) (fun _=>[]) (fM p s_ t):=
  dm tT mX Tryz.func13 (
  .rg {fr:=[(0,3),(1,4),(2,5)],fz:=[3,4,5]} []<| .cl 2 (bO p s_) fun r_=> .r<| .r<| .it (.r<| .e r_)
  (.cl 2 (BB p t) fun u1=> .r<| .it (.r<| .e 1)
  (.cl 3 (vU p s_ t) fun u0=> .r<| .e u0)))
theorem tK (s_:(List Bool)) (u0:Bool):bX Tryz.prog 149 [(sD (ax (some u0) 1 af s_))] [] (fun r=>(vD (ax none 1 af r))) (fun _=>[]) (kW s_ u0):=
  dm tT mX Tryz.func149 (
  .r<| .r<| .it (.r<| .e ([]:List Bool))
  (.a2 ((([]:List Bool).length+s_.length)*1≤140737488355328) (([]:List Bool).length+s_.length≤4611686018427387904)<| .rg {an:=[(0, .arr ([]:List Bool).length (aD af ([]:List Bool))),(2, .arr (([]:List Bool)++s_).length (aD af (([]:List Bool)++s_)))],fr:=[(0,2),(2,3)],fz:=[3]} [.pf ⟨([]:List Bool).length=0,rfl⟩, .pf ⟨aP 0 1 (sQ 1 []) (aD af ([]:List Bool)),(fun i hi=>absurd hi (Nat.not_lt_zero i))⟩, .e (([]:List Bool).length),0,1, .pf ⟨(([]:List Bool)++s_).length=([]:List Bool).length+s_.length,List.length_append⟩, .pf ⟨aP (([]:List Bool).length+s_.length) 1 (jY (aD af ([]:List Bool)) ([]:List Bool).length (aD af s_)) (aD af (([]:List Bool)++s_)),bV _ _ _ _⟩]<| .e (([]:List Bool)++s_)))
theorem aZ (s:(List Bool)) {r:(List Bool)} (h:au s=some r):Fn Tryz.prog 149 [(sD (ax none 1 af s))] [] (vD (ax none 1 af r)) []:=by
 refine Fn.nn (tK s true h) fun hl=> ?_
 have hs:s=[]:=List.eq_nil_of_length_eq_zero hl
 subst hs
 exact tK [] false (by rw [←h];kernel_rfl)
abbrev uO:List DV:=[(.int .i64 1),(.int .i64 2),(.int .i64 3),(.int .i64 4),(.int .i64 5),(.int .i64 6),(.int .i64 7),(.int .i64 8)]
abbrev uM:List CV:=[(.d (.fn 267 0 (aQ []))),(cB false),(.d (.fn 267 0 (aQ []))),(cB true),(.d (.fn 269 0 (aQ []))),(cB true),(.d (.fn 269 0 (aQ []))),(cB false),(.d (.fn 268 0 (aQ []))),(cB true),(.d (.fn 268 0 (aQ []))),(cB false),(.d (.fn 270 0 (aQ []))),(cB true),(.d (.fn 270 0 (aQ []))),(cB false)]
abbrev KJ:List CV:=[(.d (.fn 267 0 (aQ []))),(cB false)]
abbrev mV:List DV:=[(.int .i64 1),(.int .i64 2)]
abbrev VW:List CV:=[(.d (.fn 267 0 (aQ []))),(cB false),(.d (.fn 267 0 (aQ []))),(cB true)]
abbrev mW:List DV:=[(.int .i64 1),(.int .i64 2),(.int .i64 3)]
abbrev Wu:List CV:=[(.d (.fn 267 0 (aQ []))),(cB false),(.d (.fn 267 0 (aQ []))),(cB true),(.d (.fn 269 0 (aQ []))),(cB true)]
abbrev OW:List DV:=[(.int .i64 1),(.int .i64 2),(.int .i64 3),(.int .i64 4)]
abbrev Vh:List CV:=[(.d (.fn 267 0 (aQ []))),(cB false),(.d (.fn 267 0 (aQ []))),(cB true),(.d (.fn 269 0 (aQ []))),(cB true),(.d (.fn 269 0 (aQ []))),(cB false)]
abbrev Fe:List DV:=[(.int .i64 1),(.int .i64 2),(.int .i64 3),(.int .i64 4),(.int .i64 5)]
abbrev Wq:List CV:=[(.d (.fn 267 0 (aQ []))),(cB false),(.d (.fn 267 0 (aQ []))),(cB true),(.d (.fn 269 0 (aQ []))),(cB true),(.d (.fn 269 0 (aQ []))),(cB false),(.d (.fn 268 0 (aQ []))),(cB true)]
abbrev VE:List DV:=[(.int .i64 1),(.int .i64 2),(.int .i64 3),(.int .i64 4),(.int .i64 5),(.int .i64 6)]
abbrev Vn:List CV:=[(.d (.fn 267 0 (aQ []))),(cB false),(.d (.fn 267 0 (aQ []))),(cB true),(.d (.fn 269 0 (aQ []))),(cB true),(.d (.fn 269 0 (aQ []))),(cB false),(.d (.fn 268 0 (aQ []))),(cB true),(.d (.fn 268 0 (aQ []))),(cB false)]
abbrev U3:List DV:=[(.int .i64 1),(.int .i64 2),(.int .i64 3),(.int .i64 4),(.int .i64 5),(.int .i64 6),(.int .i64 7)]
abbrev Vw:List CV:=[(.d (.fn 267 0 (aQ []))),(cB false),(.d (.fn 267 0 (aQ []))),(cB true),(.d (.fn 269 0 (aQ []))),(cB true),(.d (.fn 269 0 (aQ []))),(cB false),(.d (.fn 268 0 (aQ []))),(cB true),(.d (.fn 268 0 (aQ []))),(cB false),(.d (.fn 270 0 (aQ []))),(cB true)]
abbrev RU:List CV:=[(.d (.fn 267 0 (aQ []))),(cB true)]
abbrev Rt:List CV:=[(.d (.fn 269 0 (aQ []))),(cB true)]
abbrev Qz:List CV:=[(.d (.fn 269 0 (aQ []))),(cB false)]
abbrev PX:List CV:=[(.d (.fn 268 0 (aQ []))),(cB true)]
abbrev Rx:List CV:=[(.d (.fn 268 0 (aQ []))),(cB false)]
abbrev Rq:List CV:=[(.d (.fn 270 0 (aQ []))),(cB true)]
abbrev Rj:List CV:=[(.d (.fn 270 0 (aQ []))),(cB false)]
theorem vW:bX Tryz.prog 220 [] [] (fun _=>(.v (.one (.mp 0)))) (fun _=>[(0,some (.map ⟨43,305,false,true,1,2,8,(dA uO),(iW 2 uM),[]⟩))]) (lX):=
  dm tT mX Tryz.func220 (
  .r<| .r<| .r<| .r<| .r<| .rg {an:=[(0, .map 0 (dA []) (iW 2 []) []),(3, .map 1 (dA [(.int .i64 1)]) (iW 2 KJ) []),(6, .map 2 (dA mV) (iW 2 VW) []),(9, .map 3 (dA mW) (iW 2 Wu) []),(12, .map 4 (dA OW) (iW 2 Vh) []),(15, .map 5 (dA Fe) (iW 2 Wq) []),(18, .map 6 (dA VE) (iW 2 Vn) []),(21, .map 7 (dA U3) (iW 2 Vw) []),(24, .map 8 (dA uO) (iW 2 uM) [])],fr:=[(0,1)]} [.pf ⟨dY [some .i64] 1 2 0 (dA []) (iW 2 []) [(.int .i64 1)] KJ [] 1 (dA [(.int .i64 1)]) (iW 2 KJ),⟨(fun i hi=>absurd hi (Nat.not_lt_zero i)),(by intro i hi j hj;match i,j,hi,hj with|0,0,_,_=>exact av.1 (show aN (CV.aI (.d (.fn 267 0 (aQ [])))) []=true from by kernel_rfl)|0,1,_,_=>exact av.1 (show aN (CV.aI (cB false)) []=true from by kernel_rfl)),0,(fun i hi=>absurd hi (Nat.not_lt_zero i)), .inr ⟨rfl,rfl⟩,rfl,rfl,(fun i hi=>absurd hi (Nat.not_lt_zero i))⟩⟩, .pf ⟨dY [some .i64] 1 2 1 (dA [(.int .i64 1)]) (iW 2 KJ) [(.int .i64 2)] RU [] 2 (dA mV) (iW 2 VW),⟨(by intro i hi;match i,hi with|0,_=>rfl),(by intro i hi j hj;match i,j,hi,hj with|0,0,_,_=>exact av.1 (show aN (CV.aI (.d (.fn 267 0 (aQ [])))) []=true from by kernel_rfl)|0,1,_,_=>exact av.1 (show aN (CV.aI (cB false)) []=true from by kernel_rfl)|1,0,_,_=>exact av.1 (show aN (CV.aI (.d (.fn 267 0 (aQ [])))) []=true from by kernel_rfl)|1,1,_,_=>exact av.1 (show aN (CV.aI (cB true)) []=true from by kernel_rfl)),1,(by intro i hi;match i,hi with|0,_=>rfl), .inr ⟨rfl,rfl⟩,rfl,rfl,(by intro i hi;match i,hi with|0,_=>exact fun _=> ⟨rfl,rfl⟩)⟩⟩, .pf ⟨dY [some .i64] 1 2 2 (dA mV) (iW 2 VW) [(.int .i64 3)] Rt [] 3 (dA mW) (iW 2 Wu),⟨(by intro i hi;match i,hi with|0,_=>rfl|1,_=>rfl),(by intro i hi j hj;match i,j,hi,hj with|0,0,_,_=>exact av.1 (show aN (CV.aI (.d (.fn 267 0 (aQ [])))) []=true from by kernel_rfl)|0,1,_,_=>exact av.1 (show aN (CV.aI (cB false)) []=true from by kernel_rfl)|1,0,_,_=>exact av.1 (show aN (CV.aI (.d (.fn 267 0 (aQ [])))) []=true from by kernel_rfl)|1,1,_,_=>exact av.1 (show aN (CV.aI (cB true)) []=true from by kernel_rfl)|2,0,_,_=>exact av.1 (show aN (CV.aI (.d (.fn 269 0 (aQ [])))) []=true from by kernel_rfl)|2,1,_,_=>exact av.1 (show aN (CV.aI (cB true)) []=true from by kernel_rfl)),2,(by intro i hi;match i,hi with|0,_=>rfl|1,_=>rfl), .inr ⟨rfl,rfl⟩,rfl,rfl,(by intro i hi;match i,hi with|0,_=>exact fun _=> ⟨rfl,rfl⟩|1,_=>exact fun _=> ⟨rfl,rfl⟩)⟩⟩, .pf ⟨dY [some .i64] 1 2 3 (dA mW) (iW 2 Wu) [(.int .i64 4)] Qz [] 4 (dA OW) (iW 2 Vh),⟨(by intro i hi;match i,hi with|0,_=>rfl|1,_=>rfl|2,_=>rfl),(by intro i hi j hj;match i,j,hi,hj with|0,0,_,_=>exact av.1 (show aN (CV.aI (.d (.fn 267 0 (aQ [])))) []=true from by kernel_rfl)|0,1,_,_=>exact av.1 (show aN (CV.aI (cB false)) []=true from by kernel_rfl)|1,0,_,_=>exact av.1 (show aN (CV.aI (.d (.fn 267 0 (aQ [])))) []=true from by kernel_rfl)|1,1,_,_=>exact av.1 (show aN (CV.aI (cB true)) []=true from by kernel_rfl)|2,0,_,_=>exact av.1 (show aN (CV.aI (.d (.fn 269 0 (aQ [])))) []=true from by kernel_rfl)|2,1,_,_=>exact av.1 (show aN (CV.aI (cB true)) []=true from by kernel_rfl)|3,0,_,_=>exact av.1 (show aN (CV.aI (.d (.fn 269 0 (aQ [])))) []=true from by kernel_rfl)|3,1,_,_=>exact av.1 (show aN (CV.aI (cB false)) []=true from by kernel_rfl)),3,(by intro i hi;match i,hi with|0,_=>rfl|1,_=>rfl|2,_=>rfl), .inr ⟨rfl,rfl⟩,rfl,rfl,(by intro i hi;match i,hi with|0,_=>exact fun _=> ⟨rfl,rfl⟩|1,_=>exact fun _=> ⟨rfl,rfl⟩|2,_=>exact fun _=> ⟨rfl,rfl⟩)⟩⟩, .pf ⟨dY [some .i64] 1 2 4 (dA OW) (iW 2 Vh) [(.int .i64 5)] PX [] 5 (dA Fe) (iW 2 Wq),⟨(by intro i hi;match i,hi with|0,_=>rfl|1,_=>rfl|2,_=>rfl|3,_=>rfl),(by intro i hi j hj;match i,j,hi,hj with|0,0,_,_=>exact av.1 (show aN (CV.aI (.d (.fn 267 0 (aQ [])))) []=true from by kernel_rfl)|0,1,_,_=>exact av.1 (show aN (CV.aI (cB false)) []=true from by kernel_rfl)|1,0,_,_=>exact av.1 (show aN (CV.aI (.d (.fn 267 0 (aQ [])))) []=true from by kernel_rfl)|1,1,_,_=>exact av.1 (show aN (CV.aI (cB true)) []=true from by kernel_rfl)|2,0,_,_=>exact av.1 (show aN (CV.aI (.d (.fn 269 0 (aQ [])))) []=true from by kernel_rfl)|2,1,_,_=>exact av.1 (show aN (CV.aI (cB true)) []=true from by kernel_rfl)|3,0,_,_=>exact av.1 (show aN (CV.aI (.d (.fn 269 0 (aQ [])))) []=true from by kernel_rfl)|3,1,_,_=>exact av.1 (show aN (CV.aI (cB false)) []=true from by kernel_rfl)|4,0,_,_=>exact av.1 (show aN (CV.aI (.d (.fn 268 0 (aQ [])))) []=true from by kernel_rfl)|4,1,_,_=>exact av.1 (show aN (CV.aI (cB true)) []=true from by kernel_rfl)),4,(by intro i hi;match i,hi with|0,_=>rfl|1,_=>rfl|2,_=>rfl|3,_=>rfl), .inr ⟨rfl,rfl⟩,rfl,rfl,(by intro i hi;match i,hi with|0,_=>exact fun _=> ⟨rfl,rfl⟩|1,_=>exact fun _=> ⟨rfl,rfl⟩|2,_=>exact fun _=> ⟨rfl,rfl⟩|3,_=>exact fun _=> ⟨rfl,rfl⟩)⟩⟩, .pf ⟨dY [some .i64] 1 2 5 (dA Fe) (iW 2 Wq) [(.int .i64 6)] Rx [] 6 (dA VE) (iW 2 Vn),⟨(by intro i hi;match i,hi with|0,_=>rfl|1,_=>rfl|2,_=>rfl|3,_=>rfl|4,_=>rfl),(by intro i hi j hj;match i,j,hi,hj with|0,0,_,_=>exact av.1 (show aN (CV.aI (.d (.fn 267 0 (aQ [])))) []=true from by kernel_rfl)|0,1,_,_=>exact av.1 (show aN (CV.aI (cB false)) []=true from by kernel_rfl)|1,0,_,_=>exact av.1 (show aN (CV.aI (.d (.fn 267 0 (aQ [])))) []=true from by kernel_rfl)|1,1,_,_=>exact av.1 (show aN (CV.aI (cB true)) []=true from by kernel_rfl)|2,0,_,_=>exact av.1 (show aN (CV.aI (.d (.fn 269 0 (aQ [])))) []=true from by kernel_rfl)|2,1,_,_=>exact av.1 (show aN (CV.aI (cB true)) []=true from by kernel_rfl)|3,0,_,_=>exact av.1 (show aN (CV.aI (.d (.fn 269 0 (aQ [])))) []=true from by kernel_rfl)|3,1,_,_=>exact av.1 (show aN (CV.aI (cB false)) []=true from by kernel_rfl)|4,0,_,_=>exact av.1 (show aN (CV.aI (.d (.fn 268 0 (aQ [])))) []=true from by kernel_rfl)|4,1,_,_=>exact av.1 (show aN (CV.aI (cB true)) []=true from by kernel_rfl)|5,0,_,_=>exact av.1 (show aN (CV.aI (.d (.fn 268 0 (aQ [])))) []=true from by kernel_rfl)|5,1,_,_=>exact av.1 (show aN (CV.aI (cB false)) []=true from by kernel_rfl)),5,(by intro i hi;match i,hi with|0,_=>rfl|1,_=>rfl|2,_=>rfl|3,_=>rfl|4,_=>rfl), .inr ⟨rfl,rfl⟩,rfl,rfl,(by intro i hi;match i,hi with|0,_=>exact fun _=> ⟨rfl,rfl⟩|1,_=>exact fun _=> ⟨rfl,rfl⟩|2,_=>exact fun _=> ⟨rfl,rfl⟩|3,_=>exact fun _=> ⟨rfl,rfl⟩|4,_=>exact fun _=> ⟨rfl,rfl⟩)⟩⟩, .pf ⟨dY [some .i64] 1 2 6 (dA VE) (iW 2 Vn) [(.int .i64 7)] Rq [] 7 (dA U3) (iW 2 Vw),⟨(by intro i hi;match i,hi with|0,_=>rfl|1,_=>rfl|2,_=>rfl|3,_=>rfl|4,_=>rfl|5,_=>rfl),(by intro i hi j hj;match i,j,hi,hj with|0,0,_,_=>exact av.1 (show aN (CV.aI (.d (.fn 267 0 (aQ [])))) []=true from by kernel_rfl)|0,1,_,_=>exact av.1 (show aN (CV.aI (cB false)) []=true from by kernel_rfl)|1,0,_,_=>exact av.1 (show aN (CV.aI (.d (.fn 267 0 (aQ [])))) []=true from by kernel_rfl)|1,1,_,_=>exact av.1 (show aN (CV.aI (cB true)) []=true from by kernel_rfl)|2,0,_,_=>exact av.1 (show aN (CV.aI (.d (.fn 269 0 (aQ [])))) []=true from by kernel_rfl)|2,1,_,_=>exact av.1 (show aN (CV.aI (cB true)) []=true from by kernel_rfl)|3,0,_,_=>exact av.1 (show aN (CV.aI (.d (.fn 269 0 (aQ [])))) []=true from by kernel_rfl)|3,1,_,_=>exact av.1 (show aN (CV.aI (cB false)) []=true from by kernel_rfl)|4,0,_,_=>exact av.1 (show aN (CV.aI (.d (.fn 268 0 (aQ [])))) []=true from by kernel_rfl)|4,1,_,_=>exact av.1 (show aN (CV.aI (cB true)) []=true from by kernel_rfl)|5,0,_,_=>exact av.1 (show aN (CV.aI (.d (.fn 268 0 (aQ [])))) []=true from by kernel_rfl)|5,1,_,_=>exact av.1 (show aN (CV.aI (cB false)) []=true from by kernel_rfl)|6,0,_,_=>exact av.1 (show aN (CV.aI (.d (.fn 270 0 (aQ [])))) []=true from by kernel_rfl)|6,1,_,_=>exact av.1 (show aN (CV.aI (cB true)) []=true from by kernel_rfl)),6,(by intro i hi;match i,hi with|0,_=>rfl|1,_=>rfl|2,_=>rfl|3,_=>rfl|4,_=>rfl|5,_=>rfl), .inr ⟨rfl,rfl⟩,rfl,rfl,(by intro i hi;match i,hi with|0,_=>exact fun _=> ⟨rfl,rfl⟩|1,_=>exact fun _=> ⟨rfl,rfl⟩|2,_=>exact fun _=> ⟨rfl,rfl⟩|3,_=>exact fun _=> ⟨rfl,rfl⟩|4,_=>exact fun _=> ⟨rfl,rfl⟩|5,_=>exact fun _=> ⟨rfl,rfl⟩)⟩⟩, .pf ⟨dY [some .i64] 1 2 7 (dA U3) (iW 2 Vw) [(.int .i64 8)] Rj [] 8 (dA uO) (iW 2 uM),⟨(by intro i hi;match i,hi with|0,_=>rfl|1,_=>rfl|2,_=>rfl|3,_=>rfl|4,_=>rfl|5,_=>rfl|6,_=>rfl),(by intro i hi j hj;match i,j,hi,hj with|0,0,_,_=>exact av.1 (show aN (CV.aI (.d (.fn 267 0 (aQ [])))) []=true from by kernel_rfl)|0,1,_,_=>exact av.1 (show aN (CV.aI (cB false)) []=true from by kernel_rfl)|1,0,_,_=>exact av.1 (show aN (CV.aI (.d (.fn 267 0 (aQ [])))) []=true from by kernel_rfl)|1,1,_,_=>exact av.1 (show aN (CV.aI (cB true)) []=true from by kernel_rfl)|2,0,_,_=>exact av.1 (show aN (CV.aI (.d (.fn 269 0 (aQ [])))) []=true from by kernel_rfl)|2,1,_,_=>exact av.1 (show aN (CV.aI (cB true)) []=true from by kernel_rfl)|3,0,_,_=>exact av.1 (show aN (CV.aI (.d (.fn 269 0 (aQ [])))) []=true from by kernel_rfl)|3,1,_,_=>exact av.1 (show aN (CV.aI (cB false)) []=true from by kernel_rfl)|4,0,_,_=>exact av.1 (show aN (CV.aI (.d (.fn 268 0 (aQ [])))) []=true from by kernel_rfl)|4,1,_,_=>exact av.1 (show aN (CV.aI (cB true)) []=true from by kernel_rfl)|5,0,_,_=>exact av.1 (show aN (CV.aI (.d (.fn 268 0 (aQ [])))) []=true from by kernel_rfl)|5,1,_,_=>exact av.1 (show aN (CV.aI (cB false)) []=true from by kernel_rfl)|6,0,_,_=>exact av.1 (show aN (CV.aI (.d (.fn 270 0 (aQ [])))) []=true from by kernel_rfl)|6,1,_,_=>exact av.1 (show aN (CV.aI (cB true)) []=true from by kernel_rfl)|7,0,_,_=>exact av.1 (show aN (CV.aI (.d (.fn 270 0 (aQ [])))) []=true from by kernel_rfl)|7,1,_,_=>exact av.1 (show aN (CV.aI (cB false)) []=true from by kernel_rfl)),7,(by intro i hi;match i,hi with|0,_=>rfl|1,_=>rfl|2,_=>rfl|3,_=>rfl|4,_=>rfl|5,_=>rfl|6,_=>rfl), .inr ⟨rfl,rfl⟩,rfl,rfl,(by intro i hi;match i,hi with|0,_=>exact fun _=> ⟨rfl,rfl⟩|1,_=>exact fun _=> ⟨rfl,rfl⟩|2,_=>exact fun _=> ⟨rfl,rfl⟩|3,_=>exact fun _=> ⟨rfl,rfl⟩|4,_=>exact fun _=> ⟨rfl,rfl⟩|5,_=>exact fun _=> ⟨rfl,rfl⟩|6,_=>exact fun _=> ⟨rfl,rfl⟩)⟩⟩]<| .en () [] [(1,0)])
theorem pE (s_:(List Bool)) (u0:Bool):bX Tryz.prog 149 [(sD (ax (some u0) 1 af s_))] [] (fun r=>(vO 0 false r.length)) (fun r=>[(0,some (bK 4 1 af r))]) (kW s_ u0):=
  dm tT mX Tryz.func149 (
  .r<| .r<| .it (.r<| .im (.ad 2 2 4 1 (aD af ([]:List Bool)))<| .en ([]:List Bool) [] [(2,0)])
  (.a2 ((([]:List Bool).length+s_.length)*1≤140737488355328) (([]:List Bool).length+s_.length≤4611686018427387904)<| .rg {an:=[(0, .arr ([]:List Bool).length (aD af ([]:List Bool))),(2, .arr (([]:List Bool)++s_).length (aD af (([]:List Bool)++s_)))],fr:=[(0,3),(2,4)]} [.pf ⟨([]:List Bool).length=0,rfl⟩, .pf ⟨aP 0 1 (sQ 1 []) (aD af ([]:List Bool)),(fun i hi=>absurd hi (Nat.not_lt_zero i))⟩, .e (([]:List Bool).length),0,1, .pf ⟨(([]:List Bool)++s_).length=([]:List Bool).length+s_.length,List.length_append⟩, .pf ⟨aP (([]:List Bool).length+s_.length) 1 (jY (aD af ([]:List Bool)) ([]:List Bool).length (aD af s_)) (aD af (([]:List Bool)++s_)),bV _ _ _ _⟩]<| .en (([]:List Bool)++s_) [] [(4,0)]))
end
end Sg
