import Derived.Test.YtbjhjmcpfmhgdaaGreatAgGm
import Derived.Test.YtbjhjmcpfmhgdaaGreatProg
import Derived.Test.YtbjhjmcpfmhgdaaGreatAgLf
set_option linter.all false
namespace Sg
open Go Go.Proofs
set_option maxRecDepth 20000
noncomputable section
noncomputable def TT:List (Nat × TI):=[(3,⟨Tryz.t3.desc,Tryz.t3.size,Tryz.t3.bytes,zl Tryz.t3,false⟩),
  (4,⟨Tryz.t4.desc,Tryz.t4.size,Tryz.t4.bytes,zl Tryz.t4,false⟩),
  (5,⟨Tryz.t5.desc,Tryz.t5.size,Tryz.t5.bytes,zl Tryz.t5,false⟩),
  (9,⟨Tryz.t9.desc,Tryz.t9.size,Tryz.t9.bytes,zl Tryz.t9,false⟩),
  (22,⟨Tryz.t22.desc,Tryz.t22.size,Tryz.t22.bytes,zl Tryz.t22,false⟩),
  (23,⟨Tryz.t23.desc,Tryz.t23.size,Tryz.t23.bytes,zl Tryz.t23,false⟩),
  (24,⟨Tryz.t24.desc,Tryz.t24.size,Tryz.t24.bytes,zl Tryz.t24,false⟩),
  (26,⟨Tryz.t25.desc,Tryz.t26.size,Tryz.t26.bytes,zl Tryz.t26,false⟩),
  (27,⟨Tryz.t27.desc,Tryz.t27.size,Tryz.t27.bytes,zl Tryz.t27,false⟩),
  (29,⟨Tryz.t28.desc,Tryz.t29.size,Tryz.t29.bytes,zl Tryz.t29,false⟩),
  (32,⟨Tryz.t3.desc,Tryz.t32.size,Tryz.t32.bytes,zl Tryz.t32,false⟩),
  (33,⟨Tryz.t33.desc,Tryz.t33.size,Tryz.t33.bytes,zl Tryz.t33,false⟩),
  (35,⟨Tryz.t34.desc,Tryz.t35.size,Tryz.t35.bytes,zl Tryz.t35,false⟩),
  (36,⟨Tryz.t3.desc,Tryz.t36.size,Tryz.t36.bytes,zl Tryz.t36,false⟩),
  (38,⟨Tryz.t37.desc,Tryz.t38.size,Tryz.t38.bytes,zl Tryz.t38,true⟩),
  (39,⟨Tryz.t39.desc,Tryz.t39.size,Tryz.t39.bytes,zl Tryz.t39,false⟩),
  (40,⟨Tryz.t40.desc,Tryz.t40.size,Tryz.t40.bytes,zl Tryz.t40,false⟩),
  (42,⟨Tryz.t41.desc,Tryz.t42.size,Tryz.t42.bytes,zl Tryz.t42,false⟩),
  (43,⟨Tryz.t3.desc,Tryz.t43.size,Tryz.t43.bytes,zl Tryz.t43,false⟩),
  (45,⟨Tryz.t44.desc,Tryz.t45.size,Tryz.t45.bytes,zl Tryz.t45,true⟩),
  (47,⟨Tryz.t41.desc,Tryz.t47.size,Tryz.t47.bytes,zl Tryz.t47,false⟩),
  (49,⟨Tryz.t3.desc,Tryz.t49.size,Tryz.t49.bytes,zl Tryz.t49,false⟩),
  (76,⟨Tryz.t3.desc,Tryz.t76.size,Tryz.t76.bytes,zl Tryz.t76,false⟩),
  (78,⟨Tryz.t77.desc,Tryz.t78.size,Tryz.t78.bytes,zl Tryz.t78,true⟩),
  (99,⟨Tryz.t99.desc,Tryz.t99.size,Tryz.t99.bytes,zl Tryz.t99,false⟩),
  (101,⟨Tryz.t101.desc,Tryz.t101.size,Tryz.t101.bytes,zl Tryz.t101,false⟩),
  (104,⟨Tryz.t104.desc,Tryz.t104.size,Tryz.t104.bytes,zl Tryz.t104,false⟩),
  (108,⟨Tryz.t107.desc,Tryz.t108.size,Tryz.t108.bytes,zl Tryz.t108,true⟩),
  (111,⟨Tryz.t110.desc,Tryz.t111.size,Tryz.t111.bytes,zl Tryz.t111,true⟩),
  (116,⟨Tryz.t116.desc,Tryz.t116.size,Tryz.t116.bytes,zl Tryz.t116,false⟩),
  (119,⟨Tryz.t118.desc,Tryz.t119.size,Tryz.t119.bytes,zl Tryz.t119,true⟩),
  (121,⟨Tryz.t121.desc,Tryz.t121.size,Tryz.t121.bytes,zl Tryz.t121,false⟩),
  (125,⟨Tryz.t125.desc,Tryz.t125.size,Tryz.t125.bytes,zl Tryz.t125,false⟩),
  (129,⟨Tryz.t128.desc,Tryz.t129.size,Tryz.t129.bytes,zl Tryz.t129,true⟩),
  (130,⟨Tryz.t130.desc,Tryz.t130.size,Tryz.t130.bytes,zl Tryz.t130,false⟩),
  (133,⟨Tryz.t133.desc,Tryz.t133.size,Tryz.t133.bytes,zl Tryz.t133,true⟩),
  (137,⟨Tryz.t107.desc,Tryz.t137.size,Tryz.t137.bytes,zl Tryz.t137,true⟩),
  (138,⟨Tryz.t3.desc,Tryz.t138.size,Tryz.t138.bytes,zl Tryz.t138,false⟩),
  (140,⟨Tryz.t139.desc,Tryz.t140.size,Tryz.t140.bytes,zl Tryz.t140,true⟩),
  (141,⟨Tryz.t141.desc,Tryz.t141.size,Tryz.t141.bytes,zl Tryz.t141,false⟩),
  (143,⟨Tryz.t142.desc,Tryz.t143.size,Tryz.t143.bytes,zl Tryz.t143,false⟩),
  (145,⟨Tryz.t145.desc,Tryz.t145.size,Tryz.t145.bytes,zl Tryz.t145,true⟩),
  (147,⟨Tryz.t146.desc,Tryz.t147.size,Tryz.t147.bytes,zl Tryz.t147,true⟩),
  (155,⟨Tryz.t155.desc,Tryz.t155.size,Tryz.t155.bytes,zl Tryz.t155,false⟩),
  (221,⟨Tryz.t220.desc,Tryz.t221.size,Tryz.t221.bytes,zl Tryz.t221,false⟩),
  (226,⟨Tryz.t226.desc,Tryz.t226.size,Tryz.t226.bytes,zl Tryz.t226,false⟩),
  (227,⟨Tryz.t227.desc,Tryz.t227.size,Tryz.t227.bytes,zl Tryz.t227,false⟩),
  (229,⟨Tryz.t229.desc,Tryz.t229.size,Tryz.t229.bytes,zl Tryz.t229,false⟩),
  (231,⟨Tryz.t231.desc,Tryz.t231.size,Tryz.t231.bytes,zl Tryz.t231,false⟩),
  (232,⟨Tryz.t232.desc,Tryz.t232.size,Tryz.t232.bytes,zl Tryz.t232,false⟩),
  (242,⟨Tryz.t242.desc,Tryz.t242.size,Tryz.t242.bytes,zl Tryz.t242,false⟩),
  (244,⟨Tryz.t243.desc,Tryz.t244.size,Tryz.t244.bytes,zl Tryz.t244,false⟩),
  (245,⟨Tryz.t245.desc,Tryz.t245.size,Tryz.t245.bytes,zl Tryz.t245,false⟩),
  (247,⟨Tryz.t247.desc,Tryz.t247.size,Tryz.t247.bytes,zl Tryz.t247,false⟩),
  (248,⟨Tryz.t248.desc,Tryz.t248.size,Tryz.t248.bytes,zl Tryz.t248,false⟩),
  (272,⟨Tryz.t272.desc,Tryz.t272.size,Tryz.t272.bytes,zl Tryz.t272,false⟩),
  (282,⟨Tryz.t281.desc,Tryz.t282.size,Tryz.t282.bytes,zl Tryz.t282,true⟩),
  (284,⟨Tryz.t284.desc,Tryz.t284.size,Tryz.t284.bytes,zl Tryz.t284,false⟩),
  (287,⟨Tryz.t286.desc,Tryz.t287.size,Tryz.t287.bytes,zl Tryz.t287,false⟩),
  (290,⟨Tryz.t290.desc,Tryz.t290.size,Tryz.t290.bytes,zl Tryz.t290,false⟩),
  (293,⟨Tryz.t293.desc,Tryz.t293.size,Tryz.t293.bytes,zl Tryz.t293,false⟩),
  (296,⟨Tryz.t296.desc,Tryz.t296.size,Tryz.t296.bytes,zl Tryz.t296,false⟩),
  (303,⟨Tryz.t303.desc,Tryz.t303.size,Tryz.t303.bytes,zl Tryz.t303,false⟩),
  (305,⟨Tryz.t304.desc,Tryz.t305.size,Tryz.t305.bytes,zl Tryz.t305,false⟩),
  (306,⟨Tryz.t306.desc,Tryz.t306.size,Tryz.t306.bytes,zl Tryz.t306,false⟩),
  (313,⟨Tryz.t313.desc,Tryz.t313.size,Tryz.t313.bytes,zl Tryz.t313,false⟩),
  (329,⟨Tryz.t329.desc,Tryz.t329.size,Tryz.t329.bytes,zl Tryz.t329,false⟩),
  (331,⟨Tryz.t331.desc,Tryz.t331.size,Tryz.t331.bytes,zl Tryz.t331,false⟩),
  (337,⟨Tryz.t336.desc,Tryz.t337.size,Tryz.t337.bytes,zl Tryz.t337,false⟩)]
theorem tT:nH Tryz.prog TT:=⟨dP (by kernel_rfl) (by kernel_rfl) (by kernel_rfl),⟨fA,bG (by kernel_rfl)⟩,dP (by kernel_rfl) (by kernel_rfl) (by kernel_rfl),⟨fA,bG (by kernel_rfl)⟩,dP (by kernel_rfl) (by kernel_rfl) (by kernel_rfl),⟨fA,bG (by kernel_rfl)⟩,dP (by kernel_rfl) (by kernel_rfl) (by kernel_rfl),⟨fA,bG (by kernel_rfl)⟩,dP (by kernel_rfl) (by kernel_rfl) (by kernel_rfl),⟨fA,bG (by kernel_rfl)⟩,dP (by kernel_rfl) (by kernel_rfl) (by kernel_rfl),⟨fA,bG (by kernel_rfl)⟩,dP (by kernel_rfl) (by kernel_rfl) (by kernel_rfl),⟨fA,bG (by kernel_rfl)⟩,dP (by kernel_rfl) (by kernel_rfl) (by kernel_rfl),⟨fA,bG (by kernel_rfl)⟩,dP (by kernel_rfl) (by kernel_rfl) (by kernel_rfl),⟨fA,bG (by kernel_rfl)⟩,dP (by kernel_rfl) (by kernel_rfl) (by kernel_rfl),⟨fA,bG (by kernel_rfl)⟩,dP (by kernel_rfl) (by kernel_rfl) (by kernel_rfl),⟨fA,bG (by kernel_rfl)⟩,dP (by kernel_rfl) (by kernel_rfl) (by kernel_rfl),⟨fA,bG (by kernel_rfl)⟩,dP (by kernel_rfl) (by kernel_rfl) (by kernel_rfl),⟨fA,bG (by kernel_rfl)⟩,dP (by kernel_rfl) (by kernel_rfl) (by kernel_rfl),⟨fA,bG (by kernel_rfl)⟩,dP (by kernel_rfl) (by kernel_rfl) (by kernel_rfl),⟨fun _=> ⟨by kernel_rfl,by kernel_rfl⟩,bG (by kernel_rfl)⟩,dP (by kernel_rfl) (by kernel_rfl) (by kernel_rfl),⟨fA,bG (by kernel_rfl)⟩,dP (by kernel_rfl) (by kernel_rfl) (by kernel_rfl),⟨fA,bG (by kernel_rfl)⟩,dP (by kernel_rfl) (by kernel_rfl) (by kernel_rfl),⟨fA,bG (by kernel_rfl)⟩,dP (by kernel_rfl) (by kernel_rfl) (by kernel_rfl),⟨fA,bG (by kernel_rfl)⟩,dP (by kernel_rfl) (by kernel_rfl) (by kernel_rfl),⟨fun _=> ⟨by kernel_rfl,by kernel_rfl⟩,bG (by kernel_rfl)⟩,dP (by kernel_rfl) (by kernel_rfl) (by kernel_rfl),⟨fA,bG (by kernel_rfl)⟩,dP (by kernel_rfl) (by kernel_rfl) (by kernel_rfl),⟨fA,bG (by kernel_rfl)⟩,dP (by kernel_rfl) (by kernel_rfl) (by kernel_rfl),⟨fA,bG (by kernel_rfl)⟩,dP (by kernel_rfl) (by kernel_rfl) (by kernel_rfl),⟨fun _=> ⟨by kernel_rfl,by kernel_rfl⟩,bG (by kernel_rfl)⟩,dP (by kernel_rfl) (by kernel_rfl) (by kernel_rfl),⟨fA,bG (by kernel_rfl)⟩,dP (by kernel_rfl) (by kernel_rfl) (by kernel_rfl),⟨fA,bG (by kernel_rfl)⟩,dP (by kernel_rfl) (by kernel_rfl) (by kernel_rfl),⟨fA,bG (by kernel_rfl)⟩,dP (by kernel_rfl) (by kernel_rfl) (by kernel_rfl),⟨fun _=> ⟨by kernel_rfl,by kernel_rfl⟩,bG (by kernel_rfl)⟩,dP (by kernel_rfl) (by kernel_rfl) (by kernel_rfl),⟨fun _=> ⟨by kernel_rfl,by kernel_rfl⟩,bG (by kernel_rfl)⟩,dP (by kernel_rfl) (by kernel_rfl) (by kernel_rfl),⟨fA,bG (by kernel_rfl)⟩,dP (by kernel_rfl) (by kernel_rfl) (by kernel_rfl),⟨fun _=> ⟨by kernel_rfl,by kernel_rfl⟩,bG (by kernel_rfl)⟩,dP (by kernel_rfl) (by kernel_rfl) (by kernel_rfl),⟨fA,bG (by kernel_rfl)⟩,dP (by kernel_rfl) (by kernel_rfl) (by kernel_rfl),⟨fA,bG (by kernel_rfl)⟩,dP (by kernel_rfl) (by kernel_rfl) (by kernel_rfl),⟨fun _=> ⟨by kernel_rfl,by kernel_rfl⟩,bG (by kernel_rfl)⟩,dP (by kernel_rfl) (by kernel_rfl) (by kernel_rfl),⟨fA,bG (by kernel_rfl)⟩,dP (by kernel_rfl) (by kernel_rfl) (by kernel_rfl),⟨fun _=> ⟨by kernel_rfl,by kernel_rfl⟩,bG (by kernel_rfl)⟩,dP (by kernel_rfl) (by kernel_rfl) (by kernel_rfl),⟨fun _=> ⟨by kernel_rfl,by kernel_rfl⟩,bG (by kernel_rfl)⟩,dP (by kernel_rfl) (by kernel_rfl) (by kernel_rfl),⟨fA,bG (by kernel_rfl)⟩,dP (by kernel_rfl) (by kernel_rfl) (by kernel_rfl),⟨fun _=> ⟨by kernel_rfl,by kernel_rfl⟩,bG (by kernel_rfl)⟩,dP (by kernel_rfl) (by kernel_rfl) (by kernel_rfl),⟨fA,bG (by kernel_rfl)⟩,dP (by kernel_rfl) (by kernel_rfl) (by kernel_rfl),⟨fA,bG (by kernel_rfl)⟩,dP (by kernel_rfl) (by kernel_rfl) (by kernel_rfl),⟨fun _=> ⟨by kernel_rfl,by kernel_rfl⟩,bG (by kernel_rfl)⟩,dP (by kernel_rfl) (by kernel_rfl) (by kernel_rfl),⟨fun _=> ⟨by kernel_rfl,by kernel_rfl⟩,bG (by kernel_rfl)⟩,dP (by kernel_rfl) (by kernel_rfl) (by kernel_rfl),⟨fA,bG (by kernel_rfl)⟩,dP (by kernel_rfl) (by kernel_rfl) (by kernel_rfl),⟨fA,bG (by kernel_rfl)⟩,dP (by kernel_rfl) (by kernel_rfl) (by kernel_rfl),⟨fA,bG (by kernel_rfl)⟩,dP (by kernel_rfl) (by kernel_rfl) (by kernel_rfl),⟨fA,bG (by kernel_rfl)⟩,dP (by kernel_rfl) (by kernel_rfl) (by kernel_rfl),⟨fA,bG (by kernel_rfl)⟩,dP (by kernel_rfl) (by kernel_rfl) (by kernel_rfl),⟨fA,bG (by kernel_rfl)⟩,dP (by kernel_rfl) (by kernel_rfl) (by kernel_rfl),⟨fA,bG (by kernel_rfl)⟩,dP (by kernel_rfl) (by kernel_rfl) (by kernel_rfl),⟨fA,bG (by kernel_rfl)⟩,dP (by kernel_rfl) (by kernel_rfl) (by kernel_rfl),⟨fA,bG (by kernel_rfl)⟩,dP (by kernel_rfl) (by kernel_rfl) (by kernel_rfl),⟨fA,bG (by kernel_rfl)⟩,dP (by kernel_rfl) (by kernel_rfl) (by kernel_rfl),⟨fA,bG (by kernel_rfl)⟩,dP (by kernel_rfl) (by kernel_rfl) (by kernel_rfl),⟨fA,bG (by kernel_rfl)⟩,dP (by kernel_rfl) (by kernel_rfl) (by kernel_rfl),⟨fA,bG (by kernel_rfl)⟩,dP (by kernel_rfl) (by kernel_rfl) (by kernel_rfl),⟨fun _=> ⟨by kernel_rfl,by kernel_rfl⟩,bG (by kernel_rfl)⟩,dP (by kernel_rfl) (by kernel_rfl) (by kernel_rfl),⟨fA,bG (by kernel_rfl)⟩,dP (by kernel_rfl) (by kernel_rfl) (by kernel_rfl),⟨fA,bG (by kernel_rfl)⟩,dP (by kernel_rfl) (by kernel_rfl) (by kernel_rfl),⟨fA,bG (by kernel_rfl)⟩,dP (by kernel_rfl) (by kernel_rfl) (by kernel_rfl),⟨fA,bG (by kernel_rfl)⟩,dP (by kernel_rfl) (by kernel_rfl) (by kernel_rfl),⟨fA,bG (by kernel_rfl)⟩,dP (by kernel_rfl) (by kernel_rfl) (by kernel_rfl),⟨fA,bG (by kernel_rfl)⟩,dP (by kernel_rfl) (by kernel_rfl) (by kernel_rfl),⟨fA,bG (by kernel_rfl)⟩,dP (by kernel_rfl) (by kernel_rfl) (by kernel_rfl),⟨fA,bG (by kernel_rfl)⟩,dP (by kernel_rfl) (by kernel_rfl) (by kernel_rfl),⟨fA,bG (by kernel_rfl)⟩,dP (by kernel_rfl) (by kernel_rfl) (by kernel_rfl),⟨fA,bG (by kernel_rfl)⟩,dP (by kernel_rfl) (by kernel_rfl) (by kernel_rfl),⟨fA,bG (by kernel_rfl)⟩,dP (by kernel_rfl) (by kernel_rfl) (by kernel_rfl),⟨fA,bG (by kernel_rfl)⟩,trivial⟩
theorem mX:Tryz.prog.follows .mixedOrders=true:=by kernel_rfl
def IK:Go.Shelf.Ren:=⟨fun|6=>207|14=>261|15=>176|20=>288|21=>289|22=>290|23=>291|24=>292|25=>293|26=>294|27=>295|28=>241|29=>242|46=>299|47=>277|48=>278|49=>300|50=>301|57=>302|n=>n,fun|0=>0|3=>3|4=>4|5=>5|9=>9|22=>155|24=>145|25=>301|39=>272|45=>321|46=>322|50=>326|53=>329|55=>331|66=>357|70=>361|76=>374|77=>375|n=>n,fun n=>n⟩
theorem Pe:Go.Proofs.SlLaysF0.n6 Tryz.prog IK:=⟨by kernel_rfl,⟨Tryz.f207.name,by kernel_rfl,Tryz.func207.trans (congrArg some (by kernel_rfl))⟩,⟨Tryz.f261.name,by kernel_rfl,Tryz.func261.trans (congrArg some (by kernel_rfl))⟩,Tryz.func176.trans (congrArg some (by kernel_rfl)),⟨Tryz.f288.name,by kernel_rfl,Tryz.func288.trans (congrArg some (by kernel_rfl))⟩,⟨Tryz.f289.name,by kernel_rfl,Tryz.func289.trans (congrArg some (by kernel_rfl))⟩,⟨Tryz.f290.name,by kernel_rfl,Tryz.func290.trans (congrArg some (by kernel_rfl))⟩,⟨Tryz.f291.name,by kernel_rfl,Tryz.func291.trans (congrArg some (by kernel_rfl))⟩,⟨Tryz.f292.name,by kernel_rfl,Tryz.func292.trans (congrArg some (by kernel_rfl))⟩,⟨Tryz.f293.name,by kernel_rfl,Tryz.func293.trans (congrArg some (by kernel_rfl))⟩,⟨Tryz.f294.name,by kernel_rfl,Tryz.func294.trans (congrArg some (by kernel_rfl))⟩,⟨Tryz.f295.name,by kernel_rfl,Tryz.func295.trans (congrArg some (by kernel_rfl))⟩,Tryz.func241.trans (congrArg some (by kernel_rfl)),Tryz.func242.trans (congrArg some (by kernel_rfl)),⟨Tryz.f299.name,by kernel_rfl,Tryz.func299.trans (congrArg some (by kernel_rfl))⟩,Tryz.func277.trans (congrArg some (by kernel_rfl)),Tryz.func278.trans (congrArg some (by kernel_rfl)),⟨Tryz.f300.name,by kernel_rfl,Tryz.func300.trans (congrArg some (by kernel_rfl))⟩,⟨Tryz.f301.name,by kernel_rfl,Tryz.func301.trans (congrArg some (by kernel_rfl))⟩,⟨Tryz.f302.name,by kernel_rfl,Tryz.func302.trans (congrArg some (by kernel_rfl))⟩,Tryz.underlying0,Tryz.isAgg0,Tryz.sizeOf0,Tryz.zeroValue0,Tryz.underlying3,Tryz.isAgg3,Tryz.sizeOf3,Tryz.zeroValue3,Tryz.underlying4,Tryz.isAgg4,Tryz.sizeOf4,Tryz.zeroValue4,Tryz.underlying5,Tryz.isAgg5,Tryz.sizeOf5,Tryz.zeroValue5,Tryz.underlying9,Tryz.isAgg9,Tryz.sizeOf9,Tryz.zeroValue9,Tryz.underlying155,Tryz.isAgg155,Tryz.sizeOf155,Tryz.zeroValue155,Tryz.underlying301,Tryz.isAgg301,Tryz.sizeOf301,Tryz.zeroValue301,Tryz.underlying272,Tryz.isAgg272,Tryz.sizeOf272,Tryz.zeroValue272,Tryz.underlying321,Tryz.isAgg321,Tryz.sizeOf321,Tryz.zeroValue321,Tryz.underlying322,Tryz.isAgg322,Tryz.sizeOf322,Tryz.zeroValue322,Tryz.underlying326,Tryz.isAgg326,Tryz.sizeOf326,Tryz.zeroValue326,Tryz.underlying329,Tryz.isAgg329,Tryz.sizeOf329,Tryz.zeroValue329,Tryz.underlying331,Tryz.isAgg331,Tryz.sizeOf331,Tryz.zeroValue331,Tryz.underlying357,Tryz.isAgg357,Tryz.sizeOf357,Tryz.zeroValue357,Tryz.underlying361,Tryz.isAgg361,Tryz.sizeOf361,Tryz.zeroValue361,Tryz.underlying374,Tryz.isAgg374,Tryz.sizeOf374,Tryz.zeroValue374,Tryz.underlying375,Tryz.isAgg375,Tryz.sizeOf375,Tryz.zeroValue375⟩
theorem R6 (w:World):(isAgg (IK.t 24)).run Tryz.prog w= .ok true w:=Tryz.isAgg145 w
theorem Ro (w:World):(Go.sizeOf (IK.t 24)).run Tryz.prog w= .ok 2 w:=Tryz.sizeOf145 w
section
variable (i:Int)
abbrev k0:=(IntKind.wrap .i64 (i+1))
end
theorem dS (a:(List Bool)) (b:(List Bool)):dG Tryz.prog 73 [(sD (aB none 1 af a)),(sD (aB none 1 af b))] [] (fun r=>(vB r)) (fun _=>[]) (dB a b):=
  dR tT mX Tryz.func73 (
  .r<| .r<| .it (.r<| .e false)
  (.r<| .lp (σ:=Int) (β:=Unit) (0) [] [] ⟨[0,1],[],fun i=>[(5,(vI i))],fun i=>[]⟩ ⟨[],[],fun _=>[],fun _=>[]⟩
  (fun i=> .r<| .it (.a2 ((0:Int)≤i∧i<(a.length:Int)) ((0:Int)≤i∧i<(b.length:Int))<| .rg {} [0,1]<| .it (.r<| .e (.done (.ret false)))
  (.r<| .e (.next (k0 i))))
  (.e (.done (.brk ()))))
  (fun _=> .r<| .e true)))
section
variable (a:State) (r_:Bool) (u0:Bool) (u1:Bool) (u2:Bool) (u3:Bool) (u4:Bool)
abbrev k1:List CV:=[(.d (aB none 1 af a.closed)),(.d (aB none 1 af a.locked)),(.d (aB none 1 af a.badLink)),(.d (aB none 1 af a.on_)),(.d (aB none 1 af a.badSource)),(.d (aB none 1 af a.earthed)),(.d (aB none 1 af a.badBus))]
abbrev k2:=((bif (bif r_ then u0 else false)then u1 else false),true)
abbrev k3:=(bif (bif (bif r_ then u0 else false)then u1 else false)then u2 else false)
abbrev k4:=(bif (k3 r_ u0 u1 u2)then u3 else false)
abbrev k5:=(bif (k4 r_ u0 u1 u2 u3)then u4 else false)
end
theorem rT (a:State) (b:State):dG Tryz.prog 17 [(.agg (k1 a)),(.agg (k1 b))] [] (fun r=>(vB r)) (fun _=>[]) (iH a b):=
  dR tT mX Tryz.func17 (
  .rg {fr:=[(0,2),(1,3)],fz:=[2,3]} []<| .cl 4 (dS a.closed b.closed) fun r_=> .cg 10 [(r_,true)] (dS a.locked b.locked) fun u0=> .cg 17 [((bif r_ then u0 else false),true)] (dS a.badLink b.badLink) fun u1=> .cg 24 [(k2 r_ u0 u1)] (dS a.on_ b.on_) fun u2=> .cg 31 [((k3 r_ u0 u1 u2),true)] (dS a.badSource b.badSource) fun u3=> .cg 38 [((k4 r_ u0 u1 u2 u3),true)] (dS a.earthed b.earthed) fun u4=> .cg 45 [((k5 r_ u0 u1 u2 u3 u4),true)] (dS a.badBus b.badBus) fun u5=> .r<| .e (bif (k5 r_ u0 u1 u2 u3 u4)then u5 else false))
section
variable (p:ay) (t:Task) (l:(List Item))
abbrev k6:List CV:=[(cI p.buses),(.d (aB none 5 Source.cell p.sources)),(.d (aB none 6 Link.cell p.links)),(.d (aB none 4 aL.cell p.racks))]
abbrev k7:List CV:=[(.d (aB none 1 (aS .i64) t.fed)),(.d (aB none 1 (aS .i64) t.crew)),(.d (aB none 2 aj.cell t.allowed)),(.d (aB none 2 aj.cell t.goal))]
abbrev k8:DV:=(aB none 3 Item.cell l)
end
theorem Ei (p:ay) (t:Task) (l:(List Item)):dG Tryz.prog 39 [(.agg (k6 p)),(.agg (k7 t)),(sD (k8 l))] [] (fun r=>(vB r)) (fun _=>[]) (pW p t l):=
  dR tT mX Tryz.func39 (
  .rg {fr:=[(0,2),(1,3)],fz:=[2,3]} []<| .r<| .e (bif (bif (bif (bif (bif (bif (bif (decide (60<(p.sources.length:Int)))then true else(decide (60<(p.links.length:Int))))then true else(decide (60<(p.racks.length:Int))))then true else(decide (60<(t.fed.length:Int))))then true else(decide (60<(t.crew.length:Int))))then true else(decide (60<(t.allowed.length:Int))))then true else(decide (60<(t.goal.length:Int))))then true else(decide (70<(l.length:Int)))))
theorem aJ (n:Int) (u0:Int) (u1:Int):dG Tryz.prog 198 [(sI n),(sI u0),(sI u1)] [] (fun r=>(vB r)) (fun _=>[]) (aW n u0 u1):=
  dR tT mX Tryz.func198 (
  .r<| .r<| .e (bif (decide (u0≤n))then(decide (n≤u1))else false))
section
variable (p:ay)
abbrev k9:List SV:=[(.agg (k6 p))]
end
theorem Bo (p:ay):dG Tryz.prog 200 (k9 p) [] (fun r=>(vD (.fn 253 1 (aT [(uH [(.int .i64 r.1),(aB none 5 Source.cell r.2.1),(aB none 6 Link.cell r.2.2.1),(aB none 4 aL.cell r.2.2.2)] 0)])))) (fun _=>[]) (sG p):=
  dR tT mX Tryz.func200 (
  .rg {fr:=[(0,1)],fz:=[1]} []<| .r<| .e (p.buses,p.sources,p.links,p.racks))
theorem Da (p:ay):dG Tryz.prog 202 (k9 p) [] (fun r=>(vD (.fn 256 1 (aT [(uH [(.int .i64 r.1),(aB none 5 Source.cell r.2.1),(aB none 6 Link.cell r.2.2.1),(aB none 4 aL.cell r.2.2.2)] 0)])))) (fun _=>[]) (wO p):=
  dR tT mX Tryz.func202 (
  .rg {fr:=[(0,1)],fz:=[1]} []<| .r<| .e (p.buses,p.sources,p.links,p.racks))
theorem Db (p:ay):dG Tryz.prog 204 (k9 p) [] (fun r=>(vD (.fn 259 1 (aT [(uH [(.int .i64 r.1),(aB none 5 Source.cell r.2.1),(aB none 6 Link.cell r.2.2.1),(aB none 4 aL.cell r.2.2.2)] 0)])))) (fun _=>[]) (wh p):=
  dR tT mX Tryz.func204 (
  .rg {fr:=[(0,1)],fz:=[1]} []<| .r<| .e (p.buses,p.sources,p.links,p.racks))
section
variable (x1:Int) (u2:(List Source)) (u3:(List Link)) (u4:(List aL))
abbrev k10:DV:=(uH [(.int .i64 x1),(aB none 5 Source.cell u2),(aB none 6 Link.cell u3),(aB none 4 aL.cell u4)] 0)
abbrev k11:=(IntKind.wrap .i64 (x1 - 1))
end
theorem y7 (x:Source) (x1:Int) (u2:(List Source)) (u3:(List Link)) (u4:(List aL)):dG Tryz.prog 253 [(.agg [(cI x.bus),(cI x.kind),(cI x.power),(cI x.sync),(cI x.ohm)]),(sD (k10 x1 u2 u3 u4))] [] (fun r=>(vB r)) (fun _=>[]) (lZ x x1 u2 u3 u4):=
  dR tT mX Tryz.func253 (
  .rg {fr:=[(0,1)],fz:=[1]} []<| .cl 5 (aJ x.bus 0 (k11 x1)) fun r_=> .cg 9 [(r_,true)] (aJ x.kind 1 3) fun u0=> .cg 14 [((bif r_ then u0 else false),true)] (aJ x.power 1 100000) fun u1=> .cg 19 [(k2 r_ u0 u1)] (aJ x.sync 0 8) fun u5=> .cg 24 [((k3 r_ u0 u1 u5),true)] (aJ x.ohm 10 100000) fun u6=> .r<| .e (k4 r_ u0 u1 u5 u6))
section
variable (x1:Int) (u0:(List Source)) (u1:(List Link)) (u2:(List aL))
abbrev k13:=(aT [(k10 x1 u0 u1 u2)])
abbrev k12:DV:=(uH [(.fn 253 1 (k13 x1 u0 u1 u2))] 0)
end
theorem Aw (x:Source) (x1:Int) (u0:(List Source)) (u1:(List Link)) (u2:(List aL)):dG Tryz.prog 252 [(.agg [(cI x.bus),(cI x.kind),(cI x.power),(cI x.sync),(cI x.ohm)]),(sD (k12 x1 u0 u1 u2))] [] (fun r=>(vB r)) (fun _=>[]) (sJ x x1 u0 u1 u2):=
  dR tT mX Tryz.func252 (
  .rg {fr:=[(0,1)],fz:=[1]} []<| .cl 2 (y7 x x1 u0 u1 u2) fun r_=> .r<| .e (!r_))
section
variable (s_:(List Source)) (f_:Int) (u0:(List Source)) (u1:(List Link)) (u2:(List aL))
abbrev k14:List SV:=[(sD (aB none 5 Source.cell s_)),(sD (.fn 252 1 (aT [(k12 f_ u0 u1 u2)])))]
end
theorem wV (s_:(List Source)) (f_:Int) (u0:(List Source)) (u1:(List Link)) (u2:(List aL)):dG Tryz.prog 285 (k14 s_ f_ u0 u1 u2) [] (fun r=>(vI r)) (fun _=>[]) (mZ s_ f_ u0 u1 u2):=
  dR tT mX Tryz.func285 (
  .r<| .r<| .lp (σ:=Int) (β:=Unit) (0) [] [] ⟨[0,1,7],[],fun t8=>[(8,(vI t8))],fun t8=>[]⟩ ⟨[],[],fun _=>[],fun _=>[]⟩
  (fun t8=> .r<| .it (.r<| .cl 5 (Aw (at' s_ t8.toNat) f_ u0 u1 u2) fun r_=> .a1 ((0:Int)≤t8∧t8<(s_.length:Int))<| .rg {} [0,1]<| .it (.r<| .e (.done (.ret t8)))
  (.r<| .e (.next (k0 t8))))
  (.e (.done (.brk ()))))
  (fun _=> .r<| .e (-1)))
theorem uI (s_:(List Source)) (f_:Int) (u0:(List Source)) (u1:(List Link)) (u2:(List aL)):dG Tryz.prog 251 (k14 s_ f_ u0 u1 u2) [] (fun r=>(vB r)) (fun _=>[]) (iw s_ f_ u0 u1 u2):=
  dR tT mX Tryz.func251 (
  .r<| .cl 2 (wV s_ f_ u0 u1 u2) fun r_=> .r<| .e (decide (0≤r_)))
theorem CZ (l:(List Source)) (u0:Int) (u1:Int) (u2:(List Source)) (u3:(List Link)) (u4:(List aL)):dG Tryz.prog 199 [(sD (aB none 5 Source.cell l)),(sI u0),(sD (.fn 253 1 (k13 u1 u2 u3 u4)))] [] (fun r=>(vB r)) (fun _=>[]) (qM l u0 u1 u2 u3 u4):=
  dR tT mX Tryz.func199 (
  .rg {fr:=[(0,1)],fz:=[1]} []<| .cg 7 [((decide ((l.length:Int)≤u0)),true)] (uI l u1 u2 u3 u4) fun r_=> .r<| .e (bif (decide ((l.length:Int)≤u0))then(!r_)else false))
section
variable (x:Link)
abbrev k15:List CV:=[(cI x.a),(cI x.b),(cI x.kind),(cI x.most),(cI x.ohm),(.d (aB none 2 dO.cell x.trip))]
end
theorem Be (x:Link) (x1:Int) (u3:(List Source)) (u4:(List Link)) (u5:(List aL)):dG Tryz.prog 256 [(.agg (k15 x)),(sD (k10 x1 u3 u4 u5))] [] (fun r=>(vB r)) (fun _=>[]) (nO x x1 u3 u4 u5):=
  dR tT mX Tryz.func256 (
  .rg {fr:=[(0,5)]} []<| .cl 5 (aJ x.a 0 (k11 x1)) fun r_=> .cg 13 [((!r_),false)] (aJ x.b 0 (k11 x1)) fun u1=> .cg 26 [((bif (bif (!r_)then true else(!u1))then true else(decide (x.a=x.b))),false)] (aJ x.kind 1 3) fun u6=> .cg 32 [((bif (bif (bif (!r_)then true else(!u1))then true else(decide (x.a=x.b)))then true else(!u6)),false)] (aJ x.most 1 100000) fun u8=> .cg 38 [((bif (bif (bif (bif (!r_)then true else(!u1))then true else(decide (x.a=x.b)))then true else(!u6))then true else(!u8)),false)] (aJ x.ohm 10 100000) fun u9=> .r<| .it (.r<| .e false)
  (.rg {fz:=[5]} []<| .lp (σ:=Int) (β:=Unit) (0) [] [] ⟨[2,48,49],[],fun u0=>[(50,(vI u0))],fun u0=>[]⟩ ⟨[2],[],fun _=>[],fun _=>[]⟩
  (fun u0=> .r<| .it (.a1 ((0:Int)≤u0∧u0<(x.trip.length:Int))<| .rg {fr:=[(3,9)],fz:=[9]} []<| .cl 2 (aJ ((at' x.trip u0.toNat).amps) 1 1000000) fun u2=> .cg 7 [((!u2),false)] (aJ ((at' x.trip u0.toNat).millis) 1 100000) fun u7=> .a2 ((gB [((decide (0<u0)),true),((bif (!u2)then true else(!u7)),false)]=true→(0:Int)≤(k11 u0)∧(k11 u0)<(x.trip.length:Int))) ((gB [((decide (((at' x.trip u0.toNat).amps)≤((at' x.trip ((k11 u0).toNat)).amps))),false),((decide (0<u0)),true),((bif (!u2)then true else(!u7)),false)]=true→(0:Int)≤(k11 u0)∧(k11 u0)<(x.trip.length:Int)))<| .rg {} [3,2,0,1]<| .it (.r<| .e (.done (.ret false)))
  (.r<| .e (.next (k0 u0))))
  (.e (.done (.brk ()))))
  (fun _=> .r<| .e (bif (decide ((x.trip.length:Int)≤6))then(bif (decide ((x.trip.length:Int)=0))then true else(decide (x.kind=3)))else false))))
section
variable (x1:Int) (u0:(List Source)) (u1:(List Link)) (u2:(List aL))
abbrev k16:DV:=(uH [(.fn 256 1 (k13 x1 u0 u1 u2))] 0)
end
theorem xV (x:Link) (x1:Int) (u0:(List Source)) (u1:(List Link)) (u2:(List aL)):dG Tryz.prog 255 [(.agg (k15 x)),(sD (k16 x1 u0 u1 u2))] [] (fun r=>(vB r)) (fun _=>[]) (nT x x1 u0 u1 u2):=
  dR tT mX Tryz.func255 (
  .rg {fr:=[(0,1)],fz:=[1]} []<| .cl 2 (Be x x1 u0 u1 u2) fun r_=> .r<| .e (!r_))
section
variable (s_:(List Link)) (f_:Int) (u0:(List Source)) (u1:(List Link)) (u2:(List aL))
abbrev k17:List SV:=[(sD (aB none 6 Link.cell s_)),(sD (.fn 255 1 (aT [(k16 f_ u0 u1 u2)])))]
end
theorem uS (s_:(List Link)) (f_:Int) (u0:(List Source)) (u1:(List Link)) (u2:(List aL)):dG Tryz.prog 286 (k17 s_ f_ u0 u1 u2) [] (fun r=>(vI r)) (fun _=>[]) (kI s_ f_ u0 u1 u2):=
  dR tT mX Tryz.func286 (
  .r<| .r<| .lp (σ:=Int) (β:=Unit) (0) [] [] ⟨[0,1,7],[],fun t8=>[(8,(vI t8))],fun t8=>[]⟩ ⟨[],[],fun _=>[],fun _=>[]⟩
  (fun t8=> .r<| .it (.r<| .cl 5 (xV (at' s_ t8.toNat) f_ u0 u1 u2) fun r_=> .a1 ((0:Int)≤t8∧t8<(s_.length:Int))<| .rg {} [0,1]<| .it (.r<| .e (.done (.ret t8)))
  (.r<| .e (.next (k0 t8))))
  (.e (.done (.brk ()))))
  (fun _=> .r<| .e (-1)))
theorem qD (s_:(List Link)) (f_:Int) (u0:(List Source)) (u1:(List Link)) (u2:(List aL)):dG Tryz.prog 254 (k17 s_ f_ u0 u1 u2) [] (fun r=>(vB r)) (fun _=>[]) (fJ s_ f_ u0 u1 u2):=
  dR tT mX Tryz.func254 (
  .r<| .cl 2 (uS s_ f_ u0 u1 u2) fun r_=> .r<| .e (decide (0≤r_)))
theorem Ba (l:(List Link)) (u0:Int) (u1:Int) (u2:(List Source)) (u3:(List Link)) (u4:(List aL)):dG Tryz.prog 201 [(sD (aB none 6 Link.cell l)),(sI u0),(sD (.fn 256 1 (k13 u1 u2 u3 u4)))] [] (fun r=>(vB r)) (fun _=>[]) (oH l u0 u1 u2 u3 u4):=
  dR tT mX Tryz.func201 (
  .rg {fr:=[(0,1)],fz:=[1]} []<| .cg 7 [((decide ((l.length:Int)≤u0)),true)] (qD l u1 u2 u3 u4) fun r_=> .r<| .e (bif (decide ((l.length:Int)≤u0))then(!r_)else false))
section
variable (x:aL)
abbrev k18:List CV:=[(cI x.feeds.e0),(cI x.feeds.e1),(cI x.power),(cI x.paths)]
end
theorem BM (x:aL):dG Tryz.prog 260 [(.agg (k18 x))] [] (fun r=>(vI r)) (fun _=>[]) (pJ x):=
  dR tT mX Tryz.func260 (
  .rg {fr:=[(0,1)],fz:=[1]} []<| .rg {} [.pf ⟨(0:Int)≤1∧(1:Int)<(2:Nat),(by decide)⟩]<| .it (.r<| .e 1)
  (.r<| .e 2))
section
variable (r_:Bool) (u0:Bool) (x:aL) (u1:Bool)
abbrev k20:=(bif (bif (bif r_ then u0 else false)then(!decide (x.feeds.e0=x.feeds.e1))else false)then u1 else false)
abbrev k19:=((k20 r_ u0 x u1),true)
end
theorem Bc (x:aL) (x1:Int) (u2:(List Source)) (u3:(List Link)) (u4:(List aL)):dG Tryz.prog 259 [(.agg (k18 x)),(sD (k10 x1 u2 u3 u4))] [] (fun r=>(vB r)) (fun _=>[]) (oI x x1 u2 u3 u4):=
  dR tT mX Tryz.func259 (
  .rg {fr:=[(0,1)],fz:=[1]} []<| .rg {} [.pf ⟨(0:Int)≤0∧(0:Int)<(2:Nat),(by decide)⟩, .pf ⟨(0:Int)≤1∧(1:Int)<(2:Nat),(by decide)⟩]<| .cl 4 (aJ x.feeds.e0 0 (k11 x1)) fun r_=> .cg 10 [(r_,true)] (aJ x.feeds.e1 (-1) (k11 x1)) fun u0=> .cg 20 [((bif (bif r_ then u0 else false)then(!decide (x.feeds.e0=x.feeds.e1))else false),true)] (aJ x.power 1 100000) fun u1=> .cg 26 [(k19 r_ u0 x u1)] (BM x) fun u5=> .cg 27 [(k19 r_ u0 x u1)] (aJ x.paths 0 u5) fun u6=> .r<| .e (bif (k20 r_ u0 x u1)then u6 else false))
section
variable (x1:Int) (u0:(List Source)) (u1:(List Link)) (u2:(List aL))
abbrev k21:DV:=(uH [(.fn 259 1 (k13 x1 u0 u1 u2))] 0)
end
theorem xK (x:aL) (x1:Int) (u0:(List Source)) (u1:(List Link)) (u2:(List aL)):dG Tryz.prog 258 [(.agg (k18 x)),(sD (k21 x1 u0 u1 u2))] [] (fun r=>(vB r)) (fun _=>[]) (oM x x1 u0 u1 u2):=
  dR tT mX Tryz.func258 (
  .rg {fr:=[(0,1)],fz:=[1]} []<| .cl 2 (Bc x x1 u0 u1 u2) fun r_=> .r<| .e (!r_))
section
variable (s_:(List aL)) (f_:Int) (u0:(List Source)) (u1:(List Link)) (u2:(List aL))
abbrev k22:List SV:=[(sD (aB none 4 aL.cell s_)),(sD (.fn 258 1 (aT [(k21 f_ u0 u1 u2)])))]
end
theorem uL (s_:(List aL)) (f_:Int) (u0:(List Source)) (u1:(List Link)) (u2:(List aL)):dG Tryz.prog 287 (k22 s_ f_ u0 u1 u2) [] (fun r=>(vI r)) (fun _=>[]) (kF s_ f_ u0 u1 u2):=
  dR tT mX Tryz.func287 (
  .r<| .r<| .lp (σ:=Int) (β:=Unit) (0) [] [] ⟨[0,1,7],[],fun t8=>[(8,(vI t8))],fun t8=>[]⟩ ⟨[],[],fun _=>[],fun _=>[]⟩
  (fun t8=> .r<| .it (.r<| .cl 5 (xK (⟨((at' s_ t8.toNat).feeds),(at' s_ t8.toNat).power,(at' s_ t8.toNat).paths⟩:aL) f_ u0 u1 u2) fun r_=> .a1 ((0:Int)≤t8∧t8<(s_.length:Int))<| .rg {} [0,1]<| .it (.r<| .e (.done (.ret t8)))
  (.r<| .e (.next (k0 t8))))
  (.e (.done (.brk ()))))
  (fun _=> .r<| .e (-1)))
theorem qI (s_:(List aL)) (f_:Int) (u0:(List Source)) (u1:(List Link)) (u2:(List aL)):dG Tryz.prog 257 (k22 s_ f_ u0 u1 u2) [] (fun r=>(vB r)) (fun _=>[]) (fI s_ f_ u0 u1 u2):=
  dR tT mX Tryz.func257 (
  .r<| .cl 2 (uL s_ f_ u0 u1 u2) fun r_=> .r<| .e (decide (0≤r_)))
theorem Bu (l:(List aL)) (u0:Int) (u1:Int) (u2:(List Source)) (u3:(List Link)) (u4:(List aL)):dG Tryz.prog 203 [(sD (aB none 4 aL.cell l)),(sI u0),(sD (.fn 259 1 (k13 u1 u2 u3 u4)))] [] (fun r=>(vB r)) (fun _=>[]) (oh l u0 u1 u2 u3 u4):=
  dR tT mX Tryz.func203 (
  .rg {fr:=[(0,1)],fz:=[1]} []<| .cg 7 [((decide ((l.length:Int)≤u0)),true)] (qI l u1 u2 u3 u4) fun r_=> .r<| .e (bif (decide ((l.length:Int)≤u0))then(!r_)else false))
theorem BL (p:ay):dG Tryz.prog 127 (k9 p) [] (fun r=>(vI r)) (fun _=>[]) (pG p):=
  dR tT mX Tryz.func127 (
  .rg {fr:=[(0,1)],fz:=[1]} []<| .cl 2 (aJ p.buses 1 24) fun r_=> .r<| .it (.r<| .e 10)
  (.cl 3 (Bo p) fun u0=> .cl 4 (CZ p.sources 8 u0.1 u0.2.1 u0.2.2.1 u0.2.2.2) fun u3=> .r<| .it (.r<| .e 11)
  (.cl 3 (Da p) fun u1=> .cl 4 (Ba p.links 40 u1.1 u1.2.1 u1.2.2.1 u1.2.2.2) fun u4=> .r<| .it (.r<| .e 12)
  (.cl 3 (Db p) fun u2=> .cl 4 (Bu p.racks 24 u2.1 u2.2.1 u2.2.2.1 u2.2.2.2) fun u5=> .r<| .it (.r<| .e 13)
  (.r<| .e 0)))))
section
variable (p:ay) (s_:State) (u0:Int)
abbrev k23:List SV:=[(.agg (k6 p)),(.agg (k1 s_))]
abbrev k24:=(⟨s_.closed,(p.links.length:Int)⟩:bX)
abbrev k25:=(⟨s_.locked,(p.links.length:Int)⟩:bX)
abbrev k26:=(⟨s_.badLink,(p.links.length:Int)⟩:bX)
abbrev k27:=(⟨s_.on_,(p.sources.length:Int)⟩:bX)
abbrev k28:=(⟨s_.badSource,(p.sources.length:Int)⟩:bX)
abbrev ZX:=(aD bX.cell [(k24 p s_),(k25 p s_),(k26 p s_),(k27 p s_),(k28 p s_),(⟨s_.earthed,p.buses⟩:bX),(⟨s_.badBus,p.buses⟩:bX)])
abbrev Yr:=((0:Int)≤u0∧u0<(p.links.length:Int))
end
theorem bL (p:ay) (s_:State):dG Tryz.prog 60 (k23 p s_) [] (fun r=>(vI r)) (fun _=>[]) (cK p s_):=
  dR tT mX Tryz.func60 (
  .rg {fr:=[(0,11),(1,12)]} []<| .cl 1 (BL p) fun r_=> .r<| .r<| .it (.r<| .e r_)
  (.r<| .rg {an:=[(30, .arr [(k24 p s_),(k25 p s_),(k26 p s_),(k27 p s_),(k28 p s_),(⟨s_.earthed,p.buses⟩:bX),(⟨s_.badBus,p.buses⟩:bX)].length (ZX p s_))],fr:=[(30,13)],fz:=[12]} [.pf ⟨[(k24 p s_),(k25 p s_),(k26 p s_),(k27 p s_),(k28 p s_),(⟨s_.earthed,p.buses⟩:bX),(⟨s_.badBus,p.buses⟩:bX)].length=7,rfl⟩, .pf ⟨aQ 7 2 (uD 2 [(aB none 1 af s_.closed),(.int .i64 (p.links.length:Int)),(aB none 1 af s_.locked),(.int .i64 (p.links.length:Int)),(aB none 1 af s_.badLink),(.int .i64 (p.links.length:Int)),(aB none 1 af s_.on_),(.int .i64 (p.sources.length:Int)),(aB none 1 af s_.badSource),(.int .i64 (p.sources.length:Int)),(aB none 1 af s_.earthed),(.int .i64 p.buses),(aB none 1 af s_.badBus),(.int .i64 p.buses)]) (ZX p s_),(by intro i hi j hj;match i,j,hi,hj with|0,0,_,_=>rfl|0,1,_,_=>rfl|1,0,_,_=>rfl|1,1,_,_=>rfl|2,0,_,_=>rfl|2,1,_,_=>rfl|3,0,_,_=>rfl|3,1,_,_=>rfl|4,0,_,_=>rfl|4,1,_,_=>rfl|5,0,_,_=>rfl|5,1,_,_=>rfl|6,0,_,_=>rfl|6,1,_,_=>rfl)⟩]<| .lp (σ:=Int) (β:=Unit) (0) [] [] ⟨[2,3,53,54],[11,13],fun u1=>[(55,(vI u1))],fun u1=>[]⟩ ⟨[2,3],[11],fun _=>[],fun _=>[]⟩
  (fun u1=> .r<| .it (.a1 ((0:Int)≤u1∧u1<([(k24 p s_),(k25 p s_),(k26 p s_),(k27 p s_),(k28 p s_),(⟨s_.earthed,p.buses⟩:bX),(⟨s_.badBus,p.buses⟩:bX)].length:Int))<| .rg {fr:=[(2,17)],fz:=[17]} [0, .t 0 u1 ([(k24 p s_),(k25 p s_),(k26 p s_),(k27 p s_),(k28 p s_),(⟨s_.earthed,p.buses⟩:bX),(⟨s_.badBus,p.buses⟩:bX)].length)]<| .r<| .it (.r<| .e (.done (.ret 9)))
  (.r<| .e (.next (k0 u1))))
  (.e (.done (.brk ()))))
  (fun _=> .r<| .lp (σ:=Int) (β:=Unit) (0) [] [] ⟨[3,67,68],[],fun u0=>[(69,(vI u0))],fun u0=>[]⟩ ⟨[],[],fun _=>[],fun _=>[]⟩
  (fun u0=> .r<| .it (.a1 (Yr p u0)<| .rg {fr:=[(3,21)],fz:=[21]} []<| .a2 ((gB [((decide (((at' p.links u0.toNat).kind)=1)),true)]=true→(0:Int)≤u0∧u0<(s_.closed.length:Int))) ((gB [((!(at' s_.closed u0.toNat)),false),((decide (((at' p.links u0.toNat).kind)=1)),true)]=true→(0:Int)≤u0∧u0<(s_.locked.length:Int)))<| .rg {} [0,1]<| .it (.r<| .e (.done (.ret 9)))
  (.r<| .e (.next (k0 u0))))
  (.e (.done (.brk ()))))
  (fun _=> .r<| .e 0))))
theorem wX (i:Int) (x1:Int):dG Tryz.prog 130 [(sI i),(sD (uH [(.int .i64 x1)] 0))] [] (fun r=>(vB r)) (fun _=>[]) (nk i x1):=
  dR tT mX Tryz.func130 (
  .r<| .r<| .e (bif (decide (i<0))then true else(decide (x1≤i))))
section
variable (s_:(List Int))
abbrev Ry:DV:=(aB none 1 (aS .i64) s_)
end
theorem uX (s_:(List Int)) (f_:Int):dG Tryz.prog 205 [(sD (Ry s_)),(sD (.fn 130 1 (aT [(uH [(.int .i64 f_)] 0)])))] [] (fun r=>(vI r)) (fun _=>[]) (kH s_ f_):=
  dR tT mX Tryz.func205 (
  .r<| .r<| .lp (σ:=Int) (β:=Unit) (0) [] [] ⟨[0,1,7],[],fun t8=>[(8,(vI t8))],fun t8=>[]⟩ ⟨[],[],fun _=>[],fun _=>[]⟩
  (fun t8=> .r<| .it (.r<| .cl 5 (wX (at' s_ t8.toNat) f_) fun r_=> .a1 ((0:Int)≤t8∧t8<(s_.length:Int))<| .rg {} [0,1]<| .it (.r<| .e (.done (.ret t8)))
  (.r<| .e (.next (k0 t8))))
  (.e (.done (.brk ()))))
  (fun _=> .r<| .e (-1)))
theorem rP (s_:(List Int)) (f_:Int):dG Tryz.prog 129 [(sD (Ry s_)),(sD (.fn 130 1 (aT [(uH [(.int .i64 f_)] 0)])))] [] (fun r=>(vB r)) (fun _=>[]) (fV s_ f_):=
  dR tT mX Tryz.func129 (
  .r<| .cl 2 (uX s_ f_) fun r_=> .r<| .e (decide (0≤r_)))
theorem qA (l:(List Int)) (n:Int):dG Tryz.prog 128 [(sD (Ry l)),(sI n)] [] (fun r=>(vB r)) (fun _=>[]) (jE l n):=
  dR tT mX Tryz.func128 (
  .rg {fr:=[(0,1)],fz:=[1]} []<| .cg 6 [((decide ((l.length:Int)≤24)),true)] (rP l n) fun r_=> .r<| .e (bif (decide ((l.length:Int)≤24))then(!r_)else false))
section
variable (x:aj) (p:ay)
abbrev RF:List CV:=[(cI x.deed),(cI x.index)]
abbrev YA:=((gB [((bif (decide (0≤x.index))then(decide (x.index<(p.links.length:Int)))else false),true)]=true→(0:Int)≤x.index∧x.index<(p.links.length:Int)))
abbrev YC:=(bif (bif (decide (0≤x.index))then(decide (x.index<(p.links.length:Int)))else false)then(!decide (((at' p.links x.index.toNat).kind)=1))else false)
abbrev Ui:=(bif (decide (0≤x.index))then(decide (x.index<p.buses))else false)
abbrev KV:=(bif (decide (0≤x.index))then(decide (x.index<(p.sources.length:Int)))else false)
abbrev KW:=((gB [((bif (decide (0≤x.index))then(decide (x.index<0))else false),true)]=true→(0:Int)≤x.index∧x.index<(p.links.length:Int)))
abbrev KY:=(bif (bif (decide (0≤x.index))then(decide (x.index<0))else false)then(!decide (((at' p.links x.index.toNat).kind)=1))else false)
end
theorem tQ (p:ay) (x:aj):dG Tryz.prog 134 [(.agg (k6 p)),(.agg (RF x))] [] (fun r=>(vB r)) (fun _=>[]) (lH p x):=
  dR tT mX Tryz.func134 (
  .rg {fr:=[(0,2),(1,3)],fz:=[2,3]} []<| .r<| .r<| .r<| .it (.it (.r<| .a1 (YA x p)<| .r<| .e (YC x p))
  (.r<| .it (.it (.r<| .e (Ui x p))
  (.r<| .it (.it (.r<| .e (KV x p))
  (.a1 (KW x p)<| .r<| .e (KY x p)))
  (.r<| .it (.r<| .e (KV x p))
  (.a1 (KW x p)<| .r<| .e (KY x p)))))
  (.r<| .it (.r<| .e (Ui x p))
  (.r<| .it (.it (.r<| .e (KV x p))
  (.a1 (KW x p)<| .r<| .e (KY x p)))
  (.r<| .it (.r<| .e (KV x p))
  (.a1 (KW x p)<| .r<| .e (KY x p)))))))
  (.r<| .it (.it (.r<| .a1 (YA x p)<| .r<| .e (YC x p))
  (.r<| .it (.it (.r<| .e (Ui x p))
  (.r<| .it (.it (.r<| .e (KV x p))
  (.a1 (KW x p)<| .r<| .e (KY x p)))
  (.r<| .it (.r<| .e (KV x p))
  (.a1 (KW x p)<| .r<| .e (KY x p)))))
  (.r<| .it (.r<| .e (Ui x p))
  (.r<| .it (.it (.r<| .e (KV x p))
  (.a1 (KW x p)<| .r<| .e (KY x p)))
  (.r<| .it (.r<| .e (KV x p))
  (.a1 (KW x p)<| .r<| .e (KY x p)))))))
  (.r<| .it (.it (.r<| .a1 (YA x p)<| .r<| .e (YC x p))
  (.r<| .it (.it (.r<| .e (Ui x p))
  (.r<| .it (.it (.r<| .e (KV x p))
  (.a1 (KW x p)<| .r<| .e (KY x p)))
  (.r<| .it (.r<| .e (KV x p))
  (.a1 (KW x p)<| .r<| .e (KY x p)))))
  (.r<| .it (.r<| .e (Ui x p))
  (.r<| .it (.it (.r<| .e (KV x p))
  (.a1 (KW x p)<| .r<| .e (KY x p)))
  (.r<| .it (.r<| .e (KV x p))
  (.a1 (KW x p)<| .r<| .e (KY x p)))))))
  (.r<| .it (.r<| .a1 (YA x p)<| .r<| .e (YC x p))
  (.r<| .it (.it (.r<| .e (Ui x p))
  (.r<| .it (.it (.r<| .e (KV x p))
  (.a1 (KW x p)<| .r<| .e (KY x p)))
  (.r<| .it (.r<| .e (KV x p))
  (.a1 (KW x p)<| .r<| .e (KY x p)))))
  (.r<| .it (.r<| .e (Ui x p))
  (.r<| .it (.it (.r<| .e (KV x p))
  (.a1 (KW x p)<| .r<| .e (KY x p)))
  (.r<| .it (.r<| .e (KV x p))
  (.a1 (KW x p)<| .r<| .e (KY x p))))))))))
theorem xG (x:aj) (x1:Int) (u0:(List Source)) (u1:(List Link)) (u2:(List aL)):dG Tryz.prog 133 [(.agg (RF x)),(sD (k10 x1 u0 u1 u2))] [] (fun r=>(vB r)) (fun _=>[]) (mV x x1 u0 u1 u2):=
  dR tT mX Tryz.func133 (
  .rg {fr:=[(0,1)],fz:=[1]} []<| .cl 2 (tQ (⟨x1,u0,u1,u2⟩:ay) x) fun r_=> .r<| .e (!r_))
section
variable (s_:(List aj)) (f_:Int) (u0:(List Source)) (u1:(List Link)) (u2:(List aL))
abbrev V9:DV:=(aB none 2 aj.cell s_)
abbrev ZJ:List SV:=[(sD (V9 s_)),(sD (.fn 133 1 (k13 f_ u0 u1 u2)))]
end
theorem uE (s_:(List aj)) (f_:Int) (u0:(List Source)) (u1:(List Link)) (u2:(List aL)):dG Tryz.prog 206 (ZJ s_ f_ u0 u1 u2) [] (fun r=>(vI r)) (fun _=>[]) (kG s_ f_ u0 u1 u2):=
  dR tT mX Tryz.func206 (
  .r<| .r<| .lp (σ:=Int) (β:=Unit) (0) [] [] ⟨[0,1,7],[],fun t8=>[(8,(vI t8))],fun t8=>[]⟩ ⟨[],[],fun _=>[],fun _=>[]⟩
  (fun t8=> .r<| .it (.r<| .cl 5 (xG (at' s_ t8.toNat) f_ u0 u1 u2) fun r_=> .a1 ((0:Int)≤t8∧t8<(s_.length:Int))<| .rg {} [0,1]<| .it (.r<| .e (.done (.ret t8)))
  (.r<| .e (.next (k0 t8))))
  (.e (.done (.brk ()))))
  (fun _=> .r<| .e (-1)))
theorem rF (s_:(List aj)) (f_:Int) (u0:(List Source)) (u1:(List Link)) (u2:(List aL)):dG Tryz.prog 132 (ZJ s_ f_ u0 u1 u2) [] (fun r=>(vB r)) (fun _=>[]) (gu s_ f_ u0 u1 u2):=
  dR tT mX Tryz.func132 (
  .r<| .cl 2 (uE s_ f_ u0 u1 u2) fun r_=> .r<| .e (decide (0≤r_)))
theorem qB (l:(List aj)) (x1:Int) (u0:(List Source)) (u1:(List Link)) (u2:(List aL)):dG Tryz.prog 131 [(sD (V9 l)),(sD (k10 x1 u0 u1 u2))] [] (fun r=>(vB r)) (fun _=>[]) (jF l x1 u0 u1 u2):=
  dR tT mX Tryz.func131 (
  .r<| .cg 6 [((decide ((l.length:Int)≤24)),true)] (rF l x1 u0 u1 u2) fun r_=> .r<| .e (bif (decide ((l.length:Int)≤24))then(!r_)else false))
theorem Bv (p:ay) (t:Task):dG Tryz.prog 61 [(.agg (k6 p)),(.agg (k7 t))] [] (fun r=>(vB r)) (fun _=>[]) (oK p t):=
  dR tT mX Tryz.func61 (
  .rg {fr:=[(0,2),(1,3)],fz:=[2,3]} []<| .r<| .r<| .cl 6 (qA t.fed (p.racks.length:Int)) fun r_=> .cg 13 [(r_,true)] (qA t.crew p.buses) fun u0=> .cg 19 [((bif r_ then u0 else false),true)] (qB t.allowed p.buses p.sources p.links p.racks) fun u1=> .cg 25 [(k2 r_ u0 u1)] (qB t.goal p.buses p.sources p.links p.racks) fun u2=> .r<| .e (k3 r_ u0 u1 u2))
theorem wY (p:ay) (s_:State):dG Tryz.prog 248 (k23 p s_) [] (fun r=>(vD (.fn 284 2 (aT [(uH [(.int .i64 r.1),(aB none 5 Source.cell r.2.1),(aB none 6 Link.cell r.2.2.1),(aB none 4 aL.cell r.2.2.2.1)] 0),(uH [(aB none 1 af r.2.2.2.2.1),(aB none 1 af r.2.2.2.2.2.1),(aB none 1 af r.2.2.2.2.2.2.1),(aB none 1 af r.2.2.2.2.2.2.2.1),(aB none 1 af r.2.2.2.2.2.2.2.2.1),(aB none 1 af r.2.2.2.2.2.2.2.2.2.1),(aB none 1 af r.2.2.2.2.2.2.2.2.2.2)] 0)])))) (fun _=>[]) (jZ p s_):=
  dR tT mX Tryz.func248 (
  .rg {fr:=[(0,2),(1,3)],fz:=[2,3]} []<| .r<| .e (p.buses,p.sources,p.links,p.racks,s_.closed,s_.locked,s_.badLink,s_.on_,s_.badSource,s_.earthed,s_.badBus))
noncomputable def sU:iW:=⟨[22],NM ([1,1,0,1,0]++[0]) (lI Tryz.f197),NM ([1,1,0,1,0]++[1]) (lI Tryz.f197),125,[]⟩
section
variable (g:aZ)
abbrev YU:List (Nat × Option Ob):=[(0,some (Nc 3 3 false false 1 1 (aS .i64) (aS .i64) g.head))]
end
theorem gy (g:aZ) (x:Int):dG Tryz.prog 250 [(.agg [(.mp 0)]),(sI x)] (YU g) (fun r=>(vI r)) (fun r=>(YU g)) (bZ g x):=
  dR tT mX Tryz.func250 (
  .rg {fr:=[(0,2)]} []<| .lp (σ:=Int) (β:=Unit) (x) [] [] ⟨[2],[0,2],fun x1=>[(1,(vI x1))],fun x1=>[]⟩ ⟨[],[],fun _=>[],fun _=>[]⟩
  (fun x1=> .rg {an:=[(3, .look (bB aP x1 g.head).isSome [(cI ((bB aP x1 g.head).getD 0))])]} [.pf ⟨bY [some .i64] 1 1 g.head.length (yR (aS .i64) g.head) (zu (aS .i64) g.head) [(.int .i64 x1)] [(.d (.int .i64 0))] (bB aP x1 g.head).isSome [(cI ((bB aP x1 g.head).getD 0))],qY (fun _=>rfl) (fun _ _=>rfl) g.head x1 0 rfl rfl rfl⟩]<| .r<| .it (.r<| .e (.done (.ret x1)))
  (.r<| .e (.next ((bB aP x1 g.head).getD 0))))
  (fun _=> .no))
theorem wL (g:aZ) (a:Int) (b:Int):dG Tryz.prog 249 [(.agg [(.mp 0)]),(sI a),(sI b)] (YU g) (fun r=>(.dY [])) (fun r=>[(0,some (Nc 3 3 false false 1 1 (aS .i64) (aS .i64) r))]) (jw g a b):=
  dR tT mX Tryz.func249 (
  .rg {fr:=[(0,2)]} []<| .cr 2 (gy g a) fun r_=> .cr 5 (gy g b) fun u0=> .r<| .r<| .it (.rg {an:=[(4, .map (eB aP r_ u0 g.head).length (yR (aS .i64) (eB aP r_ u0 g.head)) (zu (aS .i64) (eB aP r_ u0 g.head)) [])]} [.pf ⟨dZ [some .i64] 1 1 g.head.length (yR (aS .i64) g.head) (zu (aS .i64) g.head) [(.int .i64 r_)] [(cI u0)] [] (eB aP r_ u0 g.head).length (yR (aS .i64) (eB aP r_ u0 g.head)) (zu (aS .i64) (eB aP r_ u0 g.head)),A8 (fun _=>rfl) (fun _ _=>rfl) g.head r_ u0 rfl rfl⟩]<| .e (eB aP r_ u0 g.head))
  (.e g.head))
section
variable (o_:aZ)
abbrev Y0:Nat × Option Ob:=(0,some (.loop sU 0 [(5,(vP 1 0))]))
abbrev k42:List (Nat × Option Ob):=[Y0,(1,some (.cells 337 [(.mp 2)])),(2,some (Nc 3 3 false false 1 1 (aS .i64) (aS .i64) o_.head))]
end
theorem vC (u0:Int) (u1:Int) (u2:Int) (u3:Int) (u4:Int) (u5:(List dO)) (o_:aZ):Vo Tryz.prog 0 [(.agg [(cI u0),(cI u1),(cI u2),(cI u3),(cI u4),(.d (aB none 2 dO.cell u5))])] (k42 o_) (fun _=>vB true) (fun r=>[Y0,(1,some (.cells 337 [(.mp 2)])),(2,some (Nc 3 3 false false 1 1 (aS .i64) (aS .i64) r.head))]) (kZ u0 u1 u2 u3 u4 u5 o_):=
  ZG tT mX sU ⟨[5],[0,1,2],fun _=>[(6,(vD (uH [(.int .i64 u0),(.int .i64 u1),(.int .i64 u2),(.int .i64 u3),(.int .i64 u4),(aB none 2 dO.cell u5)] 0)))],fun _=>[]⟩ (.rg {fr:=[(0,4)],fz:=[4]} []<| .e ())
  (.cl 5 (cO [(0,2)] (wL o_ u0 u1)) fun r_=> .r<| .e (⟨r_⟩:aZ))
section
variable (x2:(List Bool)) (u5:(List Bool)) (u2:(List Bool)) (u6:(List Bool)) (u7:(List Bool)) (u8:(List Bool)) (u1:(List Bool)) (o0:(List (Int × Int))) (t9:Int) (u0:(List Link))
abbrev Wo:DV:=(uH [(aB none 1 af x2),(aB none 1 af u5),(aB none 1 af u2),(aB none 1 af u6),(aB none 1 af u7),(aB none 1 af u8),(aB none 1 af u1)] 0)
abbrev VA:Ob:=(Nc 3 3 false false 1 1 (aS .i64) (aS .i64) o0)
abbrev ZM:=(bif (bif (at' x2 t9.toNat)then(!(at' u2 t9.toNat))else false)then(!(at' u1 (((at' u0 t9.toNat).a).toNat)))else false)
abbrev k47:=((gB [((bif (at' x2 t9.toNat)then(!(at' u2 t9.toNat))else false),true)]=true→(0:Int)≤(at' u0 t9.toNat).a∧(at' u0 t9.toNat).a<(u1.length:Int)))
abbrev Z6:=((gB [((ZM x2 u2 u1 t9 u0),true)]=true→(0:Int)≤(at' u0 t9.toNat).b∧(at' u0 t9.toNat).b<(u1.length:Int)))
end
theorem vR (x1:Int) (u3:(List Source)) (u0:(List Link)) (u4:(List aL)) (x2:(List Bool)) (u5:(List Bool)) (u2:(List Bool)) (u6:(List Bool)) (u7:(List Bool)) (u8:(List Bool)) (u1:(List Bool)) (o_:aZ):dG Tryz.prog 284 [(.one (.yl 0)),(sD (k10 x1 u3 u0 u4)),(sD (Wo x2 u5 u2 u6 u7 u8 u1))] (k42 o_) (fun r=>(.dY [])) (fun r=>[Y0,(1,some (.cells 337 [(.mp 2)])),(2,some (Nc 3 3 false false 1 1 (aS .i64) (aS .i64) r.head))]) (lD x1 u3 u0 u4 x2 u5 u2 u6 u7 u8 u1 o_):=
  dR tT mX Tryz.func284 (
  .r<| .lp (σ:=((List (Int × Int)) × Int)) (β:=(List (Int × Int))) (o_.head,0) [] [] ⟨[0,2,7,8],[0,1],fun(o0,t9)=>[(9,(vI t9))],fun(o0,t9)=>[(2,some (VA o0))]⟩ ⟨[],[0,1],fun o01=>[],fun o01=>[(2,some (Nc 3 3 false false 1 1 (aS .i64) (aS .i64) o01))]⟩
  (fun(o0,t9)=> .r<| .it (.a1 ((0:Int)≤t9∧t9<(u0.length:Int))<| .rg {fr:=[(3,10)],fz:=[10]} []<| .fk (bif (ZM x2 u2 u1 t9 u0)then(!(at' u1 (((at' u0 t9.toNat).b).toNat)))else false) (.cy 34 (vC ((at' u0 t9.toNat).a) ((at' u0 t9.toNat).b) ((at' u0 t9.toNat).kind) ((at' u0 t9.toNat).most) ((at' u0 t9.toNat).ohm) ((at' u0 t9.toNat).trip) (⟨o0⟩:aZ)) fun r_=> .a4 ((0:Int)≤t9∧t9<(x2.length:Int)) ((gB [((at' x2 t9.toNat),true)]=true→(0:Int)≤t9∧t9<(u2.length:Int))) (k47 x2 u2 u1 t9 u0) (Z6 x2 u2 u1 t9 u0)<| .rg {ov:=[(31,true,5)]} [0,1,2,3, .k 4]<| .f<| .r<| .e (.next (r_.head,(k0 t9))))
  (.a4 ((0:Int)≤t9∧t9<(x2.length:Int)) ((gB [((at' x2 t9.toNat),true)]=true→(0:Int)≤t9∧t9<(u2.length:Int))) (k47 x2 u2 u1 t9 u0) (Z6 x2 u2 u1 t9 u0)<| .rg {ov:=[(31,false,4)],sk:=[32,33,34,35]} [0,1,2,3]<| .f<| .r<| .e (.next (o0,(k0 t9)))))
  (.e (.done (.brk o0))))
  (fun o01=> .e (⟨o01⟩:aZ)))
section
variable (u1:(List aH)) (u2:(List (Int × Int))) (u0:Int) (u3:Int) (u5:(List aH)) (u6:Int) (u4:(List (Int × Int))) (u7:Int)
abbrev Z7:List (Nat × Option Ob):=[(60,some (.rows 287 2 u1.length (wu aH.ev u1) none)),(61,some (VA u2))]
abbrev FN:=((bB aP u0 u2).getD 0)
abbrev VT:List CV:=[(cI (FN u2 u0))]
abbrev MZ:=(eB aP u0 (u1.length:Int) u2)
abbrev Rx:=(u1++[(⟨([]:List Int),([]:List Int)⟩:aH)])
abbrev Y3:=(wu aH.ev (Rx u1))
abbrev Sm:=((bB aP u0 (MZ u1 u2 u0)).getD 0)
abbrev Zl:=((Sm u1 u2 u0).toNat)
abbrev ZO:=(at' (Rx u1) (Zl u1 u2 u0))
abbrev Um:=((ZO u1 u2 u0).buses)
abbrev k56:=((Um u1 u2 u0).length+[u3].length)
abbrev Wd:=((Um u1 u2 u0)++[u3])
abbrev Zp:=(aD (aS .i64) (Wd u1 u2 u0 u3))
abbrev Y5:=((Rx u1).set (Zl u1 u2 u0) (⟨(Wd u1 u2 u0 u3),(ZO u1 u2 u0).sources⟩:aH))
abbrev k62:=(wu aH.ev (Y5 u1 u2 u0 u3))
abbrev RG:=((at' u1 ((FN u2 u0).toNat)).buses)
abbrev VY:=((RG u1 u2 u0)++[u3])
abbrev YM:=(aD (aS .i64) (VY u1 u2 u0 u3))
abbrev YT:=(u1.set ((FN u2 u0).toNat) (⟨(VY u1 u2 u0 u3),(at' u1 ((FN u2 u0).toNat)).sources⟩:aH))
abbrev k67:=(wu aH.ev (YT u1 u2 u0 u3))
abbrev RN:=((at' u5 ((FN u4 u6).toNat)).sources)
abbrev V6:=((RN u5 u6 u4)++[u7])
abbrev YJ:=(aD (aS .i64) (V6 u5 u6 u4 u7))
abbrev Zx:=(u5.set ((FN u4 u6).toNat) (⟨(at' u5 ((FN u4 u6).toNat)).buses,(V6 u5 u6 u4 u7)⟩:aH))
abbrev ZQ:=(wu aH.ev (Zx u5 u6 u4 u7))
end
theorem iy (p:ay) (s_:State):dG Tryz.prog 197 (k23 p s_) [] (fun r=>(vD (aB none 2 aH.cell r))) (fun _=>[]) (eX p s_):=
  dR tT mX Tryz.func197 (
  .rg {fr:=[(0,55),(1,56)],fz:=[56]} []<| .rg {an:=[(0, .map 0 (yR (aS .i64) ([]:(List (Int × Int)))) (zu (aS .i64) ([]:(List (Int × Int)))) [])],fr:=[(0,57),(2,58)]} []<| .cl 2 (wY p s_) fun r_=> .r<| .cl 0 (cO [(0,59),(1,58),(2,57)] (vR r_.1 r_.2.1 r_.2.2.1 r_.2.2.2.1 r_.2.2.2.2.1 r_.2.2.2.2.2.1 r_.2.2.2.2.2.2.1 r_.2.2.2.2.2.2.2.1 r_.2.2.2.2.2.2.2.2.1 r_.2.2.2.2.2.2.2.2.2.1 r_.2.2.2.2.2.2.2.2.2.2 (⟨([]:(List (Int × Int)))⟩:aZ))) fun v0=> .rf 59 [5] [] none 0 []<| .r<| .im (.adR 7 60 287 2 (wu aH.ev ([]:List aH)))<| .rg {an:=[(0, .map 0 (yR (aS .i64) ([]:(List (Int × Int)))) (zu (aS .i64) ([]:(List (Int × Int)))) [])],fr:=[(0,61)]} []<| .r<| .lp (σ:=((List aH) × (List (Int × Int)) × Int)) (β:=((List aH) × (List (Int × Int)))) (([]:List aH),([]:(List (Int × Int))),0) [] [] ⟨[2,3,5,8,31],[55,57,58],fun(u1,u2,u3)=>[(7,(vO 60 false u1.length)),(32,(vI u3))],fun(u1,u2,u3)=>(Z7 u1 u2)⟩ ⟨[2,3,5,8],[55,57,58],fun(u9,u4)=>[(7,(vO 60 false u9.length))],fun(u9,u4)=>(Z7 u9 u4)⟩
  (fun(u1,u2,u3)=> .r<| .it (.r<| .a1 ((0:Int)≤u3∧u3<(s_.badBus.length:Int))<| .r<| .it (.r<| .e (.next (u1,u2,(k0 u3))))
  (.cr 2 (cO [(0,57)] (gy v0 u3)) fun u0=> .r<| .rg {an:=[(2, .look (bB aP u0 u2).isSome (VT u2 u0))]} [.pf ⟨bY [some .i64] 1 1 u2.length (yR (aS .i64) u2) (zu (aS .i64) u2) [(.int .i64 u0)] [(.d (.int .i64 0))] (bB aP u0 u2).isSome (VT u2 u0),qY (fun _=>rfl) (fun _ _=>rfl) u2 u0 0 rfl rfl rfl⟩]<| .r<| .it (.rg {an:=[(4, .map (MZ u1 u2 u0).length (yR (aS .i64) (MZ u1 u2 u0)) (zu (aS .i64) (MZ u1 u2 u0)) [])]} [.pf ⟨dZ [some .i64] 1 1 u2.length (yR (aS .i64) u2) (zu (aS .i64) u2) [(.int .i64 u0)] [(cI (u1.length:Int))] [] (MZ u1 u2 u0).length (yR (aS .i64) (MZ u1 u2 u0)) (zu (aS .i64) (MZ u1 u2 u0)),A8 (fun _=>rfl) (fun _ _=>rfl) u2 u0 (u1.length:Int) rfl rfl⟩]<| .a2 ((u1.length+[(⟨([]:List Int),([]:List Int)⟩:aH)].length)*48≤140737488355328) (u1.length+[(⟨([]:List Int),([]:List Int)⟩:aH)].length≤4611686018427387904)<| .rg {an:=[(2, .arr [(⟨([]:List Int),([]:List Int)⟩:aH)].length (uD 2 [nS,nS])),(3, .rows (Rx u1).length (Y3 u1))],fr:=[(2,86),(3,87)]} [.pf ⟨[(⟨([]:List Int),([]:List Int)⟩:aH)].length=1,rfl⟩, .pf ⟨aQ 1 2 (uD 2 [nS,nS]) (uD 2 [nS,nS]),vZ _ _ _⟩, .e (u1.length),0,1, .pf ⟨(Rx u1).length=u1.length+[(⟨([]:List Int),([]:List Int)⟩:aH)].length,List.length_append⟩, .pf ⟨Du u1.length [(⟨([]:List Int),([]:List Int)⟩:aH)].length 2 (wu aH.ev u1) (uD 2 [nS,nS]) (Y3 u1),R4 _ _ _ _ _ (by intro i hi j hj;match i,j,hi,hj with|0,0,_,_=>exact⟨rfl,_,_,_,rfl⟩|0,1,_,_=>exact⟨rfl,_,_,_,rfl⟩)⟩]<| .rg {an:=[(2, .look (bB aP u0 (MZ u1 u2 u0)).isSome [(cI (Sm u1 u2 u0))])]} [.pf ⟨bY [some .i64] 1 1 (MZ u1 u2 u0).length (yR (aS .i64) (MZ u1 u2 u0)) (zu (aS .i64) (MZ u1 u2 u0)) [(.int .i64 u0)] [(.d (.int .i64 0))] (bB aP u0 (MZ u1 u2 u0)).isSome [(cI (Sm u1 u2 u0))],qY (fun _=>rfl) (fun _ _=>rfl) (MZ u1 u2 u0) u0 0 rfl rfl rfl⟩]<| .a3 ((0:Int)≤(Sm u1 u2 u0)∧(Sm u1 u2 u0)<((Rx u1).length:Int)) ((k56 u1 u2 u0 u3)*8≤140737488355328) ((Um u1 u2 u0).length+[u3].length≤4611686018427387904)<| .rg {an:=[(6, .take 88),(8, .arr [u3].length (aD (aS .i64) [u3])),(9, .arr (Wd u1 u2 u0 u3).length (Zp u1 u2 u0 u3)),(12, .rows 0 (k62 u1 u2 u0 u3))],fr:=[(8,89),(9,90)]} [0, .t 0 (Sm u1 u2 u0) ((Rx u1).length), .pf ⟨[u3].length=1,rfl⟩, .pf ⟨aQ 1 1 (uD 1 [(.int .i64 u3)]) (aD (aS .i64) [u3]),(by intro i hi j hj;match i,j,hi,hj with|0,0,_,_=>rfl)⟩, .e ((Um u1 u2 u0).length),1,2, .pf ⟨(Wd u1 u2 u0 u3).length=(Um u1 u2 u0).length+[u3].length,List.length_append⟩, .pf ⟨aQ (k56 u1 u2 u0 u3) 1 (mh (aD (aS .i64) (Um u1 u2 u0)) (Um u1 u2 u0).length (aD (aS .i64) [u3])) (Zp u1 u2 u0 u3),cu _ _ _ _⟩,0, .t 0 (Sm u1 u2 u0) ((Rx u1).length), .e ((Wd u1 u2 u0 u3).length), .pf ⟨Rt (Rx u1).length 2 (Uu (Y3 u1) (Zl u1 u2 u0) 0 (.row 3 1 (Wd u1 u2 u0 u3).length (Zp u1 u2 u0 u3))) (k62 u1 u2 u0 u3),EK _ _ _ _ _ _ _ _ rfl (fun j hj=>(match j,hj with|0,_=>rfl|1,_=>rfl))⟩, .pf ⟨∀i0 j0 c0,((some ((Sm u1 u2 u0).toNat,0,CV.own 88 false (Um u1 u2 u0).length)):Option (Nat × Nat × CV))=some (i0,j0,c0)→i0=(Sm u1 u2 u0).toNat∧j0=0,(fun i0 j0 c0 e=>by cases e;exact⟨rfl,rfl⟩)⟩]<| .im (.ll 87 (Rx u1) (Y5 u1 u2 u0 u3))<| .r<| .en (.next ((Y5 u1 u2 u0 u3),(MZ u1 u2 u0),(k0 u3))) [] [(87,60)])
  (.rg {an:=[(2, .look (bB aP u0 u2).isSome (VT u2 u0))]} [.pf ⟨bY [some .i64] 1 1 u2.length (yR (aS .i64) u2) (zu (aS .i64) u2) [(.int .i64 u0)] [(.d (.int .i64 0))] (bB aP u0 u2).isSome (VT u2 u0),qY (fun _=>rfl) (fun _ _=>rfl) u2 u0 0 rfl rfl rfl⟩]<| .a3 ((0:Int)≤(FN u2 u0)∧(FN u2 u0)<(u1.length:Int)) (((RG u1 u2 u0).length+[u3].length)*8≤140737488355328) ((RG u1 u2 u0).length+[u3].length≤4611686018427387904)<| .rg {an:=[(6, .take 91),(8, .arr [u3].length (aD (aS .i64) [u3])),(9, .arr (VY u1 u2 u0 u3).length (YM u1 u2 u0 u3)),(12, .rows 0 (k67 u1 u2 u0 u3))],fr:=[(8,92),(9,93)]} [0, .t 0 (FN u2 u0) u1.length, .pf ⟨[u3].length=1,rfl⟩, .pf ⟨aQ 1 1 (uD 1 [(.int .i64 u3)]) (aD (aS .i64) [u3]),(by intro i hi j hj;match i,j,hi,hj with|0,0,_,_=>rfl)⟩, .e ((RG u1 u2 u0).length),1,2, .pf ⟨(VY u1 u2 u0 u3).length=(RG u1 u2 u0).length+[u3].length,List.length_append⟩, .pf ⟨aQ ((RG u1 u2 u0).length+[u3].length) 1 (mh (aD (aS .i64) (RG u1 u2 u0)) (RG u1 u2 u0).length (aD (aS .i64) [u3])) (YM u1 u2 u0 u3),cu _ _ _ _⟩,0, .t 0 (FN u2 u0) u1.length, .e ((VY u1 u2 u0 u3).length), .pf ⟨Rt u1.length 2 (Uu (wu aH.ev u1) ((FN u2 u0).toNat) 0 (.row 3 1 (VY u1 u2 u0 u3).length (YM u1 u2 u0 u3))) (k67 u1 u2 u0 u3),EK _ _ _ _ _ _ _ _ rfl (fun j hj=>(match j,hj with|0,_=>rfl|1,_=>rfl))⟩, .pf ⟨∀i0 j0 c0,((some ((FN u2 u0).toNat,0,CV.own 91 false (RG u1 u2 u0).length)):Option (Nat × Nat × CV))=some (i0,j0,c0)→i0=(FN u2 u0).toNat∧j0=0,(fun i0 j0 c0 e=>by cases e;exact⟨rfl,rfl⟩)⟩]<| .im (.ll 60 u1 (YT u1 u2 u0 u3))<| .r<| .e (.next ((YT u1 u2 u0 u3),u2,(k0 u3))))))
  (.e (.done (.brk (u1,u2)))))
  (fun(u9,u4)=> .r<| .lp (σ:=((List aH) × Int)) (β:=(List aH)) (u9,0) [] [] ⟨[3,5,8,76,77],[57,58,61],fun(u5,u7)=>[(7,(vO 60 false u5.length)),(78,(vI u7))],fun(u5,u7)=>[(60,some (.rows 287 2 u5.length (wu aH.ev u5) none))]⟩ ⟨[],[],fun u8=>[(7,(vO 60 false u8.length))],fun u8=>[(60,some (.rows 287 2 u8.length (wu aH.ev u8) none))]⟩
  (fun(u5,u7)=> .r<| .it (.a1 ((0:Int)≤u7∧u7<(p.sources.length:Int))<| .rg {fr:=[(3,106)],fz:=[106]} []<| .a3 ((0:Int)≤u7∧u7<(s_.on_.length:Int)) ((gB [((at' s_.on_ u7.toNat),true)]=true→(0:Int)≤u7∧u7<(s_.badSource.length:Int))) ((gB [((bif (at' s_.on_ u7.toNat)then(!(at' s_.badSource u7.toNat))else false),true)]=true→(0:Int)≤(at' p.sources u7.toNat).bus∧(at' p.sources u7.toNat).bus<(s_.badBus.length:Int)))<| .rg {} [0,1,2]<| .it (.cr 4 (cO [(0,57)] (gy v0 ((at' p.sources u7.toNat).bus))) fun u6=> .rg {an:=[(5, .look (bB aP u6 u4).isSome (VT u4 u6))]} [0, .pf ⟨bY [some .i64] 1 1 u4.length (yR (aS .i64) u4) (zu (aS .i64) u4) [(.int .i64 u6)] [(.d (.int .i64 0))] (bB aP u6 u4).isSome (VT u4 u6),qY (fun _=>rfl) (fun _ _=>rfl) u4 u6 0 rfl rfl rfl⟩]<| .a3 ((0:Int)≤(FN u4 u6)∧(FN u4 u6)<(u5.length:Int)) (((RN u5 u6 u4).length+[u7].length)*8≤140737488355328) ((RN u5 u6 u4).length+[u7].length≤4611686018427387904)<| .rg {an:=[(6, .take 107),(8, .arr [u7].length (aD (aS .i64) [u7])),(9, .arr (V6 u5 u6 u4 u7).length (YJ u5 u6 u4 u7)),(12, .rows 0 (ZQ u5 u6 u4 u7))],fr:=[(8,108),(9,109)]} [0, .t 0 (FN u4 u6) u5.length, .pf ⟨[u7].length=1,rfl⟩, .pf ⟨aQ 1 1 (uD 1 [(.int .i64 u7)]) (aD (aS .i64) [u7]),(by intro i hi j hj;match i,j,hi,hj with|0,0,_,_=>rfl)⟩, .e ((RN u5 u6 u4).length),1,2, .pf ⟨(V6 u5 u6 u4 u7).length=(RN u5 u6 u4).length+[u7].length,List.length_append⟩, .pf ⟨aQ ((RN u5 u6 u4).length+[u7].length) 1 (mh (aD (aS .i64) (RN u5 u6 u4)) (RN u5 u6 u4).length (aD (aS .i64) [u7])) (YJ u5 u6 u4 u7),cu _ _ _ _⟩,0, .t 0 (FN u4 u6) u5.length, .e ((V6 u5 u6 u4 u7).length), .pf ⟨Rt u5.length 2 (Uu (wu aH.ev u5) ((FN u4 u6).toNat) 1 (.row 3 1 (V6 u5 u6 u4 u7).length (YJ u5 u6 u4 u7))) (ZQ u5 u6 u4 u7),EK _ _ _ _ _ _ _ _ rfl (fun j hj=>(match j,hj with|0,_=>rfl|1,_=>rfl))⟩, .pf ⟨∀i0 j0 c0,((some ((FN u4 u6).toNat,1,CV.own 107 false (RN u5 u6 u4).length)):Option (Nat × Nat × CV))=some (i0,j0,c0)→i0=(FN u4 u6).toNat∧j0=1,(fun i0 j0 c0 e=>by cases e;exact⟨rfl,rfl⟩)⟩]<| .im (.ll 60 u5 (Zx u5 u6 u4 u7))<| .r<| .e (.next ((Zx u5 u6 u4 u7),(k0 u7))))
  (.r<| .e (.next (u5,(k0 u7)))))
  (.e (.done (.brk u5))))
  (fun u8=> .r<| .fz [60]<| .im (.us 4 (vD (.sl none 2 u8.length (fun i j=>Y9 (wu aH.ev u8 i j)))) (vD (aB none 2 aH.cell u8)) (BZ.v (Ee.one (Gt.d (vS.sl (.inr rfl) (fun i _ j hj=>match j,hj with|0,_=> .refl _|1,_=> .refl _))))))<| .e u8)))
section
variable (p:ay) (u1:(List aH)) (u0:Int) (u3:Int) (u2:(List Bool))
abbrev U9:=(List.replicate p.buses.toNat (false:Bool))
abbrev YG:=(aD af (U9 p))
abbrev VZ:=(at' ((at' u1 u0.toNat).buses) u3.toNat)
abbrev ZW:=((0:Int)≤(VZ u1 u0 u3)∧(VZ u1 u0 u3)<(u2.length:Int))
abbrev Yx:=(u2.set ((VZ u1 u0 u3).toNat) (decide (0<(((at' u1 u0.toNat).sources).length:Int))))
abbrev Yy:=(aD af (Yx u1 u0 u3 u2))
abbrev ZV:=(sj (aD af u2) ((VZ u1 u0 u3).toNat) 0 [(.bool (decide (0<(((at' u1 u0.toNat).sources).length:Int))))])
abbrev ZU:=((Yx u1 u0 u3 u2),(k0 u3))
end
theorem wS (p:ay) (s_:State):dG Tryz.prog 126 (k23 p s_) [] (fun r=>(.dY [(sD (aB none 1 af r.1)),(sI r.2)])) (fun _=>[]) (gN p s_):=
  dR tT mX Tryz.func126 (
  .rg {fr:=[(0,7),(1,8)],fz:=[7,8]} []<| .cl 2 (bL p s_) fun r_=> .r<| .r<| .it (.r<| .e (([]:List Bool),r_))
  (.a3 ((0:Int)≤p.buses) ((1:Int)*p.buses≤281474976710656) ((p.buses:Int)≤9223372036854775807)<| .rg {an:=[(2, .arr (U9 p).length (YG p))],fr:=[(2,9)]} [0, .e ((p.buses:Int)),1,2, .pf ⟨(U9 p).length=p.buses.toNat,List.length_replicate⟩, .pf ⟨aQ p.buses.toNat 1 (fun _ j=>[(.bool false)].getD j .nilp) (YG p),nG _ _ _ _ _ (fun j hj=>(match j,hj with|0,_=>rfl))⟩]<| .cl 2 (iy p s_) fun u1=> .r<| .lp (σ:=((List Bool) × Int)) (β:=(List Bool)) ((U9 p),0) [] [] ⟨[23,24],[],fun(u4,u0)=>[(7,(vO 9 true u4.length)),(25,(vI u0))],fun(u4,u0)=>[(9,some (bR 4 1 af u4))]⟩ ⟨[],[],fun u5=>[(7,(vO 9 true u5.length))],fun u5=>[(9,some (bR 4 1 af u5))]⟩
  (fun(u4,u0)=> .r<| .it (.a1 ((0:Int)≤u0∧u0<(u1.length:Int))<| .rg {fr:=[(2,13)]} []<| .rg {fz:=[13]} []<| .lp (σ:=((List Bool) × Int)) (β:=(List Bool)) (u4,0) [] [] ⟨[9,23,24,25,30,31],[],fun(u2,u3)=>[(7,(vO 9 true u2.length)),(32,(vI u3))],fun(u2,u3)=>[(9,some (bR 4 1 af u2))]⟩ ⟨[23,24,25],[],fun u6=>[(7,(vO 9 true u6.length))],fun u6=>[(9,some (bR 4 1 af u6))]⟩
  (fun(u2,u3)=> .r<| .it (.a1 ((0:Int)≤u3∧u3<(((at' u1 u0.toNat).buses).length:Int))<| .r<| .a1 (ZW u1 u0 u3 u2)<| .rg {an:=[(7, .arr 0 (Yy u1 u0 u3 u2))]} [0, .t 0 (VZ u1 u0 u3) u2.length, .pf ⟨aQ u2.length 1 (ZV u1 u0 u3 u2) (Yy u1 u0 u3 u2),dL _ _ _ _ _ _ _ _ rfl (fun j hj=>(match j,hj with|0,_=>rfl))⟩]<| .im (.ll 9 u2 (Yx u1 u0 u3 u2))<| .r<| .e (.next (ZU u1 u0 u3 u2)))
  (.e (.done (.brk u2))))
  (fun u6=> .r<| .e (.next (u6,(k0 u0)))))
  (.e (.done (.brk u4))))
  (fun u5=> .rg {fz:=[9]} []<| .e (u5,0))))
section
variable (p:ay) (u0:Int) (r_:((List Bool) × Int)) (u1:(List ax))
abbrev MH:=((at' p.racks u0.toNat).feeds)
abbrev Yo:List DV:=[(.int .i64 ((MH p u0).e0))]
abbrev Ul:List CV:=[(cI ((MH p u0).e0)),(cI ((MH p u0).e1))]
abbrev Z4:=((gB [((decide (0≤((MH p u0).e0))),true)]=true→(0:Int)≤(MH p u0).e0∧(MH p u0).e0<(r_.1.length:Int)))
abbrev Yw:List DV:=[(.int .i64 ((MH p u0).e1))]
abbrev ZF:=((gB [((decide (0≤((MH p u0).e1))),true)]=true→(0:Int)≤(MH p u0).e1∧(MH p u0).e1<(r_.1.length:Int)))
abbrev ZH:=(bif (decide (0≤((MH p u0).e0)))then(at' r_.1 (((MH p u0).e0).toNat))else false)
abbrev Z0:=(bif (decide (0≤((MH p u0).e1)))then(at' r_.1 (((MH p u0).e1).toNat))else false)
abbrev RA:=(⟨(ZH p u0 r_),(Z0 p u0 r_)⟩:ax)
abbrev YR:=(u1.length+[(RA p u0 r_)].length)
abbrev ZR:=((YR p u0 r_ u1)*2≤140737488355328)
abbrev k93:=(u1.length+[(RA p u0 r_)].length≤4611686018427387904)
abbrev Xp:=(aD ax.cell [(RA p u0 r_)])
abbrev V8:=(u1++[(RA p u0 r_)])
abbrev Yq:=(aD ax.cell (V8 p u0 r_ u1))
abbrev ZE:=(uD 2 [(.bool (ZH p u0 r_)),(.bool (Z0 p u0 r_))])
abbrev Z5:=(mh (aD ax.cell u1) u1.length (Xp p u0 r_))
abbrev ZI:=((V8 p u0 r_ u1),(k0 u0))
end
theorem EL (p:ay) (s_:State):dG Tryz.prog 56 (k23 p s_) [] (fun r=>(.dY [(sD (aB none 2 ax.cell r.1)),(sI r.2)])) (fun _=>[]) (jL p s_):=
  dR tT mX Tryz.func56 (
  .rg {fr:=[(0,18),(1,19)],fz:=[19]} []<| .cl 2 (wS p s_) fun r_=> .r<| .r<| .it (.r<| .e (([]:List ax),r_.2))
  (.r<| .r<| .im (.ad 8 36 133 2 (aD ax.cell ([]:List ax)))<| .lp (σ:=((List ax) × Int)) (β:=(List ax)) (([]:List ax),0) [] [(36,23)] ⟨[6,24,25],[],fun(u1,u0)=>[(8,(vO 23 false u1.length)),(26,(vI u0))],fun(u1,u0)=>[(23,some (bR 133 2 ax.cell u1))]⟩ ⟨[],[],fun u2=>[(8,(vO 23 false u2.length))],fun u2=>[(23,some (bR 133 2 ax.cell u2))]⟩
  (fun(u1,u0)=> .r<| .it (.a1 ((0:Int)≤u0∧u0<(p.racks.length:Int))<| .rg {fr:=[(2,32)],fz:=[32]} []<| .rg {fr:=[(0,33)]} []<| .r<| .ul 11<| .r<| .t<| .rg {an:=[(1, .vals (Yo p u0))]} [.pf ⟨(0:Int)≤0∧(0:Int)<(2:Nat),(by decide)⟩, .pf ⟨0*1+1≤(Ul p u0).length,Nat.le_of_ble_eq_true rfl⟩, .pf ⟨((Ul p u0).drop (0*1)).take 1=(Yo p u0).map .d,rfl⟩]<| .a1 (Z4 p u0 r_)<| .rg {} [0, .pf ⟨(0:Int)≤0∧(0:Int)<(2:Nat),(by decide)⟩]<| .r<| .im (.dp [6,8,11,24,25,26,31,32])<| .r<| .t<| .rg {an:=[(1, .vals (Yw p u0))]} [.pf ⟨(0:Int)≤1∧(1:Int)<(2:Nat),(by decide)⟩, .pf ⟨1*1+1≤(Ul p u0).length,Nat.le_of_ble_eq_true rfl⟩, .pf ⟨((Ul p u0).drop (1*1)).take 1=(Yw p u0).map .d,rfl⟩]<| .a1 (ZF p u0 r_)<| .rg {} [0, .pf ⟨(0:Int)≤1∧(1:Int)<(2:Nat),(by decide)⟩]<| .r<| .im (.dp [6,8,11,24,25,26,31,32])<| .r<| .f<| .a2 (ZR p u0 r_ u1) (k93 p u0 r_ u1)<| .rg {an:=[(2, .arr [(RA p u0 r_)].length (Xp p u0 r_)),(3, .arr (V8 p u0 r_ u1).length (Yq p u0 r_ u1))],fr:=[(2,34),(3,35)]} [.pf ⟨[(RA p u0 r_)].length=1,rfl⟩, .pf ⟨aQ 1 2 (ZE p u0 r_) (Xp p u0 r_),(by intro i hi j hj;match i,j,hi,hj with|0,0,_,_=>rfl|0,1,_,_=>rfl)⟩, .e (u1.length),0,1, .pf ⟨(V8 p u0 r_ u1).length=u1.length+[(RA p u0 r_)].length,List.length_append⟩, .pf ⟨aQ (YR p u0 r_ u1) 2 (Z5 p u0 r_ u1) (Yq p u0 r_ u1),cu _ _ _ _⟩]<| .r<| .en (.next (ZI p u0 r_ u1)) [] [(35,23)])
  (.e (.done (.brk u1))))
  (fun u2=> .rg {fz:=[23]} []<| .e (u2,0))))
theorem iL (x y:aN):Go.Proofs.ltOf bH x y=true↔x.e0<y.e0∨ ¬ y.e0<x.e0∧x.e1<y.e1:=by
 unfold Go.Proofs.ltOf bH;rw [decide_eq_true_iff]
 by_cases h0:x.e0<y.e0<;>by_cases g0:y.e0<x.e0<;>by_cases h1:x.e1<y.e1<;>by_cases g1:y.e1<x.e1<;>simp [h0,g0,h1,g1]
theorem xw:Go.Sort.SWO (Go.Proofs.ltOf bH) where
 irrefl x:=by rw [←Bool.not_eq_true,iL];omega
 trans x y z h1 h2:=by rw [iL]at*;omega
 ntrans x y z h1 h2:=by rw [←Bool.not_eq_true,iL]at*;omega
theorem wW (x y:aN) (h1:(Go.Proofs.ltOf bH) x y=false) (h2:(Go.Proofs.ltOf bH) y x=false):x=y:=by
 rw [←Bool.not_eq_true,iL]at h1 h2
 obtain⟨a,b⟩:=x
 obtain⟨c,d⟩:=y
 have e1:a=c:=by simp only at h1 h2;omega
 have e2:b=d:=by simp only at h1 h2;omega
 rw [e1,e2]
theorem xR (s:(List aN)) {r:(List aN)} (h:iN s=some r):Fn Tryz.prog 207 [(.one (.own 0 false s.length)),(sD (.fn 208 0 (aT [])))] [(0,some (.arr 145 2 s.length (aD aN.cell s)))] (.dY []) [(0,some (.arr 145 2 r.length (aD aN.cell r)))]:=
 U3 Pe 2 R6 Ro (fun x:aN=>[.int .i64 x.e0, .int .i64 x.e1]) (fun _=>rfl) (fun x v hv=>by simp at hv;rcases hv with rfl|rfl<;>rfl) bH xw wW
  (Li (fun x:aN=>[.int .i64 x.e0, .int .i64 x.e1]) (fun x=>x.e0) (fun x=>x.e1) (fun _=>rfl)) (enters_of Tryz.func208 (by kernel_rfl) rfl)
  (fun F w x j hj v=>match j,hj with|0,_=>Iff.rfl|1,_=>Iff.rfl) 207 rfl ⟨_,Tryz.func207,rfl,rfl⟩ s (by cases s with|nil=>(cases h;simp)|cons x xs=>exact h)
section
variable (u6:(List aN)) (u2:(List aH)) (u0:Int) (u1:Int) (u3:Int) (u4:(List aN))
abbrev Om:List (Nat × Option Ob):=[(138,some (bR 145 2 aN.cell u6))]
abbrev Vg:=(((at' u2 u0.toNat).sources).drop ((k0 u1).toNat))
abbrev Kk:=(at' ((at' u2 u0.toNat).sources) u1.toNat)
abbrev Tw:=(at' (Vg u2 u0 u1) u3.toNat)
abbrev Mi:=(⟨(Kk u2 u0 u1),(Tw u2 u0 u1 u3)⟩:aN)
abbrev WZ:=(u4.length+[(Mi u2 u0 u1 u3)].length)
abbrev UM:=(aD aN.cell [(Mi u2 u0 u1 u3)])
abbrev TG:=(u4++[(Mi u2 u0 u1 u3)])
abbrev XI:=(aD aN.cell (TG u2 u0 u1 u3 u4))
end
theorem zX (p:ay) (s_:State):dG Tryz.prog 135 (k23 p s_) [] (fun r=>(.dY [(sD (aB none 2 aN.cell r.1)),(sI r.2)])) (fun _=>[]) (mJ p s_):=
  dR tT mX Tryz.func135 (
  .rg {fr:=[(0,134),(1,135)],fz:=[134,135]} []<| .cl 2 (bL p s_) fun r_=> .r<| .r<| .it (.r<| .e (([]:List aN),r_))
  (.r<| .cl 2 (iy p s_) fun u2=> .r<| .im (.ad 7 268 145 2 (aD aN.cell ([]:List aN)))<| .lp (σ:=((List aN) × Int)) (β:=(List aN)) (([]:List aN),0) [] [(268,138)] ⟨[2,22,23],[],fun(u6,u0)=>[(7,(vO 138 false u6.length)),(24,(vI u0))],fun(u6,u0)=>(Om u6)⟩ ⟨[],[],fun u5=>[(7,(vO 138 false u5.length))],fun u5=>(Om u5)⟩
  (fun(u6,u0)=> .r<| .it (.a1 ((0:Int)≤u0∧u0<(u2.length:Int))<| .rg {fr:=[(2,235)],fz:=[235]} []<| .r<| .lp (σ:=((List aN) × Int)) (β:=(List aN)) (u6,0) [] [] ⟨[2,9,22,23,24,29,30],[],fun(u7,u1)=>[(7,(vO 138 false u7.length)),(31,(vI u1))],fun(u7,u1)=>(Om u7)⟩ ⟨[2,22,23,24],[],fun u8=>[(7,(vO 138 false u8.length))],fun u8=>(Om u8)⟩
  (fun(u7,u1)=> .r<| .it (.a1 ((0:Int)≤u1∧u1<(((at' u2 u0.toNat).sources).length:Int))<| .r<| .a1 ((0:Int)≤(k0 u1)∧(k0 u1)≤(((at' u2 u0.toNat).sources).length:Int))<| .r<| .im (.us 40 (vD (.sl none 1 (((at' u2 u0.toNat).sources).length - ((k0 u1).toNat)) (fun iq jq=>aD (aS .i64) ((at' u2 u0.toNat).sources) (iq+((k0 u1).toNat)) jq))) (vD (aB none 1 (aS .i64) (Vg u2 u0 u1))) (BZ.v (Ee.one (Gt.d (vS.Zv (by first|rw [List.length_append,List.length_drop]|simp only [List.length_set,List.length_drop,D6]|exact List.length_replicate) (.inr rfl) (UG _ _ _ _))))))<| .lp (σ:=((List aN) × Int)) (β:=(List aN)) (u7,0) [] [] ⟨[2,9,11,22,23,24,29,30,31,40,41],[],fun(u4,u3)=>[(7,(vO 138 false u4.length)),(42,(vI u3))],fun(u4,u3)=>(Om u4)⟩ ⟨[2,9,22,23,24,29,30,31],[],fun u9=>[(7,(vO 138 false u9.length))],fun u9=>(Om u9)⟩
  (fun(u4,u3)=> .r<| .it (.a1 ((0:Int)≤u3∧u3<((Vg u2 u0 u1).length:Int))<| .r<| .a3 ((0:Int)≤(Kk u2 u0 u1)∧(Kk u2 u0 u1)<(p.sources.length:Int)) ((gB [((decide (((at' p.sources ((Kk u2 u0 u1).toNat)).sync)=0)),false)]=true→(0:Int)≤(Kk u2 u0 u1)∧(Kk u2 u0 u1)<(p.sources.length:Int))) ((gB [((decide (((at' p.sources ((Kk u2 u0 u1).toNat)).sync)=0)),false)]=true→(0:Int)≤(Tw u2 u0 u1 u3)∧(Tw u2 u0 u1 u3)<(p.sources.length:Int)))<| .rg {} [0,1,2]<| .it (.a2 ((WZ u2 u0 u1 u3 u4)*16≤140737488355328) (u4.length+[(Mi u2 u0 u1 u3)].length≤4611686018427387904)<| .rg {an:=[(4, .arr [(Mi u2 u0 u1 u3)].length (UM u2 u0 u1 u3)),(5, .arr (TG u2 u0 u1 u3 u4).length (XI u2 u0 u1 u3 u4))],fr:=[(4,266),(5,267)]} [.pf ⟨[(Mi u2 u0 u1 u3)].length=1,rfl⟩, .pf ⟨aQ 1 2 (uD 2 [(.int .i64 (Kk u2 u0 u1)),(.int .i64 (Tw u2 u0 u1 u3))]) (UM u2 u0 u1 u3),(by intro i hi j hj;match i,j,hi,hj with|0,0,_,_=>rfl|0,1,_,_=>rfl)⟩, .e (u4.length),0,1, .pf ⟨(TG u2 u0 u1 u3 u4).length=u4.length+[(Mi u2 u0 u1 u3)].length,List.length_append⟩, .pf ⟨aQ (WZ u2 u0 u1 u3 u4) 2 (mh (aD aN.cell u4) u4.length (UM u2 u0 u1 u3)) (XI u2 u0 u1 u3 u4),cu _ _ _ _⟩]<| .r<| .en (.next ((TG u2 u0 u1 u3 u4),(k0 u3))) [] [(267,138)])
  (.r<| .e (.next (u4,(k0 u3)))))
  (.e (.done (.brk u4))))
  (fun u9=> .r<| .e (.next (u9,(k0 u1)))))
  (.e (.done (.brk u7))))
  (fun u8=> .r<| .e (.next (u8,(k0 u0)))))
  (.e (.done (.brk u6))))
  (fun u5=> .cl 1 (cO [(0,138)] ⟨fun h=>xR u5 h⟩) fun v0=> .r<| .a1 (u5.length=v0.length)<| .so 7 138 false u5.length v0.length 0<| .so 77 138 false u5.length v0.length 0<| .fz [138]<| .r<| .e (v0,0))))
theorem Ag (p:ay) (s_:State):dG Tryz.prog 126 (k23 p s_) [] (fun r=>(.dY [(.one (.own 0 false r.1.length)),(sI r.2)])) (fun r=>[(0,some (bR 4 1 af r.1))]) (gN p s_):=
  dR tT mX Tryz.func126 (
  .rg {fr:=[(0,7),(1,8)],fz:=[7,8]} []<| .cl 2 (bL p s_) fun r_=> .r<| .r<| .it (.r<| .im (.ad 4 9 4 1 (aD af ([]:List Bool)))<| .en (([]:List Bool),r_) [] [(9,0)])
  (.a3 ((0:Int)≤p.buses) ((1:Int)*p.buses≤281474976710656) ((p.buses:Int)≤9223372036854775807)<| .rg {an:=[(2, .arr (U9 p).length (YG p))],fr:=[(2,10)]} [0, .e ((p.buses:Int)),1,2, .pf ⟨(U9 p).length=p.buses.toNat,List.length_replicate⟩, .pf ⟨aQ p.buses.toNat 1 (fun _ j=>[(.bool false)].getD j .nilp) (YG p),nG _ _ _ _ _ (fun j hj=>(match j,hj with|0,_=>rfl))⟩]<| .cl 2 (iy p s_) fun u1=> .r<| .lp (σ:=((List Bool) × Int)) (β:=(List Bool)) ((U9 p),0) [] [] ⟨[23,24],[],fun(u4,u0)=>[(7,(vO 10 true u4.length)),(25,(vI u0))],fun(u4,u0)=>[(10,some (bR 4 1 af u4))]⟩ ⟨[],[],fun u5=>[(7,(vO 10 true u5.length))],fun u5=>[(10,some (bR 4 1 af u5))]⟩
  (fun(u4,u0)=> .r<| .it (.a1 ((0:Int)≤u0∧u0<(u1.length:Int))<| .rg {fr:=[(2,14)]} []<| .rg {fz:=[14]} []<| .lp (σ:=((List Bool) × Int)) (β:=(List Bool)) (u4,0) [] [] ⟨[9,23,24,25,30,31],[],fun(u2,u3)=>[(7,(vO 10 true u2.length)),(32,(vI u3))],fun(u2,u3)=>[(10,some (bR 4 1 af u2))]⟩ ⟨[23,24,25],[],fun u6=>[(7,(vO 10 true u6.length))],fun u6=>[(10,some (bR 4 1 af u6))]⟩
  (fun(u2,u3)=> .r<| .it (.a1 ((0:Int)≤u3∧u3<(((at' u1 u0.toNat).buses).length:Int))<| .r<| .a1 (ZW u1 u0 u3 u2)<| .rg {an:=[(7, .arr 0 (Yy u1 u0 u3 u2))]} [0, .t 0 (VZ u1 u0 u3) u2.length, .pf ⟨aQ u2.length 1 (ZV u1 u0 u3 u2) (Yy u1 u0 u3 u2),dL _ _ _ _ _ _ _ _ rfl (fun j hj=>(match j,hj with|0,_=>rfl))⟩]<| .im (.ll 10 u2 (Yx u1 u0 u3 u2))<| .r<| .e (.next (ZU u1 u0 u3 u2)))
  (.e (.done (.brk u2))))
  (fun u6=> .r<| .e (.next (u6,(k0 u0)))))
  (.e (.done (.brk u4))))
  (fun u5=> .r<| .en (u5,0) [] [(10,0)])))
theorem tZ (p:ay) (s_:State):dG Tryz.prog 56 (k23 p s_) [] (fun r=>(.dY [(.one (.own 0 false r.1.length)),(sI r.2)])) (fun r=>[(0,some (bR 133 2 ax.cell r.1))]) (jL p s_):=
  dR tT mX Tryz.func56 (
  .rg {fr:=[(0,19),(1,20)],fz:=[20]} []<| .cl 2 (cO [(0,21)] (Ag p s_)) fun r_=> .rg {fz:=[21]} []<| .r<| .it (.r<| .im (.ad 4 22 133 2 (aD ax.cell ([]:List ax)))<| .en (([]:List ax),r_.2) [] [(22,0)])
  (.r<| .r<| .im (.ad 8 39 133 2 (aD ax.cell ([]:List ax)))<| .lp (σ:=((List ax) × Int)) (β:=(List ax)) (([]:List ax),0) [] [(39,26)] ⟨[6,24,25],[],fun(u1,u0)=>[(8,(vO 26 false u1.length)),(26,(vI u0))],fun(u1,u0)=>[(26,some (bR 133 2 ax.cell u1))]⟩ ⟨[],[],fun u2=>[(8,(vO 26 false u2.length))],fun u2=>[(26,some (bR 133 2 ax.cell u2))]⟩
  (fun(u1,u0)=> .r<| .it (.a1 ((0:Int)≤u0∧u0<(p.racks.length:Int))<| .rg {fr:=[(2,35)],fz:=[35]} []<| .rg {fr:=[(0,36)]} []<| .r<| .ul 11<| .r<| .t<| .rg {an:=[(1, .vals (Yo p u0))]} [.pf ⟨(0:Int)≤0∧(0:Int)<(2:Nat),(by decide)⟩, .pf ⟨0*1+1≤(Ul p u0).length,Nat.le_of_ble_eq_true rfl⟩, .pf ⟨((Ul p u0).drop (0*1)).take 1=(Yo p u0).map .d,rfl⟩]<| .a1 (Z4 p u0 r_)<| .rg {} [0, .pf ⟨(0:Int)≤0∧(0:Int)<(2:Nat),(by decide)⟩]<| .r<| .im (.dp [6,8,11,24,25,26,31,32])<| .r<| .t<| .rg {an:=[(1, .vals (Yw p u0))]} [.pf ⟨(0:Int)≤1∧(1:Int)<(2:Nat),(by decide)⟩, .pf ⟨1*1+1≤(Ul p u0).length,Nat.le_of_ble_eq_true rfl⟩, .pf ⟨((Ul p u0).drop (1*1)).take 1=(Yw p u0).map .d,rfl⟩]<| .a1 (ZF p u0 r_)<| .rg {} [0, .pf ⟨(0:Int)≤1∧(1:Int)<(2:Nat),(by decide)⟩]<| .r<| .im (.dp [6,8,11,24,25,26,31,32])<| .r<| .f<| .a2 (ZR p u0 r_ u1) (k93 p u0 r_ u1)<| .rg {an:=[(2, .arr [(RA p u0 r_)].length (Xp p u0 r_)),(3, .arr (V8 p u0 r_ u1).length (Yq p u0 r_ u1))],fr:=[(2,37),(3,38)]} [.pf ⟨[(RA p u0 r_)].length=1,rfl⟩, .pf ⟨aQ 1 2 (ZE p u0 r_) (Xp p u0 r_),(by intro i hi j hj;match i,j,hi,hj with|0,0,_,_=>rfl|0,1,_,_=>rfl)⟩, .e (u1.length),0,1, .pf ⟨(V8 p u0 r_ u1).length=u1.length+[(RA p u0 r_)].length,List.length_append⟩, .pf ⟨aQ (YR p u0 r_ u1) 2 (Z5 p u0 r_ u1) (Yq p u0 r_ u1),cu _ _ _ _⟩]<| .r<| .en (.next (ZI p u0 r_ u1)) [] [(38,26)])
  (.e (.done (.brk u1))))
  (fun u2=> .r<| .en (u2,0) [] [(26,0)])))
theorem Aj (r_:Int) (x1:(List ax)):dG Tryz.prog 136 [(sI r_),(sD (uH [(aB none 2 ax.cell x1)] 0))] [] (fun r=>(vB r)) (fun _=>[]) (qp r_ x1):=
  dR tT mX Tryz.func136 (
  .r<| .a2 ((0:Int)≤r_∧r_<(x1.length:Int)) ((gB [((!((at' x1 r_.toNat).e0)),true)]=true→(0:Int)≤r_∧r_<(x1.length:Int)))<| .rg {} [0, .pf ⟨(0:Int)≤0∧(0:Int)<(2:Nat),(by decide)⟩,1, .pf ⟨(0:Int)≤1∧(1:Int)<(2:Nat),(by decide)⟩]<| .e (bif (!((at' x1 r_.toNat).e0))then(!((at' x1 r_.toNat).e1))else false))
section
variable (s_:(List Int)) (f_:(List ax))
abbrev XG:List SV:=[(sD (Ry s_)),(sD (.fn 136 1 (aT [(uH [(aB none 2 ax.cell f_)] 0)])))]
end
theorem qF (s_:(List Int)) (f_:(List ax)):dG Tryz.prog 205 (XG s_ f_) [] (fun r=>(vI r)) (fun _=>[]) (jb s_ f_):=
  dR tT mX Tryz.func205 (
  .r<| .r<| .lp (σ:=Int) (β:=Unit) (0) [] [] ⟨[0,1,7],[],fun t8=>[(8,(vI t8))],fun t8=>[]⟩ ⟨[],[],fun _=>[],fun _=>[]⟩
  (fun t8=> .r<| .it (.r<| .cl 5 (Aj (at' s_ t8.toNat) f_) fun r_=> .a1 ((0:Int)≤t8∧t8<(s_.length:Int))<| .rg {} [0,1]<| .it (.r<| .e (.done (.ret t8)))
  (.r<| .e (.next (k0 t8))))
  (.e (.done (.brk ()))))
  (fun _=> .r<| .e (-1)))
theorem pQ (s_:(List Int)) (f_:(List ax)):dG Tryz.prog 129 (XG s_ f_) [] (fun r=>(vB r)) (fun _=>[]) (eU s_ f_):=
  dR tT mX Tryz.func129 (
  .r<| .cl 2 (qF s_ f_) fun r_=> .r<| .e (decide (0≤r_)))
theorem BF (s_:(List Int)) (v_:Int):dG Tryz.prog 262 [(sD (Ry s_)),(sI v_)] [] (fun r=>(vI r)) (fun _=>[]) (rC s_ v_):=
  dR tT mX Tryz.func262 (
  .r<| .r<| .lp (σ:=Int) (β:=Unit) (0) [] [] ⟨[0,1,7],[],fun t8=>[(8,(vI t8))],fun t8=>[]⟩ ⟨[],[],fun _=>[],fun _=>[]⟩
  (fun t8=> .r<| .it (.r<| .a1 ((0:Int)≤t8∧t8<(s_.length:Int))<| .r<| .it (.r<| .e (.done (.ret t8)))
  (.r<| .e (.next (k0 t8))))
  (.e (.done (.brk ()))))
  (fun _=> .r<| .e (-1)))
theorem qf (s_:(List Int)) (v_:Int):dG Tryz.prog 209 [(sD (Ry s_)),(sI v_)] [] (fun r=>(vB r)) (fun _=>[]) (iK s_ v_):=
  dR tT mX Tryz.func209 (
  .r<| .cl 2 (BF s_ v_) fun r_=> .r<| .e (decide (0≤r_)))
theorem Dh (p:ay) (s_:State) (t:Task) (b:Int):dG Tryz.prog 138 [(.agg (k6 p)),(.agg (k1 s_)),(.agg (k7 t)),(sI b)] [] (fun r=>(vB r)) (fun _=>[]) (qN p s_ t b):=
  dR tT mX Tryz.func138 (
  .rg {fr:=[(0,11),(1,12),(2,13)],fz:=[12,13]} []<| .a1 ((0:Int)≤b∧b<(s_.earthed.length:Int))<| .r<| .it (.r<| .e false)
  (.r<| .lp (σ:=Int) (β:=Unit) (0) [] [] ⟨[3,4,5,6,20,21],[11],fun u1=>[(22,(vI u1))],fun u1=>[]⟩ ⟨[3,4,5,6],[11],fun _=>[],fun _=>[]⟩
  (fun u1=> .r<| .it (.a1 ((0:Int)≤u1∧u1<(p.sources.length:Int))<| .rg {fr:=[(3,17)],fz:=[17]} []<| .a1 ((gB [((decide (((at' p.sources u1.toNat).bus)=b)),true)]=true→(0:Int)≤u1∧u1<(s_.on_.length:Int)))<| .r<| .it (.r<| .e (.done (.ret false)))
  (.r<| .e (.next (k0 u1))))
  (.e (.done (.brk ()))))
  (fun _=> .r<| .lp (σ:=Int) (β:=Unit) (0) [] [] ⟨[3,5,6,40,41],[],fun u0=>[(42,(vI u0))],fun u0=>[]⟩ ⟨[],[],fun _=>[],fun _=>[]⟩
  (fun u0=> .r<| .it (.a1 (Yr p u0)<| .rg {fr:=[(3,21)],fz:=[21]} []<| .cg 20 [((bif (!decide (((at' p.links u0.toNat).a)=b))then(!decide (((at' p.links u0.toNat).b)=b))else false),false)] (qf t.crew (IntKind.wrap .i64 ((IntKind.wrap .i64 (((at' p.links u0.toNat).a)+((at' p.links u0.toNat).b))) - b))) fun r_=> .r<| .it (.r<| .e (.next (k0 u0)))
  (.a2 ((gB [((decide (((at' p.links u0.toNat).kind)=1)),false)]=true→(0:Int)≤u0∧u0<(s_.closed.length:Int))) ((gB [((bif (decide (((at' p.links u0.toNat).kind)=1))then true else(at' s_.closed u0.toNat)),false)]=true→(0:Int)≤u0∧u0<(s_.locked.length:Int)))<| .rg {} [0,1]<| .it (.r<| .e (.done (.ret false)))
  (.r<| .e (.next (k0 u0)))))
  (.e (.done (.brk ()))))
  (fun _=> .r<| .e true))))
section
variable (x3:(List Int)) (u9:(List Int)) (v0:(List aj)) (v1:(List aj)) (x2:(List Bool)) (u3:(List Bool)) (u4:(List Bool)) (u5:(List Bool)) (u6:(List Bool)) (u7:(List Bool)) (u8:(List Bool))
abbrev Xh:DV:=(uH [(Ry x3),(Ry u9),(V9 v0),(V9 v1)] 0)
abbrev xE:=(⟨x2,u3,u4,u5,u6,u7,u8⟩:State)
end
theorem Af (b:Int) (x1:Int) (u0:(List Source)) (u1:(List Link)) (u2:(List aL)) (x2:(List Bool)) (u3:(List Bool)) (u4:(List Bool)) (u5:(List Bool)) (u6:(List Bool)) (u7:(List Bool)) (u8:(List Bool)) (x3:(List Int)) (u9:(List Int)) (v0:(List aj)) (v1:(List aj)):dG Tryz.prog 137 [(sI b),(sD (k10 x1 u0 u1 u2)),(sD (Wo x2 u3 u4 u5 u6 u7 u8)),(sD (Xh x3 u9 v0 v1))] [] (fun r=>(vB r)) (fun _=>[]) (qx b x1 u0 u1 u2 x2 u3 u4 u5 u6 u7 u8 x3 u9 v0 v1):=
  dR tT mX Tryz.func137 (
  .r<| .cl 4 (Dh (⟨x1,u0,u1,u2⟩:ay) (xE x2 u3 u4 u5 u6 u7 u8) (⟨x3,u9,v0,v1⟩:Task) b) fun r_=> .r<| .e (!r_))
section
variable (s_:(List Int)) (f_:Int) (u0:(List Source)) (u1:(List Link)) (u2:(List aL)) (u3:(List Bool)) (u4:(List Bool)) (u5:(List Bool)) (u6:(List Bool)) (u7:(List Bool)) (u8:(List Bool)) (u9:(List Bool)) (v0:(List Int)) (v1:(List Int)) (v2:(List aj)) (v3:(List aj))
abbrev X8:List SV:=[(sD (Ry s_)),(sD (.fn 137 3 (aT [(k10 f_ u0 u1 u2),(Wo u3 u4 u5 u6 u7 u8 u9),(Xh v0 v1 v2 v3)])))]
end
theorem qK (s_:(List Int)) (f_:Int) (u0:(List Source)) (u1:(List Link)) (u2:(List aL)) (u3:(List Bool)) (u4:(List Bool)) (u5:(List Bool)) (u6:(List Bool)) (u7:(List Bool)) (u8:(List Bool)) (u9:(List Bool)) (v0:(List Int)) (v1:(List Int)) (v2:(List aj)) (v3:(List aj)):dG Tryz.prog 205 (X8 s_ f_ u0 u1 u2 u3 u4 u5 u6 u7 u8 u9 v0 v1 v2 v3) [] (fun r=>(vI r)) (fun _=>[]) (jk s_ f_ u0 u1 u2 u3 u4 u5 u6 u7 u8 u9 v0 v1 v2 v3):=
  dR tT mX Tryz.func205 (
  .r<| .r<| .lp (σ:=Int) (β:=Unit) (0) [] [] ⟨[0,1,7],[],fun t8=>[(8,(vI t8))],fun t8=>[]⟩ ⟨[],[],fun _=>[],fun _=>[]⟩
  (fun t8=> .r<| .it (.r<| .cl 5 (Af (at' s_ t8.toNat) f_ u0 u1 u2 u3 u4 u5 u6 u7 u8 u9 v0 v1 v2 v3) fun r_=> .a1 ((0:Int)≤t8∧t8<(s_.length:Int))<| .rg {} [0,1]<| .it (.r<| .e (.done (.ret t8)))
  (.r<| .e (.next (k0 t8))))
  (.e (.done (.brk ()))))
  (fun _=> .r<| .e (-1)))
theorem pV (s_:(List Int)) (f_:Int) (u0:(List Source)) (u1:(List Link)) (u2:(List aL)) (u3:(List Bool)) (u4:(List Bool)) (u5:(List Bool)) (u6:(List Bool)) (u7:(List Bool)) (u8:(List Bool)) (u9:(List Bool)) (v0:(List Int)) (v1:(List Int)) (v2:(List aj)) (v3:(List aj)):dG Tryz.prog 129 (X8 s_ f_ u0 u1 u2 u3 u4 u5 u6 u7 u8 u9 v0 v1 v2 v3) [] (fun r=>(vB r)) (fun _=>[]) (eT s_ f_ u0 u1 u2 u3 u4 u5 u6 u7 u8 u9 v0 v1 v2 v3):=
  dR tT mX Tryz.func129 (
  .r<| .cl 2 (qK s_ f_ u0 u1 u2 u3 u4 u5 u6 u7 u8 u9 v0 v1 v2 v3) fun r_=> .r<| .e (decide (0≤r_)))
section
variable (p:ay) (s_:State) (t:Task)
abbrev XM:List SV:=[(.agg (k6 p)),(.agg (k1 s_)),(.agg (k7 t))]
end
theorem vE (p:ay) (s_:State) (t:Task):dG Tryz.prog 62 (XM p s_ t) [] (fun r=>(vI r)) (fun _=>[]) (mH p s_ t):=
  dR tT mX Tryz.func62 (
  .rg {fr:=[(0,5),(1,6),(2,7)],fz:=[5,6,7]} []<| .cl 2 (wS p s_) fun r_=> .r<| .r<| .lp (σ:=Int) (β:=Unit) (0) [] [] ⟨[3,4,5,21,22],[],fun u0=>[(23,(vI u0))],fun u0=>[]⟩ ⟨[3,4,5],[],fun _=>[],fun _=>[]⟩
  (fun u0=> .r<| .it (.a1 ((0:Int)≤u0∧u0<(r_.1.length:Int))<| .r<| .a1 ((gB [((at' r_.1 u0.toNat),true)]=true→(0:Int)≤u0∧u0<(s_.earthed.length:Int)))<| .r<| .it (.r<| .e (.done (.ret 40)))
  (.r<| .e (.next (k0 u0))))
  (.e (.done (.brk ()))))
  (fun _=> .cl 2 (zX p s_) fun u2=> .r<| .r<| .it (.r<| .e 41)
  (.cl 2 (cO [(0,8)] (tZ p s_)) fun u1=> .rg {fr:=[(6,9)],fz:=[8]} []<| .fz [9]<| .cl 3 (pQ t.fed u1.1) fun u3=> .r<| .it (.r<| .e 42)
  (.cl 3 (pV t.crew p.buses p.sources p.links p.racks s_.closed s_.locked s_.badLink s_.on_ s_.badSource s_.earthed s_.badBus t.fed t.crew t.allowed t.goal) fun u4=> .r<| .it (.r<| .e 45)
  (.r<| .e 0)))))
theorem vk (p:ay) (s_:State) (t:Task):dG Tryz.prog 13 (XM p s_ t) [] (fun r=>(vI r)) (fun _=>[]) (mD p s_ t):=
  dR tT mX Tryz.func13 (
  .rg {fr:=[(0,3),(1,4),(2,5)],fz:=[3,4,5]} []<| .cl 2 (bL p s_) fun r_=> .r<| .r<| .it (.r<| .e r_)
  (.cl 2 (Bv p t) fun u1=> .r<| .it (.r<| .e 1)
  (.cl 3 (vE p s_ t) fun u0=> .r<| .e u0)))
theorem uy (s_:(List Bool)) (u0:Bool):dG Tryz.prog 149 [(sD (aB (some u0) 1 af s_))] [] (fun r=>(vD (aB none 1 af r))) (fun _=>[]) (lu s_ u0):=
  dR tT mX Tryz.func149 (
  .r<| .r<| .it (.r<| .e ([]:List Bool))
  (.a2 ((([]:List Bool).length+s_.length)*1≤140737488355328) (([]:List Bool).length+s_.length≤4611686018427387904)<| .rg {an:=[(0, .arr ([]:List Bool).length (aD af ([]:List Bool))),(2, .arr (([]:List Bool)++s_).length (aD af (([]:List Bool)++s_)))],fr:=[(0,2),(2,3)],fz:=[3]} [.pf ⟨([]:List Bool).length=0,rfl⟩, .pf ⟨aQ 0 1 (uD 1 []) (aD af ([]:List Bool)),(fun i hi=>absurd hi (Nat.not_lt_zero i))⟩, .e (([]:List Bool).length),0,1, .pf ⟨(([]:List Bool)++s_).length=([]:List Bool).length+s_.length,List.length_append⟩, .pf ⟨aQ (([]:List Bool).length+s_.length) 1 (mh (aD af ([]:List Bool)) ([]:List Bool).length (aD af s_)) (aD af (([]:List Bool)++s_)),cu _ _ _ _⟩]<| .e (([]:List Bool)++s_)))
theorem aY (s:(List Bool)) {r:(List Bool)} (h:ai s=some r):Fn Tryz.prog 149 [(sD (aB none 1 af s))] [] (vD (aB none 1 af r)) []:=by
 refine Fn.nn (uy s true h) fun hl=> ?_
 have hs:s=[]:=List.eq_nil_of_length_eq_zero hl
 subst hs
 exact uy [] false (by rw [←h];kernel_rfl)
end
end Sg
