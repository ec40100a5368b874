import Derived.Test.YtbjhjmcpfmhgdaaGreatWnGm
import Derived.Test.YtbjhjmcpfmhgdaaGreatProg
import Derived.Test.YtbjhjmcpfmhgdaaGreatWnLf
set_option linter.all false
namespace Sg
open Go Go.Proofs
set_option maxRecDepth 20000
noncomputable section
noncomputable def TT:List (Nat × TI):=[(1,⟨Tryz.t1.desc,Tryz.t1.size,Tryz.t1.bytes,zl Tryz.t1,false⟩),
  (3,⟨Tryz.t3.desc,Tryz.t3.size,Tryz.t3.bytes,zl Tryz.t3,false⟩),
  (4,⟨Tryz.t4.desc,Tryz.t4.size,Tryz.t4.bytes,zl Tryz.t4,false⟩),
  (5,⟨Tryz.t5.desc,Tryz.t5.size,Tryz.t5.bytes,zl Tryz.t5,false⟩),
  (9,⟨Tryz.t9.desc,Tryz.t9.size,Tryz.t9.bytes,zl Tryz.t9,false⟩),
  (22,⟨Tryz.t22.desc,Tryz.t22.size,Tryz.t22.bytes,zl Tryz.t22,false⟩),
  (23,⟨Tryz.t23.desc,Tryz.t23.size,Tryz.t23.bytes,zl Tryz.t23,false⟩),
  (24,⟨Tryz.t24.desc,Tryz.t24.size,Tryz.t24.bytes,zl Tryz.t24,false⟩),
  (26,⟨Tryz.t25.desc,Tryz.t26.size,Tryz.t26.bytes,zl Tryz.t26,false⟩),
  (27,⟨Tryz.t27.desc,Tryz.t27.size,Tryz.t27.bytes,zl Tryz.t27,false⟩),
  (29,⟨Tryz.t28.desc,Tryz.t29.size,Tryz.t29.bytes,zl Tryz.t29,false⟩),
  (32,⟨Tryz.t3.desc,Tryz.t32.size,Tryz.t32.bytes,zl Tryz.t32,false⟩),
  (33,⟨Tryz.t33.desc,Tryz.t33.size,Tryz.t33.bytes,zl Tryz.t33,false⟩),
  (35,⟨Tryz.t34.desc,Tryz.t35.size,Tryz.t35.bytes,zl Tryz.t35,false⟩),
  (36,⟨Tryz.t3.desc,Tryz.t36.size,Tryz.t36.bytes,zl Tryz.t36,false⟩),
  (38,⟨Tryz.t37.desc,Tryz.t38.size,Tryz.t38.bytes,zl Tryz.t38,true⟩),
  (39,⟨Tryz.t39.desc,Tryz.t39.size,Tryz.t39.bytes,zl Tryz.t39,false⟩),
  (62,⟨Tryz.t62.desc,Tryz.t62.size,Tryz.t62.bytes,zl Tryz.t62,false⟩),
  (63,⟨Tryz.t63.desc,Tryz.t63.size,Tryz.t63.bytes,zl Tryz.t63,false⟩),
  (65,⟨Tryz.t64.desc,Tryz.t65.size,Tryz.t65.bytes,zl Tryz.t65,false⟩),
  (70,⟨Tryz.t70.desc,Tryz.t70.size,Tryz.t70.bytes,zl Tryz.t70,false⟩),
  (71,⟨Tryz.t71.desc,Tryz.t71.size,Tryz.t71.bytes,zl Tryz.t71,false⟩),
  (73,⟨Tryz.t72.desc,Tryz.t73.size,Tryz.t73.bytes,zl Tryz.t73,false⟩),
  (76,⟨Tryz.t3.desc,Tryz.t76.size,Tryz.t76.bytes,zl Tryz.t76,false⟩),
  (78,⟨Tryz.t77.desc,Tryz.t78.size,Tryz.t78.bytes,zl Tryz.t78,true⟩),
  (79,⟨Tryz.t79.desc,Tryz.t79.size,Tryz.t79.bytes,zl Tryz.t79,false⟩),
  (81,⟨Tryz.t80.desc,Tryz.t81.size,Tryz.t81.bytes,zl Tryz.t81,false⟩),
  (82,⟨Tryz.t82.desc,Tryz.t82.size,Tryz.t82.bytes,zl Tryz.t82,false⟩),
  (130,⟨Tryz.t130.desc,Tryz.t130.size,Tryz.t130.bytes,zl Tryz.t130,false⟩),
  (133,⟨Tryz.t133.desc,Tryz.t133.size,Tryz.t133.bytes,zl Tryz.t133,true⟩),
  (145,⟨Tryz.t145.desc,Tryz.t145.size,Tryz.t145.bytes,zl Tryz.t145,true⟩),
  (147,⟨Tryz.t146.desc,Tryz.t147.size,Tryz.t147.bytes,zl Tryz.t147,true⟩),
  (155,⟨Tryz.t155.desc,Tryz.t155.size,Tryz.t155.bytes,zl Tryz.t155,false⟩),
  (185,⟨Tryz.t80.desc,Tryz.t185.size,Tryz.t185.bytes,zl Tryz.t185,false⟩),
  (190,⟨Tryz.t189.desc,Tryz.t190.size,Tryz.t190.bytes,zl Tryz.t190,true⟩),
  (191,⟨Tryz.t189.desc,Tryz.t191.size,Tryz.t191.bytes,zl Tryz.t191,true⟩),
  (196,⟨Tryz.t196.desc,Tryz.t196.size,Tryz.t196.bytes,zl Tryz.t196,false⟩),
  (198,⟨Tryz.t5.desc,Tryz.t198.size,Tryz.t198.bytes,zl Tryz.t198,false⟩),
  (202,⟨Tryz.t202.desc,Tryz.t202.size,Tryz.t202.bytes,zl Tryz.t202,true⟩),
  (209,⟨Tryz.t209.desc,Tryz.t209.size,Tryz.t209.bytes,zl Tryz.t209,true⟩),
  (210,⟨Tryz.t210.desc,Tryz.t210.size,Tryz.t210.bytes,zl Tryz.t210,false⟩),
  (218,⟨Tryz.t218.desc,Tryz.t218.size,Tryz.t218.bytes,zl Tryz.t218,false⟩),
  (229,⟨Tryz.t229.desc,Tryz.t229.size,Tryz.t229.bytes,zl Tryz.t229,false⟩),
  (231,⟨Tryz.t231.desc,Tryz.t231.size,Tryz.t231.bytes,zl Tryz.t231,false⟩),
  (232,⟨Tryz.t232.desc,Tryz.t232.size,Tryz.t232.bytes,zl Tryz.t232,false⟩),
  (247,⟨Tryz.t247.desc,Tryz.t247.size,Tryz.t247.bytes,zl Tryz.t247,false⟩),
  (248,⟨Tryz.t248.desc,Tryz.t248.size,Tryz.t248.bytes,zl Tryz.t248,false⟩),
  (265,⟨Tryz.t265.desc,Tryz.t265.size,Tryz.t265.bytes,zl Tryz.t265,false⟩),
  (266,⟨Tryz.t266.desc,Tryz.t266.size,Tryz.t266.bytes,zl Tryz.t266,false⟩),
  (272,⟨Tryz.t272.desc,Tryz.t272.size,Tryz.t272.bytes,zl Tryz.t272,false⟩),
  (282,⟨Tryz.t281.desc,Tryz.t282.size,Tryz.t282.bytes,zl Tryz.t282,true⟩),
  (284,⟨Tryz.t284.desc,Tryz.t284.size,Tryz.t284.bytes,zl Tryz.t284,false⟩),
  (287,⟨Tryz.t286.desc,Tryz.t287.size,Tryz.t287.bytes,zl Tryz.t287,false⟩),
  (290,⟨Tryz.t290.desc,Tryz.t290.size,Tryz.t290.bytes,zl Tryz.t290,false⟩),
  (293,⟨Tryz.t293.desc,Tryz.t293.size,Tryz.t293.bytes,zl Tryz.t293,false⟩),
  (296,⟨Tryz.t296.desc,Tryz.t296.size,Tryz.t296.bytes,zl Tryz.t296,false⟩),
  (313,⟨Tryz.t313.desc,Tryz.t313.size,Tryz.t313.bytes,zl Tryz.t313,false⟩),
  (318,⟨Tryz.t318.desc,Tryz.t318.size,Tryz.t318.bytes,zl Tryz.t318,false⟩),
  (329,⟨Tryz.t329.desc,Tryz.t329.size,Tryz.t329.bytes,zl Tryz.t329,false⟩),
  (331,⟨Tryz.t331.desc,Tryz.t331.size,Tryz.t331.bytes,zl Tryz.t331,false⟩),
  (337,⟨Tryz.t336.desc,Tryz.t337.size,Tryz.t337.bytes,zl Tryz.t337,false⟩)]
theorem tT:oh Tryz.prog TT:=⟨dY (by kernel_rfl) (by kernel_rfl) (by kernel_rfl),⟨fU,bH (by kernel_rfl)⟩,dY (by kernel_rfl) (by kernel_rfl) (by kernel_rfl),⟨fU,bH (by kernel_rfl)⟩,dY (by kernel_rfl) (by kernel_rfl) (by kernel_rfl),⟨fU,bH (by kernel_rfl)⟩,dY (by kernel_rfl) (by kernel_rfl) (by kernel_rfl),⟨fU,bH (by kernel_rfl)⟩,dY (by kernel_rfl) (by kernel_rfl) (by kernel_rfl),⟨fU,bH (by kernel_rfl)⟩,dY (by kernel_rfl) (by kernel_rfl) (by kernel_rfl),⟨fU,bH (by kernel_rfl)⟩,dY (by kernel_rfl) (by kernel_rfl) (by kernel_rfl),⟨fU,bH (by kernel_rfl)⟩,dY (by kernel_rfl) (by kernel_rfl) (by kernel_rfl),⟨fU,bH (by kernel_rfl)⟩,dY (by kernel_rfl) (by kernel_rfl) (by kernel_rfl),⟨fU,bH (by kernel_rfl)⟩,dY (by kernel_rfl) (by kernel_rfl) (by kernel_rfl),⟨fU,bH (by kernel_rfl)⟩,dY (by kernel_rfl) (by kernel_rfl) (by kernel_rfl),⟨fU,bH (by kernel_rfl)⟩,dY (by kernel_rfl) (by kernel_rfl) (by kernel_rfl),⟨fU,bH (by kernel_rfl)⟩,dY (by kernel_rfl) (by kernel_rfl) (by kernel_rfl),⟨fU,bH (by kernel_rfl)⟩,dY (by kernel_rfl) (by kernel_rfl) (by kernel_rfl),⟨fU,bH (by kernel_rfl)⟩,dY (by kernel_rfl) (by kernel_rfl) (by kernel_rfl),⟨fU,bH (by kernel_rfl)⟩,dY (by kernel_rfl) (by kernel_rfl) (by kernel_rfl),⟨fun _=> ⟨by kernel_rfl,by kernel_rfl⟩,bH (by kernel_rfl)⟩,dY (by kernel_rfl) (by kernel_rfl) (by kernel_rfl),⟨fU,bH (by kernel_rfl)⟩,dY (by kernel_rfl) (by kernel_rfl) (by kernel_rfl),⟨fU,bH (by kernel_rfl)⟩,dY (by kernel_rfl) (by kernel_rfl) (by kernel_rfl),⟨fU,bH (by kernel_rfl)⟩,dY (by kernel_rfl) (by kernel_rfl) (by kernel_rfl),⟨fU,bH (by kernel_rfl)⟩,dY (by kernel_rfl) (by kernel_rfl) (by kernel_rfl),⟨fU,bH (by kernel_rfl)⟩,dY (by kernel_rfl) (by kernel_rfl) (by kernel_rfl),⟨fU,bH (by kernel_rfl)⟩,dY (by kernel_rfl) (by kernel_rfl) (by kernel_rfl),⟨fU,bH (by kernel_rfl)⟩,dY (by kernel_rfl) (by kernel_rfl) (by kernel_rfl),⟨fU,bH (by kernel_rfl)⟩,dY (by kernel_rfl) (by kernel_rfl) (by kernel_rfl),⟨fun _=> ⟨by kernel_rfl,by kernel_rfl⟩,bH (by kernel_rfl)⟩,dY (by kernel_rfl) (by kernel_rfl) (by kernel_rfl),⟨fU,bH (by kernel_rfl)⟩,dY (by kernel_rfl) (by kernel_rfl) (by kernel_rfl),⟨fU,bH (by kernel_rfl)⟩,dY (by kernel_rfl) (by kernel_rfl) (by kernel_rfl),⟨fU,bH (by kernel_rfl)⟩,dY (by kernel_rfl) (by kernel_rfl) (by kernel_rfl),⟨fU,bH (by kernel_rfl)⟩,dY (by kernel_rfl) (by kernel_rfl) (by kernel_rfl),⟨fun _=> ⟨by kernel_rfl,by kernel_rfl⟩,bH (by kernel_rfl)⟩,dY (by kernel_rfl) (by kernel_rfl) (by kernel_rfl),⟨fun _=> ⟨by kernel_rfl,by kernel_rfl⟩,bH (by kernel_rfl)⟩,dY (by kernel_rfl) (by kernel_rfl) (by kernel_rfl),⟨fun _=> ⟨by kernel_rfl,by kernel_rfl⟩,bH (by kernel_rfl)⟩,dY (by kernel_rfl) (by kernel_rfl) (by kernel_rfl),⟨fU,bH (by kernel_rfl)⟩,dY (by kernel_rfl) (by kernel_rfl) (by kernel_rfl),⟨fU,bH (by kernel_rfl)⟩,dY (by kernel_rfl) (by kernel_rfl) (by kernel_rfl),⟨fun _=> ⟨by kernel_rfl,by kernel_rfl⟩,bH (by kernel_rfl)⟩,dY (by kernel_rfl) (by kernel_rfl) (by kernel_rfl),⟨fun _=> ⟨by kernel_rfl,by kernel_rfl⟩,bH (by kernel_rfl)⟩,dY (by kernel_rfl) (by kernel_rfl) (by kernel_rfl),⟨fU,bH (by kernel_rfl)⟩,dY (by kernel_rfl) (by kernel_rfl) (by kernel_rfl),⟨fU,bH (by kernel_rfl)⟩,dY (by kernel_rfl) (by kernel_rfl) (by kernel_rfl),⟨fun _=> ⟨by kernel_rfl,by kernel_rfl⟩,bH (by kernel_rfl)⟩,dY (by kernel_rfl) (by kernel_rfl) (by kernel_rfl),⟨fun _=> ⟨by kernel_rfl,by kernel_rfl⟩,bH (by kernel_rfl)⟩,dY (by kernel_rfl) (by kernel_rfl) (by kernel_rfl),⟨fU,bH (by kernel_rfl)⟩,dY (by kernel_rfl) (by kernel_rfl) (by kernel_rfl),⟨fU,bH (by kernel_rfl)⟩,dY (by kernel_rfl) (by kernel_rfl) (by kernel_rfl),⟨fU,bH (by kernel_rfl)⟩,dY (by kernel_rfl) (by kernel_rfl) (by kernel_rfl),⟨fU,bH (by kernel_rfl)⟩,dY (by kernel_rfl) (by kernel_rfl) (by kernel_rfl),⟨fU,bH (by kernel_rfl)⟩,dY (by kernel_rfl) (by kernel_rfl) (by kernel_rfl),⟨fU,bH (by kernel_rfl)⟩,dY (by kernel_rfl) (by kernel_rfl) (by kernel_rfl),⟨fU,bH (by kernel_rfl)⟩,dY (by kernel_rfl) (by kernel_rfl) (by kernel_rfl),⟨fU,bH (by kernel_rfl)⟩,dY (by kernel_rfl) (by kernel_rfl) (by kernel_rfl),⟨fU,bH (by kernel_rfl)⟩,dY (by kernel_rfl) (by kernel_rfl) (by kernel_rfl),⟨fU,bH (by kernel_rfl)⟩,dY (by kernel_rfl) (by kernel_rfl) (by kernel_rfl),⟨fun _=> ⟨by kernel_rfl,by kernel_rfl⟩,bH (by kernel_rfl)⟩,dY (by kernel_rfl) (by kernel_rfl) (by kernel_rfl),⟨fU,bH (by kernel_rfl)⟩,dY (by kernel_rfl) (by kernel_rfl) (by kernel_rfl),⟨fU,bH (by kernel_rfl)⟩,dY (by kernel_rfl) (by kernel_rfl) (by kernel_rfl),⟨fU,bH (by kernel_rfl)⟩,dY (by kernel_rfl) (by kernel_rfl) (by kernel_rfl),⟨fU,bH (by kernel_rfl)⟩,dY (by kernel_rfl) (by kernel_rfl) (by kernel_rfl),⟨fU,bH (by kernel_rfl)⟩,dY (by kernel_rfl) (by kernel_rfl) (by kernel_rfl),⟨fU,bH (by kernel_rfl)⟩,dY (by kernel_rfl) (by kernel_rfl) (by kernel_rfl),⟨fU,bH (by kernel_rfl)⟩,dY (by kernel_rfl) (by kernel_rfl) (by kernel_rfl),⟨fU,bH (by kernel_rfl)⟩,dY (by kernel_rfl) (by kernel_rfl) (by kernel_rfl),⟨fU,bH (by kernel_rfl)⟩,dY (by kernel_rfl) (by kernel_rfl) (by kernel_rfl),⟨fU,bH (by kernel_rfl)⟩,trivial⟩
theorem mX:Tryz.prog.follows .mixedOrders=true:=by kernel_rfl
def IL:Go.Shelf.Ren:=⟨fun|6=>207|14=>261|15=>176|20=>288|21=>289|22=>290|23=>291|24=>292|25=>293|26=>294|27=>295|28=>241|29=>242|46=>299|47=>277|48=>278|49=>300|50=>301|57=>302|n=>n,fun|0=>0|3=>3|4=>4|5=>5|9=>9|22=>155|24=>145|25=>301|39=>272|45=>321|46=>322|50=>326|53=>329|55=>331|66=>357|70=>361|76=>374|77=>375|n=>n,fun n=>n⟩
theorem QF:Go.Proofs.SlLaysF0.n6 Tryz.prog IL:=⟨by kernel_rfl,⟨Tryz.f207.name,by kernel_rfl,Tryz.func207.trans (congrArg some (by kernel_rfl))⟩,⟨Tryz.f261.name,by kernel_rfl,Tryz.func261.trans (congrArg some (by kernel_rfl))⟩,Tryz.func176.trans (congrArg some (by kernel_rfl)),⟨Tryz.f288.name,by kernel_rfl,Tryz.func288.trans (congrArg some (by kernel_rfl))⟩,⟨Tryz.f289.name,by kernel_rfl,Tryz.func289.trans (congrArg some (by kernel_rfl))⟩,⟨Tryz.f290.name,by kernel_rfl,Tryz.func290.trans (congrArg some (by kernel_rfl))⟩,⟨Tryz.f291.name,by kernel_rfl,Tryz.func291.trans (congrArg some (by kernel_rfl))⟩,⟨Tryz.f292.name,by kernel_rfl,Tryz.func292.trans (congrArg some (by kernel_rfl))⟩,⟨Tryz.f293.name,by kernel_rfl,Tryz.func293.trans (congrArg some (by kernel_rfl))⟩,⟨Tryz.f294.name,by kernel_rfl,Tryz.func294.trans (congrArg some (by kernel_rfl))⟩,⟨Tryz.f295.name,by kernel_rfl,Tryz.func295.trans (congrArg some (by kernel_rfl))⟩,Tryz.func241.trans (congrArg some (by kernel_rfl)),Tryz.func242.trans (congrArg some (by kernel_rfl)),⟨Tryz.f299.name,by kernel_rfl,Tryz.func299.trans (congrArg some (by kernel_rfl))⟩,Tryz.func277.trans (congrArg some (by kernel_rfl)),Tryz.func278.trans (congrArg some (by kernel_rfl)),⟨Tryz.f300.name,by kernel_rfl,Tryz.func300.trans (congrArg some (by kernel_rfl))⟩,⟨Tryz.f301.name,by kernel_rfl,Tryz.func301.trans (congrArg some (by kernel_rfl))⟩,⟨Tryz.f302.name,by kernel_rfl,Tryz.func302.trans (congrArg some (by kernel_rfl))⟩,Tryz.underlying0,Tryz.isAgg0,Tryz.sizeOf0,Tryz.zeroValue0,Tryz.underlying3,Tryz.isAgg3,Tryz.sizeOf3,Tryz.zeroValue3,Tryz.underlying4,Tryz.isAgg4,Tryz.sizeOf4,Tryz.zeroValue4,Tryz.underlying5,Tryz.isAgg5,Tryz.sizeOf5,Tryz.zeroValue5,Tryz.underlying9,Tryz.isAgg9,Tryz.sizeOf9,Tryz.zeroValue9,Tryz.underlying155,Tryz.isAgg155,Tryz.sizeOf155,Tryz.zeroValue155,Tryz.underlying301,Tryz.isAgg301,Tryz.sizeOf301,Tryz.zeroValue301,Tryz.underlying272,Tryz.isAgg272,Tryz.sizeOf272,Tryz.zeroValue272,Tryz.underlying321,Tryz.isAgg321,Tryz.sizeOf321,Tryz.zeroValue321,Tryz.underlying322,Tryz.isAgg322,Tryz.sizeOf322,Tryz.zeroValue322,Tryz.underlying326,Tryz.isAgg326,Tryz.sizeOf326,Tryz.zeroValue326,Tryz.underlying329,Tryz.isAgg329,Tryz.sizeOf329,Tryz.zeroValue329,Tryz.underlying331,Tryz.isAgg331,Tryz.sizeOf331,Tryz.zeroValue331,Tryz.underlying357,Tryz.isAgg357,Tryz.sizeOf357,Tryz.zeroValue357,Tryz.underlying361,Tryz.isAgg361,Tryz.sizeOf361,Tryz.zeroValue361,Tryz.underlying374,Tryz.isAgg374,Tryz.sizeOf374,Tryz.zeroValue374,Tryz.underlying375,Tryz.isAgg375,Tryz.sizeOf375,Tryz.zeroValue375⟩
theorem Uj (w:World):(isAgg (IL.t 24)).run Tryz.prog w= .ok true w:=Tryz.isAgg145 w
theorem QD (w:World):(Go.sizeOf (IL.t 24)).run Tryz.prog w= .ok 2 w:=Tryz.sizeOf145 w
def Pq:Go.Shelf.Ren:=⟨fun|6=>96|14=>175|15=>176|20=>233|21=>234|22=>235|23=>236|24=>237|25=>238|26=>239|27=>240|28=>241|29=>242|46=>276|47=>277|48=>278|49=>279|50=>280|57=>298|n=>n,fun|0=>0|3=>3|4=>4|5=>5|9=>9|22=>82|24=>39|25=>206|39=>272|45=>321|46=>322|50=>326|53=>329|55=>331|66=>357|70=>361|76=>374|77=>375|n=>n,fun n=>n⟩
theorem Od:Go.Proofs.SlLaysF.n6 Tryz.prog Pq:=⟨by kernel_rfl,⟨Tryz.f96.name,by kernel_rfl,Tryz.func96.trans (congrArg some (by kernel_rfl))⟩,⟨Tryz.f175.name,by kernel_rfl,Tryz.func175.trans (congrArg some (by kernel_rfl))⟩,Tryz.func176.trans (congrArg some (by kernel_rfl)),⟨Tryz.f233.name,by kernel_rfl,Tryz.func233.trans (congrArg some (by kernel_rfl))⟩,⟨Tryz.f234.name,by kernel_rfl,Tryz.func234.trans (congrArg some (by kernel_rfl))⟩,⟨Tryz.f235.name,by kernel_rfl,Tryz.func235.trans (congrArg some (by kernel_rfl))⟩,⟨Tryz.f236.name,by kernel_rfl,Tryz.func236.trans (congrArg some (by kernel_rfl))⟩,⟨Tryz.f237.name,by kernel_rfl,Tryz.func237.trans (congrArg some (by kernel_rfl))⟩,⟨Tryz.f238.name,by kernel_rfl,Tryz.func238.trans (congrArg some (by kernel_rfl))⟩,⟨Tryz.f239.name,by kernel_rfl,Tryz.func239.trans (congrArg some (by kernel_rfl))⟩,⟨Tryz.f240.name,by kernel_rfl,Tryz.func240.trans (congrArg some (by kernel_rfl))⟩,Tryz.func241.trans (congrArg some (by kernel_rfl)),Tryz.func242.trans (congrArg some (by kernel_rfl)),⟨Tryz.f276.name,by kernel_rfl,Tryz.func276.trans (congrArg some (by kernel_rfl))⟩,Tryz.func277.trans (congrArg some (by kernel_rfl)),Tryz.func278.trans (congrArg some (by kernel_rfl)),⟨Tryz.f279.name,by kernel_rfl,Tryz.func279.trans (congrArg some (by kernel_rfl))⟩,⟨Tryz.f280.name,by kernel_rfl,Tryz.func280.trans (congrArg some (by kernel_rfl))⟩,⟨Tryz.f298.name,by kernel_rfl,Tryz.func298.trans (congrArg some (by kernel_rfl))⟩,Tryz.underlying0,Tryz.isAgg0,Tryz.sizeOf0,Tryz.zeroValue0,Tryz.underlying3,Tryz.isAgg3,Tryz.sizeOf3,Tryz.zeroValue3,Tryz.underlying4,Tryz.isAgg4,Tryz.sizeOf4,Tryz.zeroValue4,Tryz.underlying5,Tryz.isAgg5,Tryz.sizeOf5,Tryz.zeroValue5,Tryz.underlying9,Tryz.isAgg9,Tryz.sizeOf9,Tryz.zeroValue9,Tryz.underlying82,Tryz.isAgg82,Tryz.sizeOf82,Tryz.zeroValue82,Tryz.isAgg39,Tryz.sizeOf39,Tryz.underlying206,Tryz.isAgg206,Tryz.sizeOf206,Tryz.zeroValue206,Tryz.underlying272,Tryz.isAgg272,Tryz.sizeOf272,Tryz.zeroValue272,Tryz.underlying321,Tryz.isAgg321,Tryz.sizeOf321,Tryz.zeroValue321,Tryz.underlying322,Tryz.isAgg322,Tryz.sizeOf322,Tryz.zeroValue322,Tryz.underlying326,Tryz.isAgg326,Tryz.sizeOf326,Tryz.zeroValue326,Tryz.underlying329,Tryz.isAgg329,Tryz.sizeOf329,Tryz.zeroValue329,Tryz.underlying331,Tryz.isAgg331,Tryz.sizeOf331,Tryz.zeroValue331,Tryz.underlying357,Tryz.isAgg357,Tryz.sizeOf357,Tryz.zeroValue357,Tryz.underlying361,Tryz.isAgg361,Tryz.sizeOf361,Tryz.zeroValue361,Tryz.underlying374,Tryz.isAgg374,Tryz.sizeOf374,Tryz.zeroValue374,Tryz.underlying375,Tryz.isAgg375,Tryz.sizeOf375,Tryz.zeroValue375⟩
theorem aK (n:Int) (u0:Int) (u1:Int):dF Tryz.prog 198 [(sI n),(sI u0),(sI u1)] [] (fun r=>(vB r)) (fun _=>[]) (aN n u0 u1):=
  dZ tT mX Tryz.func198 (
  .r<| .r<| .e (bif (decide (u0≤n))then(decide (n≤u1))else false))
section
variable (p:aC)
abbrev k1:List CV:=[(cI p.buses),(.d (aQ none 5 Source.cell p.sources)),(.d (aQ none 6 Link.cell p.links)),(.d (aQ none 4 aM.cell p.racks))]
abbrev k0:List SV:=[(.agg (k1 p))]
end
theorem AB (p:aC):dF Tryz.prog 200 (k0 p) [] (fun r=>(vD (.fn 253 1 (pO [(yP [(.int .i64 r.1),(aQ none 5 Source.cell r.2.1),(aQ none 6 Link.cell r.2.2.1),(aQ none 4 aM.cell r.2.2.2)] 0)])))) (fun _=>[]) (rA p):=
  dZ tT mX Tryz.func200 (
  .rg {fr:=[(0,1)],fz:=[1]} []<| .r<| .e (p.buses,p.sources,p.links,p.racks))
theorem Dz (p:aC):dF Tryz.prog 202 (k0 p) [] (fun r=>(vD (.fn 256 1 (pO [(yP [(.int .i64 r.1),(aQ none 5 Source.cell r.2.1),(aQ none 6 Link.cell r.2.2.1),(aQ none 4 aM.cell r.2.2.2)] 0)])))) (fun _=>[]) (vF p):=
  dZ tT mX Tryz.func202 (
  .rg {fr:=[(0,1)],fz:=[1]} []<| .r<| .e (p.buses,p.sources,p.links,p.racks))
theorem DC (p:aC):dF Tryz.prog 204 (k0 p) [] (fun r=>(vD (.fn 259 1 (pO [(yP [(.int .i64 r.1),(aQ none 5 Source.cell r.2.1),(aQ none 6 Link.cell r.2.2.1),(aQ none 4 aM.cell r.2.2.2)] 0)])))) (fun _=>[]) (vK p):=
  dZ tT mX Tryz.func204 (
  .rg {fr:=[(0,1)],fz:=[1]} []<| .r<| .e (p.buses,p.sources,p.links,p.racks))
section
variable (u2:(List Source)) (x1:Int) (u3:(List Link)) (u4:(List aM))
abbrev k3:DV:=(aQ none 5 Source.cell u2)
abbrev k2:DV:=(yP [(.int .i64 x1),(k3 u2),(aQ none 6 Link.cell u3),(aQ none 4 aM.cell u4)] 0)
abbrev k4:=(IntKind.wrap .i64 (x1 - 1))
end
theorem yZ (x:Source) (x1:Int) (u2:(List Source)) (u3:(List Link)) (u4:(List aM)):dF Tryz.prog 253 [(.agg [(cI x.bus),(cI x.kind),(cI x.power),(cI x.sync),(cI x.ohm)]),(sD (k2 u2 x1 u3 u4))] [] (fun r=>(vB r)) (fun _=>[]) (kW x x1 u2 u3 u4):=
  dZ tT mX Tryz.func253 (
  .rg {fr:=[(0,1)],fz:=[1]} []<| .cl 5 (aK x.bus 0 (k4 x1)) fun r_=> .cg 9 [(r_,true)] (aK x.kind 1 3) fun u0=> .cg 14 [((bif r_ then u0 else false),true)] (aK x.power 1 100000) fun u1=> .cg 19 [((bif (bif r_ then u0 else false)then u1 else false),true)] (aK x.sync 0 8) fun u5=> .cg 24 [((bif (bif (bif r_ then u0 else false)then u1 else false)then u5 else false),true)] (aK x.ohm 10 100000) fun u6=> .r<| .e (bif (bif (bif (bif r_ then u0 else false)then u1 else false)then u5 else false)then u6 else false))
section
variable (x1:Int) (u0:(List Source)) (u1:(List Link)) (u2:(List aM))
abbrev k6:=(pO [(k2 u0 x1 u1 u2)])
abbrev k5:DV:=(yP [(.fn 253 1 (k6 x1 u0 u1 u2))] 0)
end
theorem BG (x:Source) (x1:Int) (u0:(List Source)) (u1:(List Link)) (u2:(List aM)):dF Tryz.prog 252 [(.agg [(cI x.bus),(cI x.kind),(cI x.power),(cI x.sync),(cI x.ohm)]),(sD (k5 x1 u0 u1 u2))] [] (fun r=>(vB r)) (fun _=>[]) (qZ x x1 u0 u1 u2):=
  dZ tT mX Tryz.func252 (
  .rg {fr:=[(0,1)],fz:=[1]} []<| .cl 2 (yZ x x1 u0 u1 u2) fun r_=> .r<| .e (!r_))
section
variable (s_:(List Source)) (f_:Int) (u0:(List Source)) (u1:(List Link)) (u2:(List aM)) (t8:Int)
abbrev k7:List SV:=[(sD (k3 s_)),(sD (.fn 252 1 (pO [(k5 f_ u0 u1 u2)])))]
abbrev k8:=(IntKind.wrap .i64 (t8+1))
end
theorem wS (s_:(List Source)) (f_:Int) (u0:(List Source)) (u1:(List Link)) (u2:(List aM)):dF Tryz.prog 285 (k7 s_ f_ u0 u1 u2) [] (fun r=>(vI r)) (fun _=>[]) (lY s_ f_ u0 u1 u2):=
  dZ tT mX Tryz.func285 (
  .r<| .r<| .lp (σ:=Int) (β:=Unit) (0) [] [] ⟨[0,1,7],[],fun t8=>[(8,(vI t8))],fun t8=>[]⟩ ⟨[],[],fun _=>[],fun _=>[]⟩
  (fun t8=> .r<| .it (.r<| .cl 5 (BG (at' s_ t8.toNat) f_ u0 u1 u2) fun r_=> .a1 ((0:Int)≤t8∧t8<(s_.length:Int))<| .rg {} [0,1]<| .it (.r<| .e (.done (.ret t8)))
  (.r<| .e (.next (k8 t8))))
  (.e (.done (.brk ()))))
  (fun _=> .r<| .e (-1)))
theorem tC (s_:(List Source)) (f_:Int) (u0:(List Source)) (u1:(List Link)) (u2:(List aM)):dF Tryz.prog 251 (k7 s_ f_ u0 u1 u2) [] (fun r=>(vB r)) (fun _=>[]) (ic s_ f_ u0 u1 u2):=
  dZ tT mX Tryz.func251 (
  .r<| .cl 2 (wS s_ f_ u0 u1 u2) fun r_=> .r<| .e (decide (0≤r_)))
theorem Dm (l:(List Source)) (u0:Int) (u1:Int) (u2:(List Source)) (u3:(List Link)) (u4:(List aM)):dF Tryz.prog 199 [(sD (k3 l)),(sI u0),(sD (.fn 253 1 (k6 u1 u2 u3 u4)))] [] (fun r=>(vB r)) (fun _=>[]) (ql l u0 u1 u2 u3 u4):=
  dZ tT mX Tryz.func199 (
  .rg {fr:=[(0,1)],fz:=[1]} []<| .cg 7 [((decide ((l.length:Int)≤u0)),true)] (tC l u1 u2 u3 u4) fun r_=> .r<| .e (bif (decide ((l.length:Int)≤u0))then(!r_)else false))
section
variable (x:Link)
abbrev k9:List CV:=[(cI x.a),(cI x.b),(cI x.kind),(cI x.most),(cI x.ohm),(.d (aQ none 2 mE.cell x.trip))]
end
theorem BP (x:Link) (x1:Int) (u3:(List Source)) (u4:(List Link)) (u5:(List aM)):dF Tryz.prog 256 [(.agg (k9 x)),(sD (k2 u3 x1 u4 u5))] [] (fun r=>(vB r)) (fun _=>[]) (nO x x1 u3 u4 u5):=
  dZ tT mX Tryz.func256 (
  .rg {fr:=[(0,5)]} []<| .cl 5 (aK x.a 0 (k4 x1)) fun r_=> .cg 13 [((!r_),false)] (aK x.b 0 (k4 x1)) fun u1=> .cg 26 [((bif (bif (!r_)then true else(!u1))then true else(decide (x.a=x.b))),false)] (aK x.kind 1 3) fun u6=> .cg 32 [((bif (bif (bif (!r_)then true else(!u1))then true else(decide (x.a=x.b)))then true else(!u6)),false)] (aK x.most 1 100000) fun u8=> .cg 38 [((bif (bif (bif (bif (!r_)then true else(!u1))then true else(decide (x.a=x.b)))then true else(!u6))then true else(!u8)),false)] (aK x.ohm 10 100000) fun u9=> .r<| .it (.r<| .e false)
  (.rg {fz:=[5]} []<| .lp (σ:=Int) (β:=Unit) (0) [] [] ⟨[2,48,49],[],fun u0=>[(50,(vI u0))],fun u0=>[]⟩ ⟨[2],[],fun _=>[],fun _=>[]⟩
  (fun u0=> .r<| .it (.a1 ((0:Int)≤u0∧u0<(x.trip.length:Int))<| .rg {fr:=[(3,9)],fz:=[9]} []<| .cl 2 (aK ((at' x.trip u0.toNat).amps) 1 1000000) fun u2=> .cg 7 [((!u2),false)] (aK ((at' x.trip u0.toNat).millis) 1 100000) fun u7=> .a2 ((gB [((decide (0<u0)),true),((bif (!u2)then true else(!u7)),false)]=true→(0:Int)≤(k4 u0)∧(k4 u0)<(x.trip.length:Int))) ((gB [((decide (((at' x.trip u0.toNat).amps)≤((at' x.trip ((k4 u0).toNat)).amps))),false),((decide (0<u0)),true),((bif (!u2)then true else(!u7)),false)]=true→(0:Int)≤(k4 u0)∧(k4 u0)<(x.trip.length:Int)))<| .rg {} [3,2,0,1]<| .it (.r<| .e (.done (.ret false)))
  (.r<| .e (.next (k8 u0))))
  (.e (.done (.brk ()))))
  (fun _=> .r<| .e (bif (decide ((x.trip.length:Int)≤6))then(bif (decide ((x.trip.length:Int)=0))then true else(decide (x.kind=3)))else false))))
section
variable (x1:Int) (u0:(List Source)) (u1:(List Link)) (u2:(List aM))
abbrev k10:DV:=(yP [(.fn 256 1 (k6 x1 u0 u1 u2))] 0)
end
theorem xV (x:Link) (x1:Int) (u0:(List Source)) (u1:(List Link)) (u2:(List aM)):dF Tryz.prog 255 [(.agg (k9 x)),(sD (k10 x1 u0 u1 u2))] [] (fun r=>(vB r)) (fun _=>[]) (nJ x x1 u0 u1 u2):=
  dZ tT mX Tryz.func255 (
  .rg {fr:=[(0,1)],fz:=[1]} []<| .cl 2 (BP x x1 u0 u1 u2) fun r_=> .r<| .e (!r_))
section
variable (s_:(List Link)) (f_:Int) (u0:(List Source)) (u1:(List Link)) (u2:(List aM))
abbrev k11:List SV:=[(sD (aQ none 6 Link.cell s_)),(sD (.fn 255 1 (pO [(k10 f_ u0 u1 u2)])))]
end
theorem sV (s_:(List Link)) (f_:Int) (u0:(List Source)) (u1:(List Link)) (u2:(List aM)):dF Tryz.prog 286 (k11 s_ f_ u0 u1 u2) [] (fun r=>(vI r)) (fun _=>[]) (jQ s_ f_ u0 u1 u2):=
  dZ tT mX Tryz.func286 (
  .r<| .r<| .lp (σ:=Int) (β:=Unit) (0) [] [] ⟨[0,1,7],[],fun t8=>[(8,(vI t8))],fun t8=>[]⟩ ⟨[],[],fun _=>[],fun _=>[]⟩
  (fun t8=> .r<| .it (.r<| .cl 5 (xV (at' s_ t8.toNat) f_ u0 u1 u2) fun r_=> .a1 ((0:Int)≤t8∧t8<(s_.length:Int))<| .rg {} [0,1]<| .it (.r<| .e (.done (.ret t8)))
  (.r<| .e (.next (k8 t8))))
  (.e (.done (.brk ()))))
  (fun _=> .r<| .e (-1)))
theorem qo (s_:(List Link)) (f_:Int) (u0:(List Source)) (u1:(List Link)) (u2:(List aM)):dF Tryz.prog 254 (k11 s_ f_ u0 u1 u2) [] (fun r=>(vB r)) (fun _=>[]) (fw s_ f_ u0 u1 u2):=
  dZ tT mX Tryz.func254 (
  .r<| .cl 2 (sV s_ f_ u0 u1 u2) fun r_=> .r<| .e (decide (0≤r_)))
theorem Ar (l:(List Link)) (u0:Int) (u1:Int) (u2:(List Source)) (u3:(List Link)) (u4:(List aM)):dF Tryz.prog 201 [(sD (aQ none 6 Link.cell l)),(sI u0),(sD (.fn 256 1 (k6 u1 u2 u3 u4)))] [] (fun r=>(vB r)) (fun _=>[]) (nR l u0 u1 u2 u3 u4):=
  dZ tT mX Tryz.func201 (
  .rg {fr:=[(0,1)],fz:=[1]} []<| .cg 7 [((decide ((l.length:Int)≤u0)),true)] (qo l u1 u2 u3 u4) fun r_=> .r<| .e (bif (decide ((l.length:Int)≤u0))then(!r_)else false))
section
variable (x:aM)
abbrev k12:List CV:=[(cI x.feeds.e0),(cI x.feeds.e1),(cI x.power),(cI x.paths)]
end
theorem Cw (x:aM):dF Tryz.prog 260 [(.agg (k12 x))] [] (fun r=>(vI r)) (fun _=>[]) (oN x):=
  dZ tT mX Tryz.func260 (
  .rg {fr:=[(0,1)],fz:=[1]} []<| .rg {} [.pf ⟨(0:Int)≤1∧(1:Int)<(2:Nat),(by decide)⟩]<| .it (.r<| .e 1)
  (.r<| .e 2))
section
variable (r_:Bool) (u0:Bool) (x:aM) (u1:Bool)
abbrev k14:=(bif (bif (bif r_ then u0 else false)then(!decide (x.feeds.e0=x.feeds.e1))else false)then u1 else false)
abbrev k13:=((k14 r_ u0 x u1),true)
end
theorem AO (x:aM) (x1:Int) (u2:(List Source)) (u3:(List Link)) (u4:(List aM)):dF Tryz.prog 259 [(.agg (k12 x)),(sD (k2 u2 x1 u3 u4))] [] (fun r=>(vB r)) (fun _=>[]) (nU x x1 u2 u3 u4):=
  dZ tT mX Tryz.func259 (
  .rg {fr:=[(0,1)],fz:=[1]} []<| .rg {} [.pf ⟨(0:Int)≤0∧(0:Int)<(2:Nat),(by decide)⟩, .pf ⟨(0:Int)≤1∧(1:Int)<(2:Nat),(by decide)⟩]<| .cl 4 (aK x.feeds.e0 0 (k4 x1)) fun r_=> .cg 10 [(r_,true)] (aK x.feeds.e1 (-1) (k4 x1)) fun u0=> .cg 20 [((bif (bif r_ then u0 else false)then(!decide (x.feeds.e0=x.feeds.e1))else false),true)] (aK x.power 1 100000) fun u1=> .cg 26 [(k13 r_ u0 x u1)] (Cw x) fun u5=> .cg 27 [(k13 r_ u0 x u1)] (aK x.paths 0 u5) fun u6=> .r<| .e (bif (k14 r_ u0 x u1)then u6 else false))
section
variable (x1:Int) (u0:(List Source)) (u1:(List Link)) (u2:(List aM))
abbrev k15:DV:=(yP [(.fn 259 1 (k6 x1 u0 u1 u2))] 0)
end
theorem xC (x:aM) (x1:Int) (u0:(List Source)) (u1:(List Link)) (u2:(List aM)):dF Tryz.prog 258 [(.agg (k12 x)),(sD (k15 x1 u0 u1 u2))] [] (fun r=>(vB r)) (fun _=>[]) (nP x x1 u0 u1 u2):=
  dZ tT mX Tryz.func258 (
  .rg {fr:=[(0,1)],fz:=[1]} []<| .cl 2 (AO x x1 u0 u1 u2) fun r_=> .r<| .e (!r_))
section
variable (s_:(List aM)) (f_:Int) (u0:(List Source)) (u1:(List Link)) (u2:(List aM))
abbrev k16:List SV:=[(sD (aQ none 4 aM.cell s_)),(sD (.fn 258 1 (pO [(k15 f_ u0 u1 u2)])))]
end
theorem tN (s_:(List aM)) (f_:Int) (u0:(List Source)) (u1:(List Link)) (u2:(List aM)):dF Tryz.prog 287 (k16 s_ f_ u0 u1 u2) [] (fun r=>(vI r)) (fun _=>[]) (jZ s_ f_ u0 u1 u2):=
  dZ tT mX Tryz.func287 (
  .r<| .r<| .lp (σ:=Int) (β:=Unit) (0) [] [] ⟨[0,1,7],[],fun t8=>[(8,(vI t8))],fun t8=>[]⟩ ⟨[],[],fun _=>[],fun _=>[]⟩
  (fun t8=> .r<| .it (.r<| .cl 5 (xC (⟨((at' s_ t8.toNat).feeds),(at' s_ t8.toNat).power,(at' s_ t8.toNat).paths⟩:aM) f_ u0 u1 u2) fun r_=> .a1 ((0:Int)≤t8∧t8<(s_.length:Int))<| .rg {} [0,1]<| .it (.r<| .e (.done (.ret t8)))
  (.r<| .e (.next (k8 t8))))
  (.e (.done (.brk ()))))
  (fun _=> .r<| .e (-1)))
theorem qx (s_:(List aM)) (f_:Int) (u0:(List Source)) (u1:(List Link)) (u2:(List aM)):dF Tryz.prog 257 (k16 s_ f_ u0 u1 u2) [] (fun r=>(vB r)) (fun _=>[]) (fA s_ f_ u0 u1 u2):=
  dZ tT mX Tryz.func257 (
  .r<| .cl 2 (tN s_ f_ u0 u1 u2) fun r_=> .r<| .e (decide (0≤r_)))
theorem Bv (l:(List aM)) (u0:Int) (u1:Int) (u2:(List Source)) (u3:(List Link)) (u4:(List aM)):dF Tryz.prog 203 [(sD (aQ none 4 aM.cell l)),(sI u0),(sD (.fn 259 1 (k6 u1 u2 u3 u4)))] [] (fun r=>(vB r)) (fun _=>[]) (nE l u0 u1 u2 u3 u4):=
  dZ tT mX Tryz.func203 (
  .rg {fr:=[(0,1)],fz:=[1]} []<| .cg 7 [((decide ((l.length:Int)≤u0)),true)] (qx l u1 u2 u3 u4) fun r_=> .r<| .e (bif (decide ((l.length:Int)≤u0))then(!r_)else false))
theorem uT (p:aC):dF Tryz.prog 127 (k0 p) [] (fun r=>(vI r)) (fun _=>[]) (lK p):=
  dZ tT mX Tryz.func127 (
  .rg {fr:=[(0,1)],fz:=[1]} []<| .cl 2 (aK p.buses 1 24) fun r_=> .r<| .it (.r<| .e 10)
  (.cl 3 (AB p) fun u0=> .cl 4 (Dm p.sources 8 u0.1 u0.2.1 u0.2.2.1 u0.2.2.2) fun u3=> .r<| .it (.r<| .e 11)
  (.cl 3 (Dz p) fun u1=> .cl 4 (Ar p.links 40 u1.1 u1.2.1 u1.2.2.1 u1.2.2.2) fun u4=> .r<| .it (.r<| .e 12)
  (.cl 3 (DC p) fun u2=> .cl 4 (Bv p.racks 24 u2.1 u2.2.1 u2.2.2.1 u2.2.2.2) fun u5=> .r<| .it (.r<| .e 13)
  (.r<| .e 0)))))
section
variable (s_:State) (p:aC)
abbrev k18:List CV:=[(.d (aQ none 1 af s_.closed)),(.d (aQ none 1 af s_.locked)),(.d (aQ none 1 af s_.badLink)),(.d (aQ none 1 af s_.on_)),(.d (aQ none 1 af s_.badSource)),(.d (aQ none 1 af s_.earthed)),(.d (aQ none 1 af s_.badBus))]
abbrev k17:List SV:=[(.agg (k1 p)),(.agg (k18 s_))]
abbrev k19:=(⟨s_.closed,(p.links.length:Int)⟩:bQ)
abbrev k20:=(⟨s_.locked,(p.links.length:Int)⟩:bQ)
abbrev k21:=(⟨s_.badLink,(p.links.length:Int)⟩:bQ)
abbrev k22:=(⟨s_.on_,(p.sources.length:Int)⟩:bQ)
abbrev k23:=(⟨s_.badSource,(p.sources.length:Int)⟩:bQ)
abbrev k24:=(av bQ.cell [(k19 s_ p),(k20 s_ p),(k21 s_ p),(k22 s_ p),(k23 s_ p),(⟨s_.earthed,p.buses⟩:bQ),(⟨s_.badBus,p.buses⟩:bQ)])
end
theorem eT (p:aC) (s_:State):dF Tryz.prog 60 (k17 s_ p) [] (fun r=>(vI r)) (fun _=>[]) (dN p s_):=
  dZ tT mX Tryz.func60 (
  .rg {fr:=[(0,11),(1,12)]} []<| .cl 1 (uT p) fun r_=> .r<| .r<| .it (.r<| .e r_)
  (.r<| .rg {an:=[(30, .arr [(k19 s_ p),(k20 s_ p),(k21 s_ p),(k22 s_ p),(k23 s_ p),(⟨s_.earthed,p.buses⟩:bQ),(⟨s_.badBus,p.buses⟩:bQ)].length (k24 s_ p))],fr:=[(30,13)],fz:=[12]} [.pf ⟨[(k19 s_ p),(k20 s_ p),(k21 s_ p),(k22 s_ p),(k23 s_ p),(⟨s_.earthed,p.buses⟩:bQ),(⟨s_.badBus,p.buses⟩:bQ)].length=7,rfl⟩, .pf ⟨aI 7 2 (mo 2 [(aQ none 1 af s_.closed),(.int .i64 (p.links.length:Int)),(aQ none 1 af s_.locked),(.int .i64 (p.links.length:Int)),(aQ none 1 af s_.badLink),(.int .i64 (p.links.length:Int)),(aQ none 1 af s_.on_),(.int .i64 (p.sources.length:Int)),(aQ none 1 af s_.badSource),(.int .i64 (p.sources.length:Int)),(aQ none 1 af s_.earthed),(.int .i64 p.buses),(aQ none 1 af s_.badBus),(.int .i64 p.buses)]) (k24 s_ p),(by intro i hi j hj;match i,j,hi,hj with|0,0,_,_=>rfl|0,1,_,_=>rfl|1,0,_,_=>rfl|1,1,_,_=>rfl|2,0,_,_=>rfl|2,1,_,_=>rfl|3,0,_,_=>rfl|3,1,_,_=>rfl|4,0,_,_=>rfl|4,1,_,_=>rfl|5,0,_,_=>rfl|5,1,_,_=>rfl|6,0,_,_=>rfl|6,1,_,_=>rfl)⟩]<| .lp (σ:=Int) (β:=Unit) (0) [] [] ⟨[2,3,53,54],[11,13],fun u1=>[(55,(vI u1))],fun u1=>[]⟩ ⟨[2,3],[11],fun _=>[],fun _=>[]⟩
  (fun u1=> .r<| .it (.a1 ((0:Int)≤u1∧u1<([(k19 s_ p),(k20 s_ p),(k21 s_ p),(k22 s_ p),(k23 s_ p),(⟨s_.earthed,p.buses⟩:bQ),(⟨s_.badBus,p.buses⟩:bQ)].length:Int))<| .rg {fr:=[(2,17)],fz:=[17]} [0, .t 0 u1 ([(k19 s_ p),(k20 s_ p),(k21 s_ p),(k22 s_ p),(k23 s_ p),(⟨s_.earthed,p.buses⟩:bQ),(⟨s_.badBus,p.buses⟩:bQ)].length)]<| .r<| .it (.r<| .e (.done (.ret 9)))
  (.r<| .e (.next (k8 u1))))
  (.e (.done (.brk ()))))
  (fun _=> .r<| .lp (σ:=Int) (β:=Unit) (0) [] [] ⟨[3,67,68],[],fun u0=>[(69,(vI u0))],fun u0=>[]⟩ ⟨[],[],fun _=>[],fun _=>[]⟩
  (fun u0=> .r<| .it (.a1 ((0:Int)≤u0∧u0<(p.links.length:Int))<| .rg {fr:=[(3,21)],fz:=[21]} []<| .a2 ((gB [((decide (((at' p.links u0.toNat).kind)=1)),true)]=true→(0:Int)≤u0∧u0<(s_.closed.length:Int))) ((gB [((!(at' s_.closed u0.toNat)),false),((decide (((at' p.links u0.toNat).kind)=1)),true)]=true→(0:Int)≤u0∧u0<(s_.locked.length:Int)))<| .rg {} [0,1]<| .it (.r<| .e (.done (.ret 9)))
  (.r<| .e (.next (k8 u0))))
  (.e (.done (.brk ()))))
  (fun _=> .r<| .e 0))))
theorem kL (i:Int) (x1:Int) (u1:(List Source)) (u0:(List Link)) (u2:(List aM)):dF Tryz.prog 221 [(sI i),(sD (k2 u1 x1 u0 u2))] [] (fun r=>(vB r)) (fun _=>[]) (dW i x1 u1 u0 u2):=
  dZ tT mX Tryz.func221 (
  .r<| .a1 ((gB [((bif (decide (0≤i))then(decide (i<(u0.length:Int)))else false),true)]=true→(0:Int)≤i∧i<(u0.length:Int)))<| .r<| .e (bif (bif (decide (0≤i))then(decide (i<(u0.length:Int)))else false)then(!decide (((at' u0 i.toNat).kind)=1))else false))
section
variable (x2:Int) (u0:(List Source)) (u1:(List Link)) (u2:(List aM))
abbrev k25:DV:=(yP [(.fn 221 1 (k6 x2 u0 u1 u2))] 0)
end
theorem qH (x:Transfer) (x1:Int) (u3:(List Source)) (u4:(List Link)) (u5:(List aM)) (x2:Int) (u0:(List Source)) (u1:(List Link)) (u2:(List aM)):dF Tryz.prog 223 [(.agg [(cI x.watch),(cI x.open_),(cI x.close)]),(sD (k2 u3 x1 u4 u5)),(sD (k25 x2 u0 u1 u2))] [] (fun r=>(vB r)) (fun _=>[]) (fJ x x1 u3 u4 u5 x2 u0 u1 u2):=
  dZ tT mX Tryz.func223 (
  .rg {fr:=[(0,1)],fz:=[1]} []<| .cg 14 [((bif (decide (x.watch<0))then true else(decide (x1≤x.watch))),false)] (kL x.close x2 u0 u1 u2) fun r_=> .cg 25 [((!decide (x.open_=(-1))),true),((bif (bif (decide (x.watch<0))then true else(decide (x1≤x.watch)))then true else(!r_)),false)] (kL x.open_ x2 u0 u1 u2) fun u6=> .r<| .e (bif (bif (bif (decide (x.watch<0))then true else(decide (x1≤x.watch)))then true else(!r_))then true else(bif (!decide (x.open_=(-1)))then(bif (!u6)then true else(decide (x.open_=x.close)))else false)))
section
variable (s_:(List Transfer)) (f_:Int) (u0:(List Source)) (u1:(List Link)) (u2:(List aM)) (u3:Int) (u4:(List Source)) (u5:(List Link)) (u6:(List aM))
abbrev k27:DV:=(aQ none 3 Transfer.cell s_)
abbrev k26:List SV:=[(sD (k27 s_)),(sD (.fn 223 2 (pO [(k2 u0 f_ u1 u2),(k25 u3 u4 u5 u6)])))]
end
theorem uq (s_:(List Transfer)) (f_:Int) (u0:(List Source)) (u1:(List Link)) (u2:(List aM)) (u3:Int) (u4:(List Source)) (u5:(List Link)) (u6:(List aM)):dF Tryz.prog 271 (k26 s_ f_ u0 u1 u2 u3 u4 u5 u6) [] (fun r=>(vI r)) (fun _=>[]) (jR s_ f_ u0 u1 u2 u3 u4 u5 u6):=
  dZ tT mX Tryz.func271 (
  .r<| .r<| .lp (σ:=Int) (β:=Unit) (0) [] [] ⟨[0,1,7],[],fun t8=>[(8,(vI t8))],fun t8=>[]⟩ ⟨[],[],fun _=>[],fun _=>[]⟩
  (fun t8=> .r<| .it (.r<| .cl 5 (qH (at' s_ t8.toNat) f_ u0 u1 u2 u3 u4 u5 u6) fun r_=> .a1 ((0:Int)≤t8∧t8<(s_.length:Int))<| .rg {} [0,1]<| .it (.r<| .e (.done (.ret t8)))
  (.r<| .e (.next (k8 t8))))
  (.e (.done (.brk ()))))
  (fun _=> .r<| .e (-1)))
theorem qX (s_:(List Transfer)) (f_:Int) (u0:(List Source)) (u1:(List Link)) (u2:(List aM)) (u3:Int) (u4:(List Source)) (u5:(List Link)) (u6:(List aM)):dF Tryz.prog 222 (k26 s_ f_ u0 u1 u2 u3 u4 u5 u6) [] (fun r=>(vB r)) (fun _=>[]) (fH s_ f_ u0 u1 u2 u3 u4 u5 u6):=
  dZ tT mX Tryz.func222 (
  .r<| .cl 2 (uq s_ f_ u0 u1 u2 u3 u4 u5 u6) fun r_=> .r<| .e (decide (0≤r_)))
section
variable (p:aC) (s_:State) (l:(List Transfer))
abbrev k28:List SV:=[(.agg (k1 p)),(.agg (k18 s_)),(sD (k27 l))]
end
theorem lD (p:aC) (s_:State) (l:(List Transfer)):dF Tryz.prog 154 (k28 p s_ l) [] (fun r=>(vI r)) (fun _=>[]) (eU p s_ l):=
  dZ tT mX Tryz.func154 (
  .rg {fr:=[(0,3),(1,4)],fz:=[4]} []<| .cl 2 (eT p s_) fun r_=> .r<| .r<| .it (.r<| .e r_)
  (.rg {fr:=[(1,5)],fz:=[3]} []<| .fz [5]<| .cg 6 [((decide (16<(l.length:Int))),false)] (qX l p.buses p.sources p.links p.racks p.buses p.sources p.links p.racks) fun u0=> .r<| .it (.r<| .e 1)
  (.r<| .e 0)))
theorem pu (s_:(List Bool)) (u0:Bool):dF Tryz.prog 149 [(sD (aQ (some u0) 1 af s_))] [] (fun r=>(vO 0 false r.length)) (fun r=>[(0,some (bC 4 1 af r))]) (rR s_ u0):=
  dZ tT mX Tryz.func149 (
  .r<| .r<| .it (.r<| .im (.ad 2 2 4 1 (av af ([]:List Bool)))<| .en ([]:List Bool) [] [(2,0)])
  (.a2 ((([]:List Bool).length+s_.length)*1≤140737488355328) (([]:List Bool).length+s_.length≤4611686018427387904)<| .rg {an:=[(0, .arr ([]:List Bool).length (av af ([]:List Bool))),(2, .arr (([]:List Bool)++s_).length (av af (([]:List Bool)++s_)))],fr:=[(0,3),(2,4)]} [.pf ⟨([]:List Bool).length=0,rfl⟩, .pf ⟨aI 0 1 (mo 1 []) (av af ([]:List Bool)),(fun i hi=>absurd hi (Nat.not_lt_zero i))⟩, .e (([]:List Bool).length),0,1, .pf ⟨(([]:List Bool)++s_).length=([]:List Bool).length+s_.length,List.length_append⟩, .pf ⟨aI (([]:List Bool).length+s_.length) 1 (oG (av af ([]:List Bool)) ([]:List Bool).length (av af s_)) (av af (([]:List Bool)++s_)),dG _ _ _ _⟩]<| .en (([]:List Bool)++s_) [] [(4,0)]))
theorem aL (s:(List Bool)) {r:(List Bool)} (h:aP s=some r):Fn Tryz.prog 149 [(sD (aQ none 1 af s))] [] (vO 0 false r.length) [(0,some (bC 4 1 af r))]:=by
 refine Fn.nn (pu s true h) fun hl=> ?_
 have hs:s=[]:=List.eq_nil_of_length_eq_zero hl
 subst hs
 exact pu [] false (by rw [←h];kernel_rfl)
section
variable (s_:State)
abbrev ZF:List SV:=[(.agg (k18 s_))]
end
theorem w9 (s_:State):dF Tryz.prog 155 (ZF s_) [] (fun r=>(.v (.agg [(.own 0 false r.closed.length),(.own 1 false r.locked.length),(.own 2 false r.badLink.length),(.own 3 false r.on_.length),(.own 4 false r.badSource.length),(.own 5 false r.earthed.length),(.own 6 false r.badBus.length)]))) (fun r=>[(0,some (bC 4 1 af r.closed)),(1,some (bC 4 1 af r.locked)),(2,some (bC 4 1 af r.badLink)),(3,some (bC 4 1 af r.on_)),(4,some (bC 4 1 af r.badSource)),(5,some (bC 4 1 af r.earthed)),(6,some (bC 4 1 af r.badBus)),(7,none)]) (nT s_):=
  dZ tT mX Tryz.func155 (
  .rg {fr:=[(0,10),(1,11)]} []<| .rg {an:=[(7, .cells)],fr:=[(7,12)]} []<| .ul 11<| .r<| .t<| .a1 ((0:Int)≤0∧0<(7:Int))<| .r<| .cl 4 (kX [(0,13)] ⟨fun h=>aL s_.closed h⟩) fun r_=> .r<| .r<| .im (.dp [1,2,12,13,14])<| .r<| .t<| .a1 ((0:Int)≤1∧1<(7:Int))<| .r<| .cl 4 (kX [(0,14)] ⟨fun h=>aL s_.locked h⟩) fun u0=> .r<| .r<| .im (.dp [1,2,12,13,14])<| .r<| .t<| .a1 ((0:Int)≤2∧2<(7:Int))<| .r<| .cl 4 (kX [(0,15)] ⟨fun h=>aL s_.badLink h⟩) fun u1=> .r<| .r<| .im (.dp [1,2,12,13,14])<| .r<| .t<| .a1 ((0:Int)≤3∧3<(7:Int))<| .r<| .cl 4 (kX [(0,16)] ⟨fun h=>aL s_.on_ h⟩) fun u2=> .r<| .r<| .im (.dp [1,2,12,13,14])<| .r<| .t<| .a1 ((0:Int)≤4∧4<(7:Int))<| .r<| .cl 4 (kX [(0,17)] ⟨fun h=>aL s_.badSource h⟩) fun u3=> .r<| .r<| .im (.dp [1,2,12,13,14])<| .r<| .t<| .a1 ((0:Int)≤5∧5<(7:Int))<| .r<| .cl 4 (kX [(0,18)] ⟨fun h=>aL s_.earthed h⟩) fun u4=> .r<| .r<| .im (.dp [1,2,12,13,14])<| .r<| .t<| .a1 ((0:Int)≤6∧6<(7:Int))<| .r<| .cl 4 (kX [(0,19)] ⟨fun h=>aL s_.badBus h⟩) fun u5=> .r<| .r<| .im (.dp [1,2,12,13,14])<| .r<| .f<| .r<| .en (⟨r_,u0,u1,u2,u3,u4,u5⟩:State) [] [(13,0),(14,1),(15,2),(16,3),(17,4),(18,5),(19,6),(11,7)])
section
variable (s_:State)
abbrev YR:List CV:=[(.own 0 false s_.closed.length),(.own 1 false s_.locked.length),(.own 2 false s_.badLink.length),(.own 3 false s_.on_.length),(.own 4 false s_.badSource.length),(.own 5 false s_.earthed.length),(.own 6 false s_.badBus.length)]
abbrev Ux:Nat × Option Ob:=(0,some (bC 4 1 af s_.closed))
abbrev KG:Nat × Option Ob:=(1,some (bC 4 1 af s_.locked))
abbrev Ku:Nat × Option Ob:=(2,some (bC 4 1 af s_.badLink))
abbrev Jb:Nat × Option Ob:=(3,some (bC 4 1 af s_.on_))
abbrev JC:Nat × Option Ob:=(4,some (bC 4 1 af s_.badSource))
abbrev Kz:Nat × Option Ob:=(5,some (bC 4 1 af s_.earthed))
abbrev I8:Nat × Option Ob:=(6,some (bC 4 1 af s_.badBus))
abbrev Xh:List (Nat × Option Ob):=[(Ux s_),(KG s_),(Ku s_),(Jb s_),(JC s_),(Kz s_),(I8 s_)]
end
theorem yj (p:aC) (s_:State) (l:(List Transfer)):dF Tryz.prog 156 [(.agg (k1 p)),(.agg (YR s_)),(sD (k27 l))] (Xh s_) (fun r=>(.v (.one (.fn 224 0 3 (zU [(.d (yP [(aQ none 3 Transfer.cell r.1)] 0)),(.d (yP [(.int .i64 r.2.1),(aQ none 5 Source.cell r.2.2.1),(aQ none 6 Link.cell r.2.2.2.1),(aQ none 4 aM.cell r.2.2.2.2.1)] 0)),(.ptr 7 0)]))))) (fun r=>[(Ux s_),(KG s_),(Ku s_),(Jb s_),(JC s_),(Kz s_),(I8 s_),(7,some (.cells 29 (YR s_)))]) (nM p s_ l):=
  dZ tT mX Tryz.func156 (
  .rg {fr:=[(0,10),(1,11),(2,12)],fz:=[10,12]} []<| .r<| .en (l,p.buses,p.sources,p.links,p.racks,s_) [] [(11,7)])
noncomputable def iJ:eO:=⟨[28,29],Fh ([1,1,1,1,0,1,0]++[0]) (jB Tryz.f83),Fh ([1,1,1,1,0,1,0]++[1]) (jB Tryz.f83),37,[]⟩
theorem wR (p:aC) (s_:State):dF Tryz.prog 248 (k17 s_ p) [] (fun r=>(vD (.fn 284 2 (pO [(yP [(.int .i64 r.1),(aQ none 5 Source.cell r.2.1),(aQ none 6 Link.cell r.2.2.1),(aQ none 4 aM.cell r.2.2.2.1)] 0),(yP [(aQ none 1 af r.2.2.2.2.1),(aQ none 1 af r.2.2.2.2.2.1),(aQ none 1 af r.2.2.2.2.2.2.1),(aQ none 1 af r.2.2.2.2.2.2.2.1),(aQ none 1 af r.2.2.2.2.2.2.2.2.1),(aQ none 1 af r.2.2.2.2.2.2.2.2.2.1),(aQ none 1 af r.2.2.2.2.2.2.2.2.2.2)] 0)])))) (fun _=>[]) (jv p s_):=
  dZ tT mX Tryz.func248 (
  .rg {fr:=[(0,2),(1,3)],fz:=[2,3]} []<| .r<| .e (p.buses,p.sources,p.links,p.racks,s_.closed,s_.locked,s_.badLink,s_.on_,s_.badSource,s_.earthed,s_.badBus))
noncomputable def qQ:eO:=⟨[22],Fh ([1,1,0,1,0]++[0]) (jB Tryz.f197),Fh ([1,1,0,1,0]++[1]) (jB Tryz.f197),125,[]⟩
section
variable (g:aR)
abbrev Y0:List (Nat × Option Ob):=[(0,some (KT 3 3 false false 1 1 (aB .i64) (aB .i64) g.head))]
end
theorem fI (g:aR) (x:Int):dF Tryz.prog 250 [(.agg [(.mp 0)]),(sI x)] (Y0 g) (fun r=>(vI r)) (fun r=>(Y0 g)) (bR g x):=
  dZ tT mX Tryz.func250 (
  .rg {fr:=[(0,2)]} []<| .lp (σ:=Int) (β:=Unit) (x) [] [] ⟨[2],[0,2],fun x1=>[(1,(vI x1))],fun x1=>[]⟩ ⟨[],[],fun _=>[],fun _=>[]⟩
  (fun x1=> .rg {an:=[(3, .look (aS bM x1 g.head).isSome [(cI ((aS bM x1 g.head).getD 0))])]} [.pf ⟨jw [some .i64] 1 1 g.head.length (si (aB .i64) g.head) (uz (aB .i64) g.head) [(.int .i64 x1)] [(.d (.int .i64 0))] (aS bM x1 g.head).isSome [(cI ((aS bM x1 g.head).getD 0))],iF (fun _=>rfl) (fun _ _=>rfl) g.head x1 0 rfl rfl rfl⟩]<| .r<| .it (.r<| .e (.done (.ret x1)))
  (.r<| .e (.next ((aS bM x1 g.head).getD 0))))
  (fun _=> .no))
theorem vE (g:aR) (a:Int) (b:Int):dF Tryz.prog 249 [(.agg [(.mp 0)]),(sI a),(sI b)] (Y0 g) (fun r=>(.dX [])) (fun r=>[(0,some (KT 3 3 false false 1 1 (aB .i64) (aB .i64) r))]) (iV g a b):=
  dZ tT mX Tryz.func249 (
  .rg {fr:=[(0,2)]} []<| .cr 2 (fI g a) fun r_=> .cr 5 (fI g b) fun u0=> .r<| .r<| .it (.rg {an:=[(4, .map (dQ bM r_ u0 g.head).length (si (aB .i64) (dQ bM r_ u0 g.head)) (uz (aB .i64) (dQ bM r_ u0 g.head)) [])]} [.pf ⟨mO [some .i64] 1 1 g.head.length (si (aB .i64) g.head) (uz (aB .i64) g.head) [(.int .i64 r_)] [(cI u0)] [] (dQ bM r_ u0 g.head).length (si (aB .i64) (dQ bM r_ u0 g.head)) (uz (aB .i64) (dQ bM r_ u0 g.head)),vw (fun _=>rfl) (fun _ _=>rfl) g.head r_ u0 rfl rfl⟩]<| .e (dQ bM r_ u0 g.head))
  (.e g.head))
section
variable (o_:aR)
abbrev Zp:Nat × Option Ob:=(0,some (.loop qQ 0 [(5,(vP 1 0))]))
abbrev Z4:List (Nat × Option Ob):=[Zp,(1,some (.cells 337 [(.mp 2)])),(2,some (KT 3 3 false false 1 1 (aB .i64) (aB .i64) o_.head))]
end
theorem uP (u0:Int) (u1:Int) (u2:Int) (u3:Int) (u4:Int) (u5:(List mE)) (o_:aR):OW Tryz.prog 0 [(.agg [(cI u0),(cI u1),(cI u2),(cI u3),(cI u4),(.d (aQ none 2 mE.cell u5))])] (Z4 o_) (fun _=>vB true) (fun r=>[Zp,(1,some (.cells 337 [(.mp 2)])),(2,some (KT 3 3 false false 1 1 (aB .i64) (aB .i64) r.head))]) (kM u0 u1 u2 u3 u4 u5 o_):=
  VB tT mX qQ ⟨[5],[0,1,2],fun _=>[(6,(vD (yP [(.int .i64 u0),(.int .i64 u1),(.int .i64 u2),(.int .i64 u3),(.int .i64 u4),(aQ none 2 mE.cell u5)] 0)))],fun _=>[]⟩ (.rg {fr:=[(0,4)],fz:=[4]} []<| .e ())
  (.cl 5 (kX [(0,2)] (vE o_ u0 u1)) fun r_=> .r<| .e (⟨r_⟩:aR))
section
variable (x2:(List Bool)) (t9:Int) (u2:(List Bool)) (u1:(List Bool)) (u0:(List Link))
abbrev ZU:=(bif (bif (at' x2 t9.toNat)then(!(at' u2 t9.toNat))else false)then(!(at' u1 (((at' u0 t9.toNat).a).toNat)))else false)
abbrev k43:=((gB [((bif (at' x2 t9.toNat)then(!(at' u2 t9.toNat))else false),true)]=true→(0:Int)≤(at' u0 t9.toNat).a∧(at' u0 t9.toNat).a<(u1.length:Int)))
abbrev k44:=((gB [((ZU x2 t9 u2 u1 u0),true)]=true→(0:Int)≤(at' u0 t9.toNat).b∧(at' u0 t9.toNat).b<(u1.length:Int)))
end
theorem uI (x1:Int) (u3:(List Source)) (u0:(List Link)) (u4:(List aM)) (x2:(List Bool)) (u5:(List Bool)) (u2:(List Bool)) (u6:(List Bool)) (u7:(List Bool)) (u8:(List Bool)) (u1:(List Bool)) (o_:aR):dF Tryz.prog 284 [(.one (.yl 0)),(sD (k2 u3 x1 u0 u4)),(sD (yP [(aQ none 1 af x2),(aQ none 1 af u5),(aQ none 1 af u2),(aQ none 1 af u6),(aQ none 1 af u7),(aQ none 1 af u8),(aQ none 1 af u1)] 0))] (Z4 o_) (fun r=>(.dX [])) (fun r=>[Zp,(1,some (.cells 337 [(.mp 2)])),(2,some (KT 3 3 false false 1 1 (aB .i64) (aB .i64) r.head))]) (kJ x1 u3 u0 u4 x2 u5 u2 u6 u7 u8 u1 o_):=
  dZ tT mX Tryz.func284 (
  .r<| .lp (σ:=((List (Int × Int)) × Int)) (β:=(List (Int × Int))) (o_.head,0) [] [] ⟨[0,2,7,8],[0,1],fun(o0,t9)=>[(9,(vI t9))],fun(o0,t9)=>[(2,some (KT 3 3 false false 1 1 (aB .i64) (aB .i64) o0))]⟩ ⟨[],[0,1],fun o01=>[],fun o01=>[(2,some (KT 3 3 false false 1 1 (aB .i64) (aB .i64) o01))]⟩
  (fun(o0,t9)=> .r<| .it (.a1 ((0:Int)≤t9∧t9<(u0.length:Int))<| .rg {fr:=[(3,10)],fz:=[10]} []<| .fk (bif (ZU x2 t9 u2 u1 u0)then(!(at' u1 (((at' u0 t9.toNat).b).toNat)))else false) (.cy 34 (uP ((at' u0 t9.toNat).a) ((at' u0 t9.toNat).b) ((at' u0 t9.toNat).kind) ((at' u0 t9.toNat).most) ((at' u0 t9.toNat).ohm) ((at' u0 t9.toNat).trip) (⟨o0⟩:aR)) fun r_=> .a4 ((0:Int)≤t9∧t9<(x2.length:Int)) ((gB [((at' x2 t9.toNat),true)]=true→(0:Int)≤t9∧t9<(u2.length:Int))) (k43 x2 t9 u2 u1 u0) (k44 x2 t9 u2 u1 u0)<| .rg {ov:=[(31,true,5)]} [0,1,2,3, .k 4]<| .f<| .r<| .e (.next (r_.head,(k8 t9))))
  (.a4 ((0:Int)≤t9∧t9<(x2.length:Int)) ((gB [((at' x2 t9.toNat),true)]=true→(0:Int)≤t9∧t9<(u2.length:Int))) (k43 x2 t9 u2 u1 u0) (k44 x2 t9 u2 u1 u0)<| .rg {ov:=[(31,false,4)],sk:=[32,33,34,35]} [0,1,2,3]<| .f<| .r<| .e (.next (o0,(k8 t9)))))
  (.e (.done (.brk o0))))
  (fun o01=> .e (⟨o01⟩:aR)))
section
variable (u1:(List aH)) (u2:(List (Int × Int))) (u0:Int) (u3:Int) (u5:(List aH)) (u6:Int) (u4:(List (Int × Int))) (u7:Int)
abbrev Z0:List (Nat × Option Ob):=[(60,some (.rows 287 2 u1.length (vZ aH.ev u1) none)),(61,some (KT 3 3 false false 1 1 (aB .i64) (aB .i64) u2))]
abbrev F3:=((aS bM u0 u2).getD 0)
abbrev Wm:List CV:=[(cI (F3 u2 u0))]
abbrev M4:=(dQ bM u0 (u1.length:Int) u2)
abbrev RN:=(u1++[(⟨([]:List Int),([]:List Int)⟩:aH)])
abbrev Zn:=(vZ aH.ev (RN u1))
abbrev Tc:=((aS bM u0 (M4 u1 u2 u0)).getD 0)
abbrev Zx:=((Tc u1 u2 u0).toNat)
abbrev Z5:=(at' (RN u1) (Zx u1 u2 u0))
abbrev Uw:=((Z5 u1 u2 u0).buses)
abbrev ZV:=((Uw u1 u2 u0).length+[u3].length)
abbrev Wu:=((Uw u1 u2 u0)++[u3])
abbrev Zr:=(av (aB .i64) (Wu u1 u2 u0 u3))
abbrev Y4:=((RN u1).set (Zx u1 u2 u0) (⟨(Wu u1 u2 u0 u3),(Z5 u1 u2 u0).sources⟩:aH))
abbrev k58:=(vZ aH.ev (Y4 u1 u2 u0 u3))
abbrev Tm:=((at' u1 ((F3 u2 u0).toNat)).buses)
abbrev Ww:=((Tm u1 u2 u0)++[u3])
abbrev Zc:=(av (aB .i64) (Ww u1 u2 u0 u3))
abbrev Zo:=(u1.set ((F3 u2 u0).toNat) (⟨(Ww u1 u2 u0 u3),(at' u1 ((F3 u2 u0).toNat)).sources⟩:aH))
abbrev k63:=(vZ aH.ev (Zo u1 u2 u0 u3))
abbrev Tq:=((at' u5 ((F3 u4 u6).toNat)).sources)
abbrev Ws:=((Tq u5 u6 u4)++[u7])
abbrev ZM:=(av (aB .i64) (Ws u5 u6 u4 u7))
abbrev Zq:=(u5.set ((F3 u4 u6).toNat) (⟨(at' u5 ((F3 u4 u6).toNat)).buses,(Ws u5 u6 u4 u7)⟩:aH))
abbrev k68:=(vZ aH.ev (Zq u5 u6 u4 u7))
end
theorem lZ (p:aC) (s_:State):dF Tryz.prog 197 (k17 s_ p) [] (fun r=>(vD (aQ none 2 aH.cell r))) (fun _=>[]) (fT p s_):=
  dZ tT mX Tryz.func197 (
  .rg {fr:=[(0,55),(1,56)],fz:=[56]} []<| .rg {an:=[(0, .map 0 (si (aB .i64) ([]:(List (Int × Int)))) (uz (aB .i64) ([]:(List (Int × Int)))) [])],fr:=[(0,57),(2,58)]} []<| .cl 2 (wR p s_) fun r_=> .r<| .cl 0 (kX [(0,59),(1,58),(2,57)] (uI r_.1 r_.2.1 r_.2.2.1 r_.2.2.2.1 r_.2.2.2.2.1 r_.2.2.2.2.2.1 r_.2.2.2.2.2.2.1 r_.2.2.2.2.2.2.2.1 r_.2.2.2.2.2.2.2.2.1 r_.2.2.2.2.2.2.2.2.2.1 r_.2.2.2.2.2.2.2.2.2.2 (⟨([]:(List (Int × Int)))⟩:aR))) fun v0=> .rf 59 [5] [] none 0 []<| .r<| .im (.adR 7 60 287 2 (vZ aH.ev ([]:List aH)))<| .rg {an:=[(0, .map 0 (si (aB .i64) ([]:(List (Int × Int)))) (uz (aB .i64) ([]:(List (Int × Int)))) [])],fr:=[(0,61)]} []<| .r<| .lp (σ:=((List aH) × (List (Int × Int)) × Int)) (β:=((List aH) × (List (Int × Int)))) (([]:List aH),([]:(List (Int × Int))),0) [] [] ⟨[2,3,5,8,31],[55,57,58],fun(u1,u2,u3)=>[(7,(vO 60 false u1.length)),(32,(vI u3))],fun(u1,u2,u3)=>(Z0 u1 u2)⟩ ⟨[2,3,5,8],[55,57,58],fun(u9,u4)=>[(7,(vO 60 false u9.length))],fun(u9,u4)=>(Z0 u9 u4)⟩
  (fun(u1,u2,u3)=> .r<| .it (.r<| .a1 ((0:Int)≤u3∧u3<(s_.badBus.length:Int))<| .r<| .it (.r<| .e (.next (u1,u2,(k8 u3))))
  (.cr 2 (kX [(0,57)] (fI v0 u3)) fun u0=> .r<| .rg {an:=[(2, .look (aS bM u0 u2).isSome (Wm u2 u0))]} [.pf ⟨jw [some .i64] 1 1 u2.length (si (aB .i64) u2) (uz (aB .i64) u2) [(.int .i64 u0)] [(.d (.int .i64 0))] (aS bM u0 u2).isSome (Wm u2 u0),iF (fun _=>rfl) (fun _ _=>rfl) u2 u0 0 rfl rfl rfl⟩]<| .r<| .it (.rg {an:=[(4, .map (M4 u1 u2 u0).length (si (aB .i64) (M4 u1 u2 u0)) (uz (aB .i64) (M4 u1 u2 u0)) [])]} [.pf ⟨mO [some .i64] 1 1 u2.length (si (aB .i64) u2) (uz (aB .i64) u2) [(.int .i64 u0)] [(cI (u1.length:Int))] [] (M4 u1 u2 u0).length (si (aB .i64) (M4 u1 u2 u0)) (uz (aB .i64) (M4 u1 u2 u0)),vw (fun _=>rfl) (fun _ _=>rfl) u2 u0 (u1.length:Int) rfl rfl⟩]<| .a2 ((u1.length+[(⟨([]:List Int),([]:List Int)⟩:aH)].length)*48≤140737488355328) (u1.length+[(⟨([]:List Int),([]:List Int)⟩:aH)].length≤4611686018427387904)<| .rg {an:=[(2, .arr [(⟨([]:List Int),([]:List Int)⟩:aH)].length (mo 2 [nS,nS])),(3, .rows (RN u1).length (Zn u1))],fr:=[(2,86),(3,87)]} [.pf ⟨[(⟨([]:List Int),([]:List Int)⟩:aH)].length=1,rfl⟩, .pf ⟨aI 1 2 (mo 2 [nS,nS]) (mo 2 [nS,nS]),gW _ _ _⟩, .e (u1.length),0,1, .pf ⟨(RN u1).length=u1.length+[(⟨([]:List Int),([]:List Int)⟩:aH)].length,List.length_append⟩, .pf ⟨DR u1.length [(⟨([]:List Int),([]:List Int)⟩:aH)].length 2 (vZ aH.ev u1) (mo 2 [nS,nS]) (Zn u1),Tw _ _ _ _ _ (by intro i hi j hj;match i,j,hi,hj with|0,0,_,_=>exact⟨rfl,_,_,_,rfl⟩|0,1,_,_=>exact⟨rfl,_,_,_,rfl⟩)⟩]<| .rg {an:=[(2, .look (aS bM u0 (M4 u1 u2 u0)).isSome [(cI (Tc u1 u2 u0))])]} [.pf ⟨jw [some .i64] 1 1 (M4 u1 u2 u0).length (si (aB .i64) (M4 u1 u2 u0)) (uz (aB .i64) (M4 u1 u2 u0)) [(.int .i64 u0)] [(.d (.int .i64 0))] (aS bM u0 (M4 u1 u2 u0)).isSome [(cI (Tc u1 u2 u0))],iF (fun _=>rfl) (fun _ _=>rfl) (M4 u1 u2 u0) u0 0 rfl rfl rfl⟩]<| .a3 ((0:Int)≤(Tc u1 u2 u0)∧(Tc u1 u2 u0)<((RN u1).length:Int)) ((ZV u1 u2 u0 u3)*8≤140737488355328) ((Uw u1 u2 u0).length+[u3].length≤4611686018427387904)<| .rg {an:=[(6, .take 88),(8, .arr [u3].length (av (aB .i64) [u3])),(9, .arr (Wu u1 u2 u0 u3).length (Zr u1 u2 u0 u3)),(12, .rows 0 (k58 u1 u2 u0 u3))],fr:=[(8,89),(9,90)]} [0, .t 0 (Tc u1 u2 u0) ((RN u1).length), .pf ⟨[u3].length=1,rfl⟩, .pf ⟨aI 1 1 (mo 1 [(.int .i64 u3)]) (av (aB .i64) [u3]),(by intro i hi j hj;match i,j,hi,hj with|0,0,_,_=>rfl)⟩, .e ((Uw u1 u2 u0).length),1,2, .pf ⟨(Wu u1 u2 u0 u3).length=(Uw u1 u2 u0).length+[u3].length,List.length_append⟩, .pf ⟨aI (ZV u1 u2 u0 u3) 1 (oG (av (aB .i64) (Uw u1 u2 u0)) (Uw u1 u2 u0).length (av (aB .i64) [u3])) (Zr u1 u2 u0 u3),dG _ _ _ _⟩,0, .t 0 (Tc u1 u2 u0) ((RN u1).length), .e ((Wu u1 u2 u0 u3).length), .pf ⟨O4 (RN u1).length 2 (UG (Zn u1) (Zx u1 u2 u0) 0 (.row 3 1 (Wu u1 u2 u0 u3).length (Zr u1 u2 u0 u3))) (k58 u1 u2 u0 u3),Ep _ _ _ _ _ _ _ _ rfl (fun j hj=>(match j,hj with|0,_=>rfl|1,_=>rfl))⟩, .pf ⟨∀i0 j0 c0,((some ((Tc u1 u2 u0).toNat,0,CV.own 88 false (Uw u1 u2 u0).length)):Option (Nat × Nat × CV))=some (i0,j0,c0)→i0=(Tc u1 u2 u0).toNat∧j0=0,(fun i0 j0 c0 e=>by cases e;exact⟨rfl,rfl⟩)⟩]<| .im (.ll 87 (RN u1) (Y4 u1 u2 u0 u3))<| .r<| .en (.next ((Y4 u1 u2 u0 u3),(M4 u1 u2 u0),(k8 u3))) [] [(87,60)])
  (.rg {an:=[(2, .look (aS bM u0 u2).isSome (Wm u2 u0))]} [.pf ⟨jw [some .i64] 1 1 u2.length (si (aB .i64) u2) (uz (aB .i64) u2) [(.int .i64 u0)] [(.d (.int .i64 0))] (aS bM u0 u2).isSome (Wm u2 u0),iF (fun _=>rfl) (fun _ _=>rfl) u2 u0 0 rfl rfl rfl⟩]<| .a3 ((0:Int)≤(F3 u2 u0)∧(F3 u2 u0)<(u1.length:Int)) (((Tm u1 u2 u0).length+[u3].length)*8≤140737488355328) ((Tm u1 u2 u0).length+[u3].length≤4611686018427387904)<| .rg {an:=[(6, .take 91),(8, .arr [u3].length (av (aB .i64) [u3])),(9, .arr (Ww u1 u2 u0 u3).length (Zc u1 u2 u0 u3)),(12, .rows 0 (k63 u1 u2 u0 u3))],fr:=[(8,92),(9,93)]} [0, .t 0 (F3 u2 u0) u1.length, .pf ⟨[u3].length=1,rfl⟩, .pf ⟨aI 1 1 (mo 1 [(.int .i64 u3)]) (av (aB .i64) [u3]),(by intro i hi j hj;match i,j,hi,hj with|0,0,_,_=>rfl)⟩, .e ((Tm u1 u2 u0).length),1,2, .pf ⟨(Ww u1 u2 u0 u3).length=(Tm u1 u2 u0).length+[u3].length,List.length_append⟩, .pf ⟨aI ((Tm u1 u2 u0).length+[u3].length) 1 (oG (av (aB .i64) (Tm u1 u2 u0)) (Tm u1 u2 u0).length (av (aB .i64) [u3])) (Zc u1 u2 u0 u3),dG _ _ _ _⟩,0, .t 0 (F3 u2 u0) u1.length, .e ((Ww u1 u2 u0 u3).length), .pf ⟨O4 u1.length 2 (UG (vZ aH.ev u1) ((F3 u2 u0).toNat) 0 (.row 3 1 (Ww u1 u2 u0 u3).length (Zc u1 u2 u0 u3))) (k63 u1 u2 u0 u3),Ep _ _ _ _ _ _ _ _ rfl (fun j hj=>(match j,hj with|0,_=>rfl|1,_=>rfl))⟩, .pf ⟨∀i0 j0 c0,((some ((F3 u2 u0).toNat,0,CV.own 91 false (Tm u1 u2 u0).length)):Option (Nat × Nat × CV))=some (i0,j0,c0)→i0=(F3 u2 u0).toNat∧j0=0,(fun i0 j0 c0 e=>by cases e;exact⟨rfl,rfl⟩)⟩]<| .im (.ll 60 u1 (Zo u1 u2 u0 u3))<| .r<| .e (.next ((Zo u1 u2 u0 u3),u2,(k8 u3))))))
  (.e (.done (.brk (u1,u2)))))
  (fun(u9,u4)=> .r<| .lp (σ:=((List aH) × Int)) (β:=(List aH)) (u9,0) [] [] ⟨[3,5,8,76,77],[57,58,61],fun(u5,u7)=>[(7,(vO 60 false u5.length)),(78,(vI u7))],fun(u5,u7)=>[(60,some (.rows 287 2 u5.length (vZ aH.ev u5) none))]⟩ ⟨[],[],fun u8=>[(7,(vO 60 false u8.length))],fun u8=>[(60,some (.rows 287 2 u8.length (vZ aH.ev u8) none))]⟩
  (fun(u5,u7)=> .r<| .it (.a1 ((0:Int)≤u7∧u7<(p.sources.length:Int))<| .rg {fr:=[(3,106)],fz:=[106]} []<| .a3 ((0:Int)≤u7∧u7<(s_.on_.length:Int)) ((gB [((at' s_.on_ u7.toNat),true)]=true→(0:Int)≤u7∧u7<(s_.badSource.length:Int))) ((gB [((bif (at' s_.on_ u7.toNat)then(!(at' s_.badSource u7.toNat))else false),true)]=true→(0:Int)≤(at' p.sources u7.toNat).bus∧(at' p.sources u7.toNat).bus<(s_.badBus.length:Int)))<| .rg {} [0,1,2]<| .it (.cr 4 (kX [(0,57)] (fI v0 ((at' p.sources u7.toNat).bus))) fun u6=> .rg {an:=[(5, .look (aS bM u6 u4).isSome (Wm u4 u6))]} [0, .pf ⟨jw [some .i64] 1 1 u4.length (si (aB .i64) u4) (uz (aB .i64) u4) [(.int .i64 u6)] [(.d (.int .i64 0))] (aS bM u6 u4).isSome (Wm u4 u6),iF (fun _=>rfl) (fun _ _=>rfl) u4 u6 0 rfl rfl rfl⟩]<| .a3 ((0:Int)≤(F3 u4 u6)∧(F3 u4 u6)<(u5.length:Int)) (((Tq u5 u6 u4).length+[u7].length)*8≤140737488355328) ((Tq u5 u6 u4).length+[u7].length≤4611686018427387904)<| .rg {an:=[(6, .take 107),(8, .arr [u7].length (av (aB .i64) [u7])),(9, .arr (Ws u5 u6 u4 u7).length (ZM u5 u6 u4 u7)),(12, .rows 0 (k68 u5 u6 u4 u7))],fr:=[(8,108),(9,109)]} [0, .t 0 (F3 u4 u6) u5.length, .pf ⟨[u7].length=1,rfl⟩, .pf ⟨aI 1 1 (mo 1 [(.int .i64 u7)]) (av (aB .i64) [u7]),(by intro i hi j hj;match i,j,hi,hj with|0,0,_,_=>rfl)⟩, .e ((Tq u5 u6 u4).length),1,2, .pf ⟨(Ws u5 u6 u4 u7).length=(Tq u5 u6 u4).length+[u7].length,List.length_append⟩, .pf ⟨aI ((Tq u5 u6 u4).length+[u7].length) 1 (oG (av (aB .i64) (Tq u5 u6 u4)) (Tq u5 u6 u4).length (av (aB .i64) [u7])) (ZM u5 u6 u4 u7),dG _ _ _ _⟩,0, .t 0 (F3 u4 u6) u5.length, .e ((Ws u5 u6 u4 u7).length), .pf ⟨O4 u5.length 2 (UG (vZ aH.ev u5) ((F3 u4 u6).toNat) 1 (.row 3 1 (Ws u5 u6 u4 u7).length (ZM u5 u6 u4 u7))) (k68 u5 u6 u4 u7),Ep _ _ _ _ _ _ _ _ rfl (fun j hj=>(match j,hj with|0,_=>rfl|1,_=>rfl))⟩, .pf ⟨∀i0 j0 c0,((some ((F3 u4 u6).toNat,1,CV.own 107 false (Tq u5 u6 u4).length)):Option (Nat × Nat × CV))=some (i0,j0,c0)→i0=(F3 u4 u6).toNat∧j0=1,(fun i0 j0 c0 e=>by cases e;exact⟨rfl,rfl⟩)⟩]<| .im (.ll 60 u5 (Zq u5 u6 u4 u7))<| .r<| .e (.next ((Zq u5 u6 u4 u7),(k8 u7))))
  (.r<| .e (.next (u5,(k8 u7)))))
  (.e (.done (.brk u5))))
  (fun u8=> .r<| .fz [60]<| .im (.us 4 (vD (.sl none 2 u8.length (fun i j=>ZL (vZ aH.ev u8 i j)))) (vD (aQ none 2 aH.cell u8)) (Dx.v (rZ.one (mZ.d (ow.sl (.inr rfl) (fun i _ j hj=>match j,hj with|0,_=> .refl _|1,_=> .refl _))))))<| .e u8)))
section
variable (p:aC) (u1:(List aH)) (u0:Int) (u3:Int) (u2:(List Bool))
abbrev Va:=(List.replicate p.buses.toNat (false:Bool))
abbrev YJ:=(av af (Va p))
abbrev Wi:=(at' ((at' u1 u0.toNat).buses) u3.toNat)
abbrev ZR:=((0:Int)≤(Wi u1 u0 u3)∧(Wi u1 u0 u3)<(u2.length:Int))
abbrev YP:=(u2.set ((Wi u1 u0 u3).toNat) (decide (0<(((at' u1 u0.toNat).sources).length:Int))))
abbrev YN:=(av af (YP u1 u0 u3 u2))
abbrev ZT:=(nk (av af u2) ((Wi u1 u0 u3).toNat) 0 [(.bool (decide (0<(((at' u1 u0.toNat).sources).length:Int))))])
abbrev k77:=((YP u1 u0 u3 u2),(k8 u3))
end
theorem pJ (p:aC) (s_:State):dF Tryz.prog 126 (k17 s_ p) [] (fun r=>(.dX [(.one (.own 0 false r.1.length)),(sI r.2)])) (fun r=>[(0,some (bC 4 1 af r.1))]) (dJ p s_):=
  dZ tT mX Tryz.func126 (
  .rg {fr:=[(0,7),(1,8)],fz:=[7,8]} []<| .cl 2 (eT p s_) fun r_=> .r<| .r<| .it (.r<| .im (.ad 4 9 4 1 (av af ([]:List Bool)))<| .en (([]:List Bool),r_) [] [(9,0)])
  (.a3 ((0:Int)≤p.buses) ((1:Int)*p.buses≤281474976710656) ((p.buses:Int)≤9223372036854775807)<| .rg {an:=[(2, .arr (Va p).length (YJ p))],fr:=[(2,10)]} [0, .e ((p.buses:Int)),1,2, .pf ⟨(Va p).length=p.buses.toNat,List.length_replicate⟩, .pf ⟨aI p.buses.toNat 1 (fun _ j=>[(.bool false)].getD j .nilp) (YJ p),mU _ _ _ _ _ (fun j hj=>(match j,hj with|0,_=>rfl))⟩]<| .cl 2 (lZ p s_) fun u1=> .r<| .lp (σ:=((List Bool) × Int)) (β:=(List Bool)) ((Va p),0) [] [] ⟨[23,24],[],fun(u4,u0)=>[(7,(vO 10 true u4.length)),(25,(vI u0))],fun(u4,u0)=>[(10,some (bC 4 1 af u4))]⟩ ⟨[],[],fun u5=>[(7,(vO 10 true u5.length))],fun u5=>[(10,some (bC 4 1 af u5))]⟩
  (fun(u4,u0)=> .r<| .it (.a1 ((0:Int)≤u0∧u0<(u1.length:Int))<| .rg {fr:=[(2,14)]} []<| .rg {fz:=[14]} []<| .lp (σ:=((List Bool) × Int)) (β:=(List Bool)) (u4,0) [] [] ⟨[9,23,24,25,30,31],[],fun(u2,u3)=>[(7,(vO 10 true u2.length)),(32,(vI u3))],fun(u2,u3)=>[(10,some (bC 4 1 af u2))]⟩ ⟨[23,24,25],[],fun u6=>[(7,(vO 10 true u6.length))],fun u6=>[(10,some (bC 4 1 af u6))]⟩
  (fun(u2,u3)=> .r<| .it (.a1 ((0:Int)≤u3∧u3<(((at' u1 u0.toNat).buses).length:Int))<| .r<| .a1 (ZR u1 u0 u3 u2)<| .rg {an:=[(7, .arr 0 (YN u1 u0 u3 u2))]} [0, .t 0 (Wi u1 u0 u3) u2.length, .pf ⟨aI u2.length 1 (ZT u1 u0 u3 u2) (YN u1 u0 u3 u2),fM _ _ _ _ _ _ _ _ rfl (fun j hj=>(match j,hj with|0,_=>rfl))⟩]<| .im (.ll 10 u2 (YP u1 u0 u3 u2))<| .r<| .e (.next (k77 u1 u0 u3 u2)))
  (.e (.done (.brk u2))))
  (fun u6=> .r<| .e (.next (u6,(k8 u0)))))
  (.e (.done (.brk u4))))
  (fun u5=> .r<| .en (u5,0) [] [(10,0)])))
theorem iL (x y:au):Go.Proofs.ltOf bG x y=true↔x.e0<y.e0∨ ¬ y.e0<x.e0∧x.e1<y.e1:=by
 unfold Go.Proofs.ltOf bG;rw [decide_eq_true_iff]
 by_cases h0:x.e0<y.e0<;>by_cases g0:y.e0<x.e0<;>by_cases h1:x.e1<y.e1<;>by_cases g1:y.e1<x.e1<;>simp [h0,g0,h1,g1]
theorem wV:Go.Sort.SWO (Go.Proofs.ltOf bG) where
 irrefl x:=by rw [←Bool.not_eq_true,iL];omega
 trans x y z h1 h2:=by rw [iL]at*;omega
 ntrans x y z h1 h2:=by rw [←Bool.not_eq_true,iL]at*;omega
theorem wK (x y:au) (h1:(Go.Proofs.ltOf bG) x y=false) (h2:(Go.Proofs.ltOf bG) y x=false):x=y:=by
 rw [←Bool.not_eq_true,iL]at h1 h2
 obtain⟨a,b⟩:=x
 obtain⟨c,d⟩:=y
 have e1:a=c:=by simp only at h1 h2;omega
 have e2:b=d:=by simp only at h1 h2;omega
 rw [e1,e2]
theorem yD (s:(List au)) {r:(List au)} (h:iG s=some r):Fn Tryz.prog 207 [(.one (.own 0 false s.length)),(sD (.fn 208 0 (pO [])))] [(0,some (.arr 145 2 s.length (av au.cell s)))] (.dX []) [(0,some (.arr 145 2 r.length (av au.cell r)))]:=
 Vw QF 2 Uj QD (fun x:au=>[.int .i64 x.e0, .int .i64 x.e1]) (fun _=>rfl) (fun x v hv=>by simp at hv;rcases hv with rfl|rfl<;>rfl) bG wV wK
  (Mc (fun x:au=>[.int .i64 x.e0, .int .i64 x.e1]) (fun x=>x.e0) (fun x=>x.e1) (fun _=>rfl)) (enters_of Tryz.func208 (by kernel_rfl) rfl)
  (fun F w x j hj v=>match j,hj with|0,_=>Iff.rfl|1,_=>Iff.rfl) 207 rfl ⟨_,Tryz.func207,rfl,rfl⟩ s (by cases s with|nil=>(cases h;simp)|cons x xs=>exact h)
section
variable (u6:(List au)) (u2:(List aH)) (u0:Int) (u1:Int) (u3:Int) (u4:(List au))
abbrev Wv:List (Nat × Option Ob):=[(139,some (bC 145 2 au.cell u6))]
abbrev Zt:=(((at' u2 u0.toNat).sources).drop ((k8 u1).toNat))
abbrev UD:=(at' ((at' u2 u0.toNat).sources) u1.toNat)
abbrev YK:=(at' (Zt u2 u0 u1) u3.toNat)
abbrev Vq:=(⟨(UD u2 u0 u1),(YK u2 u0 u1 u3)⟩:au)
abbrev ZW:=(u4.length+[(Vq u2 u0 u1 u3)].length)
abbrev ZN:=(av au.cell [(Vq u2 u0 u1 u3)])
abbrev YV:=(u4++[(Vq u2 u0 u1 u3)])
abbrev k86:=(av au.cell (YV u2 u0 u1 u3 u4))
end
theorem jA (p:aC) (s_:State):dF Tryz.prog 135 (k17 s_ p) [] (fun r=>(.dX [(.one (.own 0 false r.1.length)),(sI r.2)])) (fun r=>[(0,some (bC 145 2 au.cell r.1))]) (dA p s_):=
  dZ tT mX Tryz.func135 (
  .rg {fr:=[(0,134),(1,135)],fz:=[134,135]} []<| .cl 2 (eT p s_) fun r_=> .r<| .r<| .it (.r<| .im (.ad 4 136 145 2 (av au.cell ([]:List au)))<| .en (([]:List au),r_) [] [(136,0)])
  (.r<| .cl 2 (lZ p s_) fun u2=> .r<| .im (.ad 7 269 145 2 (av au.cell ([]:List au)))<| .lp (σ:=((List au) × Int)) (β:=(List au)) (([]:List au),0) [] [(269,139)] ⟨[2,22,23],[],fun(u6,u0)=>[(7,(vO 139 false u6.length)),(24,(vI u0))],fun(u6,u0)=>(Wv u6)⟩ ⟨[],[],fun u5=>[(7,(vO 139 false u5.length))],fun u5=>(Wv u5)⟩
  (fun(u6,u0)=> .r<| .it (.a1 ((0:Int)≤u0∧u0<(u2.length:Int))<| .rg {fr:=[(2,236)],fz:=[236]} []<| .r<| .lp (σ:=((List au) × Int)) (β:=(List au)) (u6,0) [] [] ⟨[2,9,22,23,24,29,30],[],fun(u7,u1)=>[(7,(vO 139 false u7.length)),(31,(vI u1))],fun(u7,u1)=>(Wv u7)⟩ ⟨[2,22,23,24],[],fun u8=>[(7,(vO 139 false u8.length))],fun u8=>(Wv u8)⟩
  (fun(u7,u1)=> .r<| .it (.a1 ((0:Int)≤u1∧u1<(((at' u2 u0.toNat).sources).length:Int))<| .r<| .a1 ((0:Int)≤(k8 u1)∧(k8 u1)≤(((at' u2 u0.toNat).sources).length:Int))<| .r<| .im (.us 40 (vD (.sl none 1 (((at' u2 u0.toNat).sources).length - ((k8 u1).toNat)) (fun iq jq=>av (aB .i64) ((at' u2 u0.toNat).sources) (iq+((k8 u1).toNat)) jq))) (vD (aQ none 1 (aB .i64) (Zt u2 u0 u1))) (Dx.v (rZ.one (mZ.d (ow.WO (by first|rw [List.length_append,List.length_drop]|simp only [List.length_set,List.length_drop,fD]|exact List.length_replicate) (.inr rfl) (Pg _ _ _ _))))))<| .lp (σ:=((List au) × Int)) (β:=(List au)) (u7,0) [] [] ⟨[2,9,11,22,23,24,29,30,31,40,41],[],fun(u4,u3)=>[(7,(vO 139 false u4.length)),(42,(vI u3))],fun(u4,u3)=>(Wv u4)⟩ ⟨[2,9,22,23,24,29,30,31],[],fun u9=>[(7,(vO 139 false u9.length))],fun u9=>(Wv u9)⟩
  (fun(u4,u3)=> .r<| .it (.a1 ((0:Int)≤u3∧u3<((Zt u2 u0 u1).length:Int))<| .r<| .a3 ((0:Int)≤(UD u2 u0 u1)∧(UD u2 u0 u1)<(p.sources.length:Int)) ((gB [((decide (((at' p.sources ((UD u2 u0 u1).toNat)).sync)=0)),false)]=true→(0:Int)≤(UD u2 u0 u1)∧(UD u2 u0 u1)<(p.sources.length:Int))) ((gB [((decide (((at' p.sources ((UD u2 u0 u1).toNat)).sync)=0)),false)]=true→(0:Int)≤(YK u2 u0 u1 u3)∧(YK u2 u0 u1 u3)<(p.sources.length:Int)))<| .rg {} [0,1,2]<| .it (.a2 ((ZW u2 u0 u1 u3 u4)*16≤140737488355328) (u4.length+[(Vq u2 u0 u1 u3)].length≤4611686018427387904)<| .rg {an:=[(4, .arr [(Vq u2 u0 u1 u3)].length (ZN u2 u0 u1 u3)),(5, .arr (YV u2 u0 u1 u3 u4).length (k86 u2 u0 u1 u3 u4))],fr:=[(4,267),(5,268)]} [.pf ⟨[(Vq u2 u0 u1 u3)].length=1,rfl⟩, .pf ⟨aI 1 2 (mo 2 [(.int .i64 (UD u2 u0 u1)),(.int .i64 (YK u2 u0 u1 u3))]) (ZN u2 u0 u1 u3),(by intro i hi j hj;match i,j,hi,hj with|0,0,_,_=>rfl|0,1,_,_=>rfl)⟩, .e (u4.length),0,1, .pf ⟨(YV u2 u0 u1 u3 u4).length=u4.length+[(Vq u2 u0 u1 u3)].length,List.length_append⟩, .pf ⟨aI (ZW u2 u0 u1 u3 u4) 2 (oG (av au.cell u4) u4.length (ZN u2 u0 u1 u3)) (k86 u2 u0 u1 u3 u4),dG _ _ _ _⟩]<| .r<| .en (.next ((YV u2 u0 u1 u3 u4),(k8 u3))) [] [(268,139)])
  (.r<| .e (.next (u4,(k8 u3)))))
  (.e (.done (.brk u4))))
  (fun u9=> .r<| .e (.next (u9,(k8 u1)))))
  (.e (.done (.brk u7))))
  (fun u8=> .r<| .e (.next (u8,(k8 u0)))))
  (.e (.done (.brk u6))))
  (fun u5=> .cl 1 (kX [(0,139)] ⟨fun h=>yD u5 h⟩) fun v0=> .r<| .a1 (u5.length=v0.length)<| .so 7 139 false u5.length v0.length 0<| .so 77 139 false u5.length v0.length 0<| .r<| .en (v0,0) [] [(139,0)])))
theorem Bn (s_:(List au)) (v_:au):dF Tryz.prog 297 [(sD (aQ none 2 au.cell s_)),(.agg [(cI v_.e0),(cI v_.e1)])] [] (fun r=>(vI r)) (fun _=>[]) (rz s_ v_):=
  dZ tT mX Tryz.func297 (
  .rg {fr:=[(0,1)],fz:=[1]} []<| .r<| .lp (σ:=Int) (β:=Unit) (0) [] [] ⟨[0,3,7],[],fun t8=>[(8,(vI t8))],fun t8=>[]⟩ ⟨[],[],fun _=>[],fun _=>[]⟩
  (fun t8=> .r<| .it (.r<| .a1 ((0:Int)≤t8∧t8<(s_.length:Int))<| .r<| .it (.r<| .e (.done (.ret t8)))
  (.r<| .e (.next (k8 t8))))
  (.e (.done (.brk ()))))
  (fun _=> .r<| .e (-1)))
theorem xW (s_:(List au)) (v_:au):dF Tryz.prog 274 [(sD (aQ none 2 au.cell s_)),(.agg [(cI v_.e0),(cI v_.e1)])] [] (fun r=>(vB r)) (fun _=>[]) (ku s_ v_):=
  dZ tT mX Tryz.func274 (
  .rg {fr:=[(0,1)],fz:=[1]} []<| .cl 2 (Bn s_ v_) fun r_=> .r<| .e (decide (0≤r_)))
theorem zY (c:au) (x1:(List au)):dF Tryz.prog 273 [(.agg [(cI c.e0),(cI c.e1)]),(sD (yP [(aQ none 2 au.cell x1)] 0))] [] (fun r=>(vB r)) (fun _=>[]) (pF c x1):=
  dZ tT mX Tryz.func273 (
  .rg {fr:=[(0,1)],fz:=[1]} []<| .cl 2 (xW x1 c) fun r_=> .r<| .e (!r_))
section
variable (s_:(List au)) (f_:(List au))
abbrev k87:List SV:=[(sD (aQ none 2 au.cell s_)),(sD (.fn 273 1 (pO [(yP [(aQ none 2 au.cell f_)] 0)])))]
end
theorem tO (s_:(List au)) (f_:(List au)):dF Tryz.prog 296 (k87 s_ f_) [] (fun r=>(vI r)) (fun _=>[]) (jS s_ f_):=
  dZ tT mX Tryz.func296 (
  .r<| .r<| .lp (σ:=Int) (β:=Unit) (0) [] [] ⟨[0,1,7],[],fun t8=>[(8,(vI t8))],fun t8=>[]⟩ ⟨[],[],fun _=>[],fun _=>[]⟩
  (fun t8=> .r<| .it (.r<| .cl 5 (zY (at' s_ t8.toNat) f_) fun r_=> .a1 ((0:Int)≤t8∧t8<(s_.length:Int))<| .rg {} [0,1]<| .it (.r<| .e (.done (.ret t8)))
  (.r<| .e (.next (k8 t8))))
  (.e (.done (.brk ()))))
  (fun _=> .r<| .e (-1)))
theorem j5 (s_:(List au)) (f_:(List au)):dF Tryz.prog 272 (k87 s_ f_) [] (fun r=>(vB r)) (fun _=>[]) (bX s_ f_):=
  dZ tT mX Tryz.func272 (
  .r<| .cl 2 (tO s_ f_) fun r_=> .r<| .e (decide (0≤r_)))
section
variable (p:aC) (s_:State) (x:Transfer) (r_:((List Bool) × Int)) (u0:(List Bool)) (u1:Int) (u3:((List Bool) × Int))
abbrev Zv:List SV:=[(.agg (k1 p)),(.agg (YR s_))]
abbrev ZP:=(bif (bif (at' s_.badBus x.watch.toNat)then true else(at' r_.1 x.watch.toNat))then true else(at' s_.closed x.close.toNat))
abbrev Z8:=((ZP s_ x r_),false)
abbrev k91:=((bif (ZP s_ x r_)then true else(at' s_.badLink x.close.toNat)),false)
abbrev J7:=(u0.set x.close.toNat true)
abbrev O1:=((J7 x u0).set x.open_.toNat false)
abbrev ZY:List SV:=[(.agg (k1 p)),(.agg [(.d (aQ none 1 af (O1 x u0))),(.d (aQ none 1 af s_.locked)),(.d (aQ none 1 af s_.badLink)),(.d (aQ none 1 af s_.on_)),(.d (aQ none 1 af s_.badSource)),(.d (aQ none 1 af s_.earthed)),(.d (aQ none 1 af s_.badBus))])]
abbrev ZA:=(⟨(O1 x u0),s_.locked,s_.badLink,s_.on_,s_.badSource,s_.earthed,s_.badBus⟩:State)
abbrev k96:List SV:=[(.agg (k1 p)),(.agg [(.own 29 false ((O1 x u0).length)),(.own 1 false s_.locked.length),(.own 2 false s_.badLink.length),(.own 3 false s_.on_.length),(.own 4 false s_.badSource.length),(.own 5 false s_.earthed.length),(.own 6 false s_.badBus.length)])]
abbrev Y6:Nat × Option Ob:=(29,some (bC 4 1 af (O1 x u0)))
abbrev ZQ:List (Nat × Option Ob):=[(Y6 x u0),(KG s_),(Ku s_),(Jb s_),(JC s_),(Kz s_),(I8 s_)]
abbrev PX:=((bif (at' r_.1 u1.toNat)then(!(at' u3.1 u1.toNat))else false),false)
abbrev k99:=((gB [(PX r_ u1 u3)]=true→(0:Int)≤u1∧u1<(u3.1.length:Int)))
abbrev XA:=((gB [((at' u3.1 u1.toNat),true),(PX r_ u1 u3)]=true→(0:Int)≤u1∧u1<(s_.earthed.length:Int)))
abbrev Yj:=((gB [((bif (at' u3.1 u1.toNat)then(at' s_.earthed u1.toNat)else false),true),(PX r_ u1 u3)]=true→(0:Int)≤u1∧u1<(r_.1.length:Int)))
abbrev Xv:List SV:=[(.agg (k1 p)),(.agg [(.d (aQ none 1 af (J7 x u0))),(.d (aQ none 1 af s_.locked)),(.d (aQ none 1 af s_.badLink)),(.d (aQ none 1 af s_.on_)),(.d (aQ none 1 af s_.badSource)),(.d (aQ none 1 af s_.earthed)),(.d (aQ none 1 af s_.badBus))])]
abbrev V6:=(⟨(J7 x u0),s_.locked,s_.badLink,s_.on_,s_.badSource,s_.earthed,s_.badBus⟩:State)
abbrev XI:List SV:=[(.agg (k1 p)),(.agg [(.own 29 false ((J7 x u0).length)),(.own 1 false s_.locked.length),(.own 2 false s_.badLink.length),(.own 3 false s_.on_.length),(.own 4 false s_.badSource.length),(.own 5 false s_.earthed.length),(.own 6 false s_.badBus.length)])]
abbrev UX:Nat × Option Ob:=(29,some (bC 4 1 af (J7 x u0)))
abbrev Xr:List (Nat × Option Ob):=[(UX x u0),(KG s_),(Ku s_),(Jb s_),(JC s_),(Kz s_),(I8 s_)]
end
theorem Ct (p:aC) (s_:State) (x:Transfer):dF Tryz.prog 225 [(.agg (k1 p)),(.agg (YR s_)),(.agg [(cI x.watch),(cI x.open_),(cI x.close)])] (Xh s_) (fun r=>(.dX [(.agg [(.own 7 false r.1.closed.length),(.own 1 false s_.locked.length),(.own 2 false s_.badLink.length),(.own 3 false s_.on_.length),(.own 4 false s_.badSource.length),(.own 5 false s_.earthed.length),(.own 6 false s_.badBus.length)]),(sB r.2)])) (fun r=>[(Ux s_),(KG s_),(Ku s_),(Jb s_),(JC s_),(Kz s_),(I8 s_),(7,bif r.2 then some (bC 4 1 af r.1.closed)else none),(8,none)]) (lJ p s_ x):=
  dZ tT mX Tryz.func225 (
  .rg {fr:=[(0,22),(1,23),(2,24),(3,25)],fz:=[22]} []<| .cl 2 ⟨fun{r_} hr_=>((Fn.Aq (args:=(k17 s_ p)) (frz:=[0,1,2,3,4,5,6]) (p:=[s_.closed.length=s_.closed.length,s_.locked.length=s_.locked.length,s_.badLink.length=s_.badLink.length,s_.on_.length=s_.on_.length,s_.badSource.length=s_.badSource.length,s_.earthed.length=s_.earthed.length,s_.badBus.length=s_.badBus.length]) (rK [(0,26)] (pJ p s_ hr_)) (by kernel_rfl) ⟨rfl,rfl,rfl,rfl,rfl,rfl,rfl,trivial⟩ (by kernel_rfl) ⟨(fun _ _=>rfl),trivial⟩ (by kernel_rfl)):Fn Tryz.prog 126 (Zv p s_) (Xh s_) (.dX [(.one (.own 26 false r_.1.length)),(sI r_.2)]) [(Ux s_),(KG s_),(Ku s_),(Jb s_),(JC s_),(Kz s_),(I8 s_),(26,some (bC 4 1 af r_.1))])⟩ fun r_=> .rg {fz:=[26]} []<| .a5 ((0:Int)≤x.watch∧x.watch<(s_.badBus.length:Int)) ((gB [((at' s_.badBus x.watch.toNat),false)]=true→(0:Int)≤x.watch∧x.watch<(r_.1.length:Int))) ((gB [((bif (at' s_.badBus x.watch.toNat)then true else(at' r_.1 x.watch.toNat)),false)]=true→(0:Int)≤x.close∧x.close<(s_.closed.length:Int))) ((gB [(Z8 s_ x r_)]=true→(0:Int)≤x.close∧x.close<(s_.badLink.length:Int))) ((gB [(k91 s_ x r_)]=true→(0:Int)≤x.close∧x.close<(s_.locked.length:Int)))<| .rg {} [0, .t 0 x.watch s_.badBus.length,1,2, .tg 2 [((bif (at' s_.badBus x.watch.toNat)then true else(at' r_.1 x.watch.toNat)),false)] x.close s_.closed.length,3, .tg 3 [(Z8 s_ x r_)] x.close s_.badLink.length,4, .tg 4 [(k91 s_ x r_)] x.close s_.locked.length]<| .it (.r<| .im (.ac 25 0 0 27)<| .en (s_,false) [] [(27,7),(25,8)])
  (.rg {fr:=[(1,28)]} []<| .cl 2 ⟨fun{u0} hr_1=>((Fn.Aq (args:=[(sD (aQ none 1 af s_.closed))]) (frz:=[0]) (p:=[s_.closed.length=s_.closed.length]) (Fn.yh [(0,29)] (aL s_.closed hr_1) (by kernel_rfl) (by kernel_rfl) (by kernel_rfl) (by kernel_rfl)) (by kernel_rfl) ⟨rfl,trivial⟩ (by kernel_rfl) ⟨(fun _ _=>rfl),trivial⟩ (by kernel_rfl)):Fn Tryz.prog 149 [(.one (.own 0 false s_.closed.length))] [(Ux s_)] (vO 29 false u0.length) [(Ux s_),(29,some (bC 4 1 af u0))])⟩ fun u0=> .r<| .a1 ((0:Int)≤x.close∧x.close<(u0.length:Int))<| .rg {an:=[(5, .arr 0 (av af (J7 x u0)))]} [0, .t 0 x.close u0.length, .pf ⟨aI u0.length 1 (nk (av af u0) x.close.toNat 0 [(.bool true)]) (av af (J7 x u0)),fM _ _ _ _ _ _ _ _ rfl (fun j hj=>(match j,hj with|0,_=>rfl))⟩]<| .im (.ll 29 u0 (J7 x u0))<| .r<| .it (.a2 ((0:Int)≤x.open_∧x.open_<(s_.badLink.length:Int)) ((gB [((at' s_.badLink x.open_.toNat),false)]=true→(0:Int)≤x.open_∧x.open_<(s_.locked.length:Int)))<| .rg {} [0, .t 0 x.open_ s_.badLink.length,1, .tg 1 [((at' s_.badLink x.open_.toNat),false)] x.open_ s_.locked.length]<| .it (.r<| .im (.ac 25 0 0 30)<| .en (s_,false) [] [(30,7),(25,8)])
  (.a1 ((0:Int)≤x.open_∧x.open_<((J7 x u0).length:Int))<| .rg {an:=[(5, .arr 0 (av af (O1 x u0)))],fz:=[24]} [0, .t 0 x.open_ ((J7 x u0).length), .pf ⟨aI (J7 x u0).length 1 (nk (av af (J7 x u0)) x.open_.toNat 0 [(.bool false)]) (av af (O1 x u0)),fM _ _ _ _ _ _ _ _ rfl (fun j hj=>(match j,hj with|0,_=>rfl))⟩]<| .im (.ll 29 (J7 x u0) (O1 x u0))<| .cl 2 ⟨fun{u3} hr_2=>((Fn.Aq (args:=(ZY p s_ x u0)) (frz:=[29,1,2,3,4,5,6]) (p:=[(O1 x u0).length=(O1 x u0).length,s_.locked.length=s_.locked.length,s_.badLink.length=s_.badLink.length,s_.on_.length=s_.on_.length,s_.badSource.length=s_.badSource.length,s_.earthed.length=s_.earthed.length,s_.badBus.length=s_.badBus.length]) (Fn.yh [(0,31)] (pJ p (ZA s_ x u0) hr_2) (by kernel_rfl) (by kernel_rfl) (by kernel_rfl) (by kernel_rfl)) (by kernel_rfl) ⟨rfl,rfl,rfl,rfl,rfl,rfl,rfl,trivial⟩ (by kernel_rfl) ⟨(fun _ _=>rfl),trivial⟩ (by kernel_rfl)):Fn Tryz.prog 126 (k96 p s_ x u0) (ZQ s_ x u0) (.dX [(.one (.own 31 false u3.1.length)),(sI u3.2)]) [(Y6 x u0),(KG s_),(Ku s_),(Jb s_),(JC s_),(Kz s_),(I8 s_),(31,some (bC 4 1 af u3.1))])⟩ fun u3=> .rg {fz:=[31]} []<| .r<| .lp (σ:=Int) (β:=Unit) (0) [] [] ⟨[3,4,5,6,8,10,11,102],[0,1,2,3,4,5,6,23,25,28,29],fun u1=>[(103,(vI u1))],fun u1=>[]⟩ ⟨[3,4,5,6,10,11],[0,1,2,3,4,5,6,23,25,28,29],fun _=>[],fun _=>[]⟩
  (fun u1=> .r<| .it (.r<| .a5 ((0:Int)≤u1∧u1<(r_.1.length:Int)) ((gB [((at' r_.1 u1.toNat),true)]=true→(0:Int)≤u1∧u1<(u3.1.length:Int))) (k99 r_ u1 u3) (XA s_ r_ u1 u3) (Yj s_ r_ u1 u3)<| .rg {} [0,1,2,3, .tg 3 [((at' u3.1 u1.toNat),true),(PX r_ u1 u3)] u1 s_.earthed.length,4]<| .it (.r<| .im (.ac 25 0 0 32)<| .en (.done (.ret (s_,false))) [] [(32,7),(25,8)])
  (.r<| .e (.next (k8 u1))))
  (.e (.done (.brk ()))))
  (fun _=> .cl 2 ⟨fun{u5} hr_3=>((Fn.Aq (args:=(k17 s_ p)) (frz:=[0,1,2,3,4,5,6]) (p:=[s_.closed.length=s_.closed.length,s_.locked.length=s_.locked.length,s_.badLink.length=s_.badLink.length,s_.on_.length=s_.on_.length,s_.badSource.length=s_.badSource.length,s_.earthed.length=s_.earthed.length,s_.badBus.length=s_.badBus.length]) (Fn.yh [(0,33)] (jA p s_ hr_3) (by kernel_rfl) (by kernel_rfl) (by kernel_rfl) (by kernel_rfl)) (by kernel_rfl) ⟨rfl,rfl,rfl,rfl,rfl,rfl,rfl,trivial⟩ (by kernel_rfl) ⟨(fun _ j=>match j with|0=>rfl|1=>rfl|_+2=>rfl),trivial⟩ (by kernel_rfl)):Fn Tryz.prog 135 (Zv p s_) (Xh s_) (.dX [(.one (.own 33 false u5.1.length)),(sI u5.2)]) [(Ux s_),(KG s_),(Ku s_),(Jb s_),(JC s_),(Kz s_),(I8 s_),(33,some (bC 145 2 au.cell u5.1))])⟩ fun u5=> .rg {fr:=[(6,34)],fz:=[33]} []<| .fz [34]<| .cl 2 ⟨fun{u6} hr_4=>((Fn.Aq (args:=(ZY p s_ x u0)) (frz:=[29,1,2,3,4,5,6]) (p:=[(O1 x u0).length=(O1 x u0).length,s_.locked.length=s_.locked.length,s_.badLink.length=s_.badLink.length,s_.on_.length=s_.on_.length,s_.badSource.length=s_.badSource.length,s_.earthed.length=s_.earthed.length,s_.badBus.length=s_.badBus.length]) (Fn.yh [(0,35)] (jA p (ZA s_ x u0) hr_4) (by kernel_rfl) (by kernel_rfl) (by kernel_rfl) (by kernel_rfl)) (by kernel_rfl) ⟨rfl,rfl,rfl,rfl,rfl,rfl,rfl,trivial⟩ (by kernel_rfl) ⟨(fun _ j=>match j with|0=>rfl|1=>rfl|_+2=>rfl),trivial⟩ (by kernel_rfl)):Fn Tryz.prog 135 (k96 p s_ x u0) (ZQ s_ x u0) (.dX [(.one (.own 35 false u6.1.length)),(sI u6.2)]) [(Y6 x u0),(KG s_),(Ku s_),(Jb s_),(JC s_),(Kz s_),(I8 s_),(35,some (bC 145 2 au.cell u6.1))])⟩ fun u6=> .rg {fz:=[35]} []<| .cg 9 [((!(at' u3.1 x.watch.toNat)),false)] (j5 u6.1 u5.1) fun u9=> .a1 ((0:Int)≤x.watch∧x.watch<(u3.1.length:Int))<| .rg {} [0,1]<| .it (.r<| .im (.ac 25 0 0 36)<| .en (s_,false) [] [(36,7),(25,8)])
  (.r<| .en ((ZA s_ x u0),true) [] [(29,7),(25,8)]))))
  (.cl 2 ⟨fun{u4} hr_6=>((Fn.Aq (args:=(Xv p s_ x u0)) (frz:=[29,1,2,3,4,5,6]) (p:=[(J7 x u0).length=(J7 x u0).length,s_.locked.length=s_.locked.length,s_.badLink.length=s_.badLink.length,s_.on_.length=s_.on_.length,s_.badSource.length=s_.badSource.length,s_.earthed.length=s_.earthed.length,s_.badBus.length=s_.badBus.length]) (Fn.yh [(0,37)] (pJ p (V6 s_ x u0) hr_6) (by kernel_rfl) (by kernel_rfl) (by kernel_rfl) (by kernel_rfl)) (by kernel_rfl) ⟨rfl,rfl,rfl,rfl,rfl,rfl,rfl,trivial⟩ (by kernel_rfl) ⟨(fun _ _=>rfl),trivial⟩ (by kernel_rfl)):Fn Tryz.prog 126 (XI p s_ x u0) (Xr s_ x u0) (.dX [(.one (.own 37 false u4.1.length)),(sI u4.2)]) [(UX x u0),(KG s_),(Ku s_),(Jb s_),(JC s_),(Kz s_),(I8 s_),(37,some (bC 4 1 af u4.1))])⟩ fun u4=> .rg {fz:=[24,37]} []<| .r<| .lp (σ:=Int) (β:=Unit) (0) [] [] ⟨[3,4,5,6,8,10,11,102],[0,1,2,3,4,5,6,23,25,28,29],fun u2=>[(103,(vI u2))],fun u2=>[]⟩ ⟨[3,4,5,6,10,11],[0,1,2,3,4,5,6,23,25,28,29],fun _=>[],fun _=>[]⟩
  (fun u2=> .r<| .it (.r<| .a5 ((0:Int)≤u2∧u2<(r_.1.length:Int)) ((gB [((at' r_.1 u2.toNat),true)]=true→(0:Int)≤u2∧u2<(u4.1.length:Int))) (k99 r_ u2 u4) (XA s_ r_ u2 u4) (Yj s_ r_ u2 u4)<| .rg {} [0,1,2,3, .tg 3 [((at' u4.1 u2.toNat),true),(PX r_ u2 u4)] u2 s_.earthed.length,4]<| .it (.r<| .im (.ac 25 0 0 38)<| .en (.done (.ret (s_,false))) [] [(38,7),(25,8)])
  (.r<| .e (.next (k8 u2))))
  (.e (.done (.brk ()))))
  (fun _=> .cl 2 ⟨fun{u7} hr_7=>((Fn.Aq (args:=(k17 s_ p)) (frz:=[0,1,2,3,4,5,6]) (p:=[s_.closed.length=s_.closed.length,s_.locked.length=s_.locked.length,s_.badLink.length=s_.badLink.length,s_.on_.length=s_.on_.length,s_.badSource.length=s_.badSource.length,s_.earthed.length=s_.earthed.length,s_.badBus.length=s_.badBus.length]) (Fn.yh [(0,39)] (jA p s_ hr_7) (by kernel_rfl) (by kernel_rfl) (by kernel_rfl) (by kernel_rfl)) (by kernel_rfl) ⟨rfl,rfl,rfl,rfl,rfl,rfl,rfl,trivial⟩ (by kernel_rfl) ⟨(fun _ j=>match j with|0=>rfl|1=>rfl|_+2=>rfl),trivial⟩ (by kernel_rfl)):Fn Tryz.prog 135 (Zv p s_) (Xh s_) (.dX [(.one (.own 39 false u7.1.length)),(sI u7.2)]) [(Ux s_),(KG s_),(Ku s_),(Jb s_),(JC s_),(Kz s_),(I8 s_),(39,some (bC 145 2 au.cell u7.1))])⟩ fun u7=> .rg {fr:=[(6,40)],fz:=[39]} []<| .fz [40]<| .cl 2 ⟨fun{u8} hr_8=>((Fn.Aq (args:=(Xv p s_ x u0)) (frz:=[29,1,2,3,4,5,6]) (p:=[(J7 x u0).length=(J7 x u0).length,s_.locked.length=s_.locked.length,s_.badLink.length=s_.badLink.length,s_.on_.length=s_.on_.length,s_.badSource.length=s_.badSource.length,s_.earthed.length=s_.earthed.length,s_.badBus.length=s_.badBus.length]) (Fn.yh [(0,41)] (jA p (V6 s_ x u0) hr_8) (by kernel_rfl) (by kernel_rfl) (by kernel_rfl) (by kernel_rfl)) (by kernel_rfl) ⟨rfl,rfl,rfl,rfl,rfl,rfl,rfl,trivial⟩ (by kernel_rfl) ⟨(fun _ j=>match j with|0=>rfl|1=>rfl|_+2=>rfl),trivial⟩ (by kernel_rfl)):Fn Tryz.prog 135 (XI p s_ x u0) (Xr s_ x u0) (.dX [(.one (.own 41 false u8.1.length)),(sI u8.2)]) [(UX x u0),(KG s_),(Ku s_),(Jb s_),(JC s_),(Kz s_),(I8 s_),(41,some (bC 145 2 au.cell u8.1))])⟩ fun u8=> .rg {fz:=[41]} []<| .cg 9 [((!(at' u4.1 x.watch.toNat)),false)] (j5 u8.1 u7.1) fun v0=> .a1 ((0:Int)≤x.watch∧x.watch<(u4.1.length:Int))<| .rg {} [0,1]<| .it (.r<| .im (.ac 25 0 0 42)<| .en (s_,false) [] [(42,7),(25,8)])
  (.r<| .en ((V6 s_ x u0),true) [] [(29,7),(25,8)])))))
section
variable (u7:(List Bool)) (u1:(List Bool)) (u2:(List Bool)) (u3:(List Bool)) (u4:(List Bool)) (u5:(List Bool)) (u6:(List Bool)) (o_:(List Int)) (u0:Int)
abbrev W9:List CV:=[(.own 1 false u7.length),(.own 2 false u1.length),(.own 3 false u2.length),(.own 4 false u3.length),(.own 5 false u4.length),(.own 6 false u5.length),(.own 7 false u6.length)]
abbrev uQ:Ob:=(bC 3 1 (aB .i64) o_)
abbrev WL:Ob:=(.cells 29 (W9 u7 u1 u2 u3 u4 u5 u6))
abbrev TN:=((o_.length+[u0].length)*8≤140737488355328)
abbrev T9:=(o_.length+[u0].length≤4611686018427387904)
abbrev IK:=(av (aB .i64) (o_++[u0]))
abbrev TD:=(oG (av (aB .i64) o_) o_.length (av (aB .i64) [u0]))
end
theorem vM (u0:Int) (u7:(List Bool)) (u1:(List Bool)) (u2:(List Bool)) (u3:(List Bool)) (u4:(List Bool)) (u5:(List Bool)) (u6:(List Bool)) (u8:State) (o_:(List Int)):OW Tryz.prog 0 [(sI u0),(.agg (W9 u7 u1 u2 u3 u4 u5 u6))] [(0,some (.loop iJ 0 [(10,(vP 8 0)),(11,(vP 9 0))])),(1,some (bC 4 1 af u7)),(2,some (bC 4 1 af u1)),(3,some (bC 4 1 af u2)),(4,some (bC 4 1 af u3)),(5,some (bC 4 1 af u4)),(6,some (bC 4 1 af u5)),(7,some (bC 4 1 af u6)),(8,some (.cells 29 [(.own 10 false u8.closed.length),(.own 2 false u1.length),(.own 3 false u2.length),(.own 4 false u3.length),(.own 5 false u4.length),(.own 6 false u5.length),(.own 7 false u6.length)])),(9,some (.cells 39 [(.own 11 false o_.length)])),(10,some (bC 4 1 af u8.closed)),(11,some (uQ o_))] (fun _=>vB true) (fun r=>[(0,some (.loop iJ 0 [(10,(vP 8 0)),(11,(vP 9 0))])),(1,some (bC 4 1 af u7)),(2,some (bC 4 1 af u1)),(3,some (bC 4 1 af u2)),(4,some (bC 4 1 af u3)),(5,some (bC 4 1 af u4)),(6,some (bC 4 1 af u5)),(7,some (bC 4 1 af u6)),(8,some (WL u7 u1 u2 u3 u4 u5 u6)),(9,some (.cells 39 [(.own 12 false r.2.length)])),(10,some (bC 4 1 af u8.closed)),(11,none),(12,some (bC 3 1 (aB .i64) r.2))]) (lq u0 u7 u1 u2 u3 u4 u5 u6 u8 o_):=
  VB tT mX iJ ⟨[10,11],[0,1,2,3,4,5,6,7,8,9,10,11],fun _=>[(12,(vI u0)),(13,(vP 15 0))],fun _=>[(15,some (WL u7 u1 u2 u3 u4 u5 u6))]⟩ (.r<| .rg {fr:=[(0,15)]} []<| .e ())
  (.r<| .a2 (TN o_ u0) (T9 o_ u0)<| .rg {an:=[(2, .arr [u0].length (av (aB .i64) [u0])),(3, .arr (o_++[u0]).length (IK o_ u0))],fr:=[(2,16),(3,17)]} [.pf ⟨[u0].length=1,rfl⟩, .pf ⟨aI 1 1 (mo 1 [(.int .i64 u0)]) (av (aB .i64) [u0]),(by intro i hi j hj;match i,j,hi,hj with|0,0,_,_=>rfl)⟩, .e (o_.length),0,1, .pf ⟨(o_++[u0]).length=o_.length+[u0].length,List.length_append⟩, .pf ⟨aI (o_.length+[u0].length) 1 (TD o_ u0) (IK o_ u0),dG _ _ _ _⟩]<| .en ((⟨u7,u1,u2,u3,u4,u5,u6⟩:State),(o_++[u0])) [] [(17,12)])
section
variable (u0:State) (x1:(List Transfer)) (o0:(List Bool)) (r_:(State × Bool)) (x2:Int) (u3:(List Source)) (u4:(List Link)) (u5:(List aM)) (u1:Int)
abbrev YE:Ob:=(.cells 29 [(.own 4 false u0.closed.length),(.own 5 false u0.locked.length),(.own 6 false u0.badLink.length),(.own 7 false u0.on_.length),(.own 8 false u0.badSource.length),(.own 9 false u0.earthed.length),(.own 10 false u0.badBus.length)])
abbrev PY:Nat × Option Ob:=(5,some (bC 4 1 af u0.locked))
abbrev Pj:Nat × Option Ob:=(6,some (bC 4 1 af u0.badLink))
abbrev Rv:Nat × Option Ob:=(7,some (bC 4 1 af u0.on_))
abbrev QN:Nat × Option Ob:=(8,some (bC 4 1 af u0.badSource))
abbrev PE:Nat × Option Ob:=(9,some (bC 4 1 af u0.earthed))
abbrev Rb:Nat × Option Ob:=(10,some (bC 4 1 af u0.badBus))
abbrev P6:=(List.replicate ((x1.length:Int).toNat) (false:Bool))
abbrev WT:List CV:=[(.own 99 false o0.length),(.own 5 false u0.locked.length),(.own 6 false u0.badLink.length),(.own 7 false u0.on_.length),(.own 8 false u0.badSource.length),(.own 9 false u0.earthed.length),(.own 10 false u0.badBus.length)]
abbrev Yc:Ob:=(.cells 29 (WT u0 o0))
abbrev WK:Nat × Option Ob:=(1,some (Yc u0 o0))
abbrev XC:Nat × Option Ob:=(2,some (Yc u0 o0))
abbrev Uk:=(⟨o0,u0.locked,u0.badLink,u0.on_,u0.badSource,u0.earthed,u0.badBus⟩:State)
abbrev Wz:List CV:=[(.own 148 false r_.1.closed.length),(.own 5 false u0.locked.length),(.own 6 false u0.badLink.length),(.own 7 false u0.on_.length),(.own 8 false u0.badSource.length),(.own 9 false u0.earthed.length),(.own 10 false u0.badBus.length)]
abbrev NP:Ob:=(bC 4 1 af r_.1.closed)
abbrev Ny:List SV:=[(.agg [(cI x2),(.d (k3 u3)),(.d (aQ none 6 Link.cell u4)),(.d (aQ none 4 aM.cell u5))]),(.agg (WT u0 o0)),(.agg [(cI ((at' x1 u1.toNat).watch)),(cI ((at' x1 u1.toNat).open_)),(cI ((at' x1 u1.toNat).close))])]
abbrev Ng:List (Nat × Option Ob):=[(99,some (bC 4 1 af o0)),(PY u0),(Pj u0),(Rv u0),(QN u0),(PE u0),(Rb u0)]
abbrev PV:List CV:=[(.own 7 false r_.1.closed.length),(.own 1 false u0.locked.length),(.own 2 false u0.badLink.length),(.own 3 false u0.on_.length),(.own 4 false u0.badSource.length),(.own 5 false u0.earthed.length),(.own 6 false u0.badBus.length)]
abbrev XE:TV:=(.dX [(.agg (PV u0 r_)),(sB r_.2)])
abbrev WB:=(oU (swp [(0,99),(1,5),(2,6),(3,7),(4,8),(1,9),(2,10),(3,148),(4,149)]) [(0,some (bC 4 1 af o0)),(KG u0),(Ku u0),(Jb u0),(JC u0),(Kz u0),(I8 u0),(7,bif r_.2 then some (NP r_)else none),(8,none)])
end
theorem yU (x1:(List Transfer)) (x2:Int) (u3:(List Source)) (u4:(List Link)) (u5:(List aM)) (u0:State) (u9:State) (o_:(List Int)):dF Tryz.prog 224 [(.one (.yl 0)),(sD (yP [(k27 x1)] 0)),(sD (k2 u3 x2 u4 u5)),(.one (.ptr 1 0))] [(0,some (.loop iJ 0 [(10,(vP 2 0)),(11,(vP 3 0))])),(1,some (YE u0)),(2,some (YE u0)),(3,some (.cells 39 [(.own 11 false o_.length)])),(4,some (bC 4 1 af u0.closed)),(PY u0),(Pj u0),(Rv u0),(QN u0),(PE u0),(Rb u0),(11,some (uQ o_))] (fun r=>(.dX [])) (fun r=>[(0,some (.loop iJ 0 [(10,(vP 2 0)),(11,(vP 3 0))])),(1,some (.cells 29 [(.own 12 false r.1.closed.length),(.own 5 false u0.locked.length),(.own 6 false u0.badLink.length),(.own 7 false u0.on_.length),(.own 8 false u0.badSource.length),(.own 9 false u0.earthed.length),(.own 10 false u0.badBus.length)])),(2,some (.cells 29 [(.own 12 false r.1.closed.length),(.own 5 false u0.locked.length),(.own 6 false u0.badLink.length),(.own 7 false u0.on_.length),(.own 8 false u0.badSource.length),(.own 9 false u0.earthed.length),(.own 10 false u0.badBus.length)])),(3,some (.cells 39 [(.own 13 false r.2.2.length)])),(4,none),(PY u0),(Pj u0),(Rv u0),(QN u0),(PE u0),(Rb u0),(11,none),(12,some (bC 4 1 af r.1.closed)),(13,some (bC 3 1 (aB .i64) r.2.2))]) (oq x1 x2 u3 u4 u5 u0 u9 o_):=
  dZ tT mX Tryz.func224 (
  .sp (σ:=((List Bool) × (List Int) × (List Bool))) (β:=((List Bool) × (List Int))) (u0.closed,o_,(P6 x1)) ⟨[0,1,2,3],[0,5,6,7,8,9,10],fun(o0,u7,u2)=>[(5,(vO 82 true u2.length))],fun(o0,u7,u2)=>[(WK u0 o0),(XC u0 o0),(3,some (.cells 39 [(.own 100 false u7.length)])),(4,none),(11,none),(82,some (bC 4 1 af u2)),(99,some (bC 4 1 af o0)),(100,some (uQ u7))]⟩ ⟨[],[0,5,6,7,8,9,10],fun(u6,u8)=>[],fun(u6,u8)=>[(WK u0 u6),(XC u0 u6),(3,some (.cells 39 [(.own 100 false u8.length)])),(4,none),(11,none),(99,some (bC 4 1 af u6)),(100,some (uQ u8))]⟩ (.a3 ((0:Int)≤(x1.length:Int)) ((1:Int)*(x1.length:Int)≤281474976710656) (((x1.length:Int):Int)≤9223372036854775807)<| .rg {an:=[(2, .arr (P6 x1).length (av af (P6 x1)))],fr:=[(2,151)]} [0, .e (((x1.length:Int):Int)),1,2, .pf ⟨(P6 x1).length=((x1.length:Int).toNat),List.length_replicate⟩, .pf ⟨aI ((x1.length:Int).toNat) 1 (fun _ j=>[(.bool false)].getD j .nilp) (av af (P6 x1)),mU _ _ _ _ _ (fun j hj=>(match j,hj with|0,_=>rfl))⟩]<| .im (.ra 4 152)<| .im (.re 3 0 11 153)<| .en () [] [(151,82),(152,99),(153,100)])
  (fun(o0,u7,u2)=> .r<| .lp (σ:=Int) (β:=Unit) (0) [] [] ⟨[0,1,2,3,5,13,14],[0,1,2,3,4,5,6,7,8,9,10,11,82,99,100],fun u1=>[(15,(vI u1))],fun u1=>[]⟩ ⟨[],[0,1,2,3,4,5,6,7,8,9,10,11,99,100],fun _=>[],fun _=>[]⟩
  (fun u1=> .r<| .it (.a1 ((0:Int)≤u1∧u1<(x1.length:Int))<| .rg {fr:=[(3,147)],fz:=[147]} []<| .a1 ((0:Int)≤u1∧u1<(u2.length:Int))<| .rg {} [0, .t 0 u1 u2.length]<| .it (.r<| .e (.next (k8 u1)))
  (.cl 3 (kX [(0,99),(1,5),(2,6),(3,7),(4,8),(1,9),(2,10),(3,148),(4,149)] (Ct (⟨x2,u3,u4,u5⟩:aC) (Uk u0 o0) (at' x1 u1.toNat))) fun r_=> .fk r_.2 (.rg {an:=[(3, .call [99,5,6,7,8,9,10] (.dX [(.agg (Wz u0 r_)),(sB true)]) [(99,some (bC 4 1 af o0)),(PY u0),(Pj u0),(Rv u0),(QN u0),(PE u0),(Rb u0),(148,some (NP r_)),(149,none)])],fr:=[(7,150)]} [.m [1,0] [Fn Tryz.prog 225 (Ny u0 x1 o0 x2 u3 u4 u5 u1) (Ng u0 o0) (TV.ren (swp [(0,99),(1,5),(2,6),(3,7),(4,8),(1,9),(2,10),(3,148),(4,149)]) (XE u0 r_)) (WB u0 o0 r_),r_.2=true] (Fn Tryz.prog 225 (Ny u0 x1 o0 x2 u3 u4 u5 u1) (Ng u0 o0) (TV.ren (swp [(0,99),(1,5),(2,6),(3,7),(4,8),(1,9),(2,10),(3,148),(4,149)]) (.dX [(.agg (PV u0 r_)),(sB true)])) (oU (swp [(0,99),(1,5),(2,6),(3,7),(4,8),(1,9),(2,10),(3,148),(4,149)]) [(0,some (bC 4 1 af o0)),(KG u0),(Ku u0),(Jb u0),(JC u0),(Kz u0),(I8 u0),(7,bif true then some (NP r_)else none),(8,none)])) (fun⟨hy,hb2,_⟩=>(congrArg (fun bq=>Fn Tryz.prog 225 (Ny u0 x1 o0 x2 u3 u4 u5 u1) (Ng u0 o0) (TV.ren (swp [(0,99),(1,5),(2,6),(3,7),(4,8),(1,9),(2,10),(3,148),(4,149)]) (.dX [(.agg (PV u0 r_)),(sB bq)])) (oU (swp [(0,99),(1,5),(2,6),(3,7),(4,8),(1,9),(2,10),(3,148),(4,149)]) [(0,some (bC 4 1 af o0)),(KG u0),(Ku u0),(Jb u0),(JC u0),(Kz u0),(I8 u0),(7,bif bq then some (NP r_)else none),(8,none)])) hb2).mp hy)]<| .r<| .t<| .a1 ((0:Int)≤u1∧u1<(u2.length:Int))<| .rg {an:=[(5, .arr 0 (av af (u2.set u1.toNat true)))]} [0, .t 0 u1 u2.length, .pf ⟨aI u2.length 1 (nk (av af u2) u1.toNat 0 [(.bool true)]) (av af (u2.set u1.toNat true)),fM _ _ _ _ _ _ _ _ rfl (fun j hj=>(match j,hj with|0,_=>rfl))⟩]<| .im (.ll 82 u2 (u2.set u1.toNat true))<| .cy 3 (Y3 [(1,148),(2,5),(3,6),(4,7),(2,8),(3,9),(4,10),(4,99),(11,100),(12,151)] (vM u1 r_.1.closed u0.locked u0.badLink u0.on_ u0.badSource u0.earthed u0.badBus (Uk u0 o0) u7)) fun v0=> .r<| .f<| .en (.done (.ret (.next (r_.1.closed,v0.2,(u2.set u1.toNat true))))) [] [(148,99),(151,100)])
  (.rg {an:=[(3, .call [99,5,6,7,8,9,10] (.dX [(.agg (Wz u0 r_)),(sB false)]) [(99,some (bC 4 1 af o0)),(PY u0),(Pj u0),(Rv u0),(QN u0),(PE u0),(Rb u0),(148,none),(149,none)])],fr:=[(7,150)]} [.m [1,0] [Fn Tryz.prog 225 (Ny u0 x1 o0 x2 u3 u4 u5 u1) (Ng u0 o0) (TV.ren (swp [(0,99),(1,5),(2,6),(3,7),(4,8),(1,9),(2,10),(3,148),(4,149)]) (XE u0 r_)) (WB u0 o0 r_),r_.2=false] (Fn Tryz.prog 225 (Ny u0 x1 o0 x2 u3 u4 u5 u1) (Ng u0 o0) (TV.ren (swp [(0,99),(1,5),(2,6),(3,7),(4,8),(1,9),(2,10),(3,148),(4,149)]) (.dX [(.agg (PV u0 r_)),(sB false)])) (oU (swp [(0,99),(1,5),(2,6),(3,7),(4,8),(1,9),(2,10),(3,148),(4,149)]) [(0,some (bC 4 1 af o0)),(KG u0),(Ku u0),(Jb u0),(JC u0),(Kz u0),(I8 u0),(7,bif false then some (NP r_)else none),(8,none)])) (fun⟨hy,hb2,_⟩=>(congrArg (fun bq=>Fn Tryz.prog 225 (Ny u0 x1 o0 x2 u3 u4 u5 u1) (Ng u0 o0) (TV.ren (swp [(0,99),(1,5),(2,6),(3,7),(4,8),(1,9),(2,10),(3,148),(4,149)]) (.dX [(.agg (PV u0 r_)),(sB bq)])) (oU (swp [(0,99),(1,5),(2,6),(3,7),(4,8),(1,9),(2,10),(3,148),(4,149)]) [(0,some (bC 4 1 af o0)),(KG u0),(Ku u0),(Jb u0),(JC u0),(Kz u0),(I8 u0),(7,bif bq then some (NP r_)else none),(8,none)])) hb2).mp hy)]<| .r<| .f<| .r<| .e (.next (k8 u1)))))
  (.e (.done (.brk ()))))
  (fun _=> .e (.done (.brk (o0,u7)))))
  (fun(u6,u8)=> .en ((Uk u0 u6),(Uk u0 u6),u8) [] [(99,12),(100,13)]))
theorem xN (s_:(List Part)) (v_:Part):dF Tryz.prog 226 [(sD (aQ none 2 Part.cell s_)),(.agg [(cI v_.kind),(cI v_.index)])] [] (fun r=>(vI r)) (fun _=>[]) (nN s_ v_):=
  dZ tT mX Tryz.func226 (
  .rg {fr:=[(0,1)],fz:=[1]} []<| .r<| .lp (σ:=Int) (β:=Unit) (0) [] [] ⟨[0,3,7],[],fun t8=>[(8,(vI t8))],fun t8=>[]⟩ ⟨[],[],fun _=>[],fun _=>[]⟩
  (fun t8=> .r<| .it (.r<| .a1 ((0:Int)≤t8∧t8<(s_.length:Int))<| .r<| .it (.r<| .e (.done (.ret t8)))
  (.r<| .e (.next (k8 t8))))
  (.e (.done (.brk ()))))
  (fun _=> .r<| .e (-1)))
theorem mM (s_:(List Part)) (v_:Part):dF Tryz.prog 157 [(sD (aQ none 2 Part.cell s_)),(.agg [(cI v_.kind),(cI v_.index)])] [] (fun r=>(vB r)) (fun _=>[]) (fF s_ v_):=
  dZ tT mX Tryz.func157 (
  .rg {fr:=[(0,1)],fz:=[1]} []<| .cl 2 (xN s_ v_) fun r_=> .r<| .e (decide (0≤r_)))
theorem Bq (kz:Int) (x1:Int):dF Tryz.prog 158 [(sI kz),(sD (yP [(.int .i64 x1)] 0))] [] (fun r=>(vB r)) (fun _=>[]) (rM kz x1):=
  dZ tT mX Tryz.func158 (
  .r<| .r<| .e (bif (decide (kz<0))then true else(decide (x1≤kz))))
section
variable (s_:(List Int)) (t8:Int)
abbrev Cb:DV:=(aQ none 1 (aB .i64) s_)
abbrev Dv:=((0:Int)≤t8∧t8<(s_.length:Int))
end
theorem tX (s_:(List Int)) (f_:Int):dF Tryz.prog 205 [(sD (Cb s_)),(sD (.fn 158 1 (pO [(yP [(.int .i64 f_)] 0)])))] [] (fun r=>(vI r)) (fun _=>[]) (jP s_ f_):=
  dZ tT mX Tryz.func205 (
  .r<| .r<| .lp (σ:=Int) (β:=Unit) (0) [] [] ⟨[0,1,7],[],fun t8=>[(8,(vI t8))],fun t8=>[]⟩ ⟨[],[],fun _=>[],fun _=>[]⟩
  (fun t8=> .r<| .it (.r<| .cl 5 (Bq (at' s_ t8.toNat) f_) fun r_=> .a1 (Dv s_ t8)<| .rg {} [0,1]<| .it (.r<| .e (.done (.ret t8)))
  (.r<| .e (.next (k8 t8))))
  (.e (.done (.brk ()))))
  (fun _=> .r<| .e (-1)))
theorem qf (s_:(List Int)) (f_:Int):dF Tryz.prog 129 [(sD (Cb s_)),(sD (.fn 158 1 (pO [(yP [(.int .i64 f_)] 0)])))] [] (fun r=>(vB r)) (fun _=>[]) (fe s_ f_):=
  dZ tT mX Tryz.func129 (
  .r<| .cl 2 (tX s_ f_) fun r_=> .r<| .e (decide (0≤r_)))
end
end Sg
