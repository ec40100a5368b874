import Derived.Test.YtbjhjmcpfmhgdaaGreatWsGm
import Derived.Test.YtbjhjmcpfmhgdaaGreatProg
import Derived.Test.YtbjhjmcpfmhgdaaGreatWsLf
set_option linter.all false
namespace Sg
open Go Go.Proofs
set_option maxRecDepth 20000
noncomputable section
noncomputable def TT:List (Nat × TI):=[(1,⟨Tryz.t1.desc,Tryz.t1.size,Tryz.t1.bytes,zl Tryz.t1,false⟩),
  (3,⟨Tryz.t3.desc,Tryz.t3.size,Tryz.t3.bytes,zl Tryz.t3,false⟩),
  (4,⟨Tryz.t4.desc,Tryz.t4.size,Tryz.t4.bytes,zl Tryz.t4,false⟩),
  (5,⟨Tryz.t5.desc,Tryz.t5.size,Tryz.t5.bytes,zl Tryz.t5,false⟩),
  (9,⟨Tryz.t9.desc,Tryz.t9.size,Tryz.t9.bytes,zl Tryz.t9,false⟩),
  (22,⟨Tryz.t22.desc,Tryz.t22.size,Tryz.t22.bytes,zl Tryz.t22,false⟩),
  (23,⟨Tryz.t23.desc,Tryz.t23.size,Tryz.t23.bytes,zl Tryz.t23,false⟩),
  (24,⟨Tryz.t24.desc,Tryz.t24.size,Tryz.t24.bytes,zl Tryz.t24,false⟩),
  (26,⟨Tryz.t25.desc,Tryz.t26.size,Tryz.t26.bytes,zl Tryz.t26,false⟩),
  (27,⟨Tryz.t27.desc,Tryz.t27.size,Tryz.t27.bytes,zl Tryz.t27,false⟩),
  (29,⟨Tryz.t28.desc,Tryz.t29.size,Tryz.t29.bytes,zl Tryz.t29,false⟩),
  (32,⟨Tryz.t3.desc,Tryz.t32.size,Tryz.t32.bytes,zl Tryz.t32,false⟩),
  (33,⟨Tryz.t33.desc,Tryz.t33.size,Tryz.t33.bytes,zl Tryz.t33,false⟩),
  (35,⟨Tryz.t34.desc,Tryz.t35.size,Tryz.t35.bytes,zl Tryz.t35,false⟩),
  (36,⟨Tryz.t3.desc,Tryz.t36.size,Tryz.t36.bytes,zl Tryz.t36,false⟩),
  (38,⟨Tryz.t37.desc,Tryz.t38.size,Tryz.t38.bytes,zl Tryz.t38,true⟩),
  (39,⟨Tryz.t39.desc,Tryz.t39.size,Tryz.t39.bytes,zl Tryz.t39,false⟩),
  (62,⟨Tryz.t62.desc,Tryz.t62.size,Tryz.t62.bytes,zl Tryz.t62,false⟩),
  (63,⟨Tryz.t63.desc,Tryz.t63.size,Tryz.t63.bytes,zl Tryz.t63,false⟩),
  (65,⟨Tryz.t64.desc,Tryz.t65.size,Tryz.t65.bytes,zl Tryz.t65,false⟩),
  (70,⟨Tryz.t70.desc,Tryz.t70.size,Tryz.t70.bytes,zl Tryz.t70,false⟩),
  (71,⟨Tryz.t71.desc,Tryz.t71.size,Tryz.t71.bytes,zl Tryz.t71,false⟩),
  (73,⟨Tryz.t72.desc,Tryz.t73.size,Tryz.t73.bytes,zl Tryz.t73,false⟩),
  (76,⟨Tryz.t3.desc,Tryz.t76.size,Tryz.t76.bytes,zl Tryz.t76,false⟩),
  (78,⟨Tryz.t77.desc,Tryz.t78.size,Tryz.t78.bytes,zl Tryz.t78,true⟩),
  (79,⟨Tryz.t79.desc,Tryz.t79.size,Tryz.t79.bytes,zl Tryz.t79,false⟩),
  (81,⟨Tryz.t80.desc,Tryz.t81.size,Tryz.t81.bytes,zl Tryz.t81,false⟩),
  (82,⟨Tryz.t82.desc,Tryz.t82.size,Tryz.t82.bytes,zl Tryz.t82,false⟩),
  (130,⟨Tryz.t130.desc,Tryz.t130.size,Tryz.t130.bytes,zl Tryz.t130,false⟩),
  (133,⟨Tryz.t133.desc,Tryz.t133.size,Tryz.t133.bytes,zl Tryz.t133,true⟩),
  (145,⟨Tryz.t145.desc,Tryz.t145.size,Tryz.t145.bytes,zl Tryz.t145,true⟩),
  (147,⟨Tryz.t146.desc,Tryz.t147.size,Tryz.t147.bytes,zl Tryz.t147,true⟩),
  (155,⟨Tryz.t155.desc,Tryz.t155.size,Tryz.t155.bytes,zl Tryz.t155,false⟩),
  (185,⟨Tryz.t80.desc,Tryz.t185.size,Tryz.t185.bytes,zl Tryz.t185,false⟩),
  (190,⟨Tryz.t189.desc,Tryz.t190.size,Tryz.t190.bytes,zl Tryz.t190,true⟩),
  (191,⟨Tryz.t189.desc,Tryz.t191.size,Tryz.t191.bytes,zl Tryz.t191,true⟩),
  (196,⟨Tryz.t196.desc,Tryz.t196.size,Tryz.t196.bytes,zl Tryz.t196,false⟩),
  (198,⟨Tryz.t5.desc,Tryz.t198.size,Tryz.t198.bytes,zl Tryz.t198,false⟩),
  (202,⟨Tryz.t202.desc,Tryz.t202.size,Tryz.t202.bytes,zl Tryz.t202,true⟩),
  (209,⟨Tryz.t209.desc,Tryz.t209.size,Tryz.t209.bytes,zl Tryz.t209,true⟩),
  (210,⟨Tryz.t210.desc,Tryz.t210.size,Tryz.t210.bytes,zl Tryz.t210,false⟩),
  (218,⟨Tryz.t218.desc,Tryz.t218.size,Tryz.t218.bytes,zl Tryz.t218,false⟩),
  (229,⟨Tryz.t229.desc,Tryz.t229.size,Tryz.t229.bytes,zl Tryz.t229,false⟩),
  (231,⟨Tryz.t231.desc,Tryz.t231.size,Tryz.t231.bytes,zl Tryz.t231,false⟩),
  (232,⟨Tryz.t232.desc,Tryz.t232.size,Tryz.t232.bytes,zl Tryz.t232,false⟩),
  (247,⟨Tryz.t247.desc,Tryz.t247.size,Tryz.t247.bytes,zl Tryz.t247,false⟩),
  (248,⟨Tryz.t248.desc,Tryz.t248.size,Tryz.t248.bytes,zl Tryz.t248,false⟩),
  (265,⟨Tryz.t265.desc,Tryz.t265.size,Tryz.t265.bytes,zl Tryz.t265,false⟩),
  (266,⟨Tryz.t266.desc,Tryz.t266.size,Tryz.t266.bytes,zl Tryz.t266,false⟩),
  (272,⟨Tryz.t272.desc,Tryz.t272.size,Tryz.t272.bytes,zl Tryz.t272,false⟩),
  (282,⟨Tryz.t281.desc,Tryz.t282.size,Tryz.t282.bytes,zl Tryz.t282,true⟩),
  (284,⟨Tryz.t284.desc,Tryz.t284.size,Tryz.t284.bytes,zl Tryz.t284,false⟩),
  (287,⟨Tryz.t286.desc,Tryz.t287.size,Tryz.t287.bytes,zl Tryz.t287,false⟩),
  (290,⟨Tryz.t290.desc,Tryz.t290.size,Tryz.t290.bytes,zl Tryz.t290,false⟩),
  (293,⟨Tryz.t293.desc,Tryz.t293.size,Tryz.t293.bytes,zl Tryz.t293,false⟩),
  (296,⟨Tryz.t296.desc,Tryz.t296.size,Tryz.t296.bytes,zl Tryz.t296,false⟩),
  (313,⟨Tryz.t313.desc,Tryz.t313.size,Tryz.t313.bytes,zl Tryz.t313,false⟩),
  (318,⟨Tryz.t318.desc,Tryz.t318.size,Tryz.t318.bytes,zl Tryz.t318,false⟩),
  (329,⟨Tryz.t329.desc,Tryz.t329.size,Tryz.t329.bytes,zl Tryz.t329,false⟩),
  (331,⟨Tryz.t331.desc,Tryz.t331.size,Tryz.t331.bytes,zl Tryz.t331,false⟩),
  (337,⟨Tryz.t336.desc,Tryz.t337.size,Tryz.t337.bytes,zl Tryz.t337,false⟩)]
theorem tT:jY Tryz.prog TT:=⟨dB (by kernel_rfl) (by kernel_rfl) (by kernel_rfl),⟨dU,bH (by kernel_rfl)⟩,dB (by kernel_rfl) (by kernel_rfl) (by kernel_rfl),⟨dU,bH (by kernel_rfl)⟩,dB (by kernel_rfl) (by kernel_rfl) (by kernel_rfl),⟨dU,bH (by kernel_rfl)⟩,dB (by kernel_rfl) (by kernel_rfl) (by kernel_rfl),⟨dU,bH (by kernel_rfl)⟩,dB (by kernel_rfl) (by kernel_rfl) (by kernel_rfl),⟨dU,bH (by kernel_rfl)⟩,dB (by kernel_rfl) (by kernel_rfl) (by kernel_rfl),⟨dU,bH (by kernel_rfl)⟩,dB (by kernel_rfl) (by kernel_rfl) (by kernel_rfl),⟨dU,bH (by kernel_rfl)⟩,dB (by kernel_rfl) (by kernel_rfl) (by kernel_rfl),⟨dU,bH (by kernel_rfl)⟩,dB (by kernel_rfl) (by kernel_rfl) (by kernel_rfl),⟨dU,bH (by kernel_rfl)⟩,dB (by kernel_rfl) (by kernel_rfl) (by kernel_rfl),⟨dU,bH (by kernel_rfl)⟩,dB (by kernel_rfl) (by kernel_rfl) (by kernel_rfl),⟨dU,bH (by kernel_rfl)⟩,dB (by kernel_rfl) (by kernel_rfl) (by kernel_rfl),⟨dU,bH (by kernel_rfl)⟩,dB (by kernel_rfl) (by kernel_rfl) (by kernel_rfl),⟨dU,bH (by kernel_rfl)⟩,dB (by kernel_rfl) (by kernel_rfl) (by kernel_rfl),⟨dU,bH (by kernel_rfl)⟩,dB (by kernel_rfl) (by kernel_rfl) (by kernel_rfl),⟨dU,bH (by kernel_rfl)⟩,dB (by kernel_rfl) (by kernel_rfl) (by kernel_rfl),⟨fun _=> ⟨by kernel_rfl,by kernel_rfl⟩,bH (by kernel_rfl)⟩,dB (by kernel_rfl) (by kernel_rfl) (by kernel_rfl),⟨dU,bH (by kernel_rfl)⟩,dB (by kernel_rfl) (by kernel_rfl) (by kernel_rfl),⟨dU,bH (by kernel_rfl)⟩,dB (by kernel_rfl) (by kernel_rfl) (by kernel_rfl),⟨dU,bH (by kernel_rfl)⟩,dB (by kernel_rfl) (by kernel_rfl) (by kernel_rfl),⟨dU,bH (by kernel_rfl)⟩,dB (by kernel_rfl) (by kernel_rfl) (by kernel_rfl),⟨dU,bH (by kernel_rfl)⟩,dB (by kernel_rfl) (by kernel_rfl) (by kernel_rfl),⟨dU,bH (by kernel_rfl)⟩,dB (by kernel_rfl) (by kernel_rfl) (by kernel_rfl),⟨dU,bH (by kernel_rfl)⟩,dB (by kernel_rfl) (by kernel_rfl) (by kernel_rfl),⟨dU,bH (by kernel_rfl)⟩,dB (by kernel_rfl) (by kernel_rfl) (by kernel_rfl),⟨fun _=> ⟨by kernel_rfl,by kernel_rfl⟩,bH (by kernel_rfl)⟩,dB (by kernel_rfl) (by kernel_rfl) (by kernel_rfl),⟨dU,bH (by kernel_rfl)⟩,dB (by kernel_rfl) (by kernel_rfl) (by kernel_rfl),⟨dU,bH (by kernel_rfl)⟩,dB (by kernel_rfl) (by kernel_rfl) (by kernel_rfl),⟨dU,bH (by kernel_rfl)⟩,dB (by kernel_rfl) (by kernel_rfl) (by kernel_rfl),⟨dU,bH (by kernel_rfl)⟩,dB (by kernel_rfl) (by kernel_rfl) (by kernel_rfl),⟨fun _=> ⟨by kernel_rfl,by kernel_rfl⟩,bH (by kernel_rfl)⟩,dB (by kernel_rfl) (by kernel_rfl) (by kernel_rfl),⟨fun _=> ⟨by kernel_rfl,by kernel_rfl⟩,bH (by kernel_rfl)⟩,dB (by kernel_rfl) (by kernel_rfl) (by kernel_rfl),⟨fun _=> ⟨by kernel_rfl,by kernel_rfl⟩,bH (by kernel_rfl)⟩,dB (by kernel_rfl) (by kernel_rfl) (by kernel_rfl),⟨dU,bH (by kernel_rfl)⟩,dB (by kernel_rfl) (by kernel_rfl) (by kernel_rfl),⟨dU,bH (by kernel_rfl)⟩,dB (by kernel_rfl) (by kernel_rfl) (by kernel_rfl),⟨fun _=> ⟨by kernel_rfl,by kernel_rfl⟩,bH (by kernel_rfl)⟩,dB (by kernel_rfl) (by kernel_rfl) (by kernel_rfl),⟨fun _=> ⟨by kernel_rfl,by kernel_rfl⟩,bH (by kernel_rfl)⟩,dB (by kernel_rfl) (by kernel_rfl) (by kernel_rfl),⟨dU,bH (by kernel_rfl)⟩,dB (by kernel_rfl) (by kernel_rfl) (by kernel_rfl),⟨dU,bH (by kernel_rfl)⟩,dB (by kernel_rfl) (by kernel_rfl) (by kernel_rfl),⟨fun _=> ⟨by kernel_rfl,by kernel_rfl⟩,bH (by kernel_rfl)⟩,dB (by kernel_rfl) (by kernel_rfl) (by kernel_rfl),⟨fun _=> ⟨by kernel_rfl,by kernel_rfl⟩,bH (by kernel_rfl)⟩,dB (by kernel_rfl) (by kernel_rfl) (by kernel_rfl),⟨dU,bH (by kernel_rfl)⟩,dB (by kernel_rfl) (by kernel_rfl) (by kernel_rfl),⟨dU,bH (by kernel_rfl)⟩,dB (by kernel_rfl) (by kernel_rfl) (by kernel_rfl),⟨dU,bH (by kernel_rfl)⟩,dB (by kernel_rfl) (by kernel_rfl) (by kernel_rfl),⟨dU,bH (by kernel_rfl)⟩,dB (by kernel_rfl) (by kernel_rfl) (by kernel_rfl),⟨dU,bH (by kernel_rfl)⟩,dB (by kernel_rfl) (by kernel_rfl) (by kernel_rfl),⟨dU,bH (by kernel_rfl)⟩,dB (by kernel_rfl) (by kernel_rfl) (by kernel_rfl),⟨dU,bH (by kernel_rfl)⟩,dB (by kernel_rfl) (by kernel_rfl) (by kernel_rfl),⟨dU,bH (by kernel_rfl)⟩,dB (by kernel_rfl) (by kernel_rfl) (by kernel_rfl),⟨dU,bH (by kernel_rfl)⟩,dB (by kernel_rfl) (by kernel_rfl) (by kernel_rfl),⟨dU,bH (by kernel_rfl)⟩,dB (by kernel_rfl) (by kernel_rfl) (by kernel_rfl),⟨fun _=> ⟨by kernel_rfl,by kernel_rfl⟩,bH (by kernel_rfl)⟩,dB (by kernel_rfl) (by kernel_rfl) (by kernel_rfl),⟨dU,bH (by kernel_rfl)⟩,dB (by kernel_rfl) (by kernel_rfl) (by kernel_rfl),⟨dU,bH (by kernel_rfl)⟩,dB (by kernel_rfl) (by kernel_rfl) (by kernel_rfl),⟨dU,bH (by kernel_rfl)⟩,dB (by kernel_rfl) (by kernel_rfl) (by kernel_rfl),⟨dU,bH (by kernel_rfl)⟩,dB (by kernel_rfl) (by kernel_rfl) (by kernel_rfl),⟨dU,bH (by kernel_rfl)⟩,dB (by kernel_rfl) (by kernel_rfl) (by kernel_rfl),⟨dU,bH (by kernel_rfl)⟩,dB (by kernel_rfl) (by kernel_rfl) (by kernel_rfl),⟨dU,bH (by kernel_rfl)⟩,dB (by kernel_rfl) (by kernel_rfl) (by kernel_rfl),⟨dU,bH (by kernel_rfl)⟩,dB (by kernel_rfl) (by kernel_rfl) (by kernel_rfl),⟨dU,bH (by kernel_rfl)⟩,dB (by kernel_rfl) (by kernel_rfl) (by kernel_rfl),⟨dU,bH (by kernel_rfl)⟩,trivial⟩
theorem mX:Tryz.prog.follows .mixedOrders=true:=by kernel_rfl
def I7:Go.Shelf.Ren:=⟨fun|6=>207|14=>261|15=>176|20=>288|21=>289|22=>290|23=>291|24=>292|25=>293|26=>294|27=>295|28=>241|29=>242|46=>299|47=>277|48=>278|49=>300|50=>301|57=>302|n=>n,fun|0=>0|3=>3|4=>4|5=>5|9=>9|22=>155|24=>145|25=>301|39=>272|45=>321|46=>322|50=>326|53=>329|55=>331|66=>357|70=>361|76=>374|77=>375|n=>n,fun n=>n⟩
theorem Pp:Go.Proofs.SlLaysF0.n6 Tryz.prog I7:=⟨by kernel_rfl,⟨Tryz.f207.name,by kernel_rfl,Tryz.func207.trans (congrArg some (by kernel_rfl))⟩,⟨Tryz.f261.name,by kernel_rfl,Tryz.func261.trans (congrArg some (by kernel_rfl))⟩,Tryz.func176.trans (congrArg some (by kernel_rfl)),⟨Tryz.f288.name,by kernel_rfl,Tryz.func288.trans (congrArg some (by kernel_rfl))⟩,⟨Tryz.f289.name,by kernel_rfl,Tryz.func289.trans (congrArg some (by kernel_rfl))⟩,⟨Tryz.f290.name,by kernel_rfl,Tryz.func290.trans (congrArg some (by kernel_rfl))⟩,⟨Tryz.f291.name,by kernel_rfl,Tryz.func291.trans (congrArg some (by kernel_rfl))⟩,⟨Tryz.f292.name,by kernel_rfl,Tryz.func292.trans (congrArg some (by kernel_rfl))⟩,⟨Tryz.f293.name,by kernel_rfl,Tryz.func293.trans (congrArg some (by kernel_rfl))⟩,⟨Tryz.f294.name,by kernel_rfl,Tryz.func294.trans (congrArg some (by kernel_rfl))⟩,⟨Tryz.f295.name,by kernel_rfl,Tryz.func295.trans (congrArg some (by kernel_rfl))⟩,Tryz.func241.trans (congrArg some (by kernel_rfl)),Tryz.func242.trans (congrArg some (by kernel_rfl)),⟨Tryz.f299.name,by kernel_rfl,Tryz.func299.trans (congrArg some (by kernel_rfl))⟩,Tryz.func277.trans (congrArg some (by kernel_rfl)),Tryz.func278.trans (congrArg some (by kernel_rfl)),⟨Tryz.f300.name,by kernel_rfl,Tryz.func300.trans (congrArg some (by kernel_rfl))⟩,⟨Tryz.f301.name,by kernel_rfl,Tryz.func301.trans (congrArg some (by kernel_rfl))⟩,⟨Tryz.f302.name,by kernel_rfl,Tryz.func302.trans (congrArg some (by kernel_rfl))⟩,Tryz.underlying0,Tryz.isAgg0,Tryz.sizeOf0,Tryz.zeroValue0,Tryz.underlying3,Tryz.isAgg3,Tryz.sizeOf3,Tryz.zeroValue3,Tryz.underlying4,Tryz.isAgg4,Tryz.sizeOf4,Tryz.zeroValue4,Tryz.underlying5,Tryz.isAgg5,Tryz.sizeOf5,Tryz.zeroValue5,Tryz.underlying9,Tryz.isAgg9,Tryz.sizeOf9,Tryz.zeroValue9,Tryz.underlying155,Tryz.isAgg155,Tryz.sizeOf155,Tryz.zeroValue155,Tryz.underlying301,Tryz.isAgg301,Tryz.sizeOf301,Tryz.zeroValue301,Tryz.underlying272,Tryz.isAgg272,Tryz.sizeOf272,Tryz.zeroValue272,Tryz.underlying321,Tryz.isAgg321,Tryz.sizeOf321,Tryz.zeroValue321,Tryz.underlying322,Tryz.isAgg322,Tryz.sizeOf322,Tryz.zeroValue322,Tryz.underlying326,Tryz.isAgg326,Tryz.sizeOf326,Tryz.zeroValue326,Tryz.underlying329,Tryz.isAgg329,Tryz.sizeOf329,Tryz.zeroValue329,Tryz.underlying331,Tryz.isAgg331,Tryz.sizeOf331,Tryz.zeroValue331,Tryz.underlying357,Tryz.isAgg357,Tryz.sizeOf357,Tryz.zeroValue357,Tryz.underlying361,Tryz.isAgg361,Tryz.sizeOf361,Tryz.zeroValue361,Tryz.underlying374,Tryz.isAgg374,Tryz.sizeOf374,Tryz.zeroValue374,Tryz.underlying375,Tryz.isAgg375,Tryz.sizeOf375,Tryz.zeroValue375⟩
theorem R7 (w:World):(isAgg (I7.t 24)).run Tryz.prog w= .ok true w:=Tryz.isAgg145 w
theorem Pz (w:World):(Go.sizeOf (I7.t 24)).run Tryz.prog w= .ok 2 w:=Tryz.sizeOf145 w
def QM:Go.Shelf.Ren:=⟨fun|6=>96|14=>175|15=>176|20=>233|21=>234|22=>235|23=>236|24=>237|25=>238|26=>239|27=>240|28=>241|29=>242|46=>276|47=>277|48=>278|49=>279|50=>280|57=>298|n=>n,fun|0=>0|3=>3|4=>4|5=>5|9=>9|22=>82|24=>39|25=>206|39=>272|45=>321|46=>322|50=>326|53=>329|55=>331|66=>357|70=>361|76=>374|77=>375|n=>n,fun n=>n⟩
theorem Oq:Go.Proofs.SlLaysF.n6 Tryz.prog QM:=⟨by kernel_rfl,⟨Tryz.f96.name,by kernel_rfl,Tryz.func96.trans (congrArg some (by kernel_rfl))⟩,⟨Tryz.f175.name,by kernel_rfl,Tryz.func175.trans (congrArg some (by kernel_rfl))⟩,Tryz.func176.trans (congrArg some (by kernel_rfl)),⟨Tryz.f233.name,by kernel_rfl,Tryz.func233.trans (congrArg some (by kernel_rfl))⟩,⟨Tryz.f234.name,by kernel_rfl,Tryz.func234.trans (congrArg some (by kernel_rfl))⟩,⟨Tryz.f235.name,by kernel_rfl,Tryz.func235.trans (congrArg some (by kernel_rfl))⟩,⟨Tryz.f236.name,by kernel_rfl,Tryz.func236.trans (congrArg some (by kernel_rfl))⟩,⟨Tryz.f237.name,by kernel_rfl,Tryz.func237.trans (congrArg some (by kernel_rfl))⟩,⟨Tryz.f238.name,by kernel_rfl,Tryz.func238.trans (congrArg some (by kernel_rfl))⟩,⟨Tryz.f239.name,by kernel_rfl,Tryz.func239.trans (congrArg some (by kernel_rfl))⟩,⟨Tryz.f240.name,by kernel_rfl,Tryz.func240.trans (congrArg some (by kernel_rfl))⟩,Tryz.func241.trans (congrArg some (by kernel_rfl)),Tryz.func242.trans (congrArg some (by kernel_rfl)),⟨Tryz.f276.name,by kernel_rfl,Tryz.func276.trans (congrArg some (by kernel_rfl))⟩,Tryz.func277.trans (congrArg some (by kernel_rfl)),Tryz.func278.trans (congrArg some (by kernel_rfl)),⟨Tryz.f279.name,by kernel_rfl,Tryz.func279.trans (congrArg some (by kernel_rfl))⟩,⟨Tryz.f280.name,by kernel_rfl,Tryz.func280.trans (congrArg some (by kernel_rfl))⟩,⟨Tryz.f298.name,by kernel_rfl,Tryz.func298.trans (congrArg some (by kernel_rfl))⟩,Tryz.underlying0,Tryz.isAgg0,Tryz.sizeOf0,Tryz.zeroValue0,Tryz.underlying3,Tryz.isAgg3,Tryz.sizeOf3,Tryz.zeroValue3,Tryz.underlying4,Tryz.isAgg4,Tryz.sizeOf4,Tryz.zeroValue4,Tryz.underlying5,Tryz.isAgg5,Tryz.sizeOf5,Tryz.zeroValue5,Tryz.underlying9,Tryz.isAgg9,Tryz.sizeOf9,Tryz.zeroValue9,Tryz.underlying82,Tryz.isAgg82,Tryz.sizeOf82,Tryz.zeroValue82,Tryz.isAgg39,Tryz.sizeOf39,Tryz.underlying206,Tryz.isAgg206,Tryz.sizeOf206,Tryz.zeroValue206,Tryz.underlying272,Tryz.isAgg272,Tryz.sizeOf272,Tryz.zeroValue272,Tryz.underlying321,Tryz.isAgg321,Tryz.sizeOf321,Tryz.zeroValue321,Tryz.underlying322,Tryz.isAgg322,Tryz.sizeOf322,Tryz.zeroValue322,Tryz.underlying326,Tryz.isAgg326,Tryz.sizeOf326,Tryz.zeroValue326,Tryz.underlying329,Tryz.isAgg329,Tryz.sizeOf329,Tryz.zeroValue329,Tryz.underlying331,Tryz.isAgg331,Tryz.sizeOf331,Tryz.zeroValue331,Tryz.underlying357,Tryz.isAgg357,Tryz.sizeOf357,Tryz.zeroValue357,Tryz.underlying361,Tryz.isAgg361,Tryz.sizeOf361,Tryz.zeroValue361,Tryz.underlying374,Tryz.isAgg374,Tryz.sizeOf374,Tryz.zeroValue374,Tryz.underlying375,Tryz.isAgg375,Tryz.sizeOf375,Tryz.zeroValue375⟩
theorem dA (a:Int) (b:Int):bN Tryz.prog 82 [(sI a),(sI b)] [] (fun r=>(.v (.agg [(cI r.a),(cI r.b),(cI r.kind),(cI r.most),(cI r.ohm),(.d (aH none 2 lI.cell r.trip))]))) (fun _=>[]) (gW a b):=
  bO tT mX Tryz.func82 (
  .rg {fr:=[(0,1)]} []<| .r<| .en (⟨a,b,3,500,10,([]:List lI)⟩:Link) [1] [])
section
variable (r_:Link) (u0:Link) (u1:Link)
abbrev k0:List DV:=[(.int .i64 0),(.int .i64 1),(.int .i64 500),(.int .i64 1),(.int .i64 20),(.int .i64 1),(.int .i64 1),(.int .i64 500),(.int .i64 1),(.int .i64 20)]
abbrev k1:=(eO 6 [(.int .i64 r_.a),(.int .i64 r_.b),(.int .i64 r_.kind),(.int .i64 r_.most),(.int .i64 r_.ohm),(aH none 2 lI.cell r_.trip),(.int .i64 u0.a),(.int .i64 u0.b),(.int .i64 u0.kind),(.int .i64 u0.most),(.int .i64 u0.ohm),(aH none 2 lI.cell u0.trip),(.int .i64 u1.a),(.int .i64 u1.b),(.int .i64 u1.kind),(.int .i64 u1.most),(.int .i64 u1.ohm),(aH none 2 lI.cell u1.trip)])
abbrev k2:DV:=(aH (some true) 2 Part.cell [(⟨3,0⟩:Part)])
abbrev k3:DV:=(aH (some true) 2 Part.cell [(⟨3,1⟩:Part)])
abbrev k4:DV:=(aH (some true) 5 Source.cell [(⟨0,1,500,1,20⟩:Source),(⟨1,1,500,1,20⟩:Source)])
abbrev k5:DV:=(aH (some true) 1 af (List.replicate 3 (false:Bool)))
abbrev k6:DV:=(aH (some true) 1 af (List.replicate 4 (false:Bool)))
abbrev k7:=(⟨(⟨4,[(⟨0,1,500,1,20⟩:Source),(⟨1,1,500,1,20⟩:Source)],[r_,u0,u1],[(⟨(⟨2,3⟩:ai),100,2⟩:aO)]⟩:aF),(⟨[true,true,false],(List.replicate 3 (false:Bool)),(List.replicate 3 (false:Bool)),[true,true],(List.replicate 2 (false:Bool)),(List.replicate 4 (false:Bool)),(List.replicate 4 (false:Bool))⟩:State),([]:List Transfer),[(⟨[(⟨3,0⟩:Part)],2,0,10,2,([]:List Int)⟩:aC),(⟨[(⟨3,1⟩:Part)],3,0,10,2,([]:List Int)⟩:aC)],10,false⟩:bE)
end
theorem jr:bN Tryz.prog 22 [] [] (fun r=>(.v (.agg [(cI r.plant.buses),(.d (aH none 5 Source.cell r.plant.sources)),(.d (aH none 6 Link.cell r.plant.links)),(.d (aH none 4 aO.cell r.plant.racks)),(.d (aH none 1 af r.state.closed)),(.d (aH none 1 af r.state.locked)),(.d (aH none 1 af r.state.badLink)),(.d (aH none 1 af r.state.on_)),(.d (aH none 1 af r.state.badSource)),(.d (aH none 1 af r.state.earthed)),(.d (aH none 1 af r.state.badBus)),(.d (aH none 3 Transfer.cell r.transfers)),(.d (aH none 6 aC.cell r.jobs)),(cI r.people),(cB r.redundant)]))) (fun _=>[]) (bX):=
  bO tT mX Tryz.func22 (
  .rg {fr:=[(0,16)]} []<| .r<| .cl 4 (dA 0 2) fun r_=> .cl 6 (dA 1 3) fun u0=> .cl 8 (dA 2 3) fun u1=> .rg {an:=[(2, .arr [(⟨0,1,500,1,20⟩:Source),(⟨1,1,500,1,20⟩:Source)].length (ah Source.cell [(⟨0,1,500,1,20⟩:Source),(⟨1,1,500,1,20⟩:Source)])),(9, .arr [r_,u0,u1].length (ah Link.cell [r_,u0,u1])),(12, .arr [(⟨(⟨2,3⟩:ai),100,2⟩:aO)].length (ah aO.cell [(⟨(⟨2,3⟩:ai),100,2⟩:aO)]))],fr:=[(2,17),(9,18),(12,19),(14,20)]} [.pf ⟨[(⟨0,1,500,1,20⟩:Source),(⟨1,1,500,1,20⟩:Source)].length=2,rfl⟩, .pf ⟨av 2 5 (eO 5 k0) (ah Source.cell [(⟨0,1,500,1,20⟩:Source),(⟨1,1,500,1,20⟩:Source)]),(by intro i hi j hj;match i,j,hi,hj with|0,0,_,_=>rfl|0,1,_,_=>rfl|0,2,_,_=>rfl|0,3,_,_=>rfl|0,4,_,_=>rfl|1,0,_,_=>rfl|1,1,_,_=>rfl|1,2,_,_=>rfl|1,3,_,_=>rfl|1,4,_,_=>rfl)⟩,2,1,0, .pf ⟨[r_,u0,u1].length=3,rfl⟩, .pf ⟨av 3 6 (k1 r_ u0 u1) (ah Link.cell [r_,u0,u1]),(by intro i hi j hj;match i,j,hi,hj with|0,0,_,_=>rfl|0,1,_,_=>rfl|0,2,_,_=>rfl|0,3,_,_=>rfl|0,4,_,_=>rfl|0,5,_,_=>rfl|1,0,_,_=>rfl|1,1,_,_=>rfl|1,2,_,_=>rfl|1,3,_,_=>rfl|1,4,_,_=>rfl|1,5,_,_=>rfl|2,0,_,_=>rfl|2,1,_,_=>rfl|2,2,_,_=>rfl|2,3,_,_=>rfl|2,4,_,_=>rfl|2,5,_,_=>rfl)⟩, .pf ⟨[(⟨(⟨2,3⟩:ai),100,2⟩:aO)].length=1,rfl⟩, .pf ⟨av 1 4 (eO 4 [(.int .i64 2),(.int .i64 3),(.int .i64 100),(.int .i64 2)]) (ah aO.cell [(⟨(⟨2,3⟩:ai),100,2⟩:aO)]),(by intro i hi j hj;match i,j,hi,hj with|0,0,_,_=>rfl|0,1,_,_=>rfl|0,2,_,_=>rfl|0,3,_,_=>rfl)⟩]<| .as _ inferInstance [(0:Int)≤3,(1:Int)*3≤281474976710656,(3:Int)≤9223372036854775807,(0:Int)≤2,(1:Int)*2≤281474976710656,(2:Int)≤9223372036854775807,(0:Int)≤4,(1:Int)*4≤281474976710656,(4:Int)≤9223372036854775807] (fun h=> ⟨h.1,h.2.1,h.2.2.1,h.2.2.2.1,h.2.2.2.2.1,h.2.2.2.2.2.1,h.2.2.2.2.2.2.1,h.2.2.2.2.2.2.2.1,h.2.2.2.2.2.2.2.2,trivial⟩:(((0:Int)≤3)∧((1:Int)*3≤281474976710656)∧((3:Int)≤9223372036854775807)∧((0:Int)≤2)∧((1:Int)*2≤281474976710656)∧((2:Int)≤9223372036854775807)∧((0:Int)≤4)∧((1:Int)*4≤281474976710656)∧((4:Int)≤9223372036854775807))→_)<| .rg {an:=[(0, .arr [true,true,false].length (ah af [true,true,false])),(1, .arr (List.replicate 3 (false:Bool)).length (ah af (List.replicate 3 (false:Bool)))),(2, .arr (List.replicate 3 (false:Bool)).length (ah af (List.replicate 3 (false:Bool)))),(3, .arr [true,true].length (ah af [true,true])),(4, .arr (List.replicate 2 (false:Bool)).length (ah af (List.replicate 2 (false:Bool)))),(5, .arr (List.replicate 4 (false:Bool)).length (ah af (List.replicate 4 (false:Bool)))),(6, .arr (List.replicate 4 (false:Bool)).length (ah af (List.replicate 4 (false:Bool))))],fr:=[(0,21),(1,22),(2,23),(3,24),(4,25),(5,26),(6,27),(8,28)]} [.pf ⟨[true,true,false].length=3,rfl⟩, .pf ⟨av 3 1 (eO 1 [(.bool true),(.bool true),(.bool false)]) (ah af [true,true,false]),(by intro i hi j hj;match i,j,hi,hj with|0,0,_,_=>rfl|1,0,_,_=>rfl|2,0,_,_=>rfl)⟩,0, .e ((3:Int)),1,2, .pf ⟨(List.replicate 3 (false:Bool)).length=3,List.length_replicate⟩, .pf ⟨av 3 1 (fun _ j=>[(.bool false)].getD j .nilp) (ah af (List.replicate 3 (false:Bool))),bY _ _ _ _ _ (fun j hj=>(match j,hj with|0,_=>rfl))⟩,0, .e ((3:Int)),1,2, .pf ⟨(List.replicate 3 (false:Bool)).length=3,List.length_replicate⟩, .pf ⟨av 3 1 (fun _ j=>[(.bool false)].getD j .nilp) (ah af (List.replicate 3 (false:Bool))),bY _ _ _ _ _ (fun j hj=>(match j,hj with|0,_=>rfl))⟩, .pf ⟨[true,true].length=2,rfl⟩, .pf ⟨av 2 1 (eO 1 [(.bool true),(.bool true)]) (ah af [true,true]),(by intro i hi j hj;match i,j,hi,hj with|0,0,_,_=>rfl|1,0,_,_=>rfl)⟩,3, .e ((2:Int)),4,5, .pf ⟨(List.replicate 2 (false:Bool)).length=2,List.length_replicate⟩, .pf ⟨av 2 1 (fun _ j=>[(.bool false)].getD j .nilp) (ah af (List.replicate 2 (false:Bool))),bY _ _ _ _ _ (fun j hj=>(match j,hj with|0,_=>rfl))⟩,6, .e ((4:Int)),7,8, .pf ⟨(List.replicate 4 (false:Bool)).length=4,List.length_replicate⟩, .pf ⟨av 4 1 (fun _ j=>[(.bool false)].getD j .nilp) (ah af (List.replicate 4 (false:Bool))),bY _ _ _ _ _ (fun j hj=>(match j,hj with|0,_=>rfl))⟩,6, .e ((4:Int)),7,8, .pf ⟨(List.replicate 4 (false:Bool)).length=4,List.length_replicate⟩, .pf ⟨av 4 1 (fun _ j=>[(.bool false)].getD j .nilp) (ah af (List.replicate 4 (false:Bool))),bY _ _ _ _ _ (fun j hj=>(match j,hj with|0,_=>rfl))⟩]<| .rg {an:=[(3, .frz [(⟨3,0⟩:Part)].length (ah Part.cell [(⟨3,0⟩:Part)])),(6, .frz [(⟨3,1⟩:Part)].length (ah Part.cell [(⟨3,1⟩:Part)])),(8, .arr [(⟨[(⟨3,0⟩:Part)],2,0,10,2,([]:List Int)⟩:aC),(⟨[(⟨3,1⟩:Part)],3,0,10,2,([]:List Int)⟩:aC)].length (eO 6 [k2,(.int .i64 2),(.int .i64 0),(.int .i64 10),(.int .i64 2),nS,k3,(.int .i64 3),(.int .i64 0),(.int .i64 10),(.int .i64 2),nS]))],fr:=[(8,31)],fz:=[17,18,19,21,22,23,24,25,26,27,31]} [.pf ⟨[(⟨3,0⟩:Part)].length=1,rfl⟩, .pf ⟨av 1 2 (eO 2 [(.int .i64 3),(.int .i64 0)]) (ah Part.cell [(⟨3,0⟩:Part)]),(by intro i hi j hj;match i,j,hi,hj with|0,0,_,_=>rfl|0,1,_,_=>rfl)⟩, .pf ⟨[(⟨3,1⟩:Part)].length=1,rfl⟩, .pf ⟨av 1 2 (eO 2 [(.int .i64 3),(.int .i64 1)]) (ah Part.cell [(⟨3,1⟩:Part)]),(by intro i hi j hj;match i,j,hi,hj with|0,0,_,_=>rfl|0,1,_,_=>rfl)⟩, .pf ⟨[(⟨[(⟨3,0⟩:Part)],2,0,10,2,([]:List Int)⟩:aC),(⟨[(⟨3,1⟩:Part)],3,0,10,2,([]:List Int)⟩:aC)].length=2,rfl⟩, .pf ⟨av 2 6 (eO 6 [k2,(.int .i64 2),(.int .i64 0),(.int .i64 10),(.int .i64 2),nS,k3,(.int .i64 3),(.int .i64 0),(.int .i64 10),(.int .i64 2),nS]) (eO 6 [k2,(.int .i64 2),(.int .i64 0),(.int .i64 10),(.int .i64 2),nS,k3,(.int .i64 3),(.int .i64 0),(.int .i64 10),(.int .i64 2),nS]),bI _ _ _⟩]<| .im (.uh 16 (some (.cells 65 [(cI 4),(.d k4),(.d (aH (some true) 6 Link.cell [r_,u0,u1])),(.d (aH (some true) 4 aO.cell [(⟨(⟨2,3⟩:ai),100,2⟩:aO)])),(.d (aH (some true) 1 af [true,true,false])),(.d k5),(.d k5),(.d (aH (some true) 1 af [true,true])),(.d (aH (some true) 1 af (List.replicate 2 (false:Bool)))),(.d k6),(.d k6),(.d nS),(.d (.sl (some true) 6 [(⟨[(⟨3,0⟩:Part)],2,0,10,2,([]:List Int)⟩:aC),(⟨[(⟨3,1⟩:Part)],3,0,10,2,([]:List Int)⟩:aC)].length (eO 6 [k2,(.int .i64 2),(.int .i64 0),(.int .i64 10),(.int .i64 2),nS,k3,(.int .i64 3),(.int .i64 0),(.int .i64 10),(.int .i64 2),nS]))),(cI 10),(cB false)])) (some (.cells 65 [(cI 4),(.d k4),(.d (aH (some true) 6 Link.cell [r_,u0,u1])),(.d (aH (some true) 4 aO.cell [(⟨(⟨2,3⟩:ai),100,2⟩:aO)])),(.d (aH (some true) 1 af [true,true,false])),(.d k5),(.d k5),(.d (aH (some true) 1 af [true,true])),(.d (aH (some true) 1 af (List.replicate 2 (false:Bool)))),(.d k6),(.d k6),(.d nS),(.d (aH (some true) 6 aC.cell [(⟨[(⟨3,0⟩:Part)],2,0,10,2,([]:List Int)⟩:aC),(⟨[(⟨3,1⟩:Part)],3,0,10,2,([]:List Int)⟩:aC)])),(cI 10),(cB false)])) (jL ⟨jG.refl _,jG.refl _,jG.refl _,jG.refl _,jG.refl _,jG.refl _,jG.refl _,jG.refl _,jG.refl _,jG.refl _,jG.refl _,jG.refl _,jG.d (dW.sl (.inr rfl) (by intro i hi j hj;match i,j,hi,hj with|0,0,_,_=>exact dW.jZ|0,1,_,_=>exact .refl _|0,2,_,_=>exact .refl _|0,3,_,_=>exact .refl _|0,4,_,_=>exact .refl _|0,5,_,_=>exact dW.nil'|1,0,_,_=>exact dW.jZ|1,1,_,_=>exact .refl _|1,2,_,_=>exact .refl _|1,3,_,_=>exact .refl _|1,4,_,_=>exact .refl _|1,5,_,_=>exact dW.nil')),jG.refl _,jG.refl _,trivial⟩))<| .fz [16]<| .e (k7 r_ u0 u1))
theorem aL (n:Int) (u0:Int) (u1:Int):bN Tryz.prog 198 [(sI n),(sI u0),(sI u1)] [] (fun r=>(vB r)) (fun _=>[]) (aS n u0 u1):=
  bO tT mX Tryz.func198 (
  .r<| .r<| .e (bif (decide (u0≤n))then(decide (n≤u1))else false))
section
variable (p:aF)
abbrev k9:List CV:=[(cI p.buses),(.d (aH none 5 Source.cell p.sources)),(.d (aH none 6 Link.cell p.links)),(.d (aH none 4 aO.cell p.racks))]
abbrev k8:List SV:=[(.agg (k9 p))]
end
theorem zI (p:aF):bN Tryz.prog 200 (k8 p) [] (fun r=>(vD (.fn 253 1 (mh [(wT [(.int .i64 r.1),(aH none 5 Source.cell r.2.1),(aH none 6 Link.cell r.2.2.1),(aH none 4 aO.cell r.2.2.2)] 0)])))) (fun _=>[]) (uS p):=
  bO tT mX Tryz.func200 (
  .rg {fr:=[(0,1)],fz:=[1]} []<| .r<| .e (p.buses,p.sources,p.links,p.racks))
theorem DY (p:aF):bN Tryz.prog 202 (k8 p) [] (fun r=>(vD (.fn 256 1 (mh [(wT [(.int .i64 r.1),(aH none 5 Source.cell r.2.1),(aH none 6 Link.cell r.2.2.1),(aH none 4 aO.cell r.2.2.2)] 0)])))) (fun _=>[]) (Au p):=
  bO tT mX Tryz.func202 (
  .rg {fr:=[(0,1)],fz:=[1]} []<| .r<| .e (p.buses,p.sources,p.links,p.racks))
theorem Dy (p:aF):bN Tryz.prog 204 (k8 p) [] (fun r=>(vD (.fn 259 1 (mh [(wT [(.int .i64 r.1),(aH none 5 Source.cell r.2.1),(aH none 6 Link.cell r.2.2.1),(aH none 4 aO.cell r.2.2.2)] 0)])))) (fun _=>[]) (zJ p):=
  bO tT mX Tryz.func204 (
  .rg {fr:=[(0,1)],fz:=[1]} []<| .r<| .e (p.buses,p.sources,p.links,p.racks))
section
variable (x:Source) (u2:(List Source)) (x1:Int) (u3:(List Link)) (u4:(List aO)) (r_:Bool) (u0:Bool)
abbrev k10:List CV:=[(cI x.bus),(cI x.kind),(cI x.power),(cI x.sync),(cI x.ohm)]
abbrev k12:DV:=(aH none 5 Source.cell u2)
abbrev k11:DV:=(wT [(.int .i64 x1),(k12 u2),(aH none 6 Link.cell u3),(aH none 4 aO.cell u4)] 0)
abbrev k13:=(IntKind.wrap .i64 (x1 - 1))
abbrev k14:=((bif r_ then u0 else false),true)
end
theorem xC (x:Source) (x1:Int) (u2:(List Source)) (u3:(List Link)) (u4:(List aO)):bN Tryz.prog 253 [(.agg (k10 x)),(sD (k11 u2 x1 u3 u4))] [] (fun r=>(vB r)) (fun _=>[]) (rH x x1 u2 u3 u4):=
  bO tT mX Tryz.func253 (
  .rg {fr:=[(0,1)],fz:=[1]} []<| .cl 5 (aL x.bus 0 (k13 x1)) fun r_=> .cg 9 [(r_,true)] (aL x.kind 1 3) fun u0=> .cg 14 [(k14 r_ u0)] (aL x.power 1 100000) fun u1=> .cg 19 [((bif (bif r_ then u0 else false)then u1 else false),true)] (aL x.sync 0 8) fun u5=> .cg 24 [((bif (bif (bif r_ then u0 else false)then u1 else false)then u5 else false),true)] (aL x.ohm 10 100000) fun u6=> .r<| .e (bif (bif (bif (bif r_ then u0 else false)then u1 else false)then u5 else false)then u6 else false))
section
variable (x1:Int) (u0:(List Source)) (u1:(List Link)) (u2:(List aO))
abbrev k16:=(mh [(k11 u0 x1 u1 u2)])
abbrev k15:DV:=(wT [(.fn 253 1 (k16 x1 u0 u1 u2))] 0)
end
theorem Ap (x:Source) (x1:Int) (u0:(List Source)) (u1:(List Link)) (u2:(List aO)):bN Tryz.prog 252 [(.agg (k10 x)),(sD (k15 x1 u0 u1 u2))] [] (fun r=>(vB r)) (fun _=>[]) (wh x x1 u0 u1 u2):=
  bO tT mX Tryz.func252 (
  .rg {fr:=[(0,1)],fz:=[1]} []<| .cl 2 (xC x x1 u0 u1 u2) fun r_=> .r<| .e (!r_))
section
variable (s_:(List Source)) (f_:Int) (u0:(List Source)) (u1:(List Link)) (u2:(List aO)) (t8:Int)
abbrev k17:List SV:=[(sD (k12 s_)),(sD (.fn 252 1 (mh [(k15 f_ u0 u1 u2)])))]
abbrev k18:=(IntKind.wrap .i64 (t8+1))
end
theorem uq (s_:(List Source)) (f_:Int) (u0:(List Source)) (u1:(List Link)) (u2:(List aO)):bN Tryz.prog 285 (k17 s_ f_ u0 u1 u2) [] (fun r=>(vI r)) (fun _=>[]) (nR s_ f_ u0 u1 u2):=
  bO tT mX Tryz.func285 (
  .r<| .r<| .lp (σ:=Int) (β:=Unit) (0) [] [] ⟨[0,1,7],[],fun t8=>[(8,(vI t8))],fun t8=>[]⟩ ⟨[],[],fun _=>[],fun _=>[]⟩
  (fun t8=> .r<| .it (.r<| .cl 5 (Ap (at' s_ t8.toNat) f_ u0 u1 u2) fun r_=> .a1 ((0:Int)≤t8∧t8<(s_.length:Int))<| .rg {} [0,1]<| .it (.r<| .e (.done (.ret t8)))
  (.r<| .e (.next (k18 t8))))
  (.e (.done (.brk ()))))
  (fun _=> .r<| .e (-1)))
theorem qC (s_:(List Source)) (f_:Int) (u0:(List Source)) (u1:(List Link)) (u2:(List aO)):bN Tryz.prog 251 (k17 s_ f_ u0 u1 u2) [] (fun r=>(vB r)) (fun _=>[]) (j4 s_ f_ u0 u1 u2):=
  bO tT mX Tryz.func251 (
  .r<| .cl 2 (uq s_ f_ u0 u1 u2) fun r_=> .r<| .e (decide (0≤r_)))
theorem DN (l:(List Source)) (u0:Int) (u1:Int) (u2:(List Source)) (u3:(List Link)) (u4:(List aO)):bN Tryz.prog 199 [(sD (k12 l)),(sI u0),(sD (.fn 253 1 (k16 u1 u2 u3 u4)))] [] (fun r=>(vB r)) (fun _=>[]) (A7 l u0 u1 u2 u3 u4):=
  bO tT mX Tryz.func199 (
  .rg {fr:=[(0,1)],fz:=[1]} []<| .cg 7 [((decide ((l.length:Int)≤u0)),true)] (qC l u1 u2 u3 u4) fun r_=> .r<| .e (bif (decide ((l.length:Int)≤u0))then(!r_)else false))
section
variable (x:Link) (u0:Int)
abbrev k19:List CV:=[(cI x.a),(cI x.b),(cI x.kind),(cI x.most),(cI x.ohm),(.d (aH none 2 lI.cell x.trip))]
abbrev k20:=((decide (((at' x.trip u0.toNat).amps)≤((at' x.trip ((k13 u0).toNat)).amps))),false)
end
theorem AO (x:Link) (x1:Int) (u3:(List Source)) (u4:(List Link)) (u5:(List aO)):bN Tryz.prog 256 [(.agg (k19 x)),(sD (k11 u3 x1 u4 u5))] [] (fun r=>(vB r)) (fun _=>[]) (uV x x1 u3 u4 u5):=
  bO tT mX Tryz.func256 (
  .rg {fr:=[(0,5)]} []<| .cl 5 (aL x.a 0 (k13 x1)) fun r_=> .cg 13 [((!r_),false)] (aL x.b 0 (k13 x1)) fun u1=> .cg 26 [((bif (bif (!r_)then true else(!u1))then true else(decide (x.a=x.b))),false)] (aL x.kind 1 3) fun u6=> .cg 32 [((bif (bif (bif (!r_)then true else(!u1))then true else(decide (x.a=x.b)))then true else(!u6)),false)] (aL x.most 1 100000) fun u8=> .cg 38 [((bif (bif (bif (bif (!r_)then true else(!u1))then true else(decide (x.a=x.b)))then true else(!u6))then true else(!u8)),false)] (aL x.ohm 10 100000) fun u9=> .r<| .it (.r<| .e false)
  (.rg {fz:=[5]} []<| .lp (σ:=Int) (β:=Unit) (0) [] [] ⟨[2,48,49],[],fun u0=>[(50,(vI u0))],fun u0=>[]⟩ ⟨[2],[],fun _=>[],fun _=>[]⟩
  (fun u0=> .r<| .it (.a1 ((0:Int)≤u0∧u0<(x.trip.length:Int))<| .rg {fr:=[(3,9)],fz:=[9]} []<| .cl 2 (aL ((at' x.trip u0.toNat).amps) 1 1000000) fun u2=> .cg 7 [((!u2),false)] (aL ((at' x.trip u0.toNat).millis) 1 100000) fun u7=> .a2 ((gB [((decide (0<u0)),true),((bif (!u2)then true else(!u7)),false)]=true→(0:Int)≤(k13 u0)∧(k13 u0)<(x.trip.length:Int))) ((gB [(k20 x u0),((decide (0<u0)),true),((bif (!u2)then true else(!u7)),false)]=true→(0:Int)≤(k13 u0)∧(k13 u0)<(x.trip.length:Int)))<| .rg {} [3,2,0,1]<| .it (.r<| .e (.done (.ret false)))
  (.r<| .e (.next (k18 u0))))
  (.e (.done (.brk ()))))
  (fun _=> .r<| .e (bif (decide ((x.trip.length:Int)≤6))then(bif (decide ((x.trip.length:Int)=0))then true else(decide (x.kind=3)))else false))))
section
variable (x1:Int) (u0:(List Source)) (u1:(List Link)) (u2:(List aO))
abbrev k21:DV:=(wT [(.fn 256 1 (k16 x1 u0 u1 u2))] 0)
end
theorem uG (x:Link) (x1:Int) (u0:(List Source)) (u1:(List Link)) (u2:(List aO)):bN Tryz.prog 255 [(.agg (k19 x)),(sD (k21 x1 u0 u1 u2))] [] (fun r=>(vB r)) (fun _=>[]) (o5 x x1 u0 u1 u2):=
  bO tT mX Tryz.func255 (
  .rg {fr:=[(0,1)],fz:=[1]} []<| .cl 2 (AO x x1 u0 u1 u2) fun r_=> .r<| .e (!r_))
section
variable (s_:(List Link)) (f_:Int) (u0:(List Source)) (u1:(List Link)) (u2:(List aO))
abbrev k22:List SV:=[(sD (aH none 6 Link.cell s_)),(sD (.fn 255 1 (mh [(k21 f_ u0 u1 u2)])))]
end
theorem qa (s_:(List Link)) (f_:Int) (u0:(List Source)) (u1:(List Link)) (u2:(List aO)):bN Tryz.prog 286 (k22 s_ f_ u0 u1 u2) [] (fun r=>(vI r)) (fun _=>[]) (kg s_ f_ u0 u1 u2):=
  bO tT mX Tryz.func286 (
  .r<| .r<| .lp (σ:=Int) (β:=Unit) (0) [] [] ⟨[0,1,7],[],fun t8=>[(8,(vI t8))],fun t8=>[]⟩ ⟨[],[],fun _=>[],fun _=>[]⟩
  (fun t8=> .r<| .it (.r<| .cl 5 (uG (at' s_ t8.toNat) f_ u0 u1 u2) fun r_=> .a1 ((0:Int)≤t8∧t8<(s_.length:Int))<| .rg {} [0,1]<| .it (.r<| .e (.done (.ret t8)))
  (.r<| .e (.next (k18 t8))))
  (.e (.done (.brk ()))))
  (fun _=> .r<| .e (-1)))
theorem ni (s_:(List Link)) (f_:Int) (u0:(List Source)) (u1:(List Link)) (u2:(List aO)):bN Tryz.prog 254 (k22 s_ f_ u0 u1 u2) [] (fun r=>(vB r)) (fun _=>[]) (jb s_ f_ u0 u1 u2):=
  bO tT mX Tryz.func254 (
  .r<| .cl 2 (qa s_ f_ u0 u1 u2) fun r_=> .r<| .e (decide (0≤r_)))
theorem zo (l:(List Link)) (u0:Int) (u1:Int) (u2:(List Source)) (u3:(List Link)) (u4:(List aO)):bN Tryz.prog 201 [(sD (aH none 6 Link.cell l)),(sI u0),(sD (.fn 256 1 (k16 u1 u2 u3 u4)))] [] (fun r=>(vB r)) (fun _=>[]) (sU l u0 u1 u2 u3 u4):=
  bO tT mX Tryz.func201 (
  .rg {fr:=[(0,1)],fz:=[1]} []<| .cg 7 [((decide ((l.length:Int)≤u0)),true)] (ni l u1 u2 u3 u4) fun r_=> .r<| .e (bif (decide ((l.length:Int)≤u0))then(!r_)else false))
section
variable (x:aO)
abbrev k23:List CV:=[(cI x.feeds.e0),(cI x.feeds.e1),(cI x.power),(cI x.paths)]
end
theorem BX (x:aO):bN Tryz.prog 260 [(.agg (k23 x))] [] (fun r=>(vI r)) (fun _=>[]) (yB x):=
  bO tT mX Tryz.func260 (
  .rg {fr:=[(0,1)],fz:=[1]} []<| .rg {} [.pf ⟨(0:Int)≤1∧(1:Int)<(2:Nat),(by decide)⟩]<| .it (.r<| .e 1)
  (.r<| .e 2))
section
variable (r_:Bool) (u0:Bool) (x:aO) (u1:Bool)
abbrev k25:=(bif (bif (bif r_ then u0 else false)then(!decide (x.feeds.e0=x.feeds.e1))else false)then u1 else false)
abbrev k24:=((k25 r_ u0 x u1),true)
end
theorem Av (x:aO) (x1:Int) (u2:(List Source)) (u3:(List Link)) (u4:(List aO)):bN Tryz.prog 259 [(.agg (k23 x)),(sD (k11 u2 x1 u3 u4))] [] (fun r=>(vB r)) (fun _=>[]) (wu x x1 u2 u3 u4):=
  bO tT mX Tryz.func259 (
  .rg {fr:=[(0,1)],fz:=[1]} []<| .rg {} [.pf ⟨(0:Int)≤0∧(0:Int)<(2:Nat),(by decide)⟩, .pf ⟨(0:Int)≤1∧(1:Int)<(2:Nat),(by decide)⟩]<| .cl 4 (aL x.feeds.e0 0 (k13 x1)) fun r_=> .cg 10 [(r_,true)] (aL x.feeds.e1 (-1) (k13 x1)) fun u0=> .cg 20 [((bif (bif r_ then u0 else false)then(!decide (x.feeds.e0=x.feeds.e1))else false),true)] (aL x.power 1 100000) fun u1=> .cg 26 [(k24 r_ u0 x u1)] (BX x) fun u5=> .cg 27 [(k24 r_ u0 x u1)] (aL x.paths 0 u5) fun u6=> .r<| .e (bif (k25 r_ u0 x u1)then u6 else false))
section
variable (x1:Int) (u0:(List Source)) (u1:(List Link)) (u2:(List aO))
abbrev k26:DV:=(wT [(.fn 259 1 (k16 x1 u0 u1 u2))] 0)
end
theorem ve (x:aO) (x1:Int) (u0:(List Source)) (u1:(List Link)) (u2:(List aO)):bN Tryz.prog 258 [(.agg (k23 x)),(sD (k26 x1 u0 u1 u2))] [] (fun r=>(vB r)) (fun _=>[]) (pq x x1 u0 u1 u2):=
  bO tT mX Tryz.func258 (
  .rg {fr:=[(0,1)],fz:=[1]} []<| .cl 2 (Av x x1 u0 u1 u2) fun r_=> .r<| .e (!r_))
section
variable (s_:(List aO)) (f_:Int) (u0:(List Source)) (u1:(List Link)) (u2:(List aO))
abbrev k27:List SV:=[(sD (aH none 4 aO.cell s_)),(sD (.fn 258 1 (mh [(k26 f_ u0 u1 u2)])))]
end
theorem pY (s_:(List aO)) (f_:Int) (u0:(List Source)) (u1:(List Link)) (u2:(List aO)):bN Tryz.prog 287 (k27 s_ f_ u0 u1 u2) [] (fun r=>(vI r)) (fun _=>[]) (kC s_ f_ u0 u1 u2):=
  bO tT mX Tryz.func287 (
  .r<| .r<| .lp (σ:=Int) (β:=Unit) (0) [] [] ⟨[0,1,7],[],fun t8=>[(8,(vI t8))],fun t8=>[]⟩ ⟨[],[],fun _=>[],fun _=>[]⟩
  (fun t8=> .r<| .it (.r<| .cl 5 (ve (⟨((at' s_ t8.toNat).feeds),(at' s_ t8.toNat).power,(at' s_ t8.toNat).paths⟩:aO) f_ u0 u1 u2) fun r_=> .a1 ((0:Int)≤t8∧t8<(s_.length:Int))<| .rg {} [0,1]<| .it (.r<| .e (.done (.ret t8)))
  (.r<| .e (.next (k18 t8))))
  (.e (.done (.brk ()))))
  (fun _=> .r<| .e (-1)))
theorem mV (s_:(List aO)) (f_:Int) (u0:(List Source)) (u1:(List Link)) (u2:(List aO)):bN Tryz.prog 257 (k27 s_ f_ u0 u1 u2) [] (fun r=>(vB r)) (fun _=>[]) (iR s_ f_ u0 u1 u2):=
  bO tT mX Tryz.func257 (
  .r<| .cl 2 (pY s_ f_ u0 u1 u2) fun r_=> .r<| .e (decide (0≤r_)))
theorem zq (l:(List aO)) (u0:Int) (u1:Int) (u2:(List Source)) (u3:(List Link)) (u4:(List aO)):bN Tryz.prog 203 [(sD (aH none 4 aO.cell l)),(sI u0),(sD (.fn 259 1 (k16 u1 u2 u3 u4)))] [] (fun r=>(vB r)) (fun _=>[]) (tK l u0 u1 u2 u3 u4):=
  bO tT mX Tryz.func203 (
  .rg {fr:=[(0,1)],fz:=[1]} []<| .cg 7 [((decide ((l.length:Int)≤u0)),true)] (mV l u1 u2 u3 u4) fun r_=> .r<| .e (bif (decide ((l.length:Int)≤u0))then(!r_)else false))
theorem qL (p:aF):bN Tryz.prog 127 (k8 p) [] (fun r=>(vI r)) (fun _=>[]) (qh p):=
  bO tT mX Tryz.func127 (
  .rg {fr:=[(0,1)],fz:=[1]} []<| .cl 2 (aL p.buses 1 24) fun r_=> .r<| .it (.r<| .e 10)
  (.cl 3 (zI p) fun u0=> .cl 4 (DN p.sources 8 u0.1 u0.2.1 u0.2.2.1 u0.2.2.2) fun u3=> .r<| .it (.r<| .e 11)
  (.cl 3 (DY p) fun u1=> .cl 4 (zo p.links 40 u1.1 u1.2.1 u1.2.2.1 u1.2.2.2) fun u4=> .r<| .it (.r<| .e 12)
  (.cl 3 (Dy p) fun u2=> .cl 4 (zq p.racks 24 u2.1 u2.2.1 u2.2.2.1 u2.2.2.2) fun u5=> .r<| .it (.r<| .e 13)
  (.r<| .e 0)))))
section
variable (s_:State) (p:aF) (u0:Int)
abbrev UC:List CV:=[(.d (aH none 1 af s_.closed)),(.d (aH none 1 af s_.locked)),(.d (aH none 1 af s_.badLink)),(.d (aH none 1 af s_.on_)),(.d (aH none 1 af s_.badSource)),(.d (aH none 1 af s_.earthed)),(.d (aH none 1 af s_.badBus))]
abbrev k28:List SV:=[(.agg (k9 p)),(.agg (UC s_))]
abbrev XW:=(⟨s_.closed,(p.links.length:Int)⟩:eP)
abbrev Yb:=(⟨s_.locked,(p.links.length:Int)⟩:eP)
abbrev Y9:=(⟨s_.badLink,(p.links.length:Int)⟩:eP)
abbrev Zj:=(⟨s_.on_,(p.sources.length:Int)⟩:eP)
abbrev YV:=(⟨s_.badSource,(p.sources.length:Int)⟩:eP)
abbrev k35:=(ah eP.cell [(XW s_ p),(Yb s_ p),(Y9 s_ p),(Zj s_ p),(YV s_ p),(⟨s_.earthed,p.buses⟩:eP),(⟨s_.badBus,p.buses⟩:eP)])
abbrev Y8:=((0:Int)≤u0∧u0<(p.links.length:Int))
abbrev k37:=((gB [((decide (((at' p.links u0.toNat).kind)=1)),true)]=true→(0:Int)≤u0∧u0<(s_.closed.length:Int)))
abbrev k38:=((gB [((!(at' s_.closed u0.toNat)),false),((decide (((at' p.links u0.toNat).kind)=1)),true)]=true→(0:Int)≤u0∧u0<(s_.locked.length:Int)))
end
theorem dL (p:aF) (s_:State):bN Tryz.prog 60 (k28 s_ p) [] (fun r=>(vI r)) (fun _=>[]) (eU p s_):=
  bO tT mX Tryz.func60 (
  .rg {fr:=[(0,11),(1,12)]} []<| .cl 1 (qL p) fun r_=> .r<| .r<| .it (.r<| .e r_)
  (.r<| .rg {an:=[(30, .arr [(XW s_ p),(Yb s_ p),(Y9 s_ p),(Zj s_ p),(YV s_ p),(⟨s_.earthed,p.buses⟩:eP),(⟨s_.badBus,p.buses⟩:eP)].length (k35 s_ p))],fr:=[(30,13)],fz:=[12]} [.pf ⟨[(XW s_ p),(Yb s_ p),(Y9 s_ p),(Zj s_ p),(YV s_ p),(⟨s_.earthed,p.buses⟩:eP),(⟨s_.badBus,p.buses⟩:eP)].length=7,rfl⟩, .pf ⟨av 7 2 (eO 2 [(aH none 1 af s_.closed),(.int .i64 (p.links.length:Int)),(aH none 1 af s_.locked),(.int .i64 (p.links.length:Int)),(aH none 1 af s_.badLink),(.int .i64 (p.links.length:Int)),(aH none 1 af s_.on_),(.int .i64 (p.sources.length:Int)),(aH none 1 af s_.badSource),(.int .i64 (p.sources.length:Int)),(aH none 1 af s_.earthed),(.int .i64 p.buses),(aH none 1 af s_.badBus),(.int .i64 p.buses)]) (k35 s_ p),(by intro i hi j hj;match i,j,hi,hj with|0,0,_,_=>rfl|0,1,_,_=>rfl|1,0,_,_=>rfl|1,1,_,_=>rfl|2,0,_,_=>rfl|2,1,_,_=>rfl|3,0,_,_=>rfl|3,1,_,_=>rfl|4,0,_,_=>rfl|4,1,_,_=>rfl|5,0,_,_=>rfl|5,1,_,_=>rfl|6,0,_,_=>rfl|6,1,_,_=>rfl)⟩]<| .lp (σ:=Int) (β:=Unit) (0) [] [] ⟨[2,3,53,54],[11,13],fun u1=>[(55,(vI u1))],fun u1=>[]⟩ ⟨[2,3],[11],fun _=>[],fun _=>[]⟩
  (fun u1=> .r<| .it (.a1 ((0:Int)≤u1∧u1<([(XW s_ p),(Yb s_ p),(Y9 s_ p),(Zj s_ p),(YV s_ p),(⟨s_.earthed,p.buses⟩:eP),(⟨s_.badBus,p.buses⟩:eP)].length:Int))<| .rg {fr:=[(2,17)],fz:=[17]} [0, .t 0 u1 ([(XW s_ p),(Yb s_ p),(Y9 s_ p),(Zj s_ p),(YV s_ p),(⟨s_.earthed,p.buses⟩:eP),(⟨s_.badBus,p.buses⟩:eP)].length)]<| .r<| .it (.r<| .e (.done (.ret 9)))
  (.r<| .e (.next (k18 u1))))
  (.e (.done (.brk ()))))
  (fun _=> .r<| .lp (σ:=Int) (β:=Unit) (0) [] [] ⟨[3,67,68],[],fun u0=>[(69,(vI u0))],fun u0=>[]⟩ ⟨[],[],fun _=>[],fun _=>[]⟩
  (fun u0=> .r<| .it (.a1 (Y8 p u0)<| .rg {fr:=[(3,21)],fz:=[21]} []<| .a2 (k37 s_ p u0) (k38 s_ p u0)<| .rg {} [0,1]<| .it (.r<| .e (.done (.ret 9)))
  (.r<| .e (.next (k18 u0))))
  (.e (.done (.brk ()))))
  (fun _=> .r<| .e 0))))
theorem iE (i:Int) (x1:Int) (u1:(List Source)) (u0:(List Link)) (u2:(List aO)):bN Tryz.prog 221 [(sI i),(sD (k11 u1 x1 u0 u2))] [] (fun r=>(vB r)) (fun _=>[]) (fQ i x1 u1 u0 u2):=
  bO tT mX Tryz.func221 (
  .r<| .a1 ((gB [((bif (decide (0≤i))then(decide (i<(u0.length:Int)))else false),true)]=true→(0:Int)≤i∧i<(u0.length:Int)))<| .r<| .e (bif (bif (decide (0≤i))then(decide (i<(u0.length:Int)))else false)then(!decide (((at' u0 i.toNat).kind)=1))else false))
section
variable (x2:Int) (u0:(List Source)) (u1:(List Link)) (u2:(List aO))
abbrev k39:DV:=(wT [(.fn 221 1 (k16 x2 u0 u1 u2))] 0)
end
theorem oG (x:Transfer) (x1:Int) (u3:(List Source)) (u4:(List Link)) (u5:(List aO)) (x2:Int) (u0:(List Source)) (u1:(List Link)) (u2:(List aO)):bN Tryz.prog 223 [(.agg [(cI x.watch),(cI x.open_),(cI x.close)]),(sD (k11 u3 x1 u4 u5)),(sD (k39 x2 u0 u1 u2))] [] (fun r=>(vB r)) (fun _=>[]) (jD x x1 u3 u4 u5 x2 u0 u1 u2):=
  bO tT mX Tryz.func223 (
  .rg {fr:=[(0,1)],fz:=[1]} []<| .cg 14 [((bif (decide (x.watch<0))then true else(decide (x1≤x.watch))),false)] (iE x.close x2 u0 u1 u2) fun r_=> .cg 25 [((!decide (x.open_=(-1))),true),((bif (bif (decide (x.watch<0))then true else(decide (x1≤x.watch)))then true else(!r_)),false)] (iE x.open_ x2 u0 u1 u2) fun u6=> .r<| .e (bif (bif (bif (decide (x.watch<0))then true else(decide (x1≤x.watch)))then true else(!r_))then true else(bif (!decide (x.open_=(-1)))then(bif (!u6)then true else(decide (x.open_=x.close)))else false)))
section
variable (s_:(List Transfer)) (f_:Int) (u0:(List Source)) (u1:(List Link)) (u2:(List aO)) (u3:Int) (u4:(List Source)) (u5:(List Link)) (u6:(List aO))
abbrev Wu:DV:=(aH none 3 Transfer.cell s_)
abbrev k40:List SV:=[(sD (Wu s_)),(sD (.fn 223 2 (mh [(k11 u0 f_ u1 u2),(k39 u3 u4 u5 u6)])))]
end
theorem qb (s_:(List Transfer)) (f_:Int) (u0:(List Source)) (u1:(List Link)) (u2:(List aO)) (u3:Int) (u4:(List Source)) (u5:(List Link)) (u6:(List aO)):bN Tryz.prog 271 (k40 s_ f_ u0 u1 u2 u3 u4 u5 u6) [] (fun r=>(vI r)) (fun _=>[]) (kJ s_ f_ u0 u1 u2 u3 u4 u5 u6):=
  bO tT mX Tryz.func271 (
  .r<| .r<| .lp (σ:=Int) (β:=Unit) (0) [] [] ⟨[0,1,7],[],fun t8=>[(8,(vI t8))],fun t8=>[]⟩ ⟨[],[],fun _=>[],fun _=>[]⟩
  (fun t8=> .r<| .it (.r<| .cl 5 (oG (at' s_ t8.toNat) f_ u0 u1 u2 u3 u4 u5 u6) fun r_=> .a1 ((0:Int)≤t8∧t8<(s_.length:Int))<| .rg {} [0,1]<| .it (.r<| .e (.done (.ret t8)))
  (.r<| .e (.next (k18 t8))))
  (.e (.done (.brk ()))))
  (fun _=> .r<| .e (-1)))
theorem nu (s_:(List Transfer)) (f_:Int) (u0:(List Source)) (u1:(List Link)) (u2:(List aO)) (u3:Int) (u4:(List Source)) (u5:(List Link)) (u6:(List aO)):bN Tryz.prog 222 (k40 s_ f_ u0 u1 u2 u3 u4 u5 u6) [] (fun r=>(vB r)) (fun _=>[]) (iP s_ f_ u0 u1 u2 u3 u4 u5 u6):=
  bO tT mX Tryz.func222 (
  .r<| .cl 2 (qb s_ f_ u0 u1 u2 u3 u4 u5 u6) fun r_=> .r<| .e (decide (0≤r_)))
section
variable (p:aF) (s_:State) (l:(List Transfer))
abbrev ZH:List SV:=[(.agg (k9 p)),(.agg (UC s_)),(sD (Wu l))]
end
theorem iO (p:aF) (s_:State) (l:(List Transfer)):bN Tryz.prog 154 (ZH p s_ l) [] (fun r=>(vI r)) (fun _=>[]) (gQ p s_ l):=
  bO tT mX Tryz.func154 (
  .rg {fr:=[(0,3),(1,4)],fz:=[4]} []<| .cl 2 (dL p s_) fun r_=> .r<| .r<| .it (.r<| .e r_)
  (.rg {fr:=[(1,5)],fz:=[3]} []<| .fz [5]<| .cg 6 [((decide (16<(l.length:Int))),false)] (nu l p.buses p.sources p.links p.racks p.buses p.sources p.links p.racks) fun u0=> .r<| .it (.r<| .e 1)
  (.r<| .e 0)))
section
variable (s_:(List Bool))
abbrev YH:=(ah af (([]:List Bool)++s_))
end
theorem lT (s_:(List Bool)) (u0:Bool):bN Tryz.prog 149 [(sD (aH (some u0) 1 af s_))] [] (fun r=>(vO 0 false r.length)) (fun r=>[(0,some (bg 4 1 af r))]) (uQ s_ u0):=
  bO tT mX Tryz.func149 (
  .r<| .r<| .it (.r<| .im (.ad 2 2 4 1 (ah af ([]:List Bool)))<| .en ([]:List Bool) [] [(2,0)])
  (.a2 ((([]:List Bool).length+s_.length)*1≤140737488355328) (([]:List Bool).length+s_.length≤4611686018427387904)<| .rg {an:=[(0, .arr ([]:List Bool).length (ah af ([]:List Bool))),(2, .arr (([]:List Bool)++s_).length (YH s_))],fr:=[(0,3),(2,4)]} [.pf ⟨([]:List Bool).length=0,rfl⟩, .pf ⟨av 0 1 (eO 1 []) (ah af ([]:List Bool)),(fun i hi=>absurd hi (Nat.not_lt_zero i))⟩, .e (([]:List Bool).length),0,1, .pf ⟨(([]:List Bool)++s_).length=([]:List Bool).length+s_.length,List.length_append⟩, .pf ⟨av (([]:List Bool).length+s_.length) 1 (dQ (ah af ([]:List Bool)) ([]:List Bool).length (ah af s_)) (YH s_),aW _ _ _ _⟩]<| .en (([]:List Bool)++s_) [] [(4,0)]))
theorem aN (s:(List Bool)) {r:(List Bool)} (h:aZ s=some r):Fn Tryz.prog 149 [(sD (aH none 1 af s))] [] (vO 0 false r.length) [(0,some (bg 4 1 af r))]:=by
 refine Fn.nn (lT s true h) fun hl=> ?_
 have hs:s=[]:=List.eq_nil_of_length_eq_zero hl
 subst hs
 exact lT [] false (by rw [←h];kernel_rfl)
section
variable (s_:State)
abbrev ZJ:List SV:=[(.agg (UC s_))]
end
theorem uL (s_:State):bN Tryz.prog 155 (ZJ s_) [] (fun r=>(.v (.agg [(.own 0 false r.closed.length),(.own 1 false r.locked.length),(.own 2 false r.badLink.length),(.own 3 false r.on_.length),(.own 4 false r.badSource.length),(.own 5 false r.earthed.length),(.own 6 false r.badBus.length)]))) (fun r=>[(0,some (bg 4 1 af r.closed)),(1,some (bg 4 1 af r.locked)),(2,some (bg 4 1 af r.badLink)),(3,some (bg 4 1 af r.on_)),(4,some (bg 4 1 af r.badSource)),(5,some (bg 4 1 af r.earthed)),(6,some (bg 4 1 af r.badBus)),(7,none)]) (wz s_):=
  bO tT mX Tryz.func155 (
  .rg {fr:=[(0,10),(1,11)]} []<| .rg {an:=[(7, .cells)],fr:=[(7,12)]} []<| .ul 11<| .r<| .t<| .a1 ((0:Int)≤0∧0<(7:Int))<| .r<| .cl 4 (fw [(0,13)] ⟨fun h=>aN s_.closed h⟩) fun r_=> .r<| .r<| .im (.dp [1,2,12,13,14])<| .r<| .t<| .a1 ((0:Int)≤1∧1<(7:Int))<| .r<| .cl 4 (fw [(0,14)] ⟨fun h=>aN s_.locked h⟩) fun u0=> .r<| .r<| .im (.dp [1,2,12,13,14])<| .r<| .t<| .a1 ((0:Int)≤2∧2<(7:Int))<| .r<| .cl 4 (fw [(0,15)] ⟨fun h=>aN s_.badLink h⟩) fun u1=> .r<| .r<| .im (.dp [1,2,12,13,14])<| .r<| .t<| .a1 ((0:Int)≤3∧3<(7:Int))<| .r<| .cl 4 (fw [(0,16)] ⟨fun h=>aN s_.on_ h⟩) fun u2=> .r<| .r<| .im (.dp [1,2,12,13,14])<| .r<| .t<| .a1 ((0:Int)≤4∧4<(7:Int))<| .r<| .cl 4 (fw [(0,17)] ⟨fun h=>aN s_.badSource h⟩) fun u3=> .r<| .r<| .im (.dp [1,2,12,13,14])<| .r<| .t<| .a1 ((0:Int)≤5∧5<(7:Int))<| .r<| .cl 4 (fw [(0,18)] ⟨fun h=>aN s_.earthed h⟩) fun u4=> .r<| .r<| .im (.dp [1,2,12,13,14])<| .r<| .t<| .a1 ((0:Int)≤6∧6<(7:Int))<| .r<| .cl 4 (fw [(0,19)] ⟨fun h=>aN s_.badBus h⟩) fun u5=> .r<| .r<| .im (.dp [1,2,12,13,14])<| .r<| .f<| .r<| .en (⟨r_,u0,u1,u2,u3,u4,u5⟩:State) [] [(13,0),(14,1),(15,2),(16,3),(17,4),(18,5),(19,6),(11,7)])
section
variable (s_:State)
abbrev YA:List CV:=[(.own 0 false s_.closed.length),(.own 1 false s_.locked.length),(.own 2 false s_.badLink.length),(.own 3 false s_.on_.length),(.own 4 false s_.badSource.length),(.own 5 false s_.earthed.length),(.own 6 false s_.badBus.length)]
abbrev UE:Nat × Option Ob:=(0,some (bg 4 1 af s_.closed))
abbrev Kn:Nat × Option Ob:=(1,some (bg 4 1 af s_.locked))
abbrev J4:Nat × Option Ob:=(2,some (bg 4 1 af s_.badLink))
abbrev JN:Nat × Option Ob:=(3,some (bg 4 1 af s_.on_))
abbrev JO:Nat × Option Ob:=(4,some (bg 4 1 af s_.badSource))
abbrev JD:Nat × Option Ob:=(5,some (bg 4 1 af s_.earthed))
abbrev Ky:Nat × Option Ob:=(6,some (bg 4 1 af s_.badBus))
abbrev FI:List (Nat × Option Ob):=[(UE s_),(Kn s_),(J4 s_),(JN s_),(JO s_),(JD s_),(Ky s_)]
end
theorem vk (p:aF) (s_:State) (l:(List Transfer)):bN Tryz.prog 156 [(.agg (k9 p)),(.agg (YA s_)),(sD (Wu l))] (FI s_) (fun r=>(.v (.one (.fn 224 0 3 (y8 [(.d (wT [(aH none 3 Transfer.cell r.1)] 0)),(.d (wT [(.int .i64 r.2.1),(aH none 5 Source.cell r.2.2.1),(aH none 6 Link.cell r.2.2.2.1),(aH none 4 aO.cell r.2.2.2.2.1)] 0)),(.ptr 7 0)]))))) (fun r=>[(UE s_),(Kn s_),(J4 s_),(JN s_),(JO s_),(JD s_),(Ky s_),(7,some (.cells 29 (YA s_)))]) (pJ p s_ l):=
  bO tT mX Tryz.func156 (
  .rg {fr:=[(0,10),(1,11),(2,12)],fz:=[10,12]} []<| .r<| .en (l,p.buses,p.sources,p.links,p.racks,s_) [] [(11,7)])
noncomputable def fJ:dK:=⟨[28,29],Ef ([1,1,1,1,0,1,0]++[0]) (fT Tryz.f83),Ef ([1,1,1,1,0,1,0]++[1]) (fT Tryz.f83),37,[]⟩
theorem tZ (p:aF) (s_:State):bN Tryz.prog 248 (k28 s_ p) [] (fun r=>(vD (.fn 284 2 (mh [(wT [(.int .i64 r.1),(aH none 5 Source.cell r.2.1),(aH none 6 Link.cell r.2.2.1),(aH none 4 aO.cell r.2.2.2.1)] 0),(wT [(aH none 1 af r.2.2.2.2.1),(aH none 1 af r.2.2.2.2.2.1),(aH none 1 af r.2.2.2.2.2.2.1),(aH none 1 af r.2.2.2.2.2.2.2.1),(aH none 1 af r.2.2.2.2.2.2.2.2.1),(aH none 1 af r.2.2.2.2.2.2.2.2.2.1),(aH none 1 af r.2.2.2.2.2.2.2.2.2.2)] 0)])))) (fun _=>[]) (oC p s_):=
  bO tT mX Tryz.func248 (
  .rg {fr:=[(0,2),(1,3)],fz:=[2,3]} []<| .r<| .e (p.buses,p.sources,p.links,p.racks,s_.closed,s_.locked,s_.badLink,s_.on_,s_.badSource,s_.earthed,s_.badBus))
noncomputable def nX:dK:=⟨[22],Ef ([1,1,0,1,0]++[0]) (fT Tryz.f197),Ef ([1,1,0,1,0]++[1]) (fT Tryz.f197),125,[]⟩
section
variable (g:aV)
abbrev ZU:List (Nat × Option Ob):=[(0,some (Ld 3 3 false false 1 1 (aA .i64) (aA .i64) g.head))]
end
theorem fE (g:aV) (x:Int):bN Tryz.prog 250 [(.agg [(.mp 0)]),(sI x)] (ZU g) (fun r=>(vI r)) (fun r=>(ZU g)) (fF g x):=
  bO tT mX Tryz.func250 (
  .rg {fr:=[(0,2)]} []<| .lp (σ:=Int) (β:=Unit) (x) [] [] ⟨[2],[0,2],fun x1=>[(1,(vI x1))],fun x1=>[]⟩ ⟨[],[],fun _=>[],fun _=>[]⟩
  (fun x1=> .rg {an:=[(3, .look (bU dP x1 g.head).isSome [(cI ((bU dP x1 g.head).getD 0))])]} [.pf ⟨gF [some .i64] 1 1 g.head.length (pK (aA .i64) g.head) (qF (aA .i64) g.head) [(.int .i64 x1)] [(.d (.int .i64 0))] (bU dP x1 g.head).isSome [(cI ((bU dP x1 g.head).getD 0))],fB (fun _=>rfl) (fun _ _=>rfl) g.head x1 0 rfl rfl rfl⟩]<| .r<| .it (.r<| .e (.done (.ret x1)))
  (.r<| .e (.next ((bU dP x1 g.head).getD 0))))
  (fun _=> .no))
theorem si (g:aV) (a:Int) (b:Int):bN Tryz.prog 249 [(.agg [(.mp 0)]),(sI a),(sI b)] (ZU g) (fun r=>(.bZ [])) (fun r=>[(0,some (Ld 3 3 false false 1 1 (aA .i64) (aA .i64) r))]) (mE g a b):=
  bO tT mX Tryz.func249 (
  .rg {fr:=[(0,2)]} []<| .cr 2 (fE g a) fun r_=> .cr 5 (fE g b) fun u0=> .r<| .r<| .it (.rg {an:=[(4, .map (fO dP r_ u0 g.head).length (pK (aA .i64) (fO dP r_ u0 g.head)) (qF (aA .i64) (fO dP r_ u0 g.head)) [])]} [.pf ⟨jE [some .i64] 1 1 g.head.length (pK (aA .i64) g.head) (qF (aA .i64) g.head) [(.int .i64 r_)] [(cI u0)] [] (fO dP r_ u0 g.head).length (pK (aA .i64) (fO dP r_ u0 g.head)) (qF (aA .i64) (fO dP r_ u0 g.head)),rz (fun _=>rfl) (fun _ _=>rfl) g.head r_ u0 rfl rfl⟩]<| .e (fO dP r_ u0 g.head))
  (.e g.head))
section
variable (o_:aV)
abbrev Z6:Nat × Option Ob:=(0,some (.loop nX 0 [(5,(vP 1 0))]))
abbrev k55:List (Nat × Option Ob):=[Z6,(1,some (.cells 337 [(.mp 2)])),(2,some (Ld 3 3 false false 1 1 (aA .i64) (aA .i64) o_.head))]
end
theorem qG (u0:Int) (u1:Int) (u2:Int) (u3:Int) (u4:Int) (u5:(List lI)) (o_:aV):O1 Tryz.prog 0 [(.agg [(cI u0),(cI u1),(cI u2),(cI u3),(cI u4),(.d (aH none 2 lI.cell u5))])] (k55 o_) (fun _=>vB true) (fun r=>[Z6,(1,some (.cells 337 [(.mp 2)])),(2,some (Ld 3 3 false false 1 1 (aA .i64) (aA .i64) r.head))]) (lM u0 u1 u2 u3 u4 u5 o_):=
  U9 tT mX nX ⟨[5],[0,1,2],fun _=>[(6,(vD (wT [(.int .i64 u0),(.int .i64 u1),(.int .i64 u2),(.int .i64 u3),(.int .i64 u4),(aH none 2 lI.cell u5)] 0)))],fun _=>[]⟩ (.rg {fr:=[(0,4)],fz:=[4]} []<| .e ())
  (.cl 5 (fw [(0,2)] (si o_ u0 u1)) fun r_=> .r<| .e (⟨r_⟩:aV))
section
variable (x2:(List Bool)) (t9:Int) (u2:(List Bool)) (u1:(List Bool)) (u0:(List Link))
abbrev k57:=(bif (bif (at' x2 t9.toNat)then(!(at' u2 t9.toNat))else false)then(!(at' u1 (((at' u0 t9.toNat).a).toNat)))else false)
abbrev O5:=((0:Int)≤t9∧t9<(x2.length:Int))
abbrev k59:=((gB [((bif (at' x2 t9.toNat)then(!(at' u2 t9.toNat))else false),true)]=true→(0:Int)≤(at' u0 t9.toNat).a∧(at' u0 t9.toNat).a<(u1.length:Int)))
abbrev k60:=((gB [((k57 x2 t9 u2 u1 u0),true)]=true→(0:Int)≤(at' u0 t9.toNat).b∧(at' u0 t9.toNat).b<(u1.length:Int)))
end
theorem qR (x1:Int) (u3:(List Source)) (u0:(List Link)) (u4:(List aO)) (x2:(List Bool)) (u5:(List Bool)) (u2:(List Bool)) (u6:(List Bool)) (u7:(List Bool)) (u8:(List Bool)) (u1:(List Bool)) (o_:aV):bN Tryz.prog 284 [(.one (.yl 0)),(sD (k11 u3 x1 u0 u4)),(sD (wT [(aH none 1 af x2),(aH none 1 af u5),(aH none 1 af u2),(aH none 1 af u6),(aH none 1 af u7),(aH none 1 af u8),(aH none 1 af u1)] 0))] (k55 o_) (fun r=>(.bZ [])) (fun r=>[Z6,(1,some (.cells 337 [(.mp 2)])),(2,some (Ld 3 3 false false 1 1 (aA .i64) (aA .i64) r.head))]) (lU x1 u3 u0 u4 x2 u5 u2 u6 u7 u8 u1 o_):=
  bO tT mX Tryz.func284 (
  .r<| .lp (σ:=((List (Int × Int)) × Int)) (β:=(List (Int × Int))) (o_.head,0) [] [] ⟨[0,2,7,8],[0,1],fun(o0,t9)=>[(9,(vI t9))],fun(o0,t9)=>[(2,some (Ld 3 3 false false 1 1 (aA .i64) (aA .i64) o0))]⟩ ⟨[],[0,1],fun o01=>[],fun o01=>[(2,some (Ld 3 3 false false 1 1 (aA .i64) (aA .i64) o01))]⟩
  (fun(o0,t9)=> .r<| .it (.a1 ((0:Int)≤t9∧t9<(u0.length:Int))<| .rg {fr:=[(3,10)],fz:=[10]} []<| .fk (bif (k57 x2 t9 u2 u1 u0)then(!(at' u1 (((at' u0 t9.toNat).b).toNat)))else false) (.cy 34 (qG ((at' u0 t9.toNat).a) ((at' u0 t9.toNat).b) ((at' u0 t9.toNat).kind) ((at' u0 t9.toNat).most) ((at' u0 t9.toNat).ohm) ((at' u0 t9.toNat).trip) (⟨o0⟩:aV)) fun r_=> .a4 (O5 x2 t9) ((gB [((at' x2 t9.toNat),true)]=true→(0:Int)≤t9∧t9<(u2.length:Int))) (k59 x2 t9 u2 u1 u0) (k60 x2 t9 u2 u1 u0)<| .rg {ov:=[(31,true,5)]} [0,1,2,3, .k 4]<| .f<| .r<| .e (.next (r_.head,(k18 t9))))
  (.a4 (O5 x2 t9) ((gB [((at' x2 t9.toNat),true)]=true→(0:Int)≤t9∧t9<(u2.length:Int))) (k59 x2 t9 u2 u1 u0) (k60 x2 t9 u2 u1 u0)<| .rg {ov:=[(31,false,4)],sk:=[32,33,34,35]} [0,1,2,3]<| .f<| .r<| .e (.next (o0,(k18 t9)))))
  (.e (.done (.brk o0))))
  (fun o01=> .e (⟨o01⟩:aV)))
section
variable (u1:(List aT)) (u2:(List (Int × Int))) (u0:Int) (u3:Int) (u7:Int) (p:aF) (s_:State) (u5:(List aT)) (u6:Int) (u4:(List (Int × Int)))
abbrev k61:List (Nat × Option Ob):=[(60,some (.rows 287 2 u1.length (sG aT.ev u1) none)),(61,some (Ld 3 3 false false 1 1 (aA .i64) (aA .i64) u2))]
abbrev GX:=((bU dP u0 u2).getD 0)
abbrev WB:List CV:=[(cI (GX u2 u0))]
abbrev Ni:=(fO dP u0 (u1.length:Int) u2)
abbrev Rp:=(u1++[(⟨([]:List Int),([]:List Int)⟩:aT)])
abbrev Z7:=(sG aT.ev (Rp u1))
abbrev Tq:=((bU dP u0 (Ni u1 u2 u0)).getD 0)
abbrev k71:=((Tq u1 u2 u0).toNat)
abbrev k70:=(at' (Rp u1) (k71 u1 u2 u0))
abbrev Uv:=((k70 u1 u2 u0).buses)
abbrev k68:=((Uv u1 u2 u0).length+[u3].length)
abbrev Wx:=((Uv u1 u2 u0)++[u3])
abbrev ZX:=(ah (aA .i64) (Wx u1 u2 u0 u3))
abbrev ZQ:=((Rp u1).set (k71 u1 u2 u0) (⟨(Wx u1 u2 u0 u3),(k70 u1 u2 u0).sources⟩:aT))
abbrev k74:=(sG aT.ev (ZQ u1 u2 u0 u3))
abbrev Tj:=(eO 1 [(.int .i64 u3)])
abbrev Uo:=((at' u1 ((GX u2 u0).toNat)).buses)
abbrev Wp:=((Uo u1 u2 u0)++[u3])
abbrev k79:=(ah (aA .i64) (Wp u1 u2 u0 u3))
abbrev k81:=(u1.set ((GX u2 u0).toNat) (⟨(Wp u1 u2 u0 u3),(at' u1 ((GX u2 u0).toNat)).sources⟩:aT))
abbrev k80:=(sG aT.ev (k81 u1 u2 u0 u3))
abbrev Zx:=((0:Int)≤u7∧u7<(p.sources.length:Int))
abbrev k83:=((gB [((at' s_.on_ u7.toNat),true)]=true→(0:Int)≤u7∧u7<(s_.badSource.length:Int)))
abbrev k84:=((gB [((bif (at' s_.on_ u7.toNat)then(!(at' s_.badSource u7.toNat))else false),true)]=true→(0:Int)≤(at' p.sources u7.toNat).bus∧(at' p.sources u7.toNat).bus<(s_.badBus.length:Int)))
abbrev Vu:=((at' p.sources u7.toNat).bus)
abbrev Sv:=((at' u5 ((GX u4 u6).toNat)).sources)
abbrev Wy:=((Sv u5 u6 u4)++[u7])
abbrev Z8:=(ah (aA .i64) (Wy u7 u5 u6 u4))
abbrev Z4:=(u5.set ((GX u4 u6).toNat) (⟨(at' u5 ((GX u4 u6).toNat)).buses,(Wy u7 u5 u6 u4)⟩:aT))
abbrev k89:=(sG aT.ev (Z4 u7 u5 u6 u4))
end
theorem jy (p:aF) (s_:State):bN Tryz.prog 197 (k28 s_ p) [] (fun r=>(vD (aH none 2 aT.cell r))) (fun _=>[]) (lZ p s_):=
  bO tT mX Tryz.func197 (
  .rg {fr:=[(0,55),(1,56)],fz:=[56]} []<| .rg {an:=[(0, .map 0 (pK (aA .i64) ([]:(List (Int × Int)))) (qF (aA .i64) ([]:(List (Int × Int)))) [])],fr:=[(0,57),(2,58)]} []<| .cl 2 (tZ p s_) fun r_=> .r<| .cl 0 (fw [(0,59),(1,58),(2,57)] (qR r_.1 r_.2.1 r_.2.2.1 r_.2.2.2.1 r_.2.2.2.2.1 r_.2.2.2.2.2.1 r_.2.2.2.2.2.2.1 r_.2.2.2.2.2.2.2.1 r_.2.2.2.2.2.2.2.2.1 r_.2.2.2.2.2.2.2.2.2.1 r_.2.2.2.2.2.2.2.2.2.2 (⟨([]:(List (Int × Int)))⟩:aV))) fun v0=> .rf 59 [5] [] none 0 []<| .r<| .im (.adR 7 60 287 2 (sG aT.ev ([]:List aT)))<| .rg {an:=[(0, .map 0 (pK (aA .i64) ([]:(List (Int × Int)))) (qF (aA .i64) ([]:(List (Int × Int)))) [])],fr:=[(0,61)]} []<| .r<| .lp (σ:=((List aT) × (List (Int × Int)) × Int)) (β:=((List aT) × (List (Int × Int)))) (([]:List aT),([]:(List (Int × Int))),0) [] [] ⟨[2,3,5,8,31],[55,57,58],fun(u1,u2,u3)=>[(7,(vO 60 false u1.length)),(32,(vI u3))],fun(u1,u2,u3)=>(k61 u1 u2)⟩ ⟨[2,3,5,8],[55,57,58],fun(u9,u4)=>[(7,(vO 60 false u9.length))],fun(u9,u4)=>(k61 u9 u4)⟩
  (fun(u1,u2,u3)=> .r<| .it (.r<| .a1 ((0:Int)≤u3∧u3<(s_.badBus.length:Int))<| .r<| .it (.r<| .e (.next (u1,u2,(k18 u3))))
  (.cr 2 (fw [(0,57)] (fE v0 u3)) fun u0=> .r<| .rg {an:=[(2, .look (bU dP u0 u2).isSome (WB u2 u0))]} [.pf ⟨gF [some .i64] 1 1 u2.length (pK (aA .i64) u2) (qF (aA .i64) u2) [(.int .i64 u0)] [(.d (.int .i64 0))] (bU dP u0 u2).isSome (WB u2 u0),fB (fun _=>rfl) (fun _ _=>rfl) u2 u0 0 rfl rfl rfl⟩]<| .r<| .it (.rg {an:=[(4, .map (Ni u1 u2 u0).length (pK (aA .i64) (Ni u1 u2 u0)) (qF (aA .i64) (Ni u1 u2 u0)) [])]} [.pf ⟨jE [some .i64] 1 1 u2.length (pK (aA .i64) u2) (qF (aA .i64) u2) [(.int .i64 u0)] [(cI (u1.length:Int))] [] (Ni u1 u2 u0).length (pK (aA .i64) (Ni u1 u2 u0)) (qF (aA .i64) (Ni u1 u2 u0)),rz (fun _=>rfl) (fun _ _=>rfl) u2 u0 (u1.length:Int) rfl rfl⟩]<| .a2 ((u1.length+[(⟨([]:List Int),([]:List Int)⟩:aT)].length)*48≤140737488355328) (u1.length+[(⟨([]:List Int),([]:List Int)⟩:aT)].length≤4611686018427387904)<| .rg {an:=[(2, .arr [(⟨([]:List Int),([]:List Int)⟩:aT)].length (eO 2 [nS,nS])),(3, .rows (Rp u1).length (Z7 u1))],fr:=[(2,86),(3,87)]} [.pf ⟨[(⟨([]:List Int),([]:List Int)⟩:aT)].length=1,rfl⟩, .pf ⟨av 1 2 (eO 2 [nS,nS]) (eO 2 [nS,nS]),bI _ _ _⟩, .e (u1.length),0,1, .pf ⟨(Rp u1).length=u1.length+[(⟨([]:List Int),([]:List Int)⟩:aT)].length,List.length_append⟩, .pf ⟨Ea u1.length [(⟨([]:List Int),([]:List Int)⟩:aT)].length 2 (sG aT.ev u1) (eO 2 [nS,nS]) (Z7 u1),Uq _ _ _ _ _ (by intro i hi j hj;match i,j,hi,hj with|0,0,_,_=>exact⟨rfl,_,_,_,rfl⟩|0,1,_,_=>exact⟨rfl,_,_,_,rfl⟩)⟩]<| .rg {an:=[(2, .look (bU dP u0 (Ni u1 u2 u0)).isSome [(cI (Tq u1 u2 u0))])]} [.pf ⟨gF [some .i64] 1 1 (Ni u1 u2 u0).length (pK (aA .i64) (Ni u1 u2 u0)) (qF (aA .i64) (Ni u1 u2 u0)) [(.int .i64 u0)] [(.d (.int .i64 0))] (bU dP u0 (Ni u1 u2 u0)).isSome [(cI (Tq u1 u2 u0))],fB (fun _=>rfl) (fun _ _=>rfl) (Ni u1 u2 u0) u0 0 rfl rfl rfl⟩]<| .a3 ((0:Int)≤(Tq u1 u2 u0)∧(Tq u1 u2 u0)<((Rp u1).length:Int)) ((k68 u1 u2 u0 u3)*8≤140737488355328) ((Uv u1 u2 u0).length+[u3].length≤4611686018427387904)<| .rg {an:=[(6, .take 88),(8, .arr [u3].length (ah (aA .i64) [u3])),(9, .arr (Wx u1 u2 u0 u3).length (ZX u1 u2 u0 u3)),(12, .rows 0 (k74 u1 u2 u0 u3))],fr:=[(8,89),(9,90)]} [0, .t 0 (Tq u1 u2 u0) ((Rp u1).length), .pf ⟨[u3].length=1,rfl⟩, .pf ⟨av 1 1 (Tj u3) (ah (aA .i64) [u3]),(by intro i hi j hj;match i,j,hi,hj with|0,0,_,_=>rfl)⟩, .e ((Uv u1 u2 u0).length),1,2, .pf ⟨(Wx u1 u2 u0 u3).length=(Uv u1 u2 u0).length+[u3].length,List.length_append⟩, .pf ⟨av (k68 u1 u2 u0 u3) 1 (dQ (ah (aA .i64) (Uv u1 u2 u0)) (Uv u1 u2 u0).length (ah (aA .i64) [u3])) (ZX u1 u2 u0 u3),aW _ _ _ _⟩,0, .t 0 (Tq u1 u2 u0) ((Rp u1).length), .e ((Wx u1 u2 u0 u3).length), .pf ⟨JL (Rp u1).length 2 (O4 (Z7 u1) (k71 u1 u2 u0) 0 (.row 3 1 (Wx u1 u2 u0 u3).length (ZX u1 u2 u0 u3))) (k74 u1 u2 u0 u3),En _ _ _ _ _ _ _ _ rfl (fun j hj=>(match j,hj with|0,_=>rfl|1,_=>rfl))⟩, .pf ⟨∀i0 j0 c0,((some ((Tq u1 u2 u0).toNat,0,CV.own 88 false (Uv u1 u2 u0).length)):Option (Nat × Nat × CV))=some (i0,j0,c0)→i0=(Tq u1 u2 u0).toNat∧j0=0,(fun i0 j0 c0 e=>by cases e;exact⟨rfl,rfl⟩)⟩]<| .im (.ll 87 (Rp u1) (ZQ u1 u2 u0 u3))<| .r<| .en (.next ((ZQ u1 u2 u0 u3),(Ni u1 u2 u0),(k18 u3))) [] [(87,60)])
  (.rg {an:=[(2, .look (bU dP u0 u2).isSome (WB u2 u0))]} [.pf ⟨gF [some .i64] 1 1 u2.length (pK (aA .i64) u2) (qF (aA .i64) u2) [(.int .i64 u0)] [(.d (.int .i64 0))] (bU dP u0 u2).isSome (WB u2 u0),fB (fun _=>rfl) (fun _ _=>rfl) u2 u0 0 rfl rfl rfl⟩]<| .a3 ((0:Int)≤(GX u2 u0)∧(GX u2 u0)<(u1.length:Int)) (((Uo u1 u2 u0).length+[u3].length)*8≤140737488355328) ((Uo u1 u2 u0).length+[u3].length≤4611686018427387904)<| .rg {an:=[(6, .take 91),(8, .arr [u3].length (ah (aA .i64) [u3])),(9, .arr (Wp u1 u2 u0 u3).length (k79 u1 u2 u0 u3)),(12, .rows 0 (k80 u1 u2 u0 u3))],fr:=[(8,92),(9,93)]} [0, .t 0 (GX u2 u0) u1.length, .pf ⟨[u3].length=1,rfl⟩, .pf ⟨av 1 1 (Tj u3) (ah (aA .i64) [u3]),(by intro i hi j hj;match i,j,hi,hj with|0,0,_,_=>rfl)⟩, .e ((Uo u1 u2 u0).length),1,2, .pf ⟨(Wp u1 u2 u0 u3).length=(Uo u1 u2 u0).length+[u3].length,List.length_append⟩, .pf ⟨av ((Uo u1 u2 u0).length+[u3].length) 1 (dQ (ah (aA .i64) (Uo u1 u2 u0)) (Uo u1 u2 u0).length (ah (aA .i64) [u3])) (k79 u1 u2 u0 u3),aW _ _ _ _⟩,0, .t 0 (GX u2 u0) u1.length, .e ((Wp u1 u2 u0 u3).length), .pf ⟨JL u1.length 2 (O4 (sG aT.ev u1) ((GX u2 u0).toNat) 0 (.row 3 1 (Wp u1 u2 u0 u3).length (k79 u1 u2 u0 u3))) (k80 u1 u2 u0 u3),En _ _ _ _ _ _ _ _ rfl (fun j hj=>(match j,hj with|0,_=>rfl|1,_=>rfl))⟩, .pf ⟨∀i0 j0 c0,((some ((GX u2 u0).toNat,0,CV.own 91 false (Uo u1 u2 u0).length)):Option (Nat × Nat × CV))=some (i0,j0,c0)→i0=(GX u2 u0).toNat∧j0=0,(fun i0 j0 c0 e=>by cases e;exact⟨rfl,rfl⟩)⟩]<| .im (.ll 60 u1 (k81 u1 u2 u0 u3))<| .r<| .e (.next ((k81 u1 u2 u0 u3),u2,(k18 u3))))))
  (.e (.done (.brk (u1,u2)))))
  (fun(u9,u4)=> .r<| .lp (σ:=((List aT) × Int)) (β:=(List aT)) (u9,0) [] [] ⟨[3,5,8,76,77],[57,58,61],fun(u5,u7)=>[(7,(vO 60 false u5.length)),(78,(vI u7))],fun(u5,u7)=>[(60,some (.rows 287 2 u5.length (sG aT.ev u5) none))]⟩ ⟨[],[],fun u8=>[(7,(vO 60 false u8.length))],fun u8=>[(60,some (.rows 287 2 u8.length (sG aT.ev u8) none))]⟩
  (fun(u5,u7)=> .r<| .it (.a1 (Zx u7 p)<| .rg {fr:=[(3,106)],fz:=[106]} []<| .a3 ((0:Int)≤u7∧u7<(s_.on_.length:Int)) (k83 u7 s_) (k84 u7 p s_)<| .rg {} [0,1,2]<| .it (.cr 4 (fw [(0,57)] (fE v0 (Vu u7 p))) fun u6=> .rg {an:=[(5, .look (bU dP u6 u4).isSome (WB u4 u6))]} [0, .pf ⟨gF [some .i64] 1 1 u4.length (pK (aA .i64) u4) (qF (aA .i64) u4) [(.int .i64 u6)] [(.d (.int .i64 0))] (bU dP u6 u4).isSome (WB u4 u6),fB (fun _=>rfl) (fun _ _=>rfl) u4 u6 0 rfl rfl rfl⟩]<| .a3 ((0:Int)≤(GX u4 u6)∧(GX u4 u6)<(u5.length:Int)) (((Sv u5 u6 u4).length+[u7].length)*8≤140737488355328) ((Sv u5 u6 u4).length+[u7].length≤4611686018427387904)<| .rg {an:=[(6, .take 107),(8, .arr [u7].length (ah (aA .i64) [u7])),(9, .arr (Wy u7 u5 u6 u4).length (Z8 u7 u5 u6 u4)),(12, .rows 0 (k89 u7 u5 u6 u4))],fr:=[(8,108),(9,109)]} [0, .t 0 (GX u4 u6) u5.length, .pf ⟨[u7].length=1,rfl⟩, .pf ⟨av 1 1 (Tj u7) (ah (aA .i64) [u7]),(by intro i hi j hj;match i,j,hi,hj with|0,0,_,_=>rfl)⟩, .e ((Sv u5 u6 u4).length),1,2, .pf ⟨(Wy u7 u5 u6 u4).length=(Sv u5 u6 u4).length+[u7].length,List.length_append⟩, .pf ⟨av ((Sv u5 u6 u4).length+[u7].length) 1 (dQ (ah (aA .i64) (Sv u5 u6 u4)) (Sv u5 u6 u4).length (ah (aA .i64) [u7])) (Z8 u7 u5 u6 u4),aW _ _ _ _⟩,0, .t 0 (GX u4 u6) u5.length, .e ((Wy u7 u5 u6 u4).length), .pf ⟨JL u5.length 2 (O4 (sG aT.ev u5) ((GX u4 u6).toNat) 1 (.row 3 1 (Wy u7 u5 u6 u4).length (Z8 u7 u5 u6 u4))) (k89 u7 u5 u6 u4),En _ _ _ _ _ _ _ _ rfl (fun j hj=>(match j,hj with|0,_=>rfl|1,_=>rfl))⟩, .pf ⟨∀i0 j0 c0,((some ((GX u4 u6).toNat,1,CV.own 107 false (Sv u5 u6 u4).length)):Option (Nat × Nat × CV))=some (i0,j0,c0)→i0=(GX u4 u6).toNat∧j0=1,(fun i0 j0 c0 e=>by cases e;exact⟨rfl,rfl⟩)⟩]<| .im (.ll 60 u5 (Z4 u7 u5 u6 u4))<| .r<| .e (.next ((Z4 u7 u5 u6 u4),(k18 u7))))
  (.r<| .e (.next (u5,(k18 u7)))))
  (.e (.done (.brk u5))))
  (fun u8=> .r<| .fz [60]<| .im (.us 4 (vD (.sl none 2 u8.length (fun i j=>Na (sG aT.ev u8 i j)))) (vD (aH none 2 aT.cell u8)) (Dq.v (mO.one (jG.d (dW.sl (.inr rfl) (fun i _ j hj=>match j,hj with|0,_=> .refl _|1,_=> .refl _))))))<| .e u8)))
section
variable (p:aF) (u1:(List aT)) (u0:Int) (u3:Int) (u2:(List Bool)) (u6:(List Bool))
abbrev Wo:=((1:Int)*p.buses≤281474976710656)
abbrev Wt:=((p.buses:Int)≤9223372036854775807)
abbrev Dk:=(List.replicate p.buses.toNat (false:Bool))
abbrev MW:=(ah af (Dk p))
abbrev Wv:=(at' ((at' u1 u0.toNat).buses) u3.toNat)
abbrev k95:=((0:Int)≤(Wv u1 u0 u3)∧(Wv u1 u0 u3)<(u2.length:Int))
abbrev ZF:=(u2.set ((Wv u1 u0 u3).toNat) (decide (0<(((at' u1 u0.toNat).sources).length:Int))))
abbrev ZK:=(ah af (ZF u1 u0 u3 u2))
abbrev k99:=(bW (ah af u2) ((Wv u1 u0 u3).toNat) 0 [(.bool (decide (0<(((at' u1 u0.toNat).sources).length:Int))))])
abbrev XY:=((ZF u1 u0 u3 u2),(k18 u3))
abbrev D7:=(u6,(k18 u0))
end
theorem l9 (p:aF) (s_:State):bN Tryz.prog 126 (k28 s_ p) [] (fun r=>(.bZ [(.one (.own 0 false r.1.length)),(sI r.2)])) (fun r=>[(0,some (bg 4 1 af r.1))]) (iF p s_):=
  bO tT mX Tryz.func126 (
  .rg {fr:=[(0,7),(1,8)],fz:=[7,8]} []<| .cl 2 (dL p s_) fun r_=> .r<| .r<| .it (.r<| .im (.ad 4 9 4 1 (ah af ([]:List Bool)))<| .en (([]:List Bool),r_) [] [(9,0)])
  (.a3 ((0:Int)≤p.buses) (Wo p) (Wt p)<| .rg {an:=[(2, .arr (Dk p).length (MW p))],fr:=[(2,10)]} [0, .e ((p.buses:Int)),1,2, .pf ⟨(Dk p).length=p.buses.toNat,List.length_replicate⟩, .pf ⟨av p.buses.toNat 1 (fun _ j=>[(.bool false)].getD j .nilp) (MW p),bY _ _ _ _ _ (fun j hj=>(match j,hj with|0,_=>rfl))⟩]<| .cl 2 (jy p s_) fun u1=> .r<| .lp (σ:=((List Bool) × Int)) (β:=(List Bool)) ((Dk p),0) [] [] ⟨[23,24],[],fun(u4,u0)=>[(7,(vO 10 true u4.length)),(25,(vI u0))],fun(u4,u0)=>[(10,some (bg 4 1 af u4))]⟩ ⟨[],[],fun u5=>[(7,(vO 10 true u5.length))],fun u5=>[(10,some (bg 4 1 af u5))]⟩
  (fun(u4,u0)=> .r<| .it (.a1 ((0:Int)≤u0∧u0<(u1.length:Int))<| .rg {fr:=[(2,14)]} []<| .rg {fz:=[14]} []<| .lp (σ:=((List Bool) × Int)) (β:=(List Bool)) (u4,0) [] [] ⟨[9,23,24,25,30,31],[],fun(u2,u3)=>[(7,(vO 10 true u2.length)),(32,(vI u3))],fun(u2,u3)=>[(10,some (bg 4 1 af u2))]⟩ ⟨[23,24,25],[],fun u6=>[(7,(vO 10 true u6.length))],fun u6=>[(10,some (bg 4 1 af u6))]⟩
  (fun(u2,u3)=> .r<| .it (.a1 ((0:Int)≤u3∧u3<(((at' u1 u0.toNat).buses).length:Int))<| .r<| .a1 (k95 u1 u0 u3 u2)<| .rg {an:=[(7, .arr 0 (ZK u1 u0 u3 u2))]} [0, .t 0 (Wv u1 u0 u3) u2.length, .pf ⟨av u2.length 1 (k99 u1 u0 u3 u2) (ZK u1 u0 u3 u2),aR _ _ _ _ _ _ _ _ rfl (fun j hj=>(match j,hj with|0,_=>rfl))⟩]<| .im (.ll 10 u2 (ZF u1 u0 u3 u2))<| .r<| .e (.next (XY u1 u0 u3 u2)))
  (.e (.done (.brk u2))))
  (fun u6=> .r<| .e (.next (D7 u0 u6))))
  (.e (.done (.brk u4))))
  (fun u5=> .r<| .en (u5,0) [] [(10,0)])))
theorem fI (x y:ai):Go.Proofs.ltOf cK x y=true↔x.e0<y.e0∨ ¬ y.e0<x.e0∧x.e1<y.e1:=by
 unfold Go.Proofs.ltOf cK;rw [decide_eq_true_iff]
 by_cases h0:x.e0<y.e0<;>by_cases g0:y.e0<x.e0<;>by_cases h1:x.e1<y.e1<;>by_cases g1:y.e1<x.e1<;>simp [h0,g0,h1,g1]
theorem uf:Go.Sort.SWO (Go.Proofs.ltOf cK) where
 irrefl x:=by rw [←Bool.not_eq_true,fI];omega
 trans x y z h1 h2:=by rw [fI]at*;omega
 ntrans x y z h1 h2:=by rw [←Bool.not_eq_true,fI]at*;omega
theorem uD (x y:ai) (h1:(Go.Proofs.ltOf cK) x y=false) (h2:(Go.Proofs.ltOf cK) y x=false):x=y:=by
 rw [←Bool.not_eq_true,fI]at h1 h2
 obtain⟨a,b⟩:=x
 obtain⟨c,d⟩:=y
 have e1:a=c:=by simp only at h1 h2;omega
 have e2:b=d:=by simp only at h1 h2;omega
 rw [e1,e2]
theorem vW (s:(List ai)) {r:(List ai)} (h:pM s=some r):Fn Tryz.prog 207 [(.one (.own 0 false s.length)),(sD (.fn 208 0 (mh [])))] [(0,some (.arr 145 2 s.length (ah ai.cell s)))] (.bZ []) [(0,some (.arr 145 2 r.length (ah ai.cell r)))]:=
 VP Pp 2 R7 Pz (fun x:ai=>[.int .i64 x.e0, .int .i64 x.e1]) (fun _=>rfl) (fun x v hv=>by simp at hv;rcases hv with rfl|rfl<;>rfl) cK uf uD
  (LX (fun x:ai=>[.int .i64 x.e0, .int .i64 x.e1]) (fun x=>x.e0) (fun x=>x.e1) (fun _=>rfl)) (enters_of Tryz.func208 (by kernel_rfl) rfl)
  (fun F w x j hj v=>match j,hj with|0,_=>Iff.rfl|1,_=>Iff.rfl) 207 rfl ⟨_,Tryz.func207,rfl,rfl⟩ s (by cases s with|nil=>(cases h;simp)|cons x xs=>exact h)
section
variable (u6:(List ai)) (u2:(List aT)) (u0:Int) (u1:Int) (u3:Int) (u4:(List ai))
abbrev NQ:List (Nat × Option Ob):=[(139,some (bg 145 2 ai.cell u6))]
abbrev UI:=(((at' u2 u0.toNat).sources).drop ((k18 u1).toNat))
abbrev KJ:=(at' ((at' u2 u0.toNat).sources) u1.toNat)
abbrev RN:=(at' (UI u2 u0 u1) u3.toNat)
abbrev Le:=(⟨(KJ u2 u0 u1),(RN u2 u0 u1 u3)⟩:ai)
abbrev XL:=(u4.length+[(Le u2 u0 u1 u3)].length)
abbrev UU:=(ah ai.cell [(Le u2 u0 u1 u3)])
abbrev Ry:=(u4++[(Le u2 u0 u1 u3)])
abbrev YK:=(ah ai.cell (Ry u2 u0 u1 u3 u4))
abbrev IA:=(u4,(k18 u3))
end
theorem gD (p:aF) (s_:State):bN Tryz.prog 135 (k28 s_ p) [] (fun r=>(.bZ [(.one (.own 0 false r.1.length)),(sI r.2)])) (fun r=>[(0,some (bg 145 2 ai.cell r.1))]) (gI p s_):=
  bO tT mX Tryz.func135 (
  .rg {fr:=[(0,134),(1,135)],fz:=[134,135]} []<| .cl 2 (dL p s_) fun r_=> .r<| .r<| .it (.r<| .im (.ad 4 136 145 2 (ah ai.cell ([]:List ai)))<| .en (([]:List ai),r_) [] [(136,0)])
  (.r<| .cl 2 (jy p s_) fun u2=> .r<| .im (.ad 7 269 145 2 (ah ai.cell ([]:List ai)))<| .lp (σ:=((List ai) × Int)) (β:=(List ai)) (([]:List ai),0) [] [(269,139)] ⟨[2,22,23],[],fun(u6,u0)=>[(7,(vO 139 false u6.length)),(24,(vI u0))],fun(u6,u0)=>(NQ u6)⟩ ⟨[],[],fun u5=>[(7,(vO 139 false u5.length))],fun u5=>(NQ u5)⟩
  (fun(u6,u0)=> .r<| .it (.a1 ((0:Int)≤u0∧u0<(u2.length:Int))<| .rg {fr:=[(2,236)],fz:=[236]} []<| .r<| .lp (σ:=((List ai) × Int)) (β:=(List ai)) (u6,0) [] [] ⟨[2,9,22,23,24,29,30],[],fun(u7,u1)=>[(7,(vO 139 false u7.length)),(31,(vI u1))],fun(u7,u1)=>(NQ u7)⟩ ⟨[2,22,23,24],[],fun u8=>[(7,(vO 139 false u8.length))],fun u8=>(NQ u8)⟩
  (fun(u7,u1)=> .r<| .it (.a1 ((0:Int)≤u1∧u1<(((at' u2 u0.toNat).sources).length:Int))<| .r<| .a1 ((0:Int)≤(k18 u1)∧(k18 u1)≤(((at' u2 u0.toNat).sources).length:Int))<| .r<| .im (.us 40 (vD (.sl none 1 (((at' u2 u0.toNat).sources).length - ((k18 u1).toNat)) (fun iq jq=>ah (aA .i64) ((at' u2 u0.toNat).sources) (iq+((k18 u1).toNat)) jq))) (vD (aH none 1 (aA .i64) (UI u2 u0 u1))) (Dq.v (mO.one (jG.d (dW.Wz (by first|rw [List.length_append,List.length_drop]|simp only [List.length_set,List.length_drop,dH]|exact List.length_replicate) (.inr rfl) (MI _ _ _ _))))))<| .lp (σ:=((List ai) × Int)) (β:=(List ai)) (u7,0) [] [] ⟨[2,9,11,22,23,24,29,30,31,40,41],[],fun(u4,u3)=>[(7,(vO 139 false u4.length)),(42,(vI u3))],fun(u4,u3)=>(NQ u4)⟩ ⟨[2,9,22,23,24,29,30,31],[],fun u9=>[(7,(vO 139 false u9.length))],fun u9=>(NQ u9)⟩
  (fun(u4,u3)=> .r<| .it (.a1 ((0:Int)≤u3∧u3<((UI u2 u0 u1).length:Int))<| .r<| .a3 ((0:Int)≤(KJ u2 u0 u1)∧(KJ u2 u0 u1)<(p.sources.length:Int)) ((gB [((decide (((at' p.sources ((KJ u2 u0 u1).toNat)).sync)=0)),false)]=true→(0:Int)≤(KJ u2 u0 u1)∧(KJ u2 u0 u1)<(p.sources.length:Int))) ((gB [((decide (((at' p.sources ((KJ u2 u0 u1).toNat)).sync)=0)),false)]=true→(0:Int)≤(RN u2 u0 u1 u3)∧(RN u2 u0 u1 u3)<(p.sources.length:Int)))<| .rg {} [0,1,2]<| .it (.a2 ((XL u2 u0 u1 u3 u4)*16≤140737488355328) (u4.length+[(Le u2 u0 u1 u3)].length≤4611686018427387904)<| .rg {an:=[(4, .arr [(Le u2 u0 u1 u3)].length (UU u2 u0 u1 u3)),(5, .arr (Ry u2 u0 u1 u3 u4).length (YK u2 u0 u1 u3 u4))],fr:=[(4,267),(5,268)]} [.pf ⟨[(Le u2 u0 u1 u3)].length=1,rfl⟩, .pf ⟨av 1 2 (eO 2 [(.int .i64 (KJ u2 u0 u1)),(.int .i64 (RN u2 u0 u1 u3))]) (UU u2 u0 u1 u3),(by intro i hi j hj;match i,j,hi,hj with|0,0,_,_=>rfl|0,1,_,_=>rfl)⟩, .e (u4.length),0,1, .pf ⟨(Ry u2 u0 u1 u3 u4).length=u4.length+[(Le u2 u0 u1 u3)].length,List.length_append⟩, .pf ⟨av (XL u2 u0 u1 u3 u4) 2 (dQ (ah ai.cell u4) u4.length (UU u2 u0 u1 u3)) (YK u2 u0 u1 u3 u4),aW _ _ _ _⟩]<| .r<| .en (.next ((Ry u2 u0 u1 u3 u4),(k18 u3))) [] [(268,139)])
  (.r<| .e (.next (IA u3 u4))))
  (.e (.done (.brk u4))))
  (fun u9=> .r<| .e (.next (IA u1 u9))))
  (.e (.done (.brk u7))))
  (fun u8=> .r<| .e (.next (IA u0 u8))))
  (.e (.done (.brk u6))))
  (fun u5=> .cl 1 (fw [(0,139)] ⟨fun h=>vW u5 h⟩) fun v0=> .r<| .a1 (u5.length=v0.length)<| .so 7 139 false u5.length v0.length 0<| .so 77 139 false u5.length v0.length 0<| .r<| .en (v0,0) [] [(139,0)])))
theorem Aa (s_:(List ai)) (v_:ai):bN Tryz.prog 297 [(sD (aH none 2 ai.cell s_)),(.agg [(cI v_.e0),(cI v_.e1)])] [] (fun r=>(vI r)) (fun _=>[]) (wE s_ v_):=
  bO tT mX Tryz.func297 (
  .rg {fr:=[(0,1)],fz:=[1]} []<| .r<| .lp (σ:=Int) (β:=Unit) (0) [] [] ⟨[0,3,7],[],fun t8=>[(8,(vI t8))],fun t8=>[]⟩ ⟨[],[],fun _=>[],fun _=>[]⟩
  (fun t8=> .r<| .it (.r<| .a1 ((0:Int)≤t8∧t8<(s_.length:Int))<| .r<| .it (.r<| .e (.done (.ret t8)))
  (.r<| .e (.next (k18 t8))))
  (.e (.done (.brk ()))))
  (fun _=> .r<| .e (-1)))
theorem wD (s_:(List ai)) (v_:ai):bN Tryz.prog 274 [(sD (aH none 2 ai.cell s_)),(.agg [(cI v_.e0),(cI v_.e1)])] [] (fun r=>(vB r)) (fun _=>[]) (pF s_ v_):=
  bO tT mX Tryz.func274 (
  .rg {fr:=[(0,1)],fz:=[1]} []<| .cl 2 (Aa s_ v_) fun r_=> .r<| .e (decide (0≤r_)))
theorem yH (c:ai) (x1:(List ai)):bN Tryz.prog 273 [(.agg [(cI c.e0),(cI c.e1)]),(sD (wT [(aH none 2 ai.cell x1)] 0))] [] (fun r=>(vB r)) (fun _=>[]) (tL c x1):=
  bO tT mX Tryz.func273 (
  .rg {fr:=[(0,1)],fz:=[1]} []<| .cl 2 (wD x1 c) fun r_=> .r<| .e (!r_))
section
variable (s_:(List ai)) (f_:(List ai))
abbrev WV:List SV:=[(sD (aH none 2 ai.cell s_)),(sD (.fn 273 1 (mh [(wT [(aH none 2 ai.cell f_)] 0)])))]
end
theorem p8 (s_:(List ai)) (f_:(List ai)):bN Tryz.prog 296 (WV s_ f_) [] (fun r=>(vI r)) (fun _=>[]) (kH s_ f_):=
  bO tT mX Tryz.func296 (
  .r<| .r<| .lp (σ:=Int) (β:=Unit) (0) [] [] ⟨[0,1,7],[],fun t8=>[(8,(vI t8))],fun t8=>[]⟩ ⟨[],[],fun _=>[],fun _=>[]⟩
  (fun t8=> .r<| .it (.r<| .cl 5 (yH (at' s_ t8.toNat) f_) fun r_=> .a1 ((0:Int)≤t8∧t8<(s_.length:Int))<| .rg {} [0,1]<| .it (.r<| .e (.done (.ret t8)))
  (.r<| .e (.next (k18 t8))))
  (.e (.done (.brk ()))))
  (fun _=> .r<| .e (-1)))
theorem iw (s_:(List ai)) (f_:(List ai)):bN Tryz.prog 272 (WV s_ f_) [] (fun r=>(vB r)) (fun _=>[]) (fM s_ f_):=
  bO tT mX Tryz.func272 (
  .r<| .cl 2 (p8 s_ f_) fun r_=> .r<| .e (decide (0≤r_)))
section
variable (p:aF) (s_:State) (x:Transfer) (r_:((List Bool) × Int)) (u0:(List Bool)) (u1:Int) (u3:((List Bool) × Int))
abbrev Ls:List SV:=[(.agg (k9 p)),(.agg (YA s_))]
abbrev Zi:=(bif (bif (at' s_.badBus x.watch.toNat)then true else(at' r_.1 x.watch.toNat))then true else(at' s_.closed x.close.toNat))
abbrev WQ:=((Zi s_ x r_),false)
abbrev Yg:=((bif (Zi s_ x r_)then true else(at' s_.badLink x.close.toNat)),false)
abbrev vF:=(u0.set x.close.toNat true)
abbrev F6:=((vF x u0).set x.open_.toNat false)
abbrev Yr:List SV:=[(.agg (k9 p)),(.agg [(.d (aH none 1 af (F6 x u0))),(.d (aH none 1 af s_.locked)),(.d (aH none 1 af s_.badLink)),(.d (aH none 1 af s_.on_)),(.d (aH none 1 af s_.badSource)),(.d (aH none 1 af s_.earthed)),(.d (aH none 1 af s_.badBus))])]
abbrev U8:=(⟨(F6 x u0),s_.locked,s_.badLink,s_.on_,s_.badSource,s_.earthed,s_.badBus⟩:State)
abbrev XP:List SV:=[(.agg (k9 p)),(.agg [(.own 29 false ((F6 x u0).length)),(.own 1 false s_.locked.length),(.own 2 false s_.badLink.length),(.own 3 false s_.on_.length),(.own 4 false s_.badSource.length),(.own 5 false s_.earthed.length),(.own 6 false s_.badBus.length)])]
abbrev Vl:Nat × Option Ob:=(29,some (bg 4 1 af (F6 x u0)))
abbrev X9:List (Nat × Option Ob):=[(Vl x u0),(Kn s_),(J4 s_),(JN s_),(JO s_),(JD s_),(Ky s_)]
abbrev Rx:=((0:Int)≤u1∧u1<(r_.1.length:Int))
abbrev Sj:=((gB [((at' r_.1 u1.toNat),true)]=true→(0:Int)≤u1∧u1<(u3.1.length:Int)))
abbrev Ra:=((bif (at' r_.1 u1.toNat)then(!(at' u3.1 u1.toNat))else false),false)
abbrev RD:=((gB [(Ra r_ u1 u3)]=true→(0:Int)≤u1∧u1<(u3.1.length:Int)))
abbrev Uj:=((gB [((at' u3.1 u1.toNat),true),(Ra r_ u1 u3)]=true→(0:Int)≤u1∧u1<(s_.earthed.length:Int)))
abbrev Ub:=((gB [((bif (at' u3.1 u1.toNat)then(at' s_.earthed u1.toNat)else false),true),(Ra r_ u1 u3)]=true→(0:Int)≤u1∧u1<(r_.1.length:Int)))
abbrev Yp:List SV:=[(.agg (k9 p)),(.agg [(.d (aH none 1 af (vF x u0))),(.d (aH none 1 af s_.locked)),(.d (aH none 1 af s_.badLink)),(.d (aH none 1 af s_.on_)),(.d (aH none 1 af s_.badSource)),(.d (aH none 1 af s_.earthed)),(.d (aH none 1 af s_.badBus))])]
abbrev UH:=(⟨(vF x u0),s_.locked,s_.badLink,s_.on_,s_.badSource,s_.earthed,s_.badBus⟩:State)
abbrev WN:List SV:=[(.agg (k9 p)),(.agg [(.own 29 false ((vF x u0).length)),(.own 1 false s_.locked.length),(.own 2 false s_.badLink.length),(.own 3 false s_.on_.length),(.own 4 false s_.badSource.length),(.own 5 false s_.earthed.length),(.own 6 false s_.badBus.length)])]
abbrev Vk:Nat × Option Ob:=(29,some (bg 4 1 af (vF x u0)))
abbrev W9:List (Nat × Option Ob):=[(Vk x u0),(Kn s_),(J4 s_),(JN s_),(JO s_),(JD s_),(Ky s_)]
end
theorem CX (p:aF) (s_:State) (x:Transfer):bN Tryz.prog 225 [(.agg (k9 p)),(.agg (YA s_)),(.agg [(cI x.watch),(cI x.open_),(cI x.close)])] (FI s_) (fun r=>(.bZ [(.agg [(.own 7 false r.1.closed.length),(.own 1 false s_.locked.length),(.own 2 false s_.badLink.length),(.own 3 false s_.on_.length),(.own 4 false s_.badSource.length),(.own 5 false s_.earthed.length),(.own 6 false s_.badBus.length)]),(sB r.2)])) (fun r=>[(UE s_),(Kn s_),(J4 s_),(JN s_),(JO s_),(JD s_),(Ky s_),(7,bif r.2 then some (bg 4 1 af r.1.closed)else none),(8,none)]) (xN p s_ x):=
  bO tT mX Tryz.func225 (
  .rg {fr:=[(0,22),(1,23),(2,24),(3,25)],fz:=[22]} []<| .cl 2 ⟨fun{r_} hr_=>((Fn.AQ (args:=(k28 s_ p)) (frz:=[0,1,2,3,4,5,6]) (p:=[s_.closed.length=s_.closed.length,s_.locked.length=s_.locked.length,s_.badLink.length=s_.badLink.length,s_.on_.length=s_.on_.length,s_.badSource.length=s_.badSource.length,s_.earthed.length=s_.earthed.length,s_.badBus.length=s_.badBus.length]) (rK [(0,26)] (l9 p s_ hr_)) (by kernel_rfl) ⟨rfl,rfl,rfl,rfl,rfl,rfl,rfl,trivial⟩ (by kernel_rfl) ⟨(fun _ _=>rfl),trivial⟩ (by kernel_rfl)):Fn Tryz.prog 126 (Ls p s_) (FI s_) (.bZ [(.one (.own 26 false r_.1.length)),(sI r_.2)]) [(UE s_),(Kn s_),(J4 s_),(JN s_),(JO s_),(JD s_),(Ky s_),(26,some (bg 4 1 af r_.1))])⟩ fun r_=> .rg {fz:=[26]} []<| .a5 ((0:Int)≤x.watch∧x.watch<(s_.badBus.length:Int)) ((gB [((at' s_.badBus x.watch.toNat),false)]=true→(0:Int)≤x.watch∧x.watch<(r_.1.length:Int))) ((gB [((bif (at' s_.badBus x.watch.toNat)then true else(at' r_.1 x.watch.toNat)),false)]=true→(0:Int)≤x.close∧x.close<(s_.closed.length:Int))) ((gB [(WQ s_ x r_)]=true→(0:Int)≤x.close∧x.close<(s_.badLink.length:Int))) ((gB [(Yg s_ x r_)]=true→(0:Int)≤x.close∧x.close<(s_.locked.length:Int)))<| .rg {} [0, .t 0 x.watch s_.badBus.length,1,2, .tg 2 [((bif (at' s_.badBus x.watch.toNat)then true else(at' r_.1 x.watch.toNat)),false)] x.close s_.closed.length,3, .tg 3 [(WQ s_ x r_)] x.close s_.badLink.length,4, .tg 4 [(Yg s_ x r_)] x.close s_.locked.length]<| .it (.r<| .im (.ac 25 0 0 27)<| .en (s_,false) [] [(27,7),(25,8)])
  (.rg {fr:=[(1,28)]} []<| .cl 2 ⟨fun{u0} hr_1=>((Fn.AQ (args:=[(sD (aH none 1 af s_.closed))]) (frz:=[0]) (p:=[s_.closed.length=s_.closed.length]) (Fn.uO [(0,29)] (aN s_.closed hr_1) (by kernel_rfl) (by kernel_rfl) (by kernel_rfl) (by kernel_rfl)) (by kernel_rfl) ⟨rfl,trivial⟩ (by kernel_rfl) ⟨(fun _ _=>rfl),trivial⟩ (by kernel_rfl)):Fn Tryz.prog 149 [(.one (.own 0 false s_.closed.length))] [(UE s_)] (vO 29 false u0.length) [(UE s_),(29,some (bg 4 1 af u0))])⟩ fun u0=> .r<| .a1 ((0:Int)≤x.close∧x.close<(u0.length:Int))<| .rg {an:=[(5, .arr 0 (ah af (vF x u0)))]} [0, .t 0 x.close u0.length, .pf ⟨av u0.length 1 (bW (ah af u0) x.close.toNat 0 [(.bool true)]) (ah af (vF x u0)),aR _ _ _ _ _ _ _ _ rfl (fun j hj=>(match j,hj with|0,_=>rfl))⟩]<| .im (.ll 29 u0 (vF x u0))<| .r<| .it (.a2 ((0:Int)≤x.open_∧x.open_<(s_.badLink.length:Int)) ((gB [((at' s_.badLink x.open_.toNat),false)]=true→(0:Int)≤x.open_∧x.open_<(s_.locked.length:Int)))<| .rg {} [0, .t 0 x.open_ s_.badLink.length,1, .tg 1 [((at' s_.badLink x.open_.toNat),false)] x.open_ s_.locked.length]<| .it (.r<| .im (.ac 25 0 0 30)<| .en (s_,false) [] [(30,7),(25,8)])
  (.a1 ((0:Int)≤x.open_∧x.open_<((vF x u0).length:Int))<| .rg {an:=[(5, .arr 0 (ah af (F6 x u0)))],fz:=[24]} [0, .t 0 x.open_ ((vF x u0).length), .pf ⟨av (vF x u0).length 1 (bW (ah af (vF x u0)) x.open_.toNat 0 [(.bool false)]) (ah af (F6 x u0)),aR _ _ _ _ _ _ _ _ rfl (fun j hj=>(match j,hj with|0,_=>rfl))⟩]<| .im (.ll 29 (vF x u0) (F6 x u0))<| .cl 2 ⟨fun{u3} hr_2=>((Fn.AQ (args:=(Yr p s_ x u0)) (frz:=[29,1,2,3,4,5,6]) (p:=[(F6 x u0).length=(F6 x u0).length,s_.locked.length=s_.locked.length,s_.badLink.length=s_.badLink.length,s_.on_.length=s_.on_.length,s_.badSource.length=s_.badSource.length,s_.earthed.length=s_.earthed.length,s_.badBus.length=s_.badBus.length]) (Fn.uO [(0,31)] (l9 p (U8 s_ x u0) hr_2) (by kernel_rfl) (by kernel_rfl) (by kernel_rfl) (by kernel_rfl)) (by kernel_rfl) ⟨rfl,rfl,rfl,rfl,rfl,rfl,rfl,trivial⟩ (by kernel_rfl) ⟨(fun _ _=>rfl),trivial⟩ (by kernel_rfl)):Fn Tryz.prog 126 (XP p s_ x u0) (X9 s_ x u0) (.bZ [(.one (.own 31 false u3.1.length)),(sI u3.2)]) [(Vl x u0),(Kn s_),(J4 s_),(JN s_),(JO s_),(JD s_),(Ky s_),(31,some (bg 4 1 af u3.1))])⟩ fun u3=> .rg {fz:=[31]} []<| .r<| .lp (σ:=Int) (β:=Unit) (0) [] [] ⟨[3,4,5,6,8,10,11,102],[0,1,2,3,4,5,6,23,25,28,29],fun u1=>[(103,(vI u1))],fun u1=>[]⟩ ⟨[3,4,5,6,10,11],[0,1,2,3,4,5,6,23,25,28,29],fun _=>[],fun _=>[]⟩
  (fun u1=> .r<| .it (.r<| .a5 (Rx r_ u1) (Sj r_ u1 u3) (RD r_ u1 u3) (Uj s_ r_ u1 u3) (Ub s_ r_ u1 u3)<| .rg {} [0,1,2,3, .tg 3 [((at' u3.1 u1.toNat),true),(Ra r_ u1 u3)] u1 s_.earthed.length,4]<| .it (.r<| .im (.ac 25 0 0 32)<| .en (.done (.ret (s_,false))) [] [(32,7),(25,8)])
  (.r<| .e (.next (k18 u1))))
  (.e (.done (.brk ()))))
  (fun _=> .cl 2 ⟨fun{u5} hr_3=>((Fn.AQ (args:=(k28 s_ p)) (frz:=[0,1,2,3,4,5,6]) (p:=[s_.closed.length=s_.closed.length,s_.locked.length=s_.locked.length,s_.badLink.length=s_.badLink.length,s_.on_.length=s_.on_.length,s_.badSource.length=s_.badSource.length,s_.earthed.length=s_.earthed.length,s_.badBus.length=s_.badBus.length]) (Fn.uO [(0,33)] (gD p s_ hr_3) (by kernel_rfl) (by kernel_rfl) (by kernel_rfl) (by kernel_rfl)) (by kernel_rfl) ⟨rfl,rfl,rfl,rfl,rfl,rfl,rfl,trivial⟩ (by kernel_rfl) ⟨(fun _ j=>match j with|0=>rfl|1=>rfl|_+2=>rfl),trivial⟩ (by kernel_rfl)):Fn Tryz.prog 135 (Ls p s_) (FI s_) (.bZ [(.one (.own 33 false u5.1.length)),(sI u5.2)]) [(UE s_),(Kn s_),(J4 s_),(JN s_),(JO s_),(JD s_),(Ky s_),(33,some (bg 145 2 ai.cell u5.1))])⟩ fun u5=> .rg {fr:=[(6,34)],fz:=[33]} []<| .fz [34]<| .cl 2 ⟨fun{u6} hr_4=>((Fn.AQ (args:=(Yr p s_ x u0)) (frz:=[29,1,2,3,4,5,6]) (p:=[(F6 x u0).length=(F6 x u0).length,s_.locked.length=s_.locked.length,s_.badLink.length=s_.badLink.length,s_.on_.length=s_.on_.length,s_.badSource.length=s_.badSource.length,s_.earthed.length=s_.earthed.length,s_.badBus.length=s_.badBus.length]) (Fn.uO [(0,35)] (gD p (U8 s_ x u0) hr_4) (by kernel_rfl) (by kernel_rfl) (by kernel_rfl) (by kernel_rfl)) (by kernel_rfl) ⟨rfl,rfl,rfl,rfl,rfl,rfl,rfl,trivial⟩ (by kernel_rfl) ⟨(fun _ j=>match j with|0=>rfl|1=>rfl|_+2=>rfl),trivial⟩ (by kernel_rfl)):Fn Tryz.prog 135 (XP p s_ x u0) (X9 s_ x u0) (.bZ [(.one (.own 35 false u6.1.length)),(sI u6.2)]) [(Vl x u0),(Kn s_),(J4 s_),(JN s_),(JO s_),(JD s_),(Ky s_),(35,some (bg 145 2 ai.cell u6.1))])⟩ fun u6=> .rg {fz:=[35]} []<| .cg 9 [((!(at' u3.1 x.watch.toNat)),false)] (iw u6.1 u5.1) fun u9=> .a1 ((0:Int)≤x.watch∧x.watch<(u3.1.length:Int))<| .rg {} [0,1]<| .it (.r<| .im (.ac 25 0 0 36)<| .en (s_,false) [] [(36,7),(25,8)])
  (.r<| .en ((U8 s_ x u0),true) [] [(29,7),(25,8)]))))
  (.cl 2 ⟨fun{u4} hr_6=>((Fn.AQ (args:=(Yp p s_ x u0)) (frz:=[29,1,2,3,4,5,6]) (p:=[(vF x u0).length=(vF x u0).length,s_.locked.length=s_.locked.length,s_.badLink.length=s_.badLink.length,s_.on_.length=s_.on_.length,s_.badSource.length=s_.badSource.length,s_.earthed.length=s_.earthed.length,s_.badBus.length=s_.badBus.length]) (Fn.uO [(0,37)] (l9 p (UH s_ x u0) hr_6) (by kernel_rfl) (by kernel_rfl) (by kernel_rfl) (by kernel_rfl)) (by kernel_rfl) ⟨rfl,rfl,rfl,rfl,rfl,rfl,rfl,trivial⟩ (by kernel_rfl) ⟨(fun _ _=>rfl),trivial⟩ (by kernel_rfl)):Fn Tryz.prog 126 (WN p s_ x u0) (W9 s_ x u0) (.bZ [(.one (.own 37 false u4.1.length)),(sI u4.2)]) [(Vk x u0),(Kn s_),(J4 s_),(JN s_),(JO s_),(JD s_),(Ky s_),(37,some (bg 4 1 af u4.1))])⟩ fun u4=> .rg {fz:=[24,37]} []<| .r<| .lp (σ:=Int) (β:=Unit) (0) [] [] ⟨[3,4,5,6,8,10,11,102],[0,1,2,3,4,5,6,23,25,28,29],fun u2=>[(103,(vI u2))],fun u2=>[]⟩ ⟨[3,4,5,6,10,11],[0,1,2,3,4,5,6,23,25,28,29],fun _=>[],fun _=>[]⟩
  (fun u2=> .r<| .it (.r<| .a5 (Rx r_ u2) (Sj r_ u2 u4) (RD r_ u2 u4) (Uj s_ r_ u2 u4) (Ub s_ r_ u2 u4)<| .rg {} [0,1,2,3, .tg 3 [((at' u4.1 u2.toNat),true),(Ra r_ u2 u4)] u2 s_.earthed.length,4]<| .it (.r<| .im (.ac 25 0 0 38)<| .en (.done (.ret (s_,false))) [] [(38,7),(25,8)])
  (.r<| .e (.next (k18 u2))))
  (.e (.done (.brk ()))))
  (fun _=> .cl 2 ⟨fun{u7} hr_7=>((Fn.AQ (args:=(k28 s_ p)) (frz:=[0,1,2,3,4,5,6]) (p:=[s_.closed.length=s_.closed.length,s_.locked.length=s_.locked.length,s_.badLink.length=s_.badLink.length,s_.on_.length=s_.on_.length,s_.badSource.length=s_.badSource.length,s_.earthed.length=s_.earthed.length,s_.badBus.length=s_.badBus.length]) (Fn.uO [(0,39)] (gD p s_ hr_7) (by kernel_rfl) (by kernel_rfl) (by kernel_rfl) (by kernel_rfl)) (by kernel_rfl) ⟨rfl,rfl,rfl,rfl,rfl,rfl,rfl,trivial⟩ (by kernel_rfl) ⟨(fun _ j=>match j with|0=>rfl|1=>rfl|_+2=>rfl),trivial⟩ (by kernel_rfl)):Fn Tryz.prog 135 (Ls p s_) (FI s_) (.bZ [(.one (.own 39 false u7.1.length)),(sI u7.2)]) [(UE s_),(Kn s_),(J4 s_),(JN s_),(JO s_),(JD s_),(Ky s_),(39,some (bg 145 2 ai.cell u7.1))])⟩ fun u7=> .rg {fr:=[(6,40)],fz:=[39]} []<| .fz [40]<| .cl 2 ⟨fun{u8} hr_8=>((Fn.AQ (args:=(Yp p s_ x u0)) (frz:=[29,1,2,3,4,5,6]) (p:=[(vF x u0).length=(vF x u0).length,s_.locked.length=s_.locked.length,s_.badLink.length=s_.badLink.length,s_.on_.length=s_.on_.length,s_.badSource.length=s_.badSource.length,s_.earthed.length=s_.earthed.length,s_.badBus.length=s_.badBus.length]) (Fn.uO [(0,41)] (gD p (UH s_ x u0) hr_8) (by kernel_rfl) (by kernel_rfl) (by kernel_rfl) (by kernel_rfl)) (by kernel_rfl) ⟨rfl,rfl,rfl,rfl,rfl,rfl,rfl,trivial⟩ (by kernel_rfl) ⟨(fun _ j=>match j with|0=>rfl|1=>rfl|_+2=>rfl),trivial⟩ (by kernel_rfl)):Fn Tryz.prog 135 (WN p s_ x u0) (W9 s_ x u0) (.bZ [(.one (.own 41 false u8.1.length)),(sI u8.2)]) [(Vk x u0),(Kn s_),(J4 s_),(JN s_),(JO s_),(JD s_),(Ky s_),(41,some (bg 145 2 ai.cell u8.1))])⟩ fun u8=> .rg {fz:=[41]} []<| .cg 9 [((!(at' u4.1 x.watch.toNat)),false)] (iw u8.1 u7.1) fun v0=> .a1 ((0:Int)≤x.watch∧x.watch<(u4.1.length:Int))<| .rg {} [0,1]<| .it (.r<| .im (.ac 25 0 0 42)<| .en (s_,false) [] [(42,7),(25,8)])
  (.r<| .en ((UH s_ x u0),true) [] [(29,7),(25,8)])))))
section
variable (u7:(List Bool)) (u1:(List Bool)) (u2:(List Bool)) (u3:(List Bool)) (u4:(List Bool)) (u5:(List Bool)) (u6:(List Bool)) (o_:(List Int)) (u0:Int)
abbrev WT:List CV:=[(.own 1 false u7.length),(.own 2 false u1.length),(.own 3 false u2.length),(.own 4 false u3.length),(.own 5 false u4.length),(.own 6 false u5.length),(.own 7 false u6.length)]
abbrev rC:Ob:=(bg 3 1 (aA .i64) o_)
abbrev XI:Ob:=(.cells 29 (WT u7 u1 u2 u3 u4 u5 u6))
abbrev Ps:=((o_.length+[u0].length)*8≤140737488355328)
abbrev QW:=(o_.length+[u0].length≤4611686018427387904)
abbrev Gb:=(ah (aA .i64) (o_++[u0]))
abbrev Qy:=(dQ (ah (aA .i64) o_) o_.length (ah (aA .i64) [u0]))
end
theorem sQ (u0:Int) (u7:(List Bool)) (u1:(List Bool)) (u2:(List Bool)) (u3:(List Bool)) (u4:(List Bool)) (u5:(List Bool)) (u6:(List Bool)) (u8:State) (o_:(List Int)):O1 Tryz.prog 0 [(sI u0),(.agg (WT u7 u1 u2 u3 u4 u5 u6))] [(0,some (.loop fJ 0 [(10,(vP 8 0)),(11,(vP 9 0))])),(1,some (bg 4 1 af u7)),(2,some (bg 4 1 af u1)),(3,some (bg 4 1 af u2)),(4,some (bg 4 1 af u3)),(5,some (bg 4 1 af u4)),(6,some (bg 4 1 af u5)),(7,some (bg 4 1 af u6)),(8,some (.cells 29 [(.own 10 false u8.closed.length),(.own 2 false u1.length),(.own 3 false u2.length),(.own 4 false u3.length),(.own 5 false u4.length),(.own 6 false u5.length),(.own 7 false u6.length)])),(9,some (.cells 39 [(.own 11 false o_.length)])),(10,some (bg 4 1 af u8.closed)),(11,some (rC o_))] (fun _=>vB true) (fun r=>[(0,some (.loop fJ 0 [(10,(vP 8 0)),(11,(vP 9 0))])),(1,some (bg 4 1 af u7)),(2,some (bg 4 1 af u1)),(3,some (bg 4 1 af u2)),(4,some (bg 4 1 af u3)),(5,some (bg 4 1 af u4)),(6,some (bg 4 1 af u5)),(7,some (bg 4 1 af u6)),(8,some (XI u7 u1 u2 u3 u4 u5 u6)),(9,some (.cells 39 [(.own 12 false r.2.length)])),(10,some (bg 4 1 af u8.closed)),(11,none),(12,some (bg 3 1 (aA .i64) r.2))]) (mr u0 u7 u1 u2 u3 u4 u5 u6 u8 o_):=
  U9 tT mX fJ ⟨[10,11],[0,1,2,3,4,5,6,7,8,9,10,11],fun _=>[(12,(vI u0)),(13,(vP 15 0))],fun _=>[(15,some (XI u7 u1 u2 u3 u4 u5 u6))]⟩ (.r<| .rg {fr:=[(0,15)]} []<| .e ())
  (.r<| .a2 (Ps o_ u0) (QW o_ u0)<| .rg {an:=[(2, .arr [u0].length (ah (aA .i64) [u0])),(3, .arr (o_++[u0]).length (Gb o_ u0))],fr:=[(2,16),(3,17)]} [.pf ⟨[u0].length=1,rfl⟩, .pf ⟨av 1 1 (Tj u0) (ah (aA .i64) [u0]),(by intro i hi j hj;match i,j,hi,hj with|0,0,_,_=>rfl)⟩, .e (o_.length),0,1, .pf ⟨(o_++[u0]).length=o_.length+[u0].length,List.length_append⟩, .pf ⟨av (o_.length+[u0].length) 1 (Qy o_ u0) (Gb o_ u0),aW _ _ _ _⟩]<| .en ((⟨u7,u1,u2,u3,u4,u5,u6⟩:State),(o_++[u0])) [] [(17,12)])
end
end Sg
