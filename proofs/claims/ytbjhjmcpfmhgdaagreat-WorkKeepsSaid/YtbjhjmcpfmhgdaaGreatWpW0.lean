import Derived.Test.YtbjhjmcpfmhgdaaGreatWpGm
import Derived.Test.YtbjhjmcpfmhgdaaGreatProg
import Derived.Test.YtbjhjmcpfmhgdaaGreatWpLf
set_option linter.all false
namespace Sg
open Go Go.Proofs
set_option maxRecDepth 20000
noncomputable section
noncomputable def TT:List (Nat × TI):=[(1,⟨Tryz.t1.desc,Tryz.t1.size,Tryz.t1.bytes,zl Tryz.t1,false⟩),
  (3,⟨Tryz.t3.desc,Tryz.t3.size,Tryz.t3.bytes,zl Tryz.t3,false⟩),
  (4,⟨Tryz.t4.desc,Tryz.t4.size,Tryz.t4.bytes,zl Tryz.t4,false⟩),
  (5,⟨Tryz.t5.desc,Tryz.t5.size,Tryz.t5.bytes,zl Tryz.t5,false⟩),
  (9,⟨Tryz.t9.desc,Tryz.t9.size,Tryz.t9.bytes,zl Tryz.t9,false⟩),
  (22,⟨Tryz.t22.desc,Tryz.t22.size,Tryz.t22.bytes,zl Tryz.t22,false⟩),
  (23,⟨Tryz.t23.desc,Tryz.t23.size,Tryz.t23.bytes,zl Tryz.t23,false⟩),
  (24,⟨Tryz.t24.desc,Tryz.t24.size,Tryz.t24.bytes,zl Tryz.t24,false⟩),
  (26,⟨Tryz.t25.desc,Tryz.t26.size,Tryz.t26.bytes,zl Tryz.t26,false⟩),
  (27,⟨Tryz.t27.desc,Tryz.t27.size,Tryz.t27.bytes,zl Tryz.t27,false⟩),
  (29,⟨Tryz.t28.desc,Tryz.t29.size,Tryz.t29.bytes,zl Tryz.t29,false⟩),
  (32,⟨Tryz.t3.desc,Tryz.t32.size,Tryz.t32.bytes,zl Tryz.t32,false⟩),
  (33,⟨Tryz.t33.desc,Tryz.t33.size,Tryz.t33.bytes,zl Tryz.t33,false⟩),
  (35,⟨Tryz.t34.desc,Tryz.t35.size,Tryz.t35.bytes,zl Tryz.t35,false⟩),
  (36,⟨Tryz.t3.desc,Tryz.t36.size,Tryz.t36.bytes,zl Tryz.t36,false⟩),
  (38,⟨Tryz.t37.desc,Tryz.t38.size,Tryz.t38.bytes,zl Tryz.t38,true⟩),
  (39,⟨Tryz.t39.desc,Tryz.t39.size,Tryz.t39.bytes,zl Tryz.t39,false⟩),
  (62,⟨Tryz.t62.desc,Tryz.t62.size,Tryz.t62.bytes,zl Tryz.t62,false⟩),
  (63,⟨Tryz.t63.desc,Tryz.t63.size,Tryz.t63.bytes,zl Tryz.t63,false⟩),
  (65,⟨Tryz.t64.desc,Tryz.t65.size,Tryz.t65.bytes,zl Tryz.t65,false⟩),
  (70,⟨Tryz.t70.desc,Tryz.t70.size,Tryz.t70.bytes,zl Tryz.t70,false⟩),
  (71,⟨Tryz.t71.desc,Tryz.t71.size,Tryz.t71.bytes,zl Tryz.t71,false⟩),
  (73,⟨Tryz.t72.desc,Tryz.t73.size,Tryz.t73.bytes,zl Tryz.t73,false⟩),
  (76,⟨Tryz.t3.desc,Tryz.t76.size,Tryz.t76.bytes,zl Tryz.t76,false⟩),
  (78,⟨Tryz.t77.desc,Tryz.t78.size,Tryz.t78.bytes,zl Tryz.t78,true⟩),
  (79,⟨Tryz.t79.desc,Tryz.t79.size,Tryz.t79.bytes,zl Tryz.t79,false⟩),
  (81,⟨Tryz.t80.desc,Tryz.t81.size,Tryz.t81.bytes,zl Tryz.t81,false⟩),
  (82,⟨Tryz.t82.desc,Tryz.t82.size,Tryz.t82.bytes,zl Tryz.t82,false⟩),
  (130,⟨Tryz.t130.desc,Tryz.t130.size,Tryz.t130.bytes,zl Tryz.t130,false⟩),
  (133,⟨Tryz.t133.desc,Tryz.t133.size,Tryz.t133.bytes,zl Tryz.t133,true⟩),
  (145,⟨Tryz.t145.desc,Tryz.t145.size,Tryz.t145.bytes,zl Tryz.t145,true⟩),
  (147,⟨Tryz.t146.desc,Tryz.t147.size,Tryz.t147.bytes,zl Tryz.t147,true⟩),
  (155,⟨Tryz.t155.desc,Tryz.t155.size,Tryz.t155.bytes,zl Tryz.t155,false⟩),
  (185,⟨Tryz.t80.desc,Tryz.t185.size,Tryz.t185.bytes,zl Tryz.t185,false⟩),
  (190,⟨Tryz.t189.desc,Tryz.t190.size,Tryz.t190.bytes,zl Tryz.t190,true⟩),
  (191,⟨Tryz.t189.desc,Tryz.t191.size,Tryz.t191.bytes,zl Tryz.t191,true⟩),
  (196,⟨Tryz.t196.desc,Tryz.t196.size,Tryz.t196.bytes,zl Tryz.t196,false⟩),
  (198,⟨Tryz.t5.desc,Tryz.t198.size,Tryz.t198.bytes,zl Tryz.t198,false⟩),
  (202,⟨Tryz.t202.desc,Tryz.t202.size,Tryz.t202.bytes,zl Tryz.t202,true⟩),
  (209,⟨Tryz.t209.desc,Tryz.t209.size,Tryz.t209.bytes,zl Tryz.t209,true⟩),
  (210,⟨Tryz.t210.desc,Tryz.t210.size,Tryz.t210.bytes,zl Tryz.t210,false⟩),
  (218,⟨Tryz.t218.desc,Tryz.t218.size,Tryz.t218.bytes,zl Tryz.t218,false⟩),
  (229,⟨Tryz.t229.desc,Tryz.t229.size,Tryz.t229.bytes,zl Tryz.t229,false⟩),
  (231,⟨Tryz.t231.desc,Tryz.t231.size,Tryz.t231.bytes,zl Tryz.t231,false⟩),
  (232,⟨Tryz.t232.desc,Tryz.t232.size,Tryz.t232.bytes,zl Tryz.t232,false⟩),
  (247,⟨Tryz.t247.desc,Tryz.t247.size,Tryz.t247.bytes,zl Tryz.t247,false⟩),
  (248,⟨Tryz.t248.desc,Tryz.t248.size,Tryz.t248.bytes,zl Tryz.t248,false⟩),
  (265,⟨Tryz.t265.desc,Tryz.t265.size,Tryz.t265.bytes,zl Tryz.t265,false⟩),
  (266,⟨Tryz.t266.desc,Tryz.t266.size,Tryz.t266.bytes,zl Tryz.t266,false⟩),
  (272,⟨Tryz.t272.desc,Tryz.t272.size,Tryz.t272.bytes,zl Tryz.t272,false⟩),
  (282,⟨Tryz.t281.desc,Tryz.t282.size,Tryz.t282.bytes,zl Tryz.t282,true⟩),
  (284,⟨Tryz.t284.desc,Tryz.t284.size,Tryz.t284.bytes,zl Tryz.t284,false⟩),
  (287,⟨Tryz.t286.desc,Tryz.t287.size,Tryz.t287.bytes,zl Tryz.t287,false⟩),
  (290,⟨Tryz.t290.desc,Tryz.t290.size,Tryz.t290.bytes,zl Tryz.t290,false⟩),
  (293,⟨Tryz.t293.desc,Tryz.t293.size,Tryz.t293.bytes,zl Tryz.t293,false⟩),
  (296,⟨Tryz.t296.desc,Tryz.t296.size,Tryz.t296.bytes,zl Tryz.t296,false⟩),
  (313,⟨Tryz.t313.desc,Tryz.t313.size,Tryz.t313.bytes,zl Tryz.t313,false⟩),
  (318,⟨Tryz.t318.desc,Tryz.t318.size,Tryz.t318.bytes,zl Tryz.t318,false⟩),
  (329,⟨Tryz.t329.desc,Tryz.t329.size,Tryz.t329.bytes,zl Tryz.t329,false⟩),
  (331,⟨Tryz.t331.desc,Tryz.t331.size,Tryz.t331.bytes,zl Tryz.t331,false⟩),
  (337,⟨Tryz.t336.desc,Tryz.t337.size,Tryz.t337.bytes,zl Tryz.t337,false⟩)]
theorem tT:pE Tryz.prog TT:=⟨eO (by kernel_rfl) (by kernel_rfl) (by kernel_rfl),⟨gK,bL (by kernel_rfl)⟩,eO (by kernel_rfl) (by kernel_rfl) (by kernel_rfl),⟨gK,bL (by kernel_rfl)⟩,eO (by kernel_rfl) (by kernel_rfl) (by kernel_rfl),⟨gK,bL (by kernel_rfl)⟩,eO (by kernel_rfl) (by kernel_rfl) (by kernel_rfl),⟨gK,bL (by kernel_rfl)⟩,eO (by kernel_rfl) (by kernel_rfl) (by kernel_rfl),⟨gK,bL (by kernel_rfl)⟩,eO (by kernel_rfl) (by kernel_rfl) (by kernel_rfl),⟨gK,bL (by kernel_rfl)⟩,eO (by kernel_rfl) (by kernel_rfl) (by kernel_rfl),⟨gK,bL (by kernel_rfl)⟩,eO (by kernel_rfl) (by kernel_rfl) (by kernel_rfl),⟨gK,bL (by kernel_rfl)⟩,eO (by kernel_rfl) (by kernel_rfl) (by kernel_rfl),⟨gK,bL (by kernel_rfl)⟩,eO (by kernel_rfl) (by kernel_rfl) (by kernel_rfl),⟨gK,bL (by kernel_rfl)⟩,eO (by kernel_rfl) (by kernel_rfl) (by kernel_rfl),⟨gK,bL (by kernel_rfl)⟩,eO (by kernel_rfl) (by kernel_rfl) (by kernel_rfl),⟨gK,bL (by kernel_rfl)⟩,eO (by kernel_rfl) (by kernel_rfl) (by kernel_rfl),⟨gK,bL (by kernel_rfl)⟩,eO (by kernel_rfl) (by kernel_rfl) (by kernel_rfl),⟨gK,bL (by kernel_rfl)⟩,eO (by kernel_rfl) (by kernel_rfl) (by kernel_rfl),⟨gK,bL (by kernel_rfl)⟩,eO (by kernel_rfl) (by kernel_rfl) (by kernel_rfl),⟨fun _=> ⟨by kernel_rfl,by kernel_rfl⟩,bL (by kernel_rfl)⟩,eO (by kernel_rfl) (by kernel_rfl) (by kernel_rfl),⟨gK,bL (by kernel_rfl)⟩,eO (by kernel_rfl) (by kernel_rfl) (by kernel_rfl),⟨gK,bL (by kernel_rfl)⟩,eO (by kernel_rfl) (by kernel_rfl) (by kernel_rfl),⟨gK,bL (by kernel_rfl)⟩,eO (by kernel_rfl) (by kernel_rfl) (by kernel_rfl),⟨gK,bL (by kernel_rfl)⟩,eO (by kernel_rfl) (by kernel_rfl) (by kernel_rfl),⟨gK,bL (by kernel_rfl)⟩,eO (by kernel_rfl) (by kernel_rfl) (by kernel_rfl),⟨gK,bL (by kernel_rfl)⟩,eO (by kernel_rfl) (by kernel_rfl) (by kernel_rfl),⟨gK,bL (by kernel_rfl)⟩,eO (by kernel_rfl) (by kernel_rfl) (by kernel_rfl),⟨gK,bL (by kernel_rfl)⟩,eO (by kernel_rfl) (by kernel_rfl) (by kernel_rfl),⟨fun _=> ⟨by kernel_rfl,by kernel_rfl⟩,bL (by kernel_rfl)⟩,eO (by kernel_rfl) (by kernel_rfl) (by kernel_rfl),⟨gK,bL (by kernel_rfl)⟩,eO (by kernel_rfl) (by kernel_rfl) (by kernel_rfl),⟨gK,bL (by kernel_rfl)⟩,eO (by kernel_rfl) (by kernel_rfl) (by kernel_rfl),⟨gK,bL (by kernel_rfl)⟩,eO (by kernel_rfl) (by kernel_rfl) (by kernel_rfl),⟨gK,bL (by kernel_rfl)⟩,eO (by kernel_rfl) (by kernel_rfl) (by kernel_rfl),⟨fun _=> ⟨by kernel_rfl,by kernel_rfl⟩,bL (by kernel_rfl)⟩,eO (by kernel_rfl) (by kernel_rfl) (by kernel_rfl),⟨fun _=> ⟨by kernel_rfl,by kernel_rfl⟩,bL (by kernel_rfl)⟩,eO (by kernel_rfl) (by kernel_rfl) (by kernel_rfl),⟨fun _=> ⟨by kernel_rfl,by kernel_rfl⟩,bL (by kernel_rfl)⟩,eO (by kernel_rfl) (by kernel_rfl) (by kernel_rfl),⟨gK,bL (by kernel_rfl)⟩,eO (by kernel_rfl) (by kernel_rfl) (by kernel_rfl),⟨gK,bL (by kernel_rfl)⟩,eO (by kernel_rfl) (by kernel_rfl) (by kernel_rfl),⟨fun _=> ⟨by kernel_rfl,by kernel_rfl⟩,bL (by kernel_rfl)⟩,eO (by kernel_rfl) (by kernel_rfl) (by kernel_rfl),⟨fun _=> ⟨by kernel_rfl,by kernel_rfl⟩,bL (by kernel_rfl)⟩,eO (by kernel_rfl) (by kernel_rfl) (by kernel_rfl),⟨gK,bL (by kernel_rfl)⟩,eO (by kernel_rfl) (by kernel_rfl) (by kernel_rfl),⟨gK,bL (by kernel_rfl)⟩,eO (by kernel_rfl) (by kernel_rfl) (by kernel_rfl),⟨fun _=> ⟨by kernel_rfl,by kernel_rfl⟩,bL (by kernel_rfl)⟩,eO (by kernel_rfl) (by kernel_rfl) (by kernel_rfl),⟨fun _=> ⟨by kernel_rfl,by kernel_rfl⟩,bL (by kernel_rfl)⟩,eO (by kernel_rfl) (by kernel_rfl) (by kernel_rfl),⟨gK,bL (by kernel_rfl)⟩,eO (by kernel_rfl) (by kernel_rfl) (by kernel_rfl),⟨gK,bL (by kernel_rfl)⟩,eO (by kernel_rfl) (by kernel_rfl) (by kernel_rfl),⟨gK,bL (by kernel_rfl)⟩,eO (by kernel_rfl) (by kernel_rfl) (by kernel_rfl),⟨gK,bL (by kernel_rfl)⟩,eO (by kernel_rfl) (by kernel_rfl) (by kernel_rfl),⟨gK,bL (by kernel_rfl)⟩,eO (by kernel_rfl) (by kernel_rfl) (by kernel_rfl),⟨gK,bL (by kernel_rfl)⟩,eO (by kernel_rfl) (by kernel_rfl) (by kernel_rfl),⟨gK,bL (by kernel_rfl)⟩,eO (by kernel_rfl) (by kernel_rfl) (by kernel_rfl),⟨gK,bL (by kernel_rfl)⟩,eO (by kernel_rfl) (by kernel_rfl) (by kernel_rfl),⟨gK,bL (by kernel_rfl)⟩,eO (by kernel_rfl) (by kernel_rfl) (by kernel_rfl),⟨gK,bL (by kernel_rfl)⟩,eO (by kernel_rfl) (by kernel_rfl) (by kernel_rfl),⟨fun _=> ⟨by kernel_rfl,by kernel_rfl⟩,bL (by kernel_rfl)⟩,eO (by kernel_rfl) (by kernel_rfl) (by kernel_rfl),⟨gK,bL (by kernel_rfl)⟩,eO (by kernel_rfl) (by kernel_rfl) (by kernel_rfl),⟨gK,bL (by kernel_rfl)⟩,eO (by kernel_rfl) (by kernel_rfl) (by kernel_rfl),⟨gK,bL (by kernel_rfl)⟩,eO (by kernel_rfl) (by kernel_rfl) (by kernel_rfl),⟨gK,bL (by kernel_rfl)⟩,eO (by kernel_rfl) (by kernel_rfl) (by kernel_rfl),⟨gK,bL (by kernel_rfl)⟩,eO (by kernel_rfl) (by kernel_rfl) (by kernel_rfl),⟨gK,bL (by kernel_rfl)⟩,eO (by kernel_rfl) (by kernel_rfl) (by kernel_rfl),⟨gK,bL (by kernel_rfl)⟩,eO (by kernel_rfl) (by kernel_rfl) (by kernel_rfl),⟨gK,bL (by kernel_rfl)⟩,eO (by kernel_rfl) (by kernel_rfl) (by kernel_rfl),⟨gK,bL (by kernel_rfl)⟩,eO (by kernel_rfl) (by kernel_rfl) (by kernel_rfl),⟨gK,bL (by kernel_rfl)⟩,trivial⟩
theorem mX:Tryz.prog.follows .mixedOrders=true:=by kernel_rfl
def Jy:Go.Shelf.Ren:=⟨fun|6=>207|14=>261|15=>176|20=>288|21=>289|22=>290|23=>291|24=>292|25=>293|26=>294|27=>295|28=>241|29=>242|46=>299|47=>277|48=>278|49=>300|50=>301|57=>302|n=>n,fun|0=>0|3=>3|4=>4|5=>5|9=>9|22=>155|24=>145|25=>301|39=>272|45=>321|46=>322|50=>326|53=>329|55=>331|66=>357|70=>361|76=>374|77=>375|n=>n,fun n=>n⟩
theorem Q8:Go.Proofs.SlLaysF0.n6 Tryz.prog Jy:=⟨by kernel_rfl,⟨Tryz.f207.name,by kernel_rfl,Tryz.func207.trans (congrArg some (by kernel_rfl))⟩,⟨Tryz.f261.name,by kernel_rfl,Tryz.func261.trans (congrArg some (by kernel_rfl))⟩,Tryz.func176.trans (congrArg some (by kernel_rfl)),⟨Tryz.f288.name,by kernel_rfl,Tryz.func288.trans (congrArg some (by kernel_rfl))⟩,⟨Tryz.f289.name,by kernel_rfl,Tryz.func289.trans (congrArg some (by kernel_rfl))⟩,⟨Tryz.f290.name,by kernel_rfl,Tryz.func290.trans (congrArg some (by kernel_rfl))⟩,⟨Tryz.f291.name,by kernel_rfl,Tryz.func291.trans (congrArg some (by kernel_rfl))⟩,⟨Tryz.f292.name,by kernel_rfl,Tryz.func292.trans (congrArg some (by kernel_rfl))⟩,⟨Tryz.f293.name,by kernel_rfl,Tryz.func293.trans (congrArg some (by kernel_rfl))⟩,⟨Tryz.f294.name,by kernel_rfl,Tryz.func294.trans (congrArg some (by kernel_rfl))⟩,⟨Tryz.f295.name,by kernel_rfl,Tryz.func295.trans (congrArg some (by kernel_rfl))⟩,Tryz.func241.trans (congrArg some (by kernel_rfl)),Tryz.func242.trans (congrArg some (by kernel_rfl)),⟨Tryz.f299.name,by kernel_rfl,Tryz.func299.trans (congrArg some (by kernel_rfl))⟩,Tryz.func277.trans (congrArg some (by kernel_rfl)),Tryz.func278.trans (congrArg some (by kernel_rfl)),⟨Tryz.f300.name,by kernel_rfl,Tryz.func300.trans (congrArg some (by kernel_rfl))⟩,⟨Tryz.f301.name,by kernel_rfl,Tryz.func301.trans (congrArg some (by kernel_rfl))⟩,⟨Tryz.f302.name,by kernel_rfl,Tryz.func302.trans (congrArg some (by kernel_rfl))⟩,Tryz.underlying0,Tryz.isAgg0,Tryz.sizeOf0,Tryz.zeroValue0,Tryz.underlying3,Tryz.isAgg3,Tryz.sizeOf3,Tryz.zeroValue3,Tryz.underlying4,Tryz.isAgg4,Tryz.sizeOf4,Tryz.zeroValue4,Tryz.underlying5,Tryz.isAgg5,Tryz.sizeOf5,Tryz.zeroValue5,Tryz.underlying9,Tryz.isAgg9,Tryz.sizeOf9,Tryz.zeroValue9,Tryz.underlying155,Tryz.isAgg155,Tryz.sizeOf155,Tryz.zeroValue155,Tryz.underlying301,Tryz.isAgg301,Tryz.sizeOf301,Tryz.zeroValue301,Tryz.underlying272,Tryz.isAgg272,Tryz.sizeOf272,Tryz.zeroValue272,Tryz.underlying321,Tryz.isAgg321,Tryz.sizeOf321,Tryz.zeroValue321,Tryz.underlying322,Tryz.isAgg322,Tryz.sizeOf322,Tryz.zeroValue322,Tryz.underlying326,Tryz.isAgg326,Tryz.sizeOf326,Tryz.zeroValue326,Tryz.underlying329,Tryz.isAgg329,Tryz.sizeOf329,Tryz.zeroValue329,Tryz.underlying331,Tryz.isAgg331,Tryz.sizeOf331,Tryz.zeroValue331,Tryz.underlying357,Tryz.isAgg357,Tryz.sizeOf357,Tryz.zeroValue357,Tryz.underlying361,Tryz.isAgg361,Tryz.sizeOf361,Tryz.zeroValue361,Tryz.underlying374,Tryz.isAgg374,Tryz.sizeOf374,Tryz.zeroValue374,Tryz.underlying375,Tryz.isAgg375,Tryz.sizeOf375,Tryz.zeroValue375⟩
theorem Tt (w:World):(isAgg (Jy.t 24)).run Tryz.prog w= .ok true w:=Tryz.isAgg145 w
theorem PN (w:World):(Go.sizeOf (Jy.t 24)).run Tryz.prog w= .ok 2 w:=Tryz.sizeOf145 w
def QZ:Go.Shelf.Ren:=⟨fun|6=>96|14=>175|15=>176|20=>233|21=>234|22=>235|23=>236|24=>237|25=>238|26=>239|27=>240|28=>241|29=>242|46=>276|47=>277|48=>278|49=>279|50=>280|57=>298|n=>n,fun|0=>0|3=>3|4=>4|5=>5|9=>9|22=>82|24=>39|25=>206|39=>272|45=>321|46=>322|50=>326|53=>329|55=>331|66=>357|70=>361|76=>374|77=>375|n=>n,fun n=>n⟩
theorem PD:Go.Proofs.SlLaysF.n6 Tryz.prog QZ:=⟨by kernel_rfl,⟨Tryz.f96.name,by kernel_rfl,Tryz.func96.trans (congrArg some (by kernel_rfl))⟩,⟨Tryz.f175.name,by kernel_rfl,Tryz.func175.trans (congrArg some (by kernel_rfl))⟩,Tryz.func176.trans (congrArg some (by kernel_rfl)),⟨Tryz.f233.name,by kernel_rfl,Tryz.func233.trans (congrArg some (by kernel_rfl))⟩,⟨Tryz.f234.name,by kernel_rfl,Tryz.func234.trans (congrArg some (by kernel_rfl))⟩,⟨Tryz.f235.name,by kernel_rfl,Tryz.func235.trans (congrArg some (by kernel_rfl))⟩,⟨Tryz.f236.name,by kernel_rfl,Tryz.func236.trans (congrArg some (by kernel_rfl))⟩,⟨Tryz.f237.name,by kernel_rfl,Tryz.func237.trans (congrArg some (by kernel_rfl))⟩,⟨Tryz.f238.name,by kernel_rfl,Tryz.func238.trans (congrArg some (by kernel_rfl))⟩,⟨Tryz.f239.name,by kernel_rfl,Tryz.func239.trans (congrArg some (by kernel_rfl))⟩,⟨Tryz.f240.name,by kernel_rfl,Tryz.func240.trans (congrArg some (by kernel_rfl))⟩,Tryz.func241.trans (congrArg some (by kernel_rfl)),Tryz.func242.trans (congrArg some (by kernel_rfl)),⟨Tryz.f276.name,by kernel_rfl,Tryz.func276.trans (congrArg some (by kernel_rfl))⟩,Tryz.func277.trans (congrArg some (by kernel_rfl)),Tryz.func278.trans (congrArg some (by kernel_rfl)),⟨Tryz.f279.name,by kernel_rfl,Tryz.func279.trans (congrArg some (by kernel_rfl))⟩,⟨Tryz.f280.name,by kernel_rfl,Tryz.func280.trans (congrArg some (by kernel_rfl))⟩,⟨Tryz.f298.name,by kernel_rfl,Tryz.func298.trans (congrArg some (by kernel_rfl))⟩,Tryz.underlying0,Tryz.isAgg0,Tryz.sizeOf0,Tryz.zeroValue0,Tryz.underlying3,Tryz.isAgg3,Tryz.sizeOf3,Tryz.zeroValue3,Tryz.underlying4,Tryz.isAgg4,Tryz.sizeOf4,Tryz.zeroValue4,Tryz.underlying5,Tryz.isAgg5,Tryz.sizeOf5,Tryz.zeroValue5,Tryz.underlying9,Tryz.isAgg9,Tryz.sizeOf9,Tryz.zeroValue9,Tryz.underlying82,Tryz.isAgg82,Tryz.sizeOf82,Tryz.zeroValue82,Tryz.isAgg39,Tryz.sizeOf39,Tryz.underlying206,Tryz.isAgg206,Tryz.sizeOf206,Tryz.zeroValue206,Tryz.underlying272,Tryz.isAgg272,Tryz.sizeOf272,Tryz.zeroValue272,Tryz.underlying321,Tryz.isAgg321,Tryz.sizeOf321,Tryz.zeroValue321,Tryz.underlying322,Tryz.isAgg322,Tryz.sizeOf322,Tryz.zeroValue322,Tryz.underlying326,Tryz.isAgg326,Tryz.sizeOf326,Tryz.zeroValue326,Tryz.underlying329,Tryz.isAgg329,Tryz.sizeOf329,Tryz.zeroValue329,Tryz.underlying331,Tryz.isAgg331,Tryz.sizeOf331,Tryz.zeroValue331,Tryz.underlying357,Tryz.isAgg357,Tryz.sizeOf357,Tryz.zeroValue357,Tryz.underlying361,Tryz.isAgg361,Tryz.sizeOf361,Tryz.zeroValue361,Tryz.underlying374,Tryz.isAgg374,Tryz.sizeOf374,Tryz.zeroValue374,Tryz.underlying375,Tryz.isAgg375,Tryz.sizeOf375,Tryz.zeroValue375⟩
theorem aL (n:Int) (u0:Int) (u1:Int):dJ Tryz.prog 198 [(sI n),(sI u0),(sI u1)] [] (fun r=>(vB r)) (fun _=>[]) (aO n u0 u1):=
  dY tT mX Tryz.func198 (
  .r<| .r<| .e (bif (decide (u0≤n))then(decide (n≤u1))else false))
section
variable (p:aD)
abbrev k1:List CV:=[(cI p.buses),(.d (aS none 5 Source.cell p.sources)),(.d (aS none 6 Link.cell p.links)),(.d (aS none 4 aN.cell p.racks))]
abbrev k0:List SV:=[(.agg (k1 p))]
end
theorem Co (p:aD):dJ Tryz.prog 200 (k0 p) [] (fun r=>(vD (.fn 253 1 (qA [(zq [(.int .i64 r.1),(aS none 5 Source.cell r.2.1),(aS none 6 Link.cell r.2.2.1),(aS none 4 aN.cell r.2.2.2)] 0)])))) (fun _=>[]) (sQ p):=
  dY tT mX Tryz.func200 (
  .rg {fr:=[(0,1)],fz:=[1]} []<| .r<| .e (p.buses,p.sources,p.links,p.racks))
theorem DX (p:aD):dJ Tryz.prog 202 (k0 p) [] (fun r=>(vD (.fn 256 1 (qA [(zq [(.int .i64 r.1),(aS none 5 Source.cell r.2.1),(aS none 6 Link.cell r.2.2.1),(aS none 4 aN.cell r.2.2.2)] 0)])))) (fun _=>[]) (xg p):=
  dY tT mX Tryz.func202 (
  .rg {fr:=[(0,1)],fz:=[1]} []<| .r<| .e (p.buses,p.sources,p.links,p.racks))
theorem Ec (p:aD):dJ Tryz.prog 204 (k0 p) [] (fun r=>(vD (.fn 259 1 (qA [(zq [(.int .i64 r.1),(aS none 5 Source.cell r.2.1),(aS none 6 Link.cell r.2.2.1),(aS none 4 aN.cell r.2.2.2)] 0)])))) (fun _=>[]) (wT p):=
  dY tT mX Tryz.func204 (
  .rg {fr:=[(0,1)],fz:=[1]} []<| .r<| .e (p.buses,p.sources,p.links,p.racks))
section
variable (u2:(List Source)) (x1:Int) (u3:(List Link)) (u4:(List aN))
abbrev k3:DV:=(aS none 5 Source.cell u2)
abbrev k2:DV:=(zq [(.int .i64 x1),(k3 u2),(aS none 6 Link.cell u3),(aS none 4 aN.cell u4)] 0)
abbrev k4:=(IntKind.wrap .i64 (x1 - 1))
end
theorem zO (x:Source) (x1:Int) (u2:(List Source)) (u3:(List Link)) (u4:(List aN)):dJ Tryz.prog 253 [(.agg [(cI x.bus),(cI x.kind),(cI x.power),(cI x.sync),(cI x.ohm)]),(sD (k2 u2 x1 u3 u4))] [] (fun r=>(vB r)) (fun _=>[]) (mF x x1 u2 u3 u4):=
  dY tT mX Tryz.func253 (
  .rg {fr:=[(0,1)],fz:=[1]} []<| .cl 5 (aL x.bus 0 (k4 x1)) fun r_=> .cg 9 [(r_,true)] (aL x.kind 1 3) fun u0=> .cg 14 [((bif r_ then u0 else false),true)] (aL x.power 1 100000) fun u1=> .cg 19 [((bif (bif r_ then u0 else false)then u1 else false),true)] (aL x.sync 0 8) fun u5=> .cg 24 [((bif (bif (bif r_ then u0 else false)then u1 else false)then u5 else false),true)] (aL x.ohm 10 100000) fun u6=> .r<| .e (bif (bif (bif (bif r_ then u0 else false)then u1 else false)then u5 else false)then u6 else false))
section
variable (x1:Int) (u0:(List Source)) (u1:(List Link)) (u2:(List aN))
abbrev k6:=(qA [(k2 u0 x1 u1 u2)])
abbrev k5:DV:=(zq [(.fn 253 1 (k6 x1 u0 u1 u2))] 0)
end
theorem Cn (x:Source) (x1:Int) (u0:(List Source)) (u1:(List Link)) (u2:(List aN)):dJ Tryz.prog 252 [(.agg [(cI x.bus),(cI x.kind),(cI x.power),(cI x.sync),(cI x.ohm)]),(sD (k5 x1 u0 u1 u2))] [] (fun r=>(vB r)) (fun _=>[]) (sK x x1 u0 u1 u2):=
  dY tT mX Tryz.func252 (
  .rg {fr:=[(0,1)],fz:=[1]} []<| .cl 2 (zO x x1 u0 u1 u2) fun r_=> .r<| .e (!r_))
section
variable (s_:(List Source)) (f_:Int) (u0:(List Source)) (u1:(List Link)) (u2:(List aN)) (t8:Int)
abbrev k7:List SV:=[(sD (k3 s_)),(sD (.fn 252 1 (qA [(k5 f_ u0 u1 u2)])))]
abbrev k8:=(IntKind.wrap .i64 (t8+1))
end
theorem xG (s_:(List Source)) (f_:Int) (u0:(List Source)) (u1:(List Link)) (u2:(List aN)):dJ Tryz.prog 285 (k7 s_ f_ u0 u1 u2) [] (fun r=>(vI r)) (fun _=>[]) (nI s_ f_ u0 u1 u2):=
  dY tT mX Tryz.func285 (
  .r<| .r<| .lp (σ:=Int) (β:=Unit) (0) [] [] ⟨[0,1,7],[],fun t8=>[(8,(vI t8))],fun t8=>[]⟩ ⟨[],[],fun _=>[],fun _=>[]⟩
  (fun t8=> .r<| .it (.r<| .cl 5 (Cn (at' s_ t8.toNat) f_ u0 u1 u2) fun r_=> .a1 ((0:Int)≤t8∧t8<(s_.length:Int))<| .rg {} [0,1]<| .it (.r<| .e (.done (.ret t8)))
  (.r<| .e (.next (k8 t8))))
  (.e (.done (.brk ()))))
  (fun _=> .r<| .e (-1)))
theorem uK (s_:(List Source)) (f_:Int) (u0:(List Source)) (u1:(List Link)) (u2:(List aN)):dJ Tryz.prog 251 (k7 s_ f_ u0 u1 u2) [] (fun r=>(vB r)) (fun _=>[]) (iM s_ f_ u0 u1 u2):=
  dY tT mX Tryz.func251 (
  .r<| .cl 2 (xG s_ f_ u0 u1 u2) fun r_=> .r<| .e (decide (0≤r_)))
theorem Ee (l:(List Source)) (u0:Int) (u1:Int) (u2:(List Source)) (u3:(List Link)) (u4:(List aN)):dJ Tryz.prog 199 [(sD (k3 l)),(sI u0),(sD (.fn 253 1 (k6 u1 u2 u3 u4)))] [] (fun r=>(vB r)) (fun _=>[]) (qR l u0 u1 u2 u3 u4):=
  dY tT mX Tryz.func199 (
  .rg {fr:=[(0,1)],fz:=[1]} []<| .cg 7 [((decide ((l.length:Int)≤u0)),true)] (uK l u1 u2 u3 u4) fun r_=> .r<| .e (bif (decide ((l.length:Int)≤u0))then(!r_)else false))
section
variable (x:Link)
abbrev k9:List CV:=[(cI x.a),(cI x.b),(cI x.kind),(cI x.most),(cI x.ohm),(.d (aS none 2 nJ.cell x.trip))]
end
theorem BR (x:Link) (x1:Int) (u3:(List Source)) (u4:(List Link)) (u5:(List aN)):dJ Tryz.prog 256 [(.agg (k9 x)),(sD (k2 u3 x1 u4 u5))] [] (fun r=>(vB r)) (fun _=>[]) (oO x x1 u3 u4 u5):=
  dY tT mX Tryz.func256 (
  .rg {fr:=[(0,5)]} []<| .cl 5 (aL x.a 0 (k4 x1)) fun r_=> .cg 13 [((!r_),false)] (aL x.b 0 (k4 x1)) fun u1=> .cg 26 [((bif (bif (!r_)then true else(!u1))then true else(decide (x.a=x.b))),false)] (aL x.kind 1 3) fun u6=> .cg 32 [((bif (bif (bif (!r_)then true else(!u1))then true else(decide (x.a=x.b)))then true else(!u6)),false)] (aL x.most 1 100000) fun u8=> .cg 38 [((bif (bif (bif (bif (!r_)then true else(!u1))then true else(decide (x.a=x.b)))then true else(!u6))then true else(!u8)),false)] (aL x.ohm 10 100000) fun u9=> .r<| .it (.r<| .e false)
  (.rg {fz:=[5]} []<| .lp (σ:=Int) (β:=Unit) (0) [] [] ⟨[2,48,49],[],fun u0=>[(50,(vI u0))],fun u0=>[]⟩ ⟨[2],[],fun _=>[],fun _=>[]⟩
  (fun u0=> .r<| .it (.a1 ((0:Int)≤u0∧u0<(x.trip.length:Int))<| .rg {fr:=[(3,9)],fz:=[9]} []<| .cl 2 (aL ((at' x.trip u0.toNat).amps) 1 1000000) fun u2=> .cg 7 [((!u2),false)] (aL ((at' x.trip u0.toNat).millis) 1 100000) fun u7=> .a2 ((gB [((decide (0<u0)),true),((bif (!u2)then true else(!u7)),false)]=true→(0:Int)≤(k4 u0)∧(k4 u0)<(x.trip.length:Int))) ((gB [((decide (((at' x.trip u0.toNat).amps)≤((at' x.trip ((k4 u0).toNat)).amps))),false),((decide (0<u0)),true),((bif (!u2)then true else(!u7)),false)]=true→(0:Int)≤(k4 u0)∧(k4 u0)<(x.trip.length:Int)))<| .rg {} [3,2,0,1]<| .it (.r<| .e (.done (.ret false)))
  (.r<| .e (.next (k8 u0))))
  (.e (.done (.brk ()))))
  (fun _=> .r<| .e (bif (decide ((x.trip.length:Int)≤6))then(bif (decide ((x.trip.length:Int)=0))then true else(decide (x.kind=3)))else false))))
section
variable (x1:Int) (u0:(List Source)) (u1:(List Link)) (u2:(List aN))
abbrev k10:DV:=(zq [(.fn 256 1 (k6 x1 u0 u1 u2))] 0)
end
theorem zi (x:Link) (x1:Int) (u0:(List Source)) (u1:(List Link)) (u2:(List aN)):dJ Tryz.prog 255 [(.agg (k9 x)),(sD (k10 x1 u0 u1 u2))] [] (fun r=>(vB r)) (fun _=>[]) (oI x x1 u0 u1 u2):=
  dY tT mX Tryz.func255 (
  .rg {fr:=[(0,1)],fz:=[1]} []<| .cl 2 (BR x x1 u0 u1 u2) fun r_=> .r<| .e (!r_))
section
variable (s_:(List Link)) (f_:Int) (u0:(List Source)) (u1:(List Link)) (u2:(List aN))
abbrev k11:List SV:=[(sD (aS none 6 Link.cell s_)),(sD (.fn 255 1 (qA [(k10 f_ u0 u1 u2)])))]
end
theorem vg (s_:(List Link)) (f_:Int) (u0:(List Source)) (u1:(List Link)) (u2:(List aN)):dJ Tryz.prog 286 (k11 s_ f_ u0 u1 u2) [] (fun r=>(vI r)) (fun _=>[]) (kW s_ f_ u0 u1 u2):=
  dY tT mX Tryz.func286 (
  .r<| .r<| .lp (σ:=Int) (β:=Unit) (0) [] [] ⟨[0,1,7],[],fun t8=>[(8,(vI t8))],fun t8=>[]⟩ ⟨[],[],fun _=>[],fun _=>[]⟩
  (fun t8=> .r<| .it (.r<| .cl 5 (zi (at' s_ t8.toNat) f_ u0 u1 u2) fun r_=> .a1 ((0:Int)≤t8∧t8<(s_.length:Int))<| .rg {} [0,1]<| .it (.r<| .e (.done (.ret t8)))
  (.r<| .e (.next (k8 t8))))
  (.e (.done (.brk ()))))
  (fun _=> .r<| .e (-1)))
theorem rz (s_:(List Link)) (f_:Int) (u0:(List Source)) (u1:(List Link)) (u2:(List aN)):dJ Tryz.prog 254 (k11 s_ f_ u0 u1 u2) [] (fun r=>(vB r)) (fun _=>[]) (fK s_ f_ u0 u1 u2):=
  dY tT mX Tryz.func254 (
  .r<| .cl 2 (vg s_ f_ u0 u1 u2) fun r_=> .r<| .e (decide (0≤r_)))
theorem BA (l:(List Link)) (u0:Int) (u1:Int) (u2:(List Source)) (u3:(List Link)) (u4:(List aN)):dJ Tryz.prog 201 [(sD (aS none 6 Link.cell l)),(sI u0),(sD (.fn 256 1 (k6 u1 u2 u3 u4)))] [] (fun r=>(vB r)) (fun _=>[]) (oG l u0 u1 u2 u3 u4):=
  dY tT mX Tryz.func201 (
  .rg {fr:=[(0,1)],fz:=[1]} []<| .cg 7 [((decide ((l.length:Int)≤u0)),true)] (rz l u1 u2 u3 u4) fun r_=> .r<| .e (bif (decide ((l.length:Int)≤u0))then(!r_)else false))
section
variable (x:aN)
abbrev k12:List CV:=[(cI x.feeds.e0),(cI x.feeds.e1),(cI x.power),(cI x.paths)]
end
theorem Da (x:aN):dJ Tryz.prog 260 [(.agg (k12 x))] [] (fun r=>(vI r)) (fun _=>[]) (qc x):=
  dY tT mX Tryz.func260 (
  .rg {fr:=[(0,1)],fz:=[1]} []<| .rg {} [.pf ⟨(0:Int)≤1∧(1:Int)<(2:Nat),(by decide)⟩]<| .it (.r<| .e 1)
  (.r<| .e 2))
section
variable (r_:Bool) (u0:Bool) (x:aN) (u1:Bool)
abbrev k14:=(bif (bif (bif r_ then u0 else false)then(!decide (x.feeds.e0=x.feeds.e1))else false)then u1 else false)
abbrev k13:=((k14 r_ u0 x u1),true)
end
theorem Cc (x:aN) (x1:Int) (u2:(List Source)) (u3:(List Link)) (u4:(List aN)):dJ Tryz.prog 259 [(.agg (k12 x)),(sD (k2 u2 x1 u3 u4))] [] (fun r=>(vB r)) (fun _=>[]) (oP x x1 u2 u3 u4):=
  dY tT mX Tryz.func259 (
  .rg {fr:=[(0,1)],fz:=[1]} []<| .rg {} [.pf ⟨(0:Int)≤0∧(0:Int)<(2:Nat),(by decide)⟩, .pf ⟨(0:Int)≤1∧(1:Int)<(2:Nat),(by decide)⟩]<| .cl 4 (aL x.feeds.e0 0 (k4 x1)) fun r_=> .cg 10 [(r_,true)] (aL x.feeds.e1 (-1) (k4 x1)) fun u0=> .cg 20 [((bif (bif r_ then u0 else false)then(!decide (x.feeds.e0=x.feeds.e1))else false),true)] (aL x.power 1 100000) fun u1=> .cg 26 [(k13 r_ u0 x u1)] (Da x) fun u5=> .cg 27 [(k13 r_ u0 x u1)] (aL x.paths 0 u5) fun u6=> .r<| .e (bif (k14 r_ u0 x u1)then u6 else false))
section
variable (x1:Int) (u0:(List Source)) (u1:(List Link)) (u2:(List aN))
abbrev k15:DV:=(zq [(.fn 259 1 (k6 x1 u0 u1 u2))] 0)
end
theorem zb (x:aN) (x1:Int) (u0:(List Source)) (u1:(List Link)) (u2:(List aN)):dJ Tryz.prog 258 [(.agg (k12 x)),(sD (k15 x1 u0 u1 u2))] [] (fun r=>(vB r)) (fun _=>[]) (ow x x1 u0 u1 u2):=
  dY tT mX Tryz.func258 (
  .rg {fr:=[(0,1)],fz:=[1]} []<| .cl 2 (Cc x x1 u0 u1 u2) fun r_=> .r<| .e (!r_))
section
variable (s_:(List aN)) (f_:Int) (u0:(List Source)) (u1:(List Link)) (u2:(List aN))
abbrev k16:List SV:=[(sD (aS none 4 aN.cell s_)),(sD (.fn 258 1 (qA [(k15 f_ u0 u1 u2)])))]
end
theorem uT (s_:(List aN)) (f_:Int) (u0:(List Source)) (u1:(List Link)) (u2:(List aN)):dJ Tryz.prog 287 (k16 s_ f_ u0 u1 u2) [] (fun r=>(vI r)) (fun _=>[]) (kY s_ f_ u0 u1 u2):=
  dY tT mX Tryz.func287 (
  .r<| .r<| .lp (σ:=Int) (β:=Unit) (0) [] [] ⟨[0,1,7],[],fun t8=>[(8,(vI t8))],fun t8=>[]⟩ ⟨[],[],fun _=>[],fun _=>[]⟩
  (fun t8=> .r<| .it (.r<| .cl 5 (zb (⟨((at' s_ t8.toNat).feeds),(at' s_ t8.toNat).power,(at' s_ t8.toNat).paths⟩:aN) f_ u0 u1 u2) fun r_=> .a1 ((0:Int)≤t8∧t8<(s_.length:Int))<| .rg {} [0,1]<| .it (.r<| .e (.done (.ret t8)))
  (.r<| .e (.next (k8 t8))))
  (.e (.done (.brk ()))))
  (fun _=> .r<| .e (-1)))
theorem qX (s_:(List aN)) (f_:Int) (u0:(List Source)) (u1:(List Link)) (u2:(List aN)):dJ Tryz.prog 257 (k16 s_ f_ u0 u1 u2) [] (fun r=>(vB r)) (fun _=>[]) (fJ s_ f_ u0 u1 u2):=
  dY tT mX Tryz.func257 (
  .r<| .cl 2 (uT s_ f_ u0 u1 u2) fun r_=> .r<| .e (decide (0≤r_)))
theorem Cw (l:(List aN)) (u0:Int) (u1:Int) (u2:(List Source)) (u3:(List Link)) (u4:(List aN)):dJ Tryz.prog 203 [(sD (aS none 4 aN.cell l)),(sI u0),(sD (.fn 259 1 (k6 u1 u2 u3 u4)))] [] (fun r=>(vB r)) (fun _=>[]) (oC l u0 u1 u2 u3 u4):=
  dY tT mX Tryz.func203 (
  .rg {fr:=[(0,1)],fz:=[1]} []<| .cg 7 [((decide ((l.length:Int)≤u0)),true)] (qX l u1 u2 u3 u4) fun r_=> .r<| .e (bif (decide ((l.length:Int)≤u0))then(!r_)else false))
theorem vU (p:aD):dJ Tryz.prog 127 (k0 p) [] (fun r=>(vI r)) (fun _=>[]) (mP p):=
  dY tT mX Tryz.func127 (
  .rg {fr:=[(0,1)],fz:=[1]} []<| .cl 2 (aL p.buses 1 24) fun r_=> .r<| .it (.r<| .e 10)
  (.cl 3 (Co p) fun u0=> .cl 4 (Ee p.sources 8 u0.1 u0.2.1 u0.2.2.1 u0.2.2.2) fun u3=> .r<| .it (.r<| .e 11)
  (.cl 3 (DX p) fun u1=> .cl 4 (BA p.links 40 u1.1 u1.2.1 u1.2.2.1 u1.2.2.2) fun u4=> .r<| .it (.r<| .e 12)
  (.cl 3 (Ec p) fun u2=> .cl 4 (Cw p.racks 24 u2.1 u2.2.1 u2.2.2.1 u2.2.2.2) fun u5=> .r<| .it (.r<| .e 13)
  (.r<| .e 0)))))
section
variable (s_:State) (p:aD)
abbrev k18:List CV:=[(.d (aS none 1 ai s_.closed)),(.d (aS none 1 ai s_.locked)),(.d (aS none 1 ai s_.badLink)),(.d (aS none 1 ai s_.on_)),(.d (aS none 1 ai s_.badSource)),(.d (aS none 1 ai s_.earthed)),(.d (aS none 1 ai s_.badBus))]
abbrev k17:List SV:=[(.agg (k1 p)),(.agg (k18 s_))]
abbrev k19:=(⟨s_.closed,(p.links.length:Int)⟩:bT)
abbrev k20:=(⟨s_.locked,(p.links.length:Int)⟩:bT)
abbrev k21:=(⟨s_.badLink,(p.links.length:Int)⟩:bT)
abbrev k22:=(⟨s_.on_,(p.sources.length:Int)⟩:bT)
abbrev k23:=(⟨s_.badSource,(p.sources.length:Int)⟩:bT)
abbrev k24:=(aA bT.cell [(k19 s_ p),(k20 s_ p),(k21 s_ p),(k22 s_ p),(k23 s_ p),(⟨s_.earthed,p.buses⟩:bT),(⟨s_.badBus,p.buses⟩:bT)])
end
theorem fD (p:aD) (s_:State):dJ Tryz.prog 60 (k17 s_ p) [] (fun r=>(vI r)) (fun _=>[]) (dX p s_):=
  dY tT mX Tryz.func60 (
  .rg {fr:=[(0,11),(1,12)]} []<| .cl 1 (vU p) fun r_=> .r<| .r<| .it (.r<| .e r_)
  (.r<| .rg {an:=[(30, .arr [(k19 s_ p),(k20 s_ p),(k21 s_ p),(k22 s_ p),(k23 s_ p),(⟨s_.earthed,p.buses⟩:bT),(⟨s_.badBus,p.buses⟩:bT)].length (k24 s_ p))],fr:=[(30,13)],fz:=[12]} [.pf ⟨[(k19 s_ p),(k20 s_ p),(k21 s_ p),(k22 s_ p),(k23 s_ p),(⟨s_.earthed,p.buses⟩:bT),(⟨s_.badBus,p.buses⟩:bT)].length=7,rfl⟩, .pf ⟨aI 7 2 (nN 2 [(aS none 1 ai s_.closed),(.int .i64 (p.links.length:Int)),(aS none 1 ai s_.locked),(.int .i64 (p.links.length:Int)),(aS none 1 ai s_.badLink),(.int .i64 (p.links.length:Int)),(aS none 1 ai s_.on_),(.int .i64 (p.sources.length:Int)),(aS none 1 ai s_.badSource),(.int .i64 (p.sources.length:Int)),(aS none 1 ai s_.earthed),(.int .i64 p.buses),(aS none 1 ai s_.badBus),(.int .i64 p.buses)]) (k24 s_ p),(by intro i hi j hj;match i,j,hi,hj with|0,0,_,_=>rfl|0,1,_,_=>rfl|1,0,_,_=>rfl|1,1,_,_=>rfl|2,0,_,_=>rfl|2,1,_,_=>rfl|3,0,_,_=>rfl|3,1,_,_=>rfl|4,0,_,_=>rfl|4,1,_,_=>rfl|5,0,_,_=>rfl|5,1,_,_=>rfl|6,0,_,_=>rfl|6,1,_,_=>rfl)⟩]<| .lp (σ:=Int) (β:=Unit) (0) [] [] ⟨[2,3,53,54],[11,13],fun u1=>[(55,(vI u1))],fun u1=>[]⟩ ⟨[2,3],[11],fun _=>[],fun _=>[]⟩
  (fun u1=> .r<| .it (.a1 ((0:Int)≤u1∧u1<([(k19 s_ p),(k20 s_ p),(k21 s_ p),(k22 s_ p),(k23 s_ p),(⟨s_.earthed,p.buses⟩:bT),(⟨s_.badBus,p.buses⟩:bT)].length:Int))<| .rg {fr:=[(2,17)],fz:=[17]} [0, .t 0 u1 ([(k19 s_ p),(k20 s_ p),(k21 s_ p),(k22 s_ p),(k23 s_ p),(⟨s_.earthed,p.buses⟩:bT),(⟨s_.badBus,p.buses⟩:bT)].length)]<| .r<| .it (.r<| .e (.done (.ret 9)))
  (.r<| .e (.next (k8 u1))))
  (.e (.done (.brk ()))))
  (fun _=> .r<| .lp (σ:=Int) (β:=Unit) (0) [] [] ⟨[3,67,68],[],fun u0=>[(69,(vI u0))],fun u0=>[]⟩ ⟨[],[],fun _=>[],fun _=>[]⟩
  (fun u0=> .r<| .it (.a1 ((0:Int)≤u0∧u0<(p.links.length:Int))<| .rg {fr:=[(3,21)],fz:=[21]} []<| .a2 ((gB [((decide (((at' p.links u0.toNat).kind)=1)),true)]=true→(0:Int)≤u0∧u0<(s_.closed.length:Int))) ((gB [((!(at' s_.closed u0.toNat)),false),((decide (((at' p.links u0.toNat).kind)=1)),true)]=true→(0:Int)≤u0∧u0<(s_.locked.length:Int)))<| .rg {} [0,1]<| .it (.r<| .e (.done (.ret 9)))
  (.r<| .e (.next (k8 u0))))
  (.e (.done (.brk ()))))
  (fun _=> .r<| .e 0))))
theorem l8 (i:Int) (x1:Int) (u1:(List Source)) (u0:(List Link)) (u2:(List aN)):dJ Tryz.prog 221 [(sI i),(sD (k2 u1 x1 u0 u2))] [] (fun r=>(vB r)) (fun _=>[]) (d9 i x1 u1 u0 u2):=
  dY tT mX Tryz.func221 (
  .r<| .a1 ((gB [((bif (decide (0≤i))then(decide (i<(u0.length:Int)))else false),true)]=true→(0:Int)≤i∧i<(u0.length:Int)))<| .r<| .e (bif (bif (decide (0≤i))then(decide (i<(u0.length:Int)))else false)then(!decide (((at' u0 i.toNat).kind)=1))else false))
section
variable (x2:Int) (u0:(List Source)) (u1:(List Link)) (u2:(List aN))
abbrev k25:DV:=(zq [(.fn 221 1 (k6 x2 u0 u1 u2))] 0)
end
theorem sF (x:Transfer) (x1:Int) (u3:(List Source)) (u4:(List Link)) (u5:(List aN)) (x2:Int) (u0:(List Source)) (u1:(List Link)) (u2:(List aN)):dJ Tryz.prog 223 [(.agg [(cI x.watch),(cI x.open_),(cI x.close)]),(sD (k2 u3 x1 u4 u5)),(sD (k25 x2 u0 u1 u2))] [] (fun r=>(vB r)) (fun _=>[]) (gu x x1 u3 u4 u5 x2 u0 u1 u2):=
  dY tT mX Tryz.func223 (
  .rg {fr:=[(0,1)],fz:=[1]} []<| .cg 14 [((bif (decide (x.watch<0))then true else(decide (x1≤x.watch))),false)] (l8 x.close x2 u0 u1 u2) fun r_=> .cg 25 [((!decide (x.open_=(-1))),true),((bif (bif (decide (x.watch<0))then true else(decide (x1≤x.watch)))then true else(!r_)),false)] (l8 x.open_ x2 u0 u1 u2) fun u6=> .r<| .e (bif (bif (bif (decide (x.watch<0))then true else(decide (x1≤x.watch)))then true else(!r_))then true else(bif (!decide (x.open_=(-1)))then(bif (!u6)then true else(decide (x.open_=x.close)))else false)))
section
variable (s_:(List Transfer)) (f_:Int) (u0:(List Source)) (u1:(List Link)) (u2:(List aN)) (u3:Int) (u4:(List Source)) (u5:(List Link)) (u6:(List aN))
abbrev k27:DV:=(aS none 3 Transfer.cell s_)
abbrev k26:List SV:=[(sD (k27 s_)),(sD (.fn 223 2 (qA [(k2 u0 f_ u1 u2),(k25 u3 u4 u5 u6)])))]
end
theorem uL (s_:(List Transfer)) (f_:Int) (u0:(List Source)) (u1:(List Link)) (u2:(List aN)) (u3:Int) (u4:(List Source)) (u5:(List Link)) (u6:(List aN)):dJ Tryz.prog 271 (k26 s_ f_ u0 u1 u2 u3 u4 u5 u6) [] (fun r=>(vI r)) (fun _=>[]) (lg s_ f_ u0 u1 u2 u3 u4 u5 u6):=
  dY tT mX Tryz.func271 (
  .r<| .r<| .lp (σ:=Int) (β:=Unit) (0) [] [] ⟨[0,1,7],[],fun t8=>[(8,(vI t8))],fun t8=>[]⟩ ⟨[],[],fun _=>[],fun _=>[]⟩
  (fun t8=> .r<| .it (.r<| .cl 5 (sF (at' s_ t8.toNat) f_ u0 u1 u2 u3 u4 u5 u6) fun r_=> .a1 ((0:Int)≤t8∧t8<(s_.length:Int))<| .rg {} [0,1]<| .it (.r<| .e (.done (.ret t8)))
  (.r<| .e (.next (k8 t8))))
  (.e (.done (.brk ()))))
  (fun _=> .r<| .e (-1)))
theorem sS (s_:(List Transfer)) (f_:Int) (u0:(List Source)) (u1:(List Link)) (u2:(List aN)) (u3:Int) (u4:(List Source)) (u5:(List Link)) (u6:(List aN)):dJ Tryz.prog 222 (k26 s_ f_ u0 u1 u2 u3 u4 u5 u6) [] (fun r=>(vB r)) (fun _=>[]) (fZ s_ f_ u0 u1 u2 u3 u4 u5 u6):=
  dY tT mX Tryz.func222 (
  .r<| .cl 2 (uL s_ f_ u0 u1 u2 u3 u4 u5 u6) fun r_=> .r<| .e (decide (0≤r_)))
section
variable (p:aD) (s_:State) (l:(List Transfer))
abbrev k28:List SV:=[(.agg (k1 p)),(.agg (k18 s_)),(sD (k27 l))]
end
theorem mZ (p:aD) (s_:State) (l:(List Transfer)):dJ Tryz.prog 154 (k28 p s_ l) [] (fun r=>(vI r)) (fun _=>[]) (fB p s_ l):=
  dY tT mX Tryz.func154 (
  .rg {fr:=[(0,3),(1,4)],fz:=[4]} []<| .cl 2 (fD p s_) fun r_=> .r<| .r<| .it (.r<| .e r_)
  (.rg {fr:=[(1,5)],fz:=[3]} []<| .fz [5]<| .cg 6 [((decide (16<(l.length:Int))),false)] (sS l p.buses p.sources p.links p.racks p.buses p.sources p.links p.racks) fun u0=> .r<| .it (.r<| .e 1)
  (.r<| .e 0)))
theorem qf (s_:(List Bool)) (u0:Bool):dJ Tryz.prog 149 [(sD (aS (some u0) 1 ai s_))] [] (fun r=>(vO 0 false r.length)) (fun r=>[(0,some (bJ 4 1 ai r))]) (sW s_ u0):=
  dY tT mX Tryz.func149 (
  .r<| .r<| .it (.r<| .im (.ad 2 2 4 1 (aA ai ([]:List Bool)))<| .en ([]:List Bool) [] [(2,0)])
  (.a2 ((([]:List Bool).length+s_.length)*1≤140737488355328) (([]:List Bool).length+s_.length≤4611686018427387904)<| .rg {an:=[(0, .arr ([]:List Bool).length (aA ai ([]:List Bool))),(2, .arr (([]:List Bool)++s_).length (aA ai (([]:List Bool)++s_)))],fr:=[(0,3),(2,4)]} [.pf ⟨([]:List Bool).length=0,rfl⟩, .pf ⟨aI 0 1 (nN 1 []) (aA ai ([]:List Bool)),(fun i hi=>absurd hi (Nat.not_lt_zero i))⟩, .e (([]:List Bool).length),0,1, .pf ⟨(([]:List Bool)++s_).length=([]:List Bool).length+s_.length,List.length_append⟩, .pf ⟨aI (([]:List Bool).length+s_.length) 1 (oW (aA ai ([]:List Bool)) ([]:List Bool).length (aA ai s_)) (aA ai (([]:List Bool)++s_)),dG _ _ _ _⟩]<| .en (([]:List Bool)++s_) [] [(4,0)]))
theorem aM (s:(List Bool)) {r:(List Bool)} (h:aR s=some r):Fn Tryz.prog 149 [(sD (aS none 1 ai s))] [] (vO 0 false r.length) [(0,some (bJ 4 1 ai r))]:=by
 refine Fn.nn (qf s true h) fun hl=> ?_
 have hs:s=[]:=List.eq_nil_of_length_eq_zero hl
 subst hs
 exact qf [] false (by rw [←h];kernel_rfl)
section
variable (s_:State)
abbrev k29:List SV:=[(.agg (k18 s_))]
end
theorem yB (s_:State):dJ Tryz.prog 155 (k29 s_) [] (fun r=>(.v (.agg [(.own 0 false r.closed.length),(.own 1 false r.locked.length),(.own 2 false r.badLink.length),(.own 3 false r.on_.length),(.own 4 false r.badSource.length),(.own 5 false r.earthed.length),(.own 6 false r.badBus.length)]))) (fun r=>[(0,some (bJ 4 1 ai r.closed)),(1,some (bJ 4 1 ai r.locked)),(2,some (bJ 4 1 ai r.badLink)),(3,some (bJ 4 1 ai r.on_)),(4,some (bJ 4 1 ai r.badSource)),(5,some (bJ 4 1 ai r.earthed)),(6,some (bJ 4 1 ai r.badBus)),(7,none)]) (oV s_):=
  dY tT mX Tryz.func155 (
  .rg {fr:=[(0,10),(1,11)]} []<| .rg {an:=[(7, .cells)],fr:=[(7,12)]} []<| .ul 11<| .r<| .t<| .a1 ((0:Int)≤0∧0<(7:Int))<| .r<| .cl 4 (lK [(0,13)] ⟨fun h=>aM s_.closed h⟩) fun r_=> .r<| .r<| .im (.dp [1,2,12,13,14])<| .r<| .t<| .a1 ((0:Int)≤1∧1<(7:Int))<| .r<| .cl 4 (lK [(0,14)] ⟨fun h=>aM s_.locked h⟩) fun u0=> .r<| .r<| .im (.dp [1,2,12,13,14])<| .r<| .t<| .a1 ((0:Int)≤2∧2<(7:Int))<| .r<| .cl 4 (lK [(0,15)] ⟨fun h=>aM s_.badLink h⟩) fun u1=> .r<| .r<| .im (.dp [1,2,12,13,14])<| .r<| .t<| .a1 ((0:Int)≤3∧3<(7:Int))<| .r<| .cl 4 (lK [(0,16)] ⟨fun h=>aM s_.on_ h⟩) fun u2=> .r<| .r<| .im (.dp [1,2,12,13,14])<| .r<| .t<| .a1 ((0:Int)≤4∧4<(7:Int))<| .r<| .cl 4 (lK [(0,17)] ⟨fun h=>aM s_.badSource h⟩) fun u3=> .r<| .r<| .im (.dp [1,2,12,13,14])<| .r<| .t<| .a1 ((0:Int)≤5∧5<(7:Int))<| .r<| .cl 4 (lK [(0,18)] ⟨fun h=>aM s_.earthed h⟩) fun u4=> .r<| .r<| .im (.dp [1,2,12,13,14])<| .r<| .t<| .a1 ((0:Int)≤6∧6<(7:Int))<| .r<| .cl 4 (lK [(0,19)] ⟨fun h=>aM s_.badBus h⟩) fun u5=> .r<| .r<| .im (.dp [1,2,12,13,14])<| .r<| .f<| .r<| .en (⟨r_,u0,u1,u2,u3,u4,u5⟩:State) [] [(13,0),(14,1),(15,2),(16,3),(17,4),(18,5),(19,6),(11,7)])
section
variable (s_:State)
abbrev ZG:List CV:=[(.own 0 false s_.closed.length),(.own 1 false s_.locked.length),(.own 2 false s_.badLink.length),(.own 3 false s_.on_.length),(.own 4 false s_.badSource.length),(.own 5 false s_.earthed.length),(.own 6 false s_.badBus.length)]
abbrev Vw:Nat × Option Ob:=(0,some (bJ 4 1 ai s_.closed))
abbrev JR:Nat × Option Ob:=(1,some (bJ 4 1 ai s_.locked))
abbrev Lu:Nat × Option Ob:=(2,some (bJ 4 1 ai s_.badLink))
abbrev KI:Nat × Option Ob:=(3,some (bJ 4 1 ai s_.on_))
abbrev KO:Nat × Option Ob:=(4,some (bJ 4 1 ai s_.badSource))
abbrev Kh:Nat × Option Ob:=(5,some (bJ 4 1 ai s_.earthed))
abbrev Kg:Nat × Option Ob:=(6,some (bJ 4 1 ai s_.badBus))
abbrev Yk:List (Nat × Option Ob):=[(Vw s_),(JR s_),(Lu s_),(KI s_),(KO s_),(Kh s_),(Kg s_)]
end
theorem yC (p:aD) (s_:State) (l:(List Transfer)):dJ Tryz.prog 156 [(.agg (k1 p)),(.agg (ZG s_)),(sD (k27 l))] (Yk s_) (fun r=>(.v (.one (.fn 224 0 3 (Ay [(.d (zq [(aS none 3 Transfer.cell r.1)] 0)),(.d (zq [(.int .i64 r.2.1),(aS none 5 Source.cell r.2.2.1),(aS none 6 Link.cell r.2.2.2.1),(aS none 4 aN.cell r.2.2.2.2.1)] 0)),(.ptr 7 0)]))))) (fun r=>[(Vw s_),(JR s_),(Lu s_),(KI s_),(KO s_),(Kh s_),(Kg s_),(7,some (.cells 29 (ZG s_)))]) (oH p s_ l):=
  dY tT mX Tryz.func156 (
  .rg {fr:=[(0,10),(1,11),(2,12)],fz:=[10,12]} []<| .r<| .en (l,p.buses,p.sources,p.links,p.racks,s_) [] [(11,7)])
noncomputable def jg:fA:=⟨[28,29],F6 ([1,1,1,1,0,1,0]++[0]) (kr Tryz.f83),F6 ([1,1,1,1,0,1,0]++[1]) (kr Tryz.f83),37,[]⟩
theorem xE (p:aD) (s_:State):dJ Tryz.prog 248 (k17 s_ p) [] (fun r=>(vD (.fn 284 2 (qA [(zq [(.int .i64 r.1),(aS none 5 Source.cell r.2.1),(aS none 6 Link.cell r.2.2.1),(aS none 4 aN.cell r.2.2.2.1)] 0),(zq [(aS none 1 ai r.2.2.2.2.1),(aS none 1 ai r.2.2.2.2.2.1),(aS none 1 ai r.2.2.2.2.2.2.1),(aS none 1 ai r.2.2.2.2.2.2.2.1),(aS none 1 ai r.2.2.2.2.2.2.2.2.1),(aS none 1 ai r.2.2.2.2.2.2.2.2.2.1),(aS none 1 ai r.2.2.2.2.2.2.2.2.2.2)] 0)])))) (fun _=>[]) (jZ p s_):=
  dY tT mX Tryz.func248 (
  .rg {fr:=[(0,2),(1,3)],fz:=[2,3]} []<| .r<| .e (p.buses,p.sources,p.links,p.racks,s_.closed,s_.locked,s_.badLink,s_.on_,s_.badSource,s_.earthed,s_.badBus))
noncomputable def rR:fA:=⟨[22],F6 ([1,1,0,1,0]++[0]) (kr Tryz.f197),F6 ([1,1,0,1,0]++[1]) (kr Tryz.f197),125,[]⟩
section
variable (g:aU)
abbrev k39:List (Nat × Option Ob):=[(0,some (LV 3 3 false false 1 1 (aF .i64) (aF .i64) g.head))]
end
theorem gD (g:aU) (x:Int):dJ Tryz.prog 250 [(.agg [(.mp 0)]),(sI x)] (k39 g) (fun r=>(vI r)) (fun r=>(k39 g)) (bV g x):=
  dY tT mX Tryz.func250 (
  .rg {fr:=[(0,2)]} []<| .lp (σ:=Int) (β:=Unit) (x) [] [] ⟨[2],[0,2],fun x1=>[(1,(vI x1))],fun x1=>[]⟩ ⟨[],[],fun _=>[],fun _=>[]⟩
  (fun x1=> .rg {an:=[(3, .look (aV bP x1 g.head).isSome [(cI ((aV bP x1 g.head).getD 0))])]} [.pf ⟨kD [some .i64] 1 1 g.head.length (uo (aF .i64) g.head) (vk (aF .i64) g.head) [(.int .i64 x1)] [(.d (.int .i64 0))] (aV bP x1 g.head).isSome [(cI ((aV bP x1 g.head).getD 0))],ja (fun _=>rfl) (fun _ _=>rfl) g.head x1 0 rfl rfl rfl⟩]<| .r<| .it (.r<| .e (.done (.ret x1)))
  (.r<| .e (.next ((aV bP x1 g.head).getD 0))))
  (fun _=> .no))
theorem wU (g:aU) (a:Int) (b:Int):dJ Tryz.prog 249 [(.agg [(.mp 0)]),(sI a),(sI b)] (k39 g) (fun r=>(.eT [])) (fun r=>[(0,some (LV 3 3 false false 1 1 (aF .i64) (aF .i64) r))]) (jH g a b):=
  dY tT mX Tryz.func249 (
  .rg {fr:=[(0,2)]} []<| .cr 2 (gD g a) fun r_=> .cr 5 (gD g b) fun u0=> .r<| .r<| .it (.rg {an:=[(4, .map (eD bP r_ u0 g.head).length (uo (aF .i64) (eD bP r_ u0 g.head)) (vk (aF .i64) (eD bP r_ u0 g.head)) [])]} [.pf ⟨nV [some .i64] 1 1 g.head.length (uo (aF .i64) g.head) (vk (aF .i64) g.head) [(.int .i64 r_)] [(cI u0)] [] (eD bP r_ u0 g.head).length (uo (aF .i64) (eD bP r_ u0 g.head)) (vk (aF .i64) (eD bP r_ u0 g.head)),vK (fun _=>rfl) (fun _ _=>rfl) g.head r_ u0 rfl rfl⟩]<| .e (eD bP r_ u0 g.head))
  (.e g.head))
section
variable (o_:aU)
abbrev Z8:Nat × Option Ob:=(0,some (.loop rR 0 [(5,(vP 1 0))]))
abbrev k40:List (Nat × Option Ob):=[Z8,(1,some (.cells 337 [(.mp 2)])),(2,some (LV 3 3 false false 1 1 (aF .i64) (aF .i64) o_.head))]
end
theorem vR (u0:Int) (u1:Int) (u2:Int) (u3:Int) (u4:Int) (u5:(List nJ)) (o_:aU):PG Tryz.prog 0 [(.agg [(cI u0),(cI u1),(cI u2),(cI u3),(cI u4),(.d (aS none 2 nJ.cell u5))])] (k40 o_) (fun _=>vB true) (fun r=>[Z8,(1,some (.cells 337 [(.mp 2)])),(2,some (LV 3 3 false false 1 1 (aF .i64) (aF .i64) r.head))]) (lN u0 u1 u2 u3 u4 u5 o_):=
  WE tT mX rR ⟨[5],[0,1,2],fun _=>[(6,(vD (zq [(.int .i64 u0),(.int .i64 u1),(.int .i64 u2),(.int .i64 u3),(.int .i64 u4),(aS none 2 nJ.cell u5)] 0)))],fun _=>[]⟩ (.rg {fr:=[(0,4)],fz:=[4]} []<| .e ())
  (.cl 5 (lK [(0,2)] (wU o_ u0 u1)) fun r_=> .r<| .e (⟨r_⟩:aU))
section
variable (x2:(List Bool)) (t9:Int) (u2:(List Bool)) (u1:(List Bool)) (u0:(List Link))
abbrev k42:=(bif (bif (at' x2 t9.toNat)then(!(at' u2 t9.toNat))else false)then(!(at' u1 (((at' u0 t9.toNat).a).toNat)))else false)
abbrev k43:=((gB [((bif (at' x2 t9.toNat)then(!(at' u2 t9.toNat))else false),true)]=true→(0:Int)≤(at' u0 t9.toNat).a∧(at' u0 t9.toNat).a<(u1.length:Int)))
abbrev k44:=((gB [((k42 x2 t9 u2 u1 u0),true)]=true→(0:Int)≤(at' u0 t9.toNat).b∧(at' u0 t9.toNat).b<(u1.length:Int)))
end
theorem vC (x1:Int) (u3:(List Source)) (u0:(List Link)) (u4:(List aN)) (x2:(List Bool)) (u5:(List Bool)) (u2:(List Bool)) (u6:(List Bool)) (u7:(List Bool)) (u8:(List Bool)) (u1:(List Bool)) (o_:aU):dJ Tryz.prog 284 [(.one (.yl 0)),(sD (k2 u3 x1 u0 u4)),(sD (zq [(aS none 1 ai x2),(aS none 1 ai u5),(aS none 1 ai u2),(aS none 1 ai u6),(aS none 1 ai u7),(aS none 1 ai u8),(aS none 1 ai u1)] 0))] (k40 o_) (fun r=>(.eT [])) (fun r=>[Z8,(1,some (.cells 337 [(.mp 2)])),(2,some (LV 3 3 false false 1 1 (aF .i64) (aF .i64) r.head))]) (lY x1 u3 u0 u4 x2 u5 u2 u6 u7 u8 u1 o_):=
  dY tT mX Tryz.func284 (
  .r<| .lp (σ:=((List (Int × Int)) × Int)) (β:=(List (Int × Int))) (o_.head,0) [] [] ⟨[0,2,7,8],[0,1],fun(o0,t9)=>[(9,(vI t9))],fun(o0,t9)=>[(2,some (LV 3 3 false false 1 1 (aF .i64) (aF .i64) o0))]⟩ ⟨[],[0,1],fun o01=>[],fun o01=>[(2,some (LV 3 3 false false 1 1 (aF .i64) (aF .i64) o01))]⟩
  (fun(o0,t9)=> .r<| .it (.a1 ((0:Int)≤t9∧t9<(u0.length:Int))<| .rg {fr:=[(3,10)],fz:=[10]} []<| .fk (bif (k42 x2 t9 u2 u1 u0)then(!(at' u1 (((at' u0 t9.toNat).b).toNat)))else false) (.cy 34 (vR ((at' u0 t9.toNat).a) ((at' u0 t9.toNat).b) ((at' u0 t9.toNat).kind) ((at' u0 t9.toNat).most) ((at' u0 t9.toNat).ohm) ((at' u0 t9.toNat).trip) (⟨o0⟩:aU)) fun r_=> .a4 ((0:Int)≤t9∧t9<(x2.length:Int)) ((gB [((at' x2 t9.toNat),true)]=true→(0:Int)≤t9∧t9<(u2.length:Int))) (k43 x2 t9 u2 u1 u0) (k44 x2 t9 u2 u1 u0)<| .rg {ov:=[(31,true,5)]} [0,1,2,3, .k 4]<| .f<| .r<| .e (.next (r_.head,(k8 t9))))
  (.a4 ((0:Int)≤t9∧t9<(x2.length:Int)) ((gB [((at' x2 t9.toNat),true)]=true→(0:Int)≤t9∧t9<(u2.length:Int))) (k43 x2 t9 u2 u1 u0) (k44 x2 t9 u2 u1 u0)<| .rg {ov:=[(31,false,4)],sk:=[32,33,34,35]} [0,1,2,3]<| .f<| .r<| .e (.next (o0,(k8 t9)))))
  (.e (.done (.brk o0))))
  (fun o01=> .e (⟨o01⟩:aU)))
section
variable (u1:(List aJ)) (u2:(List (Int × Int))) (u0:Int) (u3:Int) (u5:(List aJ)) (u6:Int) (u4:(List (Int × Int))) (u7:Int)
abbrev k45:List (Nat × Option Ob):=[(60,some (.rows 287 2 u1.length (wR aJ.ev u1) none)),(61,some (LV 3 3 false false 1 1 (aF .i64) (aF .i64) u2))]
abbrev Gz:=((aV bP u0 u2).getD 0)
abbrev Xg:List CV:=[(cI (Gz u2 u0))]
abbrev NE:=(eD bP u0 (u1.length:Int) u2)
abbrev Tf:=(u1++[(⟨([]:List Int),([]:List Int)⟩:aJ)])
abbrev k50:=(wR aJ.ev (Tf u1))
abbrev TU:=((aV bP u0 (NE u1 u2 u0)).getD 0)
abbrev k55:=((TU u1 u2 u0).toNat)
abbrev k54:=(at' (Tf u1) (k55 u1 u2 u0))
abbrev Vu:=((k54 u1 u2 u0).buses)
abbrev k52:=((Vu u1 u2 u0).length+[u3].length)
abbrev Xo:=((Vu u1 u2 u0)++[u3])
abbrev k57:=(aA (aF .i64) (Xo u1 u2 u0 u3))
abbrev k59:=((Tf u1).set (k55 u1 u2 u0) (⟨(Xo u1 u2 u0 u3),(k54 u1 u2 u0).sources⟩:aJ))
abbrev k58:=(wR aJ.ev (k59 u1 u2 u0 u3))
abbrev TK:=((at' u1 ((Gz u2 u0).toNat)).buses)
abbrev Xd:=((TK u1 u2 u0)++[u3])
abbrev k62:=(aA (aF .i64) (Xd u1 u2 u0 u3))
abbrev k64:=(u1.set ((Gz u2 u0).toNat) (⟨(Xd u1 u2 u0 u3),(at' u1 ((Gz u2 u0).toNat)).sources⟩:aJ))
abbrev k63:=(wR aJ.ev (k64 u1 u2 u0 u3))
abbrev U1:=((at' u5 ((Gz u4 u6).toNat)).sources)
abbrev Xi:=((U1 u5 u6 u4)++[u7])
abbrev k67:=(aA (aF .i64) (Xi u5 u6 u4 u7))
abbrev ZX:=(u5.set ((Gz u4 u6).toNat) (⟨(at' u5 ((Gz u4 u6).toNat)).buses,(Xi u5 u6 u4 u7)⟩:aJ))
abbrev k68:=(wR aJ.ev (ZX u5 u6 u4 u7))
end
theorem nG (p:aD) (s_:State):dJ Tryz.prog 197 (k17 s_ p) [] (fun r=>(vD (aS none 2 aJ.cell r))) (fun _=>[]) (gF p s_):=
  dY tT mX Tryz.func197 (
  .rg {fr:=[(0,55),(1,56)],fz:=[56]} []<| .rg {an:=[(0, .map 0 (uo (aF .i64) ([]:(List (Int × Int)))) (vk (aF .i64) ([]:(List (Int × Int)))) [])],fr:=[(0,57),(2,58)]} []<| .cl 2 (xE p s_) fun r_=> .r<| .cl 0 (lK [(0,59),(1,58),(2,57)] (vC r_.1 r_.2.1 r_.2.2.1 r_.2.2.2.1 r_.2.2.2.2.1 r_.2.2.2.2.2.1 r_.2.2.2.2.2.2.1 r_.2.2.2.2.2.2.2.1 r_.2.2.2.2.2.2.2.2.1 r_.2.2.2.2.2.2.2.2.2.1 r_.2.2.2.2.2.2.2.2.2.2 (⟨([]:(List (Int × Int)))⟩:aU))) fun v0=> .rf 59 [5] [] none 0 []<| .r<| .im (.adR 7 60 287 2 (wR aJ.ev ([]:List aJ)))<| .rg {an:=[(0, .map 0 (uo (aF .i64) ([]:(List (Int × Int)))) (vk (aF .i64) ([]:(List (Int × Int)))) [])],fr:=[(0,61)]} []<| .r<| .lp (σ:=((List aJ) × (List (Int × Int)) × Int)) (β:=((List aJ) × (List (Int × Int)))) (([]:List aJ),([]:(List (Int × Int))),0) [] [] ⟨[2,3,5,8,31],[55,57,58],fun(u1,u2,u3)=>[(7,(vO 60 false u1.length)),(32,(vI u3))],fun(u1,u2,u3)=>(k45 u1 u2)⟩ ⟨[2,3,5,8],[55,57,58],fun(u9,u4)=>[(7,(vO 60 false u9.length))],fun(u9,u4)=>(k45 u9 u4)⟩
  (fun(u1,u2,u3)=> .r<| .it (.r<| .a1 ((0:Int)≤u3∧u3<(s_.badBus.length:Int))<| .r<| .it (.r<| .e (.next (u1,u2,(k8 u3))))
  (.cr 2 (lK [(0,57)] (gD v0 u3)) fun u0=> .r<| .rg {an:=[(2, .look (aV bP u0 u2).isSome (Xg u2 u0))]} [.pf ⟨kD [some .i64] 1 1 u2.length (uo (aF .i64) u2) (vk (aF .i64) u2) [(.int .i64 u0)] [(.d (.int .i64 0))] (aV bP u0 u2).isSome (Xg u2 u0),ja (fun _=>rfl) (fun _ _=>rfl) u2 u0 0 rfl rfl rfl⟩]<| .r<| .it (.rg {an:=[(4, .map (NE u1 u2 u0).length (uo (aF .i64) (NE u1 u2 u0)) (vk (aF .i64) (NE u1 u2 u0)) [])]} [.pf ⟨nV [some .i64] 1 1 u2.length (uo (aF .i64) u2) (vk (aF .i64) u2) [(.int .i64 u0)] [(cI (u1.length:Int))] [] (NE u1 u2 u0).length (uo (aF .i64) (NE u1 u2 u0)) (vk (aF .i64) (NE u1 u2 u0)),vK (fun _=>rfl) (fun _ _=>rfl) u2 u0 (u1.length:Int) rfl rfl⟩]<| .a2 ((u1.length+[(⟨([]:List Int),([]:List Int)⟩:aJ)].length)*48≤140737488355328) (u1.length+[(⟨([]:List Int),([]:List Int)⟩:aJ)].length≤4611686018427387904)<| .rg {an:=[(2, .arr [(⟨([]:List Int),([]:List Int)⟩:aJ)].length (nN 2 [nS,nS])),(3, .rows (Tf u1).length (k50 u1))],fr:=[(2,86),(3,87)]} [.pf ⟨[(⟨([]:List Int),([]:List Int)⟩:aJ)].length=1,rfl⟩, .pf ⟨aI 1 2 (nN 2 [nS,nS]) (nN 2 [nS,nS]),iB _ _ _⟩, .e (u1.length),0,1, .pf ⟨(Tf u1).length=u1.length+[(⟨([]:List Int),([]:List Int)⟩:aJ)].length,List.length_append⟩, .pf ⟨Ef u1.length [(⟨([]:List Int),([]:List Int)⟩:aJ)].length 2 (wR aJ.ev u1) (nN 2 [nS,nS]) (k50 u1),Ut _ _ _ _ _ (by intro i hi j hj;match i,j,hi,hj with|0,0,_,_=>exact⟨rfl,_,_,_,rfl⟩|0,1,_,_=>exact⟨rfl,_,_,_,rfl⟩)⟩]<| .rg {an:=[(2, .look (aV bP u0 (NE u1 u2 u0)).isSome [(cI (TU u1 u2 u0))])]} [.pf ⟨kD [some .i64] 1 1 (NE u1 u2 u0).length (uo (aF .i64) (NE u1 u2 u0)) (vk (aF .i64) (NE u1 u2 u0)) [(.int .i64 u0)] [(.d (.int .i64 0))] (aV bP u0 (NE u1 u2 u0)).isSome [(cI (TU u1 u2 u0))],ja (fun _=>rfl) (fun _ _=>rfl) (NE u1 u2 u0) u0 0 rfl rfl rfl⟩]<| .a3 ((0:Int)≤(TU u1 u2 u0)∧(TU u1 u2 u0)<((Tf u1).length:Int)) ((k52 u1 u2 u0 u3)*8≤140737488355328) ((Vu u1 u2 u0).length+[u3].length≤4611686018427387904)<| .rg {an:=[(6, .take 88),(8, .arr [u3].length (aA (aF .i64) [u3])),(9, .arr (Xo u1 u2 u0 u3).length (k57 u1 u2 u0 u3)),(12, .rows 0 (k58 u1 u2 u0 u3))],fr:=[(8,89),(9,90)]} [0, .t 0 (TU u1 u2 u0) ((Tf u1).length), .pf ⟨[u3].length=1,rfl⟩, .pf ⟨aI 1 1 (nN 1 [(.int .i64 u3)]) (aA (aF .i64) [u3]),(by intro i hi j hj;match i,j,hi,hj with|0,0,_,_=>rfl)⟩, .e ((Vu u1 u2 u0).length),1,2, .pf ⟨(Xo u1 u2 u0 u3).length=(Vu u1 u2 u0).length+[u3].length,List.length_append⟩, .pf ⟨aI (k52 u1 u2 u0 u3) 1 (oW (aA (aF .i64) (Vu u1 u2 u0)) (Vu u1 u2 u0).length (aA (aF .i64) [u3])) (k57 u1 u2 u0 u3),dG _ _ _ _⟩,0, .t 0 (TU u1 u2 u0) ((Tf u1).length), .e ((Xo u1 u2 u0 u3).length), .pf ⟨QO (Tf u1).length 2 (Vr (k50 u1) (k55 u1 u2 u0) 0 (.row 3 1 (Xo u1 u2 u0 u3).length (k57 u1 u2 u0 u3))) (k58 u1 u2 u0 u3),EA _ _ _ _ _ _ _ _ rfl (fun j hj=>(match j,hj with|0,_=>rfl|1,_=>rfl))⟩, .pf ⟨∀i0 j0 c0,((some ((TU u1 u2 u0).toNat,0,CV.own 88 false (Vu u1 u2 u0).length)):Option (Nat × Nat × CV))=some (i0,j0,c0)→i0=(TU u1 u2 u0).toNat∧j0=0,(fun i0 j0 c0 e=>by cases e;exact⟨rfl,rfl⟩)⟩]<| .im (.ll 87 (Tf u1) (k59 u1 u2 u0 u3))<| .r<| .en (.next ((k59 u1 u2 u0 u3),(NE u1 u2 u0),(k8 u3))) [] [(87,60)])
  (.rg {an:=[(2, .look (aV bP u0 u2).isSome (Xg u2 u0))]} [.pf ⟨kD [some .i64] 1 1 u2.length (uo (aF .i64) u2) (vk (aF .i64) u2) [(.int .i64 u0)] [(.d (.int .i64 0))] (aV bP u0 u2).isSome (Xg u2 u0),ja (fun _=>rfl) (fun _ _=>rfl) u2 u0 0 rfl rfl rfl⟩]<| .a3 ((0:Int)≤(Gz u2 u0)∧(Gz u2 u0)<(u1.length:Int)) (((TK u1 u2 u0).length+[u3].length)*8≤140737488355328) ((TK u1 u2 u0).length+[u3].length≤4611686018427387904)<| .rg {an:=[(6, .take 91),(8, .arr [u3].length (aA (aF .i64) [u3])),(9, .arr (Xd u1 u2 u0 u3).length (k62 u1 u2 u0 u3)),(12, .rows 0 (k63 u1 u2 u0 u3))],fr:=[(8,92),(9,93)]} [0, .t 0 (Gz u2 u0) u1.length, .pf ⟨[u3].length=1,rfl⟩, .pf ⟨aI 1 1 (nN 1 [(.int .i64 u3)]) (aA (aF .i64) [u3]),(by intro i hi j hj;match i,j,hi,hj with|0,0,_,_=>rfl)⟩, .e ((TK u1 u2 u0).length),1,2, .pf ⟨(Xd u1 u2 u0 u3).length=(TK u1 u2 u0).length+[u3].length,List.length_append⟩, .pf ⟨aI ((TK u1 u2 u0).length+[u3].length) 1 (oW (aA (aF .i64) (TK u1 u2 u0)) (TK u1 u2 u0).length (aA (aF .i64) [u3])) (k62 u1 u2 u0 u3),dG _ _ _ _⟩,0, .t 0 (Gz u2 u0) u1.length, .e ((Xd u1 u2 u0 u3).length), .pf ⟨QO u1.length 2 (Vr (wR aJ.ev u1) ((Gz u2 u0).toNat) 0 (.row 3 1 (Xd u1 u2 u0 u3).length (k62 u1 u2 u0 u3))) (k63 u1 u2 u0 u3),EA _ _ _ _ _ _ _ _ rfl (fun j hj=>(match j,hj with|0,_=>rfl|1,_=>rfl))⟩, .pf ⟨∀i0 j0 c0,((some ((Gz u2 u0).toNat,0,CV.own 91 false (TK u1 u2 u0).length)):Option (Nat × Nat × CV))=some (i0,j0,c0)→i0=(Gz u2 u0).toNat∧j0=0,(fun i0 j0 c0 e=>by cases e;exact⟨rfl,rfl⟩)⟩]<| .im (.ll 60 u1 (k64 u1 u2 u0 u3))<| .r<| .e (.next ((k64 u1 u2 u0 u3),u2,(k8 u3))))))
  (.e (.done (.brk (u1,u2)))))
  (fun(u9,u4)=> .r<| .lp (σ:=((List aJ) × Int)) (β:=(List aJ)) (u9,0) [] [] ⟨[3,5,8,76,77],[57,58,61],fun(u5,u7)=>[(7,(vO 60 false u5.length)),(78,(vI u7))],fun(u5,u7)=>[(60,some (.rows 287 2 u5.length (wR aJ.ev u5) none))]⟩ ⟨[],[],fun u8=>[(7,(vO 60 false u8.length))],fun u8=>[(60,some (.rows 287 2 u8.length (wR aJ.ev u8) none))]⟩
  (fun(u5,u7)=> .r<| .it (.a1 ((0:Int)≤u7∧u7<(p.sources.length:Int))<| .rg {fr:=[(3,106)],fz:=[106]} []<| .a3 ((0:Int)≤u7∧u7<(s_.on_.length:Int)) ((gB [((at' s_.on_ u7.toNat),true)]=true→(0:Int)≤u7∧u7<(s_.badSource.length:Int))) ((gB [((bif (at' s_.on_ u7.toNat)then(!(at' s_.badSource u7.toNat))else false),true)]=true→(0:Int)≤(at' p.sources u7.toNat).bus∧(at' p.sources u7.toNat).bus<(s_.badBus.length:Int)))<| .rg {} [0,1,2]<| .it (.cr 4 (lK [(0,57)] (gD v0 ((at' p.sources u7.toNat).bus))) fun u6=> .rg {an:=[(5, .look (aV bP u6 u4).isSome (Xg u4 u6))]} [0, .pf ⟨kD [some .i64] 1 1 u4.length (uo (aF .i64) u4) (vk (aF .i64) u4) [(.int .i64 u6)] [(.d (.int .i64 0))] (aV bP u6 u4).isSome (Xg u4 u6),ja (fun _=>rfl) (fun _ _=>rfl) u4 u6 0 rfl rfl rfl⟩]<| .a3 ((0:Int)≤(Gz u4 u6)∧(Gz u4 u6)<(u5.length:Int)) (((U1 u5 u6 u4).length+[u7].length)*8≤140737488355328) ((U1 u5 u6 u4).length+[u7].length≤4611686018427387904)<| .rg {an:=[(6, .take 107),(8, .arr [u7].length (aA (aF .i64) [u7])),(9, .arr (Xi u5 u6 u4 u7).length (k67 u5 u6 u4 u7)),(12, .rows 0 (k68 u5 u6 u4 u7))],fr:=[(8,108),(9,109)]} [0, .t 0 (Gz u4 u6) u5.length, .pf ⟨[u7].length=1,rfl⟩, .pf ⟨aI 1 1 (nN 1 [(.int .i64 u7)]) (aA (aF .i64) [u7]),(by intro i hi j hj;match i,j,hi,hj with|0,0,_,_=>rfl)⟩, .e ((U1 u5 u6 u4).length),1,2, .pf ⟨(Xi u5 u6 u4 u7).length=(U1 u5 u6 u4).length+[u7].length,List.length_append⟩, .pf ⟨aI ((U1 u5 u6 u4).length+[u7].length) 1 (oW (aA (aF .i64) (U1 u5 u6 u4)) (U1 u5 u6 u4).length (aA (aF .i64) [u7])) (k67 u5 u6 u4 u7),dG _ _ _ _⟩,0, .t 0 (Gz u4 u6) u5.length, .e ((Xi u5 u6 u4 u7).length), .pf ⟨QO u5.length 2 (Vr (wR aJ.ev u5) ((Gz u4 u6).toNat) 1 (.row 3 1 (Xi u5 u6 u4 u7).length (k67 u5 u6 u4 u7))) (k68 u5 u6 u4 u7),EA _ _ _ _ _ _ _ _ rfl (fun j hj=>(match j,hj with|0,_=>rfl|1,_=>rfl))⟩, .pf ⟨∀i0 j0 c0,((some ((Gz u4 u6).toNat,1,CV.own 107 false (U1 u5 u6 u4).length)):Option (Nat × Nat × CV))=some (i0,j0,c0)→i0=(Gz u4 u6).toNat∧j0=1,(fun i0 j0 c0 e=>by cases e;exact⟨rfl,rfl⟩)⟩]<| .im (.ll 60 u5 (ZX u5 u6 u4 u7))<| .r<| .e (.next ((ZX u5 u6 u4 u7),(k8 u7))))
  (.r<| .e (.next (u5,(k8 u7)))))
  (.e (.done (.brk u5))))
  (fun u8=> .r<| .fz [60]<| .im (.us 4 (vD (.sl none 2 u8.length (fun i j=>evD (wR aJ.ev u8 i j)))) (vD (aS none 2 aJ.cell u8)) (D6.v (tK.one (oo.d (pK.sl (.inr rfl) (fun i _ j hj=>match j,hj with|0,_=> .refl _|1,_=> .refl _))))))<| .e u8)))
section
variable (p:aD) (u1:(List aJ)) (u0:Int) (u3:Int) (u2:(List Bool))
abbrev V5:=(List.replicate p.buses.toNat (false:Bool))
abbrev ZB:=(aA ai (V5 p))
abbrev Xm:=(at' ((at' u1 u0.toNat).buses) u3.toNat)
abbrev k72:=((0:Int)≤(Xm u1 u0 u3)∧(Xm u1 u0 u3)<(u2.length:Int))
abbrev ZT:=(u2.set ((Xm u1 u0 u3).toNat) (decide (0<(((at' u1 u0.toNat).sources).length:Int))))
abbrev ZQ:=(aA ai (ZT u1 u0 u3 u2))
abbrev k76:=(oN (aA ai u2) ((Xm u1 u0 u3).toNat) 0 [(.bool (decide (0<(((at' u1 u0.toNat).sources).length:Int))))])
abbrev k77:=((ZT u1 u0 u3 u2),(k8 u3))
end
theorem qz (p:aD) (s_:State):dJ Tryz.prog 126 (k17 s_ p) [] (fun r=>(.eT [(.one (.own 0 false r.1.length)),(sI r.2)])) (fun r=>[(0,some (bJ 4 1 ai r.1))]) (dP p s_):=
  dY tT mX Tryz.func126 (
  .rg {fr:=[(0,7),(1,8)],fz:=[7,8]} []<| .cl 2 (fD p s_) fun r_=> .r<| .r<| .it (.r<| .im (.ad 4 9 4 1 (aA ai ([]:List Bool)))<| .en (([]:List Bool),r_) [] [(9,0)])
  (.a3 ((0:Int)≤p.buses) ((1:Int)*p.buses≤281474976710656) ((p.buses:Int)≤9223372036854775807)<| .rg {an:=[(2, .arr (V5 p).length (ZB p))],fr:=[(2,10)]} [0, .e ((p.buses:Int)),1,2, .pf ⟨(V5 p).length=p.buses.toNat,List.length_replicate⟩, .pf ⟨aI p.buses.toNat 1 (fun _ j=>[(.bool false)].getD j .nilp) (ZB p),oh _ _ _ _ _ (fun j hj=>(match j,hj with|0,_=>rfl))⟩]<| .cl 2 (nG p s_) fun u1=> .r<| .lp (σ:=((List Bool) × Int)) (β:=(List Bool)) ((V5 p),0) [] [] ⟨[23,24],[],fun(u4,u0)=>[(7,(vO 10 true u4.length)),(25,(vI u0))],fun(u4,u0)=>[(10,some (bJ 4 1 ai u4))]⟩ ⟨[],[],fun u5=>[(7,(vO 10 true u5.length))],fun u5=>[(10,some (bJ 4 1 ai u5))]⟩
  (fun(u4,u0)=> .r<| .it (.a1 ((0:Int)≤u0∧u0<(u1.length:Int))<| .rg {fr:=[(2,14)]} []<| .rg {fz:=[14]} []<| .lp (σ:=((List Bool) × Int)) (β:=(List Bool)) (u4,0) [] [] ⟨[9,23,24,25,30,31],[],fun(u2,u3)=>[(7,(vO 10 true u2.length)),(32,(vI u3))],fun(u2,u3)=>[(10,some (bJ 4 1 ai u2))]⟩ ⟨[23,24,25],[],fun u6=>[(7,(vO 10 true u6.length))],fun u6=>[(10,some (bJ 4 1 ai u6))]⟩
  (fun(u2,u3)=> .r<| .it (.a1 ((0:Int)≤u3∧u3<(((at' u1 u0.toNat).buses).length:Int))<| .r<| .a1 (k72 u1 u0 u3 u2)<| .rg {an:=[(7, .arr 0 (ZQ u1 u0 u3 u2))]} [0, .t 0 (Xm u1 u0 u3) u2.length, .pf ⟨aI u2.length 1 (k76 u1 u0 u3 u2) (ZQ u1 u0 u3 u2),gI _ _ _ _ _ _ _ _ rfl (fun j hj=>(match j,hj with|0,_=>rfl))⟩]<| .im (.ll 10 u2 (ZT u1 u0 u3 u2))<| .r<| .e (.next (k77 u1 u0 u3 u2)))
  (.e (.done (.brk u2))))
  (fun u6=> .r<| .e (.next (u6,(k8 u0)))))
  (.e (.done (.brk u4))))
  (fun u5=> .r<| .en (u5,0) [] [(10,0)])))
theorem je (x y:ay):Go.Proofs.ltOf bK x y=true↔x.e0<y.e0∨ ¬ y.e0<x.e0∧x.e1<y.e1:=by
 unfold Go.Proofs.ltOf bK;rw [decide_eq_true_iff]
 by_cases h0:x.e0<y.e0<;>by_cases g0:y.e0<x.e0<;>by_cases h1:x.e1<y.e1<;>by_cases g1:y.e1<x.e1<;>simp [h0,g0,h1,g1]
theorem xJ:Go.Sort.SWO (Go.Proofs.ltOf bK) where
 irrefl x:=by rw [←Bool.not_eq_true,je];omega
 trans x y z h1 h2:=by rw [je]at*;omega
 ntrans x y z h1 h2:=by rw [←Bool.not_eq_true,je]at*;omega
theorem xL (x y:ay) (h1:(Go.Proofs.ltOf bK) x y=false) (h2:(Go.Proofs.ltOf bK) y x=false):x=y:=by
 rw [←Bool.not_eq_true,je]at h1 h2
 obtain⟨a,b⟩:=x
 obtain⟨c,d⟩:=y
 have e1:a=c:=by simp only at h1 h2;omega
 have e2:b=d:=by simp only at h1 h2;omega
 rw [e1,e2]
theorem yK (s:(List ay)) {r:(List ay)} (h:jm s=some r):Fn Tryz.prog 207 [(.one (.own 0 false s.length)),(sD (.fn 208 0 (qA [])))] [(0,some (.arr 145 2 s.length (aA ay.cell s)))] (.eT []) [(0,some (.arr 145 2 r.length (aA ay.cell r)))]:=
 VZ Q8 2 Tt PN (fun x:ay=>[.int .i64 x.e0, .int .i64 x.e1]) (fun _=>rfl) (fun x v hv=>by simp at hv;rcases hv with rfl|rfl<;>rfl) bK xJ xL
  (Mk (fun x:ay=>[.int .i64 x.e0, .int .i64 x.e1]) (fun x=>x.e0) (fun x=>x.e1) (fun _=>rfl)) (enters_of Tryz.func208 (by kernel_rfl) rfl)
  (fun F w x j hj v=>match j,hj with|0,_=>Iff.rfl|1,_=>Iff.rfl) 207 rfl ⟨_,Tryz.func207,rfl,rfl⟩ s (by cases s with|nil=>(cases h;simp)|cons x xs=>exact h)
section
variable (u6:(List ay)) (u2:(List aJ)) (u0:Int) (u1:Int) (u3:Int) (u4:(List ay))
abbrev Xk:List (Nat × Option Ob):=[(139,some (bJ 145 2 ay.cell u6))]
abbrev Z4:=(((at' u2 u0.toNat).sources).drop ((k8 u1).toNat))
abbrev Vp:=(at' ((at' u2 u0.toNat).sources) u1.toNat)
abbrev ZC:=(at' (Z4 u2 u0 u1) u3.toNat)
abbrev Wn:=(⟨(Vp u2 u0 u1),(ZC u2 u0 u1 u3)⟩:ay)
abbrev k82:=(u4.length+[(Wn u2 u0 u1 u3)].length)
abbrev k84:=(aA ay.cell [(Wn u2 u0 u1 u3)])
abbrev Zy:=(u4++[(Wn u2 u0 u1 u3)])
abbrev k86:=(aA ay.cell (Zy u2 u0 u1 u3 u4))
end
theorem kF (p:aD) (s_:State):dJ Tryz.prog 135 (k17 s_ p) [] (fun r=>(.eT [(.one (.own 0 false r.1.length)),(sI r.2)])) (fun r=>[(0,some (bJ 145 2 ay.cell r.1))]) (dF p s_):=
  dY tT mX Tryz.func135 (
  .rg {fr:=[(0,134),(1,135)],fz:=[134,135]} []<| .cl 2 (fD p s_) fun r_=> .r<| .r<| .it (.r<| .im (.ad 4 136 145 2 (aA ay.cell ([]:List ay)))<| .en (([]:List ay),r_) [] [(136,0)])
  (.r<| .cl 2 (nG p s_) fun u2=> .r<| .im (.ad 7 269 145 2 (aA ay.cell ([]:List ay)))<| .lp (σ:=((List ay) × Int)) (β:=(List ay)) (([]:List ay),0) [] [(269,139)] ⟨[2,22,23],[],fun(u6,u0)=>[(7,(vO 139 false u6.length)),(24,(vI u0))],fun(u6,u0)=>(Xk u6)⟩ ⟨[],[],fun u5=>[(7,(vO 139 false u5.length))],fun u5=>(Xk u5)⟩
  (fun(u6,u0)=> .r<| .it (.a1 ((0:Int)≤u0∧u0<(u2.length:Int))<| .rg {fr:=[(2,236)],fz:=[236]} []<| .r<| .lp (σ:=((List ay) × Int)) (β:=(List ay)) (u6,0) [] [] ⟨[2,9,22,23,24,29,30],[],fun(u7,u1)=>[(7,(vO 139 false u7.length)),(31,(vI u1))],fun(u7,u1)=>(Xk u7)⟩ ⟨[2,22,23,24],[],fun u8=>[(7,(vO 139 false u8.length))],fun u8=>(Xk u8)⟩
  (fun(u7,u1)=> .r<| .it (.a1 ((0:Int)≤u1∧u1<(((at' u2 u0.toNat).sources).length:Int))<| .r<| .a1 ((0:Int)≤(k8 u1)∧(k8 u1)≤(((at' u2 u0.toNat).sources).length:Int))<| .r<| .im (.us 40 (vD (.sl none 1 (((at' u2 u0.toNat).sources).length - ((k8 u1).toNat)) (fun iq jq=>aA (aF .i64) ((at' u2 u0.toNat).sources) (iq+((k8 u1).toNat)) jq))) (vD (aS none 1 (aF .i64) (Z4 u2 u0 u1))) (D6.v (tK.one (oo.d (pK.YU (by first|rw [List.length_append,List.length_drop]|simp only [List.length_set,List.length_drop,eX]|exact List.length_replicate) (.inr rfl) (Qc _ _ _ _))))))<| .lp (σ:=((List ay) × Int)) (β:=(List ay)) (u7,0) [] [] ⟨[2,9,11,22,23,24,29,30,31,40,41],[],fun(u4,u3)=>[(7,(vO 139 false u4.length)),(42,(vI u3))],fun(u4,u3)=>(Xk u4)⟩ ⟨[2,9,22,23,24,29,30,31],[],fun u9=>[(7,(vO 139 false u9.length))],fun u9=>(Xk u9)⟩
  (fun(u4,u3)=> .r<| .it (.a1 ((0:Int)≤u3∧u3<((Z4 u2 u0 u1).length:Int))<| .r<| .a3 ((0:Int)≤(Vp u2 u0 u1)∧(Vp u2 u0 u1)<(p.sources.length:Int)) ((gB [((decide (((at' p.sources ((Vp u2 u0 u1).toNat)).sync)=0)),false)]=true→(0:Int)≤(Vp u2 u0 u1)∧(Vp u2 u0 u1)<(p.sources.length:Int))) ((gB [((decide (((at' p.sources ((Vp u2 u0 u1).toNat)).sync)=0)),false)]=true→(0:Int)≤(ZC u2 u0 u1 u3)∧(ZC u2 u0 u1 u3)<(p.sources.length:Int)))<| .rg {} [0,1,2]<| .it (.a2 ((k82 u2 u0 u1 u3 u4)*16≤140737488355328) (u4.length+[(Wn u2 u0 u1 u3)].length≤4611686018427387904)<| .rg {an:=[(4, .arr [(Wn u2 u0 u1 u3)].length (k84 u2 u0 u1 u3)),(5, .arr (Zy u2 u0 u1 u3 u4).length (k86 u2 u0 u1 u3 u4))],fr:=[(4,267),(5,268)]} [.pf ⟨[(Wn u2 u0 u1 u3)].length=1,rfl⟩, .pf ⟨aI 1 2 (nN 2 [(.int .i64 (Vp u2 u0 u1)),(.int .i64 (ZC u2 u0 u1 u3))]) (k84 u2 u0 u1 u3),(by intro i hi j hj;match i,j,hi,hj with|0,0,_,_=>rfl|0,1,_,_=>rfl)⟩, .e (u4.length),0,1, .pf ⟨(Zy u2 u0 u1 u3 u4).length=u4.length+[(Wn u2 u0 u1 u3)].length,List.length_append⟩, .pf ⟨aI (k82 u2 u0 u1 u3 u4) 2 (oW (aA ay.cell u4) u4.length (k84 u2 u0 u1 u3)) (k86 u2 u0 u1 u3 u4),dG _ _ _ _⟩]<| .r<| .en (.next ((Zy u2 u0 u1 u3 u4),(k8 u3))) [] [(268,139)])
  (.r<| .e (.next (u4,(k8 u3)))))
  (.e (.done (.brk u4))))
  (fun u9=> .r<| .e (.next (u9,(k8 u1)))))
  (.e (.done (.brk u7))))
  (fun u8=> .r<| .e (.next (u8,(k8 u0)))))
  (.e (.done (.brk u6))))
  (fun u5=> .cl 1 (lK [(0,139)] ⟨fun h=>yK u5 h⟩) fun v0=> .r<| .a1 (u5.length=v0.length)<| .so 7 139 false u5.length v0.length 0<| .so 77 139 false u5.length v0.length 0<| .r<| .en (v0,0) [] [(139,0)])))
theorem CJ (s_:(List ay)) (v_:ay):dJ Tryz.prog 297 [(sD (aS none 2 ay.cell s_)),(.agg [(cI v_.e0),(cI v_.e1)])] [] (fun r=>(vI r)) (fun _=>[]) (rP s_ v_):=
  dY tT mX Tryz.func297 (
  .rg {fr:=[(0,1)],fz:=[1]} []<| .r<| .lp (σ:=Int) (β:=Unit) (0) [] [] ⟨[0,3,7],[],fun t8=>[(8,(vI t8))],fun t8=>[]⟩ ⟨[],[],fun _=>[],fun _=>[]⟩
  (fun t8=> .r<| .it (.r<| .a1 ((0:Int)≤t8∧t8<(s_.length:Int))<| .r<| .it (.r<| .e (.done (.ret t8)))
  (.r<| .e (.next (k8 t8))))
  (.e (.done (.brk ()))))
  (fun _=> .r<| .e (-1)))
theorem yN (s_:(List ay)) (v_:ay):dJ Tryz.prog 274 [(sD (aS none 2 ay.cell s_)),(.agg [(cI v_.e0),(cI v_.e1)])] [] (fun r=>(vB r)) (fun _=>[]) (lC s_ v_):=
  dY tT mX Tryz.func274 (
  .rg {fr:=[(0,1)],fz:=[1]} []<| .cl 2 (CJ s_ v_) fun r_=> .r<| .e (decide (0≤r_)))
theorem AU (c:ay) (x1:(List ay)):dJ Tryz.prog 273 [(.agg [(cI c.e0),(cI c.e1)]),(sD (zq [(aS none 2 ay.cell x1)] 0))] [] (fun r=>(vB r)) (fun _=>[]) (qB c x1):=
  dY tT mX Tryz.func273 (
  .rg {fr:=[(0,1)],fz:=[1]} []<| .cl 2 (yN x1 c) fun r_=> .r<| .e (!r_))
section
variable (s_:(List ay)) (f_:(List ay))
abbrev k87:List SV:=[(sD (aS none 2 ay.cell s_)),(sD (.fn 273 1 (qA [(zq [(aS none 2 ay.cell f_)] 0)])))]
end
theorem uE (s_:(List ay)) (f_:(List ay)):dJ Tryz.prog 296 (k87 s_ f_) [] (fun r=>(vI r)) (fun _=>[]) (kT s_ f_):=
  dY tT mX Tryz.func296 (
  .r<| .r<| .lp (σ:=Int) (β:=Unit) (0) [] [] ⟨[0,1,7],[],fun t8=>[(8,(vI t8))],fun t8=>[]⟩ ⟨[],[],fun _=>[],fun _=>[]⟩
  (fun t8=> .r<| .it (.r<| .cl 5 (AU (at' s_ t8.toNat) f_) fun r_=> .a1 ((0:Int)≤t8∧t8<(s_.length:Int))<| .rg {} [0,1]<| .it (.r<| .e (.done (.ret t8)))
  (.r<| .e (.next (k8 t8))))
  (.e (.done (.brk ()))))
  (fun _=> .r<| .e (-1)))
theorem lG (s_:(List ay)) (f_:(List ay)):dJ Tryz.prog 272 (k87 s_ f_) [] (fun r=>(vB r)) (fun _=>[]) (cK s_ f_):=
  dY tT mX Tryz.func272 (
  .r<| .cl 2 (uE s_ f_) fun r_=> .r<| .e (decide (0≤r_)))
section
variable (p:aD) (s_:State) (x:Transfer) (r_:((List Bool) × Int)) (u0:(List Bool)) (u1:Int) (u3:((List Bool) × Int))
abbrev k88:List SV:=[(.agg (k1 p)),(.agg (ZG s_))]
abbrev k90:=(bif (bif (at' s_.badBus x.watch.toNat)then true else(at' r_.1 x.watch.toNat))then true else(at' s_.closed x.close.toNat))
abbrev k89:=((k90 s_ x r_),false)
abbrev k91:=((bif (k90 s_ x r_)then true else(at' s_.badLink x.close.toNat)),false)
abbrev J8:=(u0.set x.close.toNat true)
abbrev Qe:=((J8 x u0).set x.open_.toNat false)
abbrev k94:List SV:=[(.agg (k1 p)),(.agg [(.d (aS none 1 ai (Qe x u0))),(.d (aS none 1 ai s_.locked)),(.d (aS none 1 ai s_.badLink)),(.d (aS none 1 ai s_.on_)),(.d (aS none 1 ai s_.badSource)),(.d (aS none 1 ai s_.earthed)),(.d (aS none 1 ai s_.badBus))])]
abbrev k95:=(⟨(Qe x u0),s_.locked,s_.badLink,s_.on_,s_.badSource,s_.earthed,s_.badBus⟩:State)
abbrev k96:List SV:=[(.agg (k1 p)),(.agg [(.own 29 false ((Qe x u0).length)),(.own 1 false s_.locked.length),(.own 2 false s_.badLink.length),(.own 3 false s_.on_.length),(.own 4 false s_.badSource.length),(.own 5 false s_.earthed.length),(.own 6 false s_.badBus.length)])]
abbrev k98:Nat × Option Ob:=(29,some (bJ 4 1 ai (Qe x u0)))
abbrev k97:List (Nat × Option Ob):=[(k98 x u0),(JR s_),(Lu s_),(KI s_),(KO s_),(Kh s_),(Kg s_)]
abbrev Qr:=((bif (at' r_.1 u1.toNat)then(!(at' u3.1 u1.toNat))else false),false)
abbrev k99:=((gB [(Qr r_ u1 u3)]=true→(0:Int)≤u1∧u1<(u3.1.length:Int)))
abbrev XT:=((gB [((at' u3.1 u1.toNat),true),(Qr r_ u1 u3)]=true→(0:Int)≤u1∧u1<(s_.earthed.length:Int)))
abbrev Ye:=((gB [((bif (at' u3.1 u1.toNat)then(at' s_.earthed u1.toNat)else false),true),(Qr r_ u1 u3)]=true→(0:Int)≤u1∧u1<(r_.1.length:Int)))
abbrev Yw:List SV:=[(.agg (k1 p)),(.agg [(.d (aS none 1 ai (J8 x u0))),(.d (aS none 1 ai s_.locked)),(.d (aS none 1 ai s_.badLink)),(.d (aS none 1 ai s_.on_)),(.d (aS none 1 ai s_.badSource)),(.d (aS none 1 ai s_.earthed)),(.d (aS none 1 ai s_.badBus))])]
abbrev Xb:=(⟨(J8 x u0),s_.locked,s_.badLink,s_.on_,s_.badSource,s_.earthed,s_.badBus⟩:State)
abbrev X3:List SV:=[(.agg (k1 p)),(.agg [(.own 29 false ((J8 x u0).length)),(.own 1 false s_.locked.length),(.own 2 false s_.badLink.length),(.own 3 false s_.on_.length),(.own 4 false s_.badSource.length),(.own 5 false s_.earthed.length),(.own 6 false s_.badBus.length)])]
abbrev WH:Nat × Option Ob:=(29,some (bJ 4 1 ai (J8 x u0)))
abbrev Zj:List (Nat × Option Ob):=[(WH x u0),(JR s_),(Lu s_),(KI s_),(KO s_),(Kh s_),(Kg s_)]
end
theorem Dn (p:aD) (s_:State) (x:Transfer):dJ Tryz.prog 225 [(.agg (k1 p)),(.agg (ZG s_)),(.agg [(cI x.watch),(cI x.open_),(cI x.close)])] (Yk s_) (fun r=>(.eT [(.agg [(.own 7 false r.1.closed.length),(.own 1 false s_.locked.length),(.own 2 false s_.badLink.length),(.own 3 false s_.on_.length),(.own 4 false s_.badSource.length),(.own 5 false s_.earthed.length),(.own 6 false s_.badBus.length)]),(sB r.2)])) (fun r=>[(Vw s_),(JR s_),(Lu s_),(KI s_),(KO s_),(Kh s_),(Kg s_),(7,bif r.2 then some (bJ 4 1 ai r.1.closed)else none),(8,none)]) (mR p s_ x):=
  dY tT mX Tryz.func225 (
  .rg {fr:=[(0,22),(1,23),(2,24),(3,25)],fz:=[22]} []<| .cl 2 ⟨fun{r_} hr_=>((Fn.Bv (args:=(k17 s_ p)) (frz:=[0,1,2,3,4,5,6]) (p:=[s_.closed.length=s_.closed.length,s_.locked.length=s_.locked.length,s_.badLink.length=s_.badLink.length,s_.on_.length=s_.on_.length,s_.badSource.length=s_.badSource.length,s_.earthed.length=s_.earthed.length,s_.badBus.length=s_.badBus.length]) (rK [(0,26)] (qz p s_ hr_)) (by kernel_rfl) ⟨rfl,rfl,rfl,rfl,rfl,rfl,rfl,trivial⟩ (by kernel_rfl) ⟨(fun _ _=>rfl),trivial⟩ (by kernel_rfl)):Fn Tryz.prog 126 (k88 p s_) (Yk s_) (.eT [(.one (.own 26 false r_.1.length)),(sI r_.2)]) [(Vw s_),(JR s_),(Lu s_),(KI s_),(KO s_),(Kh s_),(Kg s_),(26,some (bJ 4 1 ai r_.1))])⟩ fun r_=> .rg {fz:=[26]} []<| .a5 ((0:Int)≤x.watch∧x.watch<(s_.badBus.length:Int)) ((gB [((at' s_.badBus x.watch.toNat),false)]=true→(0:Int)≤x.watch∧x.watch<(r_.1.length:Int))) ((gB [((bif (at' s_.badBus x.watch.toNat)then true else(at' r_.1 x.watch.toNat)),false)]=true→(0:Int)≤x.close∧x.close<(s_.closed.length:Int))) ((gB [(k89 s_ x r_)]=true→(0:Int)≤x.close∧x.close<(s_.badLink.length:Int))) ((gB [(k91 s_ x r_)]=true→(0:Int)≤x.close∧x.close<(s_.locked.length:Int)))<| .rg {} [0, .t 0 x.watch s_.badBus.length,1,2, .tg 2 [((bif (at' s_.badBus x.watch.toNat)then true else(at' r_.1 x.watch.toNat)),false)] x.close s_.closed.length,3, .tg 3 [(k89 s_ x r_)] x.close s_.badLink.length,4, .tg 4 [(k91 s_ x r_)] x.close s_.locked.length]<| .it (.r<| .im (.ac 25 0 0 27)<| .en (s_,false) [] [(27,7),(25,8)])
  (.rg {fr:=[(1,28)]} []<| .cl 2 ⟨fun{u0} hr_1=>((Fn.Bv (args:=[(sD (aS none 1 ai s_.closed))]) (frz:=[0]) (p:=[s_.closed.length=s_.closed.length]) (Fn.yL [(0,29)] (aM s_.closed hr_1) (by kernel_rfl) (by kernel_rfl) (by kernel_rfl) (by kernel_rfl)) (by kernel_rfl) ⟨rfl,trivial⟩ (by kernel_rfl) ⟨(fun _ _=>rfl),trivial⟩ (by kernel_rfl)):Fn Tryz.prog 149 [(.one (.own 0 false s_.closed.length))] [(Vw s_)] (vO 29 false u0.length) [(Vw s_),(29,some (bJ 4 1 ai u0))])⟩ fun u0=> .r<| .a1 ((0:Int)≤x.close∧x.close<(u0.length:Int))<| .rg {an:=[(5, .arr 0 (aA ai (J8 x u0)))]} [0, .t 0 x.close u0.length, .pf ⟨aI u0.length 1 (oN (aA ai u0) x.close.toNat 0 [(.bool true)]) (aA ai (J8 x u0)),gI _ _ _ _ _ _ _ _ rfl (fun j hj=>(match j,hj with|0,_=>rfl))⟩]<| .im (.ll 29 u0 (J8 x u0))<| .r<| .it (.a2 ((0:Int)≤x.open_∧x.open_<(s_.badLink.length:Int)) ((gB [((at' s_.badLink x.open_.toNat),false)]=true→(0:Int)≤x.open_∧x.open_<(s_.locked.length:Int)))<| .rg {} [0, .t 0 x.open_ s_.badLink.length,1, .tg 1 [((at' s_.badLink x.open_.toNat),false)] x.open_ s_.locked.length]<| .it (.r<| .im (.ac 25 0 0 30)<| .en (s_,false) [] [(30,7),(25,8)])
  (.a1 ((0:Int)≤x.open_∧x.open_<((J8 x u0).length:Int))<| .rg {an:=[(5, .arr 0 (aA ai (Qe x u0)))],fz:=[24]} [0, .t 0 x.open_ ((J8 x u0).length), .pf ⟨aI (J8 x u0).length 1 (oN (aA ai (J8 x u0)) x.open_.toNat 0 [(.bool false)]) (aA ai (Qe x u0)),gI _ _ _ _ _ _ _ _ rfl (fun j hj=>(match j,hj with|0,_=>rfl))⟩]<| .im (.ll 29 (J8 x u0) (Qe x u0))<| .cl 2 ⟨fun{u3} hr_2=>((Fn.Bv (args:=(k94 p s_ x u0)) (frz:=[29,1,2,3,4,5,6]) (p:=[(Qe x u0).length=(Qe x u0).length,s_.locked.length=s_.locked.length,s_.badLink.length=s_.badLink.length,s_.on_.length=s_.on_.length,s_.badSource.length=s_.badSource.length,s_.earthed.length=s_.earthed.length,s_.badBus.length=s_.badBus.length]) (Fn.yL [(0,31)] (qz p (k95 s_ x u0) hr_2) (by kernel_rfl) (by kernel_rfl) (by kernel_rfl) (by kernel_rfl)) (by kernel_rfl) ⟨rfl,rfl,rfl,rfl,rfl,rfl,rfl,trivial⟩ (by kernel_rfl) ⟨(fun _ _=>rfl),trivial⟩ (by kernel_rfl)):Fn Tryz.prog 126 (k96 p s_ x u0) (k97 s_ x u0) (.eT [(.one (.own 31 false u3.1.length)),(sI u3.2)]) [(k98 x u0),(JR s_),(Lu s_),(KI s_),(KO s_),(Kh s_),(Kg s_),(31,some (bJ 4 1 ai u3.1))])⟩ fun u3=> .rg {fz:=[31]} []<| .r<| .lp (σ:=Int) (β:=Unit) (0) [] [] ⟨[3,4,5,6,8,10,11,102],[0,1,2,3,4,5,6,23,25,28,29],fun u1=>[(103,(vI u1))],fun u1=>[]⟩ ⟨[3,4,5,6,10,11],[0,1,2,3,4,5,6,23,25,28,29],fun _=>[],fun _=>[]⟩
  (fun u1=> .r<| .it (.r<| .a5 ((0:Int)≤u1∧u1<(r_.1.length:Int)) ((gB [((at' r_.1 u1.toNat),true)]=true→(0:Int)≤u1∧u1<(u3.1.length:Int))) (k99 r_ u1 u3) (XT s_ r_ u1 u3) (Ye s_ r_ u1 u3)<| .rg {} [0,1,2,3, .tg 3 [((at' u3.1 u1.toNat),true),(Qr r_ u1 u3)] u1 s_.earthed.length,4]<| .it (.r<| .im (.ac 25 0 0 32)<| .en (.done (.ret (s_,false))) [] [(32,7),(25,8)])
  (.r<| .e (.next (k8 u1))))
  (.e (.done (.brk ()))))
  (fun _=> .cl 2 ⟨fun{u5} hr_3=>((Fn.Bv (args:=(k17 s_ p)) (frz:=[0,1,2,3,4,5,6]) (p:=[s_.closed.length=s_.closed.length,s_.locked.length=s_.locked.length,s_.badLink.length=s_.badLink.length,s_.on_.length=s_.on_.length,s_.badSource.length=s_.badSource.length,s_.earthed.length=s_.earthed.length,s_.badBus.length=s_.badBus.length]) (Fn.yL [(0,33)] (kF p s_ hr_3) (by kernel_rfl) (by kernel_rfl) (by kernel_rfl) (by kernel_rfl)) (by kernel_rfl) ⟨rfl,rfl,rfl,rfl,rfl,rfl,rfl,trivial⟩ (by kernel_rfl) ⟨(fun _ j=>match j with|0=>rfl|1=>rfl|_+2=>rfl),trivial⟩ (by kernel_rfl)):Fn Tryz.prog 135 (k88 p s_) (Yk s_) (.eT [(.one (.own 33 false u5.1.length)),(sI u5.2)]) [(Vw s_),(JR s_),(Lu s_),(KI s_),(KO s_),(Kh s_),(Kg s_),(33,some (bJ 145 2 ay.cell u5.1))])⟩ fun u5=> .rg {fr:=[(6,34)],fz:=[33]} []<| .fz [34]<| .cl 2 ⟨fun{u6} hr_4=>((Fn.Bv (args:=(k94 p s_ x u0)) (frz:=[29,1,2,3,4,5,6]) (p:=[(Qe x u0).length=(Qe x u0).length,s_.locked.length=s_.locked.length,s_.badLink.length=s_.badLink.length,s_.on_.length=s_.on_.length,s_.badSource.length=s_.badSource.length,s_.earthed.length=s_.earthed.length,s_.badBus.length=s_.badBus.length]) (Fn.yL [(0,35)] (kF p (k95 s_ x u0) hr_4) (by kernel_rfl) (by kernel_rfl) (by kernel_rfl) (by kernel_rfl)) (by kernel_rfl) ⟨rfl,rfl,rfl,rfl,rfl,rfl,rfl,trivial⟩ (by kernel_rfl) ⟨(fun _ j=>match j with|0=>rfl|1=>rfl|_+2=>rfl),trivial⟩ (by kernel_rfl)):Fn Tryz.prog 135 (k96 p s_ x u0) (k97 s_ x u0) (.eT [(.one (.own 35 false u6.1.length)),(sI u6.2)]) [(k98 x u0),(JR s_),(Lu s_),(KI s_),(KO s_),(Kh s_),(Kg s_),(35,some (bJ 145 2 ay.cell u6.1))])⟩ fun u6=> .rg {fz:=[35]} []<| .cg 9 [((!(at' u3.1 x.watch.toNat)),false)] (lG u6.1 u5.1) fun u9=> .a1 ((0:Int)≤x.watch∧x.watch<(u3.1.length:Int))<| .rg {} [0,1]<| .it (.r<| .im (.ac 25 0 0 36)<| .en (s_,false) [] [(36,7),(25,8)])
  (.r<| .en ((k95 s_ x u0),true) [] [(29,7),(25,8)]))))
  (.cl 2 ⟨fun{u4} hr_6=>((Fn.Bv (args:=(Yw p s_ x u0)) (frz:=[29,1,2,3,4,5,6]) (p:=[(J8 x u0).length=(J8 x u0).length,s_.locked.length=s_.locked.length,s_.badLink.length=s_.badLink.length,s_.on_.length=s_.on_.length,s_.badSource.length=s_.badSource.length,s_.earthed.length=s_.earthed.length,s_.badBus.length=s_.badBus.length]) (Fn.yL [(0,37)] (qz p (Xb s_ x u0) hr_6) (by kernel_rfl) (by kernel_rfl) (by kernel_rfl) (by kernel_rfl)) (by kernel_rfl) ⟨rfl,rfl,rfl,rfl,rfl,rfl,rfl,trivial⟩ (by kernel_rfl) ⟨(fun _ _=>rfl),trivial⟩ (by kernel_rfl)):Fn Tryz.prog 126 (X3 p s_ x u0) (Zj s_ x u0) (.eT [(.one (.own 37 false u4.1.length)),(sI u4.2)]) [(WH x u0),(JR s_),(Lu s_),(KI s_),(KO s_),(Kh s_),(Kg s_),(37,some (bJ 4 1 ai u4.1))])⟩ fun u4=> .rg {fz:=[24,37]} []<| .r<| .lp (σ:=Int) (β:=Unit) (0) [] [] ⟨[3,4,5,6,8,10,11,102],[0,1,2,3,4,5,6,23,25,28,29],fun u2=>[(103,(vI u2))],fun u2=>[]⟩ ⟨[3,4,5,6,10,11],[0,1,2,3,4,5,6,23,25,28,29],fun _=>[],fun _=>[]⟩
  (fun u2=> .r<| .it (.r<| .a5 ((0:Int)≤u2∧u2<(r_.1.length:Int)) ((gB [((at' r_.1 u2.toNat),true)]=true→(0:Int)≤u2∧u2<(u4.1.length:Int))) (k99 r_ u2 u4) (XT s_ r_ u2 u4) (Ye s_ r_ u2 u4)<| .rg {} [0,1,2,3, .tg 3 [((at' u4.1 u2.toNat),true),(Qr r_ u2 u4)] u2 s_.earthed.length,4]<| .it (.r<| .im (.ac 25 0 0 38)<| .en (.done (.ret (s_,false))) [] [(38,7),(25,8)])
  (.r<| .e (.next (k8 u2))))
  (.e (.done (.brk ()))))
  (fun _=> .cl 2 ⟨fun{u7} hr_7=>((Fn.Bv (args:=(k17 s_ p)) (frz:=[0,1,2,3,4,5,6]) (p:=[s_.closed.length=s_.closed.length,s_.locked.length=s_.locked.length,s_.badLink.length=s_.badLink.length,s_.on_.length=s_.on_.length,s_.badSource.length=s_.badSource.length,s_.earthed.length=s_.earthed.length,s_.badBus.length=s_.badBus.length]) (Fn.yL [(0,39)] (kF p s_ hr_7) (by kernel_rfl) (by kernel_rfl) (by kernel_rfl) (by kernel_rfl)) (by kernel_rfl) ⟨rfl,rfl,rfl,rfl,rfl,rfl,rfl,trivial⟩ (by kernel_rfl) ⟨(fun _ j=>match j with|0=>rfl|1=>rfl|_+2=>rfl),trivial⟩ (by kernel_rfl)):Fn Tryz.prog 135 (k88 p s_) (Yk s_) (.eT [(.one (.own 39 false u7.1.length)),(sI u7.2)]) [(Vw s_),(JR s_),(Lu s_),(KI s_),(KO s_),(Kh s_),(Kg s_),(39,some (bJ 145 2 ay.cell u7.1))])⟩ fun u7=> .rg {fr:=[(6,40)],fz:=[39]} []<| .fz [40]<| .cl 2 ⟨fun{u8} hr_8=>((Fn.Bv (args:=(Yw p s_ x u0)) (frz:=[29,1,2,3,4,5,6]) (p:=[(J8 x u0).length=(J8 x u0).length,s_.locked.length=s_.locked.length,s_.badLink.length=s_.badLink.length,s_.on_.length=s_.on_.length,s_.badSource.length=s_.badSource.length,s_.earthed.length=s_.earthed.length,s_.badBus.length=s_.badBus.length]) (Fn.yL [(0,41)] (kF p (Xb s_ x u0) hr_8) (by kernel_rfl) (by kernel_rfl) (by kernel_rfl) (by kernel_rfl)) (by kernel_rfl) ⟨rfl,rfl,rfl,rfl,rfl,rfl,rfl,trivial⟩ (by kernel_rfl) ⟨(fun _ j=>match j with|0=>rfl|1=>rfl|_+2=>rfl),trivial⟩ (by kernel_rfl)):Fn Tryz.prog 135 (X3 p s_ x u0) (Zj s_ x u0) (.eT [(.one (.own 41 false u8.1.length)),(sI u8.2)]) [(WH x u0),(JR s_),(Lu s_),(KI s_),(KO s_),(Kh s_),(Kg s_),(41,some (bJ 145 2 ay.cell u8.1))])⟩ fun u8=> .rg {fz:=[41]} []<| .cg 9 [((!(at' u4.1 x.watch.toNat)),false)] (lG u8.1 u7.1) fun v0=> .a1 ((0:Int)≤x.watch∧x.watch<(u4.1.length:Int))<| .rg {} [0,1]<| .it (.r<| .im (.ac 25 0 0 42)<| .en (s_,false) [] [(42,7),(25,8)])
  (.r<| .en ((Xb s_ x u0),true) [] [(29,7),(25,8)])))))
section
variable (u7:(List Bool)) (u1:(List Bool)) (u2:(List Bool)) (u3:(List Bool)) (u4:(List Bool)) (u5:(List Bool)) (u6:(List Bool)) (o_:(List Int)) (u0:Int)
abbrev YA:List CV:=[(.own 1 false u7.length),(.own 2 false u1.length),(.own 3 false u2.length),(.own 4 false u3.length),(.own 5 false u4.length),(.own 6 false u5.length),(.own 7 false u6.length)]
abbrev zK:Ob:=(bJ 3 1 (aF .i64) o_)
abbrev Zu:Ob:=(.cells 29 (YA u7 u1 u2 u3 u4 u5 u6))
abbrev MV:=(aA (aF .i64) (o_++[u0]))
abbrev WI:=(oW (aA (aF .i64) o_) o_.length (aA (aF .i64) [u0]))
end
theorem wZ (u0:Int) (u7:(List Bool)) (u1:(List Bool)) (u2:(List Bool)) (u3:(List Bool)) (u4:(List Bool)) (u5:(List Bool)) (u6:(List Bool)) (u8:State) (o_:(List Int)):PG Tryz.prog 0 [(sI u0),(.agg (YA u7 u1 u2 u3 u4 u5 u6))] [(0,some (.loop jg 0 [(10,(vP 8 0)),(11,(vP 9 0))])),(1,some (bJ 4 1 ai u7)),(2,some (bJ 4 1 ai u1)),(3,some (bJ 4 1 ai u2)),(4,some (bJ 4 1 ai u3)),(5,some (bJ 4 1 ai u4)),(6,some (bJ 4 1 ai u5)),(7,some (bJ 4 1 ai u6)),(8,some (.cells 29 [(.own 10 false u8.closed.length),(.own 2 false u1.length),(.own 3 false u2.length),(.own 4 false u3.length),(.own 5 false u4.length),(.own 6 false u5.length),(.own 7 false u6.length)])),(9,some (.cells 39 [(.own 11 false o_.length)])),(10,some (bJ 4 1 ai u8.closed)),(11,some (zK o_))] (fun _=>vB true) (fun r=>[(0,some (.loop jg 0 [(10,(vP 8 0)),(11,(vP 9 0))])),(1,some (bJ 4 1 ai u7)),(2,some (bJ 4 1 ai u1)),(3,some (bJ 4 1 ai u2)),(4,some (bJ 4 1 ai u3)),(5,some (bJ 4 1 ai u4)),(6,some (bJ 4 1 ai u5)),(7,some (bJ 4 1 ai u6)),(8,some (Zu u7 u1 u2 u3 u4 u5 u6)),(9,some (.cells 39 [(.own 12 false r.2.length)])),(10,some (bJ 4 1 ai u8.closed)),(11,none),(12,some (bJ 3 1 (aF .i64) r.2))]) (mI u0 u7 u1 u2 u3 u4 u5 u6 u8 o_):=
  WE tT mX jg ⟨[10,11],[0,1,2,3,4,5,6,7,8,9,10,11],fun _=>[(12,(vI u0)),(13,(vP 15 0))],fun _=>[(15,some (Zu u7 u1 u2 u3 u4 u5 u6))]⟩ (.r<| .rg {fr:=[(0,15)]} []<| .e ())
  (.r<| .a2 ((o_.length+[u0].length)*8≤140737488355328) (o_.length+[u0].length≤4611686018427387904)<| .rg {an:=[(2, .arr [u0].length (aA (aF .i64) [u0])),(3, .arr (o_++[u0]).length (MV o_ u0))],fr:=[(2,16),(3,17)]} [.pf ⟨[u0].length=1,rfl⟩, .pf ⟨aI 1 1 (nN 1 [(.int .i64 u0)]) (aA (aF .i64) [u0]),(by intro i hi j hj;match i,j,hi,hj with|0,0,_,_=>rfl)⟩, .e (o_.length),0,1, .pf ⟨(o_++[u0]).length=o_.length+[u0].length,List.length_append⟩, .pf ⟨aI (o_.length+[u0].length) 1 (WI o_ u0) (MV o_ u0),dG _ _ _ _⟩]<| .en ((⟨u7,u1,u2,u3,u4,u5,u6⟩:State),(o_++[u0])) [] [(17,12)])
section
variable (u0:State) (x1:(List Transfer)) (o0:(List Bool)) (r_:(State × Bool)) (x2:Int) (u3:(List Source)) (u4:(List Link)) (u5:(List aN)) (u1:Int)
abbrev Zf:Ob:=(.cells 29 [(.own 4 false u0.closed.length),(.own 5 false u0.locked.length),(.own 6 false u0.badLink.length),(.own 7 false u0.on_.length),(.own 8 false u0.badSource.length),(.own 9 false u0.earthed.length),(.own 10 false u0.badBus.length)])
abbrev Qv:Nat × Option Ob:=(5,some (bJ 4 1 ai u0.locked))
abbrev RN:Nat × Option Ob:=(6,some (bJ 4 1 ai u0.badLink))
abbrev Qk:Nat × Option Ob:=(7,some (bJ 4 1 ai u0.on_))
abbrev RF:Nat × Option Ob:=(8,some (bJ 4 1 ai u0.badSource))
abbrev Ru:Nat × Option Ob:=(9,some (bJ 4 1 ai u0.earthed))
abbrev Ry:Nat × Option Ob:=(10,some (bJ 4 1 ai u0.badBus))
abbrev Rl:=(List.replicate ((x1.length:Int).toNat) (false:Bool))
abbrev XV:List CV:=[(.own 99 false o0.length),(.own 5 false u0.locked.length),(.own 6 false u0.badLink.length),(.own 7 false u0.on_.length),(.own 8 false u0.badSource.length),(.own 9 false u0.earthed.length),(.own 10 false u0.badBus.length)]
abbrev XB:Ob:=(.cells 29 (XV u0 o0))
abbrev XD:Nat × Option Ob:=(1,some (XB u0 o0))
abbrev X0:Nat × Option Ob:=(2,some (XB u0 o0))
abbrev TD:=(⟨o0,u0.locked,u0.badLink,u0.on_,u0.badSource,u0.earthed,u0.badBus⟩:State)
abbrev Yp:List CV:=[(.own 148 false r_.1.closed.length),(.own 5 false u0.locked.length),(.own 6 false u0.badLink.length),(.own 7 false u0.on_.length),(.own 8 false u0.badSource.length),(.own 9 false u0.earthed.length),(.own 10 false u0.badBus.length)]
abbrev OL:Ob:=(bJ 4 1 ai r_.1.closed)
abbrev NZ:List SV:=[(.agg [(cI x2),(.d (k3 u3)),(.d (aS none 6 Link.cell u4)),(.d (aS none 4 aN.cell u5))]),(.agg (XV u0 o0)),(.agg [(cI ((at' x1 u1.toNat).watch)),(cI ((at' x1 u1.toNat).open_)),(cI ((at' x1 u1.toNat).close))])]
abbrev Oq:List (Nat × Option Ob):=[(99,some (bJ 4 1 ai o0)),(Qv u0),(RN u0),(Qk u0),(RF u0),(Ru u0),(Ry u0)]
abbrev QM:List CV:=[(.own 7 false r_.1.closed.length),(.own 1 false u0.locked.length),(.own 2 false u0.badLink.length),(.own 3 false u0.on_.length),(.own 4 false u0.badSource.length),(.own 5 false u0.earthed.length),(.own 6 false u0.badBus.length)]
abbrev XH:TV:=(.eT [(.agg (QM u0 r_)),(sB r_.2)])
abbrev Yg:=(qh (swp [(0,99),(1,5),(2,6),(3,7),(4,8),(1,9),(2,10),(3,148),(4,149)]) [(0,some (bJ 4 1 ai o0)),(JR u0),(Lu u0),(KI u0),(KO u0),(Kh u0),(Kg u0),(7,bif r_.2 then some (OL r_)else none),(8,none)])
end
theorem zQ (x1:(List Transfer)) (x2:Int) (u3:(List Source)) (u4:(List Link)) (u5:(List aN)) (u0:State) (u9:State) (o_:(List Int)):dJ Tryz.prog 224 [(.one (.yl 0)),(sD (zq [(k27 x1)] 0)),(sD (k2 u3 x2 u4 u5)),(.one (.ptr 1 0))] [(0,some (.loop jg 0 [(10,(vP 2 0)),(11,(vP 3 0))])),(1,some (Zf u0)),(2,some (Zf u0)),(3,some (.cells 39 [(.own 11 false o_.length)])),(4,some (bJ 4 1 ai u0.closed)),(Qv u0),(RN u0),(Qk u0),(RF u0),(Ru u0),(Ry u0),(11,some (zK o_))] (fun r=>(.eT [])) (fun r=>[(0,some (.loop jg 0 [(10,(vP 2 0)),(11,(vP 3 0))])),(1,some (.cells 29 [(.own 12 false r.1.closed.length),(.own 5 false u0.locked.length),(.own 6 false u0.badLink.length),(.own 7 false u0.on_.length),(.own 8 false u0.badSource.length),(.own 9 false u0.earthed.length),(.own 10 false u0.badBus.length)])),(2,some (.cells 29 [(.own 12 false r.1.closed.length),(.own 5 false u0.locked.length),(.own 6 false u0.badLink.length),(.own 7 false u0.on_.length),(.own 8 false u0.badSource.length),(.own 9 false u0.earthed.length),(.own 10 false u0.badBus.length)])),(3,some (.cells 39 [(.own 13 false r.2.2.length)])),(4,none),(Qv u0),(RN u0),(Qk u0),(RF u0),(Ru u0),(Ry u0),(11,none),(12,some (bJ 4 1 ai r.1.closed)),(13,some (bJ 3 1 (aF .i64) r.2.2))]) (pO x1 x2 u3 u4 u5 u0 u9 o_):=
  dY tT mX Tryz.func224 (
  .sp (σ:=((List Bool) × (List Int) × (List Bool))) (β:=((List Bool) × (List Int))) (u0.closed,o_,(Rl x1)) ⟨[0,1,2,3],[0,5,6,7,8,9,10],fun(o0,u7,u2)=>[(5,(vO 82 true u2.length))],fun(o0,u7,u2)=>[(XD u0 o0),(X0 u0 o0),(3,some (.cells 39 [(.own 100 false u7.length)])),(4,none),(11,none),(82,some (bJ 4 1 ai u2)),(99,some (bJ 4 1 ai o0)),(100,some (zK u7))]⟩ ⟨[],[0,5,6,7,8,9,10],fun(u6,u8)=>[],fun(u6,u8)=>[(XD u0 u6),(X0 u0 u6),(3,some (.cells 39 [(.own 100 false u8.length)])),(4,none),(11,none),(99,some (bJ 4 1 ai u6)),(100,some (zK u8))]⟩ (.a3 ((0:Int)≤(x1.length:Int)) ((1:Int)*(x1.length:Int)≤281474976710656) (((x1.length:Int):Int)≤9223372036854775807)<| .rg {an:=[(2, .arr (Rl x1).length (aA ai (Rl x1)))],fr:=[(2,151)]} [0, .e (((x1.length:Int):Int)),1,2, .pf ⟨(Rl x1).length=((x1.length:Int).toNat),List.length_replicate⟩, .pf ⟨aI ((x1.length:Int).toNat) 1 (fun _ j=>[(.bool false)].getD j .nilp) (aA ai (Rl x1)),oh _ _ _ _ _ (fun j hj=>(match j,hj with|0,_=>rfl))⟩]<| .im (.ra 4 152)<| .im (.re 3 0 11 153)<| .en () [] [(151,82),(152,99),(153,100)])
  (fun(o0,u7,u2)=> .r<| .lp (σ:=Int) (β:=Unit) (0) [] [] ⟨[0,1,2,3,5,13,14],[0,1,2,3,4,5,6,7,8,9,10,11,82,99,100],fun u1=>[(15,(vI u1))],fun u1=>[]⟩ ⟨[],[0,1,2,3,4,5,6,7,8,9,10,11,99,100],fun _=>[],fun _=>[]⟩
  (fun u1=> .r<| .it (.a1 ((0:Int)≤u1∧u1<(x1.length:Int))<| .rg {fr:=[(3,147)],fz:=[147]} []<| .a1 ((0:Int)≤u1∧u1<(u2.length:Int))<| .rg {} [0, .t 0 u1 u2.length]<| .it (.r<| .e (.next (k8 u1)))
  (.cl 3 (lK [(0,99),(1,5),(2,6),(3,7),(4,8),(1,9),(2,10),(3,148),(4,149)] (Dn (⟨x2,u3,u4,u5⟩:aD) (TD u0 o0) (at' x1 u1.toNat))) fun r_=> .fk r_.2 (.rg {an:=[(3, .call [99,5,6,7,8,9,10] (.eT [(.agg (Yp u0 r_)),(sB true)]) [(99,some (bJ 4 1 ai o0)),(Qv u0),(RN u0),(Qk u0),(RF u0),(Ru u0),(Ry u0),(148,some (OL r_)),(149,none)])],fr:=[(7,150)]} [.m [1,0] [Fn Tryz.prog 225 (NZ u0 x1 o0 x2 u3 u4 u5 u1) (Oq u0 o0) (TV.ren (swp [(0,99),(1,5),(2,6),(3,7),(4,8),(1,9),(2,10),(3,148),(4,149)]) (XH u0 r_)) (Yg u0 o0 r_),r_.2=true] (Fn Tryz.prog 225 (NZ u0 x1 o0 x2 u3 u4 u5 u1) (Oq u0 o0) (TV.ren (swp [(0,99),(1,5),(2,6),(3,7),(4,8),(1,9),(2,10),(3,148),(4,149)]) (.eT [(.agg (QM u0 r_)),(sB true)])) (qh (swp [(0,99),(1,5),(2,6),(3,7),(4,8),(1,9),(2,10),(3,148),(4,149)]) [(0,some (bJ 4 1 ai o0)),(JR u0),(Lu u0),(KI u0),(KO u0),(Kh u0),(Kg u0),(7,bif true then some (OL r_)else none),(8,none)])) (fun⟨hy,hb2,_⟩=>(congrArg (fun bq=>Fn Tryz.prog 225 (NZ u0 x1 o0 x2 u3 u4 u5 u1) (Oq u0 o0) (TV.ren (swp [(0,99),(1,5),(2,6),(3,7),(4,8),(1,9),(2,10),(3,148),(4,149)]) (.eT [(.agg (QM u0 r_)),(sB bq)])) (qh (swp [(0,99),(1,5),(2,6),(3,7),(4,8),(1,9),(2,10),(3,148),(4,149)]) [(0,some (bJ 4 1 ai o0)),(JR u0),(Lu u0),(KI u0),(KO u0),(Kh u0),(Kg u0),(7,bif bq then some (OL r_)else none),(8,none)])) hb2).mp hy)]<| .r<| .t<| .a1 ((0:Int)≤u1∧u1<(u2.length:Int))<| .rg {an:=[(5, .arr 0 (aA ai (u2.set u1.toNat true)))]} [0, .t 0 u1 u2.length, .pf ⟨aI u2.length 1 (oN (aA ai u2) u1.toNat 0 [(.bool true)]) (aA ai (u2.set u1.toNat true)),gI _ _ _ _ _ _ _ _ rfl (fun j hj=>(match j,hj with|0,_=>rfl))⟩]<| .im (.ll 82 u2 (u2.set u1.toNat true))<| .cy 3 (Z9 [(1,148),(2,5),(3,6),(4,7),(2,8),(3,9),(4,10),(4,99),(11,100),(12,151)] (wZ u1 r_.1.closed u0.locked u0.badLink u0.on_ u0.badSource u0.earthed u0.badBus (TD u0 o0) u7)) fun v0=> .r<| .f<| .en (.done (.ret (.next (r_.1.closed,v0.2,(u2.set u1.toNat true))))) [] [(148,99),(151,100)])
  (.rg {an:=[(3, .call [99,5,6,7,8,9,10] (.eT [(.agg (Yp u0 r_)),(sB false)]) [(99,some (bJ 4 1 ai o0)),(Qv u0),(RN u0),(Qk u0),(RF u0),(Ru u0),(Ry u0),(148,none),(149,none)])],fr:=[(7,150)]} [.m [1,0] [Fn Tryz.prog 225 (NZ u0 x1 o0 x2 u3 u4 u5 u1) (Oq u0 o0) (TV.ren (swp [(0,99),(1,5),(2,6),(3,7),(4,8),(1,9),(2,10),(3,148),(4,149)]) (XH u0 r_)) (Yg u0 o0 r_),r_.2=false] (Fn Tryz.prog 225 (NZ u0 x1 o0 x2 u3 u4 u5 u1) (Oq u0 o0) (TV.ren (swp [(0,99),(1,5),(2,6),(3,7),(4,8),(1,9),(2,10),(3,148),(4,149)]) (.eT [(.agg (QM u0 r_)),(sB false)])) (qh (swp [(0,99),(1,5),(2,6),(3,7),(4,8),(1,9),(2,10),(3,148),(4,149)]) [(0,some (bJ 4 1 ai o0)),(JR u0),(Lu u0),(KI u0),(KO u0),(Kh u0),(Kg u0),(7,bif false then some (OL r_)else none),(8,none)])) (fun⟨hy,hb2,_⟩=>(congrArg (fun bq=>Fn Tryz.prog 225 (NZ u0 x1 o0 x2 u3 u4 u5 u1) (Oq u0 o0) (TV.ren (swp [(0,99),(1,5),(2,6),(3,7),(4,8),(1,9),(2,10),(3,148),(4,149)]) (.eT [(.agg (QM u0 r_)),(sB bq)])) (qh (swp [(0,99),(1,5),(2,6),(3,7),(4,8),(1,9),(2,10),(3,148),(4,149)]) [(0,some (bJ 4 1 ai o0)),(JR u0),(Lu u0),(KI u0),(KO u0),(Kh u0),(Kg u0),(7,bif bq then some (OL r_)else none),(8,none)])) hb2).mp hy)]<| .r<| .f<| .r<| .e (.next (k8 u1)))))
  (.e (.done (.brk ()))))
  (fun _=> .e (.done (.brk (o0,u7)))))
  (fun(u6,u8)=> .en ((TD u0 u6),(TD u0 u6),u8) [] [(99,12),(100,13)]))
section
variable (s_:(List Part)) (t8:Int)
abbrev Gw:DV:=(aS none 2 Part.cell s_)
abbrev Mg:=((0:Int)≤t8∧t8<(s_.length:Int))
end
theorem zk (s_:(List Part)) (v_:Part):dJ Tryz.prog 226 [(sD (Gw s_)),(.agg [(cI v_.kind),(cI v_.index)])] [] (fun r=>(vI r)) (fun _=>[]) (oU s_ v_):=
  dY tT mX Tryz.func226 (
  .rg {fr:=[(0,1)],fz:=[1]} []<| .r<| .lp (σ:=Int) (β:=Unit) (0) [] [] ⟨[0,3,7],[],fun t8=>[(8,(vI t8))],fun t8=>[]⟩ ⟨[],[],fun _=>[],fun _=>[]⟩
  (fun t8=> .r<| .it (.r<| .a1 (Mg s_ t8)<| .r<| .it (.r<| .e (.done (.ret t8)))
  (.r<| .e (.next (k8 t8))))
  (.e (.done (.brk ()))))
  (fun _=> .r<| .e (-1)))
theorem og (s_:(List Part)) (v_:Part):dJ Tryz.prog 157 [(sD (Gw s_)),(.agg [(cI v_.kind),(cI v_.index)])] [] (fun r=>(vB r)) (fun _=>[]) (fQ s_ v_):=
  dY tT mX Tryz.func157 (
  .rg {fr:=[(0,1)],fz:=[1]} []<| .cl 2 (zk s_ v_) fun r_=> .r<| .e (decide (0≤r_)))
theorem Cu (kz:Int) (x1:Int):dJ Tryz.prog 158 [(sI kz),(sD (zq [(.int .i64 x1)] 0))] [] (fun r=>(vB r)) (fun _=>[]) (tq kz x1):=
  dY tT mX Tryz.func158 (
  .r<| .r<| .e (bif (decide (kz<0))then true else(decide (x1≤kz))))
section
variable (s_:(List Int)) (t8:Int)
abbrev BI:DV:=(aS none 1 (aF .i64) s_)
abbrev Av:=((0:Int)≤t8∧t8<(s_.length:Int))
end
theorem uD (s_:(List Int)) (f_:Int):dJ Tryz.prog 205 [(sD (BI s_)),(sD (.fn 158 1 (qA [(zq [(.int .i64 f_)] 0)])))] [] (fun r=>(vI r)) (fun _=>[]) (kZ s_ f_):=
  dY tT mX Tryz.func205 (
  .r<| .r<| .lp (σ:=Int) (β:=Unit) (0) [] [] ⟨[0,1,7],[],fun t8=>[(8,(vI t8))],fun t8=>[]⟩ ⟨[],[],fun _=>[],fun _=>[]⟩
  (fun t8=> .r<| .it (.r<| .cl 5 (Cu (at' s_ t8.toNat) f_) fun r_=> .a1 (Av s_ t8)<| .rg {} [0,1]<| .it (.r<| .e (.done (.ret t8)))
  (.r<| .e (.next (k8 t8))))
  (.e (.done (.brk ()))))
  (fun _=> .r<| .e (-1)))
theorem ru (s_:(List Int)) (f_:Int):dJ Tryz.prog 129 [(sD (BI s_)),(sD (.fn 158 1 (qA [(zq [(.int .i64 f_)] 0)])))] [] (fun r=>(vB r)) (fun _=>[]) (fP s_ f_):=
  dY tT mX Tryz.func129 (
  .r<| .cl 2 (uD s_ f_) fun r_=> .r<| .e (decide (0≤r_)))
end
end Sg
