import Derived.Test.YtfndnfioogkdaaaGreatSvGm
import Derived.Test.YtfndnfioogkdaaaGreatProg
import Derived.Test.YtfndnfioogkdaaaGreatSvLf
import Derived.Test.YtfndnfioogkdaaaGreatSvLe
set_option linter.all false
namespace Sg
open Go Go.Proofs
set_option maxRecDepth 20000
noncomputable section
noncomputable def TT:List (Nat × TI):=[(3,⟨Tryz.t3.desc,Tryz.t3.size,Tryz.t3.bytes,zl Tryz.t3,false⟩),
  (4,⟨Tryz.t4.desc,Tryz.t4.size,Tryz.t4.bytes,zl Tryz.t4,false⟩),
  (22,⟨Tryz.t22.desc,Tryz.t22.size,Tryz.t22.bytes,zl Tryz.t22,false⟩),
  (23,⟨Tryz.t23.desc,Tryz.t23.size,Tryz.t23.bytes,zl Tryz.t23,false⟩),
  (24,⟨Tryz.t24.desc,Tryz.t24.size,Tryz.t24.bytes,zl Tryz.t24,false⟩),
  (26,⟨Tryz.t25.desc,Tryz.t26.size,Tryz.t26.bytes,zl Tryz.t26,false⟩),
  (27,⟨Tryz.t27.desc,Tryz.t27.size,Tryz.t27.bytes,zl Tryz.t27,false⟩),
  (29,⟨Tryz.t28.desc,Tryz.t29.size,Tryz.t29.bytes,zl Tryz.t29,false⟩),
  (31,⟨Tryz.t3.desc,Tryz.t31.size,Tryz.t31.bytes,zl Tryz.t31,false⟩),
  (35,⟨Tryz.t35.desc,Tryz.t35.size,Tryz.t35.bytes,zl Tryz.t35,false⟩),
  (41,⟨Tryz.t41.desc,Tryz.t41.size,Tryz.t41.bytes,zl Tryz.t41,true⟩),
  (43,⟨Tryz.t42.desc,Tryz.t43.size,Tryz.t43.bytes,zl Tryz.t43,true⟩),
  (44,⟨Tryz.t44.desc,Tryz.t44.size,Tryz.t44.bytes,zl Tryz.t44,false⟩),
  (45,⟨Tryz.t45.desc,Tryz.t45.size,Tryz.t45.bytes,zl Tryz.t45,false⟩),
  (47,⟨Tryz.t46.desc,Tryz.t47.size,Tryz.t47.bytes,zl Tryz.t47,false⟩),
  (50,⟨Tryz.t50.desc,Tryz.t50.size,Tryz.t50.bytes,zl Tryz.t50,true⟩),
  (57,⟨Tryz.t57.desc,Tryz.t57.size,Tryz.t57.bytes,zl Tryz.t57,false⟩),
  (60,⟨Tryz.t3.desc,Tryz.t60.size,Tryz.t60.bytes,zl Tryz.t60,false⟩),
  (62,⟨Tryz.t61.desc,Tryz.t62.size,Tryz.t62.bytes,zl Tryz.t62,true⟩),
  (65,⟨Tryz.t65.desc,Tryz.t65.size,Tryz.t65.bytes,zl Tryz.t65,false⟩),
  (66,⟨Tryz.t66.desc,Tryz.t66.size,Tryz.t66.bytes,zl Tryz.t66,false⟩),
  (67,⟨Tryz.t3.desc,Tryz.t67.size,Tryz.t67.bytes,zl Tryz.t67,false⟩),
  (68,⟨Tryz.t68.desc,Tryz.t68.size,Tryz.t68.bytes,zl Tryz.t68,false⟩),
  (70,⟨Tryz.t69.desc,Tryz.t70.size,Tryz.t70.bytes,zl Tryz.t70,false⟩),
  (75,⟨Tryz.t75.desc,Tryz.t75.size,Tryz.t75.bytes,zl Tryz.t75,false⟩),
  (77,⟨Tryz.t76.desc,Tryz.t77.size,Tryz.t77.bytes,zl Tryz.t77,false⟩),
  (78,⟨Tryz.t3.desc,Tryz.t78.size,Tryz.t78.bytes,zl Tryz.t78,false⟩),
  (80,⟨Tryz.t79.desc,Tryz.t80.size,Tryz.t80.bytes,zl Tryz.t80,true⟩),
  (83,⟨Tryz.t83.desc,Tryz.t83.size,Tryz.t83.bytes,zl Tryz.t83,false⟩),
  (89,⟨Tryz.t89.desc,Tryz.t89.size,Tryz.t89.bytes,zl Tryz.t89,false⟩),
  (90,⟨Tryz.t90.desc,Tryz.t90.size,Tryz.t90.bytes,zl Tryz.t90,false⟩),
  (91,⟨Tryz.t91.desc,Tryz.t91.size,Tryz.t91.bytes,zl Tryz.t91,false⟩),
  (93,⟨Tryz.t92.desc,Tryz.t93.size,Tryz.t93.bytes,zl Tryz.t93,false⟩),
  (94,⟨Tryz.t94.desc,Tryz.t94.size,Tryz.t94.bytes,zl Tryz.t94,false⟩),
  (95,⟨Tryz.t95.desc,Tryz.t95.size,Tryz.t95.bytes,zl Tryz.t95,false⟩),
  (96,⟨Tryz.t3.desc,Tryz.t96.size,Tryz.t96.bytes,zl Tryz.t96,false⟩),
  (98,⟨Tryz.t97.desc,Tryz.t98.size,Tryz.t98.bytes,zl Tryz.t98,true⟩),
  (103,⟨Tryz.t102.desc,Tryz.t103.size,Tryz.t103.bytes,zl Tryz.t103,true⟩),
  (107,⟨Tryz.t107.desc,Tryz.t107.size,Tryz.t107.bytes,zl Tryz.t107,false⟩),
  (109,⟨Tryz.t108.desc,Tryz.t109.size,Tryz.t109.bytes,zl Tryz.t109,false⟩),
  (114,⟨Tryz.t113.desc,Tryz.t114.size,Tryz.t114.bytes,zl Tryz.t114,true⟩),
  (126,⟨Tryz.t126.desc,Tryz.t126.size,Tryz.t126.bytes,zl Tryz.t126,false⟩),
  (129,⟨Tryz.t129.desc,Tryz.t129.size,Tryz.t129.bytes,zl Tryz.t129,false⟩),
  (132,⟨Tryz.t132.desc,Tryz.t132.size,Tryz.t132.bytes,zl Tryz.t132,false⟩),
  (137,⟨Tryz.t137.desc,Tryz.t137.size,Tryz.t137.bytes,zl Tryz.t137,false⟩),
  (140,⟨Tryz.t139.desc,Tryz.t140.size,Tryz.t140.bytes,zl Tryz.t140,false⟩),
  (141,⟨Tryz.t141.desc,Tryz.t141.size,Tryz.t141.bytes,zl Tryz.t141,false⟩),
  (147,⟨Tryz.t146.desc,Tryz.t147.size,Tryz.t147.bytes,zl Tryz.t147,false⟩),
  (151,⟨Tryz.t151.desc,Tryz.t151.size,Tryz.t151.bytes,zl Tryz.t151,false⟩),
  (153,⟨Tryz.t152.desc,Tryz.t153.size,Tryz.t153.bytes,zl Tryz.t153,false⟩),
  (163,⟨Tryz.t162.desc,Tryz.t163.size,Tryz.t163.bytes,zl Tryz.t163,true⟩),
  (167,⟨Tryz.t167.desc,Tryz.t167.size,Tryz.t167.bytes,zl Tryz.t167,false⟩),
  (168,⟨Tryz.t168.desc,Tryz.t168.size,Tryz.t168.bytes,zl Tryz.t168,false⟩),
  (172,⟨Tryz.t171.desc,Tryz.t172.size,Tryz.t172.bytes,zl Tryz.t172,false⟩),
  (179,⟨Tryz.t179.desc,Tryz.t179.size,Tryz.t179.bytes,zl Tryz.t179,false⟩),
  (180,⟨Tryz.t180.desc,Tryz.t180.size,Tryz.t180.bytes,zl Tryz.t180,false⟩),
  (182,⟨Tryz.t181.desc,Tryz.t182.size,Tryz.t182.bytes,zl Tryz.t182,false⟩),
  (185,⟨Tryz.t185.desc,Tryz.t185.size,Tryz.t185.bytes,zl Tryz.t185,false⟩),
  (186,⟨Tryz.t186.desc,Tryz.t186.size,Tryz.t186.bytes,zl Tryz.t186,false⟩),
  (192,⟨Tryz.t192.desc,Tryz.t192.size,Tryz.t192.bytes,zl Tryz.t192,false⟩),
  (193,⟨Tryz.t193.desc,Tryz.t193.size,Tryz.t193.bytes,zl Tryz.t193,false⟩),
  (205,⟨Tryz.t205.desc,Tryz.t205.size,Tryz.t205.bytes,zl Tryz.t205,false⟩),
  (207,⟨Tryz.t206.desc,Tryz.t207.size,Tryz.t207.bytes,zl Tryz.t207,false⟩),
  (208,⟨Tryz.t208.desc,Tryz.t208.size,Tryz.t208.bytes,zl Tryz.t208,false⟩),
  (213,⟨Tryz.t213.desc,Tryz.t213.size,Tryz.t213.bytes,zl Tryz.t213,false⟩),
  (218,⟨Tryz.t217.desc,Tryz.t218.size,Tryz.t218.bytes,zl Tryz.t218,false⟩),
  (225,⟨Tryz.t225.desc,Tryz.t225.size,Tryz.t225.bytes,zl Tryz.t225,false⟩),
  (227,⟨Tryz.t226.desc,Tryz.t227.size,Tryz.t227.bytes,zl Tryz.t227,false⟩),
  (228,⟨Tryz.t228.desc,Tryz.t228.size,Tryz.t228.bytes,zl Tryz.t228,false⟩),
  (233,⟨Tryz.t232.desc,Tryz.t233.size,Tryz.t233.bytes,zl Tryz.t233,false⟩),
  (234,⟨Tryz.t234.desc,Tryz.t234.size,Tryz.t234.bytes,zl Tryz.t234,false⟩),
  (245,⟨Tryz.t245.desc,Tryz.t245.size,Tryz.t245.bytes,zl Tryz.t245,true⟩)]
theorem tT:mH Tryz.prog TT:=⟨eB (by kernel_rfl) (by kernel_rfl) (by kernel_rfl),⟨fF,bV (by kernel_rfl)⟩,eB (by kernel_rfl) (by kernel_rfl) (by kernel_rfl),⟨fF,bV (by kernel_rfl)⟩,eB (by kernel_rfl) (by kernel_rfl) (by kernel_rfl),⟨fF,bV (by kernel_rfl)⟩,eB (by kernel_rfl) (by kernel_rfl) (by kernel_rfl),⟨fF,bV (by kernel_rfl)⟩,eB (by kernel_rfl) (by kernel_rfl) (by kernel_rfl),⟨fF,bV (by kernel_rfl)⟩,eB (by kernel_rfl) (by kernel_rfl) (by kernel_rfl),⟨fF,bV (by kernel_rfl)⟩,eB (by kernel_rfl) (by kernel_rfl) (by kernel_rfl),⟨fF,bV (by kernel_rfl)⟩,eB (by kernel_rfl) (by kernel_rfl) (by kernel_rfl),⟨fF,bV (by kernel_rfl)⟩,eB (by kernel_rfl) (by kernel_rfl) (by kernel_rfl),⟨fF,bV (by kernel_rfl)⟩,eB (by kernel_rfl) (by kernel_rfl) (by kernel_rfl),⟨fF,bV (by kernel_rfl)⟩,eB (by kernel_rfl) (by kernel_rfl) (by kernel_rfl),⟨fun _=> ⟨by kernel_rfl,by kernel_rfl⟩,bV (by kernel_rfl)⟩,eB (by kernel_rfl) (by kernel_rfl) (by kernel_rfl),⟨fun _=> ⟨by kernel_rfl,by kernel_rfl⟩,bV (by kernel_rfl)⟩,eB (by kernel_rfl) (by kernel_rfl) (by kernel_rfl),⟨fF,bV (by kernel_rfl)⟩,eB (by kernel_rfl) (by kernel_rfl) (by kernel_rfl),⟨fF,bV (by kernel_rfl)⟩,eB (by kernel_rfl) (by kernel_rfl) (by kernel_rfl),⟨fF,bV (by kernel_rfl)⟩,eB (by kernel_rfl) (by kernel_rfl) (by kernel_rfl),⟨fun _=> ⟨by kernel_rfl,by kernel_rfl⟩,bV (by kernel_rfl)⟩,eB (by kernel_rfl) (by kernel_rfl) (by kernel_rfl),⟨fF,bV (by kernel_rfl)⟩,eB (by kernel_rfl) (by kernel_rfl) (by kernel_rfl),⟨fF,bV (by kernel_rfl)⟩,eB (by kernel_rfl) (by kernel_rfl) (by kernel_rfl),⟨fun _=> ⟨by kernel_rfl,by kernel_rfl⟩,bV (by kernel_rfl)⟩,eB (by kernel_rfl) (by kernel_rfl) (by kernel_rfl),⟨fF,bV (by kernel_rfl)⟩,eB (by kernel_rfl) (by kernel_rfl) (by kernel_rfl),⟨fF,bV (by kernel_rfl)⟩,eB (by kernel_rfl) (by kernel_rfl) (by kernel_rfl),⟨fF,bV (by kernel_rfl)⟩,eB (by kernel_rfl) (by kernel_rfl) (by kernel_rfl),⟨fF,bV (by kernel_rfl)⟩,eB (by kernel_rfl) (by kernel_rfl) (by kernel_rfl),⟨fF,bV (by kernel_rfl)⟩,eB (by kernel_rfl) (by kernel_rfl) (by kernel_rfl),⟨fF,bV (by kernel_rfl)⟩,eB (by kernel_rfl) (by kernel_rfl) (by kernel_rfl),⟨fF,bV (by kernel_rfl)⟩,eB (by kernel_rfl) (by kernel_rfl) (by kernel_rfl),⟨fF,bV (by kernel_rfl)⟩,eB (by kernel_rfl) (by kernel_rfl) (by kernel_rfl),⟨fun _=> ⟨by kernel_rfl,by kernel_rfl⟩,bV (by kernel_rfl)⟩,eB (by kernel_rfl) (by kernel_rfl) (by kernel_rfl),⟨fF,bV (by kernel_rfl)⟩,eB (by kernel_rfl) (by kernel_rfl) (by kernel_rfl),⟨fF,bV (by kernel_rfl)⟩,eB (by kernel_rfl) (by kernel_rfl) (by kernel_rfl),⟨fF,bV (by kernel_rfl)⟩,eB (by kernel_rfl) (by kernel_rfl) (by kernel_rfl),⟨fF,bV (by kernel_rfl)⟩,eB (by kernel_rfl) (by kernel_rfl) (by kernel_rfl),⟨fF,bV (by kernel_rfl)⟩,eB (by kernel_rfl) (by kernel_rfl) (by kernel_rfl),⟨fF,bV (by kernel_rfl)⟩,eB (by kernel_rfl) (by kernel_rfl) (by kernel_rfl),⟨fF,bV (by kernel_rfl)⟩,eB (by kernel_rfl) (by kernel_rfl) (by kernel_rfl),⟨fF,bV (by kernel_rfl)⟩,eB (by kernel_rfl) (by kernel_rfl) (by kernel_rfl),⟨fun _=> ⟨by kernel_rfl,by kernel_rfl⟩,bV (by kernel_rfl)⟩,eB (by kernel_rfl) (by kernel_rfl) (by kernel_rfl),⟨fun _=> ⟨by kernel_rfl,by kernel_rfl⟩,bV (by kernel_rfl)⟩,eB (by kernel_rfl) (by kernel_rfl) (by kernel_rfl),⟨fF,bV (by kernel_rfl)⟩,eB (by kernel_rfl) (by kernel_rfl) (by kernel_rfl),⟨fF,bV (by kernel_rfl)⟩,eB (by kernel_rfl) (by kernel_rfl) (by kernel_rfl),⟨fun _=> ⟨by kernel_rfl,by kernel_rfl⟩,bV (by kernel_rfl)⟩,eB (by kernel_rfl) (by kernel_rfl) (by kernel_rfl),⟨fF,bV (by kernel_rfl)⟩,eB (by kernel_rfl) (by kernel_rfl) (by kernel_rfl),⟨fF,bV (by kernel_rfl)⟩,eB (by kernel_rfl) (by kernel_rfl) (by kernel_rfl),⟨fF,bV (by kernel_rfl)⟩,eB (by kernel_rfl) (by kernel_rfl) (by kernel_rfl),⟨fF,bV (by kernel_rfl)⟩,eB (by kernel_rfl) (by kernel_rfl) (by kernel_rfl),⟨fF,bV (by kernel_rfl)⟩,eB (by kernel_rfl) (by kernel_rfl) (by kernel_rfl),⟨fF,bV (by kernel_rfl)⟩,eB (by kernel_rfl) (by kernel_rfl) (by kernel_rfl),⟨fF,bV (by kernel_rfl)⟩,eB (by kernel_rfl) (by kernel_rfl) (by kernel_rfl),⟨fF,bV (by kernel_rfl)⟩,eB (by kernel_rfl) (by kernel_rfl) (by kernel_rfl),⟨fF,bV (by kernel_rfl)⟩,eB (by kernel_rfl) (by kernel_rfl) (by kernel_rfl),⟨fun _=> ⟨by kernel_rfl,by kernel_rfl⟩,bV (by kernel_rfl)⟩,eB (by kernel_rfl) (by kernel_rfl) (by kernel_rfl),⟨fF,bV (by kernel_rfl)⟩,eB (by kernel_rfl) (by kernel_rfl) (by kernel_rfl),⟨fF,bV (by kernel_rfl)⟩,eB (by kernel_rfl) (by kernel_rfl) (by kernel_rfl),⟨fF,bV (by kernel_rfl)⟩,eB (by kernel_rfl) (by kernel_rfl) (by kernel_rfl),⟨fF,bV (by kernel_rfl)⟩,eB (by kernel_rfl) (by kernel_rfl) (by kernel_rfl),⟨fF,bV (by kernel_rfl)⟩,eB (by kernel_rfl) (by kernel_rfl) (by kernel_rfl),⟨fF,bV (by kernel_rfl)⟩,eB (by kernel_rfl) (by kernel_rfl) (by kernel_rfl),⟨fF,bV (by kernel_rfl)⟩,eB (by kernel_rfl) (by kernel_rfl) (by kernel_rfl),⟨fF,bV (by kernel_rfl)⟩,eB (by kernel_rfl) (by kernel_rfl) (by kernel_rfl),⟨fF,bV (by kernel_rfl)⟩,eB (by kernel_rfl) (by kernel_rfl) (by kernel_rfl),⟨fF,bV (by kernel_rfl)⟩,eB (by kernel_rfl) (by kernel_rfl) (by kernel_rfl),⟨fF,bV (by kernel_rfl)⟩,eB (by kernel_rfl) (by kernel_rfl) (by kernel_rfl),⟨fF,bV (by kernel_rfl)⟩,eB (by kernel_rfl) (by kernel_rfl) (by kernel_rfl),⟨fF,bV (by kernel_rfl)⟩,eB (by kernel_rfl) (by kernel_rfl) (by kernel_rfl),⟨fF,bV (by kernel_rfl)⟩,eB (by kernel_rfl) (by kernel_rfl) (by kernel_rfl),⟨fF,bV (by kernel_rfl)⟩,eB (by kernel_rfl) (by kernel_rfl) (by kernel_rfl),⟨fF,bV (by kernel_rfl)⟩,eB (by kernel_rfl) (by kernel_rfl) (by kernel_rfl),⟨fF,bV (by kernel_rfl)⟩,eB (by kernel_rfl) (by kernel_rfl) (by kernel_rfl),⟨fF,bV (by kernel_rfl)⟩,eB (by kernel_rfl) (by kernel_rfl) (by kernel_rfl),⟨fF,bV (by kernel_rfl)⟩,eB (by kernel_rfl) (by kernel_rfl) (by kernel_rfl),⟨fF,bV (by kernel_rfl)⟩,eB (by kernel_rfl) (by kernel_rfl) (by kernel_rfl),⟨fun _=> ⟨by kernel_rfl,by kernel_rfl⟩,bV (by kernel_rfl)⟩,trivial⟩
theorem mX:Tryz.prog.follows .mixedOrders=true:=by kernel_rfl
def Jo:Go.Shelf.Ren:=⟨fun|6=>121|14=>138|15=>139|20=>151|21=>152|22=>153|23=>154|24=>155|25=>156|26=>157|27=>158|28=>159|29=>160|46=>162|47=>163|48=>164|49=>165|50=>166|57=>167|n=>n,fun|0=>0|3=>3|4=>4|5=>5|9=>9|22=>45|24=>41|25=>223|39=>238|45=>247|46=>248|50=>178|53=>254|55=>256|66=>257|70=>261|76=>263|77=>264|n=>n,fun n=>n⟩
theorem RP:Go.Proofs.SlLaysF0.n6 Tryz.prog Jo:=⟨by kernel_rfl,⟨Tryz.f121.name,by kernel_rfl,Tryz.func121.trans (congrArg some (by kernel_rfl))⟩,⟨Tryz.f138.name,by kernel_rfl,Tryz.func138.trans (congrArg some (by kernel_rfl))⟩,Tryz.func139.trans (congrArg some (by kernel_rfl)),⟨Tryz.f151.name,by kernel_rfl,Tryz.func151.trans (congrArg some (by kernel_rfl))⟩,⟨Tryz.f152.name,by kernel_rfl,Tryz.func152.trans (congrArg some (by kernel_rfl))⟩,⟨Tryz.f153.name,by kernel_rfl,Tryz.func153.trans (congrArg some (by kernel_rfl))⟩,⟨Tryz.f154.name,by kernel_rfl,Tryz.func154.trans (congrArg some (by kernel_rfl))⟩,⟨Tryz.f155.name,by kernel_rfl,Tryz.func155.trans (congrArg some (by kernel_rfl))⟩,⟨Tryz.f156.name,by kernel_rfl,Tryz.func156.trans (congrArg some (by kernel_rfl))⟩,⟨Tryz.f157.name,by kernel_rfl,Tryz.func157.trans (congrArg some (by kernel_rfl))⟩,⟨Tryz.f158.name,by kernel_rfl,Tryz.func158.trans (congrArg some (by kernel_rfl))⟩,Tryz.func159.trans (congrArg some (by kernel_rfl)),Tryz.func160.trans (congrArg some (by kernel_rfl)),⟨Tryz.f162.name,by kernel_rfl,Tryz.func162.trans (congrArg some (by kernel_rfl))⟩,Tryz.func163.trans (congrArg some (by kernel_rfl)),Tryz.func164.trans (congrArg some (by kernel_rfl)),⟨Tryz.f165.name,by kernel_rfl,Tryz.func165.trans (congrArg some (by kernel_rfl))⟩,⟨Tryz.f166.name,by kernel_rfl,Tryz.func166.trans (congrArg some (by kernel_rfl))⟩,⟨Tryz.f167.name,by kernel_rfl,Tryz.func167.trans (congrArg some (by kernel_rfl))⟩,Tryz.underlying0,Tryz.isAgg0,Tryz.sizeOf0,Tryz.zeroValue0,Tryz.underlying3,Tryz.isAgg3,Tryz.sizeOf3,Tryz.zeroValue3,Tryz.underlying4,Tryz.isAgg4,Tryz.sizeOf4,Tryz.zeroValue4,Tryz.underlying5,Tryz.isAgg5,Tryz.sizeOf5,Tryz.zeroValue5,Tryz.underlying9,Tryz.isAgg9,Tryz.sizeOf9,Tryz.zeroValue9,Tryz.underlying45,Tryz.isAgg45,Tryz.sizeOf45,Tryz.zeroValue45,Tryz.underlying223,Tryz.isAgg223,Tryz.sizeOf223,Tryz.zeroValue223,Tryz.underlying238,Tryz.isAgg238,Tryz.sizeOf238,Tryz.zeroValue238,Tryz.underlying247,Tryz.isAgg247,Tryz.sizeOf247,Tryz.zeroValue247,Tryz.underlying248,Tryz.isAgg248,Tryz.sizeOf248,Tryz.zeroValue248,Tryz.underlying178,Tryz.isAgg178,Tryz.sizeOf178,Tryz.zeroValue178,Tryz.underlying254,Tryz.isAgg254,Tryz.sizeOf254,Tryz.zeroValue254,Tryz.underlying256,Tryz.isAgg256,Tryz.sizeOf256,Tryz.zeroValue256,Tryz.underlying257,Tryz.isAgg257,Tryz.sizeOf257,Tryz.zeroValue257,Tryz.underlying261,Tryz.isAgg261,Tryz.sizeOf261,Tryz.zeroValue261,Tryz.underlying263,Tryz.isAgg263,Tryz.sizeOf263,Tryz.zeroValue263,Tryz.underlying264,Tryz.isAgg264,Tryz.sizeOf264,Tryz.zeroValue264⟩
theorem Vw (w:World):(isAgg (Jo.t 24)).run Tryz.prog w= .ok true w:=Tryz.isAgg41 w
theorem SL (w:World):(Go.sizeOf (Jo.t 24)).run Tryz.prog w= .ok 2 w:=Tryz.sizeOf41 w
def XI:Go.Shelf.Ren:=⟨fun|23=>115|n=>n,fun|0=>0|3=>3|4=>4|22=>44|n=>n,fun n=>n⟩
theorem Vd:Go.Proofs.Lays2.n23 Tryz.prog XI:=⟨by kernel_rfl,Tryz.func115.trans (congrArg some (by kernel_rfl)),Tryz.underlying0,Tryz.isAgg0,Tryz.sizeOf0,Tryz.zeroValue0,Tryz.underlying3,Tryz.isAgg3,Tryz.sizeOf3,Tryz.zeroValue3,Tryz.underlying4,Tryz.isAgg4,Tryz.sizeOf4,Tryz.zeroValue4,Tryz.underlying44,Tryz.isAgg44,Tryz.sizeOf44,Tryz.zeroValue44,by kernel_rfl⟩
section
variable (p:au)
abbrev k2:DV:=(bN none 6 Link.cell p.links)
abbrev k1:List CV:=[(cI p.buses),(.d (bN none 5 Source.cell p.sources)),(.d (k2 p)),(.d (bN none 4 aT.cell p.racks))]
abbrev k0:List SV:=[(.agg (k1 p))]
end
theorem HY (p:au):fA Tryz.prog 5 (k0 p) [] (fun r=>(vB r)) (fun _=>[]) (Ba p):=
  gu tT mX Tryz.func5 (
  .rg {fr:=[(0,1)],fz:=[1]} []<| .r<| .e (bif (bif (decide (60<(p.sources.length:Int)))then true else(decide (60<(p.links.length:Int))))then true else(decide (60<(p.racks.length:Int)))))
theorem bD (n:Int) (u0:Int) (u1:Int):fA Tryz.prog 43 [(sI n),(sI u0),(sI u1)] [] (fun r=>(vB r)) (fun _=>[]) (bK n u0 u1):=
  gu tT mX Tryz.func43 (
  .r<| .r<| .e (bif (decide (u0≤n))then(decide (n≤u1))else false))
theorem CZ (p:au):fA Tryz.prog 45 (k0 p) [] (fun r=>(vD (.fn 71 1 (bT [(zL [(.int .i64 r.1),(bN none 5 Source.cell r.2.1),(bN none 6 Link.cell r.2.2.1),(bN none 4 aT.cell r.2.2.2)] 0)])))) (fun _=>[]) (sJ p):=
  gu tT mX Tryz.func45 (
  .rg {fr:=[(0,1)],fz:=[1]} []<| .r<| .e (p.buses,p.sources,p.links,p.racks))
theorem EM (p:au):fA Tryz.prog 47 (k0 p) [] (fun r=>(vD (.fn 74 1 (bT [(zL [(.int .i64 r.1),(bN none 5 Source.cell r.2.1),(bN none 6 Link.cell r.2.2.1),(bN none 4 aT.cell r.2.2.2)] 0)])))) (fun _=>[]) (wZ p):=
  gu tT mX Tryz.func47 (
  .rg {fr:=[(0,1)],fz:=[1]} []<| .r<| .e (p.buses,p.sources,p.links,p.racks))
theorem ED (p:au):fA Tryz.prog 49 (k0 p) [] (fun r=>(vD (.fn 77 1 (bT [(zL [(.int .i64 r.1),(bN none 5 Source.cell r.2.1),(bN none 6 Link.cell r.2.2.1),(bN none 4 aT.cell r.2.2.2)] 0)])))) (fun _=>[]) (wR p):=
  gu tT mX Tryz.func49 (
  .rg {fr:=[(0,1)],fz:=[1]} []<| .r<| .e (p.buses,p.sources,p.links,p.racks))
section
variable (u2:(List Source)) (x1:Int) (u3:(List Link)) (u4:(List aT)) (r_:Bool) (u0:Bool) (u1:Bool) (u5:Bool)
abbrev k4:DV:=(bN none 5 Source.cell u2)
abbrev k3:DV:=(zL [(.int .i64 x1),(k4 u2),(bN none 6 Link.cell u3),(bN none 4 aT.cell u4)] 0)
abbrev k5:=(IntKind.wrap .i64 (x1 - 1))
abbrev k6:=(bif (bif (bif r_ then u0 else false)then u1 else false)then u5 else false)
end
theorem zW (x:Source) (x1:Int) (u2:(List Source)) (u3:(List Link)) (u4:(List aT)):fA Tryz.prog 71 [(.agg [(cI x.bus),(cI x.kind),(cI x.power),(cI x.sync),(cI x.ohm)]),(sD (k3 u2 x1 u3 u4))] [] (fun r=>(vB r)) (fun _=>[]) (lQ x x1 u2 u3 u4):=
  gu tT mX Tryz.func71 (
  .rg {fr:=[(0,1)],fz:=[1]} []<| .cl 5 (bD x.bus 0 (k5 x1)) fun r_=> .cg 9 [(r_,true)] (bD x.kind 1 3) fun u0=> .cg 14 [((bif r_ then u0 else false),true)] (bD x.power 1 100000) fun u1=> .cg 19 [((bif (bif r_ then u0 else false)then u1 else false),true)] (bD x.sync 0 8) fun u5=> .cg 24 [((k6 r_ u0 u1 u5),true)] (bD x.ohm 10 100000) fun u6=> .r<| .e (bif (k6 r_ u0 u1 u5)then u6 else false))
section
variable (x1:Int) (u0:(List Source)) (u1:(List Link)) (u2:(List aT))
abbrev k8:=(bT [(k3 u0 x1 u1 u2)])
abbrev k7:DV:=(zL [(.fn 71 1 (k8 x1 u0 u1 u2))] 0)
end
theorem Cu (x:Source) (x1:Int) (u0:(List Source)) (u1:(List Link)) (u2:(List aT)):fA Tryz.prog 70 [(.agg [(cI x.bus),(cI x.kind),(cI x.power),(cI x.sync),(cI x.ohm)]),(sD (k7 x1 u0 u1 u2))] [] (fun r=>(vB r)) (fun _=>[]) (rM x x1 u0 u1 u2):=
  gu tT mX Tryz.func70 (
  .rg {fr:=[(0,1)],fz:=[1]} []<| .cl 2 (zW x x1 u0 u1 u2) fun r_=> .r<| .e (!r_))
section
variable (s_:(List Source)) (f_:Int) (u0:(List Source)) (u1:(List Link)) (u2:(List aT)) (t8:Int)
abbrev k9:List SV:=[(sD (k4 s_)),(sD (.fn 70 1 (bT [(k7 f_ u0 u1 u2)])))]
abbrev k10:=(IntKind.wrap .i64 (t8+1))
end
theorem xI (s_:(List Source)) (f_:Int) (u0:(List Source)) (u1:(List Link)) (u2:(List aT)):fA Tryz.prog 97 (k9 s_ f_ u0 u1 u2) [] (fun r=>(vI r)) (fun _=>[]) (mZ s_ f_ u0 u1 u2):=
  gu tT mX Tryz.func97 (
  .r<| .r<| .lp (σ:=Int) (β:=Unit) (0) [] [] ⟨[0,1,7],[],fun t8=>[(8,(vI t8))],fun t8=>[]⟩ ⟨[],[],fun _=>[],fun _=>[]⟩
  (fun t8=> .r<| .it (.r<| .cl 5 (Cu (at' s_ t8.toNat) f_ u0 u1 u2) fun r_=> .a1 ((0:Int)≤t8∧t8<(s_.length:Int))<| .rg {} [0,1]<| .it (.r<| .e (.done (.ret t8)))
  (.r<| .e (.next (k10 t8))))
  (.e (.done (.brk ()))))
  (fun _=> .r<| .e (-1)))
theorem vz (s_:(List Source)) (f_:Int) (u0:(List Source)) (u1:(List Link)) (u2:(List aT)):fA Tryz.prog 69 (k9 s_ f_ u0 u1 u2) [] (fun r=>(vB r)) (fun _=>[]) (iR s_ f_ u0 u1 u2):=
  gu tT mX Tryz.func69 (
  .r<| .cl 2 (xI s_ f_ u0 u1 u2) fun r_=> .r<| .e (decide (0≤r_)))
theorem EG (l:(List Source)) (u0:Int) (u1:Int) (u2:(List Source)) (u3:(List Link)) (u4:(List aT)):fA Tryz.prog 44 [(sD (k4 l)),(sI u0),(sD (.fn 71 1 (k8 u1 u2 u3 u4)))] [] (fun r=>(vB r)) (fun _=>[]) (qF l u0 u1 u2 u3 u4):=
  gu tT mX Tryz.func44 (
  .rg {fr:=[(0,1)],fz:=[1]} []<| .cg 7 [((decide ((l.length:Int)≤u0)),true)] (vz l u1 u2 u3 u4) fun r_=> .r<| .e (bif (decide ((l.length:Int)≤u0))then(!r_)else false))
section
variable (x:Link)
abbrev k11:List CV:=[(cI x.a),(cI x.b),(cI x.kind),(cI x.most),(cI x.ohm),(.d (bN none 2 lW.cell x.trip))]
end
theorem CQ (x:Link) (x1:Int) (u3:(List Source)) (u4:(List Link)) (u5:(List aT)):fA Tryz.prog 74 [(.agg (k11 x)),(sD (k3 u3 x1 u4 u5))] [] (fun r=>(vB r)) (fun _=>[]) (nI x x1 u3 u4 u5):=
  gu tT mX Tryz.func74 (
  .rg {fr:=[(0,5)]} []<| .cl 5 (bD x.a 0 (k5 x1)) fun r_=> .cg 13 [((!r_),false)] (bD x.b 0 (k5 x1)) fun u1=> .cg 26 [((bif (bif (!r_)then true else(!u1))then true else(decide (x.a=x.b))),false)] (bD x.kind 1 3) fun u6=> .cg 32 [((bif (bif (bif (!r_)then true else(!u1))then true else(decide (x.a=x.b)))then true else(!u6)),false)] (bD x.most 1 100000) fun u8=> .cg 38 [((bif (bif (bif (bif (!r_)then true else(!u1))then true else(decide (x.a=x.b)))then true else(!u6))then true else(!u8)),false)] (bD x.ohm 10 100000) fun u9=> .r<| .it (.r<| .e false)
  (.rg {fz:=[5]} []<| .lp (σ:=Int) (β:=Unit) (0) [] [] ⟨[2,48,49],[],fun u0=>[(50,(vI u0))],fun u0=>[]⟩ ⟨[2],[],fun _=>[],fun _=>[]⟩
  (fun u0=> .r<| .it (.a1 ((0:Int)≤u0∧u0<(x.trip.length:Int))<| .rg {fr:=[(3,9)],fz:=[9]} []<| .cl 2 (bD ((at' x.trip u0.toNat).amps) 1 1000000) fun u2=> .cg 7 [((!u2),false)] (bD ((at' x.trip u0.toNat).millis) 1 100000) fun u7=> .a2 ((gB [((decide (0<u0)),true),((bif (!u2)then true else(!u7)),false)]=true→(0:Int)≤(k5 u0)∧(k5 u0)<(x.trip.length:Int))) ((gB [((decide (((at' x.trip u0.toNat).amps)≤((at' x.trip ((k5 u0).toNat)).amps))),false),((decide (0<u0)),true),((bif (!u2)then true else(!u7)),false)]=true→(0:Int)≤(k5 u0)∧(k5 u0)<(x.trip.length:Int)))<| .rg {} [3,2,0,1]<| .it (.r<| .e (.done (.ret false)))
  (.r<| .e (.next (k10 u0))))
  (.e (.done (.brk ()))))
  (fun _=> .r<| .e (bif (decide ((x.trip.length:Int)≤6))then(bif (decide ((x.trip.length:Int)=0))then true else(decide (x.kind=3)))else false))))
section
variable (x1:Int) (u0:(List Source)) (u1:(List Link)) (u2:(List aT))
abbrev k12:DV:=(zL [(.fn 74 1 (k8 x1 u0 u1 u2))] 0)
end
theorem y8 (x:Link) (x1:Int) (u0:(List Source)) (u1:(List Link)) (u2:(List aT)):fA Tryz.prog 73 [(.agg (k11 x)),(sD (k12 x1 u0 u1 u2))] [] (fun r=>(vB r)) (fun _=>[]) (nV x x1 u0 u1 u2):=
  gu tT mX Tryz.func73 (
  .rg {fr:=[(0,1)],fz:=[1]} []<| .cl 2 (CQ x x1 u0 u1 u2) fun r_=> .r<| .e (!r_))
section
variable (s_:(List Link)) (f_:Int) (u0:(List Source)) (u1:(List Link)) (u2:(List aT))
abbrev k13:List SV:=[(sD (bN none 6 Link.cell s_)),(sD (.fn 73 1 (bT [(k12 f_ u0 u1 u2)])))]
end
theorem uP (s_:(List Link)) (f_:Int) (u0:(List Source)) (u1:(List Link)) (u2:(List aT)):fA Tryz.prog 98 (k13 s_ f_ u0 u1 u2) [] (fun r=>(vI r)) (fun _=>[]) (kD s_ f_ u0 u1 u2):=
  gu tT mX Tryz.func98 (
  .r<| .r<| .lp (σ:=Int) (β:=Unit) (0) [] [] ⟨[0,1,7],[],fun t8=>[(8,(vI t8))],fun t8=>[]⟩ ⟨[],[],fun _=>[],fun _=>[]⟩
  (fun t8=> .r<| .it (.r<| .cl 5 (y8 (at' s_ t8.toNat) f_ u0 u1 u2) fun r_=> .a1 ((0:Int)≤t8∧t8<(s_.length:Int))<| .rg {} [0,1]<| .it (.r<| .e (.done (.ret t8)))
  (.r<| .e (.next (k10 t8))))
  (.e (.done (.brk ()))))
  (fun _=> .r<| .e (-1)))
theorem qI (s_:(List Link)) (f_:Int) (u0:(List Source)) (u1:(List Link)) (u2:(List aT)):fA Tryz.prog 72 (k13 s_ f_ u0 u1 u2) [] (fun r=>(vB r)) (fun _=>[]) (gU s_ f_ u0 u1 u2):=
  gu tT mX Tryz.func72 (
  .r<| .cl 2 (uP s_ f_ u0 u1 u2) fun r_=> .r<| .e (decide (0≤r_)))
theorem CW (l:(List Link)) (u0:Int) (u1:Int) (u2:(List Source)) (u3:(List Link)) (u4:(List aT)):fA Tryz.prog 46 [(sD (bN none 6 Link.cell l)),(sI u0),(sD (.fn 74 1 (k8 u1 u2 u3 u4)))] [] (fun r=>(vB r)) (fun _=>[]) (nR l u0 u1 u2 u3 u4):=
  gu tT mX Tryz.func46 (
  .rg {fr:=[(0,1)],fz:=[1]} []<| .cg 7 [((decide ((l.length:Int)≤u0)),true)] (qI l u1 u2 u3 u4) fun r_=> .r<| .e (bif (decide ((l.length:Int)≤u0))then(!r_)else false))
section
variable (x:aT)
abbrev k14:List CV:=[(cI x.feeds.e0),(cI x.feeds.e1),(cI x.power),(cI x.paths)]
end
theorem D6 (x:aT):fA Tryz.prog 78 [(.agg (k14 x))] [] (fun r=>(vI r)) (fun _=>[]) (o8 x):=
  gu tT mX Tryz.func78 (
  .rg {fr:=[(0,1)],fz:=[1]} []<| .rg {} [.pf ⟨(0:Int)≤1∧(1:Int)<(2:Nat),(by decide)⟩]<| .it (.r<| .e 1)
  (.r<| .e 2))
section
variable (r_:Bool) (u0:Bool) (x:aT) (u1:Bool)
abbrev k16:=(bif (bif (bif r_ then u0 else false)then(!decide (x.feeds.e0=x.feeds.e1))else false)then u1 else false)
abbrev k15:=((k16 r_ u0 x u1),true)
end
theorem BU (x:aT) (x1:Int) (u2:(List Source)) (u3:(List Link)) (u4:(List aT)):fA Tryz.prog 77 [(.agg (k14 x)),(sD (k3 u2 x1 u3 u4))] [] (fun r=>(vB r)) (fun _=>[]) (nW x x1 u2 u3 u4):=
  gu tT mX Tryz.func77 (
  .rg {fr:=[(0,1)],fz:=[1]} []<| .rg {} [.pf ⟨(0:Int)≤0∧(0:Int)<(2:Nat),(by decide)⟩, .pf ⟨(0:Int)≤1∧(1:Int)<(2:Nat),(by decide)⟩]<| .cl 4 (bD x.feeds.e0 0 (k5 x1)) fun r_=> .cg 10 [(r_,true)] (bD x.feeds.e1 (-1) (k5 x1)) fun u0=> .cg 20 [((bif (bif r_ then u0 else false)then(!decide (x.feeds.e0=x.feeds.e1))else false),true)] (bD x.power 1 100000) fun u1=> .cg 26 [(k15 r_ u0 x u1)] (D6 x) fun u5=> .cg 27 [(k15 r_ u0 x u1)] (bD x.paths 0 u5) fun u6=> .r<| .e (bif (k16 r_ u0 x u1)then u6 else false))
section
variable (x1:Int) (u0:(List Source)) (u1:(List Link)) (u2:(List aT))
abbrev k17:DV:=(zL [(.fn 77 1 (k8 x1 u0 u1 u2))] 0)
end
theorem yV (x:aT) (x1:Int) (u0:(List Source)) (u1:(List Link)) (u2:(List aT)):fA Tryz.prog 76 [(.agg (k14 x)),(sD (k17 x1 u0 u1 u2))] [] (fun r=>(vB r)) (fun _=>[]) (nU x x1 u0 u1 u2):=
  gu tT mX Tryz.func76 (
  .rg {fr:=[(0,1)],fz:=[1]} []<| .cl 2 (BU x x1 u0 u1 u2) fun r_=> .r<| .e (!r_))
section
variable (s_:(List aT)) (f_:Int) (u0:(List Source)) (u1:(List Link)) (u2:(List aT))
abbrev k18:List SV:=[(sD (bN none 4 aT.cell s_)),(sD (.fn 76 1 (bT [(k17 f_ u0 u1 u2)])))]
end
theorem uZ (s_:(List aT)) (f_:Int) (u0:(List Source)) (u1:(List Link)) (u2:(List aT)):fA Tryz.prog 99 (k18 s_ f_ u0 u1 u2) [] (fun r=>(vI r)) (fun _=>[]) (kC s_ f_ u0 u1 u2):=
  gu tT mX Tryz.func99 (
  .r<| .r<| .lp (σ:=Int) (β:=Unit) (0) [] [] ⟨[0,1,7],[],fun t8=>[(8,(vI t8))],fun t8=>[]⟩ ⟨[],[],fun _=>[],fun _=>[]⟩
  (fun t8=> .r<| .it (.r<| .cl 5 (yV (⟨((at' s_ t8.toNat).feeds),(at' s_ t8.toNat).power,(at' s_ t8.toNat).paths⟩:aT) f_ u0 u1 u2) fun r_=> .a1 ((0:Int)≤t8∧t8<(s_.length:Int))<| .rg {} [0,1]<| .it (.r<| .e (.done (.ret t8)))
  (.r<| .e (.next (k10 t8))))
  (.e (.done (.brk ()))))
  (fun _=> .r<| .e (-1)))
theorem qz (s_:(List aT)) (f_:Int) (u0:(List Source)) (u1:(List Link)) (u2:(List aT)):fA Tryz.prog 75 (k18 s_ f_ u0 u1 u2) [] (fun r=>(vB r)) (fun _=>[]) (gW s_ f_ u0 u1 u2):=
  gu tT mX Tryz.func75 (
  .r<| .cl 2 (uZ s_ f_ u0 u1 u2) fun r_=> .r<| .e (decide (0≤r_)))
theorem CJ (l:(List aT)) (u0:Int) (u1:Int) (u2:(List Source)) (u3:(List Link)) (u4:(List aT)):fA Tryz.prog 48 [(sD (bN none 4 aT.cell l)),(sI u0),(sD (.fn 77 1 (k8 u1 u2 u3 u4)))] [] (fun r=>(vB r)) (fun _=>[]) (nL l u0 u1 u2 u3 u4):=
  gu tT mX Tryz.func48 (
  .rg {fr:=[(0,1)],fz:=[1]} []<| .cg 7 [((decide ((l.length:Int)≤u0)),true)] (qz l u1 u2 u3 u4) fun r_=> .r<| .e (bif (decide ((l.length:Int)≤u0))then(!r_)else false))
theorem wB (p:au):fA Tryz.prog 18 (k0 p) [] (fun r=>(vI r)) (fun _=>[]) (mq p):=
  gu tT mX Tryz.func18 (
  .rg {fr:=[(0,1)],fz:=[1]} []<| .cl 2 (bD p.buses 1 24) fun r_=> .r<| .it (.r<| .e 10)
  (.cl 3 (CZ p) fun u0=> .cl 4 (EG p.sources 8 u0.1 u0.2.1 u0.2.2.1 u0.2.2.2) fun u3=> .r<| .it (.r<| .e 11)
  (.cl 3 (EM p) fun u1=> .cl 4 (CW p.links 40 u1.1 u1.2.1 u1.2.2.1 u1.2.2.2) fun u4=> .r<| .it (.r<| .e 12)
  (.cl 3 (ED p) fun u2=> .cl 4 (CJ p.racks 24 u2.1 u2.2.1 u2.2.2.1 u2.2.2.2) fun u5=> .r<| .it (.r<| .e 13)
  (.r<| .e 0)))))
section
variable (s_:State) (p:au) (u0:Int)
abbrev k20:List CV:=[(.d (bN none 1 ai s_.closed)),(.d (bN none 1 ai s_.locked)),(.d (bN none 1 ai s_.badLink)),(.d (bN none 1 ai s_.on_)),(.d (bN none 1 ai s_.badSource)),(.d (bN none 1 ai s_.earthed)),(.d (bN none 1 ai s_.badBus))]
abbrev k19:List SV:=[(.agg (k1 p)),(.agg (k20 s_))]
abbrev k21:=(⟨s_.closed,(p.links.length:Int)⟩:dN)
abbrev k22:=(⟨s_.locked,(p.links.length:Int)⟩:dN)
abbrev k23:=(⟨s_.badLink,(p.links.length:Int)⟩:dN)
abbrev k24:=(⟨s_.on_,(p.sources.length:Int)⟩:dN)
abbrev k25:=(⟨s_.badSource,(p.sources.length:Int)⟩:dN)
abbrev k26:=(aA dN.cell [(k21 s_ p),(k22 s_ p),(k23 s_ p),(k24 s_ p),(k25 s_ p),(⟨s_.earthed,p.buses⟩:dN),(⟨s_.badBus,p.buses⟩:dN)])
abbrev k27:=((0:Int)≤u0∧u0<(p.links.length:Int))
end
theorem dK (p:au) (s_:State):fA Tryz.prog 6 (k19 s_ p) [] (fun r=>(vI r)) (fun _=>[]) (dI p s_):=
  gu tT mX Tryz.func6 (
  .rg {fr:=[(0,11),(1,12)]} []<| .cl 1 (wB p) fun r_=> .r<| .r<| .it (.r<| .e r_)
  (.r<| .rg {an:=[(30, .arr [(k21 s_ p),(k22 s_ p),(k23 s_ p),(k24 s_ p),(k25 s_ p),(⟨s_.earthed,p.buses⟩:dN),(⟨s_.badBus,p.buses⟩:dN)].length (k26 s_ p))],fr:=[(30,13)],fz:=[12]} [.pf ⟨[(k21 s_ p),(k22 s_ p),(k23 s_ p),(k24 s_ p),(k25 s_ p),(⟨s_.earthed,p.buses⟩:dN),(⟨s_.badBus,p.buses⟩:dN)].length=7,rfl⟩, .pf ⟨aU 7 2 (qg 2 [(bN none 1 ai s_.closed),(.int .i64 (p.links.length:Int)),(bN none 1 ai s_.locked),(.int .i64 (p.links.length:Int)),(bN none 1 ai s_.badLink),(.int .i64 (p.links.length:Int)),(bN none 1 ai s_.on_),(.int .i64 (p.sources.length:Int)),(bN none 1 ai s_.badSource),(.int .i64 (p.sources.length:Int)),(bN none 1 ai s_.earthed),(.int .i64 p.buses),(bN none 1 ai s_.badBus),(.int .i64 p.buses)]) (k26 s_ p),(by intro i hi j hj;match i,j,hi,hj with|0,0,_,_=>rfl|0,1,_,_=>rfl|1,0,_,_=>rfl|1,1,_,_=>rfl|2,0,_,_=>rfl|2,1,_,_=>rfl|3,0,_,_=>rfl|3,1,_,_=>rfl|4,0,_,_=>rfl|4,1,_,_=>rfl|5,0,_,_=>rfl|5,1,_,_=>rfl|6,0,_,_=>rfl|6,1,_,_=>rfl)⟩]<| .lp (σ:=Int) (β:=Unit) (0) [] [] ⟨[2,3,53,54],[11,13],fun u1=>[(55,(vI u1))],fun u1=>[]⟩ ⟨[2,3],[11],fun _=>[],fun _=>[]⟩
  (fun u1=> .r<| .it (.a1 ((0:Int)≤u1∧u1<([(k21 s_ p),(k22 s_ p),(k23 s_ p),(k24 s_ p),(k25 s_ p),(⟨s_.earthed,p.buses⟩:dN),(⟨s_.badBus,p.buses⟩:dN)].length:Int))<| .rg {fr:=[(2,17)],fz:=[17]} [0, .t 0 u1 ([(k21 s_ p),(k22 s_ p),(k23 s_ p),(k24 s_ p),(k25 s_ p),(⟨s_.earthed,p.buses⟩:dN),(⟨s_.badBus,p.buses⟩:dN)].length)]<| .r<| .it (.r<| .e (.done (.ret 9)))
  (.r<| .e (.next (k10 u1))))
  (.e (.done (.brk ()))))
  (fun _=> .r<| .lp (σ:=Int) (β:=Unit) (0) [] [] ⟨[3,67,68],[],fun u0=>[(69,(vI u0))],fun u0=>[]⟩ ⟨[],[],fun _=>[],fun _=>[]⟩
  (fun u0=> .r<| .it (.a1 (k27 p u0)<| .rg {fr:=[(3,21)],fz:=[21]} []<| .a2 ((gB [((decide (((at' p.links u0.toNat).kind)=1)),true)]=true→(0:Int)≤u0∧u0<(s_.closed.length:Int))) ((gB [((!(at' s_.closed u0.toNat)),false),((decide (((at' p.links u0.toNat).kind)=1)),true)]=true→(0:Int)≤u0∧u0<(s_.locked.length:Int)))<| .rg {} [0,1]<| .it (.r<| .e (.done (.ret 9)))
  (.r<| .e (.next (k10 u0))))
  (.e (.done (.brk ()))))
  (fun _=> .r<| .e 0))))
section
variable (p:au) (s_:State) (u0:Int)
abbrev k28:List SV:=[(.agg (k1 p)),(.agg (k20 s_)),(sI u0)]
end
theorem zq (p:au) (s_:State) (u0:Int):fA Tryz.prog 38 (k28 p s_ u0) [] (fun r=>(vI r)) (fun _=>[]) (kK p s_ u0):=
  gu tT mX Tryz.func38 (
  .rg {fr:=[(0,2),(1,3)],fz:=[2,3]} []<| .cl 2 (dK p s_) fun r_=> .r<| .r<| .it (.r<| .e r_)
  (.r<| .it (.r<| .e 13)
  (.r<| .e 0)))
theorem yU (s_:(List Part)) (v_:Part):fA Tryz.prog 87 [(sD (bN none 2 Part.cell s_)),(.agg [(cI v_.kind),(cI v_.index)])] [] (fun r=>(vI r)) (fun _=>[]) (fV s_ v_):=
  gu tT mX Tryz.func87 (
  .rg {fr:=[(0,1)],fz:=[1]} []<| .r<| .lp (σ:=Int) (β:=Unit) (0) [] [] ⟨[0,3,7],[],fun t8=>[(8,(vI t8))],fun t8=>[]⟩ ⟨[],[],fun _=>[],fun _=>[]⟩
  (fun t8=> .r<| .it (.r<| .a1 ((0:Int)≤t8∧t8<(s_.length:Int))<| .r<| .it (.r<| .e (.done (.ret t8)))
  (.r<| .e (.next (k10 t8))))
  (.e (.done (.brk ()))))
  (fun _=> .r<| .e (-1)))
section
variable (u0:Int) (u1:Int) (u2:(List Part))
abbrev Wd:=(⟨(k10 u0),u1⟩:Part)
abbrev k30:=(aA Part.cell [(Wd u0 u1)])
abbrev Z4:=(u2++[(Wd u0 u1)])
end
theorem zM (p:au):fA Tryz.prog 66 (k0 p) [] (fun r=>(.iw [(.one (.own 0 false r.1.length)),(sI r.2)])) (fun r=>[(0,some (bQ 62 2 Part.cell r.1))]) (o9 p):=
  gu tT mX Tryz.func66 (
  .rg {fr:=[(0,34)],fz:=[34]} []<| .cl 1 (wB p) fun r_=> .r<| .r<| .it (.r<| .im (.ad 2 35 62 2 (aA Part.cell ([]:List Part)))<| .en (([]:List Part),r_) [] [(35,0)])
  (.r<| .rg {an:=[(8, .arr [p.buses,(p.sources.length:Int),(p.links.length:Int)].length (aA (aF .i64) [p.buses,(p.sources.length:Int),(p.links.length:Int)]))],fr:=[(8,36)],fz:=[36]} [.pf ⟨[p.buses,(p.sources.length:Int),(p.links.length:Int)].length=3,rfl⟩, .pf ⟨aU 3 1 (qg 1 [(.int .i64 p.buses),(.int .i64 (p.sources.length:Int)),(.int .i64 (p.links.length:Int))]) (aA (aF .i64) [p.buses,(p.sources.length:Int),(p.links.length:Int)]),(by intro i hi j hj;match i,j,hi,hj with|0,0,_,_=>rfl|1,0,_,_=>rfl|2,0,_,_=>rfl)⟩]<| .im (.ad 5 69 62 2 (aA Part.cell ([]:List Part)))<| .lp (σ:=((List Part) × Int)) (β:=(List Part)) (([]:List Part),0) [] [(69,38)] ⟨[22,23],[],fun(u3,u0)=>[(5,(vO 38 false u3.length)),(24,(vI u0))],fun(u3,u0)=>[(38,some (bQ 62 2 Part.cell u3))]⟩ ⟨[],[],fun u4=>[(5,(vO 38 false u4.length))],fun u4=>[(38,some (bQ 62 2 Part.cell u4))]⟩
  (fun(u3,u0)=> .r<| .it (.a1 ((0:Int)≤u0∧u0<([p.buses,(p.sources.length:Int),(p.links.length:Int)].length:Int))<| .r<| .r<| .lp (σ:=((List Part) × Int)) (β:=(List Part)) (u3,0) [] [] ⟨[6,22,23,24,29],[],fun(u2,u1)=>[(5,(vO 38 false u2.length)),(30,(vI u1))],fun(u2,u1)=>[(38,some (bQ 62 2 Part.cell u2))]⟩ ⟨[22,23,24],[],fun u5=>[(5,(vO 38 false u5.length))],fun u5=>[(38,some (bQ 62 2 Part.cell u5))]⟩
  (fun(u2,u1)=> .r<| .it (.r<| .a2 ((u2.length+[(Wd u0 u1)].length)*16≤140737488355328) (u2.length+[(Wd u0 u1)].length≤4611686018427387904)<| .rg {an:=[(5, .arr [(Wd u0 u1)].length (k30 u0 u1)),(6, .arr (Z4 u0 u1 u2).length (aA Part.cell (Z4 u0 u1 u2)))],fr:=[(5,67),(6,68)]} [.pf ⟨[(Wd u0 u1)].length=1,rfl⟩, .pf ⟨aU 1 2 (qg 2 [(.int .i64 (k10 u0)),(.int .i64 u1)]) (k30 u0 u1),(by intro i hi j hj;match i,j,hi,hj with|0,0,_,_=>rfl|0,1,_,_=>rfl)⟩, .e (u2.length),0,1, .pf ⟨(Z4 u0 u1 u2).length=u2.length+[(Wd u0 u1)].length,List.length_append⟩, .pf ⟨aU (u2.length+[(Wd u0 u1)].length) 2 (rW (aA Part.cell u2) u2.length (k30 u0 u1)) (aA Part.cell (Z4 u0 u1 u2)),eT _ _ _ _⟩]<| .r<| .en (.next ((Z4 u0 u1 u2),(k10 u1))) [] [(68,38)])
  (.e (.done (.brk u2))))
  (fun u5=> .r<| .e (.next (u5,(k10 u0)))))
  (.e (.done (.brk u3))))
  (fun u4=> .r<| .en (u4,0) [] [(38,0)])))
section
variable (u0:Graph) (a:Int) (b:Int)
abbrev k32:List (Nat × Option Ob):=[(0,some (.cells 141 [(.ptr 1 0)])),(1,some (.cells 182 [(.own 2 false u0.parts.length),(.mp 3),(.mp 4)])),(2,some (bQ 62 2 Part.cell u0.parts)),(3,some (.gm 3 44 3 u0.ay.e0 none)),(4,some (.gm 3 44 3 u0.ay.e1 none))]
abbrev QN:=((aN a u0.ay.e0)++[b])
abbrev YT:=(aA (aF .i64) (QN u0 a b))
abbrev YQ:=((QN u0 a b).length)
end
theorem fC (a:Int) (b:Int) (u0:Graph):fA Tryz.prog 88 [(sI a),(sI b),(.one (.ptr 0 0))] (k32 u0) (fun r=>(.iw [])) (fun r=>[(0,some (.cells 141 [(.ptr 1 0)])),(1,some (.cells 182 [(.own 2 false u0.parts.length),(.mp 3),(.mp 4)])),(2,some (bQ 62 2 Part.cell u0.parts)),(3,some (.gm 3 44 3 r.ay.e0 none)),(4,some (.gm 3 44 3 u0.ay.e1 none))]) (dY a b u0):=
  gu tT mX Tryz.func88 (
  .a2 (((aN a u0.ay.e0).length+[b].length)*8≤140737488355328) ((aN a u0.ay.e0).length+[b].length≤4611686018427387904)<| .rg {an:=[(12, .gtk 8 (aN a u0.ay.e0)),(14, .arr [b].length (aA (aF .i64) [b])),(15, .arr (QN u0 a b).length (YT u0 a b)),(16, .gput (QN u0 a b))],fr:=[(14,9),(15,10)]} [.pf ⟨(0:Int)≤0∧(0:Int)<(2:Nat),(by decide)⟩, .pf ⟨(0:Int)≤0∧(0:Int)<(2:Nat),(by decide)⟩, .pf ⟨(aN a u0.ay.e0)=(aN a u0.ay.e0),rfl⟩, .pf ⟨[b].length=1,rfl⟩, .pf ⟨aU 1 1 (qg 1 [(.int .i64 b)]) (aA (aF .i64) [b]),(by intro i hi j hj;match i,j,hi,hj with|0,0,_,_=>rfl)⟩, .e ((aN a u0.ay.e0).length),0,1, .pf ⟨(QN u0 a b).length=(aN a u0.ay.e0).length+[b].length,List.length_append⟩, .pf ⟨aU ((aN a u0.ay.e0).length+[b].length) 1 (rW (aA (aF .i64) (aN a u0.ay.e0)) (aN a u0.ay.e0).length (aA (aF .i64) [b])) (YT u0 a b),eT _ _ _ _⟩, .e (YQ u0 a b), .e (YQ u0 a b), .pf ⟨aU (YQ u0 a b) 1 (YT u0 a b) (qO (QN u0 a b)),(fun _ _ _ _=>rfl)⟩, .pf ⟨∀n0 c0,(some (a,CV.own 8 false (aN a u0.ay.e0).length):Option (Int × CV))=some (n0,c0)→n0=a,(fun _ _ h=>by cases h;rfl)⟩]<| .e (⟨u0.parts,(⟨(gV a (QN u0 a b) u0.ay.e0),u0.ay.e1⟩:aK)⟩:Graph))
theorem eu (kz:Int) (i:Int) (u0:Graph):fA Tryz.prog 86 [(sI kz),(sI i),(.one (.ptr 0 0))] (k32 u0) (fun r=>(vI r)) (fun r=>(k32 u0)) (bZ kz i u0):=
  gu tT mX Tryz.func86 (
  .r<| .cr 7 ⟨fun{r_} hr_=>((Fn.R4 (frz:=[2]) (p:=[u0.parts.length=u0.parts.length]) (yU u0.parts (⟨kz,i⟩:Part) hr_) (by kernel_rfl) ⟨rfl,trivial⟩ rfl):Fn Tryz.prog 87 [(.one (.own 2 false u0.parts.length)),(.agg [(cI kz),(cI i)])] [(2,some (bQ 62 2 Part.cell u0.parts))] (vI r_) [(2,some (bQ 62 2 Part.cell u0.parts))])⟩ fun r_=> .r<| .e r_)
section
variable (v0:(List (Int × (List Int)))) (u8:Int) (r_:((List Part) × Int)) (w0:Graph) (s_:State) (u3:Int) (p:au) (v7:Graph) (v6:Int) (w1:Int) (u0:Int) (u4:Int) (u1:Int) (u2:Int)
abbrev Ua:List (Nat × Option Ob):=[(17,some (.gm 3 44 3 v0 none))]
abbrev k37:=(IntKind.wrap .i64 ((2:Int)*u8))
abbrev k38:=(IntKind.wrap .i64 ((k37 u8)+1))
abbrev UZ:=(⟨r_.1,(⟨v0,([]:(List (Int × (List Int))))⟩:aK)⟩:Graph)
abbrev k40:=(w0.ay.e0,(k10 u8))
abbrev k41:=((gB [((at' s_.on_ u3.toNat),true)]=true→(0:Int)≤u3∧u3<(s_.badSource.length:Int)))
abbrev k42:=((gB [((bif (at' s_.on_ u3.toNat)then(!(at' s_.badSource u3.toNat))else false),true)]=true→(0:Int)≤(at' p.sources u3.toNat).bus∧(at' p.sources u3.toNat).bus<(s_.badBus.length:Int)))
abbrev YN:=((at' p.sources u3.toNat).bus)
abbrev k44:=(⟨r_.1,(⟨v7.ay.e0,([]:(List (Int × (List Int))))⟩:aK)⟩:Graph)
abbrev k45:=(fI [(0,20),(1,19),(2,21),(3,17),(4,18)] (fC (k38 v6) (k37 w1) (k44 r_ v7)))
abbrev Uc:=((at' p.links u0.toNat).a)
abbrev k47:=(at' [(at' p.links u0.toNat).a,(at' p.links u0.toNat).b] u4.toNat)
abbrev VH:=((at' p.links u0.toNat).b)
abbrev k49:=((0:Int)≤u1∧u1<(p.racks.length:Int))
abbrev SY:=((at' p.racks u1.toNat).feeds)
abbrev YO:=(at' [(SY p u1).e0,(SY p u1).e1] u2.toNat)
abbrev YR:=((SY p u1).e0)
abbrev YK:=((SY p u1).e1)
abbrev Uh:List CV:=[(cI (YR p u1)),(cI (YK p u1))]
end
theorem xE (p:au) (s_:State) (u1:Int):fA Tryz.prog 54 (k28 p s_ u1) [] (fun r=>(vP 0 0)) (fun r=>[(0,some (.cells 182 [(.own 1 false r.parts.length),(.mp 2),(.mp 3)])),(1,some (bQ 62 2 Part.cell r.parts)),(2,some (.gm 3 44 3 r.ay.e0 none)),(3,some (.gm 3 44 3 r.ay.e1 none))]) (jP p s_ u1):=
  gu tT mX Tryz.func54 (
  .rg {fr:=[(0,15),(1,16)],fz:=[16]} []<| .rg {an:=[(0, .gput []),(1, .gput [])],fr:=[(0,17),(1,18),(4,19),(5,20)]} []<| .cl 2 (fI [(0,21)] (zM p)) fun r_=> .r<| .r<| .r<| .r<| .lp (σ:=((List (Int × (List Int))) × Int)) (β:=(List (Int × (List Int)))) (([]:(List (Int × (List Int)))),0) [] [] ⟨[2,3,4,7,8,9,40],[15,18,19,20,21],fun(v0,u8)=>[(41,(vI u8))],fun(v0,u8)=>(Ua v0)⟩ ⟨[2,3,4,7,8,9],[15,18,19,20,21],fun v1=>[],fun v1=>(Ua v1)⟩
  (fun(v0,u8)=> .r<| .it (.r<| .cl 6 (fI [(0,20),(1,19),(2,21),(3,17),(4,18)] (fC (k37 u8) (k38 u8) (UZ v0 r_))) fun w0=> .r<| .r<| .e (.next (k40 u8 w0)))
  (.e (.done (.brk v0))))
  (fun v1=> .r<| .lp (σ:=((List (Int × (List Int))) × Int)) (β:=(List (Int × (List Int)))) (v1,0) [] [] ⟨[2,3,4,7,8,9,53,54],[15,18,19,20,21],fun(u5,u3)=>[(55,(vI u3))],fun(u5,u3)=>(Ua u5)⟩ ⟨[2,3,4,7,8,9],[15,18,19,20,21],fun v2=>[],fun v2=>(Ua v2)⟩
  (fun(u5,u3)=> .r<| .it (.a1 ((0:Int)≤u3∧u3<(p.sources.length:Int))<| .rg {fr:=[(3,25)],fz:=[25]} []<| .a3 ((0:Int)≤u3∧u3<(s_.on_.length:Int)) (k41 s_ u3) (k42 s_ u3 p)<| .rg {} [0,1,2]<| .it (.cr 2 (fI [(0,20),(1,19),(2,21),(3,17),(4,18)] (eu 2 u3 (UZ u5 r_))) fun v6=> .r<| .cl 3 (fI [(0,20),(1,19),(2,21),(3,17),(4,18)] (fC (-1) (k37 v6) (UZ u5 r_))) fun v7=> .r<| .cr 7 (fI [(0,20),(1,19),(2,21),(3,17),(4,18)] (eu 1 (YN u3 p) (k44 r_ v7))) fun w1=> .cl 9 (k45 r_ v7 v6 w1) fun w2=> .r<| .r<| .e (.next (k40 u3 w2)))
  (.r<| .e (.next (u5,(k10 u3)))))
  (.e (.done (.brk u5))))
  (fun v2=> .rg {fz:=[15]} []<| .lp (σ:=((List (Int × (List Int))) × Int)) (β:=(List (Int × (List Int)))) (v2,0) [] [] ⟨[2,3,4,7,8,9,101,102],[18,19,20,21],fun(u6,u0)=>[(103,(vI u0))],fun(u6,u0)=>(Ua u6)⟩ ⟨[2,3,4,7,8,9],[18,19,20,21],fun v3=>[],fun v3=>(Ua v3)⟩
  (fun(u6,u0)=> .r<| .it (.a1 (k27 p u0)<| .rg {fr:=[(3,29)],fz:=[29]} []<| .a4 ((0:Int)≤u0∧u0<(s_.closed.length:Int)) ((gB [((!(at' s_.closed u0.toNat)),false)]=true→(0:Int)≤u0∧u0<(s_.badLink.length:Int))) ((gB [((bif (!(at' s_.closed u0.toNat))then true else(at' s_.badLink u0.toNat)),false)]=true→(0:Int)≤(at' p.links u0.toNat).a∧(at' p.links u0.toNat).a<(s_.badBus.length:Int))) ((gB [((bif (bif (!(at' s_.closed u0.toNat))then true else(at' s_.badLink u0.toNat))then true else(at' s_.badBus ((Uc p u0).toNat))),false)]=true→(0:Int)≤(at' p.links u0.toNat).b∧(at' p.links u0.toNat).b<(s_.badBus.length:Int)))<| .rg {} [0,1,2,3]<| .it (.r<| .e (.next (u6,(k10 u0))))
  (.cr 2 (fI [(0,20),(1,19),(2,21),(3,17),(4,18)] (eu 3 u0 (UZ u6 r_))) fun v8=> .r<| .r<| .lp (σ:=((List (Int × (List Int))) × Int)) (β:=(List (Int × (List Int)))) (u6,0) [] [] ⟨[2,3,4,7,8,9,16,101,102,103,144],[18,19,20,21],fun(u9,u4)=>[(145,(vI u4))],fun(u9,u4)=>(Ua u9)⟩ ⟨[2,3,4,7,8,9,101,102,103],[18,19,20,21],fun v4=>[],fun v4=>(Ua v4)⟩
  (fun(u9,u4)=> .r<| .it (.a1 ((0:Int)≤u4∧u4<((2:Nat):Int))<| .rg {an:=[(0, .vals [(.int .i64 (k47 p u0 u4))])]} [0, .dv 0 ⟨(0:Int)≤u4∧u4<((2:Nat):Int),u4.toNat*1+1≤[(cI (Uc p u0)),(cI (VH p u0))].length,fun ax=>Xn (n:=2) (sz:=1) (Nat.le_refl _) ax⟩, .dv 0 ⟨(0:Int)≤u4∧u4<((2:Nat):Int),([(cI (Uc p u0)),(cI (VH p u0))].drop (u4.toNat*1)).take 1=[(.int .i64 (k47 p u0 u4))].map .d,fun ax=>Yc (n:=2) (sz:=1) (g:=fun q=>[(cI (at' [(at' p.links u0.toNat).a,(at' p.links u0.toNat).b] q))]) (by intro q hq;match q,hq with|0,_=>rfl|1,_=>rfl) ax⟩]<| .cr 3 (fI [(0,20),(1,19),(2,21),(3,17),(4,18)] (eu 1 (k47 p u0 u4) (UZ u9 r_))) fun w3=> .cl 8 (fI [(0,20),(1,19),(2,21),(3,17),(4,18)] (fC (k38 w3) (k37 v8) (UZ u9 r_))) fun v9=> .r<| .cr 6 (fI [(0,20),(1,19),(2,21),(3,17),(4,18)] (eu 1 (k47 p u0 u4) (k44 r_ v9))) fun w4=> .cl 8 (k45 r_ v9 v8 w4) fun w5=> .r<| .r<| .e (.next (k40 u4 w5)))
  (.e (.done (.brk u9))))
  (fun v4=> .r<| .e (.next (v4,(k10 u0))))))
  (.e (.done (.brk u6))))
  (fun v3=> .a1 (k49 p u1)<| .r<| .lp (σ:=((List (Int × (List Int))) × Int)) (β:=(List (Int × (List Int)))) (v3,0) [] [] ⟨[4,7,8,9,173],[18,19,20,21],fun(u7,u2)=>[(174,(vI u2))],fun(u7,u2)=>(Ua u7)⟩ ⟨[7],[18,19,20,21],fun v5=>[],fun v5=>(Ua v5)⟩
  (fun(u7,u2)=> .r<| .it (.a1 ((0:Int)≤u2∧u2<((2:Nat):Int))<| .rg {an:=[(0, .vals [(.int .i64 (YO p u1 u2))])]} [0, .dv 0 ⟨(0:Int)≤u2∧u2<((2:Nat):Int),u2.toNat*1+1≤(Uh p u1).length,fun ax=>Xn (n:=2) (sz:=1) (Nat.le_refl _) ax⟩, .dv 0 ⟨(0:Int)≤u2∧u2<((2:Nat):Int),((Uh p u1).drop (u2.toNat*1)).take 1=[(.int .i64 (YO p u1 u2))].map .d,fun ax=>Yc (n:=2) (sz:=1) (g:=fun q=>[(cI (at' [(SY p u1).e0,(SY p u1).e1] q))]) (by intro q hq;match q,hq with|0,_=>rfl|1,_=>rfl) ax⟩]<| .a1 ((gB [((decide (0≤(YO p u1 u2))),true)]=true→(0:Int)≤(YO p u1 u2)∧(YO p u1 u2)<(s_.badBus.length:Int)))<| .r<| .it (.cr 3 (fI [(0,20),(1,19),(2,21),(3,17),(4,18)] (eu 1 (YO p u1 u2) (UZ u7 r_))) fun w6=> .cl 6 (fI [(0,20),(1,19),(2,21),(3,17),(4,18)] (fC (k38 w6) (-2) (UZ u7 r_))) fun w7=> .r<| .r<| .e (.next (k40 u2 w7)))
  (.r<| .e (.next (u7,(k10 u2)))))
  (.e (.done (.brk u7))))
  (fun v5=> .r<| .en (UZ v5 r_) [] [(19,0),(21,1),(17,2),(18,3)])))))
theorem pu (s_:(List Int)) (u0:Bool):fA Tryz.prog 90 [(sD (bN (some u0) 1 (aF .i64) s_))] [] (fun r=>(vO 0 false r.length)) (fun r=>[(0,some (bQ 3 1 (aF .i64) r))]) (om s_ u0):=
  gu tT mX Tryz.func90 (
  .r<| .r<| .it (.r<| .im (.ad 2 2 3 1 (aA (aF .i64) ([]:List Int)))<| .en ([]:List Int) [] [(2,0)])
  (.a2 ((([]:List Int).length+s_.length)*8≤140737488355328) (([]:List Int).length+s_.length≤4611686018427387904)<| .rg {an:=[(0, .arr ([]:List Int).length (aA (aF .i64) ([]:List Int))),(2, .arr (([]:List Int)++s_).length (aA (aF .i64) (([]:List Int)++s_)))],fr:=[(0,3),(2,4)]} [.pf ⟨([]:List Int).length=0,rfl⟩, .pf ⟨aU 0 1 (qg 1 []) (aA (aF .i64) ([]:List Int)),(fun i hi=>absurd hi (Nat.not_lt_zero i))⟩, .e (([]:List Int).length),0,1, .pf ⟨(([]:List Int)++s_).length=([]:List Int).length+s_.length,List.length_append⟩, .pf ⟨aU (([]:List Int).length+s_.length) 1 (rW (aA (aF .i64) ([]:List Int)) ([]:List Int).length (aA (aF .i64) s_)) (aA (aF .i64) (([]:List Int)++s_)),eT _ _ _ _⟩]<| .en (([]:List Int)++s_) [] [(4,0)]))
theorem wO (s:(List Int)) {r:(List Int)} (h:jA s=some r):Fn Tryz.prog 90 [(sD (bN none 1 (aF .i64) s))] [] (vO 0 false r.length) [(0,some (bQ 3 1 (aF .i64) r))]:=by
 refine Fn.nn (pu s true h) fun hl=> ?_
 have hs:s=[]:=List.eq_nil_of_length_eq_zero hl
 subst hs
 exact pu [] false (by rw [←h];kernel_rfl)
section
variable (s_:(List Int)) (t8:Int)
abbrev UL:DV:=(bN none 1 (aF .i64) s_)
abbrev YP:=((0:Int)≤t8∧t8<(s_.length:Int))
end
theorem kP (s_:(List Int)) (v_:Int):fA Tryz.prog 114 [(sD (UL s_)),(sI v_)] [] (fun r=>(vI r)) (fun _=>[]) (fK s_ v_):=
  gu tT mX Tryz.func114 (
  .r<| .r<| .lp (σ:=Int) (β:=Unit) (0) [] [] ⟨[0,1,7],[],fun t8=>[(8,(vI t8))],fun t8=>[]⟩ ⟨[],[],fun _=>[],fun _=>[]⟩
  (fun t8=> .r<| .it (.r<| .a1 (YP s_ t8)<| .r<| .it (.r<| .e (.done (.ret t8)))
  (.r<| .e (.next (k10 t8))))
  (.e (.done (.brk ()))))
  (fun _=> .r<| .e (-1)))
theorem rP (s:List Int) (i j:Int) {r:List Int} (h:jQ s i j=some r):Fn Tryz.prog 115 [(.one (.own 0 false s.length)),(sI i),(sI j)] [(0,some (bQ 3 1 (aF .i64) s))] (vO 0 false r.length) [(0,some (bQ 3 1 (aF .i64) r))]:=
 QX Vd 115 rfl ⟨_,Tryz.func115,rfl,rfl⟩ s i j h
section
variable (u0:Graph) (a:Int)
abbrev k58:Nat × Option Ob:=(0,some (.cells 182 [(.own 1 false u0.parts.length),(.mp 2),(.mp 3)]))
abbrev k59:Nat × Option Ob:=(1,some (bQ 62 2 Part.cell u0.parts))
abbrev k57:List (Nat × Option Ob):=[(k58 u0),(k59 u0),(2,some (.gm 3 44 3 u0.ay.e0 none)),(3,some (.gm 3 44 3 u0.ay.e1 none))]
abbrev k60:List (Nat × Option Ob):=[(12,some (bQ 3 1 (aF .i64) (aN a u0.ay.e0)))]
end
theorem oD (a:Int) (b:Int) (u3:Int) (u0:Graph):fA Tryz.prog 91 [(.one (.ptr 0 0)),(sI a),(sI b),(sI u3)] (k57 u0) (fun r=>(.iw [])) (fun r=>[(k58 u0),(k59 u0),(2,some (.gm 3 44 3 r.ay.e0 none)),(3,some (.gm 3 44 3 r.ay.e1 none))]) (fB a b u3 u0):=
  gu tT mX Tryz.func91 (
  .fk (decide (u3=0)) (.si 3 u3 0 0<| .rg {an:=[(7, .gtk 12 (aN a u0.ay.e0))]} [.pf ⟨(0:Int)≤0∧(0:Int)<(2:Nat),(by decide)⟩, .pf ⟨(aN a u0.ay.e0)=(aN a u0.ay.e0),rfl⟩]<| .cr 2 ⟨fun{r_} hr_=>((Fn.R4 (frz:=[12]) (p:=[(aN a u0.ay.e0).length=(aN a u0.ay.e0).length]) (kP (aN a u0.ay.e0) b hr_) (by kernel_rfl) ⟨rfl,trivial⟩ rfl):Fn Tryz.prog 114 [(.one (.own 12 false ((aN a u0.ay.e0).length))),(sI b)] (k60 u0 a) (vI r_) (k60 u0 a))⟩ fun r_=> .r<| .cl 11 (fI [(0,12)] ⟨fun h=>rP (aN a u0.ay.e0) r_ (k10 r_) h⟩) fun u1=> .rg {an:=[(12, .gput u1)]} [.pf ⟨(0:Int)≤0∧(0:Int)<(2:Nat),(by decide)⟩,0, .e (u1.length), .e (u1.length), .pf ⟨aU u1.length 1 (aA (aF .i64) u1) (qO u1),(fun _ _ _ _=>rfl)⟩, .pf ⟨∀n0 c0,(some (a,CV.own 12 false (aN a u0.ay.e0).length):Option (Int × CV))=some (n0,c0)→n0=a,(fun _ _ h=>by cases h;rfl)⟩]<| .a2 (((aN a u0.ay.e1).length+[b].length)*8≤140737488355328) ((aN a u0.ay.e1).length+[b].length≤4611686018427387904)<| .rg {an:=[(16, .gtk 13 (aN a u0.ay.e1)),(18, .arr [b].length (aA (aF .i64) [b])),(19, .arr ((aN a u0.ay.e1)++[b]).length (aA (aF .i64) ((aN a u0.ay.e1)++[b]))),(20, .gput ((aN a u0.ay.e1)++[b]))],fr:=[(18,14),(19,15)]} [.pf ⟨(0:Int)≤1∧(1:Int)<(2:Nat),(by decide)⟩, .pf ⟨(0:Int)≤1∧(1:Int)<(2:Nat),(by decide)⟩, .pf ⟨(aN a u0.ay.e1)=(aN a u0.ay.e1),rfl⟩, .pf ⟨[b].length=1,rfl⟩, .pf ⟨aU 1 1 (qg 1 [(.int .i64 b)]) (aA (aF .i64) [b]),(by intro i hi j hj;match i,j,hi,hj with|0,0,_,_=>rfl)⟩, .e ((aN a u0.ay.e1).length),0,1, .pf ⟨((aN a u0.ay.e1)++[b]).length=(aN a u0.ay.e1).length+[b].length,List.length_append⟩, .pf ⟨aU ((aN a u0.ay.e1).length+[b].length) 1 (rW (aA (aF .i64) (aN a u0.ay.e1)) (aN a u0.ay.e1).length (aA (aF .i64) [b])) (aA (aF .i64) ((aN a u0.ay.e1)++[b])),eT _ _ _ _⟩, .e (((aN a u0.ay.e1)++[b]).length), .e (((aN a u0.ay.e1)++[b]).length), .pf ⟨aU (((aN a u0.ay.e1)++[b]).length) 1 (aA (aF .i64) ((aN a u0.ay.e1)++[b])) (qO ((aN a u0.ay.e1)++[b])),(fun _ _ _ _=>rfl)⟩, .pf ⟨∀n0 c0,(some (a,CV.own 13 false (aN a u0.ay.e1).length):Option (Int × CV))=some (n0,c0)→n0=a,(fun _ _ h=>by cases h;rfl)⟩]<| .e (⟨u0.parts,(⟨(gV a u1 u0.ay.e0),(gV a ((aN a u0.ay.e1)++[b]) u0.ay.e1)⟩:aK)⟩:Graph))
  (.a1 (u3=1)<| .sj 3 u3 1 0<| .rg {an:=[(7, .gtk 16 (aN a u0.ay.e1))]} [.pf ⟨(0:Int)≤1∧(1:Int)<(2:Nat),(by decide)⟩, .pf ⟨(aN a u0.ay.e1)=(aN a u0.ay.e1),rfl⟩]<| .cr 2 ⟨fun{u4} hr_2=>((Fn.R4 (frz:=[16]) (p:=[(aN a u0.ay.e1).length=(aN a u0.ay.e1).length]) (kP (aN a u0.ay.e1) b hr_2) (by kernel_rfl) ⟨rfl,trivial⟩ rfl):Fn Tryz.prog 114 [(.one (.own 16 false ((aN a u0.ay.e1).length))),(sI b)] [(16,some (bQ 3 1 (aF .i64) (aN a u0.ay.e1)))] (vI u4) [(16,some (bQ 3 1 (aF .i64) (aN a u0.ay.e1)))])⟩ fun u4=> .r<| .cl 11 (fI [(0,16)] ⟨fun h=>rP (aN a u0.ay.e1) u4 (k10 u4) h⟩) fun u2=> .rg {an:=[(12, .gput u2)]} [.pf ⟨(0:Int)≤1∧(1:Int)<(2:Nat),(by decide)⟩,0, .e (u2.length), .e (u2.length), .pf ⟨aU u2.length 1 (aA (aF .i64) u2) (qO u2),(fun _ _ _ _=>rfl)⟩, .pf ⟨∀n0 c0,(some (a,CV.own 16 false (aN a u0.ay.e1).length):Option (Int × CV))=some (n0,c0)→n0=a,(fun _ _ h=>by cases h;rfl)⟩]<| .a2 (((aN a u0.ay.e0).length+[b].length)*8≤140737488355328) ((aN a u0.ay.e0).length+[b].length≤4611686018427387904)<| .rg {an:=[(16, .gtk 17 (aN a u0.ay.e0)),(18, .arr [b].length (aA (aF .i64) [b])),(19, .arr (QN u0 a b).length (YT u0 a b)),(20, .gput (QN u0 a b))],fr:=[(18,18),(19,19)]} [.pf ⟨(0:Int)≤0∧(0:Int)<(2:Nat),(by decide)⟩, .pf ⟨(0:Int)≤0∧(0:Int)<(2:Nat),(by decide)⟩, .pf ⟨(aN a u0.ay.e0)=(aN a u0.ay.e0),rfl⟩, .pf ⟨[b].length=1,rfl⟩, .pf ⟨aU 1 1 (qg 1 [(.int .i64 b)]) (aA (aF .i64) [b]),(by intro i hi j hj;match i,j,hi,hj with|0,0,_,_=>rfl)⟩, .e ((aN a u0.ay.e0).length),0,1, .pf ⟨(QN u0 a b).length=(aN a u0.ay.e0).length+[b].length,List.length_append⟩, .pf ⟨aU ((aN a u0.ay.e0).length+[b].length) 1 (rW (aA (aF .i64) (aN a u0.ay.e0)) (aN a u0.ay.e0).length (aA (aF .i64) [b])) (YT u0 a b),eT _ _ _ _⟩, .e (YQ u0 a b), .e (YQ u0 a b), .pf ⟨aU (YQ u0 a b) 1 (YT u0 a b) (qO (QN u0 a b)),(fun _ _ _ _=>rfl)⟩, .pf ⟨∀n0 c0,(some (a,CV.own 17 false (aN a u0.ay.e0).length):Option (Int × CV))=some (n0,c0)→n0=a,(fun _ _ h=>by cases h;rfl)⟩]<| .e (⟨u0.parts,(⟨(gV a (QN u0 a b) u0.ay.e0),(gV a u2 u0.ay.e1)⟩:aK)⟩:Graph)))
theorem jE (s_:(List Int)) (v_:Int):fA Tryz.prog 92 [(sD (UL s_)),(sI v_)] [] (fun r=>(vB r)) (fun _=>[]) (eD s_ v_):=
  gu tT mX Tryz.func92 (
  .r<| .cl 2 (kP s_ v_) fun r_=> .r<| .e (decide (0≤r_)))
section
variable (u1:Int) (o_:(List (Int × Bool))) (u0:Graph) (o0:(List (Int × Bool))) (u5:(List (Int × (List Int)))) (u6:(List (Int × (List Int)))) (r_:(List Int)) (u3:Int) (x:Int × List Int) (u2:(List (Int × Bool)))
abbrev k61:List SV:=[(sI u1),(.one (.ptr 0 0)),(.one (.ptr 1 0)),(.one (.ptr 2 0))]
abbrev k63:Nat × Option Ob:=(1,some (.cells 141 [(.ptr 4 0)]))
abbrev k64:Nat × Option Ob:=(2,some (.cells 186 [(.fn 89 0 3 (QC [(.ptr 0 0),(.ptr 1 0),(.ptr 2 0)]))]))
abbrev k65:Nat × Option Ob:=(3,some (BH 3 4 false false 1 1 (aF .i64) ai o_))
abbrev k66:Nat × Option Ob:=(4,some (.cells 182 [(.own 5 false u0.parts.length),(.mp 6),(.mp 7)]))
abbrev k67:Nat × Option Ob:=(5,some (bQ 62 2 Part.cell u0.parts))
abbrev k62:List (Nat × Option Ob):=[(0,some (.cells 185 [(.mp 3)])),k63,k64,(k65 o_),(k66 u0),(k67 u0),(6,some (.gm 3 44 3 u0.ay.e0 none)),(7,some (.gm 3 44 3 u0.ay.e1 none))]
abbrev k68:List (Nat × Option Ob):=[(k65 o0),(6,some (.gm 3 44 3 u5 none)),(7,some (.gm 3 44 3 u6 none))]
abbrev k69:=(⟨u0.parts,(⟨u5,u6⟩:aK)⟩:Graph)
abbrev k70:List CV:=[(cB ((bR bA (at' r_ u3.toNat) o0).getD false))]
abbrev YM:List CV:=[(cB ((bR bA x.1 u2).getD false))]
end
theorem oC (v2:Int→(List (Int × Bool))→Graph→Option (Bool × (List (Int × Bool)) × Graph)) (rec_ok: ∀(u1:Int) (o_:(List (Int × Bool))) (u0:Graph) (r:(Bool × (List (Int × Bool)) × Graph)),v2 u1 o_ u0=some r→Fn Tryz.prog 89 (k61 u1) (k62 o_ u0) ((fun r=>(vB r.1)) r) ((fun r=>[(0,some (.cells 185 [(.mp 3)])),k63,k64,(3,some (BH 3 4 false false 1 1 (aF .i64) ai r.2.1)),(k66 u0),(k67 u0),(6,some (.gm 3 44 3 r.2.2.ay.e0 none)),(7,some (.gm 3 44 3 r.2.2.ay.e1 none))]) r)) (u1:Int) (o_:(List (Int × Bool))) (u0:Graph):fA Tryz.prog 89 (k61 u1) (k62 o_ u0) (fun r=>(vB r.1)) (fun r=>[(0,some (.cells 185 [(.mp 3)])),k63,k64,(3,some (BH 3 4 false false 1 1 (aF .i64) ai r.2.1)),(k66 u0),(k67 u0),(6,some (.gm 3 44 3 r.2.2.ay.e0 none)),(7,some (.gm 3 44 3 r.2.2.ay.e1 none))]) (fw v2 u1 o_ u0):=
  gu tT mX Tryz.func89 (
  .r<| .r<| .it (.r<| .e (true,o_,u0))
  (.rg {an:=[(2, .map (dL bA u1 true o_).length (pO (aF .i64) (dL bA u1 true o_)) (pY ai (dL bA u1 true o_)) [])]} [.pf ⟨qf [some .i64] 1 1 o_.length (pO (aF .i64) o_) (pY ai o_) [(.int .i64 u1)] [(cB true)] [] (dL bA u1 true o_).length (pO (aF .i64) (dL bA u1 true o_)) (pY ai (dL bA u1 true o_)),vU (fun _=>rfl) (fun _ _=>rfl) o_ u1 true rfl rfl⟩]<| .cl 7 ⟨fun{r_} hr_=>((Fn.Tj (args:=[(sD (bN none 1 (aF .i64) (aN u1 u0.ay.e0)))]) (frz:=[12]) (p:=[(aN u1 u0.ay.e0).length=(aN u1 u0.ay.e0).length]) (Fn.KJ [(0,13)] (wO (aN u1 u0.ay.e0) hr_) (by kernel_rfl) (by kernel_rfl) (by kernel_rfl) (by kernel_rfl)) (by kernel_rfl) ⟨rfl,trivial⟩ (by kernel_rfl) ⟨(fun _ _=>rfl),trivial⟩ (by kernel_rfl)):Fn Tryz.prog 90 [(.one (.own 12 false ((aN u1 u0.ay.e0).length)))] (k60 u0 u1) (vO 13 false r_.length) [(12,some (bQ 3 1 (aF .i64) (aN u1 u0.ay.e0))),(13,some (bQ 3 1 (aF .i64) r_))])⟩ fun r_=> .rg {an:=[(6, .gtk 12 (aN u1 u0.ay.e0))],fz:=[13]} [.pf ⟨(0:Int)≤0∧(0:Int)<(2:Nat),(by decide)⟩, .pf ⟨(aN u1 u0.ay.e0)=(aN u1 u0.ay.e0),rfl⟩,0]<| .im (.gf 6 12 3 44 3 u0.ay.e0 u1 false ((aN u1 u0.ay.e0).length) ((aN u1 u0.ay.e0).length) (aA (aF .i64) (aN u1 u0.ay.e0)) rfl rfl (fun _ _ _ _=>rfl))<| .lp (σ:=((List (Int × Bool)) × (List (Int × (List Int))) × (List (Int × (List Int))) × Int)) (β:=((List (Int × Bool)) × (List (Int × (List Int))) × (List (Int × (List Int))))) ((dL bA u1 true o_),u0.ay.e0,u0.ay.e1,0) [] [] ⟨[0,1,2,3,21,22],[0,1,2,4,5],fun(o0,u5,u6,u3)=>[(23,(vI u3))],fun(o0,u5,u6,u3)=>(k68 o0 u5 u6)⟩ ⟨[0,1,2,3],[0,1,2,4,5],fun(v0,v1,u4)=>[],fun(v0,v1,u4)=>(k68 v0 v1 u4)⟩
  (fun(o0,u5,u6,u3)=> .r<| .it (.a1 (YP r_ u3)<| .r<| .fk (!((bR bA (at' r_ u3.toNat) o0).getD false)) (.cl 7 ⟨fun h=>rec_ok (at' r_ u3.toNat) o0 (k69 u0 u5 u6) _ h⟩ fun u9=> .rg {an:=[(2, .look (bR bA (at' r_ u3.toNat) o0).isSome (k70 o0 r_ u3))],ov:=[(4,true,1)]} [.pf ⟨eY [some .i64] 1 1 o0.length (pO (aF .i64) o0) (pY ai o0) [(.int .i64 (at' r_ u3.toNat))] [(.d (.bool false))] (bR bA (at' r_ u3.toNat) o0).isSome (k70 o0 r_ u3),ko (fun _=>rfl) (fun _ _=>rfl) o0 (at' r_ u3.toNat) false rfl rfl rfl⟩, .k 0]<| .it (.cl 3 (fI [(0,4),(1,5),(2,6),(3,7)] (oD u1 (at' r_ u3.toNat) 0 (⟨u0.parts,u9.2.2.ay⟩:Graph))) fun v4=> .r<| .r<| .e (.done (.ret (true,u9.2.1,(⟨u0.parts,v4.ay⟩:Graph)))))
  (.r<| .e (.next (u9.2.1,u9.2.2.ay.e0,u9.2.2.ay.e1,(k10 u3)))))
  (.rg {an:=[(2, .look (bR bA (at' r_ u3.toNat) o0).isSome (k70 o0 r_ u3))],ov:=[(4,false,0)],sk:=[5,6,7]} [.pf ⟨eY [some .i64] 1 1 o0.length (pO (aF .i64) o0) (pY ai o0) [(.int .i64 (at' r_ u3.toNat))] [(.d (.bool false))] (bR bA (at' r_ u3.toNat) o0).isSome (k70 o0 r_ u3),ko (fun _=>rfl) (fun _ _=>rfl) o0 (at' r_ u3.toNat) false rfl rfl rfl⟩]<| .f<| .r<| .e (.next (o0,u5,u6,(k10 u3)))))
  (.e (.done (.brk (o0,u5,u6)))))
  (fun(v0,v1,u4)=> .gr (σ:=((List (Int × Bool)) × (List (Int × (List Int))))) 7 14 15 3 44 3 u4 (bW u1) (fP v2 u1 u0 u4) (by intro x hx z;obtain⟨_,_⟩:=z;dsimp only [fP];exact Xz hx rfl) {} [.pf ⟨(0:Int)≤1∧(1:Int)<(2:Nat),(by decide)⟩] ⟨[0,1,2,3,46],[0,1,2,4,5,7,14],fun(u2,u7)=>[],fun(u2,u7)=>[(k65 u2),(6,some (.gm 3 44 3 u7 none))]⟩ (v0,v1) [] [] (fun x=>fun(u2,u7)=> .fk (bif (!((bR bA x.1 u2).getD false))then(!decide (x.1=(-1)))else false) (.cG 11 7 15 ⟨fun{v3} hr_3=>((Fn.R4 (frz:=[15]) (p:=[x.2.length=x.2.length]) (jE x.2 u1 hr_3) (by kernel_rfl) ⟨rfl,trivial⟩ rfl):Fn Tryz.prog 92 [(.one (.own 15 false x.2.length)),(sI u1)] [(15,some (bQ 3 1 (aF .i64) x.2))] (vB v3) [(15,some (bQ 3 1 (aF .i64) x.2))])⟩ fun v3=> .fk v3 (.cl 16 ⟨fun h=>rec_ok x.1 u2 (k69 u0 u7 u4) _ h⟩ fun u8=> .rg {an:=[(2, .look (bR bA x.1 u2).isSome (YM x u2))],ov:=[(8,true,3),(13,true,1)]} [.pf ⟨eY [some .i64] 1 1 u2.length (pO (aF .i64) u2) (pY ai u2) [(.int .i64 x.1)] [(.d (.bool false))] (bR bA x.1 u2).isSome (YM x u2),ko (fun _=>rfl) (fun _ _=>rfl) u2 x.1 false rfl rfl rfl⟩, .e (x.2.length), .dk 4 ⟨(aN x.1 u4)=x.2,x.2.length=(aN x.1 u4).length,fun ax=>(by rw [ax])⟩, .dk 4 ⟨(aN x.1 u4)=x.2,aU x.2.length 1 (aA (aF .i64) x.2) (qO (aN x.1 u4)),fun ax=>(by rw [ax];exact fun _ _ _ _=>rfl)⟩, .k 2, .k 0]<| .it (.cl 3 (fI [(0,4),(1,5),(2,6),(3,7)] (oD x.1 u1 1 (⟨u0.parts,u8.2.2.ay⟩:Graph))) fun v5=> .r<| .r<| .e (.done (.ret (true,u8.2.1,(⟨u0.parts,v5.ay⟩:Graph)))))
  (.a1 (u8.2.2.ay.e1=u4)<| .ge 7 3 44 3 u8.2.2.ay.e1 u4 0<| .e (.next (u8.2.1,u8.2.2.ay.e0))))
  (.rg {an:=[(2, .look (bR bA x.1 u2).isSome (YM x u2))],ov:=[(8,true,2),(13,false,0)],sk:=[14,15,16]} [.pf ⟨eY [some .i64] 1 1 u2.length (pO (aF .i64) u2) (pY ai u2) [(.int .i64 x.1)] [(.d (.bool false))] (bR bA x.1 u2).isSome (YM x u2),ko (fun _=>rfl) (fun _ _=>rfl) u2 x.1 false rfl rfl rfl⟩, .e (x.2.length), .dk 3 ⟨(aN x.1 u4)=x.2,x.2.length=(aN x.1 u4).length,fun ax=>(by rw [ax])⟩, .dk 3 ⟨(aN x.1 u4)=x.2,aU x.2.length 1 (aA (aF .i64) x.2) (qO (aN x.1 u4)),fun ax=>(by rw [ax];exact fun _ _ _ _=>rfl)⟩, .k 1]<| .f<| .e (.next (u2,u7))))
  (.rg {an:=[(2, .look (bR bA x.1 u2).isSome (YM x u2))],ov:=[(8,false,0)],sk:=[9,10,11,14,15,16]} [.pf ⟨eY [some .i64] 1 1 u2.length (pO (aF .i64) u2) (pY ai u2) [(.int .i64 x.1)] [(.d (.bool false))] (bR bA x.1 u2).isSome (YM x u2),ko (fun _=>rfl) (fun _ _=>rfl) u2 x.1 false rfl rfl rfl⟩]<| .gh 7 15 3 44 3 u4 x.1 x.2 false x.2.length x.2.length (aA (aF .i64) x.2) rfl rfl (fun _ _ _ _=>rfl) 1<| .f<| .e (.next (u2,u7))))
  (fun(v6,v7)=> .r<| .e (false,v6,(k69 u0 v7 u4))))))
theorem kQ: ∀(n:Nat) (u1:Int) (o_:(List (Int × Bool))) (u0:Graph),fA Tryz.prog 89 (k61 u1) (k62 o_ u0) (fun r=>(vB r.1)) (fun r=>[(0,some (.cells 185 [(.mp 3)])),k63,k64,(3,some (BH 3 4 false false 1 1 (aF .i64) ai r.2.1)),(k66 u0),(k67 u0),(6,some (.gm 3 44 3 r.2.2.ay.e0 none)),(7,some (.gm 3 44 3 r.2.2.ay.e1 none))]) (cu n u1 o_ u0)
 |0,_,_,_=> ⟨fun h=>by cases h⟩
 |n+1,u1,o_,u0=>oC (cu n) (fun u1 o_ u0 _ h=>kQ n u1 o_ u0 h) u1 o_ u0
theorem uK (u0:Graph):fA Tryz.prog 55 [(.one (.ptr 0 0))] (k57 u0) (fun r=>(vB r.1)) (fun r=>[(k58 u0),(k59 u0),(2,some (.gm 3 44 3 r.2.ay.e0 none)),(3,some (.gm 3 44 3 r.2.ay.e1 none))]) (dV u0):=
  gu tT mX Tryz.func55 (
  .rg {fr:=[(0,8)]} []<| .rg {an:=[(0, .map 0 (pO (aF .i64) ([]:(List (Int × Bool)))) (pY ai ([]:(List (Int × Bool)))) [])],fr:=[(0,9),(1,10)]} []<| .rg {fr:=[(0,11)]} []<| .r<| .cl 1 (fI [(0,10),(1,8),(2,11),(3,9),(4,0),(5,1),(6,2),(7,3)] (kQ FUEL (-1) ([]:(List (Int × Bool))) u0)) fun r_=> .r<| .e (r_.1,(⟨u0.parts,r_.2.2.ay⟩:Graph)))
section
variable (u0:Graph) (u1:Int) (u4:(List Part))
abbrev k72:List (Nat × Option Ob):=[(k58 u0),(k59 u0),(2,some (BH 3 44 false false 1 1 (aF .i64) (zX 1 (aF .i64)) u0.ay.e0)),(3,some (BH 3 44 false false 1 1 (aF .i64) (zX 1 (aF .i64)) u0.ay.e1))]
abbrev T9:=(at' u0.parts ((IntKind.wrap .i64 (Int.tdiv u1 2)).toNat))
abbrev k74:=(aA Part.cell [(T9 u0 u1)])
abbrev k75:=(u4++[(T9 u0 u1)])
abbrev k76:=((bR bA (k10 u1) u0.ay.e1).getD ([]:List Int))
abbrev k77:List CV:=[(.d (bN none 1 (aF .i64) (k76 u0 u1)))]
end
theorem xJ (u0:Graph):fA Tryz.prog 56 [(.one (.ptr 0 0))] (k72 u0) (fun r=>(vD (bN none 1 (zX 2 Part.cell) r))) (fun r=>(k72 u0)) (gM u0):=
  gu tT mX Tryz.func56 (
  .r<| .r<| .rg {an:=[(5, .look (bR bA (-1) u0.ay.e1).isSome [(.d (bN none 1 (aF .i64) ((bR bA (-1) u0.ay.e1).getD ([]:List Int))))])]} [.pf ⟨(0:Int)≤1∧(1:Int)<(2:Nat),(by decide)⟩, .pf ⟨eY [some .i64] 1 1 u0.ay.e1.length (pO (aF .i64) u0.ay.e1) (pY (zX 1 (aF .i64)) u0.ay.e1) [(.int .i64 (-1))] [(.d nS)] (bR bA (-1) u0.ay.e1).isSome [(.d (bN none 1 (aF .i64) ((bR bA (-1) u0.ay.e1).getD ([]:List Int))))],Bp (fun _=>rfl) (fun _ _=>rfl) u0.ay.e1 (-1) ([]:List Int) rfl (Nw.slice _ _ _) rfl⟩]<| .im (.ad 3 85 57 1 (aA (zX 2 Part.cell) ([]:List (List Part))))<| .lp (σ:=((List (List Part)) × Int)) (β:=(List (List Part))) (([]:List (List Part)),0) [] [(85,53)] ⟨[0,12,13],[0,1,2,3],fun(u3,u5)=>[(3,(vO 53 false u3.length)),(14,(vI u5))],fun(u3,u5)=>[(53,some (bQ 57 1 (zX 2 Part.cell) u3))]⟩ ⟨[],[0,1,2,3],fun u6=>[(3,(vO 53 false u6.length))],fun u6=>[(53,some (bQ 57 1 (zX 2 Part.cell) u6))]⟩
  (fun(u3,u5)=> .r<| .it (.a1 ((0:Int)≤u5∧u5<(((bR bA (-1) u0.ay.e1).getD ([]:List Int)).length:Int))<| .r<| .r<| .im (.ad 6 82 62 2 (aA Part.cell ([]:List Part)))<| .lp (σ:=(Int × (List Part))) (β:=(List Part)) ((at' ((bR bA (-1) u0.ay.e1).getD ([]:List Int)) u5.toNat),([]:List Part)) [] [(82,75)] ⟨[0,3,12,13,14],[0,1,2,3,53],fun(u1,u4)=>[(5,(vI u1)),(6,(vO 75 false u4.length))],fun(u1,u4)=>[(75,some (bQ 62 2 Part.cell u4))]⟩ ⟨[0,3,12,13,14],[0,1,2,3,53],fun u2=>[(6,(vO 75 false u2.length))],fun u2=>[(75,some (bQ 62 2 Part.cell u2))]⟩
  (fun(u1,u4)=> .r<| .it (.a4 (2≠(0:Int)) ((0:Int)≤(IntKind.wrap .i64 (Int.tdiv u1 2))∧(IntKind.wrap .i64 (Int.tdiv u1 2))<(u0.parts.length:Int)) ((u4.length+[(T9 u0 u1)].length)*16≤140737488355328) (u4.length+[(T9 u0 u1)].length≤4611686018427387904)<| .rg {an:=[(9, .arr [(T9 u0 u1)].length (k74 u0 u1)),(10, .arr (k75 u0 u1 u4).length (aA Part.cell (k75 u0 u1 u4)))],fr:=[(9,80),(10,81)]} [0,1, .t 1 (IntKind.wrap .i64 (Int.tdiv u1 2)) u0.parts.length, .pf ⟨[(T9 u0 u1)].length=1,rfl⟩, .pf ⟨aU 1 2 (qg 2 [(.int .i64 ((T9 u0 u1).kind)),(.int .i64 ((T9 u0 u1).index))]) (k74 u0 u1),(by intro i hi j hj;match i,j,hi,hj with|0,0,_,_=>rfl|0,1,_,_=>rfl)⟩, .e (u4.length),2,3, .pf ⟨(k75 u0 u1 u4).length=u4.length+[(T9 u0 u1)].length,List.length_append⟩, .pf ⟨aU (u4.length+[(T9 u0 u1)].length) 2 (rW (aA Part.cell u4) u4.length (k74 u0 u1)) (aA Part.cell (k75 u0 u1 u4)),eT _ _ _ _⟩]<| .a1 ((0:Int)≤0∧0<((k76 u0 u1).length:Int))<| .rg {an:=[(7, .look (bR bA (k10 u1) u0.ay.e1).isSome (k77 u0 u1))]} [.pf ⟨(0:Int)≤1∧(1:Int)<(2:Nat),(by decide)⟩, .pf ⟨eY [some .i64] 1 1 u0.ay.e1.length (pO (aF .i64) u0.ay.e1) (pY (zX 1 (aF .i64)) u0.ay.e1) [(.int .i64 (k10 u1))] [(.d nS)] (bR bA (k10 u1) u0.ay.e1).isSome (k77 u0 u1),Bp (fun _=>rfl) (fun _ _=>rfl) u0.ay.e1 (k10 u1) ([]:List Int) rfl (Nw.slice _ _ _) rfl⟩,0]<| .en (.next ((at' (k76 u0 u1) 0),(k75 u0 u1 u4))) [] [(81,75)])
  (.e (.done (.brk u4))))
  (fun u2=> .fz [75]<| .a2 ((u3.length+[u2].length)*24≤140737488355328) (u3.length+[u2].length≤4611686018427387904)<| .rg {an:=[(2, .arr [u2].length (aA (zX 2 Part.cell) [u2])),(3, .arr (u3++[u2]).length (aA (zX 2 Part.cell) (u3++[u2])))],fr:=[(2,83),(3,84)]} [.pf ⟨[u2].length=1,rfl⟩, .pf ⟨aU 1 1 (qg 1 [(bN none 2 Part.cell u2)]) (aA (zX 2 Part.cell) [u2]),(by intro i hi j hj;match i,j,hi,hj with|0,0,_,_=>rfl)⟩, .e (u3.length),0,1, .pf ⟨(u3++[u2]).length=u3.length+[u2].length,List.length_append⟩, .pf ⟨aU (u3.length+[u2].length) 1 (rW (aA (zX 2 Part.cell) u3) u3.length (aA (zX 2 Part.cell) [u2])) (aA (zX 2 Part.cell) (u3++[u2])),eT _ _ _ _⟩]<| .r<| .en (.next ((u3++[u2]),(k10 u5))) [] [(84,53)]))
  (.e (.done (.brk u3))))
  (fun u6=> .rg {fz:=[53]} []<| .e u6))
theorem EL (p:au) (s_:State) (u2:Int):fA Tryz.prog 22 (k28 p s_ u2) [] (fun r=>(.iw [(sD (bN none 1 (zX 2 Part.cell) r.1)),(sI r.2)])) (fun _=>[]) (wJ p s_ u2):=
  gu tT mX Tryz.func22 (
  .rg {fr:=[(0,6),(1,7)],fz:=[6,7]} []<| .cl 3 (zq p s_ u2) fun r_=> .r<| .r<| .it (.r<| .e (([]:List (List Part)),r_))
  (.cl 3 (fI [(0,8),(1,9),(2,10),(3,11)] (xE p s_ u2)) fun u3=> .r<| .r<| .lp (σ:=((List (Int × (List Int))) × (List (Int × (List Int))) × Int)) (β:=((List (Int × (List Int))) × (List (Int × (List Int))))) (u3.ay.e0,u3.ay.e1,0) [] [] ⟨[9],[8,9],fun(g1,g2,u4)=>[(21,(vI u4))],fun(g1,g2,u4)=>[(10,some (.gm 3 44 3 g1 none)),(11,some (.gm 3 44 3 g2 none))]⟩ ⟨[9],[8,9],fun(u0,u1)=>[],fun(u0,u1)=>[(10,some (.gm 3 44 3 u0 none)),(11,some (.gm 3 44 3 u1 none))]⟩
  (fun(g1,g2,u4)=> .r<| .it (.cl 1 (fI [(0,8),(1,9),(2,10),(3,11)] (uK (k69 u3 g1 g2))) fun u5=> .r<| .it (.e (.done (.brk (u5.2.ay.e0,u5.2.ay.e1))))
  (.r<| .e (.next (u5.2.ay.e0,u5.2.ay.e1,(k10 u4)))))
  (.e (.done (.brk (g1,g2)))))
  (fun(u0,u1)=> .im (.gz 10 3 44 3 u0)<| .im (.gz 11 3 44 3 u1)<| .cr 1 (fI [(0,8),(1,9),(2,10),(3,11)] (xJ (k69 u3 u0 u1))) fun u6=> .r<| .e (u6,0))))
theorem qi (p:au) (s_:State) (u0:Int):fA Tryz.prog 10 (k28 p s_ u0) [] (fun r=>(.iw [(sI r.1),(sI r.2)])) (fun _=>[]) (jF p s_ u0):=
  gu tT mX Tryz.func10 (
  .rg {fr:=[(0,2),(1,3)],fz:=[2,3]} []<| .cl 3 (EL p s_ u0) fun r_=> .r<| .r<| .e ((r_.1.length:Int),r_.2))
theorem EB (p:au) (s_:State) (kz:Int):fA Tryz.prog 26 (k28 p s_ kz) [] (fun r=>(vB r)) (fun _=>[]) (qG p s_ kz):=
  gu tT mX Tryz.func26 (
  .rg {fr:=[(0,2),(1,3)],fz:=[2,3]} []<| .a4 ((0:Int)≤kz∧kz<(s_.on_.length:Int)) (k41 s_ kz) ((gB [((bif (at' s_.on_ kz.toNat)then(!(at' s_.badSource kz.toNat))else false),true)]=true→(0:Int)≤kz∧kz<(p.sources.length:Int))) (k42 s_ kz p)<| .rg {} [0,1,2,3]<| .e (bif (bif (at' s_.on_ kz.toNat)then(!(at' s_.badSource kz.toNat))else false)then(!(at' s_.badBus ((YN kz p).toNat)))else false))
section
variable (s_:State) (i:Int) (p:au)
abbrev k78:=(bif (bif (at' s_.closed i.toNat)then(!(at' s_.badLink i.toNat))else false)then(!(at' s_.badBus ((Uc p i).toNat)))else false)
end
theorem Bl (p:au) (s_:State) (i:Int):fA Tryz.prog 28 (k28 p s_ i) [] (fun r=>(vB r)) (fun _=>[]) (jR p s_ i):=
  gu tT mX Tryz.func28 (
  .rg {fr:=[(0,3),(1,4)],fz:=[4]} []<| .a1 (k27 p i)<| .rg {fr:=[(5,5)],fz:=[5]} []<| .a4 ((0:Int)≤i∧i<(s_.closed.length:Int)) ((gB [((at' s_.closed i.toNat),true)]=true→(0:Int)≤i∧i<(s_.badLink.length:Int))) ((gB [((bif (at' s_.closed i.toNat)then(!(at' s_.badLink i.toNat))else false),true)]=true→(0:Int)≤(at' p.links i.toNat).a∧(at' p.links i.toNat).a<(s_.badBus.length:Int))) ((gB [((k78 s_ i p),true)]=true→(0:Int)≤(at' p.links i.toNat).b∧(at' p.links i.toNat).b<(s_.badBus.length:Int)))<| .rg {} [0,1,2,3]<| .e (bif (k78 s_ i p)then(!(at' s_.badBus ((VH p i).toNat)))else false))
theorem Cm (s_:State) (b:Int):fA Tryz.prog 29 [(.agg (k20 s_)),(sI b)] [] (fun r=>(vB r)) (fun _=>[]) (nO s_ b):=
  gu tT mX Tryz.func29 (
  .rg {fr:=[(0,1)],fz:=[1]} []<| .a1 ((gB [((decide (0≤b)),true)]=true→(0:Int)≤b∧b<(s_.badBus.length:Int)))<| .r<| .e (bif (decide (0≤b))then(!(at' s_.badBus b.toNat))else false))
section
variable (u0:Network) (a:Int) (b:Int)
abbrev YI:=((at' u0.from_ a.toNat)++[(u0.ay.length:Int)])
abbrev k80:=(aA (aF .i64) (YI u0 a))
abbrev Ve:=(u0.from_.set a.toNat (YI u0 a))
abbrev k81:=(ol Ap (Ve u0 a))
abbrev V4:=(at' (Ve u0 a) b.toNat)
abbrev VX:=(IntKind.wrap .i64 ((u0.ay.length:Int)+1))
abbrev k83:=((V4 u0 a b).length+[(VX u0)].length)
abbrev k86:=(aA (aF .i64) [(VX u0)])
abbrev YH:=((V4 u0 a b)++[(VX u0)])
abbrev k88:=(aA (aF .i64) (YH u0 a b))
abbrev k90:=((Ve u0 a).set b.toNat (YH u0 a b))
abbrev k89:=(ol Ap (k90 u0 a b))
end
theorem iU (a:Int) (b:Int) (u1:Int) (u2:Int) (u0:Network):fA Tryz.prog 27 [(.one (.ptr 0 0)),(sI a),(sI b),(sI u1),(sI u2)] [(0,some (.cells 93 [(.own 1 false u0.ay.length),(.own 2 true u0.from_.length)])),(1,some (bQ 103 2 bY.cell u0.ay)),(2,some (.rows 44 1 u0.from_.length (ol Ap u0.from_) none))] (fun r=>(vI r.1)) (fun r=>[(0,some (.cells 93 [(.own 3 false r.2.ay.length),(.own 2 true r.2.from_.length)])),(1,none),(2,some (.rows 44 1 r.2.from_.length (ol Ap r.2.from_) none)),(3,some (bQ 103 2 bY.cell r.2.ay))]) (eF a b u1 u2 u0):=
  gu tT mX Tryz.func27 (
  .r<| .r<| .a2 ((u0.ay.length+[(⟨b,u1⟩:bY),(⟨a,u2⟩:bY)].length)*16≤140737488355328) (u0.ay.length+[(⟨b,u1⟩:bY),(⟨a,u2⟩:bY)].length≤4611686018427387904)<| .rg {an:=[(11, .arr [(⟨b,u1⟩:bY),(⟨a,u2⟩:bY)].length (aA bY.cell [(⟨b,u1⟩:bY),(⟨a,u2⟩:bY)])),(12, .arr (u0.ay++[(⟨b,u1⟩:bY),(⟨a,u2⟩:bY)]).length (aA bY.cell (u0.ay++[(⟨b,u1⟩:bY),(⟨a,u2⟩:bY)])))],fr:=[(11,11),(12,12)]} [.pf ⟨[(⟨b,u1⟩:bY),(⟨a,u2⟩:bY)].length=2,rfl⟩, .pf ⟨aU 2 2 (qg 2 [(.int .i64 b),(.int .i64 u1),(.int .i64 a),(.int .i64 u2)]) (aA bY.cell [(⟨b,u1⟩:bY),(⟨a,u2⟩:bY)]),(by intro i hi j hj;match i,j,hi,hj with|0,0,_,_=>rfl|0,1,_,_=>rfl|1,0,_,_=>rfl|1,1,_,_=>rfl)⟩, .e (u0.ay.length),0,1, .pf ⟨(u0.ay++[(⟨b,u1⟩:bY),(⟨a,u2⟩:bY)]).length=u0.ay.length+[(⟨b,u1⟩:bY),(⟨a,u2⟩:bY)].length,List.length_append⟩, .pf ⟨aU (u0.ay.length+[(⟨b,u1⟩:bY),(⟨a,u2⟩:bY)].length) 2 (rW (aA bY.cell u0.ay) u0.ay.length (aA bY.cell [(⟨b,u1⟩:bY),(⟨a,u2⟩:bY)])) (aA bY.cell (u0.ay++[(⟨b,u1⟩:bY),(⟨a,u2⟩:bY)])),eT _ _ _ _⟩]<| .a3 ((0:Int)≤a∧a<(u0.from_.length:Int)) (((at' u0.from_ a.toNat).length+[(u0.ay.length:Int)].length)*8≤140737488355328) ((at' u0.from_ a.toNat).length+[(u0.ay.length:Int)].length≤4611686018427387904)<| .rg {an:=[(11, .take 13),(13, .arr [(u0.ay.length:Int)].length (aA (aF .i64) [(u0.ay.length:Int)])),(14, .arr (YI u0 a).length (k80 u0 a)),(16, .rows 0 (k81 u0 a))],fr:=[(13,14),(14,15)]} [0, .t 0 a u0.from_.length, .pf ⟨[(u0.ay.length:Int)].length=1,rfl⟩, .pf ⟨aU 1 1 (qg 1 [(.int .i64 (u0.ay.length:Int))]) (aA (aF .i64) [(u0.ay.length:Int)]),(by intro i hi j hj;match i,j,hi,hj with|0,0,_,_=>rfl)⟩, .e ((at' u0.from_ a.toNat).length),1,2, .pf ⟨(YI u0 a).length=(at' u0.from_ a.toNat).length+[(u0.ay.length:Int)].length,List.length_append⟩, .pf ⟨aU ((at' u0.from_ a.toNat).length+[(u0.ay.length:Int)].length) 1 (rW (aA (aF .i64) (at' u0.from_ a.toNat)) (at' u0.from_ a.toNat).length (aA (aF .i64) [(u0.ay.length:Int)])) (k80 u0 a),eT _ _ _ _⟩,0, .t 0 a u0.from_.length, .e ((YI u0 a).length), .pf ⟨Nz u0.from_.length 1 (Ug (ol Ap u0.from_) a.toNat 0 (.row 3 1 (YI u0 a).length (k80 u0 a))) (k81 u0 a),yu _ _ _ _ _ _ _ _ rfl (fun j hj=>(match j,hj with|0,_=>rfl))⟩, .pf ⟨∀i0 j0 c0,((some (a.toNat,0,CV.own 13 false (at' u0.from_ a.toNat).length)):Option (Nat × Nat × CV))=some (i0,j0,c0)→i0=a.toNat∧j0=0,(fun i0 j0 c0 e=>by cases e;exact⟨rfl,rfl⟩)⟩]<| .im (.ll 2 u0.from_ (Ve u0 a))<| .a3 ((0:Int)≤b∧b<((Ve u0 a).length:Int)) ((k83 u0 a b)*8≤140737488355328) ((V4 u0 a b).length+[(VX u0)].length≤4611686018427387904)<| .rg {an:=[(11, .take 16),(14, .arr [(VX u0)].length (k86 u0)),(15, .arr (YH u0 a b).length (k88 u0 a b)),(17, .rows 0 (k89 u0 a b))],fr:=[(14,17),(15,18)]} [0, .t 0 b ((Ve u0 a).length), .pf ⟨[(VX u0)].length=1,rfl⟩, .pf ⟨aU 1 1 (qg 1 [(.int .i64 (VX u0))]) (k86 u0),(by intro i hi j hj;match i,j,hi,hj with|0,0,_,_=>rfl)⟩, .e ((V4 u0 a b).length),1,2, .pf ⟨(YH u0 a b).length=(V4 u0 a b).length+[(VX u0)].length,List.length_append⟩, .pf ⟨aU (k83 u0 a b) 1 (rW (aA (aF .i64) (V4 u0 a b)) (V4 u0 a b).length (k86 u0)) (k88 u0 a b),eT _ _ _ _⟩,0, .t 0 b ((Ve u0 a).length), .e ((YH u0 a b).length), .pf ⟨Nz (Ve u0 a).length 1 (Ug (k81 u0 a) b.toNat 0 (.row 3 1 (YH u0 a b).length (k88 u0 a b))) (k89 u0 a b),yu _ _ _ _ _ _ _ _ rfl (fun j hj=>(match j,hj with|0,_=>rfl))⟩, .pf ⟨∀i0 j0 c0,((some (b.toNat,0,CV.own 16 false (V4 u0 a b).length)):Option (Nat × Nat × CV))=some (i0,j0,c0)→i0=b.toNat∧j0=0,(fun i0 j0 c0 e=>by cases e;exact⟨rfl,rfl⟩)⟩]<| .im (.ll 2 (Ve u0 a) (k90 u0 a b))<| .r<| .en ((u0.ay.length:Int),(⟨(u0.ay++[(⟨b,u1⟩:bY),(⟨a,u2⟩:bY)]),(k90 u0 a b)⟩:Network)) [] [(12,3)])
section
variable (u0:Network)
abbrev VU:DV:=(bN none 1 (zX 1 (aF .i64)) u0.from_)
abbrev k92:Nat × Option Ob:=(0,some (.cells 93 [(.own 1 false u0.ay.length),(.d (VU u0))]))
abbrev k91:List (Nat × Option Ob):=[(k92 u0),(1,some (bQ 103 2 bY.cell u0.ay))]
end
theorem lT (u0:Network):fA Tryz.prog 31 [(.one (.ptr 0 0))] (k91 u0) (fun _=>(.v (.one (.fn 58 0 1 (QC [(.ptr 2 0)]))))) (fun _=>[(k92 u0),(1,some (bQ 103 2 bY.cell u0.ay)),(2,some (.cells 89 [(.ptr 0 0)]))]) (fU u0):=
  gu tT mX Tryz.func31 (
  .rg {fr:=[(0,3)]} []<| .r<| .en () [] [(3,2)])
noncomputable def dQ:iC:=⟨[19,20],Ng ([1,0,1,0,0,0,1,0,1,0]++[0]) (sO Tryz.f30),Ng ([1,0,1,0,0,0,1,0,1,0]++[1]) (sO Tryz.f30),114,[.exit 1]⟩
section
variable (u5:Int) (o_:(List Int)) (u0:Int) (u1:Int) (u3:(List bY)) (u6:Network) (u2:Int) (u4:Int)
abbrev WS:=((0:Int)≤u5∧u5<((o_.set u0.toNat u1).length:Int))
abbrev OM:=(at' (o_.set u0.toNat u1) u5.toNat)
abbrev RB:=(IntKind.wrap .i64 (((BitVec.ofInt (IntKind.bits .i64) (OM u5 o_ u0 u1) ^^^ BitVec.ofInt (IntKind.bits .i64) 1).toNat:Int)))
abbrev k97:=((RB u5 o_ u0 u1).toNat)
abbrev k98:List (Nat × Option Ob):=[(4,some (.cells 93 [(.own 6 false u3.length),(.d (VU u6))])),(6,some (bQ 103 2 bY.cell u3))]
abbrev La:=(u3.set ((OM u2 o_ u0 u1).toNat) (⟨(at' u3 ((OM u2 o_ u0 u1).toNat)).to_,(IntKind.wrap .i64 (((at' u3 ((OM u2 o_ u0 u1).toNat)).left) - u4))⟩:bY))
abbrev k99:=(aA bY.cell (La o_ u0 u1 u3 u2 u4))
abbrev ZN:=(at' (La o_ u0 u1 u3 u2 u4) (k97 u2 o_ u0 u1))
abbrev aaE:=(IntKind.wrap .i64 (((ZN o_ u0 u1 u3 u2 u4).left)+u4))
abbrev Qm:=((La o_ u0 u1 u3 u2 u4).set (k97 u2 o_ u0 u1) (⟨(ZN o_ u0 u1 u3 u2 u4).to_,(aaE o_ u0 u1 u3 u2 u4)⟩:bY))
abbrev Zy:=(aA bY.cell (Qm o_ u0 u1 u3 u2 u4))
abbrev Z6:=((La o_ u0 u1 u3 u2 u4).length)
end
theorem qw (u0:Int) (u1:Int) (u7:Int) (o_:(List Int)) (u6:Network):Wq Tryz.prog 0 [(sI u0),(sI u1)] [(0,some (.loop dQ 0 [(2,(vP 1 0)),(3,(vP 2 0)),(4,(vP 3 0))])),(1,some (.cells 89 [(.ptr 4 0)])),(2,some (.cells 3 [(cI u7)])),(3,some (.cells 44 [(.own 5 true o_.length)])),(4,some (.cells 93 [(.own 6 false u6.ay.length),(.d (VU u6))])),(5,some (bQ 3 1 (aF .i64) o_)),(6,some (bQ 103 2 bY.cell u6.ay))] (fun r=>vB (Nat.beq r.1 0)) (fun r=>[(0,some (.loop dQ r.1 [(2,(vP 1 0)),(3,(vP 2 0)),(4,(vP 3 0))])),(1,some (.cells 89 [(.ptr 4 0)])),(2,some (.cells 3 [(cI u7)])),(3,some (.cells 44 [(.own 5 true r.2.1.length)])),(4,some (.cells 93 [(.own 6 false r.2.2.ay.length),(.d (bN none 1 (zX 1 (aF .i64)) r.2.2.from_))])),(5,some (bQ 3 1 (aF .i64) r.2.1)),(6,some (bQ 103 2 bY.cell r.2.2.ay))]) (dS u0 u1 u7 o_ u6):=
  scY tT mX dQ ⟨[2,3,4],[0,1,2,3,4,5,6],fun _=>[(5,(vI u0)),(6,(vI u1))],fun _=>[]⟩ (.r<| .r<| .e ())
  (.a1 (YP o_ u0)<| .rg {an:=[(4, .arr 0 (aA (aF .i64) (o_.set u0.toNat u1)))]} [0, .t 0 u0 o_.length, .pf ⟨aU o_.length 1 (mh (aA (aF .i64) o_) u0.toNat 0 [(.int .i64 u1)]) (aA (aF .i64) (o_.set u0.toNat u1)),dB _ _ _ _ _ _ _ _ rfl (fun j hj=>(match j,hj with|0,_=>rfl))⟩]<| .im (.ll 5 o_ (o_.set u0.toNat u1))<| .r<| .it (.e (0,(o_.set u0.toNat u1),u6))
(.r<| .r<| .lp (σ:=(Int × Int)) (β:=Int) ((-1),u7) [] [] ⟨[2,3,4],[0,1,2,3,4,5,6],fun(u8,u5)=>[(7,(vI u8)),(8,(vI u5))],fun(u8,u5)=>[]⟩ ⟨[2,3,4],[0,1,2,3,4,5,6],fun u4=>[(7,(vI u4))],fun u4=>[]⟩
(fun(u8,u5)=> .a1 (WS u5 o_ u0 u1)<| .rg {} [0, .t 0 u5 ((o_.set u0.toNat u1).length)]<| .it (.jN (β:=Int) 2 ⟨[2,3,4,8],[0,1,2,3,4,5,6],fun v0=>[(7,(vI v0))],fun v0=>[]⟩ (.a2 (WS u5 o_ u0 u1) ((0:Int)≤(OM u5 o_ u0 u1)∧(OM u5 o_ u0 u1)<(u6.ay.length:Int))<| .rg {} [0, .t 0 u5 ((o_.set u0.toNat u1).length),1, .t 1 (OM u5 o_ u0 u1) u6.ay.length]<| .r<| .it (.r<| .e ((at' u6.ay ((OM u5 o_ u0 u1).toNat)).left))
(.e u8))
(fun v0=> .a2 (WS u5 o_ u0 u1) ((0:Int)≤(RB u5 o_ u0 u1)∧(RB u5 o_ u0 u1)<(u6.ay.length:Int))<| .rg {} [0, .t 0 u5 ((o_.set u0.toNat u1).length),1, .t 1 (RB u5 o_ u0 u1) u6.ay.length]<| .e (.next (v0,(at' u6.ay (k97 u5 o_ u0 u1)).to_))))
(.e (.done (.brk u8))))
(fun u4=> .r<| .lp (σ:=((List bY) × Int)) (β:=(List bY)) (u6.ay,u7) [] [] ⟨[2,4,7],[0,1,2,3,5],fun(u3,u2)=>[(10,(vI u2))],fun(u3,u2)=>(k98 u3 u6)⟩ ⟨[],[0,1,2,3,5],fun u9=>[],fun u9=>(k98 u9 u6)⟩
(fun(u3,u2)=> .a1 (WS u2 o_ u0 u1)<| .rg {} [0, .t 0 u2 ((o_.set u0.toNat u1).length)]<| .it (.a2 (WS u2 o_ u0 u1) ((0:Int)≤(OM u2 o_ u0 u1)∧(OM u2 o_ u0 u1)<(u3.length:Int))<| .rg {an:=[(15, .arr 0 (k99 o_ u0 u1 u3 u2 u4))]} [0, .t 0 u2 ((o_.set u0.toNat u1).length),1, .t 1 (OM u2 o_ u0 u1) u3.length,1, .t 1 (OM u2 o_ u0 u1) u3.length, .pf ⟨aU u3.length 2 (mh (aA bY.cell u3) ((OM u2 o_ u0 u1).toNat) 1 [(.int .i64 (IntKind.wrap .i64 (((at' u3 ((OM u2 o_ u0 u1).toNat)).left) - u4)))]) (k99 o_ u0 u1 u3 u2 u4),dB _ _ _ _ _ _ _ _ rfl (fun j hj=>(match j,hj with|0,_=>rfl|1,_=>rfl))⟩]<| .im (.ll 6 u3 (La o_ u0 u1 u3 u2 u4))<| .a2 (WS u2 o_ u0 u1) ((0:Int)≤(RB u2 o_ u0 u1)∧(RB u2 o_ u0 u1)<((La o_ u0 u1 u3 u2 u4).length:Int))<| .rg {an:=[(16, .arr 0 (Zy o_ u0 u1 u3 u2 u4))]} [0, .t 0 u2 ((o_.set u0.toNat u1).length),1, .t 1 (RB u2 o_ u0 u1) (Z6 o_ u0 u1 u3 u2 u4),1, .t 1 (RB u2 o_ u0 u1) (Z6 o_ u0 u1 u3 u2 u4), .pf ⟨aU (La o_ u0 u1 u3 u2 u4).length 2 (mh (k99 o_ u0 u1 u3 u2 u4) (k97 u2 o_ u0 u1) 1 [(.int .i64 (aaE o_ u0 u1 u3 u2 u4))]) (Zy o_ u0 u1 u3 u2 u4),dB _ _ _ _ _ _ _ _ rfl (fun j hj=>(match j,hj with|0,_=>rfl|1,_=>rfl))⟩]<| .im (.ll 6 (La o_ u0 u1 u3 u2 u4) (Qm o_ u0 u1 u3 u2 u4))<| .a2 (WS u2 o_ u0 u1) ((0:Int)≤(RB u2 o_ u0 u1)∧(RB u2 o_ u0 u1)<((Qm o_ u0 u1 u3 u2 u4).length:Int))<| .rg {} [0, .t 0 u2 ((o_.set u0.toNat u1).length),1, .t 1 (RB u2 o_ u0 u1) ((Qm o_ u0 u1 u3 u2 u4).length)]<| .e (.next ((Qm o_ u0 u1 u3 u2 u4),(at' (Qm o_ u0 u1 u3 u2 u4) (k97 u2 o_ u0 u1)).to_)))
(.e (.done (.brk u3))))
(fun u9=> .e (2,(o_.set u0.toNat u1),(⟨u9,u6.from_⟩:Network))))))
section
variable (o_:bJ)
abbrev aaq:List (Nat × Option Ob):=[(0,some (.cells 147 [(.own 1 false o_.l.length)])),(1,some (bQ 41 2 ah.cell o_.l))]
end
theorem qm (x:ah) (o_:bJ):fA Tryz.prog 59 [(.one (.ptr 0 0)),(.agg [(cI x.e0),(cI x.e1)])] (aaq o_) (fun r=>(.iw [])) (fun r=>[(0,some (.cells 147 [(.own 2 false r.l.length)])),(1,none),(2,some (bQ 41 2 ah.cell r.l))]) (jJ x o_):=
  gu tT mX Tryz.func59 (
  .rg {fr:=[(0,5)],fz:=[5]} []<| .a2 ((o_.l.length+[x].length)*16≤140737488355328) (o_.l.length+[x].length≤4611686018427387904)<| .rg {an:=[(6, .arr [x].length (aA ah.cell [x])),(7, .arr (o_.l++[x]).length (aA ah.cell (o_.l++[x])))],fr:=[(6,6),(7,7)]} [.pf ⟨[x].length=1,rfl⟩, .pf ⟨aU 1 2 (qg 2 [(.int .i64 x.e0),(.int .i64 x.e1)]) (aA ah.cell [x]),(by intro i hi j hj;match i,j,hi,hj with|0,0,_,_=>rfl|0,1,_,_=>rfl)⟩, .e (o_.l.length),0,1, .pf ⟨(o_.l++[x]).length=o_.l.length+[x].length,List.length_append⟩, .pf ⟨aU (o_.l.length+[x].length) 2 (rW (aA ah.cell o_.l) o_.l.length (aA ah.cell [x])) (aA ah.cell (o_.l++[x])),eT _ _ _ _⟩]<| .en (⟨(o_.l++[x])⟩:bJ) [] [(7,2)])
theorem pI (o_:bJ):fA Tryz.prog 60 [(.one (.ptr 0 0))] (aaq o_) (fun r=>(.iw [(.agg [(cI r.1.e0),(cI r.1.e1)]),(sB r.2.1)])) (fun r=>[(0,some (.cells 147 [(.own 2 false r.2.2.l.length)])),(1,none),(2,some (bQ 41 2 ah.cell r.2.2.l))]) (jl o_):=
  gu tT mX Tryz.func60 (
  .rg {fr:=[(0,4)]} []<| .r<| .it (.rg {fz:=[4]} []<| .im (.re 0 0 1 5)<| .en ((⟨0,0⟩:ah),false,o_) [] [(5,2)])
  (.a2 ((0:Int)≤0∧0<(o_.l.length:Int)) ((0:Int)≤(1:Int)∧(1:Int)≤(o_.l.length:Int))<| .rg {an:=[(11, .cells)],fr:=[(11,6)]} [0, .t 0 0 o_.l.length, .e (o_.l.length),1]<| .un 1 6 41 2 ah.cell o_.l (1:Int) 1<| .im (.ln 6 (o_.l.length - 1) ((o_.l.drop 1).length) (by simp only [List.length_set,List.length_append,List.length_cons,List.length_nil,List.length_replicate,List.length_drop,fq]))<| .rg {fz:=[4]} []<| .en ((at' o_.l 0),true,(⟨(o_.l.drop 1)⟩:bJ)) [] [(6,2)]))
section
variable (u1:Network) (r_:(Nat × (List Int) × Network)) (u4:Int) (u6:(List Int)) (u5:(List bY)) (u7:(List (List Int))) (u3:(List Bool)) (u9:(List ah)) (u0:Int) (u2:Int)
abbrev U7:List (Nat × TV):=[(2,(vP 2 0)),(3,(vP 3 0)),(4,(vP 4 0))]
abbrev X4:Nat × Option Ob:=(0,some (.loop dQ 0 U7))
abbrev Q7:Nat × Option Ob:=(2,some (.cells 89 [(.ptr 5 0)]))
abbrev Mk:=(List.replicate ((u1.from_.length:Int).toNat) (false:Bool))
abbrev XT:=(aA ai (Mk u1))
abbrev UM:=((Mk u1).set 0 true)
abbrev aat:Nat × Option Ob:=(5,some (.cells 93 [(.own 7 false r_.2.2.ay.length),(.d (bN none 1 (zX 1 (aF .i64)) r_.2.2.from_))]))
abbrev aa4:List (Nat × Option Ob):=[X4,Q7,(3,some (.cells 3 [(cI u4)])),(4,some (.cells 44 [(.own 6 true r_.2.1.length)])),(aat r_),(6,some (bQ 3 1 (aF .i64) r_.2.1)),(7,some (bQ 103 2 bY.cell r_.2.2.ay))]
abbrev Va:List (Nat × Option Ob):=[X4,Q7,(3,some (.cells 3 [(cI u4)])),(4,some (.cells 44 [(.own 6 true u6.length)])),(5,some (.cells 93 [(.own 7 false u5.length),(.d (bN none 1 (zX 1 (aF .i64)) u7))])),(6,some (bQ 3 1 (aF .i64) u6)),(7,some (bQ 103 2 bY.cell u5))]
abbrev VB:List (Nat × Option Ob):=[(0,some (.loop dQ r_.1 U7)),Q7,(3,some (.cells 3 [(cI u4)])),(4,some (.cells 44 [(.own 6 true r_.2.1.length)])),(aat r_),(6,some (bQ 3 1 (aF .i64) r_.2.1)),(7,some (bQ 103 2 bY.cell r_.2.2.ay))]
abbrev Z9:List (Nat × Option Ob):=[(12,some (bQ 4 1 ai u3)),(13,some (.cells 147 [(.own 14 false u9.length)])),(14,some (bQ 41 2 ah.cell u9))]
abbrev TM:=(at' (at' r_.2.2.from_ u0.toNat) u2.toNat)
abbrev KY:=(at' r_.2.2.ay ((TM r_ u0 u2).toNat))
abbrev Vu:=((KY r_ u0 u2).to_)
abbrev WW:=(u3.set ((Vu r_ u0 u2).toNat) true)
abbrev ZE:=(aA ai (WW r_ u3 u0 u2))
end
theorem qE (u4:Int) (o_:(List Int)) (u1:Network):fA Tryz.prog 58 [(.one (.yl 0)),(.one (.ptr 1 0))] [X4,(1,some (.cells 89 [(.ptr 5 0)])),Q7,(3,some (.cells 3 [(cI u4)])),(4,some (.cells 44 [(.own 6 true o_.length)])),(5,some (.cells 93 [(.own 7 false u1.ay.length),(.d (VU u1))])),(6,some (bQ 3 1 (aF .i64) o_)),(7,some (bQ 103 2 bY.cell u1.ay))] (fun r=>(.iw [])) (fun r=>[(0,some (.loop dQ r.1 U7)),(1,some (.cells 89 [(.ptr 5 0)])),Q7,(3,some (.cells 3 [(cI u4)])),(4,some (.cells 44 [(.own 6 true r.2.1.length)])),(5,some (.cells 93 [(.own 7 false r.2.2.ay.length),(.d (bN none 1 (zX 1 (aF .i64)) r.2.2.from_))])),(6,some (bQ 3 1 (aF .i64) r.2.1)),(7,some (bQ 103 2 bY.cell r.2.2.ay))]) (gX u4 o_ u1):=
  gu tT mX Tryz.func58 (
  .a3 ((0:Int)≤(u1.from_.length:Int)) ((1:Int)*(u1.from_.length:Int)≤281474976710656) (((u1.from_.length:Int):Int)≤9223372036854775807)<| .rg {an:=[(5, .arr (Mk u1).length (XT u1))],fr:=[(5,12)]} [0, .e (((u1.from_.length:Int):Int)),1,2, .pf ⟨(Mk u1).length=((u1.from_.length:Int).toNat),List.length_replicate⟩, .pf ⟨aU ((u1.from_.length:Int).toNat) 1 (fun _ j=>[(.bool false)].getD j .nilp) (XT u1),lH _ _ _ _ _ (fun j hj=>(match j,hj with|0,_=>rfl))⟩]<| .a1 ((0:Int)≤0∧0<((Mk u1).length:Int))<| .rg {an:=[(2, .arr 0 (aA ai (UM u1)))]} [0, .t 0 0 ((Mk u1).length), .pf ⟨aU (Mk u1).length 1 (mh (XT u1) 0 0 [(.bool true)]) (aA ai (UM u1)),dB _ _ _ _ _ _ _ _ rfl (fun j hj=>(match j,hj with|0,_=>rfl))⟩]<| .im (.ll 12 (Mk u1) (UM u1))<| .rg {fr:=[(0,13)]} []<| .im (.ou 13 0 14 41 2 (aA ah.cell ([]:List ah)))<| .rg {fr:=[(1,15)]} []<| .lp (σ:=((List bY) × (List (List Int)) × (List Int) × (List Bool) × (List ah) × Int × Int)) (β:=Unit) (u1.ay,u1.from_,o_,(UM u1),([]:List ah),0,(-1)) [] [] ⟨[0,1,4,5],[0,1,2,3],fun(u5,u7,u6,v0,q0,u0,u8)=>[(3,(vO 12 true v0.length))],fun(u5,u7,u6,v0,q0,u0,u8)=>[(4,some (.cells 44 [(.own 6 true u6.length)])),(5,some (.cells 93 [(.own 7 false u5.length),(.d (bN none 1 (zX 1 (aF .i64)) u7))])),(6,some (bQ 3 1 (aF .i64) u6)),(7,some (bQ 103 2 bY.cell u5)),(12,some (bQ 4 1 ai v0)),(13,some (.cells 147 [(.own 14 false q0.length)])),(14,some (bQ 41 2 ah.cell q0)),(15,some (.cells 41 [(cI u0),(cI u8)]))]⟩ ⟨[],[],fun _=>[],fun _=>[]⟩
  (fun(u5,u7,u6,v0,q0,u0,u8)=> .cy 5 (rkY [(1,2),(1,3),(1,4),(1,5),(1,6),(1,7)] (qw u0 u8 u4 u6 (⟨u5,u7⟩:Network))) fun r_=> .fk (Nat.beq r_.1 0) (.rg {an:=[(5, .call [0,2,3,4,5,6,7] (vB true) (aa4 r_ u4))]} [.pf ⟨(0:Int)≤0∧(0:Int)<(2:Nat),(by decide)⟩, .pf ⟨(0:Int)≤1∧(1:Int)<(2:Nat),(by decide)⟩, .m [1,0] [Yl Tryz.prog 0 [(sI u0),(sI u8)] (Va u4 u6 u5 u7) (vB (Nat.beq r_.1 0)) (VB r_ u4),(Nat.beq r_.1 0)=true] (Yl Tryz.prog 0 [(sI u0),(sI u8)] (Va u4 u6 u5 u7) (vB true) (aa4 r_ u4)) (fun⟨hy,hb,_⟩=>Yl.leR hy (zC.of (congrArg vB hb)) ⟨rfl,Lc.of (congrArg (fun n=>some (Ob.loop dQ n U7)) (Nat.eq_of_beq_eq_true hb)),⟨rfl, .refl _,⟨rfl, .refl _,⟨rfl, .refl _,⟨rfl, .refl _,⟨rfl, .refl _,⟨rfl, .refl _,trivial⟩⟩⟩⟩⟩⟩⟩)]<| .f<| .a1 ((0:Int)≤u0∧u0<(r_.2.2.from_.length:Int))<| .rg {} [.pf ⟨(0:Int)≤0∧(0:Int)<(2:Nat),(by decide)⟩,0]<| .lp (σ:=((List Bool) × (List ah) × Int)) (β:=((List Bool) × (List ah))) (v0,q0,0) [] [] ⟨[0,1,4,5,34,35],[0,1,2,3,4,5,6,7,15],fun(u3,u9,u2)=>[(3,(vO 12 true u3.length)),(36,(vI u2))],fun(u3,u9,u2)=>(Z9 u3 u9)⟩ ⟨[0,1,4,5],[0,1,2,3,4,5,6,7,15],fun(v1,v2)=>[(3,(vO 12 true v1.length))],fun(v1,v2)=>(Z9 v1 v2)⟩
  (fun(u3,u9,u2)=> .r<| .it (.a1 ((0:Int)≤u2∧u2<((at' r_.2.2.from_ u0.toNat).length:Int))<| .r<| .a1 ((0:Int)≤(TM r_ u0 u2)∧(TM r_ u0 u2)<(r_.2.2.ay.length:Int))<| .rg {fr:=[(7,22)]} [0, .t 0 (TM r_ u0 u2) r_.2.2.ay.length]<| .a1 ((gB [((decide (0<((KY r_ u0 u2).left))),true)]=true→(0:Int)≤(KY r_ u0 u2).to_∧(KY r_ u0 u2).to_<(u3.length:Int)))<| .rg {} [0, .tg 0 [((decide (0<((KY r_ u0 u2).left))),true)] (Vu r_ u0 u2) u3.length]<| .it (.a1 ((0:Int)≤(KY r_ u0 u2).to_∧(KY r_ u0 u2).to_<(u3.length:Int))<| .rg {an:=[(4, .arr 0 (ZE r_ u3 u0 u2))],fz:=[22]} [0, .t 0 (Vu r_ u0 u2) u3.length, .pf ⟨aU u3.length 1 (mh (aA ai u3) ((Vu r_ u0 u2).toNat) 0 [(.bool true)]) (ZE r_ u3 u0 u2),dB _ _ _ _ _ _ _ _ rfl (fun j hj=>(match j,hj with|0,_=>rfl))⟩]<| .im (.ll 12 u3 (WW r_ u3 u0 u2))<| .cl 4 (fI [(0,13),(1,14),(2,23)] (qm (⟨(KY r_ u0 u2).to_,(TM r_ u0 u2)⟩:ah) (⟨u9⟩:bJ))) fun v4=> .r<| .r<| .en (.next ((WW r_ u3 u0 u2),v4.l,(k10 u2))) [] [(23,14)])
  (.r<| .e (.next (u3,u9,(k10 u2)))))
  (.e (.done (.brk (u3,u9)))))
  (fun(v1,v2)=> .cl 0 (fI [(0,13),(1,14),(2,24)] (pI (⟨v2⟩:bJ))) fun v3=> .rg {fr:=[(4,25)]} []<| .r<| .it (.e (.done (.ret (0,r_.2.1,r_.2.2))))
  (.r<| .r<| .rg {fr:=[(0,26)]} []<| .en (.next (r_.2.2.ay,r_.2.2.from_,r_.2.1,v1,v3.2.2.l,v3.1.e0,v3.1.e1)) [] [(24,14),(26,15)])))
  (.rg {an:=[(5, .call [0,2,3,4,5,6,7] (vB false) (VB r_ u4))]} [.pf ⟨(0:Int)≤0∧(0:Int)<(2:Nat),(by decide)⟩, .pf ⟨(0:Int)≤1∧(1:Int)<(2:Nat),(by decide)⟩, .m [1,0] [Yl Tryz.prog 0 [(sI u0),(sI u8)] (Va u4 u6 u5 u7) (vB (Nat.beq r_.1 0)) (VB r_ u4),(Nat.beq r_.1 0)=false] (Yl Tryz.prog 0 [(sI u0),(sI u8)] (Va u4 u6 u5 u7) (vB false) (VB r_ u4)) (fun⟨hy,hb,_⟩=>Yl.leR hy (zC.of (congrArg vB hb)) ⟨rfl, .refl _,⟨rfl, .refl _,⟨rfl, .refl _,⟨rfl, .refl _,⟨rfl, .refl _,⟨rfl, .refl _,⟨rfl, .refl _,trivial⟩⟩⟩⟩⟩⟩⟩)]<| .t<| .e (.done (.ret (r_.1,r_.2.1,r_.2.2)))))
  (fun _=> .no))
section
variable (o1:(List (List Int)))
abbrev RH:=(List.replicate ((o1.length:Int).toNat) (0:Int))
end
theorem wP (u2:Int) (u0:Network):fA Tryz.prog 30 [(.one (.ptr 0 0)),(sI u2)] (k91 u0) (fun r=>(.iw [])) (fun r=>[(0,some (.cells 93 [(.own 1 false r.ay.length),(.d (bN none 1 (zX 1 (aF .i64)) r.from_))])),(1,some (bQ 103 2 bY.cell r.ay))]) (jC u2 u0):=
  gu tT mX Tryz.func30 (
  .rg {fr:=[(0,20),(1,21)]} []<| .ss<| .lp (σ:=((List bY) × (List (List Int)))) (β:=Unit) (u0.ay,u0.from_) [] [] ⟨[2,3],[20,21],fun(o0,o1)=>[],fun(o0,o1)=>[(0,some (.cells 93 [(.own 1 false o0.length),(.d (bN none 1 (zX 1 (aF .i64)) o1))])),(1,some (bQ 103 2 bY.cell o0))]⟩ ⟨[],[],fun _=>[],fun _=>[]⟩
  (fun(o0,o1)=> .a3 ((0:Int)≤(o1.length:Int)) ((8:Int)*(o1.length:Int)≤281474976710656) (((o1.length:Int):Int)≤9223372036854775807)<| .rg {an:=[(5, .arr (RH o1).length (aA (aF .i64) (RH o1)))],fr:=[(5,34),(6,35)]} [0, .e (((o1.length:Int):Int)),1,2, .pf ⟨(RH o1).length=((o1.length:Int).toNat),List.length_replicate⟩, .pf ⟨aU ((o1.length:Int).toNat) 1 (fun _ j=>[(.int .i64 0)].getD j .nilp) (aA (aF .i64) (RH o1)),lH _ _ _ _ _ (fun j hj=>(match j,hj with|0,_=>rfl))⟩]<| .cl 1 (fI [(2,36)] (lT (⟨o0,o1⟩:Network))) fun r_=> .r<| .cl 0 (fI [(0,37),(1,36),(2,20),(3,21),(4,35),(5,0),(6,34),(7,1)] (qE u2 (RH o1) (⟨o0,o1⟩:Network))) fun u1=> .fk (Nat.beq u1.1 0) (.rf 37 [2,3,4] [.exit 1] none 1 [0]<| .e (.done (.ret u1.2.2)))
  (.a1 (u1.1=2)<| .rf 37 [2,3,4] [.exit 1] (some 0) 2 [.oe 0 u1.1 2]<| .e (.next (u1.2.2.ay,u1.2.2.from_))))
  (fun _=> .no))
noncomputable def jT:iC:=⟨[236,237],Ng ([1,1,1,1,1,1,1,1,1,1,1,1,1,1,0,1,0]++[0]) (sO Tryz.f12),Ng ([1,1,1,1,1,1,1,1,1,1,1,1,1,1,0,1,0]++[1]) (sO Tryz.f12),252,[]⟩
section
variable (u1:au) (o_:(List Bool))
abbrev WA:Nat × Option Ob:=(0,some (.loop jT 0 [(2,(vP 1 0)),(28,(vP 2 0))]))
abbrev ZA:Ob:=(.cells 26 (k1 u1))
abbrev WC:Nat × Option Ob:=(1,some (ZA u1))
abbrev ZL:List (Nat × Option Ob):=[WA,(WC u1),(2,some (.cells 27 [(.own 3 true o_.length)])),(3,some (bQ 4 1 ai o_))]
end
theorem yt (u0:Int) (u2:Int) (u1:au) (o_:(List Bool)):Wq Tryz.prog 0 [(sI u0),(sI u2)] (ZL u1 o_) (fun _=>vB true) (fun r=>[WA,(WC u1),(2,some (.cells 27 [(.own 3 true r.length)])),(3,some (bQ 4 1 ai r))]) (kM u0 u2 u1 o_):=
  scY tT mX jT ⟨[2,28],[0,1,2,3],fun _=>[(29,(vI u0))],fun _=>[]⟩ (.r<| .e ())
  (.r<| .it (.a1 ((0:Int)≤(k5 u0)∧(k5 u0)<(o_.length:Int))<| .rg {an:=[(4, .arr 0 (aA ai (o_.set ((k5 u0).toNat) true)))]} [0, .t 0 (k5 u0) o_.length, .pf ⟨aU o_.length 1 (mh (aA ai o_) ((k5 u0).toNat) 0 [(.bool true)]) (aA ai (o_.set ((k5 u0).toNat) true)),dB _ _ _ _ _ _ _ _ rfl (fun j hj=>(match j,hj with|0,_=>rfl))⟩]<| .im (.ll 3 o_ (o_.set ((k5 u0).toNat) true))<| .e (o_.set ((k5 u0).toNat) true))
(.e o_))
end
end Sg
