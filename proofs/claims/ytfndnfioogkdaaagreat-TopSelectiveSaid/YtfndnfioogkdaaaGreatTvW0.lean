import Derived.Test.YtfndnfioogkdaaaGreatTvGm
import Derived.Test.YtfndnfioogkdaaaGreatProg
import Derived.Test.YtfndnfioogkdaaaGreatTvLf
import Derived.Test.YtfndnfioogkdaaaGreatTvLe
set_option linter.all false
namespace Sg
open Go Go.Proofs
set_option maxRecDepth 20000
noncomputable section
noncomputable def TT:List (Nat × TI):=[(3,⟨Tryz.t3.desc,Tryz.t3.size,Tryz.t3.bytes,zl Tryz.t3,false⟩),
  (4,⟨Tryz.t4.desc,Tryz.t4.size,Tryz.t4.bytes,zl Tryz.t4,false⟩),
  (22,⟨Tryz.t22.desc,Tryz.t22.size,Tryz.t22.bytes,zl Tryz.t22,false⟩),
  (23,⟨Tryz.t23.desc,Tryz.t23.size,Tryz.t23.bytes,zl Tryz.t23,false⟩),
  (24,⟨Tryz.t24.desc,Tryz.t24.size,Tryz.t24.bytes,zl Tryz.t24,false⟩),
  (26,⟨Tryz.t25.desc,Tryz.t26.size,Tryz.t26.bytes,zl Tryz.t26,false⟩),
  (27,⟨Tryz.t27.desc,Tryz.t27.size,Tryz.t27.bytes,zl Tryz.t27,false⟩),
  (29,⟨Tryz.t28.desc,Tryz.t29.size,Tryz.t29.bytes,zl Tryz.t29,false⟩),
  (31,⟨Tryz.t3.desc,Tryz.t31.size,Tryz.t31.bytes,zl Tryz.t31,false⟩),
  (35,⟨Tryz.t35.desc,Tryz.t35.size,Tryz.t35.bytes,zl Tryz.t35,false⟩),
  (41,⟨Tryz.t41.desc,Tryz.t41.size,Tryz.t41.bytes,zl Tryz.t41,true⟩),
  (43,⟨Tryz.t42.desc,Tryz.t43.size,Tryz.t43.bytes,zl Tryz.t43,true⟩),
  (44,⟨Tryz.t44.desc,Tryz.t44.size,Tryz.t44.bytes,zl Tryz.t44,false⟩),
  (45,⟨Tryz.t45.desc,Tryz.t45.size,Tryz.t45.bytes,zl Tryz.t45,false⟩),
  (47,⟨Tryz.t46.desc,Tryz.t47.size,Tryz.t47.bytes,zl Tryz.t47,false⟩),
  (50,⟨Tryz.t50.desc,Tryz.t50.size,Tryz.t50.bytes,zl Tryz.t50,true⟩),
  (57,⟨Tryz.t57.desc,Tryz.t57.size,Tryz.t57.bytes,zl Tryz.t57,false⟩),
  (60,⟨Tryz.t3.desc,Tryz.t60.size,Tryz.t60.bytes,zl Tryz.t60,false⟩),
  (62,⟨Tryz.t61.desc,Tryz.t62.size,Tryz.t62.bytes,zl Tryz.t62,true⟩),
  (65,⟨Tryz.t65.desc,Tryz.t65.size,Tryz.t65.bytes,zl Tryz.t65,false⟩),
  (66,⟨Tryz.t66.desc,Tryz.t66.size,Tryz.t66.bytes,zl Tryz.t66,false⟩),
  (67,⟨Tryz.t3.desc,Tryz.t67.size,Tryz.t67.bytes,zl Tryz.t67,false⟩),
  (68,⟨Tryz.t68.desc,Tryz.t68.size,Tryz.t68.bytes,zl Tryz.t68,false⟩),
  (70,⟨Tryz.t69.desc,Tryz.t70.size,Tryz.t70.bytes,zl Tryz.t70,false⟩),
  (75,⟨Tryz.t75.desc,Tryz.t75.size,Tryz.t75.bytes,zl Tryz.t75,false⟩),
  (77,⟨Tryz.t76.desc,Tryz.t77.size,Tryz.t77.bytes,zl Tryz.t77,false⟩),
  (78,⟨Tryz.t3.desc,Tryz.t78.size,Tryz.t78.bytes,zl Tryz.t78,false⟩),
  (80,⟨Tryz.t79.desc,Tryz.t80.size,Tryz.t80.bytes,zl Tryz.t80,true⟩),
  (83,⟨Tryz.t83.desc,Tryz.t83.size,Tryz.t83.bytes,zl Tryz.t83,false⟩),
  (89,⟨Tryz.t89.desc,Tryz.t89.size,Tryz.t89.bytes,zl Tryz.t89,false⟩),
  (90,⟨Tryz.t90.desc,Tryz.t90.size,Tryz.t90.bytes,zl Tryz.t90,false⟩),
  (91,⟨Tryz.t91.desc,Tryz.t91.size,Tryz.t91.bytes,zl Tryz.t91,false⟩),
  (93,⟨Tryz.t92.desc,Tryz.t93.size,Tryz.t93.bytes,zl Tryz.t93,false⟩),
  (94,⟨Tryz.t94.desc,Tryz.t94.size,Tryz.t94.bytes,zl Tryz.t94,false⟩),
  (95,⟨Tryz.t95.desc,Tryz.t95.size,Tryz.t95.bytes,zl Tryz.t95,false⟩),
  (96,⟨Tryz.t3.desc,Tryz.t96.size,Tryz.t96.bytes,zl Tryz.t96,false⟩),
  (98,⟨Tryz.t97.desc,Tryz.t98.size,Tryz.t98.bytes,zl Tryz.t98,true⟩),
  (103,⟨Tryz.t102.desc,Tryz.t103.size,Tryz.t103.bytes,zl Tryz.t103,true⟩),
  (107,⟨Tryz.t107.desc,Tryz.t107.size,Tryz.t107.bytes,zl Tryz.t107,false⟩),
  (109,⟨Tryz.t108.desc,Tryz.t109.size,Tryz.t109.bytes,zl Tryz.t109,false⟩),
  (114,⟨Tryz.t113.desc,Tryz.t114.size,Tryz.t114.bytes,zl Tryz.t114,true⟩),
  (126,⟨Tryz.t126.desc,Tryz.t126.size,Tryz.t126.bytes,zl Tryz.t126,false⟩),
  (129,⟨Tryz.t129.desc,Tryz.t129.size,Tryz.t129.bytes,zl Tryz.t129,false⟩),
  (132,⟨Tryz.t132.desc,Tryz.t132.size,Tryz.t132.bytes,zl Tryz.t132,false⟩),
  (137,⟨Tryz.t137.desc,Tryz.t137.size,Tryz.t137.bytes,zl Tryz.t137,false⟩),
  (140,⟨Tryz.t139.desc,Tryz.t140.size,Tryz.t140.bytes,zl Tryz.t140,false⟩),
  (141,⟨Tryz.t141.desc,Tryz.t141.size,Tryz.t141.bytes,zl Tryz.t141,false⟩),
  (147,⟨Tryz.t146.desc,Tryz.t147.size,Tryz.t147.bytes,zl Tryz.t147,false⟩),
  (151,⟨Tryz.t151.desc,Tryz.t151.size,Tryz.t151.bytes,zl Tryz.t151,false⟩),
  (153,⟨Tryz.t152.desc,Tryz.t153.size,Tryz.t153.bytes,zl Tryz.t153,false⟩),
  (163,⟨Tryz.t162.desc,Tryz.t163.size,Tryz.t163.bytes,zl Tryz.t163,true⟩),
  (167,⟨Tryz.t167.desc,Tryz.t167.size,Tryz.t167.bytes,zl Tryz.t167,false⟩),
  (168,⟨Tryz.t168.desc,Tryz.t168.size,Tryz.t168.bytes,zl Tryz.t168,false⟩),
  (172,⟨Tryz.t171.desc,Tryz.t172.size,Tryz.t172.bytes,zl Tryz.t172,false⟩),
  (179,⟨Tryz.t179.desc,Tryz.t179.size,Tryz.t179.bytes,zl Tryz.t179,false⟩),
  (180,⟨Tryz.t180.desc,Tryz.t180.size,Tryz.t180.bytes,zl Tryz.t180,false⟩),
  (182,⟨Tryz.t181.desc,Tryz.t182.size,Tryz.t182.bytes,zl Tryz.t182,false⟩),
  (185,⟨Tryz.t185.desc,Tryz.t185.size,Tryz.t185.bytes,zl Tryz.t185,false⟩),
  (186,⟨Tryz.t186.desc,Tryz.t186.size,Tryz.t186.bytes,zl Tryz.t186,false⟩),
  (192,⟨Tryz.t192.desc,Tryz.t192.size,Tryz.t192.bytes,zl Tryz.t192,false⟩),
  (193,⟨Tryz.t193.desc,Tryz.t193.size,Tryz.t193.bytes,zl Tryz.t193,false⟩),
  (205,⟨Tryz.t205.desc,Tryz.t205.size,Tryz.t205.bytes,zl Tryz.t205,false⟩),
  (207,⟨Tryz.t206.desc,Tryz.t207.size,Tryz.t207.bytes,zl Tryz.t207,false⟩),
  (208,⟨Tryz.t208.desc,Tryz.t208.size,Tryz.t208.bytes,zl Tryz.t208,false⟩),
  (213,⟨Tryz.t213.desc,Tryz.t213.size,Tryz.t213.bytes,zl Tryz.t213,false⟩),
  (218,⟨Tryz.t217.desc,Tryz.t218.size,Tryz.t218.bytes,zl Tryz.t218,false⟩),
  (225,⟨Tryz.t225.desc,Tryz.t225.size,Tryz.t225.bytes,zl Tryz.t225,false⟩),
  (227,⟨Tryz.t226.desc,Tryz.t227.size,Tryz.t227.bytes,zl Tryz.t227,false⟩),
  (228,⟨Tryz.t228.desc,Tryz.t228.size,Tryz.t228.bytes,zl Tryz.t228,false⟩),
  (233,⟨Tryz.t232.desc,Tryz.t233.size,Tryz.t233.bytes,zl Tryz.t233,false⟩),
  (234,⟨Tryz.t234.desc,Tryz.t234.size,Tryz.t234.bytes,zl Tryz.t234,false⟩),
  (245,⟨Tryz.t245.desc,Tryz.t245.size,Tryz.t245.bytes,zl Tryz.t245,true⟩)]
theorem tT:ny Tryz.prog TT:=⟨dX (by kernel_rfl) (by kernel_rfl) (by kernel_rfl),⟨fA,bY (by kernel_rfl)⟩,dX (by kernel_rfl) (by kernel_rfl) (by kernel_rfl),⟨fA,bY (by kernel_rfl)⟩,dX (by kernel_rfl) (by kernel_rfl) (by kernel_rfl),⟨fA,bY (by kernel_rfl)⟩,dX (by kernel_rfl) (by kernel_rfl) (by kernel_rfl),⟨fA,bY (by kernel_rfl)⟩,dX (by kernel_rfl) (by kernel_rfl) (by kernel_rfl),⟨fA,bY (by kernel_rfl)⟩,dX (by kernel_rfl) (by kernel_rfl) (by kernel_rfl),⟨fA,bY (by kernel_rfl)⟩,dX (by kernel_rfl) (by kernel_rfl) (by kernel_rfl),⟨fA,bY (by kernel_rfl)⟩,dX (by kernel_rfl) (by kernel_rfl) (by kernel_rfl),⟨fA,bY (by kernel_rfl)⟩,dX (by kernel_rfl) (by kernel_rfl) (by kernel_rfl),⟨fA,bY (by kernel_rfl)⟩,dX (by kernel_rfl) (by kernel_rfl) (by kernel_rfl),⟨fA,bY (by kernel_rfl)⟩,dX (by kernel_rfl) (by kernel_rfl) (by kernel_rfl),⟨fun _=> ⟨by kernel_rfl,by kernel_rfl⟩,bY (by kernel_rfl)⟩,dX (by kernel_rfl) (by kernel_rfl) (by kernel_rfl),⟨fun _=> ⟨by kernel_rfl,by kernel_rfl⟩,bY (by kernel_rfl)⟩,dX (by kernel_rfl) (by kernel_rfl) (by kernel_rfl),⟨fA,bY (by kernel_rfl)⟩,dX (by kernel_rfl) (by kernel_rfl) (by kernel_rfl),⟨fA,bY (by kernel_rfl)⟩,dX (by kernel_rfl) (by kernel_rfl) (by kernel_rfl),⟨fA,bY (by kernel_rfl)⟩,dX (by kernel_rfl) (by kernel_rfl) (by kernel_rfl),⟨fun _=> ⟨by kernel_rfl,by kernel_rfl⟩,bY (by kernel_rfl)⟩,dX (by kernel_rfl) (by kernel_rfl) (by kernel_rfl),⟨fA,bY (by kernel_rfl)⟩,dX (by kernel_rfl) (by kernel_rfl) (by kernel_rfl),⟨fA,bY (by kernel_rfl)⟩,dX (by kernel_rfl) (by kernel_rfl) (by kernel_rfl),⟨fun _=> ⟨by kernel_rfl,by kernel_rfl⟩,bY (by kernel_rfl)⟩,dX (by kernel_rfl) (by kernel_rfl) (by kernel_rfl),⟨fA,bY (by kernel_rfl)⟩,dX (by kernel_rfl) (by kernel_rfl) (by kernel_rfl),⟨fA,bY (by kernel_rfl)⟩,dX (by kernel_rfl) (by kernel_rfl) (by kernel_rfl),⟨fA,bY (by kernel_rfl)⟩,dX (by kernel_rfl) (by kernel_rfl) (by kernel_rfl),⟨fA,bY (by kernel_rfl)⟩,dX (by kernel_rfl) (by kernel_rfl) (by kernel_rfl),⟨fA,bY (by kernel_rfl)⟩,dX (by kernel_rfl) (by kernel_rfl) (by kernel_rfl),⟨fA,bY (by kernel_rfl)⟩,dX (by kernel_rfl) (by kernel_rfl) (by kernel_rfl),⟨fA,bY (by kernel_rfl)⟩,dX (by kernel_rfl) (by kernel_rfl) (by kernel_rfl),⟨fA,bY (by kernel_rfl)⟩,dX (by kernel_rfl) (by kernel_rfl) (by kernel_rfl),⟨fun _=> ⟨by kernel_rfl,by kernel_rfl⟩,bY (by kernel_rfl)⟩,dX (by kernel_rfl) (by kernel_rfl) (by kernel_rfl),⟨fA,bY (by kernel_rfl)⟩,dX (by kernel_rfl) (by kernel_rfl) (by kernel_rfl),⟨fA,bY (by kernel_rfl)⟩,dX (by kernel_rfl) (by kernel_rfl) (by kernel_rfl),⟨fA,bY (by kernel_rfl)⟩,dX (by kernel_rfl) (by kernel_rfl) (by kernel_rfl),⟨fA,bY (by kernel_rfl)⟩,dX (by kernel_rfl) (by kernel_rfl) (by kernel_rfl),⟨fA,bY (by kernel_rfl)⟩,dX (by kernel_rfl) (by kernel_rfl) (by kernel_rfl),⟨fA,bY (by kernel_rfl)⟩,dX (by kernel_rfl) (by kernel_rfl) (by kernel_rfl),⟨fA,bY (by kernel_rfl)⟩,dX (by kernel_rfl) (by kernel_rfl) (by kernel_rfl),⟨fA,bY (by kernel_rfl)⟩,dX (by kernel_rfl) (by kernel_rfl) (by kernel_rfl),⟨fun _=> ⟨by kernel_rfl,by kernel_rfl⟩,bY (by kernel_rfl)⟩,dX (by kernel_rfl) (by kernel_rfl) (by kernel_rfl),⟨fun _=> ⟨by kernel_rfl,by kernel_rfl⟩,bY (by kernel_rfl)⟩,dX (by kernel_rfl) (by kernel_rfl) (by kernel_rfl),⟨fA,bY (by kernel_rfl)⟩,dX (by kernel_rfl) (by kernel_rfl) (by kernel_rfl),⟨fA,bY (by kernel_rfl)⟩,dX (by kernel_rfl) (by kernel_rfl) (by kernel_rfl),⟨fun _=> ⟨by kernel_rfl,by kernel_rfl⟩,bY (by kernel_rfl)⟩,dX (by kernel_rfl) (by kernel_rfl) (by kernel_rfl),⟨fA,bY (by kernel_rfl)⟩,dX (by kernel_rfl) (by kernel_rfl) (by kernel_rfl),⟨fA,bY (by kernel_rfl)⟩,dX (by kernel_rfl) (by kernel_rfl) (by kernel_rfl),⟨fA,bY (by kernel_rfl)⟩,dX (by kernel_rfl) (by kernel_rfl) (by kernel_rfl),⟨fA,bY (by kernel_rfl)⟩,dX (by kernel_rfl) (by kernel_rfl) (by kernel_rfl),⟨fA,bY (by kernel_rfl)⟩,dX (by kernel_rfl) (by kernel_rfl) (by kernel_rfl),⟨fA,bY (by kernel_rfl)⟩,dX (by kernel_rfl) (by kernel_rfl) (by kernel_rfl),⟨fA,bY (by kernel_rfl)⟩,dX (by kernel_rfl) (by kernel_rfl) (by kernel_rfl),⟨fA,bY (by kernel_rfl)⟩,dX (by kernel_rfl) (by kernel_rfl) (by kernel_rfl),⟨fA,bY (by kernel_rfl)⟩,dX (by kernel_rfl) (by kernel_rfl) (by kernel_rfl),⟨fun _=> ⟨by kernel_rfl,by kernel_rfl⟩,bY (by kernel_rfl)⟩,dX (by kernel_rfl) (by kernel_rfl) (by kernel_rfl),⟨fA,bY (by kernel_rfl)⟩,dX (by kernel_rfl) (by kernel_rfl) (by kernel_rfl),⟨fA,bY (by kernel_rfl)⟩,dX (by kernel_rfl) (by kernel_rfl) (by kernel_rfl),⟨fA,bY (by kernel_rfl)⟩,dX (by kernel_rfl) (by kernel_rfl) (by kernel_rfl),⟨fA,bY (by kernel_rfl)⟩,dX (by kernel_rfl) (by kernel_rfl) (by kernel_rfl),⟨fA,bY (by kernel_rfl)⟩,dX (by kernel_rfl) (by kernel_rfl) (by kernel_rfl),⟨fA,bY (by kernel_rfl)⟩,dX (by kernel_rfl) (by kernel_rfl) (by kernel_rfl),⟨fA,bY (by kernel_rfl)⟩,dX (by kernel_rfl) (by kernel_rfl) (by kernel_rfl),⟨fA,bY (by kernel_rfl)⟩,dX (by kernel_rfl) (by kernel_rfl) (by kernel_rfl),⟨fA,bY (by kernel_rfl)⟩,dX (by kernel_rfl) (by kernel_rfl) (by kernel_rfl),⟨fA,bY (by kernel_rfl)⟩,dX (by kernel_rfl) (by kernel_rfl) (by kernel_rfl),⟨fA,bY (by kernel_rfl)⟩,dX (by kernel_rfl) (by kernel_rfl) (by kernel_rfl),⟨fA,bY (by kernel_rfl)⟩,dX (by kernel_rfl) (by kernel_rfl) (by kernel_rfl),⟨fA,bY (by kernel_rfl)⟩,dX (by kernel_rfl) (by kernel_rfl) (by kernel_rfl),⟨fA,bY (by kernel_rfl)⟩,dX (by kernel_rfl) (by kernel_rfl) (by kernel_rfl),⟨fA,bY (by kernel_rfl)⟩,dX (by kernel_rfl) (by kernel_rfl) (by kernel_rfl),⟨fA,bY (by kernel_rfl)⟩,dX (by kernel_rfl) (by kernel_rfl) (by kernel_rfl),⟨fA,bY (by kernel_rfl)⟩,dX (by kernel_rfl) (by kernel_rfl) (by kernel_rfl),⟨fA,bY (by kernel_rfl)⟩,dX (by kernel_rfl) (by kernel_rfl) (by kernel_rfl),⟨fA,bY (by kernel_rfl)⟩,dX (by kernel_rfl) (by kernel_rfl) (by kernel_rfl),⟨fA,bY (by kernel_rfl)⟩,dX (by kernel_rfl) (by kernel_rfl) (by kernel_rfl),⟨fun _=> ⟨by kernel_rfl,by kernel_rfl⟩,bY (by kernel_rfl)⟩,trivial⟩
theorem mX:Tryz.prog.follows .mixedOrders=true:=by kernel_rfl
def Lx:Go.Shelf.Ren:=⟨fun|6=>121|14=>138|15=>139|20=>151|21=>152|22=>153|23=>154|24=>155|25=>156|26=>157|27=>158|28=>159|29=>160|46=>162|47=>163|48=>164|49=>165|50=>166|57=>167|n=>n,fun|0=>0|3=>3|4=>4|5=>5|9=>9|22=>45|24=>41|25=>223|39=>238|45=>247|46=>248|50=>178|53=>254|55=>256|66=>257|70=>261|76=>263|77=>264|n=>n,fun n=>n⟩
theorem UC:Go.Proofs.SlLaysF0.n6 Tryz.prog Lx:=⟨by kernel_rfl,⟨Tryz.f121.name,by kernel_rfl,Tryz.func121.trans (congrArg some (by kernel_rfl))⟩,⟨Tryz.f138.name,by kernel_rfl,Tryz.func138.trans (congrArg some (by kernel_rfl))⟩,Tryz.func139.trans (congrArg some (by kernel_rfl)),⟨Tryz.f151.name,by kernel_rfl,Tryz.func151.trans (congrArg some (by kernel_rfl))⟩,⟨Tryz.f152.name,by kernel_rfl,Tryz.func152.trans (congrArg some (by kernel_rfl))⟩,⟨Tryz.f153.name,by kernel_rfl,Tryz.func153.trans (congrArg some (by kernel_rfl))⟩,⟨Tryz.f154.name,by kernel_rfl,Tryz.func154.trans (congrArg some (by kernel_rfl))⟩,⟨Tryz.f155.name,by kernel_rfl,Tryz.func155.trans (congrArg some (by kernel_rfl))⟩,⟨Tryz.f156.name,by kernel_rfl,Tryz.func156.trans (congrArg some (by kernel_rfl))⟩,⟨Tryz.f157.name,by kernel_rfl,Tryz.func157.trans (congrArg some (by kernel_rfl))⟩,⟨Tryz.f158.name,by kernel_rfl,Tryz.func158.trans (congrArg some (by kernel_rfl))⟩,Tryz.func159.trans (congrArg some (by kernel_rfl)),Tryz.func160.trans (congrArg some (by kernel_rfl)),⟨Tryz.f162.name,by kernel_rfl,Tryz.func162.trans (congrArg some (by kernel_rfl))⟩,Tryz.func163.trans (congrArg some (by kernel_rfl)),Tryz.func164.trans (congrArg some (by kernel_rfl)),⟨Tryz.f165.name,by kernel_rfl,Tryz.func165.trans (congrArg some (by kernel_rfl))⟩,⟨Tryz.f166.name,by kernel_rfl,Tryz.func166.trans (congrArg some (by kernel_rfl))⟩,⟨Tryz.f167.name,by kernel_rfl,Tryz.func167.trans (congrArg some (by kernel_rfl))⟩,Tryz.underlying0,Tryz.isAgg0,Tryz.sizeOf0,Tryz.zeroValue0,Tryz.underlying3,Tryz.isAgg3,Tryz.sizeOf3,Tryz.zeroValue3,Tryz.underlying4,Tryz.isAgg4,Tryz.sizeOf4,Tryz.zeroValue4,Tryz.underlying5,Tryz.isAgg5,Tryz.sizeOf5,Tryz.zeroValue5,Tryz.underlying9,Tryz.isAgg9,Tryz.sizeOf9,Tryz.zeroValue9,Tryz.underlying45,Tryz.isAgg45,Tryz.sizeOf45,Tryz.zeroValue45,Tryz.underlying223,Tryz.isAgg223,Tryz.sizeOf223,Tryz.zeroValue223,Tryz.underlying238,Tryz.isAgg238,Tryz.sizeOf238,Tryz.zeroValue238,Tryz.underlying247,Tryz.isAgg247,Tryz.sizeOf247,Tryz.zeroValue247,Tryz.underlying248,Tryz.isAgg248,Tryz.sizeOf248,Tryz.zeroValue248,Tryz.underlying178,Tryz.isAgg178,Tryz.sizeOf178,Tryz.zeroValue178,Tryz.underlying254,Tryz.isAgg254,Tryz.sizeOf254,Tryz.zeroValue254,Tryz.underlying256,Tryz.isAgg256,Tryz.sizeOf256,Tryz.zeroValue256,Tryz.underlying257,Tryz.isAgg257,Tryz.sizeOf257,Tryz.zeroValue257,Tryz.underlying261,Tryz.isAgg261,Tryz.sizeOf261,Tryz.zeroValue261,Tryz.underlying263,Tryz.isAgg263,Tryz.sizeOf263,Tryz.zeroValue263,Tryz.underlying264,Tryz.isAgg264,Tryz.sizeOf264,Tryz.zeroValue264⟩
theorem XE (w:World):(isAgg (Lx.t 24)).run Tryz.prog w= .ok true w:=Tryz.isAgg41 w
theorem Vr (w:World):(Go.sizeOf (Lx.t 24)).run Tryz.prog w= .ok 2 w:=Tryz.sizeOf41 w
def YW:Go.Shelf.Ren:=⟨fun|23=>115|n=>n,fun|0=>0|3=>3|4=>4|22=>44|n=>n,fun n=>n⟩
theorem Xz:Go.Proofs.Lays2.n23 Tryz.prog YW:=⟨by kernel_rfl,Tryz.func115.trans (congrArg some (by kernel_rfl)),Tryz.underlying0,Tryz.isAgg0,Tryz.sizeOf0,Tryz.zeroValue0,Tryz.underlying3,Tryz.isAgg3,Tryz.sizeOf3,Tryz.zeroValue3,Tryz.underlying4,Tryz.isAgg4,Tryz.sizeOf4,Tryz.zeroValue4,Tryz.underlying44,Tryz.isAgg44,Tryz.sizeOf44,Tryz.zeroValue44,by kernel_rfl⟩
section
variable (p:au)
abbrev k2:DV:=(bJ none 6 Link.cell p.links)
abbrev k3:DV:=(bJ none 4 aU.cell p.racks)
abbrev k1:List CV:=[(cI p.buses),(.d (bJ none 5 Source.cell p.sources)),(.d (k2 p)),(.d (k3 p))]
abbrev k0:List SV:=[(.agg (k1 p))]
end
theorem JB (p:au):dJ Tryz.prog 5 (k0 p) [] (fun r=>(vB r)) (fun _=>[]) (Dc p):=
  dR tT mX Tryz.func5 (
  .rg {fr:=[(0,1)],fz:=[1]} []<| .r<| .e (bif (bif (decide (60<(p.sources.length:Int)))then true else(decide (60<(p.links.length:Int))))then true else(decide (60<(p.racks.length:Int)))))
theorem aW (n:Int) (u0:Int) (u1:Int):dJ Tryz.prog 43 [(sI n),(sI u0),(sI u1)] [] (fun r=>(vB r)) (fun _=>[]) (bD n u0 u1):=
  dR tT mX Tryz.func43 (
  .r<| .r<| .e (bif (decide (u0≤n))then(decide (n≤u1))else false))
theorem EO (p:au):dJ Tryz.prog 45 (k0 p) [] (fun r=>(vD (.fn 71 1 (bT [(zB [(.int .i64 r.1),(bJ none 5 Source.cell r.2.1),(bJ none 6 Link.cell r.2.2.1),(bJ none 4 aU.cell r.2.2.2)] 0)])))) (fun _=>[]) (vz p):=
  dR tT mX Tryz.func45 (
  .rg {fr:=[(0,1)],fz:=[1]} []<| .r<| .e (p.buses,p.sources,p.links,p.racks))
theorem GA (p:au):dJ Tryz.prog 47 (k0 p) [] (fun r=>(vD (.fn 74 1 (bT [(zB [(.int .i64 r.1),(bJ none 5 Source.cell r.2.1),(bJ none 6 Link.cell r.2.2.1),(bJ none 4 aU.cell r.2.2.2)] 0)])))) (fun _=>[]) (yj p):=
  dR tT mX Tryz.func47 (
  .rg {fr:=[(0,1)],fz:=[1]} []<| .r<| .e (p.buses,p.sources,p.links,p.racks))
theorem Gw (p:au):dJ Tryz.prog 49 (k0 p) [] (fun r=>(vD (.fn 77 1 (bT [(zB [(.int .i64 r.1),(bJ none 5 Source.cell r.2.1),(bJ none 6 Link.cell r.2.2.1),(bJ none 4 aU.cell r.2.2.2)] 0)])))) (fun _=>[]) (yw p):=
  dR tT mX Tryz.func49 (
  .rg {fr:=[(0,1)],fz:=[1]} []<| .r<| .e (p.buses,p.sources,p.links,p.racks))
section
variable (u2:(List Source)) (x1:Int) (u3:(List Link)) (u4:(List aU)) (r_:Bool) (u0:Bool) (u1:Bool) (u5:Bool)
abbrev k5:DV:=(bJ none 5 Source.cell u2)
abbrev k4:DV:=(zB [(.int .i64 x1),(k5 u2),(bJ none 6 Link.cell u3),(bJ none 4 aU.cell u4)] 0)
abbrev k6:=(IntKind.wrap .i64 (x1 - 1))
abbrev k7:=(bif (bif (bif r_ then u0 else false)then u1 else false)then u5 else false)
end
theorem BR (x:Source) (x1:Int) (u2:(List Source)) (u3:(List Link)) (u4:(List aU)):dJ Tryz.prog 71 [(.agg [(cI x.bus),(cI x.kind),(cI x.power),(cI x.sync),(cI x.fq)]),(sD (k4 u2 x1 u3 u4))] [] (fun r=>(vB r)) (fun _=>[]) (lZ x x1 u2 u3 u4):=
  dR tT mX Tryz.func71 (
  .rg {fr:=[(0,1)],fz:=[1]} []<| .cl 5 (aW x.bus 0 (k6 x1)) fun r_=> .cg 9 [(r_,true)] (aW x.kind 1 3) fun u0=> .cg 14 [((bif r_ then u0 else false),true)] (aW x.power 1 100000) fun u1=> .cg 19 [((bif (bif r_ then u0 else false)then u1 else false),true)] (aW x.sync 0 8) fun u5=> .cg 24 [((k7 r_ u0 u1 u5),true)] (aW x.fq 10 100000) fun u6=> .r<| .e (bif (k7 r_ u0 u1 u5)then u6 else false))
section
variable (x1:Int) (u0:(List Source)) (u1:(List Link)) (u2:(List aU))
abbrev k9:=(bT [(k4 u0 x1 u1 u2)])
abbrev k8:DV:=(zB [(.fn 71 1 (k9 x1 u0 u1 u2))] 0)
end
theorem EB (x:Source) (x1:Int) (u0:(List Source)) (u1:(List Link)) (u2:(List aU)):dJ Tryz.prog 70 [(.agg [(cI x.bus),(cI x.kind),(cI x.power),(cI x.sync),(cI x.fq)]),(sD (k8 x1 u0 u1 u2))] [] (fun r=>(vB r)) (fun _=>[]) (uW x x1 u0 u1 u2):=
  dR tT mX Tryz.func70 (
  .rg {fr:=[(0,1)],fz:=[1]} []<| .cl 2 (BR x x1 u0 u1 u2) fun r_=> .r<| .e (!r_))
section
variable (s_:(List Source)) (f_:Int) (u0:(List Source)) (u1:(List Link)) (u2:(List aU)) (t8:Int)
abbrev k10:List SV:=[(sD (k5 s_)),(sD (.fn 70 1 (bT [(k8 f_ u0 u1 u2)])))]
abbrev k11:=(IntKind.wrap .i64 (t8+1))
end
theorem zD (s_:(List Source)) (f_:Int) (u0:(List Source)) (u1:(List Link)) (u2:(List aU)):dJ Tryz.prog 97 (k10 s_ f_ u0 u1 u2) [] (fun r=>(vI r)) (fun _=>[]) (nE s_ f_ u0 u1 u2):=
  dR tT mX Tryz.func97 (
  .r<| .r<| .lp (σ:=Int) (β:=Unit) (0) [] [] ⟨[0,1,7],[],fun t8=>[(8,(vI t8))],fun t8=>[]⟩ ⟨[],[],fun _=>[],fun _=>[]⟩
  (fun t8=> .r<| .it (.r<| .cl 5 (EB (at' s_ t8.toNat) f_ u0 u1 u2) fun r_=> .a1 ((0:Int)≤t8∧t8<(s_.length:Int))<| .rg {} [0,1]<| .it (.r<| .e (.done (.ret t8)))
  (.r<| .e (.next (k11 t8))))
  (.e (.done (.brk ()))))
  (fun _=> .r<| .e (-1)))
theorem xg (s_:(List Source)) (f_:Int) (u0:(List Source)) (u1:(List Link)) (u2:(List aU)):dJ Tryz.prog 69 (k10 s_ f_ u0 u1 u2) [] (fun r=>(vB r)) (fun _=>[]) (iY s_ f_ u0 u1 u2):=
  dR tT mX Tryz.func69 (
  .r<| .cl 2 (zD s_ f_ u0 u1 u2) fun r_=> .r<| .e (decide (0≤r_)))
theorem Gp (l:(List Source)) (u0:Int) (u1:Int) (u2:(List Source)) (u3:(List Link)) (u4:(List aU)):dJ Tryz.prog 44 [(sD (k5 l)),(sI u0),(sD (.fn 71 1 (k9 u1 u2 u3 u4)))] [] (fun r=>(vB r)) (fun _=>[]) (rP l u0 u1 u2 u3 u4):=
  dR tT mX Tryz.func44 (
  .rg {fr:=[(0,1)],fz:=[1]} []<| .cg 7 [((decide ((l.length:Int)≤u0)),true)] (xg l u1 u2 u3 u4) fun r_=> .r<| .e (bif (decide ((l.length:Int)≤u0))then(!r_)else false))
section
variable (x:Link)
abbrev k12:List CV:=[(cI x.a),(cI x.b),(cI x.kind),(cI x.most),(cI x.fq),(.d (bJ none 2 qQ.cell x.trip))]
end
theorem Ec (x:Link) (x1:Int) (u3:(List Source)) (u4:(List Link)) (u5:(List aU)):dJ Tryz.prog 74 [(.agg (k12 x)),(sD (k4 u3 x1 u4 u5))] [] (fun r=>(vB r)) (fun _=>[]) (om x x1 u3 u4 u5):=
  dR tT mX Tryz.func74 (
  .rg {fr:=[(0,5)]} []<| .cl 5 (aW x.a 0 (k6 x1)) fun r_=> .cg 13 [((!r_),false)] (aW x.b 0 (k6 x1)) fun u1=> .cg 26 [((bif (bif (!r_)then true else(!u1))then true else(decide (x.a=x.b))),false)] (aW x.kind 1 3) fun u6=> .cg 32 [((bif (bif (bif (!r_)then true else(!u1))then true else(decide (x.a=x.b)))then true else(!u6)),false)] (aW x.most 1 100000) fun u8=> .cg 38 [((bif (bif (bif (bif (!r_)then true else(!u1))then true else(decide (x.a=x.b)))then true else(!u6))then true else(!u8)),false)] (aW x.fq 10 100000) fun u9=> .r<| .it (.r<| .e false)
  (.rg {fz:=[5]} []<| .lp (σ:=Int) (β:=Unit) (0) [] [] ⟨[2,48,49],[],fun u0=>[(50,(vI u0))],fun u0=>[]⟩ ⟨[2],[],fun _=>[],fun _=>[]⟩
  (fun u0=> .r<| .it (.a1 ((0:Int)≤u0∧u0<(x.trip.length:Int))<| .rg {fr:=[(3,9)],fz:=[9]} []<| .cl 2 (aW ((at' x.trip u0.toNat).amps) 1 1000000) fun u2=> .cg 7 [((!u2),false)] (aW ((at' x.trip u0.toNat).millis) 1 100000) fun u7=> .a2 ((gB [((decide (0<u0)),true),((bif (!u2)then true else(!u7)),false)]=true→(0:Int)≤(k6 u0)∧(k6 u0)<(x.trip.length:Int))) ((gB [((decide (((at' x.trip u0.toNat).amps)≤((at' x.trip ((k6 u0).toNat)).amps))),false),((decide (0<u0)),true),((bif (!u2)then true else(!u7)),false)]=true→(0:Int)≤(k6 u0)∧(k6 u0)<(x.trip.length:Int)))<| .rg {} [3,2,0,1]<| .it (.r<| .e (.done (.ret false)))
  (.r<| .e (.next (k11 u0))))
  (.e (.done (.brk ()))))
  (fun _=> .r<| .e (bif (decide ((x.trip.length:Int)≤6))then(bif (decide ((x.trip.length:Int)=0))then true else(decide (x.kind=3)))else false))))
section
variable (x1:Int) (u0:(List Source)) (u1:(List Link)) (u2:(List aU))
abbrev k13:DV:=(zB [(.fn 74 1 (k9 x1 u0 u1 u2))] 0)
end
theorem Bb (x:Link) (x1:Int) (u0:(List Source)) (u1:(List Link)) (u2:(List aU)):dJ Tryz.prog 73 [(.agg (k12 x)),(sD (k13 x1 u0 u1 u2))] [] (fun r=>(vB r)) (fun _=>[]) (oh x x1 u0 u1 u2):=
  dR tT mX Tryz.func73 (
  .rg {fr:=[(0,1)],fz:=[1]} []<| .cl 2 (Ec x x1 u0 u1 u2) fun r_=> .r<| .e (!r_))
section
variable (s_:(List Link)) (f_:Int) (u0:(List Source)) (u1:(List Link)) (u2:(List aU))
abbrev k14:List SV:=[(sD (bJ none 6 Link.cell s_)),(sD (.fn 73 1 (bT [(k13 f_ u0 u1 u2)])))]
end
theorem wN (s_:(List Link)) (f_:Int) (u0:(List Source)) (u1:(List Link)) (u2:(List aU)):dJ Tryz.prog 98 (k14 s_ f_ u0 u1 u2) [] (fun r=>(vI r)) (fun _=>[]) (kU s_ f_ u0 u1 u2):=
  dR tT mX Tryz.func98 (
  .r<| .r<| .lp (σ:=Int) (β:=Unit) (0) [] [] ⟨[0,1,7],[],fun t8=>[(8,(vI t8))],fun t8=>[]⟩ ⟨[],[],fun _=>[],fun _=>[]⟩
  (fun t8=> .r<| .it (.r<| .cl 5 (Bb (at' s_ t8.toNat) f_ u0 u1 u2) fun r_=> .a1 ((0:Int)≤t8∧t8<(s_.length:Int))<| .rg {} [0,1]<| .it (.r<| .e (.done (.ret t8)))
  (.r<| .e (.next (k11 t8))))
  (.e (.done (.brk ()))))
  (fun _=> .r<| .e (-1)))
theorem sJ (s_:(List Link)) (f_:Int) (u0:(List Source)) (u1:(List Link)) (u2:(List aU)):dJ Tryz.prog 72 (k14 s_ f_ u0 u1 u2) [] (fun r=>(vB r)) (fun _=>[]) (gN s_ f_ u0 u1 u2):=
  dR tT mX Tryz.func72 (
  .r<| .cl 2 (wN s_ f_ u0 u1 u2) fun r_=> .r<| .e (decide (0≤r_)))
theorem Ed (l:(List Link)) (u0:Int) (u1:Int) (u2:(List Source)) (u3:(List Link)) (u4:(List aU)):dJ Tryz.prog 46 [(sD (bJ none 6 Link.cell l)),(sI u0),(sD (.fn 74 1 (k9 u1 u2 u3 u4)))] [] (fun r=>(vB r)) (fun _=>[]) (oL l u0 u1 u2 u3 u4):=
  dR tT mX Tryz.func46 (
  .rg {fr:=[(0,1)],fz:=[1]} []<| .cg 7 [((decide ((l.length:Int)≤u0)),true)] (sJ l u1 u2 u3 u4) fun r_=> .r<| .e (bif (decide ((l.length:Int)≤u0))then(!r_)else false))
section
variable (x:aU)
abbrev k15:List CV:=[(cI x.feeds.e0),(cI x.feeds.e1),(cI x.power),(cI x.paths)]
end
theorem Fa (x:aU):dJ Tryz.prog 78 [(.agg (k15 x))] [] (fun r=>(vI r)) (fun _=>[]) (qz x):=
  dR tT mX Tryz.func78 (
  .rg {fr:=[(0,1)],fz:=[1]} []<| .rg {} [.pf ⟨(0:Int)≤1∧(1:Int)<(2:Nat),(by decide)⟩]<| .it (.r<| .e 1)
  (.r<| .e 2))
section
variable (r_:Bool) (u0:Bool) (x:aU) (u1:Bool)
abbrev k17:=(bif (bif (bif r_ then u0 else false)then(!decide (x.feeds.e0=x.feeds.e1))else false)then u1 else false)
abbrev k16:=((k17 r_ u0 x u1),true)
end
theorem EF (x:aU) (x1:Int) (u2:(List Source)) (u3:(List Link)) (u4:(List aU)):dJ Tryz.prog 77 [(.agg (k15 x)),(sD (k4 u2 x1 u3 u4))] [] (fun r=>(vB r)) (fun _=>[]) (oH x x1 u2 u3 u4):=
  dR tT mX Tryz.func77 (
  .rg {fr:=[(0,1)],fz:=[1]} []<| .rg {} [.pf ⟨(0:Int)≤0∧(0:Int)<(2:Nat),(by decide)⟩, .pf ⟨(0:Int)≤1∧(1:Int)<(2:Nat),(by decide)⟩]<| .cl 4 (aW x.feeds.e0 0 (k6 x1)) fun r_=> .cg 10 [(r_,true)] (aW x.feeds.e1 (-1) (k6 x1)) fun u0=> .cg 20 [((bif (bif r_ then u0 else false)then(!decide (x.feeds.e0=x.feeds.e1))else false),true)] (aW x.power 1 100000) fun u1=> .cg 26 [(k16 r_ u0 x u1)] (Fa x) fun u5=> .cg 27 [(k16 r_ u0 x u1)] (aW x.paths 0 u5) fun u6=> .r<| .e (bif (k17 r_ u0 x u1)then u6 else false))
section
variable (x1:Int) (u0:(List Source)) (u1:(List Link)) (u2:(List aU))
abbrev k18:DV:=(zB [(.fn 77 1 (k9 x1 u0 u1 u2))] 0)
end
theorem zX (x:aU) (x1:Int) (u0:(List Source)) (u1:(List Link)) (u2:(List aU)):dJ Tryz.prog 76 [(.agg (k15 x)),(sD (k18 x1 u0 u1 u2))] [] (fun r=>(vB r)) (fun _=>[]) (oU x x1 u0 u1 u2):=
  dR tT mX Tryz.func76 (
  .rg {fr:=[(0,1)],fz:=[1]} []<| .cl 2 (EF x x1 u0 u1 u2) fun r_=> .r<| .e (!r_))
section
variable (s_:(List aU)) (f_:Int) (u0:(List Source)) (u1:(List Link)) (u2:(List aU))
abbrev k19:List SV:=[(sD (bJ none 4 aU.cell s_)),(sD (.fn 76 1 (bT [(k18 f_ u0 u1 u2)])))]
end
theorem wW (s_:(List aU)) (f_:Int) (u0:(List Source)) (u1:(List Link)) (u2:(List aU)):dJ Tryz.prog 99 (k19 s_ f_ u0 u1 u2) [] (fun r=>(vI r)) (fun _=>[]) (kV s_ f_ u0 u1 u2):=
  dR tT mX Tryz.func99 (
  .r<| .r<| .lp (σ:=Int) (β:=Unit) (0) [] [] ⟨[0,1,7],[],fun t8=>[(8,(vI t8))],fun t8=>[]⟩ ⟨[],[],fun _=>[],fun _=>[]⟩
  (fun t8=> .r<| .it (.r<| .cl 5 (zX (⟨((at' s_ t8.toNat).feeds),(at' s_ t8.toNat).power,(at' s_ t8.toNat).paths⟩:aU) f_ u0 u1 u2) fun r_=> .a1 ((0:Int)≤t8∧t8<(s_.length:Int))<| .rg {} [0,1]<| .it (.r<| .e (.done (.ret t8)))
  (.r<| .e (.next (k11 t8))))
  (.e (.done (.brk ()))))
  (fun _=> .r<| .e (-1)))
theorem sP (s_:(List aU)) (f_:Int) (u0:(List Source)) (u1:(List Link)) (u2:(List aU)):dJ Tryz.prog 75 (k19 s_ f_ u0 u1 u2) [] (fun r=>(vB r)) (fun _=>[]) (gK s_ f_ u0 u1 u2):=
  dR tT mX Tryz.func75 (
  .r<| .cl 2 (wW s_ f_ u0 u1 u2) fun r_=> .r<| .e (decide (0≤r_)))
theorem DT (l:(List aU)) (u0:Int) (u1:Int) (u2:(List Source)) (u3:(List Link)) (u4:(List aU)):dJ Tryz.prog 48 [(sD (bJ none 4 aU.cell l)),(sI u0),(sD (.fn 77 1 (k9 u1 u2 u3 u4)))] [] (fun r=>(vB r)) (fun _=>[]) (oN l u0 u1 u2 u3 u4):=
  dR tT mX Tryz.func48 (
  .rg {fr:=[(0,1)],fz:=[1]} []<| .cg 7 [((decide ((l.length:Int)≤u0)),true)] (sP l u1 u2 u3 u4) fun r_=> .r<| .e (bif (decide ((l.length:Int)≤u0))then(!r_)else false))
theorem ql (p:au):dJ Tryz.prog 18 (k0 p) [] (fun r=>(vI r)) (fun _=>[]) (kR p):=
  dR tT mX Tryz.func18 (
  .rg {fr:=[(0,1)],fz:=[1]} []<| .cl 2 (aW p.buses 1 24) fun r_=> .r<| .it (.r<| .e 10)
  (.cl 3 (EO p) fun u0=> .cl 4 (Gp p.sources 8 u0.1 u0.2.1 u0.2.2.1 u0.2.2.2) fun u3=> .r<| .it (.r<| .e 11)
  (.cl 3 (GA p) fun u1=> .cl 4 (Ed p.links 40 u1.1 u1.2.1 u1.2.2.1 u1.2.2.2) fun u4=> .r<| .it (.r<| .e 12)
  (.cl 3 (Gw p) fun u2=> .cl 4 (DT p.racks 24 u2.1 u2.2.1 u2.2.2.1 u2.2.2.2) fun u5=> .r<| .it (.r<| .e 13)
  (.r<| .e 0)))))
section
variable (s_:State) (p:au) (u0:Int)
abbrev k21:List CV:=[(.d (bJ none 1 ah s_.closed)),(.d (bJ none 1 ah s_.locked)),(.d (bJ none 1 ah s_.badLink)),(.d (bJ none 1 ah s_.on_)),(.d (bJ none 1 ah s_.badSource)),(.d (bJ none 1 ah s_.earthed)),(.d (bJ none 1 ah s_.badBus))]
abbrev k20:List SV:=[(.agg (k1 p)),(.agg (k21 s_))]
abbrev k22:=(⟨s_.closed,(p.links.length:Int)⟩:dI)
abbrev k23:=(⟨s_.locked,(p.links.length:Int)⟩:dI)
abbrev k24:=(⟨s_.badLink,(p.links.length:Int)⟩:dI)
abbrev k25:=(⟨s_.on_,(p.sources.length:Int)⟩:dI)
abbrev k26:=(⟨s_.badSource,(p.sources.length:Int)⟩:dI)
abbrev k27:=(ay dI.cell [(k22 s_ p),(k23 s_ p),(k24 s_ p),(k25 s_ p),(k26 s_ p),(⟨s_.earthed,p.buses⟩:dI),(⟨s_.badBus,p.buses⟩:dI)])
abbrev k28:=((0:Int)≤u0∧u0<(p.links.length:Int))
end
theorem bU (p:au) (s_:State):dJ Tryz.prog 6 (k20 s_ p) [] (fun r=>(vI r)) (fun _=>[]) (bV p s_):=
  dR tT mX Tryz.func6 (
  .rg {fr:=[(0,11),(1,12)]} []<| .cl 1 (ql p) fun r_=> .r<| .r<| .it (.r<| .e r_)
  (.r<| .rg {an:=[(30, .arr [(k22 s_ p),(k23 s_ p),(k24 s_ p),(k25 s_ p),(k26 s_ p),(⟨s_.earthed,p.buses⟩:dI),(⟨s_.badBus,p.buses⟩:dI)].length (k27 s_ p))],fr:=[(30,13)],fz:=[12]} [.pf ⟨[(k22 s_ p),(k23 s_ p),(k24 s_ p),(k25 s_ p),(k26 s_ p),(⟨s_.earthed,p.buses⟩:dI),(⟨s_.badBus,p.buses⟩:dI)].length=7,rfl⟩, .pf ⟨aS 7 2 (pK 2 [(bJ none 1 ah s_.closed),(.int .i64 (p.links.length:Int)),(bJ none 1 ah s_.locked),(.int .i64 (p.links.length:Int)),(bJ none 1 ah s_.badLink),(.int .i64 (p.links.length:Int)),(bJ none 1 ah s_.on_),(.int .i64 (p.sources.length:Int)),(bJ none 1 ah s_.badSource),(.int .i64 (p.sources.length:Int)),(bJ none 1 ah s_.earthed),(.int .i64 p.buses),(bJ none 1 ah s_.badBus),(.int .i64 p.buses)]) (k27 s_ p),(by intro i hi j hj;match i,j,hi,hj with|0,0,_,_=>rfl|0,1,_,_=>rfl|1,0,_,_=>rfl|1,1,_,_=>rfl|2,0,_,_=>rfl|2,1,_,_=>rfl|3,0,_,_=>rfl|3,1,_,_=>rfl|4,0,_,_=>rfl|4,1,_,_=>rfl|5,0,_,_=>rfl|5,1,_,_=>rfl|6,0,_,_=>rfl|6,1,_,_=>rfl)⟩]<| .lp (σ:=Int) (β:=Unit) (0) [] [] ⟨[2,3,53,54],[11,13],fun u1=>[(55,(vI u1))],fun u1=>[]⟩ ⟨[2,3],[11],fun _=>[],fun _=>[]⟩
  (fun u1=> .r<| .it (.a1 ((0:Int)≤u1∧u1<([(k22 s_ p),(k23 s_ p),(k24 s_ p),(k25 s_ p),(k26 s_ p),(⟨s_.earthed,p.buses⟩:dI),(⟨s_.badBus,p.buses⟩:dI)].length:Int))<| .rg {fr:=[(2,17)],fz:=[17]} [0, .t 0 u1 ([(k22 s_ p),(k23 s_ p),(k24 s_ p),(k25 s_ p),(k26 s_ p),(⟨s_.earthed,p.buses⟩:dI),(⟨s_.badBus,p.buses⟩:dI)].length)]<| .r<| .it (.r<| .e (.done (.ret 9)))
  (.r<| .e (.next (k11 u1))))
  (.e (.done (.brk ()))))
  (fun _=> .r<| .lp (σ:=Int) (β:=Unit) (0) [] [] ⟨[3,67,68],[],fun u0=>[(69,(vI u0))],fun u0=>[]⟩ ⟨[],[],fun _=>[],fun _=>[]⟩
  (fun u0=> .r<| .it (.a1 (k28 p u0)<| .rg {fr:=[(3,21)],fz:=[21]} []<| .a2 ((gB [((decide (((at' p.links u0.toNat).kind)=1)),true)]=true→(0:Int)≤u0∧u0<(s_.closed.length:Int))) ((gB [((!(at' s_.closed u0.toNat)),false),((decide (((at' p.links u0.toNat).kind)=1)),true)]=true→(0:Int)≤u0∧u0<(s_.locked.length:Int)))<| .rg {} [0,1]<| .it (.r<| .e (.done (.ret 9)))
  (.r<| .e (.next (k11 u0))))
  (.e (.done (.brk ()))))
  (fun _=> .r<| .e 0))))
section
variable (p:au) (s_:State) (u0:Int)
abbrev TD:List SV:=[(.agg (k1 p)),(.agg (k21 s_)),(sI u0)]
end
theorem qI (p:au) (s_:State) (u0:Int):dJ Tryz.prog 38 (TD p s_ u0) [] (fun r=>(vI r)) (fun _=>[]) (jo p s_ u0):=
  dR tT mX Tryz.func38 (
  .rg {fr:=[(0,2),(1,3)],fz:=[2,3]} []<| .cl 2 (bU p s_) fun r_=> .r<| .r<| .it (.r<| .e r_)
  (.r<| .it (.r<| .e 13)
  (.r<| .e 0)))
section
variable (v_:Part) (t8:Int) (s_:(List Part))
abbrev k30:List CV:=[(cI v_.kind),(cI v_.index)]
abbrev YR:=((0:Int)≤t8∧t8<(s_.length:Int))
end
theorem zR (s_:(List Part)) (v_:Part):dJ Tryz.prog 87 [(sD (bJ none 2 Part.cell s_)),(.agg (k30 v_))] [] (fun r=>(vI r)) (fun _=>[]) (vM s_ v_):=
  dR tT mX Tryz.func87 (
  .rg {fr:=[(0,1)],fz:=[1]} []<| .r<| .lp (σ:=Int) (β:=Unit) (0) [] [] ⟨[0,3,7],[],fun t8=>[(8,(vI t8))],fun t8=>[]⟩ ⟨[],[],fun _=>[],fun _=>[]⟩
  (fun t8=> .r<| .it (.r<| .a1 (YR t8 s_)<| .r<| .it (.r<| .e (.done (.ret t8)))
  (.r<| .e (.next (k11 t8))))
  (.e (.done (.brk ()))))
  (fun _=> .r<| .e (-1)))
section
variable (u0:Int) (u1:Int) (u2:(List Part))
abbrev YK:=(⟨(k11 u0),u1⟩:Part)
abbrev k33:=(ay Part.cell [(YK u0 u1)])
abbrev k34:=(u2++[(YK u0 u1)])
end
theorem rE (p:au):dJ Tryz.prog 66 (k0 p) [] (fun r=>(.fU [(.one (.own 0 false r.1.length)),(sI r.2)])) (fun r=>[(0,some (aV 62 2 Part.cell r.1))]) (mZ p):=
  dR tT mX Tryz.func66 (
  .rg {fr:=[(0,34)],fz:=[34]} []<| .cl 1 (ql p) fun r_=> .r<| .r<| .it (.r<| .im (.ad 2 35 62 2 (ay Part.cell ([]:List Part)))<| .en (([]:List Part),r_) [] [(35,0)])
  (.r<| .rg {an:=[(8, .arr [p.buses,(p.sources.length:Int),(p.links.length:Int)].length (ay (aC .i64) [p.buses,(p.sources.length:Int),(p.links.length:Int)]))],fr:=[(8,36)],fz:=[36]} [.pf ⟨[p.buses,(p.sources.length:Int),(p.links.length:Int)].length=3,rfl⟩, .pf ⟨aS 3 1 (pK 1 [(.int .i64 p.buses),(.int .i64 (p.sources.length:Int)),(.int .i64 (p.links.length:Int))]) (ay (aC .i64) [p.buses,(p.sources.length:Int),(p.links.length:Int)]),(by intro i hi j hj;match i,j,hi,hj with|0,0,_,_=>rfl|1,0,_,_=>rfl|2,0,_,_=>rfl)⟩]<| .im (.ad 5 69 62 2 (ay Part.cell ([]:List Part)))<| .lp (σ:=((List Part) × Int)) (β:=(List Part)) (([]:List Part),0) [] [(69,38)] ⟨[22,23],[],fun(u3,u0)=>[(5,(vO 38 false u3.length)),(24,(vI u0))],fun(u3,u0)=>[(38,some (aV 62 2 Part.cell u3))]⟩ ⟨[],[],fun u4=>[(5,(vO 38 false u4.length))],fun u4=>[(38,some (aV 62 2 Part.cell u4))]⟩
  (fun(u3,u0)=> .r<| .it (.a1 ((0:Int)≤u0∧u0<([p.buses,(p.sources.length:Int),(p.links.length:Int)].length:Int))<| .r<| .r<| .lp (σ:=((List Part) × Int)) (β:=(List Part)) (u3,0) [] [] ⟨[6,22,23,24,29],[],fun(u2,u1)=>[(5,(vO 38 false u2.length)),(30,(vI u1))],fun(u2,u1)=>[(38,some (aV 62 2 Part.cell u2))]⟩ ⟨[22,23,24],[],fun u5=>[(5,(vO 38 false u5.length))],fun u5=>[(38,some (aV 62 2 Part.cell u5))]⟩
  (fun(u2,u1)=> .r<| .it (.r<| .a2 ((u2.length+[(YK u0 u1)].length)*16≤140737488355328) (u2.length+[(YK u0 u1)].length≤4611686018427387904)<| .rg {an:=[(5, .arr [(YK u0 u1)].length (k33 u0 u1)),(6, .arr (k34 u0 u1 u2).length (ay Part.cell (k34 u0 u1 u2)))],fr:=[(5,67),(6,68)]} [.pf ⟨[(YK u0 u1)].length=1,rfl⟩, .pf ⟨aS 1 2 (pK 2 [(.int .i64 (k11 u0)),(.int .i64 u1)]) (k33 u0 u1),(by intro i hi j hj;match i,j,hi,hj with|0,0,_,_=>rfl|0,1,_,_=>rfl)⟩, .e (u2.length),0,1, .pf ⟨(k34 u0 u1 u2).length=u2.length+[(YK u0 u1)].length,List.length_append⟩, .pf ⟨aS (u2.length+[(YK u0 u1)].length) 2 (qW (ay Part.cell u2) u2.length (k33 u0 u1)) (ay Part.cell (k34 u0 u1 u2)),dD _ _ _ _⟩]<| .r<| .en (.next ((k34 u0 u1 u2),(k11 u1))) [] [(68,38)])
  (.e (.done (.brk u2))))
  (fun u5=> .r<| .e (.next (u5,(k11 u0)))))
  (.e (.done (.brk u3))))
  (fun u4=> .r<| .en (u4,0) [] [(38,0)])))
section
variable (u0:Graph) (a:Int) (b:Int)
abbrev k35:List (Nat × Option Ob):=[(0,some (.cells 141 [(.ptr 1 0)])),(1,some (.cells 182 [(.own 2 false u0.parts.length),(.mp 3),(.mp 4)])),(2,some (aV 62 2 Part.cell u0.parts)),(3,some (.gm 3 44 3 u0.aA.e0 none)),(4,some (.gm 3 44 3 u0.aA.e1 none))]
abbrev T9:=((bB a u0.aA.e0)++[b])
abbrev k37:=(ay (aC .i64) (T9 u0 a b))
abbrev k38:=((T9 u0 a b).length)
end
theorem fD (a:Int) (b:Int) (u0:Graph):dJ Tryz.prog 88 [(sI a),(sI b),(.one (.ptr 0 0))] (k35 u0) (fun r=>(.fU [])) (fun r=>[(0,some (.cells 141 [(.ptr 1 0)])),(1,some (.cells 182 [(.own 2 false u0.parts.length),(.mp 3),(.mp 4)])),(2,some (aV 62 2 Part.cell u0.parts)),(3,some (.gm 3 44 3 r.aA.e0 none)),(4,some (.gm 3 44 3 u0.aA.e1 none))]) (fJ a b u0):=
  dR tT mX Tryz.func88 (
  .a2 (((bB a u0.aA.e0).length+[b].length)*8≤140737488355328) ((bB a u0.aA.e0).length+[b].length≤4611686018427387904)<| .rg {an:=[(12, .gtk 8 (bB a u0.aA.e0)),(14, .arr [b].length (ay (aC .i64) [b])),(15, .arr (T9 u0 a b).length (k37 u0 a b)),(16, .gput (T9 u0 a b))],fr:=[(14,9),(15,10)]} [.pf ⟨(0:Int)≤0∧(0:Int)<(2:Nat),(by decide)⟩, .pf ⟨(0:Int)≤0∧(0:Int)<(2:Nat),(by decide)⟩, .pf ⟨(bB a u0.aA.e0)=(bB a u0.aA.e0),rfl⟩, .pf ⟨[b].length=1,rfl⟩, .pf ⟨aS 1 1 (pK 1 [(.int .i64 b)]) (ay (aC .i64) [b]),(by intro i hi j hj;match i,j,hi,hj with|0,0,_,_=>rfl)⟩, .e ((bB a u0.aA.e0).length),0,1, .pf ⟨(T9 u0 a b).length=(bB a u0.aA.e0).length+[b].length,List.length_append⟩, .pf ⟨aS ((bB a u0.aA.e0).length+[b].length) 1 (qW (ay (aC .i64) (bB a u0.aA.e0)) (bB a u0.aA.e0).length (ay (aC .i64) [b])) (k37 u0 a b),dD _ _ _ _⟩, .e (k38 u0 a b), .e (k38 u0 a b), .pf ⟨aS (k38 u0 a b) 1 (k37 u0 a b) (sM (T9 u0 a b)),(fun _ _ _ _=>rfl)⟩, .pf ⟨∀n0 c0,(some (a,CV.own 8 false (bB a u0.aA.e0).length):Option (Int × CV))=some (n0,c0)→n0=a,(fun _ _ h=>by cases h;rfl)⟩]<| .e (⟨u0.parts,(⟨(iy a (T9 u0 a b) u0.aA.e0),u0.aA.e1⟩:aK)⟩:Graph))
theorem dU (kz:Int) (i:Int) (u0:Graph):dJ Tryz.prog 86 [(sI kz),(sI i),(.one (.ptr 0 0))] (k35 u0) (fun r=>(vI r)) (fun r=>(k35 u0)) (fM kz i u0):=
  dR tT mX Tryz.func86 (
  .r<| .cr 7 ⟨fun{r_} hr_=>((Fn.JE (frz:=[2]) (p:=[u0.parts.length=u0.parts.length]) (zR u0.parts (⟨kz,i⟩:Part) hr_) (by kernel_rfl) ⟨rfl,trivial⟩ rfl):Fn Tryz.prog 87 [(.one (.own 2 false u0.parts.length)),(.agg [(cI kz),(cI i)])] [(2,some (aV 62 2 Part.cell u0.parts))] (vI r_) [(2,some (aV 62 2 Part.cell u0.parts))])⟩ fun r_=> .r<| .e r_)
section
variable (v0:(List (Int × (List Int)))) (u8:Int) (r_:((List Part) × Int)) (w0:Graph) (u3:Int) (p:au) (s_:State) (v7:Graph) (v6:Int) (w1:Int) (u0:Int) (u4:Int) (u1:Int) (u2:Int)
abbrev Wo:List (Nat × Option Ob):=[(17,some (.gm 3 44 3 v0 none))]
abbrev k40:=(IntKind.wrap .i64 ((2:Int)*u8))
abbrev k41:=(IntKind.wrap .i64 ((k40 u8)+1))
abbrev Xg:=(⟨r_.1,(⟨v0,([]:(List (Int × (List Int))))⟩:aK)⟩:Graph)
abbrev k43:=(w0.aA.e0,(k11 u8))
abbrev k44:=((0:Int)≤u3∧u3<(p.sources.length:Int))
abbrev k45:=((gB [((at' s_.on_ u3.toNat),true)]=true→(0:Int)≤u3∧u3<(s_.badSource.length:Int)))
abbrev k46:=((gB [((bif (at' s_.on_ u3.toNat)then(!(at' s_.badSource u3.toNat))else false),true)]=true→(0:Int)≤(at' p.sources u3.toNat).bus∧(at' p.sources u3.toNat).bus<(s_.badBus.length:Int)))
abbrev k47:=((at' p.sources u3.toNat).bus)
abbrev k48:=(⟨r_.1,(⟨v7.aA.e0,([]:(List (Int × (List Int))))⟩:aK)⟩:Graph)
abbrev k49:=(dS [(0,20),(1,19),(2,21),(3,17),(4,18)] (fD (k41 v6) (k40 w1) (k48 r_ v7)))
abbrev Rs:=((at' p.links u0.toNat).a)
abbrev k51:=(at' [(at' p.links u0.toNat).a,(at' p.links u0.toNat).b] u4.toNat)
abbrev TY:=((at' p.links u0.toNat).b)
abbrev Mv:=((at' p.racks u1.toNat).feeds)
abbrev k53:=(at' [(Mv p u1).e0,(Mv p u1).e1] u2.toNat)
abbrev Wi:List CV:=[(cI ((Mv p u1).e0)),(cI ((Mv p u1).e1))]
end
theorem zu (p:au) (s_:State) (u1:Int):dJ Tryz.prog 54 (TD p s_ u1) [] (fun r=>(vP 0 0)) (fun r=>[(0,some (.cells 182 [(.own 1 false r.parts.length),(.mp 2),(.mp 3)])),(1,some (aV 62 2 Part.cell r.parts)),(2,some (.gm 3 44 3 r.aA.e0 none)),(3,some (.gm 3 44 3 r.aA.e1 none))]) (uS p s_ u1):=
  dR tT mX Tryz.func54 (
  .rg {fr:=[(0,15),(1,16)],fz:=[16]} []<| .rg {an:=[(0, .gput []),(1, .gput [])],fr:=[(0,17),(1,18),(4,19),(5,20)]} []<| .cl 2 (dS [(0,21)] (rE p)) fun r_=> .r<| .r<| .r<| .r<| .lp (σ:=((List (Int × (List Int))) × Int)) (β:=(List (Int × (List Int)))) (([]:(List (Int × (List Int)))),0) [] [] ⟨[2,3,4,7,8,9,40],[15,18,19,20,21],fun(v0,u8)=>[(41,(vI u8))],fun(v0,u8)=>(Wo v0)⟩ ⟨[2,3,4,7,8,9],[15,18,19,20,21],fun v1=>[],fun v1=>(Wo v1)⟩
  (fun(v0,u8)=> .r<| .it (.r<| .cl 6 (dS [(0,20),(1,19),(2,21),(3,17),(4,18)] (fD (k40 u8) (k41 u8) (Xg v0 r_))) fun w0=> .r<| .r<| .e (.next (k43 u8 w0)))
  (.e (.done (.brk v0))))
  (fun v1=> .r<| .lp (σ:=((List (Int × (List Int))) × Int)) (β:=(List (Int × (List Int)))) (v1,0) [] [] ⟨[2,3,4,7,8,9,53,54],[15,18,19,20,21],fun(u5,u3)=>[(55,(vI u3))],fun(u5,u3)=>(Wo u5)⟩ ⟨[2,3,4,7,8,9],[15,18,19,20,21],fun v2=>[],fun v2=>(Wo v2)⟩
  (fun(u5,u3)=> .r<| .it (.a1 (k44 u3 p)<| .rg {fr:=[(3,25)],fz:=[25]} []<| .a3 ((0:Int)≤u3∧u3<(s_.on_.length:Int)) (k45 u3 s_) (k46 u3 p s_)<| .rg {} [0,1,2]<| .it (.cr 2 (dS [(0,20),(1,19),(2,21),(3,17),(4,18)] (dU 2 u3 (Xg u5 r_))) fun v6=> .r<| .cl 3 (dS [(0,20),(1,19),(2,21),(3,17),(4,18)] (fD (-1) (k40 v6) (Xg u5 r_))) fun v7=> .r<| .cr 7 (dS [(0,20),(1,19),(2,21),(3,17),(4,18)] (dU 1 (k47 u3 p) (k48 r_ v7))) fun w1=> .cl 9 (k49 r_ v7 v6 w1) fun w2=> .r<| .r<| .e (.next (k43 u3 w2)))
  (.r<| .e (.next (u5,(k11 u3)))))
  (.e (.done (.brk u5))))
  (fun v2=> .rg {fz:=[15]} []<| .lp (σ:=((List (Int × (List Int))) × Int)) (β:=(List (Int × (List Int)))) (v2,0) [] [] ⟨[2,3,4,7,8,9,101,102],[18,19,20,21],fun(u6,u0)=>[(103,(vI u0))],fun(u6,u0)=>(Wo u6)⟩ ⟨[2,3,4,7,8,9],[18,19,20,21],fun v3=>[],fun v3=>(Wo v3)⟩
  (fun(u6,u0)=> .r<| .it (.a1 (k28 p u0)<| .rg {fr:=[(3,29)],fz:=[29]} []<| .a4 ((0:Int)≤u0∧u0<(s_.closed.length:Int)) ((gB [((!(at' s_.closed u0.toNat)),false)]=true→(0:Int)≤u0∧u0<(s_.badLink.length:Int))) ((gB [((bif (!(at' s_.closed u0.toNat))then true else(at' s_.badLink u0.toNat)),false)]=true→(0:Int)≤(at' p.links u0.toNat).a∧(at' p.links u0.toNat).a<(s_.badBus.length:Int))) ((gB [((bif (bif (!(at' s_.closed u0.toNat))then true else(at' s_.badLink u0.toNat))then true else(at' s_.badBus ((Rs p u0).toNat))),false)]=true→(0:Int)≤(at' p.links u0.toNat).b∧(at' p.links u0.toNat).b<(s_.badBus.length:Int)))<| .rg {} [0,1,2,3]<| .it (.r<| .e (.next (u6,(k11 u0))))
  (.cr 2 (dS [(0,20),(1,19),(2,21),(3,17),(4,18)] (dU 3 u0 (Xg u6 r_))) fun v8=> .r<| .r<| .lp (σ:=((List (Int × (List Int))) × Int)) (β:=(List (Int × (List Int)))) (u6,0) [] [] ⟨[2,3,4,7,8,9,16,101,102,103,144],[18,19,20,21],fun(u9,u4)=>[(145,(vI u4))],fun(u9,u4)=>(Wo u9)⟩ ⟨[2,3,4,7,8,9,101,102,103],[18,19,20,21],fun v4=>[],fun v4=>(Wo v4)⟩
  (fun(u9,u4)=> .r<| .it (.a1 ((0:Int)≤u4∧u4<((2:Nat):Int))<| .rg {an:=[(0, .vals [(.int .i64 (k51 p u0 u4))])]} [0, .dv 0 ⟨(0:Int)≤u4∧u4<((2:Nat):Int),u4.toNat*1+1≤[(cI (Rs p u0)),(cI (TY p u0))].length,fun ax=>Xf (n:=2) (sz:=1) (Nat.le_refl _) ax⟩, .dv 0 ⟨(0:Int)≤u4∧u4<((2:Nat):Int),([(cI (Rs p u0)),(cI (TY p u0))].drop (u4.toNat*1)).take 1=[(.int .i64 (k51 p u0 u4))].map .d,fun ax=>XC (n:=2) (sz:=1) (g:=fun q=>[(cI (at' [(at' p.links u0.toNat).a,(at' p.links u0.toNat).b] q))]) (by intro q hq;match q,hq with|0,_=>rfl|1,_=>rfl) ax⟩]<| .cr 3 (dS [(0,20),(1,19),(2,21),(3,17),(4,18)] (dU 1 (k51 p u0 u4) (Xg u9 r_))) fun w3=> .cl 8 (dS [(0,20),(1,19),(2,21),(3,17),(4,18)] (fD (k41 w3) (k40 v8) (Xg u9 r_))) fun v9=> .r<| .cr 6 (dS [(0,20),(1,19),(2,21),(3,17),(4,18)] (dU 1 (k51 p u0 u4) (k48 r_ v9))) fun w4=> .cl 8 (k49 r_ v9 v8 w4) fun w5=> .r<| .r<| .e (.next (k43 u4 w5)))
  (.e (.done (.brk u9))))
  (fun v4=> .r<| .e (.next (v4,(k11 u0))))))
  (.e (.done (.brk u6))))
  (fun v3=> .a1 ((0:Int)≤u1∧u1<(p.racks.length:Int))<| .r<| .lp (σ:=((List (Int × (List Int))) × Int)) (β:=(List (Int × (List Int)))) (v3,0) [] [] ⟨[4,7,8,9,173],[18,19,20,21],fun(u7,u2)=>[(174,(vI u2))],fun(u7,u2)=>(Wo u7)⟩ ⟨[7],[18,19,20,21],fun v5=>[],fun v5=>(Wo v5)⟩
  (fun(u7,u2)=> .r<| .it (.a1 ((0:Int)≤u2∧u2<((2:Nat):Int))<| .rg {an:=[(0, .vals [(.int .i64 (k53 p u1 u2))])]} [0, .dv 0 ⟨(0:Int)≤u2∧u2<((2:Nat):Int),u2.toNat*1+1≤(Wi p u1).length,fun ax=>Xf (n:=2) (sz:=1) (Nat.le_refl _) ax⟩, .dv 0 ⟨(0:Int)≤u2∧u2<((2:Nat):Int),((Wi p u1).drop (u2.toNat*1)).take 1=[(.int .i64 (k53 p u1 u2))].map .d,fun ax=>XC (n:=2) (sz:=1) (g:=fun q=>[(cI (at' [(Mv p u1).e0,(Mv p u1).e1] q))]) (by intro q hq;match q,hq with|0,_=>rfl|1,_=>rfl) ax⟩]<| .a1 ((gB [((decide (0≤(k53 p u1 u2))),true)]=true→(0:Int)≤(k53 p u1 u2)∧(k53 p u1 u2)<(s_.badBus.length:Int)))<| .r<| .it (.cr 3 (dS [(0,20),(1,19),(2,21),(3,17),(4,18)] (dU 1 (k53 p u1 u2) (Xg u7 r_))) fun w6=> .cl 6 (dS [(0,20),(1,19),(2,21),(3,17),(4,18)] (fD (k41 w6) (-2) (Xg u7 r_))) fun w7=> .r<| .r<| .e (.next (k43 u2 w7)))
  (.r<| .e (.next (u7,(k11 u2)))))
  (.e (.done (.brk u7))))
  (fun v5=> .r<| .en (Xg v5 r_) [] [(19,0),(21,1),(17,2),(18,3)])))))
theorem qM (s_:(List Int)) (u0:Bool):dJ Tryz.prog 90 [(sD (bJ (some u0) 1 (aC .i64) s_))] [] (fun r=>(vO 0 false r.length)) (fun r=>[(0,some (aV 3 1 (aC .i64) r))]) (oG s_ u0):=
  dR tT mX Tryz.func90 (
  .r<| .r<| .it (.r<| .im (.ad 2 2 3 1 (ay (aC .i64) ([]:List Int)))<| .en ([]:List Int) [] [(2,0)])
  (.a2 ((([]:List Int).length+s_.length)*8≤140737488355328) (([]:List Int).length+s_.length≤4611686018427387904)<| .rg {an:=[(0, .arr ([]:List Int).length (ay (aC .i64) ([]:List Int))),(2, .arr (([]:List Int)++s_).length (ay (aC .i64) (([]:List Int)++s_)))],fr:=[(0,3),(2,4)]} [.pf ⟨([]:List Int).length=0,rfl⟩, .pf ⟨aS 0 1 (pK 1 []) (ay (aC .i64) ([]:List Int)),(fun i hi=>absurd hi (Nat.not_lt_zero i))⟩, .e (([]:List Int).length),0,1, .pf ⟨(([]:List Int)++s_).length=([]:List Int).length+s_.length,List.length_append⟩, .pf ⟨aS (([]:List Int).length+s_.length) 1 (qW (ay (aC .i64) ([]:List Int)) ([]:List Int).length (ay (aC .i64) s_)) (ay (aC .i64) (([]:List Int)++s_)),dD _ _ _ _⟩]<| .en (([]:List Int)++s_) [] [(4,0)]))
theorem oq (s:(List Int)) {r:(List Int)} (h:fT s=some r):Fn Tryz.prog 90 [(sD (bJ none 1 (aC .i64) s))] [] (vO 0 false r.length) [(0,some (aV 3 1 (aC .i64) r))]:=by
 refine Fn.nn (qM s true h) fun hl=> ?_
 have hs:s=[]:=List.eq_nil_of_length_eq_zero hl
 subst hs
 exact qM [] false (by rw [←h];kernel_rfl)
section
variable (s_:(List Int)) (t8:Int)
abbrev O8:DV:=(bJ none 1 (aC .i64) s_)
abbrev Rx:=((0:Int)≤t8∧t8<(s_.length:Int))
end
theorem lV (s_:(List Int)) (v_:Int):dJ Tryz.prog 114 [(sD (O8 s_)),(sI v_)] [] (fun r=>(vI r)) (fun _=>[]) (eP s_ v_):=
  dR tT mX Tryz.func114 (
  .r<| .r<| .lp (σ:=Int) (β:=Unit) (0) [] [] ⟨[0,1,7],[],fun t8=>[(8,(vI t8))],fun t8=>[]⟩ ⟨[],[],fun _=>[],fun _=>[]⟩
  (fun t8=> .r<| .it (.r<| .a1 (Rx s_ t8)<| .r<| .it (.r<| .e (.done (.ret t8)))
  (.r<| .e (.next (k11 t8))))
  (.e (.done (.brk ()))))
  (fun _=> .r<| .e (-1)))
theorem uQ (s:List Int) (i j:Int) {r:List Int} (h:kE s i j=some r):Fn Tryz.prog 115 [(.one (.own 0 false s.length)),(sI i),(sI j)] [(0,some (aV 3 1 (aC .i64) s))] (vO 0 false r.length) [(0,some (aV 3 1 (aC .i64) r))]:=
 VF Xz 115 rfl ⟨_,Tryz.func115,rfl,rfl⟩ s i j h
section
variable (u0:Graph) (a:Int)
abbrev k59:Nat × Option Ob:=(0,some (.cells 182 [(.own 1 false u0.parts.length),(.mp 2),(.mp 3)]))
abbrev k60:Nat × Option Ob:=(1,some (aV 62 2 Part.cell u0.parts))
abbrev k58:List (Nat × Option Ob):=[(k59 u0),(k60 u0),(2,some (.gm 3 44 3 u0.aA.e0 none)),(3,some (.gm 3 44 3 u0.aA.e1 none))]
abbrev k61:List (Nat × Option Ob):=[(12,some (aV 3 1 (aC .i64) (bB a u0.aA.e0)))]
end
theorem pG (a:Int) (b:Int) (u3:Int) (u0:Graph):dJ Tryz.prog 91 [(.one (.ptr 0 0)),(sI a),(sI b),(sI u3)] (k58 u0) (fun r=>(.fU [])) (fun r=>[(k59 u0),(k60 u0),(2,some (.gm 3 44 3 r.aA.e0 none)),(3,some (.gm 3 44 3 r.aA.e1 none))]) (iO a b u3 u0):=
  dR tT mX Tryz.func91 (
  .fk (decide (u3=0)) (.si 3 u3 0 0<| .rg {an:=[(7, .gtk 12 (bB a u0.aA.e0))]} [.pf ⟨(0:Int)≤0∧(0:Int)<(2:Nat),(by decide)⟩, .pf ⟨(bB a u0.aA.e0)=(bB a u0.aA.e0),rfl⟩]<| .cr 2 ⟨fun{r_} hr_=>((Fn.JE (frz:=[12]) (p:=[(bB a u0.aA.e0).length=(bB a u0.aA.e0).length]) (lV (bB a u0.aA.e0) b hr_) (by kernel_rfl) ⟨rfl,trivial⟩ rfl):Fn Tryz.prog 114 [(.one (.own 12 false ((bB a u0.aA.e0).length))),(sI b)] (k61 u0 a) (vI r_) (k61 u0 a))⟩ fun r_=> .r<| .cl 11 (dS [(0,12)] ⟨fun h=>uQ (bB a u0.aA.e0) r_ (k11 r_) h⟩) fun u1=> .rg {an:=[(12, .gput u1)]} [.pf ⟨(0:Int)≤0∧(0:Int)<(2:Nat),(by decide)⟩,0, .e (u1.length), .e (u1.length), .pf ⟨aS u1.length 1 (ay (aC .i64) u1) (sM u1),(fun _ _ _ _=>rfl)⟩, .pf ⟨∀n0 c0,(some (a,CV.own 12 false (bB a u0.aA.e0).length):Option (Int × CV))=some (n0,c0)→n0=a,(fun _ _ h=>by cases h;rfl)⟩]<| .a2 (((bB a u0.aA.e1).length+[b].length)*8≤140737488355328) ((bB a u0.aA.e1).length+[b].length≤4611686018427387904)<| .rg {an:=[(16, .gtk 13 (bB a u0.aA.e1)),(18, .arr [b].length (ay (aC .i64) [b])),(19, .arr ((bB a u0.aA.e1)++[b]).length (ay (aC .i64) ((bB a u0.aA.e1)++[b]))),(20, .gput ((bB a u0.aA.e1)++[b]))],fr:=[(18,14),(19,15)]} [.pf ⟨(0:Int)≤1∧(1:Int)<(2:Nat),(by decide)⟩, .pf ⟨(0:Int)≤1∧(1:Int)<(2:Nat),(by decide)⟩, .pf ⟨(bB a u0.aA.e1)=(bB a u0.aA.e1),rfl⟩, .pf ⟨[b].length=1,rfl⟩, .pf ⟨aS 1 1 (pK 1 [(.int .i64 b)]) (ay (aC .i64) [b]),(by intro i hi j hj;match i,j,hi,hj with|0,0,_,_=>rfl)⟩, .e ((bB a u0.aA.e1).length),0,1, .pf ⟨((bB a u0.aA.e1)++[b]).length=(bB a u0.aA.e1).length+[b].length,List.length_append⟩, .pf ⟨aS ((bB a u0.aA.e1).length+[b].length) 1 (qW (ay (aC .i64) (bB a u0.aA.e1)) (bB a u0.aA.e1).length (ay (aC .i64) [b])) (ay (aC .i64) ((bB a u0.aA.e1)++[b])),dD _ _ _ _⟩, .e (((bB a u0.aA.e1)++[b]).length), .e (((bB a u0.aA.e1)++[b]).length), .pf ⟨aS (((bB a u0.aA.e1)++[b]).length) 1 (ay (aC .i64) ((bB a u0.aA.e1)++[b])) (sM ((bB a u0.aA.e1)++[b])),(fun _ _ _ _=>rfl)⟩, .pf ⟨∀n0 c0,(some (a,CV.own 13 false (bB a u0.aA.e1).length):Option (Int × CV))=some (n0,c0)→n0=a,(fun _ _ h=>by cases h;rfl)⟩]<| .e (⟨u0.parts,(⟨(iy a u1 u0.aA.e0),(iy a ((bB a u0.aA.e1)++[b]) u0.aA.e1)⟩:aK)⟩:Graph))
  (.a1 (u3=1)<| .sj 3 u3 1 0<| .rg {an:=[(7, .gtk 16 (bB a u0.aA.e1))]} [.pf ⟨(0:Int)≤1∧(1:Int)<(2:Nat),(by decide)⟩, .pf ⟨(bB a u0.aA.e1)=(bB a u0.aA.e1),rfl⟩]<| .cr 2 ⟨fun{u4} hr_2=>((Fn.JE (frz:=[16]) (p:=[(bB a u0.aA.e1).length=(bB a u0.aA.e1).length]) (lV (bB a u0.aA.e1) b hr_2) (by kernel_rfl) ⟨rfl,trivial⟩ rfl):Fn Tryz.prog 114 [(.one (.own 16 false ((bB a u0.aA.e1).length))),(sI b)] [(16,some (aV 3 1 (aC .i64) (bB a u0.aA.e1)))] (vI u4) [(16,some (aV 3 1 (aC .i64) (bB a u0.aA.e1)))])⟩ fun u4=> .r<| .cl 11 (dS [(0,16)] ⟨fun h=>uQ (bB a u0.aA.e1) u4 (k11 u4) h⟩) fun u2=> .rg {an:=[(12, .gput u2)]} [.pf ⟨(0:Int)≤1∧(1:Int)<(2:Nat),(by decide)⟩,0, .e (u2.length), .e (u2.length), .pf ⟨aS u2.length 1 (ay (aC .i64) u2) (sM u2),(fun _ _ _ _=>rfl)⟩, .pf ⟨∀n0 c0,(some (a,CV.own 16 false (bB a u0.aA.e1).length):Option (Int × CV))=some (n0,c0)→n0=a,(fun _ _ h=>by cases h;rfl)⟩]<| .a2 (((bB a u0.aA.e0).length+[b].length)*8≤140737488355328) ((bB a u0.aA.e0).length+[b].length≤4611686018427387904)<| .rg {an:=[(16, .gtk 17 (bB a u0.aA.e0)),(18, .arr [b].length (ay (aC .i64) [b])),(19, .arr (T9 u0 a b).length (k37 u0 a b)),(20, .gput (T9 u0 a b))],fr:=[(18,18),(19,19)]} [.pf ⟨(0:Int)≤0∧(0:Int)<(2:Nat),(by decide)⟩, .pf ⟨(0:Int)≤0∧(0:Int)<(2:Nat),(by decide)⟩, .pf ⟨(bB a u0.aA.e0)=(bB a u0.aA.e0),rfl⟩, .pf ⟨[b].length=1,rfl⟩, .pf ⟨aS 1 1 (pK 1 [(.int .i64 b)]) (ay (aC .i64) [b]),(by intro i hi j hj;match i,j,hi,hj with|0,0,_,_=>rfl)⟩, .e ((bB a u0.aA.e0).length),0,1, .pf ⟨(T9 u0 a b).length=(bB a u0.aA.e0).length+[b].length,List.length_append⟩, .pf ⟨aS ((bB a u0.aA.e0).length+[b].length) 1 (qW (ay (aC .i64) (bB a u0.aA.e0)) (bB a u0.aA.e0).length (ay (aC .i64) [b])) (k37 u0 a b),dD _ _ _ _⟩, .e (k38 u0 a b), .e (k38 u0 a b), .pf ⟨aS (k38 u0 a b) 1 (k37 u0 a b) (sM (T9 u0 a b)),(fun _ _ _ _=>rfl)⟩, .pf ⟨∀n0 c0,(some (a,CV.own 17 false (bB a u0.aA.e0).length):Option (Int × CV))=some (n0,c0)→n0=a,(fun _ _ h=>by cases h;rfl)⟩]<| .e (⟨u0.parts,(⟨(iy a (T9 u0 a b) u0.aA.e0),(iy a u2 u0.aA.e1)⟩:aK)⟩:Graph)))
theorem gX (s_:(List Int)) (v_:Int):dJ Tryz.prog 92 [(sD (O8 s_)),(sI v_)] [] (fun r=>(vB r)) (fun _=>[]) (dL s_ v_):=
  dR tT mX Tryz.func92 (
  .r<| .cl 2 (lV s_ v_) fun r_=> .r<| .e (decide (0≤r_)))
section
variable (u1:Int) (o_:(List (Int × Bool))) (u0:Graph) (r_:(List Int)) (o0:(List (Int × Bool))) (u5:(List (Int × (List Int)))) (u6:(List (Int × (List Int)))) (u3:Int) (x:Int × List Int) (u2:(List (Int × Bool)))
abbrev k62:List SV:=[(sI u1),(.one (.ptr 0 0)),(.one (.ptr 1 0)),(.one (.ptr 2 0))]
abbrev k64:Nat × Option Ob:=(1,some (.cells 141 [(.ptr 4 0)]))
abbrev k65:Nat × Option Ob:=(2,some (.cells 186 [(.fn 89 0 3 (JS [(.ptr 0 0),(.ptr 1 0),(.ptr 2 0)]))]))
abbrev k66:Nat × Option Ob:=(3,some (Cg 3 4 false false 1 1 (aC .i64) ah o_))
abbrev k67:Nat × Option Ob:=(4,some (.cells 182 [(.own 5 false u0.parts.length),(.mp 6),(.mp 7)]))
abbrev k68:Nat × Option Ob:=(5,some (aV 62 2 Part.cell u0.parts))
abbrev k63:List (Nat × Option Ob):=[(0,some (.cells 185 [(.mp 3)])),k64,k65,(k66 o_),(k67 u0),(k68 u0),(6,some (.gm 3 44 3 u0.aA.e0 none)),(7,some (.gm 3 44 3 u0.aA.e1 none))]
abbrev Mt:Ob:=(aV 3 1 (aC .i64) r_)
abbrev k70:List (Nat × Option Ob):=[(k66 o0),(6,some (.gm 3 44 3 u5 none)),(7,some (.gm 3 44 3 u6 none))]
abbrev k71:=(⟨u0.parts,(⟨u5,u6⟩:aK)⟩:Graph)
abbrev k72:List CV:=[(cB ((bN bn (at' r_ u3.toNat) o0).getD false))]
abbrev k73:List CV:=[(cB ((bN bn x.1 u2).getD false))]
end
theorem pE (v2:Int→(List (Int × Bool))→Graph→Option (Bool × (List (Int × Bool)) × Graph)) (rec_ok: ∀(u1:Int) (o_:(List (Int × Bool))) (u0:Graph) (r:(Bool × (List (Int × Bool)) × Graph)),v2 u1 o_ u0=some r→Fn Tryz.prog 89 (k62 u1) (k63 o_ u0) ((fun r=>(vB r.1)) r) ((fun r=>[(0,some (.cells 185 [(.mp 3)])),k64,k65,(3,some (Cg 3 4 false false 1 1 (aC .i64) ah r.2.1)),(k67 u0),(k68 u0),(6,some (.gm 3 44 3 r.2.2.aA.e0 none)),(7,some (.gm 3 44 3 r.2.2.aA.e1 none))]) r)) (u1:Int) (o_:(List (Int × Bool))) (u0:Graph):dJ Tryz.prog 89 (k62 u1) (k63 o_ u0) (fun r=>(vB r.1)) (fun r=>[(0,some (.cells 185 [(.mp 3)])),k64,k65,(3,some (Cg 3 4 false false 1 1 (aC .i64) ah r.2.1)),(k67 u0),(k68 u0),(6,some (.gm 3 44 3 r.2.2.aA.e0 none)),(7,some (.gm 3 44 3 r.2.2.aA.e1 none))]) (kK v2 u1 o_ u0):=
  dR tT mX Tryz.func89 (
  .r<| .r<| .it (.r<| .e (true,o_,u0))
  (.rg {an:=[(2, .map (dG bn u1 true o_).length (o9 (aC .i64) (dG bn u1 true o_)) (pz ah (dG bn u1 true o_)) [])]} [.pf ⟨ji [some .i64] 1 1 o_.length (o9 (aC .i64) o_) (pz ah o_) [(.int .i64 u1)] [(cB true)] [] (dG bn u1 true o_).length (o9 (aC .i64) (dG bn u1 true o_)) (pz ah (dG bn u1 true o_)),tH (fun _=>rfl) (fun _ _=>rfl) o_ u1 true rfl rfl⟩]<| .cl 7 ⟨fun{r_} hr_=>((Fn.Rq (args:=[(sD (bJ none 1 (aC .i64) (bB u1 u0.aA.e0)))]) (frz:=[12]) (p:=[(bB u1 u0.aA.e0).length=(bB u1 u0.aA.e0).length]) (Fn.JD [(0,13)] (oq (bB u1 u0.aA.e0) hr_) (by kernel_rfl) (by kernel_rfl) (by kernel_rfl) (by kernel_rfl)) (by kernel_rfl) ⟨rfl,trivial⟩ (by kernel_rfl) ⟨(fun _ _=>rfl),trivial⟩ (by kernel_rfl)):Fn Tryz.prog 90 [(.one (.own 12 false ((bB u1 u0.aA.e0).length)))] (k61 u0 u1) (vO 13 false r_.length) [(12,some (aV 3 1 (aC .i64) (bB u1 u0.aA.e0))),(13,some (Mt r_))])⟩ fun r_=> .rg {an:=[(6, .gtk 12 (bB u1 u0.aA.e0))],fz:=[13]} [.pf ⟨(0:Int)≤0∧(0:Int)<(2:Nat),(by decide)⟩, .pf ⟨(bB u1 u0.aA.e0)=(bB u1 u0.aA.e0),rfl⟩,0]<| .im (.gf 6 12 3 44 3 u0.aA.e0 u1 false ((bB u1 u0.aA.e0).length) ((bB u1 u0.aA.e0).length) (ay (aC .i64) (bB u1 u0.aA.e0)) rfl rfl (fun _ _ _ _=>rfl))<| .lp (σ:=((List (Int × Bool)) × (List (Int × (List Int))) × (List (Int × (List Int))) × Int)) (β:=((List (Int × Bool)) × (List (Int × (List Int))) × (List (Int × (List Int))))) ((dG bn u1 true o_),u0.aA.e0,u0.aA.e1,0) [] [] ⟨[0,1,2,3,21,22],[0,1,2,4,5],fun(o0,u5,u6,u3)=>[(23,(vI u3))],fun(o0,u5,u6,u3)=>(k70 o0 u5 u6)⟩ ⟨[0,1,2,3],[0,1,2,4,5],fun(v0,v1,u4)=>[],fun(v0,v1,u4)=>(k70 v0 v1 u4)⟩
  (fun(o0,u5,u6,u3)=> .r<| .it (.a1 (Rx r_ u3)<| .r<| .fk (!((bN bn (at' r_ u3.toNat) o0).getD false)) (.cl 7 ⟨fun h=>rec_ok (at' r_ u3.toNat) o0 (k71 u0 u5 u6) _ h⟩ fun u9=> .rg {an:=[(2, .look (bN bn (at' r_ u3.toNat) o0).isSome (k72 r_ o0 u3))],ov:=[(4,true,1)]} [.pf ⟨dP [some .i64] 1 1 o0.length (o9 (aC .i64) o0) (pz ah o0) [(.int .i64 (at' r_ u3.toNat))] [(.d (.bool false))] (bN bn (at' r_ u3.toNat) o0).isSome (k72 r_ o0 u3),jg (fun _=>rfl) (fun _ _=>rfl) o0 (at' r_ u3.toNat) false rfl rfl rfl⟩, .k 0]<| .it (.cl 3 (dS [(0,4),(1,5),(2,6),(3,7)] (pG u1 (at' r_ u3.toNat) 0 (⟨u0.parts,u9.2.2.aA⟩:Graph))) fun v4=> .r<| .r<| .e (.done (.ret (true,u9.2.1,(⟨u0.parts,v4.aA⟩:Graph)))))
  (.r<| .e (.next (u9.2.1,u9.2.2.aA.e0,u9.2.2.aA.e1,(k11 u3)))))
  (.rg {an:=[(2, .look (bN bn (at' r_ u3.toNat) o0).isSome (k72 r_ o0 u3))],ov:=[(4,false,0)],sk:=[5,6,7]} [.pf ⟨dP [some .i64] 1 1 o0.length (o9 (aC .i64) o0) (pz ah o0) [(.int .i64 (at' r_ u3.toNat))] [(.d (.bool false))] (bN bn (at' r_ u3.toNat) o0).isSome (k72 r_ o0 u3),jg (fun _=>rfl) (fun _ _=>rfl) o0 (at' r_ u3.toNat) false rfl rfl rfl⟩]<| .f<| .r<| .e (.next (o0,u5,u6,(k11 u3)))))
  (.e (.done (.brk (o0,u5,u6)))))
  (fun(v0,v1,u4)=> .gr (σ:=((List (Int × Bool)) × (List (Int × (List Int))))) 7 14 15 3 44 3 u4 (lH u1) (iQ v2 u1 u0 u4) (by intro x hx z;obtain⟨_,_⟩:=z;dsimp only [iQ];exact aaF hx rfl) {} [.pf ⟨(0:Int)≤1∧(1:Int)<(2:Nat),(by decide)⟩] ⟨[0,1,2,3,46],[0,1,2,4,5,7,14],fun(u2,u7)=>[],fun(u2,u7)=>[(k66 u2),(6,some (.gm 3 44 3 u7 none))]⟩ (v0,v1) [] [] (fun x=>fun(u2,u7)=> .fk (bif (!((bN bn x.1 u2).getD false))then(!decide (x.1=(-1)))else false) (.cG 11 7 15 ⟨fun{v3} hr_3=>((Fn.JE (frz:=[15]) (p:=[x.2.length=x.2.length]) (gX x.2 u1 hr_3) (by kernel_rfl) ⟨rfl,trivial⟩ rfl):Fn Tryz.prog 92 [(.one (.own 15 false x.2.length)),(sI u1)] [(15,some (aV 3 1 (aC .i64) x.2))] (vB v3) [(15,some (aV 3 1 (aC .i64) x.2))])⟩ fun v3=> .fk v3 (.cl 16 ⟨fun h=>rec_ok x.1 u2 (k71 u0 u7 u4) _ h⟩ fun u8=> .rg {an:=[(2, .look (bN bn x.1 u2).isSome (k73 x u2))],ov:=[(8,true,3),(13,true,1)]} [.pf ⟨dP [some .i64] 1 1 u2.length (o9 (aC .i64) u2) (pz ah u2) [(.int .i64 x.1)] [(.d (.bool false))] (bN bn x.1 u2).isSome (k73 x u2),jg (fun _=>rfl) (fun _ _=>rfl) u2 x.1 false rfl rfl rfl⟩, .e (x.2.length), .dk 4 ⟨(bB x.1 u4)=x.2,x.2.length=(bB x.1 u4).length,fun ax=>(by rw [ax])⟩, .dk 4 ⟨(bB x.1 u4)=x.2,aS x.2.length 1 (ay (aC .i64) x.2) (sM (bB x.1 u4)),fun ax=>(by rw [ax];exact fun _ _ _ _=>rfl)⟩, .k 2, .k 0]<| .it (.cl 3 (dS [(0,4),(1,5),(2,6),(3,7)] (pG x.1 u1 1 (⟨u0.parts,u8.2.2.aA⟩:Graph))) fun v5=> .r<| .r<| .e (.done (.ret (true,u8.2.1,(⟨u0.parts,v5.aA⟩:Graph)))))
  (.a1 (u8.2.2.aA.e1=u4)<| .ge 7 3 44 3 u8.2.2.aA.e1 u4 0<| .e (.next (u8.2.1,u8.2.2.aA.e0))))
  (.rg {an:=[(2, .look (bN bn x.1 u2).isSome (k73 x u2))],ov:=[(8,true,2),(13,false,0)],sk:=[14,15,16]} [.pf ⟨dP [some .i64] 1 1 u2.length (o9 (aC .i64) u2) (pz ah u2) [(.int .i64 x.1)] [(.d (.bool false))] (bN bn x.1 u2).isSome (k73 x u2),jg (fun _=>rfl) (fun _ _=>rfl) u2 x.1 false rfl rfl rfl⟩, .e (x.2.length), .dk 3 ⟨(bB x.1 u4)=x.2,x.2.length=(bB x.1 u4).length,fun ax=>(by rw [ax])⟩, .dk 3 ⟨(bB x.1 u4)=x.2,aS x.2.length 1 (ay (aC .i64) x.2) (sM (bB x.1 u4)),fun ax=>(by rw [ax];exact fun _ _ _ _=>rfl)⟩, .k 1]<| .f<| .e (.next (u2,u7))))
  (.rg {an:=[(2, .look (bN bn x.1 u2).isSome (k73 x u2))],ov:=[(8,false,0)],sk:=[9,10,11,14,15,16]} [.pf ⟨dP [some .i64] 1 1 u2.length (o9 (aC .i64) u2) (pz ah u2) [(.int .i64 x.1)] [(.d (.bool false))] (bN bn x.1 u2).isSome (k73 x u2),jg (fun _=>rfl) (fun _ _=>rfl) u2 x.1 false rfl rfl rfl⟩]<| .gh 7 15 3 44 3 u4 x.1 x.2 false x.2.length x.2.length (ay (aC .i64) x.2) rfl rfl (fun _ _ _ _=>rfl) 1<| .f<| .e (.next (u2,u7))))
  (fun(v6,v7)=> .r<| .e (false,v6,(k71 u0 v7 u4))))))
theorem lK: ∀(n:Nat) (u1:Int) (o_:(List (Int × Bool))) (u0:Graph),dJ Tryz.prog 89 (k62 u1) (k63 o_ u0) (fun r=>(vB r.1)) (fun r=>[(0,some (.cells 185 [(.mp 3)])),k64,k65,(3,some (Cg 3 4 false false 1 1 (aC .i64) ah r.2.1)),(k67 u0),(k68 u0),(6,some (.gm 3 44 3 r.2.2.aA.e0 none)),(7,some (.gm 3 44 3 r.2.2.aA.e1 none))]) (gY n u1 o_ u0)
 |0,_,_,_=> ⟨fun h=>by cases h⟩
 |n+1,u1,o_,u0=>pE (gY n) (fun u1 o_ u0 _ h=>lK n u1 o_ u0 h) u1 o_ u0
theorem wS (u0:Graph):dJ Tryz.prog 55 [(.one (.ptr 0 0))] (k58 u0) (fun r=>(vB r.1)) (fun r=>[(k59 u0),(k60 u0),(2,some (.gm 3 44 3 r.2.aA.e0 none)),(3,some (.gm 3 44 3 r.2.aA.e1 none))]) (pV u0):=
  dR tT mX Tryz.func55 (
  .rg {fr:=[(0,8)]} []<| .rg {an:=[(0, .map 0 (o9 (aC .i64) ([]:(List (Int × Bool)))) (pz ah ([]:(List (Int × Bool)))) [])],fr:=[(0,9),(1,10)]} []<| .rg {fr:=[(0,11)]} []<| .r<| .cl 1 (dS [(0,10),(1,8),(2,11),(3,9),(4,0),(5,1),(6,2),(7,3)] (lK FUEL (-1) ([]:(List (Int × Bool))) u0)) fun r_=> .r<| .e (r_.1,(⟨u0.parts,r_.2.2.aA⟩:Graph)))
section
variable (u0:Graph) (u1:Int) (u4:(List Part))
abbrev k74:List (Nat × Option Ob):=[(k59 u0),(k60 u0),(2,some (Cg 3 44 false false 1 1 (aC .i64) (Ae 1 (aC .i64)) u0.aA.e0)),(3,some (Cg 3 44 false false 1 1 (aC .i64) (Ae 1 (aC .i64)) u0.aA.e1))]
abbrev Wq:=(at' u0.parts ((IntKind.wrap .i64 (Int.tdiv u1 2)).toNat))
abbrev k76:=(ay Part.cell [(Wq u0 u1)])
abbrev k77:=(u4++[(Wq u0 u1)])
abbrev k78:=((bN bn (k11 u1) u0.aA.e1).getD ([]:List Int))
abbrev k79:List CV:=[(.d (bJ none 1 (aC .i64) (k78 u0 u1)))]
end
theorem zL (u0:Graph):dJ Tryz.prog 56 [(.one (.ptr 0 0))] (k74 u0) (fun r=>(vD (bJ none 1 (Ae 2 Part.cell) r))) (fun r=>(k74 u0)) (uL u0):=
  dR tT mX Tryz.func56 (
  .r<| .r<| .rg {an:=[(5, .look (bN bn (-1) u0.aA.e1).isSome [(.d (bJ none 1 (aC .i64) ((bN bn (-1) u0.aA.e1).getD ([]:List Int))))])]} [.pf ⟨(0:Int)≤1∧(1:Int)<(2:Nat),(by decide)⟩, .pf ⟨dP [some .i64] 1 1 u0.aA.e1.length (o9 (aC .i64) u0.aA.e1) (pz (Ae 1 (aC .i64)) u0.aA.e1) [(.int .i64 (-1))] [(.d nS)] (bN bn (-1) u0.aA.e1).isSome [(.d (bJ none 1 (aC .i64) ((bN bn (-1) u0.aA.e1).getD ([]:List Int))))],CY (fun _=>rfl) (fun _ _=>rfl) u0.aA.e1 (-1) ([]:List Int) rfl (PL.slice _ _ _) rfl⟩]<| .im (.ad 3 85 57 1 (ay (Ae 2 Part.cell) ([]:List (List Part))))<| .lp (σ:=((List (List Part)) × Int)) (β:=(List (List Part))) (([]:List (List Part)),0) [] [(85,53)] ⟨[0,12,13],[0,1,2,3],fun(u3,u5)=>[(3,(vO 53 false u3.length)),(14,(vI u5))],fun(u3,u5)=>[(53,some (aV 57 1 (Ae 2 Part.cell) u3))]⟩ ⟨[],[0,1,2,3],fun u6=>[(3,(vO 53 false u6.length))],fun u6=>[(53,some (aV 57 1 (Ae 2 Part.cell) u6))]⟩
  (fun(u3,u5)=> .r<| .it (.a1 ((0:Int)≤u5∧u5<(((bN bn (-1) u0.aA.e1).getD ([]:List Int)).length:Int))<| .r<| .r<| .im (.ad 6 82 62 2 (ay Part.cell ([]:List Part)))<| .lp (σ:=(Int × (List Part))) (β:=(List Part)) ((at' ((bN bn (-1) u0.aA.e1).getD ([]:List Int)) u5.toNat),([]:List Part)) [] [(82,75)] ⟨[0,3,12,13,14],[0,1,2,3,53],fun(u1,u4)=>[(5,(vI u1)),(6,(vO 75 false u4.length))],fun(u1,u4)=>[(75,some (aV 62 2 Part.cell u4))]⟩ ⟨[0,3,12,13,14],[0,1,2,3,53],fun u2=>[(6,(vO 75 false u2.length))],fun u2=>[(75,some (aV 62 2 Part.cell u2))]⟩
  (fun(u1,u4)=> .r<| .it (.a4 (2≠(0:Int)) ((0:Int)≤(IntKind.wrap .i64 (Int.tdiv u1 2))∧(IntKind.wrap .i64 (Int.tdiv u1 2))<(u0.parts.length:Int)) ((u4.length+[(Wq u0 u1)].length)*16≤140737488355328) (u4.length+[(Wq u0 u1)].length≤4611686018427387904)<| .rg {an:=[(9, .arr [(Wq u0 u1)].length (k76 u0 u1)),(10, .arr (k77 u0 u1 u4).length (ay Part.cell (k77 u0 u1 u4)))],fr:=[(9,80),(10,81)]} [0,1, .t 1 (IntKind.wrap .i64 (Int.tdiv u1 2)) u0.parts.length, .pf ⟨[(Wq u0 u1)].length=1,rfl⟩, .pf ⟨aS 1 2 (pK 2 [(.int .i64 ((Wq u0 u1).kind)),(.int .i64 ((Wq u0 u1).index))]) (k76 u0 u1),(by intro i hi j hj;match i,j,hi,hj with|0,0,_,_=>rfl|0,1,_,_=>rfl)⟩, .e (u4.length),2,3, .pf ⟨(k77 u0 u1 u4).length=u4.length+[(Wq u0 u1)].length,List.length_append⟩, .pf ⟨aS (u4.length+[(Wq u0 u1)].length) 2 (qW (ay Part.cell u4) u4.length (k76 u0 u1)) (ay Part.cell (k77 u0 u1 u4)),dD _ _ _ _⟩]<| .a1 ((0:Int)≤0∧0<((k78 u0 u1).length:Int))<| .rg {an:=[(7, .look (bN bn (k11 u1) u0.aA.e1).isSome (k79 u0 u1))]} [.pf ⟨(0:Int)≤1∧(1:Int)<(2:Nat),(by decide)⟩, .pf ⟨dP [some .i64] 1 1 u0.aA.e1.length (o9 (aC .i64) u0.aA.e1) (pz (Ae 1 (aC .i64)) u0.aA.e1) [(.int .i64 (k11 u1))] [(.d nS)] (bN bn (k11 u1) u0.aA.e1).isSome (k79 u0 u1),CY (fun _=>rfl) (fun _ _=>rfl) u0.aA.e1 (k11 u1) ([]:List Int) rfl (PL.slice _ _ _) rfl⟩,0]<| .en (.next ((at' (k78 u0 u1) 0),(k77 u0 u1 u4))) [] [(81,75)])
  (.e (.done (.brk u4))))
  (fun u2=> .fz [75]<| .a2 ((u3.length+[u2].length)*24≤140737488355328) (u3.length+[u2].length≤4611686018427387904)<| .rg {an:=[(2, .arr [u2].length (ay (Ae 2 Part.cell) [u2])),(3, .arr (u3++[u2]).length (ay (Ae 2 Part.cell) (u3++[u2])))],fr:=[(2,83),(3,84)]} [.pf ⟨[u2].length=1,rfl⟩, .pf ⟨aS 1 1 (pK 1 [(bJ none 2 Part.cell u2)]) (ay (Ae 2 Part.cell) [u2]),(by intro i hi j hj;match i,j,hi,hj with|0,0,_,_=>rfl)⟩, .e (u3.length),0,1, .pf ⟨(u3++[u2]).length=u3.length+[u2].length,List.length_append⟩, .pf ⟨aS (u3.length+[u2].length) 1 (qW (ay (Ae 2 Part.cell) u3) u3.length (ay (Ae 2 Part.cell) [u2])) (ay (Ae 2 Part.cell) (u3++[u2])),dD _ _ _ _⟩]<| .r<| .en (.next ((u3++[u2]),(k11 u5))) [] [(84,53)]))
  (.e (.done (.brk u3))))
  (fun u6=> .rg {fz:=[53]} []<| .e u6))
theorem Gt (p:au) (s_:State) (u2:Int):dJ Tryz.prog 22 (TD p s_ u2) [] (fun r=>(.fU [(sD (bJ none 1 (Ae 2 Part.cell) r.1)),(sI r.2)])) (fun _=>[]) (En p s_ u2):=
  dR tT mX Tryz.func22 (
  .rg {fr:=[(0,6),(1,7)],fz:=[6,7]} []<| .cl 3 (qI p s_ u2) fun r_=> .r<| .r<| .it (.r<| .e (([]:List (List Part)),r_))
  (.cl 3 (dS [(0,8),(1,9),(2,10),(3,11)] (zu p s_ u2)) fun u3=> .r<| .r<| .lp (σ:=((List (Int × (List Int))) × (List (Int × (List Int))) × Int)) (β:=((List (Int × (List Int))) × (List (Int × (List Int))))) (u3.aA.e0,u3.aA.e1,0) [] [] ⟨[9],[8,9],fun(g1,g2,u4)=>[(21,(vI u4))],fun(g1,g2,u4)=>[(10,some (.gm 3 44 3 g1 none)),(11,some (.gm 3 44 3 g2 none))]⟩ ⟨[9],[8,9],fun(u0,u1)=>[],fun(u0,u1)=>[(10,some (.gm 3 44 3 u0 none)),(11,some (.gm 3 44 3 u1 none))]⟩
  (fun(g1,g2,u4)=> .r<| .it (.cl 1 (dS [(0,8),(1,9),(2,10),(3,11)] (wS (k71 u3 g1 g2))) fun u5=> .r<| .it (.e (.done (.brk (u5.2.aA.e0,u5.2.aA.e1))))
  (.r<| .e (.next (u5.2.aA.e0,u5.2.aA.e1,(k11 u4)))))
  (.e (.done (.brk (g1,g2)))))
  (fun(u0,u1)=> .im (.gz 10 3 44 3 u0)<| .im (.gz 11 3 44 3 u1)<| .cr 1 (dS [(0,8),(1,9),(2,10),(3,11)] (zL (k71 u3 u0 u1))) fun u6=> .r<| .e (u6,0))))
theorem Bu (p:au) (s_:State) (u0:Int):dJ Tryz.prog 10 (TD p s_ u0) [] (fun r=>(.fU [(sI r.1),(sI r.2)])) (fun _=>[]) (xQ p s_ u0):=
  dR tT mX Tryz.func10 (
  .rg {fr:=[(0,2),(1,3)],fz:=[2,3]} []<| .cl 3 (Gt p s_ u0) fun r_=> .r<| .r<| .e ((r_.1.length:Int),r_.2))
theorem yQ (p:au) (s_:State) (kz:Int):dJ Tryz.prog 26 (TD p s_ kz) [] (fun r=>(vB r)) (fun _=>[]) (oz p s_ kz):=
  dR tT mX Tryz.func26 (
  .rg {fr:=[(0,2),(1,3)],fz:=[2,3]} []<| .a4 ((0:Int)≤kz∧kz<(s_.on_.length:Int)) (k45 kz s_) ((gB [((bif (at' s_.on_ kz.toNat)then(!(at' s_.badSource kz.toNat))else false),true)]=true→(0:Int)≤kz∧kz<(p.sources.length:Int))) (k46 kz p s_)<| .rg {} [0,1,2,3]<| .e (bif (bif (at' s_.on_ kz.toNat)then(!(at' s_.badSource kz.toNat))else false)then(!(at' s_.badBus ((k47 kz p).toNat)))else false))
section
variable (s_:State) (i:Int) (p:au)
abbrev k80:=(bif (bif (at' s_.closed i.toNat)then(!(at' s_.badLink i.toNat))else false)then(!(at' s_.badBus ((Rs p i).toNat)))else false)
end
theorem vv (p:au) (s_:State) (i:Int):dJ Tryz.prog 28 (TD p s_ i) [] (fun r=>(vB r)) (fun _=>[]) (kI p s_ i):=
  dR tT mX Tryz.func28 (
  .rg {fr:=[(0,3),(1,4)],fz:=[4]} []<| .a1 (k28 p i)<| .rg {fr:=[(5,5)],fz:=[5]} []<| .a4 ((0:Int)≤i∧i<(s_.closed.length:Int)) ((gB [((at' s_.closed i.toNat),true)]=true→(0:Int)≤i∧i<(s_.badLink.length:Int))) ((gB [((bif (at' s_.closed i.toNat)then(!(at' s_.badLink i.toNat))else false),true)]=true→(0:Int)≤(at' p.links i.toNat).a∧(at' p.links i.toNat).a<(s_.badBus.length:Int))) ((gB [((k80 s_ i p),true)]=true→(0:Int)≤(at' p.links i.toNat).b∧(at' p.links i.toNat).b<(s_.badBus.length:Int)))<| .rg {} [0,1,2,3]<| .e (bif (k80 s_ i p)then(!(at' s_.badBus ((TY p i).toNat)))else false))
theorem Ev (s_:State) (b:Int):dJ Tryz.prog 29 [(.agg (k21 s_)),(sI b)] [] (fun r=>(vB r)) (fun _=>[]) (Ab s_ b):=
  dR tT mX Tryz.func29 (
  .rg {fr:=[(0,1)],fz:=[1]} []<| .a1 ((gB [((decide (0≤b)),true)]=true→(0:Int)≤b∧b<(s_.badBus.length:Int)))<| .r<| .e (bif (decide (0≤b))then(!(at' s_.badBus b.toNat))else false))
section
variable (u0:Network) (a:Int) (b:Int)
abbrev k81:=((at' u0.from_ a.toNat)++[(u0.aA.length:Int)])
abbrev k82:=(ay (aC .i64) (k81 u0 a))
abbrev Xc:=(u0.from_.set a.toNat (k81 u0 a))
abbrev k83:=(o7 BU (Xc u0 a))
abbrev Yy:=(at' (Xc u0 a) b.toNat)
abbrev YO:=(IntKind.wrap .i64 ((u0.aA.length:Int)+1))
abbrev k85:=((Yy u0 a b).length+[(YO u0)].length)
abbrev k88:=(ay (aC .i64) [(YO u0)])
abbrev k89:=((Yy u0 a b)++[(YO u0)])
abbrev k90:=(ay (aC .i64) (k89 u0 a b))
abbrev k92:=((Xc u0 a).set b.toNat (k89 u0 a b))
abbrev k91:=(o7 BU (k92 u0 a b))
end
theorem iW (a:Int) (b:Int) (u1:Int) (u2:Int) (u0:Network):dJ Tryz.prog 27 [(.one (.ptr 0 0)),(sI a),(sI b),(sI u1),(sI u2)] [(0,some (.cells 93 [(.own 1 false u0.aA.length),(.own 2 true u0.from_.length)])),(1,some (aV 103 2 dK.cell u0.aA)),(2,some (.rows 44 1 u0.from_.length (o7 BU u0.from_) none))] (fun r=>(vI r.1)) (fun r=>[(0,some (.cells 93 [(.own 3 false r.2.aA.length),(.own 2 true r.2.from_.length)])),(1,none),(2,some (.rows 44 1 r.2.from_.length (o7 BU r.2.from_) none)),(3,some (aV 103 2 dK.cell r.2.aA))]) (iR a b u1 u2 u0):=
  dR tT mX Tryz.func27 (
  .r<| .r<| .a2 ((u0.aA.length+[(⟨b,u1⟩:dK),(⟨a,u2⟩:dK)].length)*16≤140737488355328) (u0.aA.length+[(⟨b,u1⟩:dK),(⟨a,u2⟩:dK)].length≤4611686018427387904)<| .rg {an:=[(11, .arr [(⟨b,u1⟩:dK),(⟨a,u2⟩:dK)].length (ay dK.cell [(⟨b,u1⟩:dK),(⟨a,u2⟩:dK)])),(12, .arr (u0.aA++[(⟨b,u1⟩:dK),(⟨a,u2⟩:dK)]).length (ay dK.cell (u0.aA++[(⟨b,u1⟩:dK),(⟨a,u2⟩:dK)])))],fr:=[(11,11),(12,12)]} [.pf ⟨[(⟨b,u1⟩:dK),(⟨a,u2⟩:dK)].length=2,rfl⟩, .pf ⟨aS 2 2 (pK 2 [(.int .i64 b),(.int .i64 u1),(.int .i64 a),(.int .i64 u2)]) (ay dK.cell [(⟨b,u1⟩:dK),(⟨a,u2⟩:dK)]),(by intro i hi j hj;match i,j,hi,hj with|0,0,_,_=>rfl|0,1,_,_=>rfl|1,0,_,_=>rfl|1,1,_,_=>rfl)⟩, .e (u0.aA.length),0,1, .pf ⟨(u0.aA++[(⟨b,u1⟩:dK),(⟨a,u2⟩:dK)]).length=u0.aA.length+[(⟨b,u1⟩:dK),(⟨a,u2⟩:dK)].length,List.length_append⟩, .pf ⟨aS (u0.aA.length+[(⟨b,u1⟩:dK),(⟨a,u2⟩:dK)].length) 2 (qW (ay dK.cell u0.aA) u0.aA.length (ay dK.cell [(⟨b,u1⟩:dK),(⟨a,u2⟩:dK)])) (ay dK.cell (u0.aA++[(⟨b,u1⟩:dK),(⟨a,u2⟩:dK)])),dD _ _ _ _⟩]<| .a3 ((0:Int)≤a∧a<(u0.from_.length:Int)) (((at' u0.from_ a.toNat).length+[(u0.aA.length:Int)].length)*8≤140737488355328) ((at' u0.from_ a.toNat).length+[(u0.aA.length:Int)].length≤4611686018427387904)<| .rg {an:=[(11, .take 13),(13, .arr [(u0.aA.length:Int)].length (ay (aC .i64) [(u0.aA.length:Int)])),(14, .arr (k81 u0 a).length (k82 u0 a)),(16, .rows 0 (k83 u0 a))],fr:=[(13,14),(14,15)]} [0, .t 0 a u0.from_.length, .pf ⟨[(u0.aA.length:Int)].length=1,rfl⟩, .pf ⟨aS 1 1 (pK 1 [(.int .i64 (u0.aA.length:Int))]) (ay (aC .i64) [(u0.aA.length:Int)]),(by intro i hi j hj;match i,j,hi,hj with|0,0,_,_=>rfl)⟩, .e ((at' u0.from_ a.toNat).length),1,2, .pf ⟨(k81 u0 a).length=(at' u0.from_ a.toNat).length+[(u0.aA.length:Int)].length,List.length_append⟩, .pf ⟨aS ((at' u0.from_ a.toNat).length+[(u0.aA.length:Int)].length) 1 (qW (ay (aC .i64) (at' u0.from_ a.toNat)) (at' u0.from_ a.toNat).length (ay (aC .i64) [(u0.aA.length:Int)])) (k82 u0 a),dD _ _ _ _⟩,0, .t 0 a u0.from_.length, .e ((k81 u0 a).length), .pf ⟨QA u0.from_.length 1 (Wj (o7 BU u0.from_) a.toNat 0 (.row 3 1 (k81 u0 a).length (k82 u0 a))) (k83 u0 a),zQ _ _ _ _ _ _ _ _ rfl (fun j hj=>(match j,hj with|0,_=>rfl))⟩, .pf ⟨∀i0 j0 c0,((some (a.toNat,0,CV.own 13 false (at' u0.from_ a.toNat).length)):Option (Nat × Nat × CV))=some (i0,j0,c0)→i0=a.toNat∧j0=0,(fun i0 j0 c0 e=>by cases e;exact⟨rfl,rfl⟩)⟩]<| .im (.ll 2 u0.from_ (Xc u0 a))<| .a3 ((0:Int)≤b∧b<((Xc u0 a).length:Int)) ((k85 u0 a b)*8≤140737488355328) ((Yy u0 a b).length+[(YO u0)].length≤4611686018427387904)<| .rg {an:=[(11, .take 16),(14, .arr [(YO u0)].length (k88 u0)),(15, .arr (k89 u0 a b).length (k90 u0 a b)),(17, .rows 0 (k91 u0 a b))],fr:=[(14,17),(15,18)]} [0, .t 0 b ((Xc u0 a).length), .pf ⟨[(YO u0)].length=1,rfl⟩, .pf ⟨aS 1 1 (pK 1 [(.int .i64 (YO u0))]) (k88 u0),(by intro i hi j hj;match i,j,hi,hj with|0,0,_,_=>rfl)⟩, .e ((Yy u0 a b).length),1,2, .pf ⟨(k89 u0 a b).length=(Yy u0 a b).length+[(YO u0)].length,List.length_append⟩, .pf ⟨aS (k85 u0 a b) 1 (qW (ay (aC .i64) (Yy u0 a b)) (Yy u0 a b).length (k88 u0)) (k90 u0 a b),dD _ _ _ _⟩,0, .t 0 b ((Xc u0 a).length), .e ((k89 u0 a b).length), .pf ⟨QA (Xc u0 a).length 1 (Wj (k83 u0 a) b.toNat 0 (.row 3 1 (k89 u0 a b).length (k90 u0 a b))) (k91 u0 a b),zQ _ _ _ _ _ _ _ _ rfl (fun j hj=>(match j,hj with|0,_=>rfl))⟩, .pf ⟨∀i0 j0 c0,((some (b.toNat,0,CV.own 16 false (Yy u0 a b).length)):Option (Nat × Nat × CV))=some (i0,j0,c0)→i0=b.toNat∧j0=0,(fun i0 j0 c0 e=>by cases e;exact⟨rfl,rfl⟩)⟩]<| .im (.ll 2 (Xc u0 a) (k92 u0 a b))<| .r<| .en ((u0.aA.length:Int),(⟨(u0.aA++[(⟨b,u1⟩:dK),(⟨a,u2⟩:dK)]),(k92 u0 a b)⟩:Network)) [] [(12,3)])
section
variable (u0:Network)
abbrev YQ:DV:=(bJ none 1 (Ae 1 (aC .i64)) u0.from_)
abbrev k94:Nat × Option Ob:=(0,some (.cells 93 [(.own 1 false u0.aA.length),(.d (YQ u0))]))
abbrev k93:List (Nat × Option Ob):=[(k94 u0),(1,some (aV 103 2 dK.cell u0.aA))]
end
theorem mF (u0:Network):dJ Tryz.prog 31 [(.one (.ptr 0 0))] (k93 u0) (fun _=>(.v (.one (.fn 58 0 1 (JS [(.ptr 2 0)]))))) (fun _=>[(k94 u0),(1,some (aV 103 2 dK.cell u0.aA)),(2,some (.cells 89 [(.ptr 0 0)]))]) (ko u0):=
  dR tT mX Tryz.func31 (
  .rg {fr:=[(0,3)]} []<| .r<| .en () [] [(3,2)])
noncomputable def dQ:gM:=⟨[19,20],LA ([1,0,1,0,0,0,1,0,1,0]++[0]) (nJ Tryz.f30),LA ([1,0,1,0,0,0,1,0,1,0]++[1]) (nJ Tryz.f30),114,[.exit 1]⟩
section
variable (u7:Int) (u5:Int) (o_:(List Int)) (u0:Int) (u1:Int) (u3:(List dK)) (u6:Network) (u2:Int) (u4:Int)
abbrev k96:Nat × Option Ob:=(2,some (.cells 3 [(cI u7)]))
abbrev k97:=((0:Int)≤u5∧u5<((o_.set u0.toNat u1).length:Int))
abbrev Rv:=(at' (o_.set u0.toNat u1) u5.toNat)
abbrev Vw:=(IntKind.wrap .i64 (((BitVec.ofInt (IntKind.bits .i64) (Rv u5 o_ u0 u1) ^^^ BitVec.ofInt (IntKind.bits .i64) 1).toNat:Int)))
abbrev U1:=((Vw u5 o_ u0 u1).toNat)
abbrev ac3:List (Nat × Option Ob):=[(4,some (.cells 93 [(.own 6 false u3.length),(.d (YQ u6))])),(6,some (aV 103 2 dK.cell u3))]
abbrev Nv:=(u3.set ((Rv u2 o_ u0 u1).toNat) (⟨(at' u3 ((Rv u2 o_ u0 u1).toNat)).to_,(IntKind.wrap .i64 (((at' u3 ((Rv u2 o_ u0 u1).toNat)).left) - u4))⟩:dK))
abbrev ZA:=(ay dK.cell (Nv o_ u0 u1 u3 u2 u4))
abbrev abd:=(at' (Nv o_ u0 u1 u3 u2 u4) (U1 u2 o_ u0 u1))
abbrev abL:=(IntKind.wrap .i64 (((abd o_ u0 u1 u3 u2 u4).left)+u4))
abbrev R5:=((Nv o_ u0 u1 u3 u2 u4).set (U1 u2 o_ u0 u1) (⟨(abd o_ u0 u1 u3 u2 u4).to_,(abL o_ u0 u1 u3 u2 u4)⟩:dK))
abbrev abw:=(ay dK.cell (R5 o_ u0 u1 u3 u2 u4))
abbrev ace:=((Nv o_ u0 u1 u3 u2 u4).length)
end
theorem rV (u0:Int) (u1:Int) (u7:Int) (o_:(List Int)) (u6:Network):Wp Tryz.prog 0 [(sI u0),(sI u1)] [(0,some (.loop dQ 0 [(2,(vP 1 0)),(3,(vP 2 0)),(4,(vP 3 0))])),(1,some (.cells 89 [(.ptr 4 0)])),(k96 u7),(3,some (.cells 44 [(.own 5 true o_.length)])),(4,some (.cells 93 [(.own 6 false u6.aA.length),(.d (YQ u6))])),(5,some (Mt o_)),(6,some (aV 103 2 dK.cell u6.aA))] (fun r=>vB (Nat.beq r.1 0)) (fun r=>[(0,some (.loop dQ r.1 [(2,(vP 1 0)),(3,(vP 2 0)),(4,(vP 3 0))])),(1,some (.cells 89 [(.ptr 4 0)])),(k96 u7),(3,some (.cells 44 [(.own 5 true r.2.1.length)])),(4,some (.cells 93 [(.own 6 false r.2.2.aA.length),(.d (bJ none 1 (Ae 1 (aC .i64)) r.2.2.from_))])),(5,some (aV 3 1 (aC .i64) r.2.1)),(6,some (aV 103 2 dK.cell r.2.2.aA))]) (mM u0 u1 u7 o_ u6):=
  scY tT mX dQ ⟨[2,3,4],[0,1,2,3,4,5,6],fun _=>[(5,(vI u0)),(6,(vI u1))],fun _=>[]⟩ (.r<| .r<| .e ())
  (.a1 (Rx o_ u0)<| .rg {an:=[(4, .arr 0 (ay (aC .i64) (o_.set u0.toNat u1)))]} [0, .t 0 u0 o_.length, .pf ⟨aS o_.length 1 (jK (ay (aC .i64) o_) u0.toNat 0 [(.int .i64 u1)]) (ay (aC .i64) (o_.set u0.toNat u1)),bO _ _ _ _ _ _ _ _ rfl (fun j hj=>(match j,hj with|0,_=>rfl))⟩]<| .im (.ll 5 o_ (o_.set u0.toNat u1))<| .r<| .it (.e (0,(o_.set u0.toNat u1),u6))
(.r<| .r<| .lp (σ:=(Int × Int)) (β:=Int) ((-1),u7) [] [] ⟨[2,3,4],[0,1,2,3,4,5,6],fun(u8,u5)=>[(7,(vI u8)),(8,(vI u5))],fun(u8,u5)=>[]⟩ ⟨[2,3,4],[0,1,2,3,4,5,6],fun u4=>[(7,(vI u4))],fun u4=>[]⟩
(fun(u8,u5)=> .a1 (k97 u5 o_ u0 u1)<| .rg {} [0, .t 0 u5 ((o_.set u0.toNat u1).length)]<| .it (.jN (β:=Int) 2 ⟨[2,3,4,8],[0,1,2,3,4,5,6],fun v0=>[(7,(vI v0))],fun v0=>[]⟩ (.a2 (k97 u5 o_ u0 u1) ((0:Int)≤(Rv u5 o_ u0 u1)∧(Rv u5 o_ u0 u1)<(u6.aA.length:Int))<| .rg {} [0, .t 0 u5 ((o_.set u0.toNat u1).length),1, .t 1 (Rv u5 o_ u0 u1) u6.aA.length]<| .r<| .it (.r<| .e ((at' u6.aA ((Rv u5 o_ u0 u1).toNat)).left))
(.e u8))
(fun v0=> .a2 (k97 u5 o_ u0 u1) ((0:Int)≤(Vw u5 o_ u0 u1)∧(Vw u5 o_ u0 u1)<(u6.aA.length:Int))<| .rg {} [0, .t 0 u5 ((o_.set u0.toNat u1).length),1, .t 1 (Vw u5 o_ u0 u1) u6.aA.length]<| .e (.next (v0,(at' u6.aA (U1 u5 o_ u0 u1)).to_))))
(.e (.done (.brk u8))))
(fun u4=> .r<| .lp (σ:=((List dK) × Int)) (β:=(List dK)) (u6.aA,u7) [] [] ⟨[2,4,7],[0,1,2,3,5],fun(u3,u2)=>[(10,(vI u2))],fun(u3,u2)=>(ac3 u3 u6)⟩ ⟨[],[0,1,2,3,5],fun u9=>[],fun u9=>(ac3 u9 u6)⟩
(fun(u3,u2)=> .a1 (k97 u2 o_ u0 u1)<| .rg {} [0, .t 0 u2 ((o_.set u0.toNat u1).length)]<| .it (.a2 (k97 u2 o_ u0 u1) ((0:Int)≤(Rv u2 o_ u0 u1)∧(Rv u2 o_ u0 u1)<(u3.length:Int))<| .rg {an:=[(15, .arr 0 (ZA o_ u0 u1 u3 u2 u4))]} [0, .t 0 u2 ((o_.set u0.toNat u1).length),1, .t 1 (Rv u2 o_ u0 u1) u3.length,1, .t 1 (Rv u2 o_ u0 u1) u3.length, .pf ⟨aS u3.length 2 (jK (ay dK.cell u3) ((Rv u2 o_ u0 u1).toNat) 1 [(.int .i64 (IntKind.wrap .i64 (((at' u3 ((Rv u2 o_ u0 u1).toNat)).left) - u4)))]) (ZA o_ u0 u1 u3 u2 u4),bO _ _ _ _ _ _ _ _ rfl (fun j hj=>(match j,hj with|0,_=>rfl|1,_=>rfl))⟩]<| .im (.ll 6 u3 (Nv o_ u0 u1 u3 u2 u4))<| .a2 (k97 u2 o_ u0 u1) ((0:Int)≤(Vw u2 o_ u0 u1)∧(Vw u2 o_ u0 u1)<((Nv o_ u0 u1 u3 u2 u4).length:Int))<| .rg {an:=[(16, .arr 0 (abw o_ u0 u1 u3 u2 u4))]} [0, .t 0 u2 ((o_.set u0.toNat u1).length),1, .t 1 (Vw u2 o_ u0 u1) (ace o_ u0 u1 u3 u2 u4),1, .t 1 (Vw u2 o_ u0 u1) (ace o_ u0 u1 u3 u2 u4), .pf ⟨aS (Nv o_ u0 u1 u3 u2 u4).length 2 (jK (ZA o_ u0 u1 u3 u2 u4) (U1 u2 o_ u0 u1) 1 [(.int .i64 (abL o_ u0 u1 u3 u2 u4))]) (abw o_ u0 u1 u3 u2 u4),bO _ _ _ _ _ _ _ _ rfl (fun j hj=>(match j,hj with|0,_=>rfl|1,_=>rfl))⟩]<| .im (.ll 6 (Nv o_ u0 u1 u3 u2 u4) (R5 o_ u0 u1 u3 u2 u4))<| .a2 (k97 u2 o_ u0 u1) ((0:Int)≤(Vw u2 o_ u0 u1)∧(Vw u2 o_ u0 u1)<((R5 o_ u0 u1 u3 u2 u4).length:Int))<| .rg {} [0, .t 0 u2 ((o_.set u0.toNat u1).length),1, .t 1 (Vw u2 o_ u0 u1) ((R5 o_ u0 u1 u3 u2 u4).length)]<| .e (.next ((R5 o_ u0 u1 u3 u2 u4),(at' (R5 o_ u0 u1 u3 u2 u4) (U1 u2 o_ u0 u1)).to_)))
(.e (.done (.brk u3))))
(fun u9=> .e (2,(o_.set u0.toNat u1),(⟨u9,u6.from_⟩:Network))))))
section
variable (o_:bQ)
abbrev ach:List (Nat × Option Ob):=[(0,some (.cells 147 [(.own 1 false o_.l.length)])),(1,some (aV 41 2 ai.cell o_.l))]
end
theorem qZ (x:ai) (o_:bQ):dJ Tryz.prog 59 [(.one (.ptr 0 0)),(.agg [(cI x.e0),(cI x.e1)])] (ach o_) (fun r=>(.fU [])) (fun r=>[(0,some (.cells 147 [(.own 2 false r.l.length)])),(1,none),(2,some (aV 41 2 ai.cell r.l))]) (qg x o_):=
  dR tT mX Tryz.func59 (
  .rg {fr:=[(0,5)],fz:=[5]} []<| .a2 ((o_.l.length+[x].length)*16≤140737488355328) (o_.l.length+[x].length≤4611686018427387904)<| .rg {an:=[(6, .arr [x].length (ay ai.cell [x])),(7, .arr (o_.l++[x]).length (ay ai.cell (o_.l++[x])))],fr:=[(6,6),(7,7)]} [.pf ⟨[x].length=1,rfl⟩, .pf ⟨aS 1 2 (pK 2 [(.int .i64 x.e0),(.int .i64 x.e1)]) (ay ai.cell [x]),(by intro i hi j hj;match i,j,hi,hj with|0,0,_,_=>rfl|0,1,_,_=>rfl)⟩, .e (o_.l.length),0,1, .pf ⟨(o_.l++[x]).length=o_.l.length+[x].length,List.length_append⟩, .pf ⟨aS (o_.l.length+[x].length) 2 (qW (ay ai.cell o_.l) o_.l.length (ay ai.cell [x])) (ay ai.cell (o_.l++[x])),dD _ _ _ _⟩]<| .en (⟨(o_.l++[x])⟩:bQ) [] [(7,2)])
theorem qJ (o_:bQ):dJ Tryz.prog 60 [(.one (.ptr 0 0))] (ach o_) (fun r=>(.fU [(.agg [(cI r.1.e0),(cI r.1.e1)]),(sB r.2.1)])) (fun r=>[(0,some (.cells 147 [(.own 2 false r.2.2.l.length)])),(1,none),(2,some (aV 41 2 ai.cell r.2.2.l))]) (oo o_):=
  dR tT mX Tryz.func60 (
  .rg {fr:=[(0,4)]} []<| .r<| .it (.rg {fz:=[4]} []<| .im (.re 0 0 1 5)<| .en ((⟨0,0⟩:ai),false,o_) [] [(5,2)])
  (.a2 ((0:Int)≤0∧0<(o_.l.length:Int)) ((0:Int)≤(1:Int)∧(1:Int)≤(o_.l.length:Int))<| .rg {an:=[(11, .cells)],fr:=[(11,6)]} [0, .t 0 0 o_.l.length, .e (o_.l.length),1]<| .un 1 6 41 2 ai.cell o_.l (1:Int) 1<| .im (.ln 6 (o_.l.length - 1) ((o_.l.drop 1).length) (by simp only [List.length_set,List.length_append,List.length_cons,List.length_nil,List.length_replicate,List.length_drop,fC]))<| .rg {fz:=[4]} []<| .en ((at' o_.l 0),true,(⟨(o_.l.drop 1)⟩:bQ)) [] [(6,2)]))
section
variable (u1:Network) (r_:(Nat × (List Int) × Network)) (u4:Int) (u6:(List Int)) (u5:(List dK)) (u7:(List (List Int))) (u3:(List Bool)) (u9:(List ai)) (u0:Int) (u2:Int)
abbrev Yv:List (Nat × TV):=[(2,(vP 2 0)),(3,(vP 3 0)),(4,(vP 4 0))]
abbrev Zh:Nat × Option Ob:=(0,some (.loop dQ 0 Yv))
abbrev VQ:Nat × Option Ob:=(2,some (.cells 89 [(.ptr 5 0)]))
abbrev NI:=(List.replicate ((u1.from_.length:Int).toNat) (false:Bool))
abbrev aai:=(ay ah (NI u1))
abbrev Xd:=((NI u1).set 0 true)
abbrev adj:Nat × Option Ob:=(5,some (.cells 93 [(.own 7 false r_.2.2.aA.length),(.d (bJ none 1 (Ae 1 (aC .i64)) r_.2.2.from_))]))
abbrev adG:List (Nat × Option Ob):=[Zh,VQ,(3,some (.cells 3 [(cI u4)])),(4,some (.cells 44 [(.own 6 true r_.2.1.length)])),(adj r_),(6,some (aV 3 1 (aC .i64) r_.2.1)),(7,some (aV 103 2 dK.cell r_.2.2.aA))]
abbrev Xe:List (Nat × Option Ob):=[Zh,VQ,(3,some (.cells 3 [(cI u4)])),(4,some (.cells 44 [(.own 6 true u6.length)])),(5,some (.cells 93 [(.own 7 false u5.length),(.d (bJ none 1 (Ae 1 (aC .i64)) u7))])),(6,some (Mt u6)),(7,some (aV 103 2 dK.cell u5))]
abbrev X3:List (Nat × Option Ob):=[(0,some (.loop dQ r_.1 Yv)),VQ,(3,some (.cells 3 [(cI u4)])),(4,some (.cells 44 [(.own 6 true r_.2.1.length)])),(adj r_),(6,some (aV 3 1 (aC .i64) r_.2.1)),(7,some (aV 103 2 dK.cell r_.2.2.aA))]
abbrev ac2:List (Nat × Option Ob):=[(12,some (aV 4 1 ah u3)),(13,some (.cells 147 [(.own 14 false u9.length)])),(14,some (aV 41 2 ai.cell u9))]
abbrev UD:=(at' (at' r_.2.2.from_ u0.toNat) u2.toNat)
abbrev OC:=(at' r_.2.2.aA ((UD r_ u0 u2).toNat))
abbrev WE:=((OC r_ u0 u2).to_)
abbrev Zl:=(u3.set ((WE r_ u0 u2).toNat) true)
abbrev adp:=(ay ah (Zl r_ u3 u0 u2))
end
theorem su (u4:Int) (o_:(List Int)) (u1:Network):dJ Tryz.prog 58 [(.one (.yl 0)),(.one (.ptr 1 0))] [Zh,(1,some (.cells 89 [(.ptr 5 0)])),VQ,(3,some (.cells 3 [(cI u4)])),(4,some (.cells 44 [(.own 6 true o_.length)])),(5,some (.cells 93 [(.own 7 false u1.aA.length),(.d (YQ u1))])),(6,some (Mt o_)),(7,some (aV 103 2 dK.cell u1.aA))] (fun r=>(.fU [])) (fun r=>[(0,some (.loop dQ r.1 Yv)),(1,some (.cells 89 [(.ptr 5 0)])),VQ,(3,some (.cells 3 [(cI u4)])),(4,some (.cells 44 [(.own 6 true r.2.1.length)])),(5,some (.cells 93 [(.own 7 false r.2.2.aA.length),(.d (bJ none 1 (Ae 1 (aC .i64)) r.2.2.from_))])),(6,some (aV 3 1 (aC .i64) r.2.1)),(7,some (aV 103 2 dK.cell r.2.2.aA))]) (mO u4 o_ u1):=
  dR tT mX Tryz.func58 (
  .a3 ((0:Int)≤(u1.from_.length:Int)) ((1:Int)*(u1.from_.length:Int)≤281474976710656) (((u1.from_.length:Int):Int)≤9223372036854775807)<| .rg {an:=[(5, .arr (NI u1).length (aai u1))],fr:=[(5,12)]} [0, .e (((u1.from_.length:Int):Int)),1,2, .pf ⟨(NI u1).length=((u1.from_.length:Int).toNat),List.length_replicate⟩, .pf ⟨aS ((u1.from_.length:Int).toNat) 1 (fun _ j=>[(.bool false)].getD j .nilp) (aai u1),kN _ _ _ _ _ (fun j hj=>(match j,hj with|0,_=>rfl))⟩]<| .a1 ((0:Int)≤0∧0<((NI u1).length:Int))<| .rg {an:=[(2, .arr 0 (ay ah (Xd u1)))]} [0, .t 0 0 ((NI u1).length), .pf ⟨aS (NI u1).length 1 (jK (aai u1) 0 0 [(.bool true)]) (ay ah (Xd u1)),bO _ _ _ _ _ _ _ _ rfl (fun j hj=>(match j,hj with|0,_=>rfl))⟩]<| .im (.ll 12 (NI u1) (Xd u1))<| .rg {fr:=[(0,13)]} []<| .im (.kP 13 0 14 41 2 (ay ai.cell ([]:List ai)))<| .rg {fr:=[(1,15)]} []<| .lp (σ:=((List dK) × (List (List Int)) × (List Int) × (List Bool) × (List ai) × Int × Int)) (β:=Unit) (u1.aA,u1.from_,o_,(Xd u1),([]:List ai),0,(-1)) [] [] ⟨[0,1,4,5],[0,1,2,3],fun(u5,u7,u6,v0,q0,u0,u8)=>[(3,(vO 12 true v0.length))],fun(u5,u7,u6,v0,q0,u0,u8)=>[(4,some (.cells 44 [(.own 6 true u6.length)])),(5,some (.cells 93 [(.own 7 false u5.length),(.d (bJ none 1 (Ae 1 (aC .i64)) u7))])),(6,some (Mt u6)),(7,some (aV 103 2 dK.cell u5)),(12,some (aV 4 1 ah v0)),(13,some (.cells 147 [(.own 14 false q0.length)])),(14,some (aV 41 2 ai.cell q0)),(15,some (.cells 41 [(cI u0),(cI u8)]))]⟩ ⟨[],[],fun _=>[],fun _=>[]⟩
  (fun(u5,u7,u6,v0,q0,u0,u8)=> .cy 5 (rkY [(1,2),(1,3),(1,4),(1,5),(1,6),(1,7)] (rV u0 u8 u4 u6 (⟨u5,u7⟩:Network))) fun r_=> .fk (Nat.beq r_.1 0) (.rg {an:=[(5, .call [0,2,3,4,5,6,7] (vB true) (adG r_ u4))]} [.pf ⟨(0:Int)≤0∧(0:Int)<(2:Nat),(by decide)⟩, .pf ⟨(0:Int)≤1∧(1:Int)<(2:Nat),(by decide)⟩, .m [1,0] [Yl Tryz.prog 0 [(sI u0),(sI u8)] (Xe u4 u6 u5 u7) (vB (Nat.beq r_.1 0)) (X3 r_ u4),(Nat.beq r_.1 0)=true] (Yl Tryz.prog 0 [(sI u0),(sI u8)] (Xe u4 u6 u5 u7) (vB true) (adG r_ u4)) (fun⟨hy,hb,_⟩=>Yl.leR hy (Bp.of (congrArg vB hb)) ⟨rfl,M7.of (congrArg (fun n=>some (Ob.loop dQ n Yv)) (Nat.eq_of_beq_eq_true hb)),⟨rfl, .refl _,⟨rfl, .refl _,⟨rfl, .refl _,⟨rfl, .refl _,⟨rfl, .refl _,⟨rfl, .refl _,trivial⟩⟩⟩⟩⟩⟩⟩)]<| .f<| .a1 ((0:Int)≤u0∧u0<(r_.2.2.from_.length:Int))<| .rg {} [.pf ⟨(0:Int)≤0∧(0:Int)<(2:Nat),(by decide)⟩,0]<| .lp (σ:=((List Bool) × (List ai) × Int)) (β:=((List Bool) × (List ai))) (v0,q0,0) [] [] ⟨[0,1,4,5,34,35],[0,1,2,3,4,5,6,7,15],fun(u3,u9,u2)=>[(3,(vO 12 true u3.length)),(36,(vI u2))],fun(u3,u9,u2)=>(ac2 u3 u9)⟩ ⟨[0,1,4,5],[0,1,2,3,4,5,6,7,15],fun(v1,v2)=>[(3,(vO 12 true v1.length))],fun(v1,v2)=>(ac2 v1 v2)⟩
  (fun(u3,u9,u2)=> .r<| .it (.a1 ((0:Int)≤u2∧u2<((at' r_.2.2.from_ u0.toNat).length:Int))<| .r<| .a1 ((0:Int)≤(UD r_ u0 u2)∧(UD r_ u0 u2)<(r_.2.2.aA.length:Int))<| .rg {fr:=[(7,22)]} [0, .t 0 (UD r_ u0 u2) r_.2.2.aA.length]<| .a1 ((gB [((decide (0<((OC r_ u0 u2).left))),true)]=true→(0:Int)≤(OC r_ u0 u2).to_∧(OC r_ u0 u2).to_<(u3.length:Int)))<| .rg {} [0, .tg 0 [((decide (0<((OC r_ u0 u2).left))),true)] (WE r_ u0 u2) u3.length]<| .it (.a1 ((0:Int)≤(OC r_ u0 u2).to_∧(OC r_ u0 u2).to_<(u3.length:Int))<| .rg {an:=[(4, .arr 0 (adp r_ u3 u0 u2))],fz:=[22]} [0, .t 0 (WE r_ u0 u2) u3.length, .pf ⟨aS u3.length 1 (jK (ay ah u3) ((WE r_ u0 u2).toNat) 0 [(.bool true)]) (adp r_ u3 u0 u2),bO _ _ _ _ _ _ _ _ rfl (fun j hj=>(match j,hj with|0,_=>rfl))⟩]<| .im (.ll 12 u3 (Zl r_ u3 u0 u2))<| .cl 4 (dS [(0,13),(1,14),(2,23)] (qZ (⟨(OC r_ u0 u2).to_,(UD r_ u0 u2)⟩:ai) (⟨u9⟩:bQ))) fun v4=> .r<| .r<| .en (.next ((Zl r_ u3 u0 u2),v4.l,(k11 u2))) [] [(23,14)])
  (.r<| .e (.next (u3,u9,(k11 u2)))))
  (.e (.done (.brk (u3,u9)))))
  (fun(v1,v2)=> .cl 0 (dS [(0,13),(1,14),(2,24)] (qJ (⟨v2⟩:bQ))) fun v3=> .rg {fr:=[(4,25)]} []<| .r<| .it (.e (.done (.ret (0,r_.2.1,r_.2.2))))
  (.r<| .r<| .rg {fr:=[(0,26)]} []<| .en (.next (r_.2.2.aA,r_.2.2.from_,r_.2.1,v1,v3.2.2.l,v3.1.e0,v3.1.e1)) [] [(24,14),(26,15)])))
  (.rg {an:=[(5, .call [0,2,3,4,5,6,7] (vB false) (X3 r_ u4))]} [.pf ⟨(0:Int)≤0∧(0:Int)<(2:Nat),(by decide)⟩, .pf ⟨(0:Int)≤1∧(1:Int)<(2:Nat),(by decide)⟩, .m [1,0] [Yl Tryz.prog 0 [(sI u0),(sI u8)] (Xe u4 u6 u5 u7) (vB (Nat.beq r_.1 0)) (X3 r_ u4),(Nat.beq r_.1 0)=false] (Yl Tryz.prog 0 [(sI u0),(sI u8)] (Xe u4 u6 u5 u7) (vB false) (X3 r_ u4)) (fun⟨hy,hb,_⟩=>Yl.leR hy (Bp.of (congrArg vB hb)) ⟨rfl, .refl _,⟨rfl, .refl _,⟨rfl, .refl _,⟨rfl, .refl _,⟨rfl, .refl _,⟨rfl, .refl _,⟨rfl, .refl _,trivial⟩⟩⟩⟩⟩⟩⟩)]<| .t<| .e (.done (.ret (r_.1,r_.2.1,r_.2.2)))))
  (fun _=> .no))
section
variable (o1:(List (List Int)))
abbrev V7:=(List.replicate ((o1.length:Int).toNat) (0:Int))
end
theorem yB (u2:Int) (u0:Network):dJ Tryz.prog 30 [(.one (.ptr 0 0)),(sI u2)] (k93 u0) (fun r=>(.fU [])) (fun r=>[(0,some (.cells 93 [(.own 1 false r.aA.length),(.d (bJ none 1 (Ae 1 (aC .i64)) r.from_))])),(1,some (aV 103 2 dK.cell r.aA))]) (rq u2 u0):=
  dR tT mX Tryz.func30 (
  .rg {fr:=[(0,20),(1,21)]} []<| .ss<| .lp (σ:=((List dK) × (List (List Int)))) (β:=Unit) (u0.aA,u0.from_) [] [] ⟨[2,3],[20,21],fun(o0,o1)=>[],fun(o0,o1)=>[(0,some (.cells 93 [(.own 1 false o0.length),(.d (bJ none 1 (Ae 1 (aC .i64)) o1))])),(1,some (aV 103 2 dK.cell o0))]⟩ ⟨[],[],fun _=>[],fun _=>[]⟩
  (fun(o0,o1)=> .a3 ((0:Int)≤(o1.length:Int)) ((8:Int)*(o1.length:Int)≤281474976710656) (((o1.length:Int):Int)≤9223372036854775807)<| .rg {an:=[(5, .arr (V7 o1).length (ay (aC .i64) (V7 o1)))],fr:=[(5,34),(6,35)]} [0, .e (((o1.length:Int):Int)),1,2, .pf ⟨(V7 o1).length=((o1.length:Int).toNat),List.length_replicate⟩, .pf ⟨aS ((o1.length:Int).toNat) 1 (fun _ j=>[(.int .i64 0)].getD j .nilp) (ay (aC .i64) (V7 o1)),kN _ _ _ _ _ (fun j hj=>(match j,hj with|0,_=>rfl))⟩]<| .cl 1 (dS [(2,36)] (mF (⟨o0,o1⟩:Network))) fun r_=> .r<| .cl 0 (dS [(0,37),(1,36),(2,20),(3,21),(4,35),(5,0),(6,34),(7,1)] (su u2 (V7 o1) (⟨o0,o1⟩:Network))) fun u1=> .fk (Nat.beq u1.1 0) (.rf 37 [2,3,4] [.exit 1] none 1 [0]<| .e (.done (.ret u1.2.2)))
  (.a1 (u1.1=2)<| .rf 37 [2,3,4] [.exit 1] (some 0) 2 [.oe 0 u1.1 2]<| .e (.next (u1.2.2.aA,u1.2.2.from_))))
  (fun _=> .no))
noncomputable def kH:gM:=⟨[236,237],LA ([1,1,1,1,1,1,1,1,1,1,1,1,1,1,0,1,0]++[0]) (nJ Tryz.f12),LA ([1,1,1,1,1,1,1,1,1,1,1,1,1,1,0,1,0]++[1]) (nJ Tryz.f12),252,[]⟩
section
variable (u1:au) (o_:(List Bool))
abbrev aay:Nat × Option Ob:=(0,some (.loop kH 0 [(2,(vP 1 0)),(28,(vP 2 0))]))
abbrev adt:Ob:=(.cells 26 (k1 u1))
abbrev Zx:Nat × Option Ob:=(1,some (adt u1))
abbrev aa8:List (Nat × Option Ob):=[aay,(Zx u1),(2,some (.cells 27 [(.own 3 true o_.length)])),(3,some (aV 4 1 ah o_))]
end
theorem AL (u0:Int) (u2:Int) (u1:au) (o_:(List Bool)):Wp Tryz.prog 0 [(sI u0),(sI u2)] (aa8 u1 o_) (fun _=>vB true) (fun r=>[aay,(Zx u1),(2,some (.cells 27 [(.own 3 true r.length)])),(3,some (aV 4 1 ah r))]) (wh u0 u2 u1 o_):=
  scY tT mX kH ⟨[2,28],[0,1,2,3],fun _=>[(29,(vI u0))],fun _=>[]⟩ (.r<| .e ())
  (.r<| .it (.a1 ((0:Int)≤(k6 u0)∧(k6 u0)<(o_.length:Int))<| .rg {an:=[(4, .arr 0 (ay ah (o_.set ((k6 u0).toNat) true)))]} [0, .t 0 (k6 u0) o_.length, .pf ⟨aS o_.length 1 (jK (ay ah o_) ((k6 u0).toNat) 0 [(.bool true)]) (ay ah (o_.set ((k6 u0).toNat) true)),bO _ _ _ _ _ _ _ _ rfl (fun j hj=>(match j,hj with|0,_=>rfl))⟩]<| .im (.ll 3 o_ (o_.set ((k6 u0).toNat) true))<| .e (o_.set ((k6 u0).toNat) true))
(.e o_))
end
end Sg
