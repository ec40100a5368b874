import Derived.Test.YtboodeobmgjjpaaGreatVeGm
import Derived.Test.YtboodeobmgjjpaaGreatProg
import Derived.Test.YtboodeobmgjjpaaGreatVeLd
set_option linter.all false
namespace Sg
open Go Go.Proofs
set_option maxRecDepth 20000
noncomputable section
noncomputable def TT:List (Nat × TI):=[(3,⟨Tryz.t3.desc,Tryz.t3.size,Tryz.t3.bytes,zl Tryz.t3,false⟩),
  (4,⟨Tryz.t4.desc,Tryz.t4.size,Tryz.t4.bytes,zl Tryz.t4,false⟩),
  (22,⟨Tryz.t22.desc,Tryz.t22.size,Tryz.t22.bytes,zl Tryz.t22,false⟩),
  (23,⟨Tryz.t23.desc,Tryz.t23.size,Tryz.t23.bytes,zl Tryz.t23,false⟩),
  (24,⟨Tryz.t24.desc,Tryz.t24.size,Tryz.t24.bytes,zl Tryz.t24,false⟩),
  (26,⟨Tryz.t25.desc,Tryz.t26.size,Tryz.t26.bytes,zl Tryz.t26,false⟩),
  (27,⟨Tryz.t27.desc,Tryz.t27.size,Tryz.t27.bytes,zl Tryz.t27,false⟩),
  (29,⟨Tryz.t28.desc,Tryz.t29.size,Tryz.t29.bytes,zl Tryz.t29,false⟩),
  (30,⟨Tryz.t30.desc,Tryz.t30.size,Tryz.t30.bytes,zl Tryz.t30,false⟩),
  (31,⟨Tryz.t31.desc,Tryz.t31.size,Tryz.t31.bytes,zl Tryz.t31,false⟩),
  (33,⟨Tryz.t32.desc,Tryz.t33.size,Tryz.t33.bytes,zl Tryz.t33,false⟩),
  (36,⟨Tryz.t36.desc,Tryz.t36.size,Tryz.t36.bytes,zl Tryz.t36,false⟩),
  (37,⟨Tryz.t3.desc,Tryz.t37.size,Tryz.t37.bytes,zl Tryz.t37,false⟩),
  (40,⟨Tryz.t32.desc,Tryz.t40.size,Tryz.t40.bytes,zl Tryz.t40,false⟩),
  (52,⟨Tryz.t3.desc,Tryz.t52.size,Tryz.t52.bytes,zl Tryz.t52,false⟩),
  (53,⟨Tryz.t53.desc,Tryz.t53.size,Tryz.t53.bytes,zl Tryz.t53,false⟩),
  (55,⟨Tryz.t54.desc,Tryz.t55.size,Tryz.t55.bytes,zl Tryz.t55,false⟩),
  (56,⟨Tryz.t3.desc,Tryz.t56.size,Tryz.t56.bytes,zl Tryz.t56,false⟩),
  (58,⟨Tryz.t57.desc,Tryz.t58.size,Tryz.t58.bytes,zl Tryz.t58,true⟩),
  (59,⟨Tryz.t3.desc,Tryz.t59.size,Tryz.t59.bytes,zl Tryz.t59,false⟩),
  (61,⟨Tryz.t60.desc,Tryz.t61.size,Tryz.t61.bytes,zl Tryz.t61,true⟩),
  (72,⟨Tryz.t72.desc,Tryz.t72.size,Tryz.t72.bytes,zl Tryz.t72,false⟩),
  (75,⟨Tryz.t75.desc,Tryz.t75.size,Tryz.t75.bytes,zl Tryz.t75,false⟩),
  (78,⟨Tryz.t78.desc,Tryz.t78.size,Tryz.t78.bytes,zl Tryz.t78,true⟩),
  (99,⟨Tryz.t99.desc,Tryz.t99.size,Tryz.t99.bytes,zl Tryz.t99,false⟩),
  (100,⟨Tryz.t100.desc,Tryz.t100.size,Tryz.t100.bytes,zl Tryz.t100,false⟩),
  (101,⟨Tryz.t101.desc,Tryz.t101.size,Tryz.t101.bytes,zl Tryz.t101,false⟩),
  (103,⟨Tryz.t102.desc,Tryz.t103.size,Tryz.t103.bytes,zl Tryz.t103,false⟩),
  (112,⟨Tryz.t112.desc,Tryz.t112.size,Tryz.t112.bytes,zl Tryz.t112,false⟩),
  (115,⟨Tryz.t114.desc,Tryz.t115.size,Tryz.t115.bytes,zl Tryz.t115,true⟩),
  (117,⟨Tryz.t117.desc,Tryz.t117.size,Tryz.t117.bytes,zl Tryz.t117,true⟩),
  (119,⟨Tryz.t118.desc,Tryz.t119.size,Tryz.t119.bytes,zl Tryz.t119,true⟩),
  (126,⟨Tryz.t126.desc,Tryz.t126.size,Tryz.t126.bytes,zl Tryz.t126,false⟩),
  (129,⟨Tryz.t128.desc,Tryz.t129.size,Tryz.t129.bytes,zl Tryz.t129,false⟩),
  (133,⟨Tryz.t133.desc,Tryz.t133.size,Tryz.t133.bytes,zl Tryz.t133,false⟩),
  (145,⟨Tryz.t145.desc,Tryz.t145.size,Tryz.t145.bytes,zl Tryz.t145,false⟩),
  (147,⟨Tryz.t146.desc,Tryz.t147.size,Tryz.t147.bytes,zl Tryz.t147,false⟩),
  (148,⟨Tryz.t148.desc,Tryz.t148.size,Tryz.t148.bytes,zl Tryz.t148,false⟩),
  (149,⟨Tryz.t149.desc,Tryz.t149.size,Tryz.t149.bytes,zl Tryz.t149,false⟩),
  (154,⟨Tryz.t154.desc,Tryz.t154.size,Tryz.t154.bytes,zl Tryz.t154,false⟩),
  (155,⟨Tryz.t155.desc,Tryz.t155.size,Tryz.t155.bytes,zl Tryz.t155,false⟩),
  (165,⟨Tryz.t165.desc,Tryz.t165.size,Tryz.t165.bytes,zl Tryz.t165,false⟩),
  (167,⟨Tryz.t166.desc,Tryz.t167.size,Tryz.t167.bytes,zl Tryz.t167,false⟩),
  (168,⟨Tryz.t168.desc,Tryz.t168.size,Tryz.t168.bytes,zl Tryz.t168,false⟩),
  (170,⟨Tryz.t170.desc,Tryz.t170.size,Tryz.t170.bytes,zl Tryz.t170,false⟩),
  (172,⟨Tryz.t171.desc,Tryz.t172.size,Tryz.t172.bytes,zl Tryz.t172,false⟩),
  (182,⟨Tryz.t182.desc,Tryz.t182.size,Tryz.t182.bytes,zl Tryz.t182,false⟩),
  (184,⟨Tryz.t183.desc,Tryz.t184.size,Tryz.t184.bytes,zl Tryz.t184,false⟩),
  (185,⟨Tryz.t185.desc,Tryz.t185.size,Tryz.t185.bytes,zl Tryz.t185,false⟩),
  (193,⟨Tryz.t193.desc,Tryz.t193.size,Tryz.t193.bytes,zl Tryz.t193,false⟩),
  (196,⟨Tryz.t196.desc,Tryz.t196.size,Tryz.t196.bytes,zl Tryz.t196,false⟩),
  (199,⟨Tryz.t199.desc,Tryz.t199.size,Tryz.t199.bytes,zl Tryz.t199,false⟩),
  (220,⟨Tryz.t219.desc,Tryz.t220.size,Tryz.t220.bytes,zl Tryz.t220,true⟩)]
theorem tT:sS Tryz.prog TT:=⟨gG (by kernel_rfl) (by kernel_rfl) (by kernel_rfl),⟨iT,dA (by kernel_rfl)⟩,gG (by kernel_rfl) (by kernel_rfl) (by kernel_rfl),⟨iT,dA (by kernel_rfl)⟩,gG (by kernel_rfl) (by kernel_rfl) (by kernel_rfl),⟨iT,dA (by kernel_rfl)⟩,gG (by kernel_rfl) (by kernel_rfl) (by kernel_rfl),⟨iT,dA (by kernel_rfl)⟩,gG (by kernel_rfl) (by kernel_rfl) (by kernel_rfl),⟨iT,dA (by kernel_rfl)⟩,gG (by kernel_rfl) (by kernel_rfl) (by kernel_rfl),⟨iT,dA (by kernel_rfl)⟩,gG (by kernel_rfl) (by kernel_rfl) (by kernel_rfl),⟨iT,dA (by kernel_rfl)⟩,gG (by kernel_rfl) (by kernel_rfl) (by kernel_rfl),⟨iT,dA (by kernel_rfl)⟩,gG (by kernel_rfl) (by kernel_rfl) (by kernel_rfl),⟨iT,dA (by kernel_rfl)⟩,gG (by kernel_rfl) (by kernel_rfl) (by kernel_rfl),⟨iT,dA (by kernel_rfl)⟩,gG (by kernel_rfl) (by kernel_rfl) (by kernel_rfl),⟨iT,dA (by kernel_rfl)⟩,gG (by kernel_rfl) (by kernel_rfl) (by kernel_rfl),⟨iT,dA (by kernel_rfl)⟩,gG (by kernel_rfl) (by kernel_rfl) (by kernel_rfl),⟨iT,dA (by kernel_rfl)⟩,gG (by kernel_rfl) (by kernel_rfl) (by kernel_rfl),⟨iT,dA (by kernel_rfl)⟩,gG (by kernel_rfl) (by kernel_rfl) (by kernel_rfl),⟨iT,dA (by kernel_rfl)⟩,gG (by kernel_rfl) (by kernel_rfl) (by kernel_rfl),⟨iT,dA (by kernel_rfl)⟩,gG (by kernel_rfl) (by kernel_rfl) (by kernel_rfl),⟨iT,dA (by kernel_rfl)⟩,gG (by kernel_rfl) (by kernel_rfl) (by kernel_rfl),⟨iT,dA (by kernel_rfl)⟩,gG (by kernel_rfl) (by kernel_rfl) (by kernel_rfl),⟨fun _=> ⟨by kernel_rfl,by kernel_rfl⟩,dA (by kernel_rfl)⟩,gG (by kernel_rfl) (by kernel_rfl) (by kernel_rfl),⟨iT,dA (by kernel_rfl)⟩,gG (by kernel_rfl) (by kernel_rfl) (by kernel_rfl),⟨fun _=> ⟨by kernel_rfl,by kernel_rfl⟩,dA (by kernel_rfl)⟩,gG (by kernel_rfl) (by kernel_rfl) (by kernel_rfl),⟨iT,dA (by kernel_rfl)⟩,gG (by kernel_rfl) (by kernel_rfl) (by kernel_rfl),⟨iT,dA (by kernel_rfl)⟩,gG (by kernel_rfl) (by kernel_rfl) (by kernel_rfl),⟨fun _=> ⟨by kernel_rfl,by kernel_rfl⟩,dA (by kernel_rfl)⟩,gG (by kernel_rfl) (by kernel_rfl) (by kernel_rfl),⟨iT,dA (by kernel_rfl)⟩,gG (by kernel_rfl) (by kernel_rfl) (by kernel_rfl),⟨iT,dA (by kernel_rfl)⟩,gG (by kernel_rfl) (by kernel_rfl) (by kernel_rfl),⟨iT,dA (by kernel_rfl)⟩,gG (by kernel_rfl) (by kernel_rfl) (by kernel_rfl),⟨iT,dA (by kernel_rfl)⟩,gG (by kernel_rfl) (by kernel_rfl) (by kernel_rfl),⟨iT,dA (by kernel_rfl)⟩,gG (by kernel_rfl) (by kernel_rfl) (by kernel_rfl),⟨fun _=> ⟨by kernel_rfl,by kernel_rfl⟩,dA (by kernel_rfl)⟩,gG (by kernel_rfl) (by kernel_rfl) (by kernel_rfl),⟨fun _=> ⟨by kernel_rfl,by kernel_rfl⟩,dA (by kernel_rfl)⟩,gG (by kernel_rfl) (by kernel_rfl) (by kernel_rfl),⟨fun _=> ⟨by kernel_rfl,by kernel_rfl⟩,dA (by kernel_rfl)⟩,gG (by kernel_rfl) (by kernel_rfl) (by kernel_rfl),⟨iT,dA (by kernel_rfl)⟩,gG (by kernel_rfl) (by kernel_rfl) (by kernel_rfl),⟨iT,dA (by kernel_rfl)⟩,gG (by kernel_rfl) (by kernel_rfl) (by kernel_rfl),⟨iT,dA (by kernel_rfl)⟩,gG (by kernel_rfl) (by kernel_rfl) (by kernel_rfl),⟨iT,dA (by kernel_rfl)⟩,gG (by kernel_rfl) (by kernel_rfl) (by kernel_rfl),⟨iT,dA (by kernel_rfl)⟩,gG (by kernel_rfl) (by kernel_rfl) (by kernel_rfl),⟨iT,dA (by kernel_rfl)⟩,gG (by kernel_rfl) (by kernel_rfl) (by kernel_rfl),⟨iT,dA (by kernel_rfl)⟩,gG (by kernel_rfl) (by kernel_rfl) (by kernel_rfl),⟨iT,dA (by kernel_rfl)⟩,gG (by kernel_rfl) (by kernel_rfl) (by kernel_rfl),⟨iT,dA (by kernel_rfl)⟩,gG (by kernel_rfl) (by kernel_rfl) (by kernel_rfl),⟨iT,dA (by kernel_rfl)⟩,gG (by kernel_rfl) (by kernel_rfl) (by kernel_rfl),⟨iT,dA (by kernel_rfl)⟩,gG (by kernel_rfl) (by kernel_rfl) (by kernel_rfl),⟨iT,dA (by kernel_rfl)⟩,gG (by kernel_rfl) (by kernel_rfl) (by kernel_rfl),⟨iT,dA (by kernel_rfl)⟩,gG (by kernel_rfl) (by kernel_rfl) (by kernel_rfl),⟨iT,dA (by kernel_rfl)⟩,gG (by kernel_rfl) (by kernel_rfl) (by kernel_rfl),⟨iT,dA (by kernel_rfl)⟩,gG (by kernel_rfl) (by kernel_rfl) (by kernel_rfl),⟨iT,dA (by kernel_rfl)⟩,gG (by kernel_rfl) (by kernel_rfl) (by kernel_rfl),⟨iT,dA (by kernel_rfl)⟩,gG (by kernel_rfl) (by kernel_rfl) (by kernel_rfl),⟨iT,dA (by kernel_rfl)⟩,gG (by kernel_rfl) (by kernel_rfl) (by kernel_rfl),⟨iT,dA (by kernel_rfl)⟩,gG (by kernel_rfl) (by kernel_rfl) (by kernel_rfl),⟨iT,dA (by kernel_rfl)⟩,gG (by kernel_rfl) (by kernel_rfl) (by kernel_rfl),⟨fun _=> ⟨by kernel_rfl,by kernel_rfl⟩,dA (by kernel_rfl)⟩,trivial⟩
theorem mX:Tryz.prog.follows .mixedOrders=true:=by kernel_rfl
def KM:Go.Shelf.Ren:=⟨fun|6=>76|14=>116|15=>117|20=>144|21=>145|22=>146|23=>147|24=>148|25=>149|26=>150|27=>151|28=>152|29=>153|46=>176|47=>177|48=>178|49=>179|50=>180|57=>184|n=>n,fun|0=>0|3=>3|4=>4|5=>5|9=>9|22=>75|24=>117|25=>132|39=>181|45=>205|46=>206|50=>178|53=>212|55=>214|66=>228|70=>232|76=>237|77=>238|n=>n,fun n=>n⟩
theorem QV:Go.Proofs.SlLaysF0.n6 Tryz.prog KM:=⟨by kernel_rfl,⟨Tryz.f76.name,by kernel_rfl,Tryz.func76.trans (congrArg some (by kernel_rfl))⟩,⟨Tryz.f116.name,by kernel_rfl,Tryz.func116.trans (congrArg some (by kernel_rfl))⟩,Tryz.func117.trans (congrArg some (by kernel_rfl)),⟨Tryz.f144.name,by kernel_rfl,Tryz.func144.trans (congrArg some (by kernel_rfl))⟩,⟨Tryz.f145.name,by kernel_rfl,Tryz.func145.trans (congrArg some (by kernel_rfl))⟩,⟨Tryz.f146.name,by kernel_rfl,Tryz.func146.trans (congrArg some (by kernel_rfl))⟩,⟨Tryz.f147.name,by kernel_rfl,Tryz.func147.trans (congrArg some (by kernel_rfl))⟩,⟨Tryz.f148.name,by kernel_rfl,Tryz.func148.trans (congrArg some (by kernel_rfl))⟩,⟨Tryz.f149.name,by kernel_rfl,Tryz.func149.trans (congrArg some (by kernel_rfl))⟩,⟨Tryz.f150.name,by kernel_rfl,Tryz.func150.trans (congrArg some (by kernel_rfl))⟩,⟨Tryz.f151.name,by kernel_rfl,Tryz.func151.trans (congrArg some (by kernel_rfl))⟩,Tryz.func152.trans (congrArg some (by kernel_rfl)),Tryz.func153.trans (congrArg some (by kernel_rfl)),⟨Tryz.f176.name,by kernel_rfl,Tryz.func176.trans (congrArg some (by kernel_rfl))⟩,Tryz.func177.trans (congrArg some (by kernel_rfl)),Tryz.func178.trans (congrArg some (by kernel_rfl)),⟨Tryz.f179.name,by kernel_rfl,Tryz.func179.trans (congrArg some (by kernel_rfl))⟩,⟨Tryz.f180.name,by kernel_rfl,Tryz.func180.trans (congrArg some (by kernel_rfl))⟩,⟨Tryz.f184.name,by kernel_rfl,Tryz.func184.trans (congrArg some (by kernel_rfl))⟩,Tryz.underlying0,Tryz.isAgg0,Tryz.sizeOf0,Tryz.zeroValue0,Tryz.underlying3,Tryz.isAgg3,Tryz.sizeOf3,Tryz.zeroValue3,Tryz.underlying4,Tryz.isAgg4,Tryz.sizeOf4,Tryz.zeroValue4,Tryz.underlying5,Tryz.isAgg5,Tryz.sizeOf5,Tryz.zeroValue5,Tryz.underlying9,Tryz.isAgg9,Tryz.sizeOf9,Tryz.zeroValue9,Tryz.underlying75,Tryz.isAgg75,Tryz.sizeOf75,Tryz.zeroValue75,Tryz.underlying132,Tryz.isAgg132,Tryz.sizeOf132,Tryz.zeroValue132,Tryz.underlying181,Tryz.isAgg181,Tryz.sizeOf181,Tryz.zeroValue181,Tryz.underlying205,Tryz.isAgg205,Tryz.sizeOf205,Tryz.zeroValue205,Tryz.underlying206,Tryz.isAgg206,Tryz.sizeOf206,Tryz.zeroValue206,Tryz.underlying178,Tryz.isAgg178,Tryz.sizeOf178,Tryz.zeroValue178,Tryz.underlying212,Tryz.isAgg212,Tryz.sizeOf212,Tryz.zeroValue212,Tryz.underlying214,Tryz.isAgg214,Tryz.sizeOf214,Tryz.zeroValue214,Tryz.underlying228,Tryz.isAgg228,Tryz.sizeOf228,Tryz.zeroValue228,Tryz.underlying232,Tryz.isAgg232,Tryz.sizeOf232,Tryz.zeroValue232,Tryz.underlying237,Tryz.isAgg237,Tryz.sizeOf237,Tryz.zeroValue237,Tryz.underlying238,Tryz.isAgg238,Tryz.sizeOf238,Tryz.zeroValue238⟩
theorem Uq (w:World):(isAgg (KM.t 24)).run Tryz.prog w= .ok true w:=Tryz.isAgg117 w
theorem SX (w:World):(Go.sizeOf (KM.t 24)).run Tryz.prog w= .ok 2 w:=Tryz.sizeOf117 w
section
variable (p:aj) (t:Task)
abbrev k1:List CV:=[(cI p.buses),(.d (aR none 5 Source.cell p.sources)),(.d (aR none 6 Link.cell p.links)),(.d (aR none 4 aN.cell p.racks))]
abbrev k3:DV:=(aR none 1 (bL .i64) t.crew)
abbrev k4:DV:=(aR none 2 af.cell t.allowed)
abbrev k5:DV:=(aR none 2 af.cell t.goal)
abbrev k2:List CV:=[(.d (aR none 1 (bL .i64) t.fed)),(.d (k3 t)),(.d (k4 t)),(.d (k5 t))]
abbrev k0:List SV:=[(.agg (k1 p)),(.agg (k2 t))]
end
theorem Gf (p:aj) (t:Task):cO Tryz.prog 11 (k0 p t) [] (fun r=>(vB r)) (fun _=>[]) (zy p t):=
  dG tT mX Tryz.func11 (
  .rg {fr:=[(0,2),(1,3)],fz:=[2,3]} []<| .r<| .e (bif (bif (bif (bif (bif (bif (decide (60<(p.sources.length:Int)))then true else(decide (60<(p.links.length:Int))))then true else(decide (60<(p.racks.length:Int))))then true else(decide (60<(t.fed.length:Int))))then true else(decide (60<(t.crew.length:Int))))then true else(decide (60<(t.allowed.length:Int))))then true else(decide (60<(t.goal.length:Int)))))
theorem aQ (n:Int) (u0:Int) (u1:Int):cO Tryz.prog 123 [(sI n),(sI u0),(sI u1)] [] (fun r=>(vB r)) (fun _=>[]) (aW n u0 u1):=
  dG tT mX Tryz.func123 (
  .r<| .r<| .e (bif (decide (u0≤n))then(decide (n≤u1))else false))
section
variable (p:aj)
abbrev k6:List SV:=[(.agg (k1 p))]
end
theorem CX (p:aj):cO Tryz.prog 125 (k6 p) [] (fun r=>(vD (.fn 163 1 (bB [(DW [(.int .i64 r.1),(aR none 5 Source.cell r.2.1),(aR none 6 Link.cell r.2.2.1),(aR none 4 aN.cell r.2.2.2)] 0)])))) (fun _=>[]) (uQ p):=
  dG tT mX Tryz.func125 (
  .rg {fr:=[(0,1)],fz:=[1]} []<| .r<| .e (p.buses,p.sources,p.links,p.racks))
theorem EU (p:aj):cO Tryz.prog 127 (k6 p) [] (fun r=>(vD (.fn 166 1 (bB [(DW [(.int .i64 r.1),(aR none 5 Source.cell r.2.1),(aR none 6 Link.cell r.2.2.1),(aR none 4 aN.cell r.2.2.2)] 0)])))) (fun _=>[]) (xO p):=
  dG tT mX Tryz.func127 (
  .rg {fr:=[(0,1)],fz:=[1]} []<| .r<| .e (p.buses,p.sources,p.links,p.racks))
theorem EO (p:aj):cO Tryz.prog 129 (k6 p) [] (fun r=>(vD (.fn 169 1 (bB [(DW [(.int .i64 r.1),(aR none 5 Source.cell r.2.1),(aR none 6 Link.cell r.2.2.1),(aR none 4 aN.cell r.2.2.2)] 0)])))) (fun _=>[]) (yj p):=
  dG tT mX Tryz.func129 (
  .rg {fr:=[(0,1)],fz:=[1]} []<| .r<| .e (p.buses,p.sources,p.links,p.racks))
section
variable (x:Source) (u2:(List Source)) (x1:Int) (u3:(List Link)) (u4:(List aN)) (r_:Bool) (u0:Bool) (u1:Bool) (u5:Bool) (u6:Bool)
abbrev k7:List CV:=[(cI x.bus),(cI x.kind),(cI x.power),(cI x.sync),(cI x.ohm)]
abbrev k9:DV:=(aR none 5 Source.cell u2)
abbrev k8:DV:=(DW [(.int .i64 x1),(k9 u2),(aR none 6 Link.cell u3),(aR none 4 aN.cell u4)] 0)
abbrev k10:=(IntKind.wrap .i64 (x1 - 1))
abbrev k11:=((bif r_ then u0 else false),true)
abbrev k12:=((bif (bif r_ then u0 else false)then u1 else false),true)
abbrev k13:=(bif (bif (bif r_ then u0 else false)then u1 else false)then u5 else false)
abbrev k14:=(bif (k13 r_ u0 u1 u5)then u6 else false)
end
theorem AZ (x:Source) (x1:Int) (u2:(List Source)) (u3:(List Link)) (u4:(List aN)):cO Tryz.prog 163 [(.agg (k7 x)),(sD (k8 u2 x1 u3 u4))] [] (fun r=>(vB r)) (fun _=>[]) (mU x x1 u2 u3 u4):=
  dG tT mX Tryz.func163 (
  .rg {fr:=[(0,1)],fz:=[1]} []<| .cl 5 (aQ x.bus 0 (k10 x1)) fun r_=> .cg 9 [(r_,true)] (aQ x.kind 1 3) fun u0=> .cg 14 [(k11 r_ u0)] (aQ x.power 1 100000) fun u1=> .cg 19 [(k12 r_ u0 u1)] (aQ x.sync 0 8) fun u5=> .cg 24 [((k13 r_ u0 u1 u5),true)] (aQ x.ohm 10 100000) fun u6=> .r<| .e (k14 r_ u0 u1 u5 u6))
section
variable (x1:Int) (u0:(List Source)) (u1:(List Link)) (u2:(List aN))
abbrev k16:=(bB [(k8 u0 x1 u1 u2)])
abbrev k15:DV:=(DW [(.fn 163 1 (k16 x1 u0 u1 u2))] 0)
end
theorem Db (x:Source) (x1:Int) (u0:(List Source)) (u1:(List Link)) (u2:(List aN)):cO Tryz.prog 162 [(.agg (k7 x)),(sD (k15 x1 u0 u1 u2))] [] (fun r=>(vB r)) (fun _=>[]) (uR x x1 u0 u1 u2):=
  dG tT mX Tryz.func162 (
  .rg {fr:=[(0,1)],fz:=[1]} []<| .cl 2 (AZ x x1 u0 u1 u2) fun r_=> .r<| .e (!r_))
section
variable (s_:(List Source)) (f_:Int) (u0:(List Source)) (u1:(List Link)) (u2:(List aN)) (t8:Int)
abbrev k17:List SV:=[(sD (k9 s_)),(sD (.fn 162 1 (bB [(k15 f_ u0 u1 u2)])))]
abbrev k18:=(IntKind.wrap .i64 (t8+1))
end
theorem yP (s_:(List Source)) (f_:Int) (u0:(List Source)) (u1:(List Link)) (u2:(List aN)):cO Tryz.prog 181 (k17 s_ f_ u0 u1 u2) [] (fun r=>(vI r)) (fun _=>[]) (oQ s_ f_ u0 u1 u2):=
  dG tT mX Tryz.func181 (
  .r<| .r<| .lp (σ:=Int) (β:=Unit) (0) [] [] ⟨[0,1,7],[],fun t8=>[(8,(vI t8))],fun t8=>[]⟩ ⟨[],[],fun _=>[],fun _=>[]⟩
  (fun t8=> .r<| .it (.r<| .cl 5 (Db (at' s_ t8.toNat) f_ u0 u1 u2) fun r_=> .a1 ((0:Int)≤t8∧t8<(s_.length:Int))<| .rg {} [0,1]<| .it (.r<| .e (.done (.ret t8)))
  (.r<| .e (.next (k18 t8))))
  (.e (.done (.brk ()))))
  (fun _=> .r<| .e (-1)))
theorem vR (s_:(List Source)) (f_:Int) (u0:(List Source)) (u1:(List Link)) (u2:(List aN)):cO Tryz.prog 161 (k17 s_ f_ u0 u1 u2) [] (fun r=>(vB r)) (fun _=>[]) (iO s_ f_ u0 u1 u2):=
  dG tT mX Tryz.func161 (
  .r<| .cl 2 (yP s_ f_ u0 u1 u2) fun r_=> .r<| .e (decide (0≤r_)))
theorem EX (l:(List Source)) (u0:Int) (u1:Int) (u2:(List Source)) (u3:(List Link)) (u4:(List aN)):cO Tryz.prog 124 [(sD (k9 l)),(sI u0),(sD (.fn 163 1 (k16 u1 u2 u3 u4)))] [] (fun r=>(vB r)) (fun _=>[]) (sJ l u0 u1 u2 u3 u4):=
  dG tT mX Tryz.func124 (
  .rg {fr:=[(0,1)],fz:=[1]} []<| .cg 7 [((decide ((l.length:Int)≤u0)),true)] (vR l u1 u2 u3 u4) fun r_=> .r<| .e (bif (decide ((l.length:Int)≤u0))then(!r_)else false))
section
variable (x:Link) (u0:Int)
abbrev k19:List CV:=[(cI x.a),(cI x.b),(cI x.kind),(cI x.most),(cI x.ohm),(.d (aR none 2 iC.cell x.trip))]
abbrev k20:=((decide (((at' x.trip u0.toNat).amps)≤((at' x.trip ((k10 u0).toNat)).amps))),false)
end
theorem Dt (x:Link) (x1:Int) (u3:(List Source)) (u4:(List Link)) (u5:(List aN)):cO Tryz.prog 166 [(.agg (k19 x)),(sD (k8 u3 x1 u4 u5))] [] (fun r=>(vB r)) (fun _=>[]) (pF x x1 u3 u4 u5):=
  dG tT mX Tryz.func166 (
  .rg {fr:=[(0,5)]} []<| .cl 5 (aQ x.a 0 (k10 x1)) fun r_=> .cg 13 [((!r_),false)] (aQ x.b 0 (k10 x1)) fun u1=> .cg 26 [((bif (bif (!r_)then true else(!u1))then true else(decide (x.a=x.b))),false)] (aQ x.kind 1 3) fun u6=> .cg 32 [((bif (bif (bif (!r_)then true else(!u1))then true else(decide (x.a=x.b)))then true else(!u6)),false)] (aQ x.most 1 100000) fun u8=> .cg 38 [((bif (bif (bif (bif (!r_)then true else(!u1))then true else(decide (x.a=x.b)))then true else(!u6))then true else(!u8)),false)] (aQ x.ohm 10 100000) fun u9=> .r<| .it (.r<| .e false)
  (.rg {fz:=[5]} []<| .lp (σ:=Int) (β:=Unit) (0) [] [] ⟨[2,48,49],[],fun u0=>[(50,(vI u0))],fun u0=>[]⟩ ⟨[2],[],fun _=>[],fun _=>[]⟩
  (fun u0=> .r<| .it (.a1 ((0:Int)≤u0∧u0<(x.trip.length:Int))<| .rg {fr:=[(3,9)],fz:=[9]} []<| .cl 2 (aQ ((at' x.trip u0.toNat).amps) 1 1000000) fun u2=> .cg 7 [((!u2),false)] (aQ ((at' x.trip u0.toNat).millis) 1 100000) fun u7=> .a2 ((gB [((decide (0<u0)),true),((bif (!u2)then true else(!u7)),false)]=true→(0:Int)≤(k10 u0)∧(k10 u0)<(x.trip.length:Int))) ((gB [(k20 x u0),((decide (0<u0)),true),((bif (!u2)then true else(!u7)),false)]=true→(0:Int)≤(k10 u0)∧(k10 u0)<(x.trip.length:Int)))<| .rg {} [3,2,0,1]<| .it (.r<| .e (.done (.ret false)))
  (.r<| .e (.next (k18 u0))))
  (.e (.done (.brk ()))))
  (fun _=> .r<| .e (bif (decide ((x.trip.length:Int)≤6))then(bif (decide ((x.trip.length:Int)=0))then true else(decide (x.kind=3)))else false))))
section
variable (x1:Int) (u0:(List Source)) (u1:(List Link)) (u2:(List aN))
abbrev k21:DV:=(DW [(.fn 166 1 (k16 x1 u0 u1 u2))] 0)
end
theorem Ab (x:Link) (x1:Int) (u0:(List Source)) (u1:(List Link)) (u2:(List aN)):cO Tryz.prog 165 [(.agg (k19 x)),(sD (k21 x1 u0 u1 u2))] [] (fun r=>(vB r)) (fun _=>[]) (qo x x1 u0 u1 u2):=
  dG tT mX Tryz.func165 (
  .rg {fr:=[(0,1)],fz:=[1]} []<| .cl 2 (Dt x x1 u0 u1 u2) fun r_=> .r<| .e (!r_))
section
variable (s_:(List Link)) (f_:Int) (u0:(List Source)) (u1:(List Link)) (u2:(List aN)) (t8:Int)
abbrev k22:List SV:=[(sD (aR none 6 Link.cell s_)),(sD (.fn 165 1 (bB [(k21 f_ u0 u1 u2)])))]
abbrev k23:=((0:Int)≤t8∧t8<(s_.length:Int))
end
theorem wI (s_:(List Link)) (f_:Int) (u0:(List Source)) (u1:(List Link)) (u2:(List aN)):cO Tryz.prog 182 (k22 s_ f_ u0 u1 u2) [] (fun r=>(vI r)) (fun _=>[]) (lG s_ f_ u0 u1 u2):=
  dG tT mX Tryz.func182 (
  .r<| .r<| .lp (σ:=Int) (β:=Unit) (0) [] [] ⟨[0,1,7],[],fun t8=>[(8,(vI t8))],fun t8=>[]⟩ ⟨[],[],fun _=>[],fun _=>[]⟩
  (fun t8=> .r<| .it (.r<| .cl 5 (Ab (at' s_ t8.toNat) f_ u0 u1 u2) fun r_=> .a1 (k23 s_ t8)<| .rg {} [0,1]<| .it (.r<| .e (.done (.ret t8)))
  (.r<| .e (.next (k18 t8))))
  (.e (.done (.brk ()))))
  (fun _=> .r<| .e (-1)))
theorem sN (s_:(List Link)) (f_:Int) (u0:(List Source)) (u1:(List Link)) (u2:(List aN)):cO Tryz.prog 164 (k22 s_ f_ u0 u1 u2) [] (fun r=>(vB r)) (fun _=>[]) (gu s_ f_ u0 u1 u2):=
  dG tT mX Tryz.func164 (
  .r<| .cl 2 (wI s_ f_ u0 u1 u2) fun r_=> .r<| .e (decide (0≤r_)))
theorem DK (l:(List Link)) (u0:Int) (u1:Int) (u2:(List Source)) (u3:(List Link)) (u4:(List aN)):cO Tryz.prog 126 [(sD (aR none 6 Link.cell l)),(sI u0),(sD (.fn 166 1 (k16 u1 u2 u3 u4)))] [] (fun r=>(vB r)) (fun _=>[]) (qm l u0 u1 u2 u3 u4):=
  dG tT mX Tryz.func126 (
  .rg {fr:=[(0,1)],fz:=[1]} []<| .cg 7 [((decide ((l.length:Int)≤u0)),true)] (sN l u1 u2 u3 u4) fun r_=> .r<| .e (bif (decide ((l.length:Int)≤u0))then(!r_)else false))
section
variable (x:aN)
abbrev k24:List CV:=[(cI x.feeds.e0),(cI x.feeds.e1),(cI x.power),(cI x.paths)]
end
theorem D7 (x:aN):cO Tryz.prog 170 [(.agg (k24 x))] [] (fun r=>(vI r)) (fun _=>[]) (qQ x):=
  dG tT mX Tryz.func170 (
  .rg {fr:=[(0,1)],fz:=[1]} []<| .rg {} [.pf ⟨(0:Int)≤1∧(1:Int)<(2:Nat),(by decide)⟩]<| .it (.r<| .e 1)
  (.r<| .e 2))
section
variable (r_:Bool) (u0:Bool) (x:aN) (u1:Bool)
abbrev k26:=(bif (bif (bif r_ then u0 else false)then(!decide (x.feeds.e0=x.feeds.e1))else false)then u1 else false)
abbrev k25:=((k26 r_ u0 x u1),true)
end
theorem Dy (x:aN) (x1:Int) (u2:(List Source)) (u3:(List Link)) (u4:(List aN)):cO Tryz.prog 169 [(.agg (k24 x)),(sD (k8 u2 x1 u3 u4))] [] (fun r=>(vB r)) (fun _=>[]) (pG x x1 u2 u3 u4):=
  dG tT mX Tryz.func169 (
  .rg {fr:=[(0,1)],fz:=[1]} []<| .rg {} [.pf ⟨(0:Int)≤0∧(0:Int)<(2:Nat),(by decide)⟩, .pf ⟨(0:Int)≤1∧(1:Int)<(2:Nat),(by decide)⟩]<| .cl 4 (aQ x.feeds.e0 0 (k10 x1)) fun r_=> .cg 10 [(r_,true)] (aQ x.feeds.e1 (-1) (k10 x1)) fun u0=> .cg 20 [((bif (bif r_ then u0 else false)then(!decide (x.feeds.e0=x.feeds.e1))else false),true)] (aQ x.power 1 100000) fun u1=> .cg 26 [(k25 r_ u0 x u1)] (D7 x) fun u5=> .cg 27 [(k25 r_ u0 x u1)] (aQ x.paths 0 u5) fun u6=> .r<| .e (bif (k26 r_ u0 x u1)then u6 else false))
section
variable (x1:Int) (u0:(List Source)) (u1:(List Link)) (u2:(List aN))
abbrev k27:DV:=(DW [(.fn 169 1 (k16 x1 u0 u1 u2))] 0)
end
theorem zn (x:aN) (x1:Int) (u0:(List Source)) (u1:(List Link)) (u2:(List aN)):cO Tryz.prog 168 [(.agg (k24 x)),(sD (k27 x1 u0 u1 u2))] [] (fun r=>(vB r)) (fun _=>[]) (pM x x1 u0 u1 u2):=
  dG tT mX Tryz.func168 (
  .rg {fr:=[(0,1)],fz:=[1]} []<| .cl 2 (Dy x x1 u0 u1 u2) fun r_=> .r<| .e (!r_))
section
variable (s_:(List aN)) (f_:Int) (u0:(List Source)) (u1:(List Link)) (u2:(List aN))
abbrev k28:List SV:=[(sD (aR none 4 aN.cell s_)),(sD (.fn 168 1 (bB [(k27 f_ u0 u1 u2)])))]
end
theorem vZ (s_:(List aN)) (f_:Int) (u0:(List Source)) (u1:(List Link)) (u2:(List aN)):cO Tryz.prog 183 (k28 s_ f_ u0 u1 u2) [] (fun r=>(vI r)) (fun _=>[]) (lm s_ f_ u0 u1 u2):=
  dG tT mX Tryz.func183 (
  .r<| .r<| .lp (σ:=Int) (β:=Unit) (0) [] [] ⟨[0,1,7],[],fun t8=>[(8,(vI t8))],fun t8=>[]⟩ ⟨[],[],fun _=>[],fun _=>[]⟩
  (fun t8=> .r<| .it (.r<| .cl 5 (zn (⟨((at' s_ t8.toNat).feeds),(at' s_ t8.toNat).power,(at' s_ t8.toNat).paths⟩:aN) f_ u0 u1 u2) fun r_=> .a1 ((0:Int)≤t8∧t8<(s_.length:Int))<| .rg {} [0,1]<| .it (.r<| .e (.done (.ret t8)))
  (.r<| .e (.next (k18 t8))))
  (.e (.done (.brk ()))))
  (fun _=> .r<| .e (-1)))
theorem sM (s_:(List aN)) (f_:Int) (u0:(List Source)) (u1:(List Link)) (u2:(List aN)):cO Tryz.prog 167 (k28 s_ f_ u0 u1 u2) [] (fun r=>(vB r)) (fun _=>[]) (gF s_ f_ u0 u1 u2):=
  dG tT mX Tryz.func167 (
  .r<| .cl 2 (vZ s_ f_ u0 u1 u2) fun r_=> .r<| .e (decide (0≤r_)))
theorem Dw (l:(List aN)) (u0:Int) (u1:Int) (u2:(List Source)) (u3:(List Link)) (u4:(List aN)):cO Tryz.prog 128 [(sD (aR none 4 aN.cell l)),(sI u0),(sD (.fn 169 1 (k16 u1 u2 u3 u4)))] [] (fun r=>(vB r)) (fun _=>[]) (qb l u0 u1 u2 u3 u4):=
  dG tT mX Tryz.func128 (
  .rg {fr:=[(0,1)],fz:=[1]} []<| .cg 7 [((decide ((l.length:Int)≤u0)),true)] (sM l u1 u2 u3 u4) fun r_=> .r<| .e (bif (decide ((l.length:Int)≤u0))then(!r_)else false))
theorem Ef (p:aj):cO Tryz.prog 89 (k6 p) [] (fun r=>(vI r)) (fun _=>[]) (qR p):=
  dG tT mX Tryz.func89 (
  .rg {fr:=[(0,1)],fz:=[1]} []<| .cl 2 (aQ p.buses 1 24) fun r_=> .r<| .it (.r<| .e 10)
  (.cl 3 (CX p) fun u0=> .cl 4 (EX p.sources 8 u0.1 u0.2.1 u0.2.2.1 u0.2.2.2) fun u3=> .r<| .it (.r<| .e 11)
  (.cl 3 (EU p) fun u1=> .cl 4 (DK p.links 40 u1.1 u1.2.1 u1.2.2.1 u1.2.2.2) fun u4=> .r<| .it (.r<| .e 12)
  (.cl 3 (EO p) fun u2=> .cl 4 (Dw p.racks 24 u2.1 u2.2.1 u2.2.2.1 u2.2.2.2) fun u5=> .r<| .it (.r<| .e 13)
  (.r<| .e 0)))))
section
variable (s_:State) (p:aj) (u0:Int)
abbrev XD:DV:=(aR none 1 ah s_.locked)
abbrev XI:DV:=(aR none 1 ah s_.badLink)
abbrev Wv:DV:=(aR none 1 ah s_.on_)
abbrev Xa:DV:=(aR none 1 ah s_.badSource)
abbrev XB:DV:=(aR none 1 ah s_.earthed)
abbrev Xd:DV:=(aR none 1 ah s_.badBus)
abbrev AB:List CV:=[(.d (aR none 1 ah s_.closed)),(.d (XD s_)),(.d (XI s_)),(.d (Wv s_)),(.d (Xa s_)),(.d (XB s_)),(.d (Xd s_))]
abbrev QO:List SV:=[(.agg (k1 p)),(.agg (AB s_))]
abbrev Z8:=(⟨s_.closed,(p.links.length:Int)⟩:dh)
abbrev Zq:=(⟨s_.locked,(p.links.length:Int)⟩:dh)
abbrev k39:=(⟨s_.badLink,(p.links.length:Int)⟩:dh)
abbrev k40:=(⟨s_.on_,(p.sources.length:Int)⟩:dh)
abbrev YB:=(⟨s_.badSource,(p.sources.length:Int)⟩:dh)
abbrev k42:=(ay dh.cell [(Z8 s_ p),(Zq s_ p),(k39 s_ p),(k40 s_ p),(YB s_ p),(⟨s_.earthed,p.buses⟩:dh),(⟨s_.badBus,p.buses⟩:dh)])
abbrev UM:=((0:Int)≤u0∧u0<(p.links.length:Int))
abbrev k44:=((gB [((decide (((at' p.links u0.toNat).kind)=1)),true)]=true→(0:Int)≤u0∧u0<(s_.closed.length:Int)))
abbrev k45:=((gB [((!(at' s_.closed u0.toNat)),false),((decide (((at' p.links u0.toNat).kind)=1)),true)]=true→(0:Int)≤u0∧u0<(s_.locked.length:Int)))
end
theorem dN (p:aj) (s_:State):cO Tryz.prog 62 (QO s_ p) [] (fun r=>(vI r)) (fun _=>[]) (dU p s_):=
  dG tT mX Tryz.func62 (
  .rg {fr:=[(0,11),(1,12)]} []<| .cl 1 (Ef p) fun r_=> .r<| .r<| .it (.r<| .e r_)
  (.r<| .rg {an:=[(30, .arr [(Z8 s_ p),(Zq s_ p),(k39 s_ p),(k40 s_ p),(YB s_ p),(⟨s_.earthed,p.buses⟩:dh),(⟨s_.badBus,p.buses⟩:dh)].length (k42 s_ p))],fr:=[(30,13)],fz:=[12]} [.pf ⟨[(Z8 s_ p),(Zq s_ p),(k39 s_ p),(k40 s_ p),(YB s_ p),(⟨s_.earthed,p.buses⟩:dh),(⟨s_.badBus,p.buses⟩:dh)].length=7,rfl⟩, .pf ⟨aK 7 2 (uY 2 [(aR none 1 ah s_.closed),(.int .i64 (p.links.length:Int)),(XD s_),(.int .i64 (p.links.length:Int)),(XI s_),(.int .i64 (p.links.length:Int)),(Wv s_),(.int .i64 (p.sources.length:Int)),(Xa s_),(.int .i64 (p.sources.length:Int)),(XB s_),(.int .i64 p.buses),(Xd s_),(.int .i64 p.buses)]) (k42 s_ p),(by intro i hi j hj;match i,j,hi,hj with|0,0,_,_=>rfl|0,1,_,_=>rfl|1,0,_,_=>rfl|1,1,_,_=>rfl|2,0,_,_=>rfl|2,1,_,_=>rfl|3,0,_,_=>rfl|3,1,_,_=>rfl|4,0,_,_=>rfl|4,1,_,_=>rfl|5,0,_,_=>rfl|5,1,_,_=>rfl|6,0,_,_=>rfl|6,1,_,_=>rfl)⟩]<| .lp (σ:=Int) (β:=Unit) (0) [] [] ⟨[2,3,53,54],[11,13],fun u1=>[(55,(vI u1))],fun u1=>[]⟩ ⟨[2,3],[11],fun _=>[],fun _=>[]⟩
  (fun u1=> .r<| .it (.a1 ((0:Int)≤u1∧u1<([(Z8 s_ p),(Zq s_ p),(k39 s_ p),(k40 s_ p),(YB s_ p),(⟨s_.earthed,p.buses⟩:dh),(⟨s_.badBus,p.buses⟩:dh)].length:Int))<| .rg {fr:=[(2,17)],fz:=[17]} [0, .t 0 u1 ([(Z8 s_ p),(Zq s_ p),(k39 s_ p),(k40 s_ p),(YB s_ p),(⟨s_.earthed,p.buses⟩:dh),(⟨s_.badBus,p.buses⟩:dh)].length)]<| .r<| .it (.r<| .e (.done (.ret 9)))
  (.r<| .e (.next (k18 u1))))
  (.e (.done (.brk ()))))
  (fun _=> .r<| .lp (σ:=Int) (β:=Unit) (0) [] [] ⟨[3,67,68],[],fun u0=>[(69,(vI u0))],fun u0=>[]⟩ ⟨[],[],fun _=>[],fun _=>[]⟩
  (fun u0=> .r<| .it (.a1 (UM p u0)<| .rg {fr:=[(3,21)],fz:=[21]} []<| .a2 (k44 s_ p u0) (k45 s_ p u0)<| .rg {} [0,1]<| .it (.r<| .e (.done (.ret 9)))
  (.r<| .e (.next (k18 u0))))
  (.e (.done (.brk ()))))
  (fun _=> .r<| .e 0))))
theorem yR (i:Int) (x1:Int):cO Tryz.prog 98 [(sI i),(sD (DW [(.int .i64 x1)] 0))] [] (fun r=>(vB r)) (fun _=>[]) (oM i x1):=
  dG tT mX Tryz.func98 (
  .r<| .r<| .e (bif (decide (i<0))then true else(decide (x1≤i))))
section
variable (s_:(List Int)) (t8:Int)
abbrev RB:DV:=(aR none 1 (bL .i64) s_)
abbrev V6:=((0:Int)≤t8∧t8<(s_.length:Int))
end
theorem wo (s_:(List Int)) (f_:Int):cO Tryz.prog 132 [(sD (RB s_)),(sD (.fn 98 1 (bB [(DW [(.int .i64 f_)] 0)])))] [] (fun r=>(vI r)) (fun _=>[]) (lH s_ f_):=
  dG tT mX Tryz.func132 (
  .r<| .r<| .lp (σ:=Int) (β:=Unit) (0) [] [] ⟨[0,1,7],[],fun t8=>[(8,(vI t8))],fun t8=>[]⟩ ⟨[],[],fun _=>[],fun _=>[]⟩
  (fun t8=> .r<| .it (.r<| .cl 5 (yR (at' s_ t8.toNat) f_) fun r_=> .a1 (V6 s_ t8)<| .rg {} [0,1]<| .it (.r<| .e (.done (.ret t8)))
  (.r<| .e (.next (k18 t8))))
  (.e (.done (.brk ()))))
  (fun _=> .r<| .e (-1)))
theorem tN (s_:(List Int)) (f_:Int):cO Tryz.prog 97 [(sD (RB s_)),(sD (.fn 98 1 (bB [(DW [(.int .i64 f_)] 0)])))] [] (fun r=>(vB r)) (fun _=>[]) (gJ s_ f_):=
  dG tT mX Tryz.func97 (
  .r<| .cl 2 (wo s_ f_) fun r_=> .r<| .e (decide (0≤r_)))
section
variable (l:(List Int)) (n:Int)
abbrev k48:List SV:=[(sD (RB l)),(sI n)]
end
theorem si (l:(List Int)) (n:Int):cO Tryz.prog 96 (k48 l n) [] (fun r=>(vB r)) (fun _=>[]) (jY l n):=
  dG tT mX Tryz.func96 (
  .rg {fr:=[(0,1)],fz:=[1]} []<| .cg 6 [((decide ((l.length:Int)≤24)),true)] (tN l n) fun r_=> .r<| .e (bif (decide ((l.length:Int)≤24))then(!r_)else false))
section
variable (x:af) (p:aj)
abbrev QT:List CV:=[(cI x.deed),(cI x.index)]
abbrev k49:List SV:=[(.agg (k1 p)),(.agg (QT x))]
abbrev k51:=((gB [((bif (decide (0≤x.index))then(decide (x.index<(p.links.length:Int)))else false),true)]=true→(0:Int)≤x.index∧x.index<(p.links.length:Int)))
abbrev k52:=(bif (bif (decide (0≤x.index))then(decide (x.index<(p.links.length:Int)))else false)then(!decide (((at' p.links x.index.toNat).kind)=1))else false)
abbrev UX:=(decide (x.index<p.buses))
abbrev VD:=(bif (decide (0≤x.index))then(UX x p)else false)
abbrev KZ:=(decide (x.index<(p.sources.length:Int)))
abbrev Nt:=(bif (decide (0≤x.index))then(KZ x p)else false)
abbrev Nl:=((gB [((bif (decide (0≤x.index))then(decide (x.index<0))else false),true)]=true→(0:Int)≤x.index∧x.index<(p.links.length:Int)))
abbrev Np:=(bif (bif (decide (0≤x.index))then(decide (x.index<0))else false)then(!decide (((at' p.links x.index.toNat).kind)=1))else false)
end
theorem vF (p:aj) (x:af):cO Tryz.prog 79 (k49 x p) [] (fun r=>(vB r)) (fun _=>[]) (mM p x):=
  dG tT mX Tryz.func79 (
  .rg {fr:=[(0,2),(1,3)],fz:=[2,3]} []<| .r<| .r<| .r<| .it (.it (.r<| .a1 (k51 x p)<| .r<| .e (k52 x p))
  (.r<| .it (.it (.r<| .e (VD x p))
  (.r<| .it (.it (.r<| .e (Nt x p))
  (.a1 (Nl x p)<| .r<| .e (Np x p)))
  (.r<| .it (.r<| .e (Nt x p))
  (.a1 (Nl x p)<| .r<| .e (Np x p)))))
  (.r<| .it (.r<| .e (VD x p))
  (.r<| .it (.it (.r<| .e (Nt x p))
  (.a1 (Nl x p)<| .r<| .e (Np x p)))
  (.r<| .it (.r<| .e (Nt x p))
  (.a1 (Nl x p)<| .r<| .e (Np x p)))))))
  (.r<| .it (.it (.r<| .a1 (k51 x p)<| .r<| .e (k52 x p))
  (.r<| .it (.it (.r<| .e (VD x p))
  (.r<| .it (.it (.r<| .e (Nt x p))
  (.a1 (Nl x p)<| .r<| .e (Np x p)))
  (.r<| .it (.r<| .e (Nt x p))
  (.a1 (Nl x p)<| .r<| .e (Np x p)))))
  (.r<| .it (.r<| .e (VD x p))
  (.r<| .it (.it (.r<| .e (Nt x p))
  (.a1 (Nl x p)<| .r<| .e (Np x p)))
  (.r<| .it (.r<| .e (Nt x p))
  (.a1 (Nl x p)<| .r<| .e (Np x p)))))))
  (.r<| .it (.it (.r<| .a1 (k51 x p)<| .r<| .e (k52 x p))
  (.r<| .it (.it (.r<| .e (VD x p))
  (.r<| .it (.it (.r<| .e (Nt x p))
  (.a1 (Nl x p)<| .r<| .e (Np x p)))
  (.r<| .it (.r<| .e (Nt x p))
  (.a1 (Nl x p)<| .r<| .e (Np x p)))))
  (.r<| .it (.r<| .e (VD x p))
  (.r<| .it (.it (.r<| .e (Nt x p))
  (.a1 (Nl x p)<| .r<| .e (Np x p)))
  (.r<| .it (.r<| .e (Nt x p))
  (.a1 (Nl x p)<| .r<| .e (Np x p)))))))
  (.r<| .it (.r<| .a1 (k51 x p)<| .r<| .e (k52 x p))
  (.r<| .it (.it (.r<| .e (VD x p))
  (.r<| .it (.it (.r<| .e (Nt x p))
  (.a1 (Nl x p)<| .r<| .e (Np x p)))
  (.r<| .it (.r<| .e (Nt x p))
  (.a1 (Nl x p)<| .r<| .e (Np x p)))))
  (.r<| .it (.r<| .e (VD x p))
  (.r<| .it (.it (.r<| .e (Nt x p))
  (.a1 (Nl x p)<| .r<| .e (Np x p)))
  (.r<| .it (.r<| .e (Nt x p))
  (.a1 (Nl x p)<| .r<| .e (Np x p))))))))))
theorem zi (x:af) (x1:Int) (u0:(List Source)) (u1:(List Link)) (u2:(List aN)):cO Tryz.prog 100 [(.agg (QT x)),(sD (k8 u0 x1 u1 u2))] [] (fun r=>(vB r)) (fun _=>[]) (oN x x1 u0 u1 u2):=
  dG tT mX Tryz.func100 (
  .rg {fr:=[(0,1)],fz:=[1]} []<| .cl 2 (vF (⟨x1,u0,u1,u2⟩:aj) x) fun r_=> .r<| .e (!r_))
section
variable (s_:(List af)) (f_:Int) (u0:(List Source)) (u1:(List Link)) (u2:(List aN)) (t8:Int)
abbrev Ns:DV:=(aR none 2 af.cell s_)
abbrev k59:List SV:=[(sD (Ns s_)),(sD (.fn 100 1 (k16 f_ u0 u1 u2)))]
abbrev SS:=((0:Int)≤t8∧t8<(s_.length:Int))
end
theorem wz (s_:(List af)) (f_:Int) (u0:(List Source)) (u1:(List Link)) (u2:(List aN)):cO Tryz.prog 131 (k59 s_ f_ u0 u1 u2) [] (fun r=>(vI r)) (fun _=>[]) (lq s_ f_ u0 u1 u2):=
  dG tT mX Tryz.func131 (
  .r<| .r<| .lp (σ:=Int) (β:=Unit) (0) [] [] ⟨[0,1,7],[],fun t8=>[(8,(vI t8))],fun t8=>[]⟩ ⟨[],[],fun _=>[],fun _=>[]⟩
  (fun t8=> .r<| .it (.r<| .cl 5 (zi (at' s_ t8.toNat) f_ u0 u1 u2) fun r_=> .a1 (SS s_ t8)<| .rg {} [0,1]<| .it (.r<| .e (.done (.ret t8)))
  (.r<| .e (.next (k18 t8))))
  (.e (.done (.brk ()))))
  (fun _=> .r<| .e (-1)))
theorem uE (s_:(List af)) (f_:Int) (u0:(List Source)) (u1:(List Link)) (u2:(List aN)):cO Tryz.prog 92 (k59 s_ f_ u0 u1 u2) [] (fun r=>(vB r)) (fun _=>[]) (gM s_ f_ u0 u1 u2):=
  dG tT mX Tryz.func92 (
  .r<| .cl 2 (wz s_ f_ u0 u1 u2) fun r_=> .r<| .e (decide (0≤r_)))
theorem sj (l:(List af)) (x1:Int) (u0:(List Source)) (u1:(List Link)) (u2:(List aN)):cO Tryz.prog 99 [(sD (Ns l)),(sD (k8 u0 x1 u1 u2))] [] (fun r=>(vB r)) (fun _=>[]) (jU l x1 u0 u1 u2):=
  dG tT mX Tryz.func99 (
  .r<| .cg 6 [((decide ((l.length:Int)≤24)),true)] (uE l x1 u0 u1 u2) fun r_=> .r<| .e (bif (decide ((l.length:Int)≤24))then(!r_)else false))
theorem Cn (p:aj) (t:Task):cO Tryz.prog 63 (k0 p t) [] (fun r=>(vB r)) (fun _=>[]) (pJ p t):=
  dG tT mX Tryz.func63 (
  .rg {fr:=[(0,2),(1,3)],fz:=[2,3]} []<| .r<| .r<| .cl 6 (si t.fed (p.racks.length:Int)) fun r_=> .cg 13 [(r_,true)] (si t.crew p.buses) fun u0=> .cg 19 [(k11 r_ u0)] (sj t.allowed p.buses p.sources p.links p.racks) fun u1=> .cg 25 [(k12 r_ u0 u1)] (sj t.goal p.buses p.sources p.links p.racks) fun u2=> .r<| .e (k13 r_ u0 u1 u2))
theorem yV (p:aj) (s_:State):cO Tryz.prog 113 (QO s_ p) [] (fun r=>(vD (.fn 143 2 (bB [(DW [(.int .i64 r.1),(aR none 5 Source.cell r.2.1),(aR none 6 Link.cell r.2.2.1),(aR none 4 aN.cell r.2.2.2.1)] 0),(DW [(aR none 1 ah r.2.2.2.2.1),(aR none 1 ah r.2.2.2.2.2.1),(aR none 1 ah r.2.2.2.2.2.2.1),(aR none 1 ah r.2.2.2.2.2.2.2.1),(aR none 1 ah r.2.2.2.2.2.2.2.2.1),(aR none 1 ah r.2.2.2.2.2.2.2.2.2.1),(aR none 1 ah r.2.2.2.2.2.2.2.2.2.2)] 0)])))) (fun _=>[]) (kM p s_):=
  dG tT mX Tryz.func113 (
  .rg {fr:=[(0,2),(1,3)],fz:=[2,3]} []<| .r<| .e (p.buses,p.sources,p.links,p.racks,s_.closed,s_.locked,s_.badLink,s_.on_,s_.badSource,s_.earthed,s_.badBus))
noncomputable def uL:ig:=⟨[22],MC ([1,1,0,1,0]++[0]) (qB Tryz.f75),MC ([1,1,0,1,0]++[1]) (qB Tryz.f75),125,[]⟩
section
variable (g:aV)
abbrev k63:Ob:=(Jr 3 3 false false 1 1 (bL .i64) (bL .i64) g.head)
abbrev k62:List (Nat × Option Ob):=[(0,some (k63 g))]
end
theorem gK (g:aV) (x:Int):cO Tryz.prog 115 [(.agg [(.mp 0)]),(sI x)] (k62 g) (fun r=>(vI r)) (fun r=>(k62 g)) (dD g x):=
  dG tT mX Tryz.func115 (
  .rg {fr:=[(0,2)]} []<| .lp (σ:=Int) (β:=Unit) (x) [] [] ⟨[2],[0,2],fun x1=>[(1,(vI x1))],fun x1=>[]⟩ ⟨[],[],fun _=>[],fun _=>[]⟩
  (fun x1=> .rg {an:=[(3, .look (bA aZ x1 g.head).isSome [(cI ((bA aZ x1 g.head).getD 0))])]} [.pf ⟨fK [some .i64] 1 1 g.head.length (Bo (bL .i64) g.head) (Cm (bL .i64) g.head) [(.int .i64 x1)] [(.d (.int .i64 0))] (bA aZ x1 g.head).isSome [(cI ((bA aZ x1 g.head).getD 0))],o7 (fun _=>rfl) (fun _ _=>rfl) g.head x1 0 rfl rfl rfl⟩]<| .r<| .it (.r<| .e (.done (.ret x1)))
  (.r<| .e (.next ((bA aZ x1 g.head).getD 0))))
  (fun _=> .no))
theorem yE (g:aV) (a:Int) (b:Int):cO Tryz.prog 114 [(.agg [(.mp 0)]),(sI a),(sI b)] (k62 g) (fun r=>(.iR [])) (fun r=>[(0,some (Jr 3 3 false false 1 1 (bL .i64) (bL .i64) r))]) (jK g a b):=
  dG tT mX Tryz.func114 (
  .rg {fr:=[(0,2)]} []<| .cr 2 (gK g a) fun r_=> .cr 5 (gK g b) fun u0=> .r<| .r<| .it (.rg {an:=[(4, .map (fF aZ r_ u0 g.head).length (Bo (bL .i64) (fF aZ r_ u0 g.head)) (Cm (bL .i64) (fF aZ r_ u0 g.head)) [])]} [.pf ⟨xH [some .i64] 1 1 g.head.length (Bo (bL .i64) g.head) (Cm (bL .i64) g.head) [(.int .i64 r_)] [(cI u0)] [] (fF aZ r_ u0 g.head).length (Bo (bL .i64) (fF aZ r_ u0 g.head)) (Cm (bL .i64) (fF aZ r_ u0 g.head)),Gh (fun _=>rfl) (fun _ _=>rfl) g.head r_ u0 rfl rfl⟩]<| .e (fF aZ r_ u0 g.head))
  (.e g.head))
section
variable (o_:aV)
abbrev k65:Nat × Option Ob:=(0,some (.loop uL 0 [(5,(vP 1 0))]))
abbrev k64:List (Nat × Option Ob):=[k65,(1,some (.cells 172 [(.mp 2)])),(2,some (k63 o_))]
end
theorem wV (u0:Int) (u1:Int) (u2:Int) (u3:Int) (u4:Int) (u5:(List iC)) (o_:aV):Tz Tryz.prog 0 [(.agg [(cI u0),(cI u1),(cI u2),(cI u3),(cI u4),(.d (aR none 2 iC.cell u5))])] (k64 o_) (fun _=>vB true) (fun r=>[k65,(1,some (.cells 172 [(.mp 2)])),(2,some (Jr 3 3 false false 1 1 (bL .i64) (bL .i64) r.head))]) (mh u0 u1 u2 u3 u4 u5 o_):=
  Zt tT mX uL ⟨[5],[0,1,2],fun _=>[(6,(vD (DW [(.int .i64 u0),(.int .i64 u1),(.int .i64 u2),(.int .i64 u3),(.int .i64 u4),(aR none 2 iC.cell u5)] 0)))],fun _=>[]⟩ (.rg {fr:=[(0,4)],fz:=[4]} []<| .e ())
  (.cl 5 (dH [(0,2)] (yE o_ u0 u1)) fun r_=> .r<| .e (⟨r_⟩:aV))
section
variable (x2:(List Bool)) (u6:(List Bool)) (u2:(List Bool)) (u7:(List Bool)) (u8:(List Bool)) (u9:(List Bool)) (u1:(List Bool)) (u3:(List (Int × Int))) (t9:Int) (u0:(List Link))
abbrev k67:List DV:=[(aR none 1 ah x2),(aR none 1 ah u6),(aR none 1 ah u2),(aR none 1 ah u7),(aR none 1 ah u8),(aR none 1 ah u9),(aR none 1 ah u1)]
abbrev X0:DV:=(DW (k67 x2 u6 u2 u7 u8 u9 u1) 0)
abbrev k68:Ob:=(Jr 3 3 false false 1 1 (bL .i64) (bL .i64) u3)
abbrev k69:=(bif (bif (at' x2 t9.toNat)then(!(at' u2 t9.toNat))else false)then(!(at' u1 (((at' u0 t9.toNat).a).toNat)))else false)
abbrev Xb:=((0:Int)≤t9∧t9<(x2.length:Int))
abbrev k71:=((gB [((bif (at' x2 t9.toNat)then(!(at' u2 t9.toNat))else false),true)]=true→(0:Int)≤(at' u0 t9.toNat).a∧(at' u0 t9.toNat).a<(u1.length:Int)))
abbrev k72:=((gB [((k69 x2 u2 u1 t9 u0),true)]=true→(0:Int)≤(at' u0 t9.toNat).b∧(at' u0 t9.toNat).b<(u1.length:Int)))
end
theorem wW (x1:Int) (u4:(List Source)) (u0:(List Link)) (u5:(List aN)) (x2:(List Bool)) (u6:(List Bool)) (u2:(List Bool)) (u7:(List Bool)) (u8:(List Bool)) (u9:(List Bool)) (u1:(List Bool)) (o_:aV):cO Tryz.prog 143 [(.one (.yl 0)),(sD (k8 u4 x1 u0 u5)),(sD (X0 x2 u6 u2 u7 u8 u9 u1))] (k64 o_) (fun r=>(.iR [])) (fun r=>[k65,(1,some (.cells 172 [(.mp 2)])),(2,some (Jr 3 3 false false 1 1 (bL .i64) (bL .i64) r.head))]) (mH x1 u4 u0 u5 x2 u6 u2 u7 u8 u9 u1 o_):=
  dG tT mX Tryz.func143 (
  .r<| .lp (σ:=((List (Int × Int)) × Int)) (β:=(List (Int × Int))) (o_.head,0) [] [] ⟨[0,2,7,8],[0,1],fun(u3,t9)=>[(9,(vI t9))],fun(u3,t9)=>[(2,some (k68 u3))]⟩ ⟨[],[0,1],fun o501=>[],fun o501=>[(2,some (Jr 3 3 false false 1 1 (bL .i64) (bL .i64) o501))]⟩
  (fun(u3,t9)=> .r<| .it (.a1 (k23 u0 t9)<| .rg {fr:=[(3,10)],fz:=[10]} []<| .fk (bif (k69 x2 u2 u1 t9 u0)then(!(at' u1 (((at' u0 t9.toNat).b).toNat)))else false) (.cy 34 (wV ((at' u0 t9.toNat).a) ((at' u0 t9.toNat).b) ((at' u0 t9.toNat).kind) ((at' u0 t9.toNat).most) ((at' u0 t9.toNat).ohm) ((at' u0 t9.toNat).trip) (⟨u3⟩:aV)) fun r_=> .a4 (Xb x2 t9) ((gB [((at' x2 t9.toNat),true)]=true→(0:Int)≤t9∧t9<(u2.length:Int))) (k71 x2 u2 u1 t9 u0) (k72 x2 u2 u1 t9 u0)<| .rg {ov:=[(31,true,5)]} [0,1,2,3, .k 4]<| .f<| .r<| .e (.next (r_.head,(k18 t9))))
  (.a4 (Xb x2 t9) ((gB [((at' x2 t9.toNat),true)]=true→(0:Int)≤t9∧t9<(u2.length:Int))) (k71 x2 u2 u1 t9 u0) (k72 x2 u2 u1 t9 u0)<| .rg {ov:=[(31,false,4)],sk:=[32,33,34,35]} [0,1,2,3]<| .f<| .r<| .e (.next (u3,(k18 t9)))))
  (.e (.done (.brk u3))))
  (fun o501=> .e (⟨o501⟩:aV)))
section
variable (u1:(List aI)) (u2:(List (Int × Int))) (u3:Int) (s_:State) (u0:Int) (u7:Int) (p:aj) (u5:(List aI)) (u6:Int) (u4:(List (Int × Int)))
abbrev k73:List (Nat × Option Ob):=[(60,some (.rows 129 2 u1.length (yC aI.ev u1) none)),(61,some (k68 u2))]
abbrev k74:=((0:Int)≤u3∧u3<(s_.badBus.length:Int))
abbrev Kr:=((bA aZ u0 u2).getD 0)
abbrev Yd:List CV:=[(cI (Kr u2 u0))]
abbrev VG:=(fF aZ u0 (u1.length:Int) u2)
abbrev k78:=(Bo (bL .i64) (VG u1 u2 u0))
abbrev k79:=(Cm (bL .i64) (VG u1 u2 u0))
abbrev k80:=((u1.length+[(⟨([]:List Int),([]:List Int)⟩:aI)].length)*48≤140737488355328)
abbrev Uj:=(u1++[(⟨([]:List Int),([]:List Int)⟩:aI)])
abbrev k82:=(yC aI.ev (Uj u1))
abbrev k83:=(bA aZ u0 (VG u1 u2 u0))
abbrev VT:=((k83 u1 u2 u0).getD 0)
abbrev k84:List CV:=[(cI (VT u1 u2 u0))]
abbrev k86:=((0:Int)≤(VT u1 u2 u0)∧(VT u1 u2 u0)<((Uj u1).length:Int))
abbrev k91:=((VT u1 u2 u0).toNat)
abbrev k90:=(at' (Uj u1) (k91 u1 u2 u0))
abbrev V4:=((k90 u1 u2 u0).buses)
abbrev k88:=((V4 u1 u2 u0).length+[u3].length)
abbrev k87:=((k88 u1 u2 u3 u0)*8≤140737488355328)
abbrev k92:=((V4 u1 u2 u0).length+[u3].length≤4611686018427387904)
abbrev Ya:=((V4 u1 u2 u0)++[u3])
abbrev k94:=(ay (bL .i64) (Ya u1 u2 u3 u0))
abbrev k96:=((Uj u1).set (k91 u1 u2 u0) (⟨(Ya u1 u2 u3 u0),(k90 u1 u2 u0).sources⟩:aI))
abbrev k95:=(yC aI.ev (k96 u1 u2 u3 u0))
abbrev k97:=((Uj u1).length)
abbrev k98:=((V4 u1 u2 u0).length)
abbrev k99:=(xY (ay (bL .i64) (V4 u1 u2 u0)) (V4 u1 u2 u0).length (ay (bL .i64) [u3]))
abbrev abo:=((Ya u1 u2 u3 u0).length)
abbrev abE:=(VJ (k82 u1) (k91 u1 u2 u0) 0 (.row 3 1 (Ya u1 u2 u3 u0).length (k94 u1 u2 u3 u0)))
abbrev abT:=((k96 u1 u2 u3 u0),(VG u1 u2 u0),(k18 u3))
abbrev YD:=((0:Int)≤(Kr u2 u0)∧(Kr u2 u0)<(u1.length:Int))
abbrev Mh:=((at' u1 ((Kr u2 u0).toNat)).buses)
abbrev aac:=((Mh u1 u2 u0).length+[u3].length)
abbrev Qs:=((Mh u1 u2 u0)++[u3])
abbrev WN:=(ay (bL .i64) (Qs u1 u2 u3 u0))
abbrev Xf:=(u1.set ((Kr u2 u0).toNat) (⟨(Qs u1 u2 u3 u0),(at' u1 ((Kr u2 u0).toNat)).sources⟩:aI))
abbrev YS:=(yC aI.ev (Xf u1 u2 u3 u0))
abbrev ack:=(xY (ay (bL .i64) (Mh u1 u2 u0)) (Mh u1 u2 u0).length (ay (bL .i64) [u3]))
abbrev abZ:=(VJ (yC aI.ev u1) ((Kr u2 u0).toNat) 0 (.row 3 1 (Qs u1 u2 u3 u0).length (WN u1 u2 u3 u0)))
abbrev abr:=((Xf u1 u2 u3 u0),u2,(k18 u3))
abbrev Rt:=((0:Int)≤u7∧u7<(p.sources.length:Int))
abbrev aay:=((0:Int)≤u7∧u7<(s_.on_.length:Int))
abbrev Y5:=((gB [((at' s_.on_ u7.toNat),true)]=true→(0:Int)≤u7∧u7<(s_.badSource.length:Int)))
abbrev Yu:=((bif (at' s_.on_ u7.toNat)then(!(at' s_.badSource u7.toNat))else false),true)
abbrev Zm:=((gB [(Yu s_ u7)]=true→(0:Int)≤(at' p.sources u7.toNat).bus∧(at' p.sources u7.toNat).bus<(s_.badBus.length:Int)))
abbrev Qy:=((at' p.sources u7.toNat).bus)
abbrev MB:=((at' u5 ((Kr u4 u6).toNat)).sources)
abbrev YX:=((MB u5 u6 u4).length+[u7].length)
abbrev QE:=((MB u5 u6 u4)++[u7])
abbrev WY:=(ay (bL .i64) (QE u7 u5 u6 u4))
abbrev XU:=(u5.set ((Kr u4 u6).toNat) (⟨(at' u5 ((Kr u4 u6).toNat)).buses,(QE u7 u5 u6 u4)⟩:aI))
abbrev aaQ:=(yC aI.ev (XU u7 u5 u6 u4))
abbrev abq:=(xY (ay (bL .i64) (MB u5 u6 u4)) (MB u5 u6 u4).length (ay (bL .i64) [u7]))
abbrev aa7:=(VJ (yC aI.ev u5) ((Kr u4 u6).toNat) 1 (.row 3 1 (QE u7 u5 u6 u4).length (WY u7 u5 u6 u4)))
abbrev abA:=((XU u7 u5 u6 u4),(k18 u7))
end
theorem iN (p:aj) (s_:State):cO Tryz.prog 75 (QO s_ p) [] (fun r=>(vD (aR none 2 aI.cell r))) (fun _=>[]) (fH p s_):=
  dG tT mX Tryz.func75 (
  .rg {fr:=[(0,55),(1,56)],fz:=[56]} []<| .rg {an:=[(0, .map 0 (Bo (bL .i64) ([]:(List (Int × Int)))) (Cm (bL .i64) ([]:(List (Int × Int)))) [])],fr:=[(0,57),(2,58)]} []<| .cl 2 (yV p s_) fun r_=> .r<| .cl 0 (dH [(0,59),(1,58),(2,57)] (wW r_.1 r_.2.1 r_.2.2.1 r_.2.2.2.1 r_.2.2.2.2.1 r_.2.2.2.2.2.1 r_.2.2.2.2.2.2.1 r_.2.2.2.2.2.2.2.1 r_.2.2.2.2.2.2.2.2.1 r_.2.2.2.2.2.2.2.2.2.1 r_.2.2.2.2.2.2.2.2.2.2 (⟨([]:(List (Int × Int)))⟩:aV))) fun v0=> .rf 59 [5] [] none 0 []<| .r<| .im (.adR 7 60 129 2 (yC aI.ev ([]:List aI)))<| .rg {an:=[(0, .map 0 (Bo (bL .i64) ([]:(List (Int × Int)))) (Cm (bL .i64) ([]:(List (Int × Int)))) [])],fr:=[(0,61)]} []<| .r<| .lp (σ:=((List aI) × (List (Int × Int)) × Int)) (β:=((List aI) × (List (Int × Int)))) (([]:List aI),([]:(List (Int × Int))),0) [] [] ⟨[2,3,5,8,31],[55,57,58],fun(u1,u2,u3)=>[(7,(vO 60 false u1.length)),(32,(vI u3))],fun(u1,u2,u3)=>(k73 u1 u2)⟩ ⟨[2,3,5,8],[55,57,58],fun(u9,u4)=>[(7,(vO 60 false u9.length))],fun(u9,u4)=>(k73 u9 u4)⟩
  (fun(u1,u2,u3)=> .r<| .it (.r<| .a1 (k74 u3 s_)<| .r<| .it (.r<| .e (.next (u1,u2,(k18 u3))))
  (.cr 2 (dH [(0,57)] (gK v0 u3)) fun u0=> .r<| .rg {an:=[(2, .look (bA aZ u0 u2).isSome (Yd u2 u0))]} [.pf ⟨fK [some .i64] 1 1 u2.length (Bo (bL .i64) u2) (Cm (bL .i64) u2) [(.int .i64 u0)] [(.d (.int .i64 0))] (bA aZ u0 u2).isSome (Yd u2 u0),o7 (fun _=>rfl) (fun _ _=>rfl) u2 u0 0 rfl rfl rfl⟩]<| .r<| .it (.rg {an:=[(4, .map (VG u1 u2 u0).length (k78 u1 u2 u0) (k79 u1 u2 u0) [])]} [.pf ⟨xH [some .i64] 1 1 u2.length (Bo (bL .i64) u2) (Cm (bL .i64) u2) [(.int .i64 u0)] [(cI (u1.length:Int))] [] (VG u1 u2 u0).length (k78 u1 u2 u0) (k79 u1 u2 u0),Gh (fun _=>rfl) (fun _ _=>rfl) u2 u0 (u1.length:Int) rfl rfl⟩]<| .a2 (k80 u1) (u1.length+[(⟨([]:List Int),([]:List Int)⟩:aI)].length≤4611686018427387904)<| .rg {an:=[(2, .arr [(⟨([]:List Int),([]:List Int)⟩:aI)].length (uY 2 [nS,nS])),(3, .rows (Uj u1).length (k82 u1))],fr:=[(2,86),(3,87)]} [.pf ⟨[(⟨([]:List Int),([]:List Int)⟩:aI)].length=1,rfl⟩, .pf ⟨aK 1 2 (uY 2 [nS,nS]) (uY 2 [nS,nS]),j6 _ _ _⟩, .e (u1.length),0,1, .pf ⟨(Uj u1).length=u1.length+[(⟨([]:List Int),([]:List Int)⟩:aI)].length,List.length_append⟩, .pf ⟨Fp u1.length [(⟨([]:List Int),([]:List Int)⟩:aI)].length 2 (yC aI.ev u1) (uY 2 [nS,nS]) (k82 u1),Uy _ _ _ _ _ (by intro i hi j hj;match i,j,hi,hj with|0,0,_,_=>exact⟨rfl,_,_,_,rfl⟩|0,1,_,_=>exact⟨rfl,_,_,_,rfl⟩)⟩]<| .rg {an:=[(2, .look (k83 u1 u2 u0).isSome (k84 u1 u2 u0))]} [.pf ⟨fK [some .i64] 1 1 (VG u1 u2 u0).length (k78 u1 u2 u0) (k79 u1 u2 u0) [(.int .i64 u0)] [(.d (.int .i64 0))] (k83 u1 u2 u0).isSome (k84 u1 u2 u0),o7 (fun _=>rfl) (fun _ _=>rfl) (VG u1 u2 u0) u0 0 rfl rfl rfl⟩]<| .a3 (k86 u1 u2 u0) (k87 u1 u2 u3 u0) (k92 u1 u2 u3 u0)<| .rg {an:=[(6, .take 88),(8, .arr [u3].length (ay (bL .i64) [u3])),(9, .arr (Ya u1 u2 u3 u0).length (k94 u1 u2 u3 u0)),(12, .rows 0 (k95 u1 u2 u3 u0))],fr:=[(8,89),(9,90)]} [0, .t 0 (VT u1 u2 u0) (k97 u1), .pf ⟨[u3].length=1,rfl⟩, .pf ⟨aK 1 1 (uY 1 [(.int .i64 u3)]) (ay (bL .i64) [u3]),(by intro i hi j hj;match i,j,hi,hj with|0,0,_,_=>rfl)⟩, .e (k98 u1 u2 u0),1,2, .pf ⟨(Ya u1 u2 u3 u0).length=(V4 u1 u2 u0).length+[u3].length,List.length_append⟩, .pf ⟨aK (k88 u1 u2 u3 u0) 1 (k99 u1 u2 u3 u0) (k94 u1 u2 u3 u0),gL _ _ _ _⟩,0, .t 0 (VT u1 u2 u0) (k97 u1), .e (abo u1 u2 u3 u0), .pf ⟨Tp (Uj u1).length 2 (abE u1 u2 u3 u0) (k95 u1 u2 u3 u0),GY _ _ _ _ _ _ _ _ rfl (fun j hj=>(match j,hj with|0,_=>rfl|1,_=>rfl))⟩, .pf ⟨∀i0 j0 c0,((some ((VT u1 u2 u0).toNat,0,CV.own 88 false (V4 u1 u2 u0).length)):Option (Nat × Nat × CV))=some (i0,j0,c0)→i0=(VT u1 u2 u0).toNat∧j0=0,(fun i0 j0 c0 e=>by cases e;exact⟨rfl,rfl⟩)⟩]<| .im (.ll 87 (Uj u1) (k96 u1 u2 u3 u0))<| .r<| .en (.next (abT u1 u2 u3 u0)) [] [(87,60)])
  (.rg {an:=[(2, .look (bA aZ u0 u2).isSome (Yd u2 u0))]} [.pf ⟨fK [some .i64] 1 1 u2.length (Bo (bL .i64) u2) (Cm (bL .i64) u2) [(.int .i64 u0)] [(.d (.int .i64 0))] (bA aZ u0 u2).isSome (Yd u2 u0),o7 (fun _=>rfl) (fun _ _=>rfl) u2 u0 0 rfl rfl rfl⟩]<| .a3 (YD u1 u2 u0) ((aac u1 u2 u3 u0)*8≤140737488355328) ((Mh u1 u2 u0).length+[u3].length≤4611686018427387904)<| .rg {an:=[(6, .take 91),(8, .arr [u3].length (ay (bL .i64) [u3])),(9, .arr (Qs u1 u2 u3 u0).length (WN u1 u2 u3 u0)),(12, .rows 0 (YS u1 u2 u3 u0))],fr:=[(8,92),(9,93)]} [0, .t 0 (Kr u2 u0) u1.length, .pf ⟨[u3].length=1,rfl⟩, .pf ⟨aK 1 1 (uY 1 [(.int .i64 u3)]) (ay (bL .i64) [u3]),(by intro i hi j hj;match i,j,hi,hj with|0,0,_,_=>rfl)⟩, .e ((Mh u1 u2 u0).length),1,2, .pf ⟨(Qs u1 u2 u3 u0).length=(Mh u1 u2 u0).length+[u3].length,List.length_append⟩, .pf ⟨aK (aac u1 u2 u3 u0) 1 (ack u1 u2 u3 u0) (WN u1 u2 u3 u0),gL _ _ _ _⟩,0, .t 0 (Kr u2 u0) u1.length, .e ((Qs u1 u2 u3 u0).length), .pf ⟨Tp u1.length 2 (abZ u1 u2 u3 u0) (YS u1 u2 u3 u0),GY _ _ _ _ _ _ _ _ rfl (fun j hj=>(match j,hj with|0,_=>rfl|1,_=>rfl))⟩, .pf ⟨∀i0 j0 c0,((some ((Kr u2 u0).toNat,0,CV.own 91 false (Mh u1 u2 u0).length)):Option (Nat × Nat × CV))=some (i0,j0,c0)→i0=(Kr u2 u0).toNat∧j0=0,(fun i0 j0 c0 e=>by cases e;exact⟨rfl,rfl⟩)⟩]<| .im (.ll 60 u1 (Xf u1 u2 u3 u0))<| .r<| .e (.next (abr u1 u2 u3 u0)))))
  (.e (.done (.brk (u1,u2)))))
  (fun(u9,u4)=> .r<| .lp (σ:=((List aI) × Int)) (β:=(List aI)) (u9,0) [] [] ⟨[3,5,8,76,77],[57,58,61],fun(u5,u7)=>[(7,(vO 60 false u5.length)),(78,(vI u7))],fun(u5,u7)=>[(60,some (.rows 129 2 u5.length (yC aI.ev u5) none))]⟩ ⟨[],[],fun u8=>[(7,(vO 60 false u8.length))],fun u8=>[(60,some (.rows 129 2 u8.length (yC aI.ev u8) none))]⟩
  (fun(u5,u7)=> .r<| .it (.a1 (Rt u7 p)<| .rg {fr:=[(3,106)],fz:=[106]} []<| .a3 (aay s_ u7) (Y5 s_ u7) (Zm s_ u7 p)<| .rg {} [0,1,2]<| .it (.cr 4 (dH [(0,57)] (gK v0 (Qy u7 p))) fun u6=> .rg {an:=[(5, .look (bA aZ u6 u4).isSome (Yd u4 u6))]} [0, .pf ⟨fK [some .i64] 1 1 u4.length (Bo (bL .i64) u4) (Cm (bL .i64) u4) [(.int .i64 u6)] [(.d (.int .i64 0))] (bA aZ u6 u4).isSome (Yd u4 u6),o7 (fun _=>rfl) (fun _ _=>rfl) u4 u6 0 rfl rfl rfl⟩]<| .a3 (YD u5 u4 u6) ((YX u7 u5 u6 u4)*8≤140737488355328) ((MB u5 u6 u4).length+[u7].length≤4611686018427387904)<| .rg {an:=[(6, .take 107),(8, .arr [u7].length (ay (bL .i64) [u7])),(9, .arr (QE u7 u5 u6 u4).length (WY u7 u5 u6 u4)),(12, .rows 0 (aaQ u7 u5 u6 u4))],fr:=[(8,108),(9,109)]} [0, .t 0 (Kr u4 u6) u5.length, .pf ⟨[u7].length=1,rfl⟩, .pf ⟨aK 1 1 (uY 1 [(.int .i64 u7)]) (ay (bL .i64) [u7]),(by intro i hi j hj;match i,j,hi,hj with|0,0,_,_=>rfl)⟩, .e ((MB u5 u6 u4).length),1,2, .pf ⟨(QE u7 u5 u6 u4).length=(MB u5 u6 u4).length+[u7].length,List.length_append⟩, .pf ⟨aK (YX u7 u5 u6 u4) 1 (abq u7 u5 u6 u4) (WY u7 u5 u6 u4),gL _ _ _ _⟩,0, .t 0 (Kr u4 u6) u5.length, .e ((QE u7 u5 u6 u4).length), .pf ⟨Tp u5.length 2 (aa7 u7 u5 u6 u4) (aaQ u7 u5 u6 u4),GY _ _ _ _ _ _ _ _ rfl (fun j hj=>(match j,hj with|0,_=>rfl|1,_=>rfl))⟩, .pf ⟨∀i0 j0 c0,((some ((Kr u4 u6).toNat,1,CV.own 107 false (MB u5 u6 u4).length)):Option (Nat × Nat × CV))=some (i0,j0,c0)→i0=(Kr u4 u6).toNat∧j0=1,(fun i0 j0 c0 e=>by cases e;exact⟨rfl,rfl⟩)⟩]<| .im (.ll 60 u5 (XU u7 u5 u6 u4))<| .r<| .e (.next (abA u7 u5 u6 u4)))
  (.r<| .e (.next (u5,(k18 u7)))))
  (.e (.done (.brk u5))))
  (fun u8=> .r<| .fz [60]<| .im (.us 4 (vD (.sl none 2 u8.length (fun i j=>evD (yC aI.ev u8 i j)))) (vD (aR none 2 aI.cell u8)) (Cc.v (tY.one (kQ.d (kS.sl (.inr rfl) (fun i _ j hj=>match j,hj with|0,_=> .refl _|1,_=> .refl _))))))<| .e u8)))
section
variable (p:aj) (u0:Int) (u1:(List aI)) (u3:Int) (u2:(List Bool)) (u6:(List Bool))
abbrev TS:=((1:Int)*p.buses≤281474976710656)
abbrev UJ:=((p.buses:Int)≤9223372036854775807)
abbrev Ac:=(List.replicate p.buses.toNat (false:Bool))
abbrev J6:=(ay ah (Ac p))
abbrev UB:=((0:Int)≤u0∧u0<(u1.length:Int))
abbrev Zg:=((0:Int)≤u3∧u3<(((at' u1 u0.toNat).buses).length:Int))
abbrev Qr:=(at' ((at' u1 u0.toNat).buses) u3.toNat)
abbrev YF:=((0:Int)≤(Qr u0 u1 u3)∧(Qr u0 u1 u3)<(u2.length:Int))
abbrev Uw:=(u2.set ((Qr u0 u1 u3).toNat) (decide (0<(((at' u1 u0.toNat).sources).length:Int))))
abbrev Vz:=(ay ah (Uw u0 u1 u3 u2))
abbrev ZV:=(lJ (ay ah u2) ((Qr u0 u1 u3).toNat) 0 [(.bool (decide (0<(((at' u1 u0.toNat).sources).length:Int))))])
abbrev Y8:=((Uw u0 u1 u3 u2),(k18 u3))
abbrev QG:=(u6,(k18 u0))
end
theorem EP (p:aj) (s_:State):cO Tryz.prog 30 (QO s_ p) [] (fun r=>(.iR [(sD (aR none 1 ah r.1)),(sI r.2)])) (fun _=>[]) (gq p s_):=
  dG tT mX Tryz.func30 (
  .rg {fr:=[(0,7),(1,8)],fz:=[7,8]} []<| .cl 2 (dN p s_) fun r_=> .r<| .r<| .it (.r<| .e (([]:List Bool),r_))
  (.a3 ((0:Int)≤p.buses) (TS p) (UJ p)<| .rg {an:=[(2, .arr (Ac p).length (J6 p))],fr:=[(2,9)]} [0, .e ((p.buses:Int)),1,2, .pf ⟨(Ac p).length=p.buses.toNat,List.length_replicate⟩, .pf ⟨aK p.buses.toNat 1 (fun _ j=>[(.bool false)].getD j .nilp) (J6 p),mY _ _ _ _ _ (fun j hj=>(match j,hj with|0,_=>rfl))⟩]<| .cl 2 (iN p s_) fun u1=> .r<| .lp (σ:=((List Bool) × Int)) (β:=(List Bool)) ((Ac p),0) [] [] ⟨[23,24],[],fun(u4,u0)=>[(7,(vO 9 true u4.length)),(25,(vI u0))],fun(u4,u0)=>[(9,some (bg 4 1 ah u4))]⟩ ⟨[],[],fun u5=>[(7,(vO 9 true u5.length))],fun u5=>[(9,some (bg 4 1 ah u5))]⟩
  (fun(u4,u0)=> .r<| .it (.a1 (UB u0 u1)<| .rg {fr:=[(2,13)]} []<| .rg {fz:=[13]} []<| .lp (σ:=((List Bool) × Int)) (β:=(List Bool)) (u4,0) [] [] ⟨[9,23,24,25,30,31],[],fun(u2,u3)=>[(7,(vO 9 true u2.length)),(32,(vI u3))],fun(u2,u3)=>[(9,some (bg 4 1 ah u2))]⟩ ⟨[23,24,25],[],fun u6=>[(7,(vO 9 true u6.length))],fun u6=>[(9,some (bg 4 1 ah u6))]⟩
  (fun(u2,u3)=> .r<| .it (.a1 (Zg u0 u1 u3)<| .r<| .a1 (YF u0 u1 u3 u2)<| .rg {an:=[(7, .arr 0 (Vz u0 u1 u3 u2))]} [0, .t 0 (Qr u0 u1 u3) u2.length, .pf ⟨aK u2.length 1 (ZV u0 u1 u3 u2) (Vz u0 u1 u3 u2),aJ _ _ _ _ _ _ _ _ rfl (fun j hj=>(match j,hj with|0,_=>rfl))⟩]<| .im (.ll 9 u2 (Uw u0 u1 u3 u2))<| .r<| .e (.next (Y8 u0 u1 u3 u2)))
  (.e (.done (.brk u2))))
  (fun u6=> .r<| .e (.next (QG u0 u6))))
  (.e (.done (.brk u4))))
  (fun u5=> .rg {fz:=[9]} []<| .e (u5,0))))
theorem zk (x:Int):cO Tryz.prog 154 [(sI x)] [] (fun r=>(vB r)) (fun _=>[]) (vH x):=
  dG tT mX Tryz.func154 (
  .r<| .r<| .e (!decide (x=x)))
theorem En (x:Int) (y:Int):cO Tryz.prog 118 [(sI x),(sI y)] [] (fun r=>(vI r)) (fun _=>[]) (qW x y):=
  dG tT mX Tryz.func118 (
  .r<| .cl 1 (zk x) fun r_=> .r<| .cl 1 (zk y) fun u0=> .r<| .r<| .it (.r<| .it (.r<| .e 0)
  (.r<| .e (-1)))
  (.r<| .it (.r<| .e 1)
  (.r<| .it (.r<| .e (-1))
  (.r<| .it (.r<| .e 1)
  (.r<| .e 0)))))
theorem AP (s1:(List Int)) (s2:(List Int)):cO Tryz.prog 78 [(sD (RB s1)),(sD (RB s2))] [] (fun r=>(vI r)) (fun _=>[]) (qG s1 s2):=
  dG tT mX Tryz.func78 (
  .r<| .r<| .lp (σ:=Int) (β:=Unit) (0) [] [] ⟨[0,1,9,10],[],fun u0=>[(11,(vI u0))],fun u0=>[]⟩ ⟨[0,1],[],fun _=>[],fun _=>[]⟩
  (fun u0=> .r<| .it (.a1 (V6 s1 u0)<| .r<| .r<| .it (.r<| .e (.done (.ret 1)))
  (.a1 (V6 s2 u0)<| .r<| .cl 2 (En (at' s1 u0.toNat) (at' s2 u0.toNat)) fun r_=> .r<| .r<| .it (.r<| .e (.done (.ret r_)))
  (.r<| .e (.next (k18 u0)))))
  (.e (.done (.brk ()))))
  (fun _=> .r<| .it (.r<| .e (-1))
  (.r<| .e 0)))
theorem zo (a:aA) (b:aA):cO Tryz.prog 77 [(.agg [(cI a.e0),(cI a.e1)]),(.agg [(cI b.e0),(cI b.e1)])] [] (fun r=>(vI r)) (fun _=>[]) (jh a b):=
  dG tT mX Tryz.func77 (
  .rg {fr:=[(0,2),(1,3)],fz:=[2,3]} []<| .cl 2 ⟨fun{r_} hr_=>((Fn.VI (args:=[(sD (aR none 1 (bL .i64) [a.e0,a.e1])),(sD (aR none 1 (bL .i64) [b.e0,b.e1]))]) (args':=[(sD (.sl (some true) 1 [a.e0,a.e1].length (fun i j=>([(.int .i64 a.e0),(.int .i64 a.e1)].getD (0+(i*1+j)) .nilp)))),(sD (.sl (some true) 1 [b.e0,b.e1].length (fun i j=>([(.int .i64 b.e0),(.int .i64 b.e1)].getD (0+(i*1+j)) .nilp))))]) (hin:=[]) (hin':=[]) (AP [a.e0,a.e1] [b.e0,b.e1] hr_) ⟨tY.one (kQ.d (kS.sl (.inl rfl) (by intro i hi j hj;match i,j,hi,hj with|0,0,_,_=>exact .refl _|1,0,_,_=>exact .refl _))),tY.one (kQ.d (kS.sl (.inl rfl) (by intro i hi j hj;match i,j,hi,hj with|0,0,_,_=>exact .refl _|1,0,_,_=>exact .refl _))),trivial⟩ trivial):Fn Tryz.prog 78 [(sD (.sl (some true) 1 [a.e0,a.e1].length (fun i j=>([(.int .i64 a.e0),(.int .i64 a.e1)].getD (0+(i*1+j)) .nilp)))),(sD (.sl (some true) 1 [b.e0,b.e1].length (fun i j=>([(.int .i64 b.e0),(.int .i64 b.e1)].getD (0+(i*1+j)) .nilp))))] [] (vI r_) [])⟩ fun r_=> .r<| .e r_)
theorem qw (x y:aA):jh x y=some (if x.e0<y.e0 then -1 else if y.e0<x.e0 then 1 else if x.e1<y.e1 then -1 else if y.e1<x.e1 then 1 else 0):=by
 have hc: ∀a b:Int,qW a b=some (if a<b then -1 else if b<a then 1 else 0):=by
  intro a b
  unfold qW vH
  by_cases h:a<b<;>by_cases g:b<a<;>simp [h,g]
 obtain⟨k,hk⟩: ∃k,FUEL=k+1+1+1:=⟨1180591620717411303421,rfl⟩
 unfold jh qG
 rw [hk]
 simp only [aG,su,hc,aL,at']
 by_cases h0:x.e0<y.e0<;>by_cases g0:y.e0<x.e0<;>by_cases h1:x.e1<y.e1<;>by_cases g1:y.e1<x.e1<;>simp [h0,g0,h1,g1,IntKind.wrap_i64]
theorem xS (x y:aA):jh x y=some (bn x y):=by unfold bn;rw [qw];rfl
theorem ja (x y:aA):Go.Proofs.ltOf bn x y=true↔x.e0<y.e0∨ ¬ y.e0<x.e0∧x.e1<y.e1:=by
 unfold Go.Proofs.ltOf bn;rw [qw,decide_eq_true_iff]
 by_cases h0:x.e0<y.e0<;>by_cases g0:y.e0<x.e0<;>by_cases h1:x.e1<y.e1<;>by_cases g1:y.e1<x.e1<;>simp [h0,g0,h1,g1]
theorem yQ:Go.Sort.SWO (Go.Proofs.ltOf bn) where
 irrefl x:=by rw [←Bool.not_eq_true,ja];omega
 trans x y z h1 h2:=by rw [ja]at*;omega
 ntrans x y z h1 h2:=by rw [←Bool.not_eq_true,ja]at*;omega
theorem yT (x y:aA) (h1:(Go.Proofs.ltOf bn) x y=false) (h2:(Go.Proofs.ltOf bn) y x=false):x=y:=by
 rw [←Bool.not_eq_true,ja]at h1 h2
 obtain⟨a,b⟩:=x
 obtain⟨c,d⟩:=y
 have e1:a=c:=by simp only at h1 h2;omega
 have e2:b=d:=by simp only at h1 h2;omega
 rw [e1,e2]
theorem z8 (s:(List aA)) {r:(List aA)} (h:jg s=some r):Fn Tryz.prog 76 [(.one (.own 0 false s.length)),(sD (.fn 77 0 (bB [])))] [(0,some (.arr 117 2 s.length (ay aA.cell s)))] (.iR []) [(0,some (.arr 117 2 r.length (ay aA.cell r)))]:=
 XE QV 2 Uq SX (fun x:aA=>[.int .i64 x.e0, .int .i64 x.e1]) (fun _=>rfl) (fun x v hv=>by simp at hv;rcases hv with rfl|rfl<;>rfl) bn yQ yT (ec:=fun x=>[(cI x.e0),(cI x.e1)])
  (fun x y=>zo x y (xS x y)) (fun F w x=> ⟨rfl,rfl,trivial⟩) (enters_of Tryz.func77 (by kernel_rfl) rfl)
  (fun F w x j hj v=>match j,hj with|0,_=>Iff.rfl|1,_=>Iff.rfl) 76 rfl ⟨_,Tryz.func76,rfl,rfl⟩ s (by cases s with|nil=>(cases h;simp)|cons x xs=>exact h)
section
variable (u6:(List aA)) (u1:Int) (u2:(List aI)) (u0:Int) (u3:Int) (p:aj) (u4:(List aA))
abbrev QL:List (Nat × Option Ob):=[(138,some (bg 117 2 aA.cell u6))]
abbrev abL:=((0:Int)≤(k18 u1)∧(k18 u1)≤(((at' u2 u0.toNat).sources).length:Int))
abbrev WW:=((k18 u1).toNat)
abbrev Xe:=(((at' u2 u0.toNat).sources).drop (WW u1))
abbrev abh:=((0:Int)≤u3∧u3<((Xe u1 u2 u0).length:Int))
abbrev Lc:=(at' ((at' u2 u0.toNat).sources) u1.toNat)
abbrev ab8:=((0:Int)≤(Lc u1 u2 u0)∧(Lc u1 u2 u0)<(p.sources.length:Int))
abbrev abF:=((gB [((decide (((at' p.sources ((Lc u1 u2 u0).toNat)).sync)=0)),false)]=true→(0:Int)≤(Lc u1 u2 u0)∧(Lc u1 u2 u0)<(p.sources.length:Int)))
abbrev TF:=(at' (Xe u1 u2 u0) u3.toNat)
abbrev ab5:=((gB [((decide (((at' p.sources ((Lc u1 u2 u0).toNat)).sync)=0)),false)]=true→(0:Int)≤(TF u1 u2 u0 u3)∧(TF u1 u2 u0 u3)<(p.sources.length:Int)))
abbrev OT:=(⟨(Lc u1 u2 u0),(TF u1 u2 u0 u3)⟩:aA)
abbrev aaN:=(u4.length+[(OT u1 u2 u0 u3)].length)
abbrev abe:=((aaN u1 u2 u0 u3 u4)*16≤140737488355328)
abbrev abR:=(u4.length+[(OT u1 u2 u0 u3)].length≤4611686018427387904)
abbrev Xk:=(ay aA.cell [(OT u1 u2 u0 u3)])
abbrev Uv:=(u4++[(OT u1 u2 u0 u3)])
abbrev YI:=(ay aA.cell (Uv u1 u2 u0 u3 u4))
abbrev abj:=(uY 2 [(.int .i64 (Lc u1 u2 u0)),(.int .i64 (TF u1 u2 u0 u3))])
abbrev aco:=(xY (ay aA.cell u4) u4.length (Xk u1 u2 u0 u3))
abbrev ab1:=((Uv u1 u2 u0 u3 u4),(k18 u3))
abbrev Qb:=(u4,(k18 u3))
end
theorem BI (p:aj) (s_:State):cO Tryz.prog 32 (QO s_ p) [] (fun r=>(.iR [(sD (aR none 2 aA.cell r.1)),(sI r.2)])) (fun _=>[]) (oq p s_):=
  dG tT mX Tryz.func32 (
  .rg {fr:=[(0,134),(1,135)],fz:=[134,135]} []<| .cl 2 (dN p s_) fun r_=> .r<| .r<| .it (.r<| .e (([]:List aA),r_))
  (.r<| .cl 2 (iN p s_) fun u2=> .r<| .im (.ad 7 268 117 2 (ay aA.cell ([]:List aA)))<| .lp (σ:=((List aA) × Int)) (β:=(List aA)) (([]:List aA),0) [] [(268,138)] ⟨[2,22,23],[],fun(u6,u0)=>[(7,(vO 138 false u6.length)),(24,(vI u0))],fun(u6,u0)=>(QL u6)⟩ ⟨[],[],fun u5=>[(7,(vO 138 false u5.length))],fun u5=>(QL u5)⟩
  (fun(u6,u0)=> .r<| .it (.a1 (UB u0 u2)<| .rg {fr:=[(2,235)],fz:=[235]} []<| .r<| .lp (σ:=((List aA) × Int)) (β:=(List aA)) (u6,0) [] [] ⟨[2,9,22,23,24,29,30],[],fun(u7,u1)=>[(7,(vO 138 false u7.length)),(31,(vI u1))],fun(u7,u1)=>(QL u7)⟩ ⟨[2,22,23,24],[],fun u8=>[(7,(vO 138 false u8.length))],fun u8=>(QL u8)⟩
  (fun(u7,u1)=> .r<| .it (.a1 ((0:Int)≤u1∧u1<(((at' u2 u0.toNat).sources).length:Int))<| .r<| .a1 (abL u1 u2 u0)<| .r<| .im (.us 40 (vD (.sl none 1 (((at' u2 u0.toNat).sources).length - (WW u1)) (fun iq jq=>ay (bL .i64) ((at' u2 u0.toNat).sources) (iq+(WW u1)) jq))) (vD (aR none 1 (bL .i64) (Xe u1 u2 u0))) (Cc.v (tY.one (kQ.d (kS.slN (by simp only [List.length_set,List.length_drop,Dg]) (.inr rfl) (Wt _ _ _ _))))))<| .lp (σ:=((List aA) × Int)) (β:=(List aA)) (u7,0) [] [] ⟨[2,9,11,22,23,24,29,30,31,40,41],[],fun(u4,u3)=>[(7,(vO 138 false u4.length)),(42,(vI u3))],fun(u4,u3)=>(QL u4)⟩ ⟨[2,9,22,23,24,29,30,31],[],fun u9=>[(7,(vO 138 false u9.length))],fun u9=>(QL u9)⟩
  (fun(u4,u3)=> .r<| .it (.a1 (abh u1 u2 u0 u3)<| .r<| .a3 (ab8 u1 u2 u0 p) (abF u1 u2 u0 p) (ab5 u1 u2 u0 u3 p)<| .rg {} [0,1,2]<| .it (.a2 (abe u1 u2 u0 u3 u4) (abR u1 u2 u0 u3 u4)<| .rg {an:=[(4, .arr [(OT u1 u2 u0 u3)].length (Xk u1 u2 u0 u3)),(5, .arr (Uv u1 u2 u0 u3 u4).length (YI u1 u2 u0 u3 u4))],fr:=[(4,266),(5,267)]} [.pf ⟨[(OT u1 u2 u0 u3)].length=1,rfl⟩, .pf ⟨aK 1 2 (abj u1 u2 u0 u3) (Xk u1 u2 u0 u3),(by intro i hi j hj;match i,j,hi,hj with|0,0,_,_=>rfl|0,1,_,_=>rfl)⟩, .e (u4.length),0,1, .pf ⟨(Uv u1 u2 u0 u3 u4).length=u4.length+[(OT u1 u2 u0 u3)].length,List.length_append⟩, .pf ⟨aK (aaN u1 u2 u0 u3 u4) 2 (aco u1 u2 u0 u3 u4) (YI u1 u2 u0 u3 u4),gL _ _ _ _⟩]<| .r<| .en (.next (ab1 u1 u2 u0 u3 u4)) [] [(267,138)])
  (.r<| .e (.next (Qb u3 u4))))
  (.e (.done (.brk u4))))
  (fun u9=> .r<| .e (.next (Qb u1 u9))))
  (.e (.done (.brk u7))))
  (fun u8=> .r<| .e (.next (Qb u0 u8))))
  (.e (.done (.brk u6))))
  (fun u5=> .cl 1 (dH [(0,138)] ⟨fun h=>z8 u5 h⟩) fun v0=> .r<| .a1 (u5.length=v0.length)<| .so 7 138 false u5.length v0.length 0<| .so 77 138 false u5.length v0.length 0<| .fz [138]<| .r<| .e (v0,0))))
theorem BU (p:aj) (s_:State):cO Tryz.prog 30 (QO s_ p) [] (fun r=>(.iR [(.one (.own 0 false r.1.length)),(sI r.2)])) (fun r=>[(0,some (bg 4 1 ah r.1))]) (gq p s_):=
  dG tT mX Tryz.func30 (
  .rg {fr:=[(0,7),(1,8)],fz:=[7,8]} []<| .cl 2 (dN p s_) fun r_=> .r<| .r<| .it (.r<| .im (.ad 4 9 4 1 (ay ah ([]:List Bool)))<| .en (([]:List Bool),r_) [] [(9,0)])
  (.a3 ((0:Int)≤p.buses) (TS p) (UJ p)<| .rg {an:=[(2, .arr (Ac p).length (J6 p))],fr:=[(2,10)]} [0, .e ((p.buses:Int)),1,2, .pf ⟨(Ac p).length=p.buses.toNat,List.length_replicate⟩, .pf ⟨aK p.buses.toNat 1 (fun _ j=>[(.bool false)].getD j .nilp) (J6 p),mY _ _ _ _ _ (fun j hj=>(match j,hj with|0,_=>rfl))⟩]<| .cl 2 (iN p s_) fun u1=> .r<| .lp (σ:=((List Bool) × Int)) (β:=(List Bool)) ((Ac p),0) [] [] ⟨[23,24],[],fun(u4,u0)=>[(7,(vO 10 true u4.length)),(25,(vI u0))],fun(u4,u0)=>[(10,some (bg 4 1 ah u4))]⟩ ⟨[],[],fun u5=>[(7,(vO 10 true u5.length))],fun u5=>[(10,some (bg 4 1 ah u5))]⟩
  (fun(u4,u0)=> .r<| .it (.a1 (UB u0 u1)<| .rg {fr:=[(2,14)]} []<| .rg {fz:=[14]} []<| .lp (σ:=((List Bool) × Int)) (β:=(List Bool)) (u4,0) [] [] ⟨[9,23,24,25,30,31],[],fun(u2,u3)=>[(7,(vO 10 true u2.length)),(32,(vI u3))],fun(u2,u3)=>[(10,some (bg 4 1 ah u2))]⟩ ⟨[23,24,25],[],fun u6=>[(7,(vO 10 true u6.length))],fun u6=>[(10,some (bg 4 1 ah u6))]⟩
  (fun(u2,u3)=> .r<| .it (.a1 (Zg u0 u1 u3)<| .r<| .a1 (YF u0 u1 u3 u2)<| .rg {an:=[(7, .arr 0 (Vz u0 u1 u3 u2))]} [0, .t 0 (Qr u0 u1 u3) u2.length, .pf ⟨aK u2.length 1 (ZV u0 u1 u3 u2) (Vz u0 u1 u3 u2),aJ _ _ _ _ _ _ _ _ rfl (fun j hj=>(match j,hj with|0,_=>rfl))⟩]<| .im (.ll 10 u2 (Uw u0 u1 u3 u2))<| .r<| .e (.next (Y8 u0 u1 u3 u2)))
  (.e (.done (.brk u2))))
  (fun u6=> .r<| .e (.next (QG u0 u6))))
  (.e (.done (.brk u4))))
  (fun u5=> .r<| .en (u5,0) [] [(10,0)])))
section
variable (p:aj) (u0:Int) (r_:((List Bool) × Int)) (u1:(List aX))
abbrev Du:=((at' p.racks u0.toNat).feeds)
abbrev Ym:List DV:=[(.int .i64 ((Du p u0).e0))]
abbrev Um:List CV:=[(cI ((Du p u0).e0)),(cI ((Du p u0).e1))]
abbrev acg:=((gB [((decide (0≤((Du p u0).e0))),true)]=true→(0:Int)≤(Du p u0).e0∧(Du p u0).e0<(r_.1.length:Int)))
abbrev Zx:List DV:=[(.int .i64 ((Du p u0).e1))]
abbrev acu:=((gB [((decide (0≤((Du p u0).e1))),true)]=true→(0:Int)≤(Du p u0).e1∧(Du p u0).e1<(r_.1.length:Int)))
abbrev Yq:=(bif (decide (0≤((Du p u0).e0)))then(at' r_.1 (((Du p u0).e0).toNat))else false)
abbrev aap:=(bif (decide (0≤((Du p u0).e1)))then(at' r_.1 (((Du p u0).e1).toNat))else false)
abbrev NT:=(⟨(Yq p u0 r_),(aap p u0 r_)⟩:aX)
abbrev YC:=(u1.length+[(NT p u0 r_)].length)
abbrev abU:=((YC p u0 r_ u1)*2≤140737488355328)
abbrev abI:=(u1.length+[(NT p u0 r_)].length≤4611686018427387904)
abbrev XQ:=(ay aX.cell [(NT p u0 r_)])
abbrev U8:=(u1++[(NT p u0 r_)])
abbrev ZR:=(ay aX.cell (U8 p u0 r_ u1))
abbrev abw:=(uY 2 [(.bool (Yq p u0 r_)),(.bool (aap p u0 r_))])
abbrev abW:=(xY (ay aX.cell u1) u1.length (XQ p u0 r_))
abbrev abO:=((U8 p u0 r_ u1),(k18 u0))
end
theorem Dj (p:aj) (s_:State):cO Tryz.prog 31 (QO s_ p) [] (fun r=>(.iR [(.one (.own 0 false r.1.length)),(sI r.2)])) (fun r=>[(0,some (bg 78 2 aX.cell r.1))]) (vE p s_):=
  dG tT mX Tryz.func31 (
  .rg {fr:=[(0,19),(1,20)],fz:=[20]} []<| .cl 2 (dH [(0,21)] (BU p s_)) fun r_=> .rg {fz:=[21]} []<| .r<| .it (.r<| .im (.ad 4 22 78 2 (ay aX.cell ([]:List aX)))<| .en (([]:List aX),r_.2) [] [(22,0)])
  (.r<| .r<| .im (.ad 8 39 78 2 (ay aX.cell ([]:List aX)))<| .lp (σ:=((List aX) × Int)) (β:=(List aX)) (([]:List aX),0) [] [(39,26)] ⟨[6,24,25],[],fun(u1,u0)=>[(8,(vO 26 false u1.length)),(26,(vI u0))],fun(u1,u0)=>[(26,some (bg 78 2 aX.cell u1))]⟩ ⟨[],[],fun u2=>[(8,(vO 26 false u2.length))],fun u2=>[(26,some (bg 78 2 aX.cell u2))]⟩
  (fun(u1,u0)=> .r<| .it (.a1 ((0:Int)≤u0∧u0<(p.racks.length:Int))<| .rg {fr:=[(2,35)],fz:=[35]} []<| .rg {fr:=[(0,36)]} []<| .r<| .ul 11<| .r<| .t<| .rg {an:=[(1, .vals (Ym p u0))]} [.pf ⟨(0:Int)≤0∧(0:Int)<(2:Nat),(by decide)⟩, .pf ⟨0*1+1≤(Um p u0).length,Nat.le_of_ble_eq_true rfl⟩, .pf ⟨((Um p u0).drop (0*1)).take 1=(Ym p u0).map .d,rfl⟩]<| .a1 (acg p u0 r_)<| .rg {} [0, .pf ⟨(0:Int)≤0∧(0:Int)<(2:Nat),(by decide)⟩]<| .r<| .im (.dp [6,8,11,24,25,26,31,32])<| .r<| .t<| .rg {an:=[(1, .vals (Zx p u0))]} [.pf ⟨(0:Int)≤1∧(1:Int)<(2:Nat),(by decide)⟩, .pf ⟨1*1+1≤(Um p u0).length,Nat.le_of_ble_eq_true rfl⟩, .pf ⟨((Um p u0).drop (1*1)).take 1=(Zx p u0).map .d,rfl⟩]<| .a1 (acu p u0 r_)<| .rg {} [0, .pf ⟨(0:Int)≤1∧(1:Int)<(2:Nat),(by decide)⟩]<| .r<| .im (.dp [6,8,11,24,25,26,31,32])<| .r<| .f<| .a2 (abU p u0 r_ u1) (abI p u0 r_ u1)<| .rg {an:=[(2, .arr [(NT p u0 r_)].length (XQ p u0 r_)),(3, .arr (U8 p u0 r_ u1).length (ZR p u0 r_ u1))],fr:=[(2,37),(3,38)]} [.pf ⟨[(NT p u0 r_)].length=1,rfl⟩, .pf ⟨aK 1 2 (abw p u0 r_) (XQ p u0 r_),(by intro i hi j hj;match i,j,hi,hj with|0,0,_,_=>rfl|0,1,_,_=>rfl)⟩, .e (u1.length),0,1, .pf ⟨(U8 p u0 r_ u1).length=u1.length+[(NT p u0 r_)].length,List.length_append⟩, .pf ⟨aK (YC p u0 r_ u1) 2 (abW p u0 r_ u1) (ZR p u0 r_ u1),gL _ _ _ _⟩]<| .r<| .en (.next (abO p u0 r_ u1)) [] [(38,26)])
  (.e (.done (.brk u1))))
  (fun u2=> .r<| .en (u2,0) [] [(26,0)])))
theorem Cg (r_:Int) (x1:(List aX)):cO Tryz.prog 101 [(sI r_),(sD (DW [(aR none 2 aX.cell x1)] 0))] [] (fun r=>(vB r)) (fun _=>[]) (rT r_ x1):=
  dG tT mX Tryz.func101 (
  .r<| .a2 ((0:Int)≤r_∧r_<(x1.length:Int)) ((gB [((!((at' x1 r_.toNat).e0)),true)]=true→(0:Int)≤r_∧r_<(x1.length:Int)))<| .rg {} [0, .pf ⟨(0:Int)≤0∧(0:Int)<(2:Nat),(by decide)⟩,1, .pf ⟨(0:Int)≤1∧(1:Int)<(2:Nat),(by decide)⟩]<| .e (bif (!((at' x1 r_.toNat).e0))then(!((at' x1 r_.toNat).e1))else false))
section
variable (s_:(List Int)) (f_:(List aX))
abbrev Yg:List SV:=[(sD (RB s_)),(sD (.fn 101 1 (bB [(DW [(aR none 2 aX.cell f_)] 0)])))]
end
theorem sU (s_:(List Int)) (f_:(List aX)):cO Tryz.prog 132 (Yg s_ f_) [] (fun r=>(vI r)) (fun _=>[]) (jA s_ f_):=
  dG tT mX Tryz.func132 (
  .r<| .r<| .lp (σ:=Int) (β:=Unit) (0) [] [] ⟨[0,1,7],[],fun t8=>[(8,(vI t8))],fun t8=>[]⟩ ⟨[],[],fun _=>[],fun _=>[]⟩
  (fun t8=> .r<| .it (.r<| .cl 5 (Cg (at' s_ t8.toNat) f_) fun r_=> .a1 (V6 s_ t8)<| .rg {} [0,1]<| .it (.r<| .e (.done (.ret t8)))
  (.r<| .e (.next (k18 t8))))
  (.e (.done (.brk ()))))
  (fun _=> .r<| .e (-1)))
theorem rz (s_:(List Int)) (f_:(List aX)):cO Tryz.prog 97 (Yg s_ f_) [] (fun r=>(vB r)) (fun _=>[]) (fC s_ f_):=
  dG tT mX Tryz.func97 (
  .r<| .cl 2 (sU s_ f_) fun r_=> .r<| .e (decide (0≤r_)))
theorem CR (s_:(List Int)) (v_:Int):cO Tryz.prog 171 (k48 s_ v_) [] (fun r=>(vI r)) (fun _=>[]) (uH s_ v_):=
  dG tT mX Tryz.func171 (
  .r<| .r<| .lp (σ:=Int) (β:=Unit) (0) [] [] ⟨[0,1,7],[],fun t8=>[(8,(vI t8))],fun t8=>[]⟩ ⟨[],[],fun _=>[],fun _=>[]⟩
  (fun t8=> .r<| .it (.r<| .a1 (V6 s_ t8)<| .r<| .it (.r<| .e (.done (.ret t8)))
  (.r<| .e (.next (k18 t8))))
  (.e (.done (.brk ()))))
  (fun _=> .r<| .e (-1)))
theorem rE (s_:(List Int)) (v_:Int):cO Tryz.prog 133 (k48 s_ v_) [] (fun r=>(vB r)) (fun _=>[]) (jk s_ v_):=
  dG tT mX Tryz.func133 (
  .r<| .cl 2 (CR s_ v_) fun r_=> .r<| .e (decide (0≤r_)))
section
variable (p:aj) (s_:State) (t:Task) (b:Int) (u1:Int) (u0:Int)
abbrev aan:List SV:=[(.agg (k1 p)),(.agg (AB s_)),(.agg (k2 t)),(sI b)]
abbrev Yz:=((0:Int)≤b∧b<(s_.earthed.length:Int))
abbrev ZO:=((gB [((decide ((Qy u1 p)=b)),true)]=true→(0:Int)≤u1∧u1<(s_.on_.length:Int)))
abbrev Cw:=((at' p.links u0.toNat).a)
abbrev F4:=((at' p.links u0.toNat).b)
abbrev aby:=(IntKind.wrap .i64 ((IntKind.wrap .i64 ((Cw p u0)+(F4 p u0))) - b))
abbrev X3:=((bif (decide (((at' p.links u0.toNat).kind)=1))then true else(at' s_.closed u0.toNat)),false)
end
theorem EQ (p:aj) (s_:State) (t:Task) (b:Int):cO Tryz.prog 103 (aan p s_ t b) [] (fun r=>(vB r)) (fun _=>[]) (sP p s_ t b):=
  dG tT mX Tryz.func103 (
  .rg {fr:=[(0,11),(1,12),(2,13)],fz:=[12,13]} []<| .a1 (Yz s_ b)<| .r<| .it (.r<| .e false)
  (.r<| .lp (σ:=Int) (β:=Unit) (0) [] [] ⟨[3,4,5,6,20,21],[11],fun u1=>[(22,(vI u1))],fun u1=>[]⟩ ⟨[3,4,5,6],[11],fun _=>[],fun _=>[]⟩
  (fun u1=> .r<| .it (.a1 (Rt u1 p)<| .rg {fr:=[(3,17)],fz:=[17]} []<| .a1 (ZO p s_ b u1)<| .r<| .it (.r<| .e (.done (.ret false)))
  (.r<| .e (.next (k18 u1))))
  (.e (.done (.brk ()))))
  (fun _=> .r<| .lp (σ:=Int) (β:=Unit) (0) [] [] ⟨[3,5,6,40,41],[],fun u0=>[(42,(vI u0))],fun u0=>[]⟩ ⟨[],[],fun _=>[],fun _=>[]⟩
  (fun u0=> .r<| .it (.a1 (UM p u0)<| .rg {fr:=[(3,21)],fz:=[21]} []<| .cg 20 [((bif (!decide ((Cw p u0)=b))then(!decide ((F4 p u0)=b))else false),false)] (rE t.crew (aby p b u0)) fun r_=> .r<| .it (.r<| .e (.next (k18 u0)))
  (.a2 ((gB [((decide (((at' p.links u0.toNat).kind)=1)),false)]=true→(0:Int)≤u0∧u0<(s_.closed.length:Int))) ((gB [(X3 p s_ u0)]=true→(0:Int)≤u0∧u0<(s_.locked.length:Int)))<| .rg {} [0,1]<| .it (.r<| .e (.done (.ret false)))
  (.r<| .e (.next (k18 u0)))))
  (.e (.done (.brk ()))))
  (fun _=> .r<| .e true))))
section
variable (x3:(List Int)) (u9:(List Int)) (v0:(List af)) (v1:(List af)) (x2:(List Bool)) (u3:(List Bool)) (u4:(List Bool)) (u5:(List Bool)) (u6:(List Bool)) (u7:(List Bool)) (u8:(List Bool))
abbrev Zp:DV:=(DW [(RB x3),(RB u9),(Ns v0),(Ns v1)] 0)
abbrev qg:=(⟨x2,u3,u4,u5,u6,u7,u8⟩:State)
end
theorem Bw (b:Int) (x1:Int) (u0:(List Source)) (u1:(List Link)) (u2:(List aN)) (x2:(List Bool)) (u3:(List Bool)) (u4:(List Bool)) (u5:(List Bool)) (u6:(List Bool)) (u7:(List Bool)) (u8:(List Bool)) (x3:(List Int)) (u9:(List Int)) (v0:(List af)) (v1:(List af)):cO Tryz.prog 102 [(sI b),(sD (k8 u0 x1 u1 u2)),(sD (X0 x2 u3 u4 u5 u6 u7 u8)),(sD (Zp x3 u9 v0 v1))] [] (fun r=>(vB r)) (fun _=>[]) (rM b x1 u0 u1 u2 x2 u3 u4 u5 u6 u7 u8 x3 u9 v0 v1):=
  dG tT mX Tryz.func102 (
  .r<| .cl 4 (EQ (⟨x1,u0,u1,u2⟩:aj) (qg x2 u3 u4 u5 u6 u7 u8) (⟨x3,u9,v0,v1⟩:Task) b) fun r_=> .r<| .e (!r_))
section
variable (s_:(List Int)) (f_:Int) (u0:(List Source)) (u1:(List Link)) (u2:(List aN)) (u3:(List Bool)) (u4:(List Bool)) (u5:(List Bool)) (u6:(List Bool)) (u7:(List Bool)) (u8:(List Bool)) (u9:(List Bool)) (v0:(List Int)) (v1:(List Int)) (v2:(List af)) (v3:(List af))
abbrev Yx:List SV:=[(sD (RB s_)),(sD (.fn 102 3 (bB [(k8 u0 f_ u1 u2),(X0 u3 u4 u5 u6 u7 u8 u9),(Zp v0 v1 v2 v3)])))]
end
theorem sW (s_:(List Int)) (f_:Int) (u0:(List Source)) (u1:(List Link)) (u2:(List aN)) (u3:(List Bool)) (u4:(List Bool)) (u5:(List Bool)) (u6:(List Bool)) (u7:(List Bool)) (u8:(List Bool)) (u9:(List Bool)) (v0:(List Int)) (v1:(List Int)) (v2:(List af)) (v3:(List af)):cO Tryz.prog 132 (Yx s_ f_ u0 u1 u2 u3 u4 u5 u6 u7 u8 u9 v0 v1 v2 v3) [] (fun r=>(vI r)) (fun _=>[]) (jH s_ f_ u0 u1 u2 u3 u4 u5 u6 u7 u8 u9 v0 v1 v2 v3):=
  dG tT mX Tryz.func132 (
  .r<| .r<| .lp (σ:=Int) (β:=Unit) (0) [] [] ⟨[0,1,7],[],fun t8=>[(8,(vI t8))],fun t8=>[]⟩ ⟨[],[],fun _=>[],fun _=>[]⟩
  (fun t8=> .r<| .it (.r<| .cl 5 (Bw (at' s_ t8.toNat) f_ u0 u1 u2 u3 u4 u5 u6 u7 u8 u9 v0 v1 v2 v3) fun r_=> .a1 (V6 s_ t8)<| .rg {} [0,1]<| .it (.r<| .e (.done (.ret t8)))
  (.r<| .e (.next (k18 t8))))
  (.e (.done (.brk ()))))
  (fun _=> .r<| .e (-1)))
theorem rD (s_:(List Int)) (f_:Int) (u0:(List Source)) (u1:(List Link)) (u2:(List aN)) (u3:(List Bool)) (u4:(List Bool)) (u5:(List Bool)) (u6:(List Bool)) (u7:(List Bool)) (u8:(List Bool)) (u9:(List Bool)) (v0:(List Int)) (v1:(List Int)) (v2:(List af)) (v3:(List af)):cO Tryz.prog 97 (Yx s_ f_ u0 u1 u2 u3 u4 u5 u6 u7 u8 u9 v0 v1 v2 v3) [] (fun r=>(vB r)) (fun _=>[]) (fw s_ f_ u0 u1 u2 u3 u4 u5 u6 u7 u8 u9 v0 v1 v2 v3):=
  dG tT mX Tryz.func97 (
  .r<| .cl 2 (sW s_ f_ u0 u1 u2 u3 u4 u5 u6 u7 u8 u9 v0 v1 v2 v3) fun r_=> .r<| .e (decide (0≤r_)))
section
variable (p:aj) (s_:State) (t:Task)
abbrev X5:List SV:=[(.agg (k1 p)),(.agg (AB s_)),(.agg (k2 t))]
end
theorem wS (p:aj) (s_:State) (t:Task):cO Tryz.prog 64 (X5 p s_ t) [] (fun r=>(vI r)) (fun _=>[]) (nV p s_ t):=
  dG tT mX Tryz.func64 (
  .rg {fr:=[(0,5),(1,6),(2,7)],fz:=[5,6,7]} []<| .cl 2 (EP p s_) fun r_=> .r<| .r<| .lp (σ:=Int) (β:=Unit) (0) [] [] ⟨[3,4,5,21,22],[],fun u0=>[(23,(vI u0))],fun u0=>[]⟩ ⟨[3,4,5],[],fun _=>[],fun _=>[]⟩
  (fun u0=> .r<| .it (.a1 ((0:Int)≤u0∧u0<(r_.1.length:Int))<| .r<| .a1 ((gB [((at' r_.1 u0.toNat),true)]=true→(0:Int)≤u0∧u0<(s_.earthed.length:Int)))<| .r<| .it (.r<| .e (.done (.ret 40)))
  (.r<| .e (.next (k18 u0))))
  (.e (.done (.brk ()))))
  (fun _=> .cl 2 (BI p s_) fun u2=> .r<| .r<| .it (.r<| .e 41)
  (.cl 2 (dH [(0,8)] (Dj p s_)) fun u1=> .rg {fr:=[(6,9)],fz:=[8]} []<| .fz [9]<| .cl 3 (rz t.fed u1.1) fun u3=> .r<| .it (.r<| .e 42)
  (.cl 3 (rD t.crew p.buses p.sources p.links p.racks s_.closed s_.locked s_.badLink s_.on_ s_.badSource s_.earthed s_.badBus t.fed t.crew t.allowed t.goal) fun u4=> .r<| .it (.r<| .e 45)
  (.r<| .e 0)))))
theorem iB (p:aj) (s_:State) (t:Task):cO Tryz.prog 23 (X5 p s_ t) [] (fun r=>(vI r)) (fun _=>[]) (fq p s_ t):=
  dG tT mX Tryz.func23 (
  .rg {fr:=[(0,3),(1,4),(2,5)],fz:=[3,4,5]} []<| .cl 2 (dN p s_) fun r_=> .r<| .r<| .it (.r<| .e r_)
  (.cl 2 (Cn p t) fun u1=> .r<| .it (.r<| .e 1)
  (.cl 3 (wS p s_ t) fun u0=> .r<| .e u0)))
section
variable (s_:State)
abbrev Uf:List SV:=[(.agg (AB s_))]
abbrev Xv:=(Ie 280 (List.replicate 280 false) 0 s_.closed (Nat.min s_.closed.length 280))
abbrev YA:=(ay ah (Xv s_))
abbrev Xc:=(Ie 280 (Xv s_) 40 s_.locked (Nat.min s_.locked.length 240))
abbrev ZE:=(ay ah (Xc s_))
abbrev WR:=(Ie 280 (Xc s_) 80 s_.badLink (Nat.min s_.badLink.length 200))
abbrev ZU:=(ay ah (WR s_))
abbrev WJ:=(Ie 280 (WR s_) 120 s_.on_ (Nat.min s_.on_.length 160))
abbrev Zy:=(ay ah (WJ s_))
abbrev WV:=(Ie 280 (WJ s_) 160 s_.badSource (Nat.min s_.badSource.length 120))
abbrev YU:=(ay ah (WV s_))
abbrev Xu:=(Ie 280 (WV s_) 200 s_.earthed (Nat.min s_.earthed.length 80))
abbrev aaM:=(ay ah (Xu s_))
abbrev aae:=(Ie 280 (Xu s_) 240 s_.badBus (Nat.min s_.badBus.length 40))
end
theorem qP (s_:State):cO Tryz.prog 61 (Uf s_) [] (fun r=>(.v (.agg (acr 280 r)))) (fun _=>[]) (nZ s_):=
  dG tT mX Tryz.func61 (
  .rg {fr:=[(0,10),(1,11)],fz:=[10]} []<| .rg {an:=[(0, .arr 280 (ay ah (List.replicate 280 false)))],fr:=[(0,12)]} [.e (280), .pf ⟨aK 280 1 (fun i _=>(List.replicate 280 (DV.bool false)).getD i .nilp) (ay ah (List.replicate 280 false)),Xm 280⟩]<| .r<| .ul 11<| .r<| .t<| .rg {an:=[(1, .vals [(aR none 1 ah s_.closed)])]} [.pf ⟨(0:Int)≤0∧(0:Int)<(7:Nat),(by decide)⟩, .pf ⟨0*1+1≤(AB s_).length,Nat.le_of_ble_eq_true rfl⟩, .pf ⟨((AB s_).drop (0*1)).take 1=[(aR none 1 ah s_.closed)].map .d,rfl⟩]<| .rg {an:=[(4, .take 12)],fr:=[(2,13)]} [.e (280), .pf ⟨(0:Int)≤(0:Int)∧(0:Int)<(280:Nat),(by decide)⟩, .e (280)]<| .im (.uh 12 (some (.arr 115 1 280 (BD (ay ah (List.replicate 280 false)) 0 (ay ah s_.closed) (Nat.min s_.closed.length 280)))) (some (.arr 115 1 280 (YA s_))) (vL (Nz 280 (List.replicate 280 false) 0 s_.closed (Nat.min s_.closed.length 280))))<| .r<| .im (.dp [2,3,20,21])<| .r<| .t<| .rg {an:=[(1, .vals [(XD s_)])]} [.pf ⟨(0:Int)≤1∧(1:Int)<(7:Nat),(by decide)⟩, .pf ⟨1*1+1≤(AB s_).length,Nat.le_of_ble_eq_true rfl⟩, .pf ⟨((AB s_).drop (1*1)).take 1=[(XD s_)].map .d,rfl⟩]<| .rg {an:=[(4, .take 12)],fr:=[(2,14)]} [.e (280), .pf ⟨(0:Int)≤(40:Int)∧(40:Int)<(280:Nat),(by decide)⟩, .e (240)]<| .im (.uh 12 (some (.arr 115 1 280 (BD (YA s_) 40 (ay ah s_.locked) (Nat.min s_.locked.length 240)))) (some (.arr 115 1 280 (ZE s_))) (vL (Nz 280 (Xv s_) 40 s_.locked (Nat.min s_.locked.length 240))))<| .r<| .im (.dp [2,3,20,21])<| .r<| .t<| .rg {an:=[(1, .vals [(XI s_)])]} [.pf ⟨(0:Int)≤2∧(2:Int)<(7:Nat),(by decide)⟩, .pf ⟨2*1+1≤(AB s_).length,Nat.le_of_ble_eq_true rfl⟩, .pf ⟨((AB s_).drop (2*1)).take 1=[(XI s_)].map .d,rfl⟩]<| .rg {an:=[(4, .take 12)],fr:=[(2,15)]} [.e (280), .pf ⟨(0:Int)≤(80:Int)∧(80:Int)<(280:Nat),(by decide)⟩, .e (200)]<| .im (.uh 12 (some (.arr 115 1 280 (BD (ZE s_) 80 (ay ah s_.badLink) (Nat.min s_.badLink.length 200)))) (some (.arr 115 1 280 (ZU s_))) (vL (Nz 280 (Xc s_) 80 s_.badLink (Nat.min s_.badLink.length 200))))<| .r<| .im (.dp [2,3,20,21])<| .r<| .t<| .rg {an:=[(1, .vals [(Wv s_)])]} [.pf ⟨(0:Int)≤3∧(3:Int)<(7:Nat),(by decide)⟩, .pf ⟨3*1+1≤(AB s_).length,Nat.le_of_ble_eq_true rfl⟩, .pf ⟨((AB s_).drop (3*1)).take 1=[(Wv s_)].map .d,rfl⟩]<| .rg {an:=[(4, .take 12)],fr:=[(2,16)]} [.e (280), .pf ⟨(0:Int)≤(120:Int)∧(120:Int)<(280:Nat),(by decide)⟩, .e (160)]<| .im (.uh 12 (some (.arr 115 1 280 (BD (ZU s_) 120 (ay ah s_.on_) (Nat.min s_.on_.length 160)))) (some (.arr 115 1 280 (Zy s_))) (vL (Nz 280 (WR s_) 120 s_.on_ (Nat.min s_.on_.length 160))))<| .r<| .im (.dp [2,3,20,21])<| .r<| .t<| .rg {an:=[(1, .vals [(Xa s_)])]} [.pf ⟨(0:Int)≤4∧(4:Int)<(7:Nat),(by decide)⟩, .pf ⟨4*1+1≤(AB s_).length,Nat.le_of_ble_eq_true rfl⟩, .pf ⟨((AB s_).drop (4*1)).take 1=[(Xa s_)].map .d,rfl⟩]<| .rg {an:=[(4, .take 12)],fr:=[(2,17)]} [.e (280), .pf ⟨(0:Int)≤(160:Int)∧(160:Int)<(280:Nat),(by decide)⟩, .e (120)]<| .im (.uh 12 (some (.arr 115 1 280 (BD (Zy s_) 160 (ay ah s_.badSource) (Nat.min s_.badSource.length 120)))) (some (.arr 115 1 280 (YU s_))) (vL (Nz 280 (WJ s_) 160 s_.badSource (Nat.min s_.badSource.length 120))))<| .r<| .im (.dp [2,3,20,21])<| .r<| .t<| .rg {an:=[(1, .vals [(XB s_)])]} [.pf ⟨(0:Int)≤5∧(5:Int)<(7:Nat),(by decide)⟩, .pf ⟨5*1+1≤(AB s_).length,Nat.le_of_ble_eq_true rfl⟩, .pf ⟨((AB s_).drop (5*1)).take 1=[(XB s_)].map .d,rfl⟩]<| .rg {an:=[(4, .take 12)],fr:=[(2,18)]} [.e (280), .pf ⟨(0:Int)≤(200:Int)∧(200:Int)<(280:Nat),(by decide)⟩, .e (80)]<| .im (.uh 12 (some (.arr 115 1 280 (BD (YU s_) 200 (ay ah s_.earthed) (Nat.min s_.earthed.length 80)))) (some (.arr 115 1 280 (aaM s_))) (vL (Nz 280 (WV s_) 200 s_.earthed (Nat.min s_.earthed.length 80))))<| .r<| .im (.dp [2,3,20,21])<| .r<| .t<| .rg {an:=[(1, .vals [(Xd s_)])]} [.pf ⟨(0:Int)≤6∧(6:Int)<(7:Nat),(by decide)⟩, .pf ⟨6*1+1≤(AB s_).length,Nat.le_of_ble_eq_true rfl⟩, .pf ⟨((AB s_).drop (6*1)).take 1=[(Xd s_)].map .d,rfl⟩]<| .rg {an:=[(4, .take 12)],fr:=[(2,19)]} [.e (280), .pf ⟨(0:Int)≤(240:Int)∧(240:Int)<(280:Nat),(by decide)⟩, .e (40)]<| .im (.uh 12 (some (.arr 115 1 280 (BD (aaM s_) 240 (ay ah s_.badBus) (Nat.min s_.badBus.length 40)))) (some (.arr 115 1 280 (ay ah (aae s_)))) (vL (Nz 280 (Xu s_) 240 s_.badBus (Nat.min s_.badBus.length 40))))<| .r<| .im (.dp [2,3,20,21])<| .r<| .f<| .rg {fz:=[11]} [.pf ⟨0+280≤280,(by decide)⟩, .pf ⟨1≤280,(by decide)⟩]<| .e (aae s_))
theorem vN (s_:(List Bool)) (u0:Bool):cO Tryz.prog 91 [(sD (aR (some u0) 1 ah s_))] [] (fun r=>(vD (aR none 1 ah r))) (fun _=>[]) (p8 s_ u0):=
  dG tT mX Tryz.func91 (
  .r<| .r<| .it (.r<| .e ([]:List Bool))
  (.a2 ((([]:List Bool).length+s_.length)*1≤140737488355328) (([]:List Bool).length+s_.length≤4611686018427387904)<| .rg {an:=[(0, .arr ([]:List Bool).length (ay ah ([]:List Bool))),(2, .arr (([]:List Bool)++s_).length (ay ah (([]:List Bool)++s_)))],fr:=[(0,2),(2,3)],fz:=[3]} [.pf ⟨([]:List Bool).length=0,rfl⟩, .pf ⟨aK 0 1 (uY 1 []) (ay ah ([]:List Bool)),(fun i hi=>absurd hi (Nat.not_lt_zero i))⟩, .e (([]:List Bool).length),0,1, .pf ⟨(([]:List Bool)++s_).length=([]:List Bool).length+s_.length,List.length_append⟩, .pf ⟨aK (([]:List Bool).length+s_.length) 1 (xY (ay ah ([]:List Bool)) ([]:List Bool).length (ay ah s_)) (ay ah (([]:List Bool)++s_)),gL _ _ _ _⟩]<| .e (([]:List Bool)++s_)))
theorem eG (s:(List Bool)) {r:(List Bool)} (h:au s=some r):Fn Tryz.prog 91 [(sD (aR none 1 ah s))] [] (vD (aR none 1 ah r)) []:=by
 refine Fn.nn (vN s true h) fun hl=> ?_
 have hs:s=[]:=List.eq_nil_of_length_eq_zero hl
 subst hs
 exact vN [] false (by rw [←h];kernel_rfl)
theorem vK (s_:State):cO Tryz.prog 53 (Uf s_) [] (fun r=>(.v (.agg [(.d (aR none 1 ah r.closed)),(.d (aR none 1 ah r.locked)),(.d (aR none 1 ah r.badLink)),(.d (aR none 1 ah r.on_)),(.d (aR none 1 ah r.badSource)),(.d (aR none 1 ah r.earthed)),(.d (aR none 1 ah r.badBus))]))) (fun _=>[]) (jZ s_):=
  dG tT mX Tryz.func53 (
  .rg {fr:=[(0,3),(1,4)]} []<| .rg {an:=[(7, .cells)],fr:=[(7,5)]} []<| .ul 11<| .r<| .t<| .a1 ((0:Int)≤0∧0<(7:Int))<| .r<| .cl 4 ⟨fun h=>eG s_.closed h⟩ fun r_=> .r<| .r<| .im (.dp [1,2,12,13,14])<| .r<| .t<| .a1 ((0:Int)≤1∧1<(7:Int))<| .r<| .cl 4 ⟨fun h=>eG s_.locked h⟩ fun u0=> .r<| .r<| .im (.dp [1,2,12,13,14])<| .r<| .t<| .a1 ((0:Int)≤2∧2<(7:Int))<| .r<| .cl 4 ⟨fun h=>eG s_.badLink h⟩ fun u1=> .r<| .r<| .im (.dp [1,2,12,13,14])<| .r<| .t<| .a1 ((0:Int)≤3∧3<(7:Int))<| .r<| .cl 4 ⟨fun h=>eG s_.on_ h⟩ fun u2=> .r<| .r<| .im (.dp [1,2,12,13,14])<| .r<| .t<| .a1 ((0:Int)≤4∧4<(7:Int))<| .r<| .cl 4 ⟨fun h=>eG s_.badSource h⟩ fun u3=> .r<| .r<| .im (.dp [1,2,12,13,14])<| .r<| .t<| .a1 ((0:Int)≤5∧5<(7:Int))<| .r<| .cl 4 ⟨fun h=>eG s_.earthed h⟩ fun u4=> .r<| .r<| .im (.dp [1,2,12,13,14])<| .r<| .t<| .a1 ((0:Int)≤6∧6<(7:Int))<| .r<| .cl 4 ⟨fun h=>eG s_.badBus h⟩ fun u5=> .r<| .r<| .im (.dp [1,2,12,13,14])<| .r<| .f<| .rg {fz:=[4]} []<| .e (qg r_ u0 u1 u2 u3 u4 u5))
end
end Sg
