import Derived.Test.YtboodeobmgjjpaaGreatSaGm
import Derived.Test.YtboodeobmgjjpaaGreatProg
import Derived.Test.YtboodeobmgjjpaaGreatSaLd
set_option linter.all false
namespace Sg
open Go Go.Proofs
set_option maxRecDepth 20000
noncomputable section
noncomputable def TT:List (Nat × TI):=[(3,⟨Tryz.t3.desc,Tryz.t3.size,Tryz.t3.bytes,zl Tryz.t3,false⟩),
  (4,⟨Tryz.t4.desc,Tryz.t4.size,Tryz.t4.bytes,zl Tryz.t4,false⟩),
  (22,⟨Tryz.t22.desc,Tryz.t22.size,Tryz.t22.bytes,zl Tryz.t22,false⟩),
  (23,⟨Tryz.t23.desc,Tryz.t23.size,Tryz.t23.bytes,zl Tryz.t23,false⟩),
  (24,⟨Tryz.t24.desc,Tryz.t24.size,Tryz.t24.bytes,zl Tryz.t24,false⟩),
  (26,⟨Tryz.t25.desc,Tryz.t26.size,Tryz.t26.bytes,zl Tryz.t26,false⟩),
  (27,⟨Tryz.t27.desc,Tryz.t27.size,Tryz.t27.bytes,zl Tryz.t27,false⟩),
  (29,⟨Tryz.t28.desc,Tryz.t29.size,Tryz.t29.bytes,zl Tryz.t29,false⟩),
  (30,⟨Tryz.t30.desc,Tryz.t30.size,Tryz.t30.bytes,zl Tryz.t30,false⟩),
  (31,⟨Tryz.t31.desc,Tryz.t31.size,Tryz.t31.bytes,zl Tryz.t31,false⟩),
  (33,⟨Tryz.t32.desc,Tryz.t33.size,Tryz.t33.bytes,zl Tryz.t33,false⟩),
  (36,⟨Tryz.t36.desc,Tryz.t36.size,Tryz.t36.bytes,zl Tryz.t36,false⟩),
  (37,⟨Tryz.t3.desc,Tryz.t37.size,Tryz.t37.bytes,zl Tryz.t37,false⟩),
  (40,⟨Tryz.t32.desc,Tryz.t40.size,Tryz.t40.bytes,zl Tryz.t40,false⟩),
  (52,⟨Tryz.t3.desc,Tryz.t52.size,Tryz.t52.bytes,zl Tryz.t52,false⟩),
  (53,⟨Tryz.t53.desc,Tryz.t53.size,Tryz.t53.bytes,zl Tryz.t53,false⟩),
  (55,⟨Tryz.t54.desc,Tryz.t55.size,Tryz.t55.bytes,zl Tryz.t55,false⟩),
  (56,⟨Tryz.t3.desc,Tryz.t56.size,Tryz.t56.bytes,zl Tryz.t56,false⟩),
  (58,⟨Tryz.t57.desc,Tryz.t58.size,Tryz.t58.bytes,zl Tryz.t58,true⟩),
  (59,⟨Tryz.t3.desc,Tryz.t59.size,Tryz.t59.bytes,zl Tryz.t59,false⟩),
  (61,⟨Tryz.t60.desc,Tryz.t61.size,Tryz.t61.bytes,zl Tryz.t61,true⟩),
  (72,⟨Tryz.t72.desc,Tryz.t72.size,Tryz.t72.bytes,zl Tryz.t72,false⟩),
  (75,⟨Tryz.t75.desc,Tryz.t75.size,Tryz.t75.bytes,zl Tryz.t75,false⟩),
  (78,⟨Tryz.t78.desc,Tryz.t78.size,Tryz.t78.bytes,zl Tryz.t78,true⟩),
  (99,⟨Tryz.t99.desc,Tryz.t99.size,Tryz.t99.bytes,zl Tryz.t99,false⟩),
  (100,⟨Tryz.t100.desc,Tryz.t100.size,Tryz.t100.bytes,zl Tryz.t100,false⟩),
  (101,⟨Tryz.t101.desc,Tryz.t101.size,Tryz.t101.bytes,zl Tryz.t101,false⟩),
  (103,⟨Tryz.t102.desc,Tryz.t103.size,Tryz.t103.bytes,zl Tryz.t103,false⟩),
  (112,⟨Tryz.t112.desc,Tryz.t112.size,Tryz.t112.bytes,zl Tryz.t112,false⟩),
  (115,⟨Tryz.t114.desc,Tryz.t115.size,Tryz.t115.bytes,zl Tryz.t115,true⟩),
  (117,⟨Tryz.t117.desc,Tryz.t117.size,Tryz.t117.bytes,zl Tryz.t117,true⟩),
  (119,⟨Tryz.t118.desc,Tryz.t119.size,Tryz.t119.bytes,zl Tryz.t119,true⟩),
  (126,⟨Tryz.t126.desc,Tryz.t126.size,Tryz.t126.bytes,zl Tryz.t126,false⟩),
  (129,⟨Tryz.t128.desc,Tryz.t129.size,Tryz.t129.bytes,zl Tryz.t129,false⟩),
  (133,⟨Tryz.t133.desc,Tryz.t133.size,Tryz.t133.bytes,zl Tryz.t133,false⟩),
  (145,⟨Tryz.t145.desc,Tryz.t145.size,Tryz.t145.bytes,zl Tryz.t145,false⟩),
  (147,⟨Tryz.t146.desc,Tryz.t147.size,Tryz.t147.bytes,zl Tryz.t147,false⟩),
  (148,⟨Tryz.t148.desc,Tryz.t148.size,Tryz.t148.bytes,zl Tryz.t148,false⟩),
  (149,⟨Tryz.t149.desc,Tryz.t149.size,Tryz.t149.bytes,zl Tryz.t149,false⟩),
  (154,⟨Tryz.t154.desc,Tryz.t154.size,Tryz.t154.bytes,zl Tryz.t154,false⟩),
  (155,⟨Tryz.t155.desc,Tryz.t155.size,Tryz.t155.bytes,zl Tryz.t155,false⟩),
  (165,⟨Tryz.t165.desc,Tryz.t165.size,Tryz.t165.bytes,zl Tryz.t165,false⟩),
  (167,⟨Tryz.t166.desc,Tryz.t167.size,Tryz.t167.bytes,zl Tryz.t167,false⟩),
  (168,⟨Tryz.t168.desc,Tryz.t168.size,Tryz.t168.bytes,zl Tryz.t168,false⟩),
  (170,⟨Tryz.t170.desc,Tryz.t170.size,Tryz.t170.bytes,zl Tryz.t170,false⟩),
  (172,⟨Tryz.t171.desc,Tryz.t172.size,Tryz.t172.bytes,zl Tryz.t172,false⟩),
  (182,⟨Tryz.t182.desc,Tryz.t182.size,Tryz.t182.bytes,zl Tryz.t182,false⟩),
  (184,⟨Tryz.t183.desc,Tryz.t184.size,Tryz.t184.bytes,zl Tryz.t184,false⟩),
  (185,⟨Tryz.t185.desc,Tryz.t185.size,Tryz.t185.bytes,zl Tryz.t185,false⟩),
  (193,⟨Tryz.t193.desc,Tryz.t193.size,Tryz.t193.bytes,zl Tryz.t193,false⟩),
  (196,⟨Tryz.t196.desc,Tryz.t196.size,Tryz.t196.bytes,zl Tryz.t196,false⟩),
  (199,⟨Tryz.t199.desc,Tryz.t199.size,Tryz.t199.bytes,zl Tryz.t199,false⟩),
  (220,⟨Tryz.t219.desc,Tryz.t220.size,Tryz.t220.bytes,zl Tryz.t220,true⟩)]
theorem tT:qX Tryz.prog TT:=⟨gm (by kernel_rfl) (by kernel_rfl) (by kernel_rfl),⟨iK,dz (by kernel_rfl)⟩,gm (by kernel_rfl) (by kernel_rfl) (by kernel_rfl),⟨iK,dz (by kernel_rfl)⟩,gm (by kernel_rfl) (by kernel_rfl) (by kernel_rfl),⟨iK,dz (by kernel_rfl)⟩,gm (by kernel_rfl) (by kernel_rfl) (by kernel_rfl),⟨iK,dz (by kernel_rfl)⟩,gm (by kernel_rfl) (by kernel_rfl) (by kernel_rfl),⟨iK,dz (by kernel_rfl)⟩,gm (by kernel_rfl) (by kernel_rfl) (by kernel_rfl),⟨iK,dz (by kernel_rfl)⟩,gm (by kernel_rfl) (by kernel_rfl) (by kernel_rfl),⟨iK,dz (by kernel_rfl)⟩,gm (by kernel_rfl) (by kernel_rfl) (by kernel_rfl),⟨iK,dz (by kernel_rfl)⟩,gm (by kernel_rfl) (by kernel_rfl) (by kernel_rfl),⟨iK,dz (by kernel_rfl)⟩,gm (by kernel_rfl) (by kernel_rfl) (by kernel_rfl),⟨iK,dz (by kernel_rfl)⟩,gm (by kernel_rfl) (by kernel_rfl) (by kernel_rfl),⟨iK,dz (by kernel_rfl)⟩,gm (by kernel_rfl) (by kernel_rfl) (by kernel_rfl),⟨iK,dz (by kernel_rfl)⟩,gm (by kernel_rfl) (by kernel_rfl) (by kernel_rfl),⟨iK,dz (by kernel_rfl)⟩,gm (by kernel_rfl) (by kernel_rfl) (by kernel_rfl),⟨iK,dz (by kernel_rfl)⟩,gm (by kernel_rfl) (by kernel_rfl) (by kernel_rfl),⟨iK,dz (by kernel_rfl)⟩,gm (by kernel_rfl) (by kernel_rfl) (by kernel_rfl),⟨iK,dz (by kernel_rfl)⟩,gm (by kernel_rfl) (by kernel_rfl) (by kernel_rfl),⟨iK,dz (by kernel_rfl)⟩,gm (by kernel_rfl) (by kernel_rfl) (by kernel_rfl),⟨iK,dz (by kernel_rfl)⟩,gm (by kernel_rfl) (by kernel_rfl) (by kernel_rfl),⟨fun _=> ⟨by kernel_rfl,by kernel_rfl⟩,dz (by kernel_rfl)⟩,gm (by kernel_rfl) (by kernel_rfl) (by kernel_rfl),⟨iK,dz (by kernel_rfl)⟩,gm (by kernel_rfl) (by kernel_rfl) (by kernel_rfl),⟨fun _=> ⟨by kernel_rfl,by kernel_rfl⟩,dz (by kernel_rfl)⟩,gm (by kernel_rfl) (by kernel_rfl) (by kernel_rfl),⟨iK,dz (by kernel_rfl)⟩,gm (by kernel_rfl) (by kernel_rfl) (by kernel_rfl),⟨iK,dz (by kernel_rfl)⟩,gm (by kernel_rfl) (by kernel_rfl) (by kernel_rfl),⟨fun _=> ⟨by kernel_rfl,by kernel_rfl⟩,dz (by kernel_rfl)⟩,gm (by kernel_rfl) (by kernel_rfl) (by kernel_rfl),⟨iK,dz (by kernel_rfl)⟩,gm (by kernel_rfl) (by kernel_rfl) (by kernel_rfl),⟨iK,dz (by kernel_rfl)⟩,gm (by kernel_rfl) (by kernel_rfl) (by kernel_rfl),⟨iK,dz (by kernel_rfl)⟩,gm (by kernel_rfl) (by kernel_rfl) (by kernel_rfl),⟨iK,dz (by kernel_rfl)⟩,gm (by kernel_rfl) (by kernel_rfl) (by kernel_rfl),⟨iK,dz (by kernel_rfl)⟩,gm (by kernel_rfl) (by kernel_rfl) (by kernel_rfl),⟨fun _=> ⟨by kernel_rfl,by kernel_rfl⟩,dz (by kernel_rfl)⟩,gm (by kernel_rfl) (by kernel_rfl) (by kernel_rfl),⟨fun _=> ⟨by kernel_rfl,by kernel_rfl⟩,dz (by kernel_rfl)⟩,gm (by kernel_rfl) (by kernel_rfl) (by kernel_rfl),⟨fun _=> ⟨by kernel_rfl,by kernel_rfl⟩,dz (by kernel_rfl)⟩,gm (by kernel_rfl) (by kernel_rfl) (by kernel_rfl),⟨iK,dz (by kernel_rfl)⟩,gm (by kernel_rfl) (by kernel_rfl) (by kernel_rfl),⟨iK,dz (by kernel_rfl)⟩,gm (by kernel_rfl) (by kernel_rfl) (by kernel_rfl),⟨iK,dz (by kernel_rfl)⟩,gm (by kernel_rfl) (by kernel_rfl) (by kernel_rfl),⟨iK,dz (by kernel_rfl)⟩,gm (by kernel_rfl) (by kernel_rfl) (by kernel_rfl),⟨iK,dz (by kernel_rfl)⟩,gm (by kernel_rfl) (by kernel_rfl) (by kernel_rfl),⟨iK,dz (by kernel_rfl)⟩,gm (by kernel_rfl) (by kernel_rfl) (by kernel_rfl),⟨iK,dz (by kernel_rfl)⟩,gm (by kernel_rfl) (by kernel_rfl) (by kernel_rfl),⟨iK,dz (by kernel_rfl)⟩,gm (by kernel_rfl) (by kernel_rfl) (by kernel_rfl),⟨iK,dz (by kernel_rfl)⟩,gm (by kernel_rfl) (by kernel_rfl) (by kernel_rfl),⟨iK,dz (by kernel_rfl)⟩,gm (by kernel_rfl) (by kernel_rfl) (by kernel_rfl),⟨iK,dz (by kernel_rfl)⟩,gm (by kernel_rfl) (by kernel_rfl) (by kernel_rfl),⟨iK,dz (by kernel_rfl)⟩,gm (by kernel_rfl) (by kernel_rfl) (by kernel_rfl),⟨iK,dz (by kernel_rfl)⟩,gm (by kernel_rfl) (by kernel_rfl) (by kernel_rfl),⟨iK,dz (by kernel_rfl)⟩,gm (by kernel_rfl) (by kernel_rfl) (by kernel_rfl),⟨iK,dz (by kernel_rfl)⟩,gm (by kernel_rfl) (by kernel_rfl) (by kernel_rfl),⟨iK,dz (by kernel_rfl)⟩,gm (by kernel_rfl) (by kernel_rfl) (by kernel_rfl),⟨iK,dz (by kernel_rfl)⟩,gm (by kernel_rfl) (by kernel_rfl) (by kernel_rfl),⟨iK,dz (by kernel_rfl)⟩,gm (by kernel_rfl) (by kernel_rfl) (by kernel_rfl),⟨iK,dz (by kernel_rfl)⟩,gm (by kernel_rfl) (by kernel_rfl) (by kernel_rfl),⟨iK,dz (by kernel_rfl)⟩,gm (by kernel_rfl) (by kernel_rfl) (by kernel_rfl),⟨fun _=> ⟨by kernel_rfl,by kernel_rfl⟩,dz (by kernel_rfl)⟩,trivial⟩
theorem mX:Tryz.prog.follows .mixedOrders=true:=by kernel_rfl
def JU:Go.Shelf.Ren:=⟨fun|6=>76|14=>116|15=>117|20=>144|21=>145|22=>146|23=>147|24=>148|25=>149|26=>150|27=>151|28=>152|29=>153|46=>176|47=>177|48=>178|49=>179|50=>180|57=>184|n=>n,fun|0=>0|3=>3|4=>4|5=>5|9=>9|22=>75|24=>117|25=>132|39=>181|45=>205|46=>206|50=>178|53=>212|55=>214|66=>228|70=>232|76=>237|77=>238|n=>n,fun n=>n⟩
theorem RQ:Go.Proofs.SlLaysF0.n6 Tryz.prog JU:=⟨by kernel_rfl,⟨Tryz.f76.name,by kernel_rfl,Tryz.func76.trans (congrArg some (by kernel_rfl))⟩,⟨Tryz.f116.name,by kernel_rfl,Tryz.func116.trans (congrArg some (by kernel_rfl))⟩,Tryz.func117.trans (congrArg some (by kernel_rfl)),⟨Tryz.f144.name,by kernel_rfl,Tryz.func144.trans (congrArg some (by kernel_rfl))⟩,⟨Tryz.f145.name,by kernel_rfl,Tryz.func145.trans (congrArg some (by kernel_rfl))⟩,⟨Tryz.f146.name,by kernel_rfl,Tryz.func146.trans (congrArg some (by kernel_rfl))⟩,⟨Tryz.f147.name,by kernel_rfl,Tryz.func147.trans (congrArg some (by kernel_rfl))⟩,⟨Tryz.f148.name,by kernel_rfl,Tryz.func148.trans (congrArg some (by kernel_rfl))⟩,⟨Tryz.f149.name,by kernel_rfl,Tryz.func149.trans (congrArg some (by kernel_rfl))⟩,⟨Tryz.f150.name,by kernel_rfl,Tryz.func150.trans (congrArg some (by kernel_rfl))⟩,⟨Tryz.f151.name,by kernel_rfl,Tryz.func151.trans (congrArg some (by kernel_rfl))⟩,Tryz.func152.trans (congrArg some (by kernel_rfl)),Tryz.func153.trans (congrArg some (by kernel_rfl)),⟨Tryz.f176.name,by kernel_rfl,Tryz.func176.trans (congrArg some (by kernel_rfl))⟩,Tryz.func177.trans (congrArg some (by kernel_rfl)),Tryz.func178.trans (congrArg some (by kernel_rfl)),⟨Tryz.f179.name,by kernel_rfl,Tryz.func179.trans (congrArg some (by kernel_rfl))⟩,⟨Tryz.f180.name,by kernel_rfl,Tryz.func180.trans (congrArg some (by kernel_rfl))⟩,⟨Tryz.f184.name,by kernel_rfl,Tryz.func184.trans (congrArg some (by kernel_rfl))⟩,Tryz.underlying0,Tryz.isAgg0,Tryz.sizeOf0,Tryz.zeroValue0,Tryz.underlying3,Tryz.isAgg3,Tryz.sizeOf3,Tryz.zeroValue3,Tryz.underlying4,Tryz.isAgg4,Tryz.sizeOf4,Tryz.zeroValue4,Tryz.underlying5,Tryz.isAgg5,Tryz.sizeOf5,Tryz.zeroValue5,Tryz.underlying9,Tryz.isAgg9,Tryz.sizeOf9,Tryz.zeroValue9,Tryz.underlying75,Tryz.isAgg75,Tryz.sizeOf75,Tryz.zeroValue75,Tryz.underlying132,Tryz.isAgg132,Tryz.sizeOf132,Tryz.zeroValue132,Tryz.underlying181,Tryz.isAgg181,Tryz.sizeOf181,Tryz.zeroValue181,Tryz.underlying205,Tryz.isAgg205,Tryz.sizeOf205,Tryz.zeroValue205,Tryz.underlying206,Tryz.isAgg206,Tryz.sizeOf206,Tryz.zeroValue206,Tryz.underlying178,Tryz.isAgg178,Tryz.sizeOf178,Tryz.zeroValue178,Tryz.underlying212,Tryz.isAgg212,Tryz.sizeOf212,Tryz.zeroValue212,Tryz.underlying214,Tryz.isAgg214,Tryz.sizeOf214,Tryz.zeroValue214,Tryz.underlying228,Tryz.isAgg228,Tryz.sizeOf228,Tryz.zeroValue228,Tryz.underlying232,Tryz.isAgg232,Tryz.sizeOf232,Tryz.zeroValue232,Tryz.underlying237,Tryz.isAgg237,Tryz.sizeOf237,Tryz.zeroValue237,Tryz.underlying238,Tryz.isAgg238,Tryz.sizeOf238,Tryz.zeroValue238⟩
theorem Tz (w:World):(isAgg (JU.t 24)).run Tryz.prog w= .ok true w:=Tryz.isAgg117 w
theorem Qk (w:World):(Go.sizeOf (JU.t 24)).run Tryz.prog w= .ok 2 w:=Tryz.sizeOf117 w
section
variable (p:aj) (t:Task)
abbrev k1:List CV:=[(cI p.buses),(.d (bB none 5 Source.cell p.sources)),(.d (bB none 6 Link.cell p.links)),(.d (bB none 4 aV.cell p.racks))]
abbrev k3:DV:=(bB none 1 (aY .i64) t.crew)
abbrev k4:DV:=(bB none 2 af.cell t.allowed)
abbrev k5:DV:=(bB none 2 af.cell t.goal)
abbrev k2:List CV:=[(.d (bB none 1 (aY .i64) t.fed)),(.d (k3 t)),(.d (k4 t)),(.d (k5 t))]
abbrev k0:List SV:=[(.agg (k1 p)),(.agg (k2 t))]
end
theorem Gh (p:aj) (t:Task):eu Tryz.prog 11 (k0 p t) [] (fun r=>(vB r)) (fun _=>[]) (zx p t):=
  fe tT mX Tryz.func11 (
  .rg {fr:=[(0,2),(1,3)],fz:=[2,3]} []<| .r<| .e (bif (bif (bif (bif (bif (bif (decide (60<(p.sources.length:Int)))then true else(decide (60<(p.links.length:Int))))then true else(decide (60<(p.racks.length:Int))))then true else(decide (60<(t.fed.length:Int))))then true else(decide (60<(t.crew.length:Int))))then true else(decide (60<(t.allowed.length:Int))))then true else(decide (60<(t.goal.length:Int)))))
theorem aS (n:Int) (u0:Int) (u1:Int):eu Tryz.prog 123 [(sI n),(sI u0),(sI u1)] [] (fun r=>(vB r)) (fun _=>[]) (aX n u0 u1):=
  fe tT mX Tryz.func123 (
  .r<| .r<| .e (bif (decide (u0≤n))then(decide (n≤u1))else false))
section
variable (p:aj)
abbrev k6:List SV:=[(.agg (k1 p))]
end
theorem CJ (p:aj):eu Tryz.prog 125 (k6 p) [] (fun r=>(vD (.fn 163 1 (bC [(Eo [(.int .i64 r.1),(bB none 5 Source.cell r.2.1),(bB none 6 Link.cell r.2.2.1),(bB none 4 aV.cell r.2.2.2)] 0)])))) (fun _=>[]) (tQ p):=
  fe tT mX Tryz.func125 (
  .rg {fr:=[(0,1)],fz:=[1]} []<| .r<| .e (p.buses,p.sources,p.links,p.racks))
theorem EB (p:aj):eu Tryz.prog 127 (k6 p) [] (fun r=>(vD (.fn 166 1 (bC [(Eo [(.int .i64 r.1),(bB none 5 Source.cell r.2.1),(bB none 6 Link.cell r.2.2.1),(bB none 4 aV.cell r.2.2.2)] 0)])))) (fun _=>[]) (xB p):=
  fe tT mX Tryz.func127 (
  .rg {fr:=[(0,1)],fz:=[1]} []<| .r<| .e (p.buses,p.sources,p.links,p.racks))
theorem Ez (p:aj):eu Tryz.prog 129 (k6 p) [] (fun r=>(vD (.fn 169 1 (bC [(Eo [(.int .i64 r.1),(bB none 5 Source.cell r.2.1),(bB none 6 Link.cell r.2.2.1),(bB none 4 aV.cell r.2.2.2)] 0)])))) (fun _=>[]) (xG p):=
  fe tT mX Tryz.func129 (
  .rg {fr:=[(0,1)],fz:=[1]} []<| .r<| .e (p.buses,p.sources,p.links,p.racks))
section
variable (x:Source) (u2:(List Source)) (x1:Int) (u3:(List Link)) (u4:(List aV)) (r_:Bool) (u0:Bool) (u1:Bool) (u5:Bool) (u6:Bool)
abbrev k7:List CV:=[(cI x.bus),(cI x.kind),(cI x.power),(cI x.sync),(cI x.ohm)]
abbrev k9:DV:=(bB none 5 Source.cell u2)
abbrev k8:DV:=(Eo [(.int .i64 x1),(k9 u2),(bB none 6 Link.cell u3),(bB none 4 aV.cell u4)] 0)
abbrev k10:=(IntKind.wrap .i64 (x1 - 1))
abbrev k11:=((bif r_ then u0 else false),true)
abbrev k12:=((bif (bif r_ then u0 else false)then u1 else false),true)
abbrev k13:=(bif (bif (bif r_ then u0 else false)then u1 else false)then u5 else false)
abbrev k14:=(bif (k13 r_ u0 u1 u5)then u6 else false)
end
theorem Aj (x:Source) (x1:Int) (u2:(List Source)) (u3:(List Link)) (u4:(List aV)):eu Tryz.prog 163 [(.agg (k7 x)),(sD (k8 u2 x1 u3 u4))] [] (fun r=>(vB r)) (fun _=>[]) (mJ x x1 u2 u3 u4):=
  fe tT mX Tryz.func163 (
  .rg {fr:=[(0,1)],fz:=[1]} []<| .cl 5 (aS x.bus 0 (k10 x1)) fun r_=> .cg 9 [(r_,true)] (aS x.kind 1 3) fun u0=> .cg 14 [(k11 r_ u0)] (aS x.power 1 100000) fun u1=> .cg 19 [(k12 r_ u0 u1)] (aS x.sync 0 8) fun u5=> .cg 24 [((k13 r_ u0 u1 u5),true)] (aS x.ohm 10 100000) fun u6=> .r<| .e (k14 r_ u0 u1 u5 u6))
section
variable (x1:Int) (u0:(List Source)) (u1:(List Link)) (u2:(List aV))
abbrev k16:=(bC [(k8 u0 x1 u1 u2)])
abbrev k15:DV:=(Eo [(.fn 163 1 (k16 x1 u0 u1 u2))] 0)
end
theorem Cn (x:Source) (x1:Int) (u0:(List Source)) (u1:(List Link)) (u2:(List aV)):eu Tryz.prog 162 [(.agg (k7 x)),(sD (k15 x1 u0 u1 u2))] [] (fun r=>(vB r)) (fun _=>[]) (uR x x1 u0 u1 u2):=
  fe tT mX Tryz.func162 (
  .rg {fr:=[(0,1)],fz:=[1]} []<| .cl 2 (Aj x x1 u0 u1 u2) fun r_=> .r<| .e (!r_))
section
variable (s_:(List Source)) (f_:Int) (u0:(List Source)) (u1:(List Link)) (u2:(List aV)) (t8:Int)
abbrev k17:List SV:=[(sD (k9 s_)),(sD (.fn 162 1 (bC [(k15 f_ u0 u1 u2)])))]
abbrev k18:=(IntKind.wrap .i64 (t8+1))
end
theorem yL (s_:(List Source)) (f_:Int) (u0:(List Source)) (u1:(List Link)) (u2:(List aV)):eu Tryz.prog 181 (k17 s_ f_ u0 u1 u2) [] (fun r=>(vI r)) (fun _=>[]) (oo s_ f_ u0 u1 u2):=
  fe tT mX Tryz.func181 (
  .r<| .r<| .lp (σ:=Int) (β:=Unit) (0) [] [] ⟨[0,1,7],[],fun t8=>[(8,(vI t8))],fun t8=>[]⟩ ⟨[],[],fun _=>[],fun _=>[]⟩
  (fun t8=> .r<| .it (.r<| .cl 5 (Cn (at' s_ t8.toNat) f_ u0 u1 u2) fun r_=> .a1 ((0:Int)≤t8∧t8<(s_.length:Int))<| .rg {} [0,1]<| .it (.r<| .e (.done (.ret t8)))
  (.r<| .e (.next (k18 t8))))
  (.e (.done (.brk ()))))
  (fun _=> .r<| .e (-1)))
theorem vZ (s_:(List Source)) (f_:Int) (u0:(List Source)) (u1:(List Link)) (u2:(List aV)):eu Tryz.prog 161 (k17 s_ f_ u0 u1 u2) [] (fun r=>(vB r)) (fun _=>[]) (iF s_ f_ u0 u1 u2):=
  fe tT mX Tryz.func161 (
  .r<| .cl 2 (yL s_ f_ u0 u1 u2) fun r_=> .r<| .e (decide (0≤r_)))
theorem En (l:(List Source)) (u0:Int) (u1:Int) (u2:(List Source)) (u3:(List Link)) (u4:(List aV)):eu Tryz.prog 124 [(sD (k9 l)),(sI u0),(sD (.fn 163 1 (k16 u1 u2 u3 u4)))] [] (fun r=>(vB r)) (fun _=>[]) (rW l u0 u1 u2 u3 u4):=
  fe tT mX Tryz.func124 (
  .rg {fr:=[(0,1)],fz:=[1]} []<| .cg 7 [((decide ((l.length:Int)≤u0)),true)] (vZ l u1 u2 u3 u4) fun r_=> .r<| .e (bif (decide ((l.length:Int)≤u0))then(!r_)else false))
section
variable (x:Link) (u0:Int)
abbrev k19:List CV:=[(cI x.a),(cI x.b),(cI x.kind),(cI x.most),(cI x.ohm),(.d (bB none 2 oO.cell x.trip))]
abbrev k20:=((decide (((at' x.trip u0.toNat).amps)≤((at' x.trip ((k10 u0).toNat)).amps))),false)
end
theorem Df (x:Link) (x1:Int) (u3:(List Source)) (u4:(List Link)) (u5:(List aV)):eu Tryz.prog 166 [(.agg (k19 x)),(sD (k8 u3 x1 u4 u5))] [] (fun r=>(vB r)) (fun _=>[]) (oL x x1 u3 u4 u5):=
  fe tT mX Tryz.func166 (
  .rg {fr:=[(0,5)]} []<| .cl 5 (aS x.a 0 (k10 x1)) fun r_=> .cg 13 [((!r_),false)] (aS x.b 0 (k10 x1)) fun u1=> .cg 26 [((bif (bif (!r_)then true else(!u1))then true else(decide (x.a=x.b))),false)] (aS x.kind 1 3) fun u6=> .cg 32 [((bif (bif (bif (!r_)then true else(!u1))then true else(decide (x.a=x.b)))then true else(!u6)),false)] (aS x.most 1 100000) fun u8=> .cg 38 [((bif (bif (bif (bif (!r_)then true else(!u1))then true else(decide (x.a=x.b)))then true else(!u6))then true else(!u8)),false)] (aS x.ohm 10 100000) fun u9=> .r<| .it (.r<| .e false)
  (.rg {fz:=[5]} []<| .lp (σ:=Int) (β:=Unit) (0) [] [] ⟨[2,48,49],[],fun u0=>[(50,(vI u0))],fun u0=>[]⟩ ⟨[2],[],fun _=>[],fun _=>[]⟩
  (fun u0=> .r<| .it (.a1 ((0:Int)≤u0∧u0<(x.trip.length:Int))<| .rg {fr:=[(3,9)],fz:=[9]} []<| .cl 2 (aS ((at' x.trip u0.toNat).amps) 1 1000000) fun u2=> .cg 7 [((!u2),false)] (aS ((at' x.trip u0.toNat).millis) 1 100000) fun u7=> .a2 ((gB [((decide (0<u0)),true),((bif (!u2)then true else(!u7)),false)]=true→(0:Int)≤(k10 u0)∧(k10 u0)<(x.trip.length:Int))) ((gB [(k20 x u0),((decide (0<u0)),true),((bif (!u2)then true else(!u7)),false)]=true→(0:Int)≤(k10 u0)∧(k10 u0)<(x.trip.length:Int)))<| .rg {} [3,2,0,1]<| .it (.r<| .e (.done (.ret false)))
  (.r<| .e (.next (k18 u0))))
  (.e (.done (.brk ()))))
  (fun _=> .r<| .e (bif (decide ((x.trip.length:Int)≤6))then(bif (decide ((x.trip.length:Int)=0))then true else(decide (x.kind=3)))else false))))
section
variable (x1:Int) (u0:(List Source)) (u1:(List Link)) (u2:(List aV))
abbrev k21:DV:=(Eo [(.fn 166 1 (k16 x1 u0 u1 u2))] 0)
end
theorem zb (x:Link) (x1:Int) (u0:(List Source)) (u1:(List Link)) (u2:(List aV)):eu Tryz.prog 165 [(.agg (k19 x)),(sD (k21 x1 u0 u1 u2))] [] (fun r=>(vB r)) (fun _=>[]) (pF x x1 u0 u1 u2):=
  fe tT mX Tryz.func165 (
  .rg {fr:=[(0,1)],fz:=[1]} []<| .cl 2 (Df x x1 u0 u1 u2) fun r_=> .r<| .e (!r_))
section
variable (s_:(List Link)) (f_:Int) (u0:(List Source)) (u1:(List Link)) (u2:(List aV)) (t8:Int)
abbrev k22:List SV:=[(sD (bB none 6 Link.cell s_)),(sD (.fn 165 1 (bC [(k21 f_ u0 u1 u2)])))]
abbrev k23:=((0:Int)≤t8∧t8<(s_.length:Int))
end
theorem vY (s_:(List Link)) (f_:Int) (u0:(List Source)) (u1:(List Link)) (u2:(List aV)):eu Tryz.prog 182 (k22 s_ f_ u0 u1 u2) [] (fun r=>(vI r)) (fun _=>[]) (kX s_ f_ u0 u1 u2):=
  fe tT mX Tryz.func182 (
  .r<| .r<| .lp (σ:=Int) (β:=Unit) (0) [] [] ⟨[0,1,7],[],fun t8=>[(8,(vI t8))],fun t8=>[]⟩ ⟨[],[],fun _=>[],fun _=>[]⟩
  (fun t8=> .r<| .it (.r<| .cl 5 (zb (at' s_ t8.toNat) f_ u0 u1 u2) fun r_=> .a1 (k23 s_ t8)<| .rg {} [0,1]<| .it (.r<| .e (.done (.ret t8)))
  (.r<| .e (.next (k18 t8))))
  (.e (.done (.brk ()))))
  (fun _=> .r<| .e (-1)))
theorem rX (s_:(List Link)) (f_:Int) (u0:(List Source)) (u1:(List Link)) (u2:(List aV)):eu Tryz.prog 164 (k22 s_ f_ u0 u1 u2) [] (fun r=>(vB r)) (fun _=>[]) (fU s_ f_ u0 u1 u2):=
  fe tT mX Tryz.func164 (
  .r<| .cl 2 (vY s_ f_ u0 u1 u2) fun r_=> .r<| .e (decide (0≤r_)))
theorem Cj (l:(List Link)) (u0:Int) (u1:Int) (u2:(List Source)) (u3:(List Link)) (u4:(List aV)):eu Tryz.prog 126 [(sD (bB none 6 Link.cell l)),(sI u0),(sD (.fn 166 1 (k16 u1 u2 u3 u4)))] [] (fun r=>(vB r)) (fun _=>[]) (pJ l u0 u1 u2 u3 u4):=
  fe tT mX Tryz.func126 (
  .rg {fr:=[(0,1)],fz:=[1]} []<| .cg 7 [((decide ((l.length:Int)≤u0)),true)] (rX l u1 u2 u3 u4) fun r_=> .r<| .e (bif (decide ((l.length:Int)≤u0))then(!r_)else false))
section
variable (x:aV)
abbrev k24:List CV:=[(cI x.feeds.e0),(cI x.feeds.e1),(cI x.power),(cI x.paths)]
end
theorem Dv (x:aV):eu Tryz.prog 170 [(.agg (k24 x))] [] (fun r=>(vI r)) (fun _=>[]) (qD x):=
  fe tT mX Tryz.func170 (
  .rg {fr:=[(0,1)],fz:=[1]} []<| .rg {} [.pf ⟨(0:Int)≤1∧(1:Int)<(2:Nat),(by decide)⟩]<| .it (.r<| .e 1)
  (.r<| .e 2))
section
variable (r_:Bool) (u0:Bool) (x:aV) (u1:Bool)
abbrev k26:=(bif (bif (bif r_ then u0 else false)then(!decide (x.feeds.e0=x.feeds.e1))else false)then u1 else false)
abbrev k25:=((k26 r_ u0 x u1),true)
end
theorem CF (x:aV) (x1:Int) (u2:(List Source)) (u3:(List Link)) (u4:(List aV)):eu Tryz.prog 169 [(.agg (k24 x)),(sD (k8 u2 x1 u3 u4))] [] (fun r=>(vB r)) (fun _=>[]) (pQ x x1 u2 u3 u4):=
  fe tT mX Tryz.func169 (
  .rg {fr:=[(0,1)],fz:=[1]} []<| .rg {} [.pf ⟨(0:Int)≤0∧(0:Int)<(2:Nat),(by decide)⟩, .pf ⟨(0:Int)≤1∧(1:Int)<(2:Nat),(by decide)⟩]<| .cl 4 (aS x.feeds.e0 0 (k10 x1)) fun r_=> .cg 10 [(r_,true)] (aS x.feeds.e1 (-1) (k10 x1)) fun u0=> .cg 20 [((bif (bif r_ then u0 else false)then(!decide (x.feeds.e0=x.feeds.e1))else false),true)] (aS x.power 1 100000) fun u1=> .cg 26 [(k25 r_ u0 x u1)] (Dv x) fun u5=> .cg 27 [(k25 r_ u0 x u1)] (aS x.paths 0 u5) fun u6=> .r<| .e (bif (k26 r_ u0 x u1)then u6 else false))
section
variable (x1:Int) (u0:(List Source)) (u1:(List Link)) (u2:(List aV))
abbrev k27:DV:=(Eo [(.fn 169 1 (k16 x1 u0 u1 u2))] 0)
end
theorem zf (x:aV) (x1:Int) (u0:(List Source)) (u1:(List Link)) (u2:(List aV)):eu Tryz.prog 168 [(.agg (k24 x)),(sD (k27 x1 u0 u1 u2))] [] (fun r=>(vB r)) (fun _=>[]) (oW x x1 u0 u1 u2):=
  fe tT mX Tryz.func168 (
  .rg {fr:=[(0,1)],fz:=[1]} []<| .cl 2 (CF x x1 u0 u1 u2) fun r_=> .r<| .e (!r_))
section
variable (s_:(List aV)) (f_:Int) (u0:(List Source)) (u1:(List Link)) (u2:(List aV))
abbrev k28:List SV:=[(sD (bB none 4 aV.cell s_)),(sD (.fn 168 1 (bC [(k27 f_ u0 u1 u2)])))]
end
theorem vN (s_:(List aV)) (f_:Int) (u0:(List Source)) (u1:(List Link)) (u2:(List aV)):eu Tryz.prog 183 (k28 s_ f_ u0 u1 u2) [] (fun r=>(vI r)) (fun _=>[]) (lg s_ f_ u0 u1 u2):=
  fe tT mX Tryz.func183 (
  .r<| .r<| .lp (σ:=Int) (β:=Unit) (0) [] [] ⟨[0,1,7],[],fun t8=>[(8,(vI t8))],fun t8=>[]⟩ ⟨[],[],fun _=>[],fun _=>[]⟩
  (fun t8=> .r<| .it (.r<| .cl 5 (zf (⟨((at' s_ t8.toNat).feeds),(at' s_ t8.toNat).power,(at' s_ t8.toNat).paths⟩:aV) f_ u0 u1 u2) fun r_=> .a1 ((0:Int)≤t8∧t8<(s_.length:Int))<| .rg {} [0,1]<| .it (.r<| .e (.done (.ret t8)))
  (.r<| .e (.next (k18 t8))))
  (.e (.done (.brk ()))))
  (fun _=> .r<| .e (-1)))
theorem r9 (s_:(List aV)) (f_:Int) (u0:(List Source)) (u1:(List Link)) (u2:(List aV)):eu Tryz.prog 167 (k28 s_ f_ u0 u1 u2) [] (fun r=>(vB r)) (fun _=>[]) (fV s_ f_ u0 u1 u2):=
  fe tT mX Tryz.func167 (
  .r<| .cl 2 (vN s_ f_ u0 u1 u2) fun r_=> .r<| .e (decide (0≤r_)))
theorem BQ (l:(List aV)) (u0:Int) (u1:Int) (u2:(List Source)) (u3:(List Link)) (u4:(List aV)):eu Tryz.prog 128 [(sD (bB none 4 aV.cell l)),(sI u0),(sD (.fn 169 1 (k16 u1 u2 u3 u4)))] [] (fun r=>(vB r)) (fun _=>[]) (o8 l u0 u1 u2 u3 u4):=
  fe tT mX Tryz.func128 (
  .rg {fr:=[(0,1)],fz:=[1]} []<| .cg 7 [((decide ((l.length:Int)≤u0)),true)] (r9 l u1 u2 u3 u4) fun r_=> .r<| .e (bif (decide ((l.length:Int)≤u0))then(!r_)else false))
theorem Dz (p:aj):eu Tryz.prog 89 (k6 p) [] (fun r=>(vI r)) (fun _=>[]) (qC p):=
  fe tT mX Tryz.func89 (
  .rg {fr:=[(0,1)],fz:=[1]} []<| .cl 2 (aS p.buses 1 24) fun r_=> .r<| .it (.r<| .e 10)
  (.cl 3 (CJ p) fun u0=> .cl 4 (En p.sources 8 u0.1 u0.2.1 u0.2.2.1 u0.2.2.2) fun u3=> .r<| .it (.r<| .e 11)
  (.cl 3 (EB p) fun u1=> .cl 4 (Cj p.links 40 u1.1 u1.2.1 u1.2.2.1 u1.2.2.2) fun u4=> .r<| .it (.r<| .e 12)
  (.cl 3 (Ez p) fun u2=> .cl 4 (BQ p.racks 24 u2.1 u2.2.1 u2.2.2.1 u2.2.2.2) fun u5=> .r<| .it (.r<| .e 13)
  (.r<| .e 0)))))
section
variable (s_:State) (p:aj) (u0:Int)
abbrev Y8:DV:=(bB none 1 ai s_.locked)
abbrev XZ:DV:=(bB none 1 ai s_.badLink)
abbrev YX:DV:=(bB none 1 ai s_.on_)
abbrev YK:DV:=(bB none 1 ai s_.badSource)
abbrev XU:DV:=(bB none 1 ai s_.earthed)
abbrev Ya:DV:=(bB none 1 ai s_.badBus)
abbrev AP:List CV:=[(.d (bB none 1 ai s_.closed)),(.d (Y8 s_)),(.d (XZ s_)),(.d (YX s_)),(.d (YK s_)),(.d (XU s_)),(.d (Ya s_))]
abbrev U4:List SV:=[(.agg (k1 p)),(.agg (AP s_))]
abbrev YI:=(⟨s_.closed,(p.links.length:Int)⟩:di)
abbrev XP:=(⟨s_.locked,(p.links.length:Int)⟩:di)
abbrev ZP:=(⟨s_.badLink,(p.links.length:Int)⟩:di)
abbrev ZA:=(⟨s_.on_,(p.sources.length:Int)⟩:di)
abbrev k41:=(⟨s_.badSource,(p.sources.length:Int)⟩:di)
abbrev k42:=(aC di.cell [(YI s_ p),(XP s_ p),(ZP s_ p),(ZA s_ p),(k41 s_ p),(⟨s_.earthed,p.buses⟩:di),(⟨s_.badBus,p.buses⟩:di)])
abbrev ZR:=((0:Int)≤u0∧u0<(p.links.length:Int))
abbrev k44:=((gB [((decide (((at' p.links u0.toNat).kind)=1)),true)]=true→(0:Int)≤u0∧u0<(s_.closed.length:Int)))
abbrev k45:=((gB [((!(at' s_.closed u0.toNat)),false),((decide (((at' p.links u0.toNat).kind)=1)),true)]=true→(0:Int)≤u0∧u0<(s_.locked.length:Int)))
end
theorem bK (p:aj) (s_:State):eu Tryz.prog 62 (U4 s_ p) [] (fun r=>(vI r)) (fun _=>[]) (bS p s_):=
  fe tT mX Tryz.func62 (
  .rg {fr:=[(0,11),(1,12)]} []<| .cl 1 (Dz p) fun r_=> .r<| .r<| .it (.r<| .e r_)
  (.r<| .rg {an:=[(30, .arr [(YI s_ p),(XP s_ p),(ZP s_ p),(ZA s_ p),(k41 s_ p),(⟨s_.earthed,p.buses⟩:di),(⟨s_.badBus,p.buses⟩:di)].length (k42 s_ p))],fr:=[(30,13)],fz:=[12]} [.pf ⟨[(YI s_ p),(XP s_ p),(ZP s_ p),(ZA s_ p),(k41 s_ p),(⟨s_.earthed,p.buses⟩:di),(⟨s_.badBus,p.buses⟩:di)].length=7,rfl⟩, .pf ⟨aP 7 2 (sH 2 [(bB none 1 ai s_.closed),(.int .i64 (p.links.length:Int)),(Y8 s_),(.int .i64 (p.links.length:Int)),(XZ s_),(.int .i64 (p.links.length:Int)),(YX s_),(.int .i64 (p.sources.length:Int)),(YK s_),(.int .i64 (p.sources.length:Int)),(XU s_),(.int .i64 p.buses),(Ya s_),(.int .i64 p.buses)]) (k42 s_ p),(by intro i hi j hj;match i,j,hi,hj with|0,0,_,_=>rfl|0,1,_,_=>rfl|1,0,_,_=>rfl|1,1,_,_=>rfl|2,0,_,_=>rfl|2,1,_,_=>rfl|3,0,_,_=>rfl|3,1,_,_=>rfl|4,0,_,_=>rfl|4,1,_,_=>rfl|5,0,_,_=>rfl|5,1,_,_=>rfl|6,0,_,_=>rfl|6,1,_,_=>rfl)⟩]<| .lp (σ:=Int) (β:=Unit) (0) [] [] ⟨[2,3,53,54],[11,13],fun u1=>[(55,(vI u1))],fun u1=>[]⟩ ⟨[2,3],[11],fun _=>[],fun _=>[]⟩
  (fun u1=> .r<| .it (.a1 ((0:Int)≤u1∧u1<([(YI s_ p),(XP s_ p),(ZP s_ p),(ZA s_ p),(k41 s_ p),(⟨s_.earthed,p.buses⟩:di),(⟨s_.badBus,p.buses⟩:di)].length:Int))<| .rg {fr:=[(2,17)],fz:=[17]} [0, .t 0 u1 ([(YI s_ p),(XP s_ p),(ZP s_ p),(ZA s_ p),(k41 s_ p),(⟨s_.earthed,p.buses⟩:di),(⟨s_.badBus,p.buses⟩:di)].length)]<| .r<| .it (.r<| .e (.done (.ret 9)))
  (.r<| .e (.next (k18 u1))))
  (.e (.done (.brk ()))))
  (fun _=> .r<| .lp (σ:=Int) (β:=Unit) (0) [] [] ⟨[3,67,68],[],fun u0=>[(69,(vI u0))],fun u0=>[]⟩ ⟨[],[],fun _=>[],fun _=>[]⟩
  (fun u0=> .r<| .it (.a1 (ZR p u0)<| .rg {fr:=[(3,21)],fz:=[21]} []<| .a2 (k44 s_ p u0) (k45 s_ p u0)<| .rg {} [0,1]<| .it (.r<| .e (.done (.ret 9)))
  (.r<| .e (.next (k18 u0))))
  (.e (.done (.brk ()))))
  (fun _=> .r<| .e 0))))
theorem yU (i:Int) (x1:Int):eu Tryz.prog 98 [(sI i),(sD (Eo [(.int .i64 x1)] 0))] [] (fun r=>(vB r)) (fun _=>[]) (nX i x1):=
  fe tT mX Tryz.func98 (
  .r<| .r<| .e (bif (decide (i<0))then true else(decide (x1≤i))))
section
variable (s_:(List Int)) (t8:Int)
abbrev Q9:DV:=(bB none 1 (aY .i64) s_)
abbrev Xq:=((0:Int)≤t8∧t8<(s_.length:Int))
end
theorem vM (s_:(List Int)) (f_:Int):eu Tryz.prog 132 [(sD (Q9 s_)),(sD (.fn 98 1 (bC [(Eo [(.int .i64 f_)] 0)])))] [] (fun r=>(vI r)) (fun _=>[]) (kW s_ f_):=
  fe tT mX Tryz.func132 (
  .r<| .r<| .lp (σ:=Int) (β:=Unit) (0) [] [] ⟨[0,1,7],[],fun t8=>[(8,(vI t8))],fun t8=>[]⟩ ⟨[],[],fun _=>[],fun _=>[]⟩
  (fun t8=> .r<| .it (.r<| .cl 5 (yU (at' s_ t8.toNat) f_) fun r_=> .a1 (Xq s_ t8)<| .rg {} [0,1]<| .it (.r<| .e (.done (.ret t8)))
  (.r<| .e (.next (k18 t8))))
  (.e (.done (.brk ()))))
  (fun _=> .r<| .e (-1)))
theorem tL (s_:(List Int)) (f_:Int):eu Tryz.prog 97 [(sD (Q9 s_)),(sD (.fn 98 1 (bC [(Eo [(.int .i64 f_)] 0)])))] [] (fun r=>(vB r)) (fun _=>[]) (gD s_ f_):=
  fe tT mX Tryz.func97 (
  .r<| .cl 2 (vM s_ f_) fun r_=> .r<| .e (decide (0≤r_)))
section
variable (l:(List Int)) (n:Int)
abbrev k48:List SV:=[(sD (Q9 l)),(sI n)]
end
theorem rM (l:(List Int)) (n:Int):eu Tryz.prog 96 (k48 l n) [] (fun r=>(vB r)) (fun _=>[]) (jK l n):=
  fe tT mX Tryz.func96 (
  .rg {fr:=[(0,1)],fz:=[1]} []<| .cg 6 [((decide ((l.length:Int)≤24)),true)] (tL l n) fun r_=> .r<| .e (bif (decide ((l.length:Int)≤24))then(!r_)else false))
section
variable (x:af) (p:aj)
abbrev TD:List CV:=[(cI x.deed),(cI x.index)]
abbrev k49:List SV:=[(.agg (k1 p)),(.agg (TD x))]
abbrev k51:=((gB [((bif (decide (0≤x.index))then(decide (x.index<(p.links.length:Int)))else false),true)]=true→(0:Int)≤x.index∧x.index<(p.links.length:Int)))
abbrev k52:=(bif (bif (decide (0≤x.index))then(decide (x.index<(p.links.length:Int)))else false)then(!decide (((at' p.links x.index.toNat).kind)=1))else false)
abbrev k54:=(decide (x.index<p.buses))
abbrev Va:=(bif (decide (0≤x.index))then(k54 x p)else false)
abbrev k56:=(decide (x.index<(p.sources.length:Int)))
abbrev ME:=(bif (decide (0≤x.index))then(k56 x p)else false)
abbrev MF:=((gB [((bif (decide (0≤x.index))then(decide (x.index<0))else false),true)]=true→(0:Int)≤x.index∧x.index<(p.links.length:Int)))
abbrev MB:=(bif (bif (decide (0≤x.index))then(decide (x.index<0))else false)then(!decide (((at' p.links x.index.toNat).kind)=1))else false)
end
theorem oM (p:aj) (x:af):eu Tryz.prog 79 (k49 x p) [] (fun r=>(vB r)) (fun _=>[]) (jT p x):=
  fe tT mX Tryz.func79 (
  .rg {fr:=[(0,2),(1,3)],fz:=[2,3]} []<| .r<| .r<| .r<| .it (.it (.r<| .a1 (k51 x p)<| .r<| .e (k52 x p))
  (.r<| .it (.it (.r<| .e (Va x p))
  (.r<| .it (.it (.r<| .e (ME x p))
  (.a1 (MF x p)<| .r<| .e (MB x p)))
  (.r<| .it (.r<| .e (ME x p))
  (.a1 (MF x p)<| .r<| .e (MB x p)))))
  (.r<| .it (.r<| .e (Va x p))
  (.r<| .it (.it (.r<| .e (ME x p))
  (.a1 (MF x p)<| .r<| .e (MB x p)))
  (.r<| .it (.r<| .e (ME x p))
  (.a1 (MF x p)<| .r<| .e (MB x p)))))))
  (.r<| .it (.it (.r<| .a1 (k51 x p)<| .r<| .e (k52 x p))
  (.r<| .it (.it (.r<| .e (Va x p))
  (.r<| .it (.it (.r<| .e (ME x p))
  (.a1 (MF x p)<| .r<| .e (MB x p)))
  (.r<| .it (.r<| .e (ME x p))
  (.a1 (MF x p)<| .r<| .e (MB x p)))))
  (.r<| .it (.r<| .e (Va x p))
  (.r<| .it (.it (.r<| .e (ME x p))
  (.a1 (MF x p)<| .r<| .e (MB x p)))
  (.r<| .it (.r<| .e (ME x p))
  (.a1 (MF x p)<| .r<| .e (MB x p)))))))
  (.r<| .it (.it (.r<| .a1 (k51 x p)<| .r<| .e (k52 x p))
  (.r<| .it (.it (.r<| .e (Va x p))
  (.r<| .it (.it (.r<| .e (ME x p))
  (.a1 (MF x p)<| .r<| .e (MB x p)))
  (.r<| .it (.r<| .e (ME x p))
  (.a1 (MF x p)<| .r<| .e (MB x p)))))
  (.r<| .it (.r<| .e (Va x p))
  (.r<| .it (.it (.r<| .e (ME x p))
  (.a1 (MF x p)<| .r<| .e (MB x p)))
  (.r<| .it (.r<| .e (ME x p))
  (.a1 (MF x p)<| .r<| .e (MB x p)))))))
  (.r<| .it (.r<| .a1 (k51 x p)<| .r<| .e (k52 x p))
  (.r<| .it (.it (.r<| .e (Va x p))
  (.r<| .it (.it (.r<| .e (ME x p))
  (.a1 (MF x p)<| .r<| .e (MB x p)))
  (.r<| .it (.r<| .e (ME x p))
  (.a1 (MF x p)<| .r<| .e (MB x p)))))
  (.r<| .it (.r<| .e (Va x p))
  (.r<| .it (.it (.r<| .e (ME x p))
  (.a1 (MF x p)<| .r<| .e (MB x p)))
  (.r<| .it (.r<| .e (ME x p))
  (.a1 (MF x p)<| .r<| .e (MB x p))))))))))
theorem yS (x:af) (x1:Int) (u0:(List Source)) (u1:(List Link)) (u2:(List aV)):eu Tryz.prog 100 [(.agg (TD x)),(sD (k8 u0 x1 u1 u2))] [] (fun r=>(vB r)) (fun _=>[]) (nY x x1 u0 u1 u2):=
  fe tT mX Tryz.func100 (
  .rg {fr:=[(0,1)],fz:=[1]} []<| .cl 2 (oM (⟨x1,u0,u1,u2⟩:aj) x) fun r_=> .r<| .e (!r_))
section
variable (s_:(List af)) (f_:Int) (u0:(List Source)) (u1:(List Link)) (u2:(List aV)) (t8:Int)
abbrev O5:DV:=(bB none 2 af.cell s_)
abbrev k59:List SV:=[(sD (O5 s_)),(sD (.fn 100 1 (k16 f_ u0 u1 u2)))]
abbrev Tt:=((0:Int)≤t8∧t8<(s_.length:Int))
end
theorem vL (s_:(List af)) (f_:Int) (u0:(List Source)) (u1:(List Link)) (u2:(List aV)):eu Tryz.prog 131 (k59 s_ f_ u0 u1 u2) [] (fun r=>(vI r)) (fun _=>[]) (kV s_ f_ u0 u1 u2):=
  fe tT mX Tryz.func131 (
  .r<| .r<| .lp (σ:=Int) (β:=Unit) (0) [] [] ⟨[0,1,7],[],fun t8=>[(8,(vI t8))],fun t8=>[]⟩ ⟨[],[],fun _=>[],fun _=>[]⟩
  (fun t8=> .r<| .it (.r<| .cl 5 (yS (at' s_ t8.toNat) f_ u0 u1 u2) fun r_=> .a1 (Tt s_ t8)<| .rg {} [0,1]<| .it (.r<| .e (.done (.ret t8)))
  (.r<| .e (.next (k18 t8))))
  (.e (.done (.brk ()))))
  (fun _=> .r<| .e (-1)))
theorem tX (s_:(List af)) (f_:Int) (u0:(List Source)) (u1:(List Link)) (u2:(List aV)):eu Tryz.prog 92 (k59 s_ f_ u0 u1 u2) [] (fun r=>(vB r)) (fun _=>[]) (gG s_ f_ u0 u1 u2):=
  fe tT mX Tryz.func92 (
  .r<| .cl 2 (vL s_ f_ u0 u1 u2) fun r_=> .r<| .e (decide (0≤r_)))
theorem rQ (l:(List af)) (x1:Int) (u0:(List Source)) (u1:(List Link)) (u2:(List aV)):eu Tryz.prog 99 [(sD (O5 l)),(sD (k8 u0 x1 u1 u2))] [] (fun r=>(vB r)) (fun _=>[]) (jO l x1 u0 u1 u2):=
  fe tT mX Tryz.func99 (
  .r<| .cg 6 [((decide ((l.length:Int)≤24)),true)] (tX l x1 u0 u1 u2) fun r_=> .r<| .e (bif (decide ((l.length:Int)≤24))then(!r_)else false))
theorem Cx (p:aj) (t:Task):eu Tryz.prog 63 (k0 p t) [] (fun r=>(vB r)) (fun _=>[]) (pq p t):=
  fe tT mX Tryz.func63 (
  .rg {fr:=[(0,2),(1,3)],fz:=[2,3]} []<| .r<| .r<| .cl 6 (rM t.fed (p.racks.length:Int)) fun r_=> .cg 13 [(r_,true)] (rM t.crew p.buses) fun u0=> .cg 19 [(k11 r_ u0)] (rQ t.allowed p.buses p.sources p.links p.racks) fun u1=> .cg 25 [(k12 r_ u0 u1)] (rQ t.goal p.buses p.sources p.links p.racks) fun u2=> .r<| .e (k13 r_ u0 u1 u2))
theorem yC (p:aj) (s_:State):eu Tryz.prog 113 (U4 s_ p) [] (fun r=>(vD (.fn 143 2 (bC [(Eo [(.int .i64 r.1),(bB none 5 Source.cell r.2.1),(bB none 6 Link.cell r.2.2.1),(bB none 4 aV.cell r.2.2.2.1)] 0),(Eo [(bB none 1 ai r.2.2.2.2.1),(bB none 1 ai r.2.2.2.2.2.1),(bB none 1 ai r.2.2.2.2.2.2.1),(bB none 1 ai r.2.2.2.2.2.2.2.1),(bB none 1 ai r.2.2.2.2.2.2.2.2.1),(bB none 1 ai r.2.2.2.2.2.2.2.2.2.1),(bB none 1 ai r.2.2.2.2.2.2.2.2.2.2)] 0)])))) (fun _=>[]) (j3 p s_):=
  fe tT mX Tryz.func113 (
  .rg {fr:=[(0,2),(1,3)],fz:=[2,3]} []<| .r<| .e (p.buses,p.sources,p.links,p.racks,s_.closed,s_.locked,s_.badLink,s_.on_,s_.badSource,s_.earthed,s_.badBus))
noncomputable def jZ:iG:=⟨[22],Nj ([1,1,0,1,0]++[0]) (uJ Tryz.f75),Nj ([1,1,0,1,0]++[1]) (uJ Tryz.f75),125,[]⟩
section
variable (g:aK)
abbrev k63:Ob:=(GR 3 3 false false 1 1 (aY .i64) (aY .i64) g.head)
abbrev k62:List (Nat × Option Ob):=[(0,some (k63 g))]
end
theorem dJ (g:aK) (x:Int):eu Tryz.prog 115 [(.agg [(.mp 0)]),(sI x)] (k62 g) (fun r=>(vI r)) (fun r=>(k62 g)) (bQ g x):=
  fe tT mX Tryz.func115 (
  .rg {fr:=[(0,2)]} []<| .lp (σ:=Int) (β:=Unit) (x) [] [] ⟨[2],[0,2],fun x1=>[(1,(vI x1))],fun x1=>[]⟩ ⟨[],[],fun _=>[],fun _=>[]⟩
  (fun x1=> .rg {an:=[(3, .look (aO aQ x1 g.head).isSome [(cI ((aO aQ x1 g.head).getD 0))])]} [.pf ⟨eG [some .i64] 1 1 g.head.length (yA (aY .i64) g.head) (yV (aY .i64) g.head) [(.int .i64 x1)] [(.d (.int .i64 0))] (aO aQ x1 g.head).isSome [(cI ((aO aQ x1 g.head).getD 0))],iO (fun _=>rfl) (fun _ _=>rfl) g.head x1 0 rfl rfl rfl⟩]<| .r<| .it (.r<| .e (.done (.ret x1)))
  (.r<| .e (.next ((aO aQ x1 g.head).getD 0))))
  (fun _=> .no))
theorem xN (g:aK) (a:Int) (b:Int):eu Tryz.prog 114 [(.agg [(.mp 0)]),(sI a),(sI b)] (k62 g) (fun r=>(.gZ [])) (fun r=>[(0,some (GR 3 3 false false 1 1 (aY .i64) (aY .i64) r))]) (jG g a b):=
  fe tT mX Tryz.func114 (
  .rg {fr:=[(0,2)]} []<| .cr 2 (dJ g a) fun r_=> .cr 5 (dJ g b) fun u0=> .r<| .r<| .it (.rg {an:=[(4, .map (d9 aQ r_ u0 g.head).length (yA (aY .i64) (d9 aQ r_ u0 g.head)) (yV (aY .i64) (d9 aQ r_ u0 g.head)) [])]} [.pf ⟨vG [some .i64] 1 1 g.head.length (yA (aY .i64) g.head) (yV (aY .i64) g.head) [(.int .i64 r_)] [(cI u0)] [] (d9 aQ r_ u0 g.head).length (yA (aY .i64) (d9 aQ r_ u0 g.head)) (yV (aY .i64) (d9 aQ r_ u0 g.head)),Db (fun _=>rfl) (fun _ _=>rfl) g.head r_ u0 rfl rfl⟩]<| .e (d9 aQ r_ u0 g.head))
  (.e g.head))
section
variable (o_:aK)
abbrev k65:Nat × Option Ob:=(0,some (.loop jZ 0 [(5,(vP 1 0))]))
abbrev k64:List (Nat × Option Ob):=[k65,(1,some (.cells 172 [(.mp 2)])),(2,some (k63 o_))]
end
theorem oH (u0:Int) (u1:Int) (u2:Int) (u3:Int) (u4:Int) (u5:(List oO)) (o_:aK):TJ Tryz.prog 0 [(.agg [(cI u0),(cI u1),(cI u2),(cI u3),(cI u4),(.d (bB none 2 oO.cell u5))])] (k64 o_) (fun _=>vB true) (fun r=>[k65,(1,some (.cells 172 [(.mp 2)])),(2,some (GR 3 3 false false 1 1 (aY .i64) (aY .i64) r.head))]) (ja u0 u1 u2 u3 u4 u5 o_):=
  scY tT mX jZ ⟨[5],[0,1,2],fun _=>[(6,(vD (Eo [(.int .i64 u0),(.int .i64 u1),(.int .i64 u2),(.int .i64 u3),(.int .i64 u4),(bB none 2 oO.cell u5)] 0)))],fun _=>[]⟩ (.rg {fr:=[(0,4)],fz:=[4]} []<| .e ())
  (.cl 5 (dQ [(0,2)] (xN o_ u0 u1)) fun r_=> .r<| .e (⟨r_⟩:aK))
section
variable (x2:(List Bool)) (u6:(List Bool)) (u2:(List Bool)) (u7:(List Bool)) (u8:(List Bool)) (u9:(List Bool)) (u1:(List Bool)) (u3:(List (Int × Int))) (t9:Int) (u0:(List Link))
abbrev k67:List DV:=[(bB none 1 ai x2),(bB none 1 ai u6),(bB none 1 ai u2),(bB none 1 ai u7),(bB none 1 ai u8),(bB none 1 ai u9),(bB none 1 ai u1)]
abbrev Xb:DV:=(Eo (k67 x2 u6 u2 u7 u8 u9 u1) 0)
abbrev k68:Ob:=(GR 3 3 false false 1 1 (aY .i64) (aY .i64) u3)
abbrev k69:=(bif (bif (at' x2 t9.toNat)then(!(at' u2 t9.toNat))else false)then(!(at' u1 (((at' u0 t9.toNat).a).toNat)))else false)
abbrev k70:=((0:Int)≤t9∧t9<(x2.length:Int))
abbrev k71:=((gB [((bif (at' x2 t9.toNat)then(!(at' u2 t9.toNat))else false),true)]=true→(0:Int)≤(at' u0 t9.toNat).a∧(at' u0 t9.toNat).a<(u1.length:Int)))
abbrev k72:=((gB [((k69 x2 u2 u1 t9 u0),true)]=true→(0:Int)≤(at' u0 t9.toNat).b∧(at' u0 t9.toNat).b<(u1.length:Int)))
end
theorem xg (x1:Int) (u4:(List Source)) (u0:(List Link)) (u5:(List aV)) (x2:(List Bool)) (u6:(List Bool)) (u2:(List Bool)) (u7:(List Bool)) (u8:(List Bool)) (u9:(List Bool)) (u1:(List Bool)) (o_:aK):eu Tryz.prog 143 [(.one (.yl 0)),(sD (k8 u4 x1 u0 u5)),(sD (Xb x2 u6 u2 u7 u8 u9 u1))] (k64 o_) (fun r=>(.gZ [])) (fun r=>[k65,(1,some (.cells 172 [(.mp 2)])),(2,some (GR 3 3 false false 1 1 (aY .i64) (aY .i64) r.head))]) (mE x1 u4 u0 u5 x2 u6 u2 u7 u8 u9 u1 o_):=
  fe tT mX Tryz.func143 (
  .r<| .lp (σ:=((List (Int × Int)) × Int)) (β:=(List (Int × Int))) (o_.head,0) [] [] ⟨[0,2,7,8],[0,1],fun(u3,t9)=>[(9,(vI t9))],fun(u3,t9)=>[(2,some (k68 u3))]⟩ ⟨[],[0,1],fun o501=>[],fun o501=>[(2,some (GR 3 3 false false 1 1 (aY .i64) (aY .i64) o501))]⟩
  (fun(u3,t9)=> .r<| .it (.a1 (k23 u0 t9)<| .rg {fr:=[(3,10)],fz:=[10]} []<| .fk (bif (k69 x2 u2 u1 t9 u0)then(!(at' u1 (((at' u0 t9.toNat).b).toNat)))else false) (.cy 34 (oH ((at' u0 t9.toNat).a) ((at' u0 t9.toNat).b) ((at' u0 t9.toNat).kind) ((at' u0 t9.toNat).most) ((at' u0 t9.toNat).ohm) ((at' u0 t9.toNat).trip) (⟨u3⟩:aK)) fun r_=> .a4 (k70 x2 t9) ((gB [((at' x2 t9.toNat),true)]=true→(0:Int)≤t9∧t9<(u2.length:Int))) (k71 x2 u2 u1 t9 u0) (k72 x2 u2 u1 t9 u0)<| .rg {ov:=[(31,true,5)]} [0,1,2,3, .k 4]<| .f<| .r<| .e (.next (r_.head,(k18 t9))))
  (.a4 (k70 x2 t9) ((gB [((at' x2 t9.toNat),true)]=true→(0:Int)≤t9∧t9<(u2.length:Int))) (k71 x2 u2 u1 t9 u0) (k72 x2 u2 u1 t9 u0)<| .rg {ov:=[(31,false,4)],sk:=[32,33,34,35]} [0,1,2,3]<| .f<| .r<| .e (.next (u3,(k18 t9)))))
  (.e (.done (.brk u3))))
  (fun o501=> .e (⟨o501⟩:aK)))
section
variable (u1:(List aA)) (u2:(List (Int × Int))) (u3:Int) (s_:State) (u0:Int) (u7:Int) (p:aj) (u5:(List aA)) (u6:Int) (u4:(List (Int × Int)))
abbrev k73:List (Nat × Option Ob):=[(60,some (.rows 129 2 u1.length (rC aA.ev u1) none)),(61,some (k68 u2))]
abbrev k74:=((0:Int)≤u3∧u3<(s_.badBus.length:Int))
abbrev Dk:=((aO aQ u0 u2).getD 0)
abbrev Qh:List CV:=[(cI (Dk u2 u0))]
abbrev Qd:=(d9 aQ u0 (u1.length:Int) u2)
abbrev Xl:=(yA (aY .i64) (Qd u1 u2 u0))
abbrev Xm:=(yV (aY .i64) (Qd u1 u2 u0))
abbrev k80:=((u1.length+[(⟨([]:List Int),([]:List Int)⟩:aA)].length)*48≤140737488355328)
abbrev OO:=(u1++[(⟨([]:List Int),([]:List Int)⟩:aA)])
abbrev Y9:=(rC aA.ev (OO u1))
abbrev Z5:=(aO aQ u0 (Qd u1 u2 u0))
abbrev Qe:=((Z5 u1 u2 u0).getD 0)
abbrev k84:List CV:=[(cI (Qe u1 u2 u0))]
abbrev k86:=((0:Int)≤(Qe u1 u2 u0)∧(Qe u1 u2 u0)<((OO u1).length:Int))
abbrev k91:=((Qe u1 u2 u0).toNat)
abbrev k90:=(at' (OO u1) (k91 u1 u2 u0))
abbrev SB:=((k90 u1 u2 u0).buses)
abbrev k88:=((SB u1 u2 u0).length+[u3].length)
abbrev k87:=((k88 u1 u2 u3 u0)*8≤140737488355328)
abbrev k92:=((SB u1 u2 u0).length+[u3].length≤4611686018427387904)
abbrev Vo:=((SB u1 u2 u0)++[u3])
abbrev k94:=(aC (aY .i64) (Vo u1 u2 u3 u0))
abbrev k96:=((OO u1).set (k91 u1 u2 u0) (⟨(Vo u1 u2 u3 u0),(k90 u1 u2 u0).sources⟩:aA))
abbrev k95:=(rC aA.ev (k96 u1 u2 u3 u0))
abbrev k97:=((OO u1).length)
abbrev k98:=((SB u1 u2 u0).length)
abbrev k99:=(Bg (aC (aY .i64) (SB u1 u2 u0)) (SB u1 u2 u0).length (aC (aY .i64) [u3]))
abbrev X8:=((Vo u1 u2 u3 u0).length)
abbrev ZG:=(U3 (Y9 u1) (k91 u1 u2 u0) 0 (.row 3 1 (Vo u1 u2 u3 u0).length (k94 u1 u2 u3 u0)))
abbrev ZL:=((k96 u1 u2 u3 u0),(Qd u1 u2 u0),(k18 u3))
abbrev Ua:=((0:Int)≤(Dk u2 u0)∧(Dk u2 u0)<(u1.length:Int))
abbrev Ev:=((at' u1 ((Dk u2 u0).toNat)).buses)
abbrev Uz:=((Ev u1 u2 u0).length+[u3].length)
abbrev J4:=((Ev u1 u2 u0)++[u3])
abbrev Sm:=(aC (aY .i64) (J4 u1 u2 u3 u0))
abbrev TB:=(u1.set ((Dk u2 u0).toNat) (⟨(J4 u1 u2 u3 u0),(at' u1 ((Dk u2 u0).toNat)).sources⟩:aA))
abbrev Tp:=(rC aA.ev (TB u1 u2 u3 u0))
abbrev Zx:=(Bg (aC (aY .i64) (Ev u1 u2 u0)) (Ev u1 u2 u0).length (aC (aY .i64) [u3]))
abbrev ZQ:=(U3 (rC aA.ev u1) ((Dk u2 u0).toNat) 0 (.row 3 1 (J4 u1 u2 u3 u0).length (Sm u1 u2 u3 u0)))
abbrev YL:=((TB u1 u2 u3 u0),u2,(k18 u3))
abbrev WX:=((0:Int)≤u7∧u7<(p.sources.length:Int))
abbrev UQ:=((0:Int)≤u7∧u7<(s_.on_.length:Int))
abbrev Yy:=((gB [((at' s_.on_ u7.toNat),true)]=true→(0:Int)≤u7∧u7<(s_.badSource.length:Int)))
abbrev XD:=((bif (at' s_.on_ u7.toNat)then(!(at' s_.badSource u7.toNat))else false),true)
abbrev YQ:=((gB [(XD s_ u7)]=true→(0:Int)≤(at' p.sources u7.toNat).bus∧(at' p.sources u7.toNat).bus<(s_.badBus.length:Int)))
abbrev UB:=((at' p.sources u7.toNat).bus)
abbrev EA:=((at' u5 ((Dk u4 u6).toNat)).sources)
abbrev SY:=((EA u5 u6 u4).length+[u7].length)
abbrev Js:=((EA u5 u6 u4)++[u7])
abbrev RZ:=(aC (aY .i64) (Js u7 u5 u6 u4))
abbrev UJ:=(u5.set ((Dk u4 u6).toNat) (⟨(at' u5 ((Dk u4 u6).toNat)).buses,(Js u7 u5 u6 u4)⟩:aA))
abbrev UH:=(rC aA.ev (UJ u7 u5 u6 u4))
abbrev YZ:=(Bg (aC (aY .i64) (EA u5 u6 u4)) (EA u5 u6 u4).length (aC (aY .i64) [u7]))
abbrev Yi:=(U3 (rC aA.ev u5) ((Dk u4 u6).toNat) 1 (.row 3 1 (Js u7 u5 u6 u4).length (RZ u7 u5 u6 u4)))
abbrev Za:=((UJ u7 u5 u6 u4),(k18 u7))
end
theorem iI (p:aj) (s_:State):eu Tryz.prog 75 (U4 s_ p) [] (fun r=>(vD (bB none 2 aA.cell r))) (fun _=>[]) (fD p s_):=
  fe tT mX Tryz.func75 (
  .rg {fr:=[(0,55),(1,56)],fz:=[56]} []<| .rg {an:=[(0, .map 0 (yA (aY .i64) ([]:(List (Int × Int)))) (yV (aY .i64) ([]:(List (Int × Int)))) [])],fr:=[(0,57),(2,58)]} []<| .cl 2 (yC p s_) fun r_=> .r<| .cl 0 (dQ [(0,59),(1,58),(2,57)] (xg r_.1 r_.2.1 r_.2.2.1 r_.2.2.2.1 r_.2.2.2.2.1 r_.2.2.2.2.2.1 r_.2.2.2.2.2.2.1 r_.2.2.2.2.2.2.2.1 r_.2.2.2.2.2.2.2.2.1 r_.2.2.2.2.2.2.2.2.2.1 r_.2.2.2.2.2.2.2.2.2.2 (⟨([]:(List (Int × Int)))⟩:aK))) fun v0=> .rf 59 [5] [] none 0 []<| .r<| .im (.adR 7 60 129 2 (rC aA.ev ([]:List aA)))<| .rg {an:=[(0, .map 0 (yA (aY .i64) ([]:(List (Int × Int)))) (yV (aY .i64) ([]:(List (Int × Int)))) [])],fr:=[(0,61)]} []<| .r<| .lp (σ:=((List aA) × (List (Int × Int)) × Int)) (β:=((List aA) × (List (Int × Int)))) (([]:List aA),([]:(List (Int × Int))),0) [] [] ⟨[2,3,5,8,31],[55,57,58],fun(u1,u2,u3)=>[(7,(vO 60 false u1.length)),(32,(vI u3))],fun(u1,u2,u3)=>(k73 u1 u2)⟩ ⟨[2,3,5,8],[55,57,58],fun(u9,u4)=>[(7,(vO 60 false u9.length))],fun(u9,u4)=>(k73 u9 u4)⟩
  (fun(u1,u2,u3)=> .r<| .it (.r<| .a1 (k74 u3 s_)<| .r<| .it (.r<| .e (.next (u1,u2,(k18 u3))))
  (.cr 2 (dQ [(0,57)] (dJ v0 u3)) fun u0=> .r<| .rg {an:=[(2, .look (aO aQ u0 u2).isSome (Qh u2 u0))]} [.pf ⟨eG [some .i64] 1 1 u2.length (yA (aY .i64) u2) (yV (aY .i64) u2) [(.int .i64 u0)] [(.d (.int .i64 0))] (aO aQ u0 u2).isSome (Qh u2 u0),iO (fun _=>rfl) (fun _ _=>rfl) u2 u0 0 rfl rfl rfl⟩]<| .r<| .it (.rg {an:=[(4, .map (Qd u1 u2 u0).length (Xl u1 u2 u0) (Xm u1 u2 u0) [])]} [.pf ⟨vG [some .i64] 1 1 u2.length (yA (aY .i64) u2) (yV (aY .i64) u2) [(.int .i64 u0)] [(cI (u1.length:Int))] [] (Qd u1 u2 u0).length (Xl u1 u2 u0) (Xm u1 u2 u0),Db (fun _=>rfl) (fun _ _=>rfl) u2 u0 (u1.length:Int) rfl rfl⟩]<| .a2 (k80 u1) (u1.length+[(⟨([]:List Int),([]:List Int)⟩:aA)].length≤4611686018427387904)<| .rg {an:=[(2, .arr [(⟨([]:List Int),([]:List Int)⟩:aA)].length (sH 2 [nS,nS])),(3, .rows (OO u1).length (Y9 u1))],fr:=[(2,86),(3,87)]} [.pf ⟨[(⟨([]:List Int),([]:List Int)⟩:aA)].length=1,rfl⟩, .pf ⟨aP 1 2 (sH 2 [nS,nS]) (sH 2 [nS,nS]),sQ _ _ _⟩, .e (u1.length),0,1, .pf ⟨(OO u1).length=u1.length+[(⟨([]:List Int),([]:List Int)⟩:aA)].length,List.length_append⟩, .pf ⟨CW u1.length [(⟨([]:List Int),([]:List Int)⟩:aA)].length 2 (rC aA.ev u1) (sH 2 [nS,nS]) (Y9 u1),N8 _ _ _ _ _ (by intro i hi j hj;match i,j,hi,hj with|0,0,_,_=>exact⟨rfl,_,_,_,rfl⟩|0,1,_,_=>exact⟨rfl,_,_,_,rfl⟩)⟩]<| .rg {an:=[(2, .look (Z5 u1 u2 u0).isSome (k84 u1 u2 u0))]} [.pf ⟨eG [some .i64] 1 1 (Qd u1 u2 u0).length (Xl u1 u2 u0) (Xm u1 u2 u0) [(.int .i64 u0)] [(.d (.int .i64 0))] (Z5 u1 u2 u0).isSome (k84 u1 u2 u0),iO (fun _=>rfl) (fun _ _=>rfl) (Qd u1 u2 u0) u0 0 rfl rfl rfl⟩]<| .a3 (k86 u1 u2 u0) (k87 u1 u2 u3 u0) (k92 u1 u2 u3 u0)<| .rg {an:=[(6, .take 88),(8, .arr [u3].length (aC (aY .i64) [u3])),(9, .arr (Vo u1 u2 u3 u0).length (k94 u1 u2 u3 u0)),(12, .rows 0 (k95 u1 u2 u3 u0))],fr:=[(8,89),(9,90)]} [0, .t 0 (Qe u1 u2 u0) (k97 u1), .pf ⟨[u3].length=1,rfl⟩, .pf ⟨aP 1 1 (sH 1 [(.int .i64 u3)]) (aC (aY .i64) [u3]),(by intro i hi j hj;match i,j,hi,hj with|0,0,_,_=>rfl)⟩, .e (k98 u1 u2 u0),1,2, .pf ⟨(Vo u1 u2 u3 u0).length=(SB u1 u2 u0).length+[u3].length,List.length_append⟩, .pf ⟨aP (k88 u1 u2 u3 u0) 1 (k99 u1 u2 u3 u0) (k94 u1 u2 u3 u0),fJ _ _ _ _⟩,0, .t 0 (Qe u1 u2 u0) (k97 u1), .e (X8 u1 u2 u3 u0), .pf ⟨L8 (OO u1).length 2 (ZG u1 u2 u3 u0) (k95 u1 u2 u3 u0),wM _ _ _ _ _ _ _ _ rfl (fun j hj=>(match j,hj with|0,_=>rfl|1,_=>rfl))⟩, .pf ⟨∀i0 j0 c0,((some ((Qe u1 u2 u0).toNat,0,CV.own 88 false (SB u1 u2 u0).length)):Option (Nat × Nat × CV))=some (i0,j0,c0)→i0=(Qe u1 u2 u0).toNat∧j0=0,(fun i0 j0 c0 e=>by cases e;exact⟨rfl,rfl⟩)⟩]<| .im (.ll 87 (OO u1) (k96 u1 u2 u3 u0))<| .r<| .en (.next (ZL u1 u2 u3 u0)) [] [(87,60)])
  (.rg {an:=[(2, .look (aO aQ u0 u2).isSome (Qh u2 u0))]} [.pf ⟨eG [some .i64] 1 1 u2.length (yA (aY .i64) u2) (yV (aY .i64) u2) [(.int .i64 u0)] [(.d (.int .i64 0))] (aO aQ u0 u2).isSome (Qh u2 u0),iO (fun _=>rfl) (fun _ _=>rfl) u2 u0 0 rfl rfl rfl⟩]<| .a3 (Ua u1 u2 u0) ((Uz u1 u2 u3 u0)*8≤140737488355328) ((Ev u1 u2 u0).length+[u3].length≤4611686018427387904)<| .rg {an:=[(6, .take 91),(8, .arr [u3].length (aC (aY .i64) [u3])),(9, .arr (J4 u1 u2 u3 u0).length (Sm u1 u2 u3 u0)),(12, .rows 0 (Tp u1 u2 u3 u0))],fr:=[(8,92),(9,93)]} [0, .t 0 (Dk u2 u0) u1.length, .pf ⟨[u3].length=1,rfl⟩, .pf ⟨aP 1 1 (sH 1 [(.int .i64 u3)]) (aC (aY .i64) [u3]),(by intro i hi j hj;match i,j,hi,hj with|0,0,_,_=>rfl)⟩, .e ((Ev u1 u2 u0).length),1,2, .pf ⟨(J4 u1 u2 u3 u0).length=(Ev u1 u2 u0).length+[u3].length,List.length_append⟩, .pf ⟨aP (Uz u1 u2 u3 u0) 1 (Zx u1 u2 u3 u0) (Sm u1 u2 u3 u0),fJ _ _ _ _⟩,0, .t 0 (Dk u2 u0) u1.length, .e ((J4 u1 u2 u3 u0).length), .pf ⟨L8 u1.length 2 (ZQ u1 u2 u3 u0) (Tp u1 u2 u3 u0),wM _ _ _ _ _ _ _ _ rfl (fun j hj=>(match j,hj with|0,_=>rfl|1,_=>rfl))⟩, .pf ⟨∀i0 j0 c0,((some ((Dk u2 u0).toNat,0,CV.own 91 false (Ev u1 u2 u0).length)):Option (Nat × Nat × CV))=some (i0,j0,c0)→i0=(Dk u2 u0).toNat∧j0=0,(fun i0 j0 c0 e=>by cases e;exact⟨rfl,rfl⟩)⟩]<| .im (.ll 60 u1 (TB u1 u2 u3 u0))<| .r<| .e (.next (YL u1 u2 u3 u0)))))
  (.e (.done (.brk (u1,u2)))))
  (fun(u9,u4)=> .r<| .lp (σ:=((List aA) × Int)) (β:=(List aA)) (u9,0) [] [] ⟨[3,5,8,76,77],[57,58,61],fun(u5,u7)=>[(7,(vO 60 false u5.length)),(78,(vI u7))],fun(u5,u7)=>[(60,some (.rows 129 2 u5.length (rC aA.ev u5) none))]⟩ ⟨[],[],fun u8=>[(7,(vO 60 false u8.length))],fun u8=>[(60,some (.rows 129 2 u8.length (rC aA.ev u8) none))]⟩
  (fun(u5,u7)=> .r<| .it (.a1 (WX u7 p)<| .rg {fr:=[(3,106)],fz:=[106]} []<| .a3 (UQ s_ u7) (Yy s_ u7) (YQ s_ u7 p)<| .rg {} [0,1,2]<| .it (.cr 4 (dQ [(0,57)] (dJ v0 (UB u7 p))) fun u6=> .rg {an:=[(5, .look (aO aQ u6 u4).isSome (Qh u4 u6))]} [0, .pf ⟨eG [some .i64] 1 1 u4.length (yA (aY .i64) u4) (yV (aY .i64) u4) [(.int .i64 u6)] [(.d (.int .i64 0))] (aO aQ u6 u4).isSome (Qh u4 u6),iO (fun _=>rfl) (fun _ _=>rfl) u4 u6 0 rfl rfl rfl⟩]<| .a3 (Ua u5 u4 u6) ((SY u7 u5 u6 u4)*8≤140737488355328) ((EA u5 u6 u4).length+[u7].length≤4611686018427387904)<| .rg {an:=[(6, .take 107),(8, .arr [u7].length (aC (aY .i64) [u7])),(9, .arr (Js u7 u5 u6 u4).length (RZ u7 u5 u6 u4)),(12, .rows 0 (UH u7 u5 u6 u4))],fr:=[(8,108),(9,109)]} [0, .t 0 (Dk u4 u6) u5.length, .pf ⟨[u7].length=1,rfl⟩, .pf ⟨aP 1 1 (sH 1 [(.int .i64 u7)]) (aC (aY .i64) [u7]),(by intro i hi j hj;match i,j,hi,hj with|0,0,_,_=>rfl)⟩, .e ((EA u5 u6 u4).length),1,2, .pf ⟨(Js u7 u5 u6 u4).length=(EA u5 u6 u4).length+[u7].length,List.length_append⟩, .pf ⟨aP (SY u7 u5 u6 u4) 1 (YZ u7 u5 u6 u4) (RZ u7 u5 u6 u4),fJ _ _ _ _⟩,0, .t 0 (Dk u4 u6) u5.length, .e ((Js u7 u5 u6 u4).length), .pf ⟨L8 u5.length 2 (Yi u7 u5 u6 u4) (UH u7 u5 u6 u4),wM _ _ _ _ _ _ _ _ rfl (fun j hj=>(match j,hj with|0,_=>rfl|1,_=>rfl))⟩, .pf ⟨∀i0 j0 c0,((some ((Dk u4 u6).toNat,1,CV.own 107 false (EA u5 u6 u4).length)):Option (Nat × Nat × CV))=some (i0,j0,c0)→i0=(Dk u4 u6).toNat∧j0=1,(fun i0 j0 c0 e=>by cases e;exact⟨rfl,rfl⟩)⟩]<| .im (.ll 60 u5 (UJ u7 u5 u6 u4))<| .r<| .e (.next (Za u7 u5 u6 u4)))
  (.r<| .e (.next (u5,(k18 u7)))))
  (.e (.done (.brk u5))))
  (fun u8=> .r<| .fz [60]<| .im (.us 4 (vD (.sl none 2 u8.length (fun i j=>evD (rC aA.ev u8 i j)))) (vD (bB none 2 aA.cell u8)) (Al.v (qN.one (lH.d (jW.sl (.inr rfl) (fun i _ j hj=>match j,hj with|0,_=> .refl _|1,_=> .refl _))))))<| .e u8)))
section
variable (p:aj) (u0:Int) (u1:(List aA)) (u3:Int) (u2:(List Bool)) (u6:(List Bool))
abbrev Vt:=((1:Int)*p.buses≤281474976710656)
abbrev WH:=((p.buses:Int)≤9223372036854775807)
abbrev G8:=(List.replicate p.buses.toNat (false:Bool))
abbrev OQ:=(aC ai (G8 p))
abbrev OW:=((0:Int)≤u0∧u0<(u1.length:Int))
abbrev Xg:=((0:Int)≤u3∧u3<(((at' u1 u0.toNat).buses).length:Int))
abbrev M0:=(at' ((at' u1 u0.toNat).buses) u3.toNat)
abbrev Wy:=((0:Int)≤(M0 u0 u1 u3)∧(M0 u0 u1 u3)<(u2.length:Int))
abbrev RB:=(u2.set ((M0 u0 u1 u3).toNat) (decide (0<(((at' u1 u0.toNat).sources).length:Int))))
abbrev PK:=(aC ai (RB u0 u1 u3 u2))
abbrev W9:=(yt (aC ai u2) ((M0 u0 u1 u3).toNat) 0 [(.bool (decide (0<(((at' u1 u0.toNat).sources).length:Int))))])
abbrev V4:=((RB u0 u1 u3 u2),(k18 u3))
abbrev Vp:=(u6,(k18 u0))
end
theorem Ep (p:aj) (s_:State):eu Tryz.prog 30 (U4 s_ p) [] (fun r=>(.gZ [(sD (bB none 1 ai r.1)),(sI r.2)])) (fun _=>[]) (fq p s_):=
  fe tT mX Tryz.func30 (
  .rg {fr:=[(0,7),(1,8)],fz:=[7,8]} []<| .cl 2 (bK p s_) fun r_=> .r<| .r<| .it (.r<| .e (([]:List Bool),r_))
  (.a3 ((0:Int)≤p.buses) (Vt p) (WH p)<| .rg {an:=[(2, .arr (G8 p).length (OQ p))],fr:=[(2,9)]} [0, .e ((p.buses:Int)),1,2, .pf ⟨(G8 p).length=p.buses.toNat,List.length_replicate⟩, .pf ⟨aP p.buses.toNat 1 (fun _ j=>[(.bool false)].getD j .nilp) (OQ p),oG _ _ _ _ _ (fun j hj=>(match j,hj with|0,_=>rfl))⟩]<| .cl 2 (iI p s_) fun u1=> .r<| .lp (σ:=((List Bool) × Int)) (β:=(List Bool)) ((G8 p),0) [] [] ⟨[23,24],[],fun(u4,u0)=>[(7,(vO 9 true u4.length)),(25,(vI u0))],fun(u4,u0)=>[(9,some (bE 4 1 ai u4))]⟩ ⟨[],[],fun u5=>[(7,(vO 9 true u5.length))],fun u5=>[(9,some (bE 4 1 ai u5))]⟩
  (fun(u4,u0)=> .r<| .it (.a1 (OW u0 u1)<| .rg {fr:=[(2,13)]} []<| .rg {fz:=[13]} []<| .lp (σ:=((List Bool) × Int)) (β:=(List Bool)) (u4,0) [] [] ⟨[9,23,24,25,30,31],[],fun(u2,u3)=>[(7,(vO 9 true u2.length)),(32,(vI u3))],fun(u2,u3)=>[(9,some (bE 4 1 ai u2))]⟩ ⟨[23,24,25],[],fun u6=>[(7,(vO 9 true u6.length))],fun u6=>[(9,some (bE 4 1 ai u6))]⟩
  (fun(u2,u3)=> .r<| .it (.a1 (Xg u0 u1 u3)<| .r<| .a1 (Wy u0 u1 u3 u2)<| .rg {an:=[(7, .arr 0 (PK u0 u1 u3 u2))]} [0, .t 0 (M0 u0 u1 u3) u2.length, .pf ⟨aP u2.length 1 (W9 u0 u1 u3 u2) (PK u0 u1 u3 u2),eT _ _ _ _ _ _ _ _ rfl (fun j hj=>(match j,hj with|0,_=>rfl))⟩]<| .im (.ll 9 u2 (RB u0 u1 u3 u2))<| .r<| .e (.next (V4 u0 u1 u3 u2)))
  (.e (.done (.brk u2))))
  (fun u6=> .r<| .e (.next (Vp u0 u6))))
  (.e (.done (.brk u4))))
  (fun u5=> .rg {fz:=[9]} []<| .e (u5,0))))
theorem zB (x:Int):eu Tryz.prog 154 [(sI x)] [] (fun r=>(vB r)) (fun _=>[]) (vk x):=
  fe tT mX Tryz.func154 (
  .r<| .r<| .e (!decide (x=x)))
theorem DR (x:Int) (y:Int):eu Tryz.prog 118 [(sI x),(sI y)] [] (fun r=>(vI r)) (fun _=>[]) (qB x y):=
  fe tT mX Tryz.func118 (
  .r<| .cl 1 (zB x) fun r_=> .r<| .cl 1 (zB y) fun u0=> .r<| .r<| .it (.r<| .it (.r<| .e 0)
  (.r<| .e (-1)))
  (.r<| .it (.r<| .e 1)
  (.r<| .it (.r<| .e (-1))
  (.r<| .it (.r<| .e 1)
  (.r<| .e 0)))))
theorem Ar (s1:(List Int)) (s2:(List Int)):eu Tryz.prog 78 [(sD (Q9 s1)),(sD (Q9 s2))] [] (fun r=>(vI r)) (fun _=>[]) (qg s1 s2):=
  fe tT mX Tryz.func78 (
  .r<| .r<| .lp (σ:=Int) (β:=Unit) (0) [] [] ⟨[0,1,9,10],[],fun u0=>[(11,(vI u0))],fun u0=>[]⟩ ⟨[0,1],[],fun _=>[],fun _=>[]⟩
  (fun u0=> .r<| .it (.a1 (Xq s1 u0)<| .r<| .r<| .it (.r<| .e (.done (.ret 1)))
  (.a1 (Xq s2 u0)<| .r<| .cl 2 (DR (at' s1 u0.toNat) (at' s2 u0.toNat)) fun r_=> .r<| .r<| .it (.r<| .e (.done (.ret r_)))
  (.r<| .e (.next (k18 u0)))))
  (.e (.done (.brk ()))))
  (fun _=> .r<| .it (.r<| .e (-1))
  (.r<| .e 0)))
theorem zn (a:ay) (b:ay):eu Tryz.prog 77 [(.agg [(cI a.e0),(cI a.e1)]),(.agg [(cI b.e0),(cI b.e1)])] [] (fun r=>(vI r)) (fun _=>[]) (jh a b):=
  fe tT mX Tryz.func77 (
  .rg {fr:=[(0,2),(1,3)],fz:=[2,3]} []<| .cl 2 ⟨fun{r_} hr_=>((Fn.Uf (args:=[(sD (bB none 1 (aY .i64) [a.e0,a.e1])),(sD (bB none 1 (aY .i64) [b.e0,b.e1]))]) (args':=[(sD (.sl (some true) 1 [a.e0,a.e1].length (fun i j=>([(.int .i64 a.e0),(.int .i64 a.e1)].getD (0+(i*1+j)) .nilp)))),(sD (.sl (some true) 1 [b.e0,b.e1].length (fun i j=>([(.int .i64 b.e0),(.int .i64 b.e1)].getD (0+(i*1+j)) .nilp))))]) (hin:=[]) (hin':=[]) (Ar [a.e0,a.e1] [b.e0,b.e1] hr_) ⟨qN.one (lH.d (jW.sl (.inl rfl) (by intro i hi j hj;match i,j,hi,hj with|0,0,_,_=>exact .refl _|1,0,_,_=>exact .refl _))),qN.one (lH.d (jW.sl (.inl rfl) (by intro i hi j hj;match i,j,hi,hj with|0,0,_,_=>exact .refl _|1,0,_,_=>exact .refl _))),trivial⟩ trivial):Fn Tryz.prog 78 [(sD (.sl (some true) 1 [a.e0,a.e1].length (fun i j=>([(.int .i64 a.e0),(.int .i64 a.e1)].getD (0+(i*1+j)) .nilp)))),(sD (.sl (some true) 1 [b.e0,b.e1].length (fun i j=>([(.int .i64 b.e0),(.int .i64 b.e1)].getD (0+(i*1+j)) .nilp))))] [] (vI r_) [])⟩ fun r_=> .r<| .e r_)
theorem p8 (x y:ay):jh x y=some (if x.e0<y.e0 then -1 else if y.e0<x.e0 then 1 else if x.e1<y.e1 then -1 else if y.e1<x.e1 then 1 else 0):=by
 have hc: ∀a b:Int,qB a b=some (if a<b then -1 else if b<a then 1 else 0):=by
  intro a b
  unfold qB vk
  by_cases h:a<b<;>by_cases g:b<a<;>simp [h,g]
 obtain⟨k,hk⟩: ∃k,FUEL=k+1+1+1:=⟨1180591620717411303421,rfl⟩
 unfold jh qg
 rw [hk]
 simp only [aG,rP,hc,aL,at']
 by_cases h0:x.e0<y.e0<;>by_cases g0:y.e0<x.e0<;>by_cases h1:x.e1<y.e1<;>by_cases g1:y.e1<x.e1<;>simp [h0,g0,h1,g1,IntKind.wrap_i64]
theorem xS (x y:ay):jh x y=some (bA x y):=by unfold bA;rw [p8];rfl
theorem iR (x y:ay):Go.Proofs.ltOf bA x y=true↔x.e0<y.e0∨ ¬ y.e0<x.e0∧x.e1<y.e1:=by
 unfold Go.Proofs.ltOf bA;rw [p8,decide_eq_true_iff]
 by_cases h0:x.e0<y.e0<;>by_cases g0:y.e0<x.e0<;>by_cases h1:x.e1<y.e1<;>by_cases g1:y.e1<x.e1<;>simp [h0,g0,h1,g1]
theorem yF:Go.Sort.SWO (Go.Proofs.ltOf bA) where
 irrefl x:=by rw [←Bool.not_eq_true,iR];omega
 trans x y z h1 h2:=by rw [iR]at*;omega
 ntrans x y z h1 h2:=by rw [←Bool.not_eq_true,iR]at*;omega
theorem yK (x y:ay) (h1:(Go.Proofs.ltOf bA) x y=false) (h2:(Go.Proofs.ltOf bA) y x=false):x=y:=by
 rw [←Bool.not_eq_true,iR]at h1 h2
 obtain⟨a,b⟩:=x
 obtain⟨c,d⟩:=y
 have e1:a=c:=by simp only at h1 h2;omega
 have e2:b=d:=by simp only at h1 h2;omega
 rw [e1,e2]
theorem qH (s:(List ay)) {r:(List ay)} (h:gF s=some r):Fn Tryz.prog 76 [(.one (.own 0 false s.length)),(sD (.fn 77 0 (bC [])))] [(0,some (.arr 117 2 s.length (aC ay.cell s)))] (.gZ []) [(0,some (.arr 117 2 r.length (aC ay.cell r)))]:=
 WZ RQ 2 Tz Qk (fun x:ay=>[.int .i64 x.e0, .int .i64 x.e1]) (fun _=>rfl) (fun x v hv=>by simp at hv;rcases hv with rfl|rfl<;>rfl) bA yF yK (ec:=fun x=>[(cI x.e0),(cI x.e1)])
  (fun x y=>zn x y (xS x y)) (fun F w x=> ⟨rfl,rfl,trivial⟩) (enters_of Tryz.func77 (by kernel_rfl) rfl)
  (fun F w x j hj v=>match j,hj with|0,_=>Iff.rfl|1,_=>Iff.rfl) 76 rfl ⟨_,Tryz.func76,rfl,rfl⟩ s (by cases s with|nil=>(cases h;simp)|cons x xs=>exact h)
section
variable (u6:(List ay)) (u1:Int) (u2:(List aA)) (u0:Int) (u3:Int) (p:aj) (u4:(List ay))
abbrev O8:List (Nat × Option Ob):=[(138,some (bE 117 2 ay.cell u6))]
abbrev Xx:=((0:Int)≤(k18 u1)∧(k18 u1)≤(((at' u2 u0.toNat).sources).length:Int))
abbrev Px:=((k18 u1).toNat)
abbrev Uh:=(((at' u2 u0.toNat).sources).drop (Px u1))
abbrev Z6:=((0:Int)≤u3∧u3<((Uh u1 u2 u0).length:Int))
abbrev KQ:=(at' ((at' u2 u0.toNat).sources) u1.toNat)
abbrev X9:=((0:Int)≤(KQ u1 u2 u0)∧(KQ u1 u2 u0)<(p.sources.length:Int))
abbrev Ye:=((gB [((decide (((at' p.sources ((KQ u1 u2 u0).toNat)).sync)=0)),false)]=true→(0:Int)≤(KQ u1 u2 u0)∧(KQ u1 u2 u0)<(p.sources.length:Int)))
abbrev UO:=(at' (Uh u1 u2 u0) u3.toNat)
abbrev YM:=((gB [((decide (((at' p.sources ((KQ u1 u2 u0).toNat)).sync)=0)),false)]=true→(0:Int)≤(UO u1 u2 u0 u3)∧(UO u1 u2 u0 u3)<(p.sources.length:Int)))
abbrev Hg:=(⟨(KQ u1 u2 u0),(UO u1 u2 u0 u3)⟩:ay)
abbrev Wv:=(u4.length+[(Hg u1 u2 u0 u3)].length)
abbrev Z0:=((Wv u1 u2 u0 u3 u4)*16≤140737488355328)
abbrev Zg:=(u4.length+[(Hg u1 u2 u0 u3)].length≤4611686018427387904)
abbrev Qn:=(aC ay.cell [(Hg u1 u2 u0 u3)])
abbrev Pm:=(u4++[(Hg u1 u2 u0 u3)])
abbrev Uk:=(aC ay.cell (Pm u1 u2 u0 u3 u4))
abbrev XT:=(sH 2 [(.int .i64 (KQ u1 u2 u0)),(.int .i64 (UO u1 u2 u0 u3))])
abbrev Zb:=(Bg (aC ay.cell u4) u4.length (Qn u1 u2 u0 u3))
abbrev Zt:=((Pm u1 u2 u0 u3 u4),(k18 u3))
abbrev PV:=(u4,(k18 u3))
end
theorem Bn (p:aj) (s_:State):eu Tryz.prog 32 (U4 s_ p) [] (fun r=>(.gZ [(sD (bB none 2 ay.cell r.1)),(sI r.2)])) (fun _=>[]) (kP p s_):=
  fe tT mX Tryz.func32 (
  .rg {fr:=[(0,134),(1,135)],fz:=[134,135]} []<| .cl 2 (bK p s_) fun r_=> .r<| .r<| .it (.r<| .e (([]:List ay),r_))
  (.r<| .cl 2 (iI p s_) fun u2=> .r<| .im (.ad 7 268 117 2 (aC ay.cell ([]:List ay)))<| .lp (σ:=((List ay) × Int)) (β:=(List ay)) (([]:List ay),0) [] [(268,138)] ⟨[2,22,23],[],fun(u6,u0)=>[(7,(vO 138 false u6.length)),(24,(vI u0))],fun(u6,u0)=>(O8 u6)⟩ ⟨[],[],fun u5=>[(7,(vO 138 false u5.length))],fun u5=>(O8 u5)⟩
  (fun(u6,u0)=> .r<| .it (.a1 (OW u0 u2)<| .rg {fr:=[(2,235)],fz:=[235]} []<| .r<| .lp (σ:=((List ay) × Int)) (β:=(List ay)) (u6,0) [] [] ⟨[2,9,22,23,24,29,30],[],fun(u7,u1)=>[(7,(vO 138 false u7.length)),(31,(vI u1))],fun(u7,u1)=>(O8 u7)⟩ ⟨[2,22,23,24],[],fun u8=>[(7,(vO 138 false u8.length))],fun u8=>(O8 u8)⟩
  (fun(u7,u1)=> .r<| .it (.a1 ((0:Int)≤u1∧u1<(((at' u2 u0.toNat).sources).length:Int))<| .r<| .a1 (Xx u1 u2 u0)<| .r<| .im (.us 40 (vD (.sl none 1 (((at' u2 u0.toNat).sources).length - (Px u1)) (fun iq jq=>aC (aY .i64) ((at' u2 u0.toNat).sources) (iq+(Px u1)) jq))) (vD (bB none 1 (aY .i64) (Uh u1 u2 u0))) (Al.v (qN.one (lH.d (jW.X7 (by first|rw [List.length_append,List.length_drop]|simp only [List.length_set,List.length_drop,zi]) (.inr rfl) (R3 _ _ _ _))))))<| .lp (σ:=((List ay) × Int)) (β:=(List ay)) (u7,0) [] [] ⟨[2,9,11,22,23,24,29,30,31,40,41],[],fun(u4,u3)=>[(7,(vO 138 false u4.length)),(42,(vI u3))],fun(u4,u3)=>(O8 u4)⟩ ⟨[2,9,22,23,24,29,30,31],[],fun u9=>[(7,(vO 138 false u9.length))],fun u9=>(O8 u9)⟩
  (fun(u4,u3)=> .r<| .it (.a1 (Z6 u1 u2 u0 u3)<| .r<| .a3 (X9 u1 u2 u0 p) (Ye u1 u2 u0 p) (YM u1 u2 u0 u3 p)<| .rg {} [0,1,2]<| .it (.a2 (Z0 u1 u2 u0 u3 u4) (Zg u1 u2 u0 u3 u4)<| .rg {an:=[(4, .arr [(Hg u1 u2 u0 u3)].length (Qn u1 u2 u0 u3)),(5, .arr (Pm u1 u2 u0 u3 u4).length (Uk u1 u2 u0 u3 u4))],fr:=[(4,266),(5,267)]} [.pf ⟨[(Hg u1 u2 u0 u3)].length=1,rfl⟩, .pf ⟨aP 1 2 (XT u1 u2 u0 u3) (Qn u1 u2 u0 u3),(by intro i hi j hj;match i,j,hi,hj with|0,0,_,_=>rfl|0,1,_,_=>rfl)⟩, .e (u4.length),0,1, .pf ⟨(Pm u1 u2 u0 u3 u4).length=u4.length+[(Hg u1 u2 u0 u3)].length,List.length_append⟩, .pf ⟨aP (Wv u1 u2 u0 u3 u4) 2 (Zb u1 u2 u0 u3 u4) (Uk u1 u2 u0 u3 u4),fJ _ _ _ _⟩]<| .r<| .en (.next (Zt u1 u2 u0 u3 u4)) [] [(267,138)])
  (.r<| .e (.next (PV u3 u4))))
  (.e (.done (.brk u4))))
  (fun u9=> .r<| .e (.next (PV u1 u9))))
  (.e (.done (.brk u7))))
  (fun u8=> .r<| .e (.next (PV u0 u8))))
  (.e (.done (.brk u6))))
  (fun u5=> .cl 1 (dQ [(0,138)] ⟨fun h=>qH u5 h⟩) fun v0=> .r<| .a1 (u5.length=v0.length)<| .so 7 138 false u5.length v0.length 0<| .so 77 138 false u5.length v0.length 0<| .fz [138]<| .r<| .e (v0,0))))
theorem Bd (p:aj) (s_:State):eu Tryz.prog 30 (U4 s_ p) [] (fun r=>(.gZ [(.one (.own 0 false r.1.length)),(sI r.2)])) (fun r=>[(0,some (bE 4 1 ai r.1))]) (fq p s_):=
  fe tT mX Tryz.func30 (
  .rg {fr:=[(0,7),(1,8)],fz:=[7,8]} []<| .cl 2 (bK p s_) fun r_=> .r<| .r<| .it (.r<| .im (.ad 4 9 4 1 (aC ai ([]:List Bool)))<| .en (([]:List Bool),r_) [] [(9,0)])
  (.a3 ((0:Int)≤p.buses) (Vt p) (WH p)<| .rg {an:=[(2, .arr (G8 p).length (OQ p))],fr:=[(2,10)]} [0, .e ((p.buses:Int)),1,2, .pf ⟨(G8 p).length=p.buses.toNat,List.length_replicate⟩, .pf ⟨aP p.buses.toNat 1 (fun _ j=>[(.bool false)].getD j .nilp) (OQ p),oG _ _ _ _ _ (fun j hj=>(match j,hj with|0,_=>rfl))⟩]<| .cl 2 (iI p s_) fun u1=> .r<| .lp (σ:=((List Bool) × Int)) (β:=(List Bool)) ((G8 p),0) [] [] ⟨[23,24],[],fun(u4,u0)=>[(7,(vO 10 true u4.length)),(25,(vI u0))],fun(u4,u0)=>[(10,some (bE 4 1 ai u4))]⟩ ⟨[],[],fun u5=>[(7,(vO 10 true u5.length))],fun u5=>[(10,some (bE 4 1 ai u5))]⟩
  (fun(u4,u0)=> .r<| .it (.a1 (OW u0 u1)<| .rg {fr:=[(2,14)]} []<| .rg {fz:=[14]} []<| .lp (σ:=((List Bool) × Int)) (β:=(List Bool)) (u4,0) [] [] ⟨[9,23,24,25,30,31],[],fun(u2,u3)=>[(7,(vO 10 true u2.length)),(32,(vI u3))],fun(u2,u3)=>[(10,some (bE 4 1 ai u2))]⟩ ⟨[23,24,25],[],fun u6=>[(7,(vO 10 true u6.length))],fun u6=>[(10,some (bE 4 1 ai u6))]⟩
  (fun(u2,u3)=> .r<| .it (.a1 (Xg u0 u1 u3)<| .r<| .a1 (Wy u0 u1 u3 u2)<| .rg {an:=[(7, .arr 0 (PK u0 u1 u3 u2))]} [0, .t 0 (M0 u0 u1 u3) u2.length, .pf ⟨aP u2.length 1 (W9 u0 u1 u3 u2) (PK u0 u1 u3 u2),eT _ _ _ _ _ _ _ _ rfl (fun j hj=>(match j,hj with|0,_=>rfl))⟩]<| .im (.ll 10 u2 (RB u0 u1 u3 u2))<| .r<| .e (.next (V4 u0 u1 u3 u2)))
  (.e (.done (.brk u2))))
  (fun u6=> .r<| .e (.next (Vp u0 u6))))
  (.e (.done (.brk u4))))
  (fun u5=> .r<| .en (u5,0) [] [(10,0)])))
section
variable (p:aj) (u0:Int) (r_:((List Bool) × Int)) (u1:(List aJ))
abbrev BX:=((at' p.racks u0.toNat).feeds)
abbrev SK:List DV:=[(.int .i64 ((BX p u0).e0))]
abbrev Ky:List CV:=[(cI ((BX p u0).e0)),(cI ((BX p u0).e1))]
abbrev Y1:=((gB [((decide (0≤((BX p u0).e0))),true)]=true→(0:Int)≤(BX p u0).e0∧(BX p u0).e0<(r_.1.length:Int)))
abbrev Ta:List DV:=[(.int .i64 ((BX p u0).e1))]
abbrev aad:=((gB [((decide (0≤((BX p u0).e1))),true)]=true→(0:Int)≤(BX p u0).e1∧(BX p u0).e1<(r_.1.length:Int)))
abbrev YD:=(bif (decide (0≤((BX p u0).e0)))then(at' r_.1 (((BX p u0).e0).toNat))else false)
abbrev Zz:=(bif (decide (0≤((BX p u0).e1)))then(at' r_.1 (((BX p u0).e1).toNat))else false)
abbrev G9:=(⟨(YD p u0 r_),(Zz p u0 r_)⟩:aJ)
abbrev WO:=(u1.length+[(G9 p u0 r_)].length)
abbrev Yd:=((WO p u0 r_ u1)*2≤140737488355328)
abbrev X6:=(u1.length+[(G9 p u0 r_)].length≤4611686018427387904)
abbrev RD:=(aC aJ.cell [(G9 p u0 r_)])
abbrev PX:=(u1++[(G9 p u0 r_)])
abbrev Tj:=(aC aJ.cell (PX p u0 r_ u1))
abbrev ZN:=(sH 2 [(.bool (YD p u0 r_)),(.bool (Zz p u0 r_))])
abbrev XA:=(Bg (aC aJ.cell u1) u1.length (RD p u0 r_))
abbrev Ym:=((PX p u0 r_ u1),(k18 u0))
end
theorem BV (p:aj) (s_:State):eu Tryz.prog 31 (U4 s_ p) [] (fun r=>(.gZ [(.one (.own 0 false r.1.length)),(sI r.2)])) (fun r=>[(0,some (bE 78 2 aJ.cell r.1))]) (qV p s_):=
  fe tT mX Tryz.func31 (
  .rg {fr:=[(0,19),(1,20)],fz:=[20]} []<| .cl 2 (dQ [(0,21)] (Bd p s_)) fun r_=> .rg {fz:=[21]} []<| .r<| .it (.r<| .im (.ad 4 22 78 2 (aC aJ.cell ([]:List aJ)))<| .en (([]:List aJ),r_.2) [] [(22,0)])
  (.r<| .r<| .im (.ad 8 39 78 2 (aC aJ.cell ([]:List aJ)))<| .lp (σ:=((List aJ) × Int)) (β:=(List aJ)) (([]:List aJ),0) [] [(39,26)] ⟨[6,24,25],[],fun(u1,u0)=>[(8,(vO 26 false u1.length)),(26,(vI u0))],fun(u1,u0)=>[(26,some (bE 78 2 aJ.cell u1))]⟩ ⟨[],[],fun u2=>[(8,(vO 26 false u2.length))],fun u2=>[(26,some (bE 78 2 aJ.cell u2))]⟩
  (fun(u1,u0)=> .r<| .it (.a1 ((0:Int)≤u0∧u0<(p.racks.length:Int))<| .rg {fr:=[(2,35)],fz:=[35]} []<| .rg {fr:=[(0,36)]} []<| .r<| .ul 11<| .r<| .t<| .rg {an:=[(1, .vals (SK p u0))]} [.pf ⟨(0:Int)≤0∧(0:Int)<(2:Nat),(by decide)⟩, .pf ⟨0*1+1≤(Ky p u0).length,Nat.le_of_ble_eq_true rfl⟩, .pf ⟨((Ky p u0).drop (0*1)).take 1=(SK p u0).map .d,rfl⟩]<| .a1 (Y1 p u0 r_)<| .rg {} [0, .pf ⟨(0:Int)≤0∧(0:Int)<(2:Nat),(by decide)⟩]<| .r<| .im (.dp [6,8,11,24,25,26,31,32])<| .r<| .t<| .rg {an:=[(1, .vals (Ta p u0))]} [.pf ⟨(0:Int)≤1∧(1:Int)<(2:Nat),(by decide)⟩, .pf ⟨1*1+1≤(Ky p u0).length,Nat.le_of_ble_eq_true rfl⟩, .pf ⟨((Ky p u0).drop (1*1)).take 1=(Ta p u0).map .d,rfl⟩]<| .a1 (aad p u0 r_)<| .rg {} [0, .pf ⟨(0:Int)≤1∧(1:Int)<(2:Nat),(by decide)⟩]<| .r<| .im (.dp [6,8,11,24,25,26,31,32])<| .r<| .f<| .a2 (Yd p u0 r_ u1) (X6 p u0 r_ u1)<| .rg {an:=[(2, .arr [(G9 p u0 r_)].length (RD p u0 r_)),(3, .arr (PX p u0 r_ u1).length (Tj p u0 r_ u1))],fr:=[(2,37),(3,38)]} [.pf ⟨[(G9 p u0 r_)].length=1,rfl⟩, .pf ⟨aP 1 2 (ZN p u0 r_) (RD p u0 r_),(by intro i hi j hj;match i,j,hi,hj with|0,0,_,_=>rfl|0,1,_,_=>rfl)⟩, .e (u1.length),0,1, .pf ⟨(PX p u0 r_ u1).length=u1.length+[(G9 p u0 r_)].length,List.length_append⟩, .pf ⟨aP (WO p u0 r_ u1) 2 (XA p u0 r_ u1) (Tj p u0 r_ u1),fJ _ _ _ _⟩]<| .r<| .en (.next (Ym p u0 r_ u1)) [] [(38,26)])
  (.e (.done (.brk u1))))
  (fun u2=> .r<| .en (u2,0) [] [(26,0)])))
theorem Bu (r_:Int) (x1:(List aJ)):eu Tryz.prog 101 [(sI r_),(sD (Eo [(bB none 2 aJ.cell x1)] 0))] [] (fun r=>(vB r)) (fun _=>[]) (qY r_ x1):=
  fe tT mX Tryz.func101 (
  .r<| .a2 ((0:Int)≤r_∧r_<(x1.length:Int)) ((gB [((!((at' x1 r_.toNat).e0)),true)]=true→(0:Int)≤r_∧r_<(x1.length:Int)))<| .rg {} [0, .pf ⟨(0:Int)≤0∧(0:Int)<(2:Nat),(by decide)⟩,1, .pf ⟨(0:Int)≤1∧(1:Int)<(2:Nat),(by decide)⟩]<| .e (bif (!((at' x1 r_.toNat).e0))then(!((at' x1 r_.toNat).e1))else false))
section
variable (s_:(List Int)) (f_:(List aJ))
abbrev Yo:List SV:=[(sD (Q9 s_)),(sD (.fn 101 1 (bC [(Eo [(bB none 2 aJ.cell f_)] 0)])))]
end
theorem rZ (s_:(List Int)) (f_:(List aJ)):eu Tryz.prog 132 (Yo s_ f_) [] (fun r=>(vI r)) (fun _=>[]) (jF s_ f_):=
  fe tT mX Tryz.func132 (
  .r<| .r<| .lp (σ:=Int) (β:=Unit) (0) [] [] ⟨[0,1,7],[],fun t8=>[(8,(vI t8))],fun t8=>[]⟩ ⟨[],[],fun _=>[],fun _=>[]⟩
  (fun t8=> .r<| .it (.r<| .cl 5 (Bu (at' s_ t8.toNat) f_) fun r_=> .a1 (Xq s_ t8)<| .rg {} [0,1]<| .it (.r<| .e (.done (.ret t8)))
  (.r<| .e (.next (k18 t8))))
  (.e (.done (.brk ()))))
  (fun _=> .r<| .e (-1)))
theorem qK (s_:(List Int)) (f_:(List aJ)):eu Tryz.prog 97 (Yo s_ f_) [] (fun r=>(vB r)) (fun _=>[]) (fw s_ f_):=
  fe tT mX Tryz.func97 (
  .r<| .cl 2 (rZ s_ f_) fun r_=> .r<| .e (decide (0≤r_)))
theorem Cy (s_:(List Int)) (v_:Int):eu Tryz.prog 171 (k48 s_ v_) [] (fun r=>(vI r)) (fun _=>[]) (sZ s_ v_):=
  fe tT mX Tryz.func171 (
  .r<| .r<| .lp (σ:=Int) (β:=Unit) (0) [] [] ⟨[0,1,7],[],fun t8=>[(8,(vI t8))],fun t8=>[]⟩ ⟨[],[],fun _=>[],fun _=>[]⟩
  (fun t8=> .r<| .it (.r<| .a1 (Xq s_ t8)<| .r<| .it (.r<| .e (.done (.ret t8)))
  (.r<| .e (.next (k18 t8))))
  (.e (.done (.brk ()))))
  (fun _=> .r<| .e (-1)))
theorem qM (s_:(List Int)) (v_:Int):eu Tryz.prog 133 (k48 s_ v_) [] (fun r=>(vB r)) (fun _=>[]) (je s_ v_):=
  fe tT mX Tryz.func133 (
  .r<| .cl 2 (Cy s_ v_) fun r_=> .r<| .e (decide (0≤r_)))
section
variable (p:aj) (s_:State) (t:Task) (b:Int) (u1:Int) (u0:Int)
abbrev XM:List SV:=[(.agg (k1 p)),(.agg (AP s_)),(.agg (k2 t)),(sI b)]
abbrev V7:=((0:Int)≤b∧b<(s_.earthed.length:Int))
abbrev aaZ:=((gB [((decide ((UB u1 p)=b)),true)]=true→(0:Int)≤u1∧u1<(s_.on_.length:Int)))
abbrev TS:=((at' p.links u0.toNat).a)
abbrev UI:=((at' p.links u0.toNat).b)
abbrev Yn:=(IntKind.wrap .i64 ((IntKind.wrap .i64 ((TS p u0)+(UI p u0))) - b))
abbrev aa6:=((bif (decide (((at' p.links u0.toNat).kind)=1))then true else(at' s_.closed u0.toNat)),false)
end
theorem Er (p:aj) (s_:State) (t:Task) (b:Int):eu Tryz.prog 103 (XM p s_ t b) [] (fun r=>(vB r)) (fun _=>[]) (su p s_ t b):=
  fe tT mX Tryz.func103 (
  .rg {fr:=[(0,11),(1,12),(2,13)],fz:=[12,13]} []<| .a1 (V7 s_ b)<| .r<| .it (.r<| .e false)
  (.r<| .lp (σ:=Int) (β:=Unit) (0) [] [] ⟨[3,4,5,6,20,21],[11],fun u1=>[(22,(vI u1))],fun u1=>[]⟩ ⟨[3,4,5,6],[11],fun _=>[],fun _=>[]⟩
  (fun u1=> .r<| .it (.a1 (WX u1 p)<| .rg {fr:=[(3,17)],fz:=[17]} []<| .a1 (aaZ p s_ b u1)<| .r<| .it (.r<| .e (.done (.ret false)))
  (.r<| .e (.next (k18 u1))))
  (.e (.done (.brk ()))))
  (fun _=> .r<| .lp (σ:=Int) (β:=Unit) (0) [] [] ⟨[3,5,6,40,41],[],fun u0=>[(42,(vI u0))],fun u0=>[]⟩ ⟨[],[],fun _=>[],fun _=>[]⟩
  (fun u0=> .r<| .it (.a1 (ZR p u0)<| .rg {fr:=[(3,21)],fz:=[21]} []<| .cg 20 [((bif (!decide ((TS p u0)=b))then(!decide ((UI p u0)=b))else false),false)] (qM t.crew (Yn p b u0)) fun r_=> .r<| .it (.r<| .e (.next (k18 u0)))
  (.a2 ((gB [((decide (((at' p.links u0.toNat).kind)=1)),false)]=true→(0:Int)≤u0∧u0<(s_.closed.length:Int))) ((gB [(aa6 p s_ u0)]=true→(0:Int)≤u0∧u0<(s_.locked.length:Int)))<| .rg {} [0,1]<| .it (.r<| .e (.done (.ret false)))
  (.r<| .e (.next (k18 u0)))))
  (.e (.done (.brk ()))))
  (fun _=> .r<| .e true))))
section
variable (x3:(List Int)) (u9:(List Int)) (v0:(List af)) (v1:(List af)) (x2:(List Bool)) (u3:(List Bool)) (u4:(List Bool)) (u5:(List Bool)) (u6:(List Bool)) (u7:(List Bool)) (u8:(List Bool))
abbrev Yt:DV:=(Eo [(Q9 x3),(Q9 u9),(O5 v0),(O5 v1)] 0)
abbrev pz:=(⟨x2,u3,u4,u5,u6,u7,u8⟩:State)
end
theorem Bw (b:Int) (x1:Int) (u0:(List Source)) (u1:(List Link)) (u2:(List aV)) (x2:(List Bool)) (u3:(List Bool)) (u4:(List Bool)) (u5:(List Bool)) (u6:(List Bool)) (u7:(List Bool)) (u8:(List Bool)) (x3:(List Int)) (u9:(List Int)) (v0:(List af)) (v1:(List af)):eu Tryz.prog 102 [(sI b),(sD (k8 u0 x1 u1 u2)),(sD (Xb x2 u3 u4 u5 u6 u7 u8)),(sD (Yt x3 u9 v0 v1))] [] (fun r=>(vB r)) (fun _=>[]) (rq b x1 u0 u1 u2 x2 u3 u4 u5 u6 u7 u8 x3 u9 v0 v1):=
  fe tT mX Tryz.func102 (
  .r<| .cl 4 (Er (⟨x1,u0,u1,u2⟩:aj) (pz x2 u3 u4 u5 u6 u7 u8) (⟨x3,u9,v0,v1⟩:Task) b) fun r_=> .r<| .e (!r_))
section
variable (s_:(List Int)) (f_:Int) (u0:(List Source)) (u1:(List Link)) (u2:(List aV)) (u3:(List Bool)) (u4:(List Bool)) (u5:(List Bool)) (u6:(List Bool)) (u7:(List Bool)) (u8:(List Bool)) (u9:(List Bool)) (v0:(List Int)) (v1:(List Int)) (v2:(List af)) (v3:(List af))
abbrev ZB:List SV:=[(sD (Q9 s_)),(sD (.fn 102 3 (bC [(k8 u0 f_ u1 u2),(Xb u3 u4 u5 u6 u7 u8 u9),(Yt v0 v1 v2 v3)])))]
end
theorem sF (s_:(List Int)) (f_:Int) (u0:(List Source)) (u1:(List Link)) (u2:(List aV)) (u3:(List Bool)) (u4:(List Bool)) (u5:(List Bool)) (u6:(List Bool)) (u7:(List Bool)) (u8:(List Bool)) (u9:(List Bool)) (v0:(List Int)) (v1:(List Int)) (v2:(List af)) (v3:(List af)):eu Tryz.prog 132 (ZB s_ f_ u0 u1 u2 u3 u4 u5 u6 u7 u8 u9 v0 v1 v2 v3) [] (fun r=>(vI r)) (fun _=>[]) (jo s_ f_ u0 u1 u2 u3 u4 u5 u6 u7 u8 u9 v0 v1 v2 v3):=
  fe tT mX Tryz.func132 (
  .r<| .r<| .lp (σ:=Int) (β:=Unit) (0) [] [] ⟨[0,1,7],[],fun t8=>[(8,(vI t8))],fun t8=>[]⟩ ⟨[],[],fun _=>[],fun _=>[]⟩
  (fun t8=> .r<| .it (.r<| .cl 5 (Bw (at' s_ t8.toNat) f_ u0 u1 u2 u3 u4 u5 u6 u7 u8 u9 v0 v1 v2 v3) fun r_=> .a1 (Xq s_ t8)<| .rg {} [0,1]<| .it (.r<| .e (.done (.ret t8)))
  (.r<| .e (.next (k18 t8))))
  (.e (.done (.brk ()))))
  (fun _=> .r<| .e (-1)))
theorem qL (s_:(List Int)) (f_:Int) (u0:(List Source)) (u1:(List Link)) (u2:(List aV)) (u3:(List Bool)) (u4:(List Bool)) (u5:(List Bool)) (u6:(List Bool)) (u7:(List Bool)) (u8:(List Bool)) (u9:(List Bool)) (v0:(List Int)) (v1:(List Int)) (v2:(List af)) (v3:(List af)):eu Tryz.prog 97 (ZB s_ f_ u0 u1 u2 u3 u4 u5 u6 u7 u8 u9 v0 v1 v2 v3) [] (fun r=>(vB r)) (fun _=>[]) (fA s_ f_ u0 u1 u2 u3 u4 u5 u6 u7 u8 u9 v0 v1 v2 v3):=
  fe tT mX Tryz.func97 (
  .r<| .cl 2 (sF s_ f_ u0 u1 u2 u3 u4 u5 u6 u7 u8 u9 v0 v1 v2 v3) fun r_=> .r<| .e (decide (0≤r_)))
section
variable (p:aj) (s_:State) (t:Task)
abbrev Z4:List SV:=[(.agg (k1 p)),(.agg (AP s_)),(.agg (k2 t))]
end
theorem wT (p:aj) (s_:State) (t:Task):eu Tryz.prog 64 (Z4 p s_ t) [] (fun r=>(vI r)) (fun _=>[]) (ny p s_ t):=
  fe tT mX Tryz.func64 (
  .rg {fr:=[(0,5),(1,6),(2,7)],fz:=[5,6,7]} []<| .cl 2 (Ep p s_) fun r_=> .r<| .r<| .lp (σ:=Int) (β:=Unit) (0) [] [] ⟨[3,4,5,21,22],[],fun u0=>[(23,(vI u0))],fun u0=>[]⟩ ⟨[3,4,5],[],fun _=>[],fun _=>[]⟩
  (fun u0=> .r<| .it (.a1 ((0:Int)≤u0∧u0<(r_.1.length:Int))<| .r<| .a1 ((gB [((at' r_.1 u0.toNat),true)]=true→(0:Int)≤u0∧u0<(s_.earthed.length:Int)))<| .r<| .it (.r<| .e (.done (.ret 40)))
  (.r<| .e (.next (k18 u0))))
  (.e (.done (.brk ()))))
  (fun _=> .cl 2 (Bn p s_) fun u2=> .r<| .r<| .it (.r<| .e 41)
  (.cl 2 (dQ [(0,8)] (BV p s_)) fun u1=> .rg {fr:=[(6,9)],fz:=[8]} []<| .fz [9]<| .cl 3 (qK t.fed u1.1) fun u3=> .r<| .it (.r<| .e 42)
  (.cl 3 (qL t.crew p.buses p.sources p.links p.racks s_.closed s_.locked s_.badLink s_.on_ s_.badSource s_.earthed s_.badBus t.fed t.crew t.allowed t.goal) fun u4=> .r<| .it (.r<| .e 45)
  (.r<| .e 0)))))
theorem fO (p:aj) (s_:State) (t:Task):eu Tryz.prog 23 (Z4 p s_ t) [] (fun r=>(vI r)) (fun _=>[]) (eH p s_ t):=
  fe tT mX Tryz.func23 (
  .rg {fr:=[(0,3),(1,4),(2,5)],fz:=[3,4,5]} []<| .cl 2 (bK p s_) fun r_=> .r<| .r<| .it (.r<| .e r_)
  (.cl 2 (Cx p t) fun u1=> .r<| .it (.r<| .e 1)
  (.cl 3 (wT p s_ t) fun u0=> .r<| .e u0)))
section
variable (s_:State)
abbrev Xi:List SV:=[(.agg (AP s_))]
abbrev Wp:=(GU 280 (List.replicate 280 false) 0 s_.closed (Nat.min s_.closed.length 280))
abbrev X0:=(aC ai (Wp s_))
abbrev Wo:=(GU 280 (Wp s_) 40 s_.locked (Nat.min s_.locked.length 240))
abbrev XL:=(aC ai (Wo s_))
abbrev VZ:=(GU 280 (Wo s_) 80 s_.badLink (Nat.min s_.badLink.length 200))
abbrev Yf:=(aC ai (VZ s_))
abbrev VQ:=(GU 280 (VZ s_) 120 s_.on_ (Nat.min s_.on_.length 160))
abbrev ZF:=(aC ai (VQ s_))
abbrev VD:=(GU 280 (VQ s_) 160 s_.badSource (Nat.min s_.badSource.length 120))
abbrev Yc:=(aC ai (VD s_))
abbrev Wd:=(GU 280 (VD s_) 200 s_.earthed (Nat.min s_.earthed.length 80))
abbrev Zr:=(aC ai (Wd s_))
abbrev XB:=(GU 280 (Wd s_) 240 s_.badBus (Nat.min s_.badBus.length 40))
end
theorem qx (s_:State):eu Tryz.prog 61 (Xi s_) [] (fun r=>(.v (.agg (abm 280 r)))) (fun _=>[]) (nI s_):=
  fe tT mX Tryz.func61 (
  .rg {fr:=[(0,10),(1,11)],fz:=[10]} []<| .rg {an:=[(0, .arr 280 (aC ai (List.replicate 280 false)))],fr:=[(0,12)]} [.e (280), .pf ⟨aP 280 1 (fun i _=>(List.replicate 280 (DV.bool false)).getD i .nilp) (aC ai (List.replicate 280 false)),WC 280⟩]<| .r<| .ul 11<| .r<| .t<| .rg {an:=[(1, .vals [(bB none 1 ai s_.closed)])]} [.pf ⟨(0:Int)≤0∧(0:Int)<(7:Nat),(by decide)⟩, .pf ⟨0*1+1≤(AP s_).length,Nat.le_of_ble_eq_true rfl⟩, .pf ⟨((AP s_).drop (0*1)).take 1=[(bB none 1 ai s_.closed)].map .d,rfl⟩]<| .rg {an:=[(4, .take 12)],fr:=[(2,13)]} [.e (280), .pf ⟨(0:Int)≤(0:Int)∧(0:Int)<(280:Nat),(by decide)⟩, .e (280)]<| .im (.uh 12 (some (.arr 115 1 280 (Bp (aC ai (List.replicate 280 false)) 0 (aC ai s_.closed) (Nat.min s_.closed.length 280)))) (some (.arr 115 1 280 (X0 s_))) (vE (NS 280 (List.replicate 280 false) 0 s_.closed (Nat.min s_.closed.length 280))))<| .r<| .im (.dp [2,3,20,21])<| .r<| .t<| .rg {an:=[(1, .vals [(Y8 s_)])]} [.pf ⟨(0:Int)≤1∧(1:Int)<(7:Nat),(by decide)⟩, .pf ⟨1*1+1≤(AP s_).length,Nat.le_of_ble_eq_true rfl⟩, .pf ⟨((AP s_).drop (1*1)).take 1=[(Y8 s_)].map .d,rfl⟩]<| .rg {an:=[(4, .take 12)],fr:=[(2,14)]} [.e (280), .pf ⟨(0:Int)≤(40:Int)∧(40:Int)<(280:Nat),(by decide)⟩, .e (240)]<| .im (.uh 12 (some (.arr 115 1 280 (Bp (X0 s_) 40 (aC ai s_.locked) (Nat.min s_.locked.length 240)))) (some (.arr 115 1 280 (XL s_))) (vE (NS 280 (Wp s_) 40 s_.locked (Nat.min s_.locked.length 240))))<| .r<| .im (.dp [2,3,20,21])<| .r<| .t<| .rg {an:=[(1, .vals [(XZ s_)])]} [.pf ⟨(0:Int)≤2∧(2:Int)<(7:Nat),(by decide)⟩, .pf ⟨2*1+1≤(AP s_).length,Nat.le_of_ble_eq_true rfl⟩, .pf ⟨((AP s_).drop (2*1)).take 1=[(XZ s_)].map .d,rfl⟩]<| .rg {an:=[(4, .take 12)],fr:=[(2,15)]} [.e (280), .pf ⟨(0:Int)≤(80:Int)∧(80:Int)<(280:Nat),(by decide)⟩, .e (200)]<| .im (.uh 12 (some (.arr 115 1 280 (Bp (XL s_) 80 (aC ai s_.badLink) (Nat.min s_.badLink.length 200)))) (some (.arr 115 1 280 (Yf s_))) (vE (NS 280 (Wo s_) 80 s_.badLink (Nat.min s_.badLink.length 200))))<| .r<| .im (.dp [2,3,20,21])<| .r<| .t<| .rg {an:=[(1, .vals [(YX s_)])]} [.pf ⟨(0:Int)≤3∧(3:Int)<(7:Nat),(by decide)⟩, .pf ⟨3*1+1≤(AP s_).length,Nat.le_of_ble_eq_true rfl⟩, .pf ⟨((AP s_).drop (3*1)).take 1=[(YX s_)].map .d,rfl⟩]<| .rg {an:=[(4, .take 12)],fr:=[(2,16)]} [.e (280), .pf ⟨(0:Int)≤(120:Int)∧(120:Int)<(280:Nat),(by decide)⟩, .e (160)]<| .im (.uh 12 (some (.arr 115 1 280 (Bp (Yf s_) 120 (aC ai s_.on_) (Nat.min s_.on_.length 160)))) (some (.arr 115 1 280 (ZF s_))) (vE (NS 280 (VZ s_) 120 s_.on_ (Nat.min s_.on_.length 160))))<| .r<| .im (.dp [2,3,20,21])<| .r<| .t<| .rg {an:=[(1, .vals [(YK s_)])]} [.pf ⟨(0:Int)≤4∧(4:Int)<(7:Nat),(by decide)⟩, .pf ⟨4*1+1≤(AP s_).length,Nat.le_of_ble_eq_true rfl⟩, .pf ⟨((AP s_).drop (4*1)).take 1=[(YK s_)].map .d,rfl⟩]<| .rg {an:=[(4, .take 12)],fr:=[(2,17)]} [.e (280), .pf ⟨(0:Int)≤(160:Int)∧(160:Int)<(280:Nat),(by decide)⟩, .e (120)]<| .im (.uh 12 (some (.arr 115 1 280 (Bp (ZF s_) 160 (aC ai s_.badSource) (Nat.min s_.badSource.length 120)))) (some (.arr 115 1 280 (Yc s_))) (vE (NS 280 (VQ s_) 160 s_.badSource (Nat.min s_.badSource.length 120))))<| .r<| .im (.dp [2,3,20,21])<| .r<| .t<| .rg {an:=[(1, .vals [(XU s_)])]} [.pf ⟨(0:Int)≤5∧(5:Int)<(7:Nat),(by decide)⟩, .pf ⟨5*1+1≤(AP s_).length,Nat.le_of_ble_eq_true rfl⟩, .pf ⟨((AP s_).drop (5*1)).take 1=[(XU s_)].map .d,rfl⟩]<| .rg {an:=[(4, .take 12)],fr:=[(2,18)]} [.e (280), .pf ⟨(0:Int)≤(200:Int)∧(200:Int)<(280:Nat),(by decide)⟩, .e (80)]<| .im (.uh 12 (some (.arr 115 1 280 (Bp (Yc s_) 200 (aC ai s_.earthed) (Nat.min s_.earthed.length 80)))) (some (.arr 115 1 280 (Zr s_))) (vE (NS 280 (VD s_) 200 s_.earthed (Nat.min s_.earthed.length 80))))<| .r<| .im (.dp [2,3,20,21])<| .r<| .t<| .rg {an:=[(1, .vals [(Ya s_)])]} [.pf ⟨(0:Int)≤6∧(6:Int)<(7:Nat),(by decide)⟩, .pf ⟨6*1+1≤(AP s_).length,Nat.le_of_ble_eq_true rfl⟩, .pf ⟨((AP s_).drop (6*1)).take 1=[(Ya s_)].map .d,rfl⟩]<| .rg {an:=[(4, .take 12)],fr:=[(2,19)]} [.e (280), .pf ⟨(0:Int)≤(240:Int)∧(240:Int)<(280:Nat),(by decide)⟩, .e (40)]<| .im (.uh 12 (some (.arr 115 1 280 (Bp (Zr s_) 240 (aC ai s_.badBus) (Nat.min s_.badBus.length 40)))) (some (.arr 115 1 280 (aC ai (XB s_)))) (vE (NS 280 (Wd s_) 240 s_.badBus (Nat.min s_.badBus.length 40))))<| .r<| .im (.dp [2,3,20,21])<| .r<| .f<| .rg {fz:=[11]} [.pf ⟨0+280≤280,(by decide)⟩, .pf ⟨1≤280,(by decide)⟩]<| .e (XB s_))
theorem vw (s_:(List Bool)) (u0:Bool):eu Tryz.prog 91 [(sD (bB (some u0) 1 ai s_))] [] (fun r=>(vD (bB none 1 ai r))) (fun _=>[]) (pI s_ u0):=
  fe tT mX Tryz.func91 (
  .r<| .r<| .it (.r<| .e ([]:List Bool))
  (.a2 ((([]:List Bool).length+s_.length)*1≤140737488355328) (([]:List Bool).length+s_.length≤4611686018427387904)<| .rg {an:=[(0, .arr ([]:List Bool).length (aC ai ([]:List Bool))),(2, .arr (([]:List Bool)++s_).length (aC ai (([]:List Bool)++s_)))],fr:=[(0,2),(2,3)],fz:=[3]} [.pf ⟨([]:List Bool).length=0,rfl⟩, .pf ⟨aP 0 1 (sH 1 []) (aC ai ([]:List Bool)),(fun i hi=>absurd hi (Nat.not_lt_zero i))⟩, .e (([]:List Bool).length),0,1, .pf ⟨(([]:List Bool)++s_).length=([]:List Bool).length+s_.length,List.length_append⟩, .pf ⟨aP (([]:List Bool).length+s_.length) 1 (Bg (aC ai ([]:List Bool)) ([]:List Bool).length (aC ai s_)) (aC ai (([]:List Bool)++s_)),fJ _ _ _ _⟩]<| .e (([]:List Bool)++s_)))
theorem dX (s:(List Bool)) {r:(List Bool)} (h:au s=some r):Fn Tryz.prog 91 [(sD (bB none 1 ai s))] [] (vD (bB none 1 ai r)) []:=by
 refine Fn.nn (vw s true h) fun hl=> ?_
 have hs:s=[]:=List.eq_nil_of_length_eq_zero hl
 subst hs
 exact vw [] false (by rw [←h];kernel_rfl)
theorem vF (s_:State):eu Tryz.prog 53 (Xi s_) [] (fun r=>(.v (.agg [(.d (bB none 1 ai r.closed)),(.d (bB none 1 ai r.locked)),(.d (bB none 1 ai r.badLink)),(.d (bB none 1 ai r.on_)),(.d (bB none 1 ai r.badSource)),(.d (bB none 1 ai r.earthed)),(.d (bB none 1 ai r.badBus))]))) (fun _=>[]) (jQ s_):=
  fe tT mX Tryz.func53 (
  .rg {fr:=[(0,3),(1,4)]} []<| .rg {an:=[(7, .cells)],fr:=[(7,5)]} []<| .ul 11<| .r<| .t<| .a1 ((0:Int)≤0∧0<(7:Int))<| .r<| .cl 4 ⟨fun h=>dX s_.closed h⟩ fun r_=> .r<| .r<| .im (.dp [1,2,12,13,14])<| .r<| .t<| .a1 ((0:Int)≤1∧1<(7:Int))<| .r<| .cl 4 ⟨fun h=>dX s_.locked h⟩ fun u0=> .r<| .r<| .im (.dp [1,2,12,13,14])<| .r<| .t<| .a1 ((0:Int)≤2∧2<(7:Int))<| .r<| .cl 4 ⟨fun h=>dX s_.badLink h⟩ fun u1=> .r<| .r<| .im (.dp [1,2,12,13,14])<| .r<| .t<| .a1 ((0:Int)≤3∧3<(7:Int))<| .r<| .cl 4 ⟨fun h=>dX s_.on_ h⟩ fun u2=> .r<| .r<| .im (.dp [1,2,12,13,14])<| .r<| .t<| .a1 ((0:Int)≤4∧4<(7:Int))<| .r<| .cl 4 ⟨fun h=>dX s_.badSource h⟩ fun u3=> .r<| .r<| .im (.dp [1,2,12,13,14])<| .r<| .t<| .a1 ((0:Int)≤5∧5<(7:Int))<| .r<| .cl 4 ⟨fun h=>dX s_.earthed h⟩ fun u4=> .r<| .r<| .im (.dp [1,2,12,13,14])<| .r<| .t<| .a1 ((0:Int)≤6∧6<(7:Int))<| .r<| .cl 4 ⟨fun h=>dX s_.badBus h⟩ fun u5=> .r<| .r<| .im (.dp [1,2,12,13,14])<| .r<| .f<| .rg {fz:=[4]} []<| .e (pz r_ u0 u1 u2 u3 u4 u5))
end
end Sg
