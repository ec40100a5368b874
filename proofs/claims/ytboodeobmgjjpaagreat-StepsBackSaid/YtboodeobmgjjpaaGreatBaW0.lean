import Derived.Test.YtboodeobmgjjpaaGreatBaGm
import Derived.Test.YtboodeobmgjjpaaGreatProg
import Derived.Test.YtboodeobmgjjpaaGreatBaLd
set_option linter.all false
namespace Sg
open Go Go.Proofs
set_option maxRecDepth 20000
noncomputable section
noncomputable def TT:List (Nat × TI):=[(3,⟨Tryz.t3.desc,Tryz.t3.size,Tryz.t3.bytes,zl Tryz.t3,false⟩),
  (4,⟨Tryz.t4.desc,Tryz.t4.size,Tryz.t4.bytes,zl Tryz.t4,false⟩),
  (22,⟨Tryz.t22.desc,Tryz.t22.size,Tryz.t22.bytes,zl Tryz.t22,false⟩),
  (23,⟨Tryz.t23.desc,Tryz.t23.size,Tryz.t23.bytes,zl Tryz.t23,false⟩),
  (24,⟨Tryz.t24.desc,Tryz.t24.size,Tryz.t24.bytes,zl Tryz.t24,false⟩),
  (26,⟨Tryz.t25.desc,Tryz.t26.size,Tryz.t26.bytes,zl Tryz.t26,false⟩),
  (27,⟨Tryz.t27.desc,Tryz.t27.size,Tryz.t27.bytes,zl Tryz.t27,false⟩),
  (29,⟨Tryz.t28.desc,Tryz.t29.size,Tryz.t29.bytes,zl Tryz.t29,false⟩),
  (30,⟨Tryz.t30.desc,Tryz.t30.size,Tryz.t30.bytes,zl Tryz.t30,false⟩),
  (31,⟨Tryz.t31.desc,Tryz.t31.size,Tryz.t31.bytes,zl Tryz.t31,false⟩),
  (33,⟨Tryz.t32.desc,Tryz.t33.size,Tryz.t33.bytes,zl Tryz.t33,false⟩),
  (36,⟨Tryz.t36.desc,Tryz.t36.size,Tryz.t36.bytes,zl Tryz.t36,false⟩),
  (37,⟨Tryz.t3.desc,Tryz.t37.size,Tryz.t37.bytes,zl Tryz.t37,false⟩),
  (40,⟨Tryz.t32.desc,Tryz.t40.size,Tryz.t40.bytes,zl Tryz.t40,false⟩),
  (52,⟨Tryz.t3.desc,Tryz.t52.size,Tryz.t52.bytes,zl Tryz.t52,false⟩),
  (53,⟨Tryz.t53.desc,Tryz.t53.size,Tryz.t53.bytes,zl Tryz.t53,false⟩),
  (55,⟨Tryz.t54.desc,Tryz.t55.size,Tryz.t55.bytes,zl Tryz.t55,false⟩),
  (56,⟨Tryz.t3.desc,Tryz.t56.size,Tryz.t56.bytes,zl Tryz.t56,false⟩),
  (58,⟨Tryz.t57.desc,Tryz.t58.size,Tryz.t58.bytes,zl Tryz.t58,true⟩),
  (59,⟨Tryz.t3.desc,Tryz.t59.size,Tryz.t59.bytes,zl Tryz.t59,false⟩),
  (61,⟨Tryz.t60.desc,Tryz.t61.size,Tryz.t61.bytes,zl Tryz.t61,true⟩),
  (72,⟨Tryz.t72.desc,Tryz.t72.size,Tryz.t72.bytes,zl Tryz.t72,false⟩),
  (75,⟨Tryz.t75.desc,Tryz.t75.size,Tryz.t75.bytes,zl Tryz.t75,false⟩),
  (78,⟨Tryz.t78.desc,Tryz.t78.size,Tryz.t78.bytes,zl Tryz.t78,true⟩),
  (99,⟨Tryz.t99.desc,Tryz.t99.size,Tryz.t99.bytes,zl Tryz.t99,false⟩),
  (100,⟨Tryz.t100.desc,Tryz.t100.size,Tryz.t100.bytes,zl Tryz.t100,false⟩),
  (101,⟨Tryz.t101.desc,Tryz.t101.size,Tryz.t101.bytes,zl Tryz.t101,false⟩),
  (103,⟨Tryz.t102.desc,Tryz.t103.size,Tryz.t103.bytes,zl Tryz.t103,false⟩),
  (112,⟨Tryz.t112.desc,Tryz.t112.size,Tryz.t112.bytes,zl Tryz.t112,false⟩),
  (115,⟨Tryz.t114.desc,Tryz.t115.size,Tryz.t115.bytes,zl Tryz.t115,true⟩),
  (117,⟨Tryz.t117.desc,Tryz.t117.size,Tryz.t117.bytes,zl Tryz.t117,true⟩),
  (119,⟨Tryz.t118.desc,Tryz.t119.size,Tryz.t119.bytes,zl Tryz.t119,true⟩),
  (126,⟨Tryz.t126.desc,Tryz.t126.size,Tryz.t126.bytes,zl Tryz.t126,false⟩),
  (129,⟨Tryz.t128.desc,Tryz.t129.size,Tryz.t129.bytes,zl Tryz.t129,false⟩),
  (133,⟨Tryz.t133.desc,Tryz.t133.size,Tryz.t133.bytes,zl Tryz.t133,false⟩),
  (145,⟨Tryz.t145.desc,Tryz.t145.size,Tryz.t145.bytes,zl Tryz.t145,false⟩),
  (147,⟨Tryz.t146.desc,Tryz.t147.size,Tryz.t147.bytes,zl Tryz.t147,false⟩),
  (148,⟨Tryz.t148.desc,Tryz.t148.size,Tryz.t148.bytes,zl Tryz.t148,false⟩),
  (149,⟨Tryz.t149.desc,Tryz.t149.size,Tryz.t149.bytes,zl Tryz.t149,false⟩),
  (154,⟨Tryz.t154.desc,Tryz.t154.size,Tryz.t154.bytes,zl Tryz.t154,false⟩),
  (155,⟨Tryz.t155.desc,Tryz.t155.size,Tryz.t155.bytes,zl Tryz.t155,false⟩),
  (165,⟨Tryz.t165.desc,Tryz.t165.size,Tryz.t165.bytes,zl Tryz.t165,false⟩),
  (167,⟨Tryz.t166.desc,Tryz.t167.size,Tryz.t167.bytes,zl Tryz.t167,false⟩),
  (168,⟨Tryz.t168.desc,Tryz.t168.size,Tryz.t168.bytes,zl Tryz.t168,false⟩),
  (170,⟨Tryz.t170.desc,Tryz.t170.size,Tryz.t170.bytes,zl Tryz.t170,false⟩),
  (172,⟨Tryz.t171.desc,Tryz.t172.size,Tryz.t172.bytes,zl Tryz.t172,false⟩),
  (182,⟨Tryz.t182.desc,Tryz.t182.size,Tryz.t182.bytes,zl Tryz.t182,false⟩),
  (184,⟨Tryz.t183.desc,Tryz.t184.size,Tryz.t184.bytes,zl Tryz.t184,false⟩),
  (185,⟨Tryz.t185.desc,Tryz.t185.size,Tryz.t185.bytes,zl Tryz.t185,false⟩),
  (193,⟨Tryz.t193.desc,Tryz.t193.size,Tryz.t193.bytes,zl Tryz.t193,false⟩),
  (196,⟨Tryz.t196.desc,Tryz.t196.size,Tryz.t196.bytes,zl Tryz.t196,false⟩),
  (199,⟨Tryz.t199.desc,Tryz.t199.size,Tryz.t199.bytes,zl Tryz.t199,false⟩),
  (220,⟨Tryz.t219.desc,Tryz.t220.size,Tryz.t220.bytes,zl Tryz.t220,true⟩)]
theorem tT:rF Tryz.prog TT:=⟨gm (by kernel_rfl) (by kernel_rfl) (by kernel_rfl),⟨iM,dz (by kernel_rfl)⟩,gm (by kernel_rfl) (by kernel_rfl) (by kernel_rfl),⟨iM,dz (by kernel_rfl)⟩,gm (by kernel_rfl) (by kernel_rfl) (by kernel_rfl),⟨iM,dz (by kernel_rfl)⟩,gm (by kernel_rfl) (by kernel_rfl) (by kernel_rfl),⟨iM,dz (by kernel_rfl)⟩,gm (by kernel_rfl) (by kernel_rfl) (by kernel_rfl),⟨iM,dz (by kernel_rfl)⟩,gm (by kernel_rfl) (by kernel_rfl) (by kernel_rfl),⟨iM,dz (by kernel_rfl)⟩,gm (by kernel_rfl) (by kernel_rfl) (by kernel_rfl),⟨iM,dz (by kernel_rfl)⟩,gm (by kernel_rfl) (by kernel_rfl) (by kernel_rfl),⟨iM,dz (by kernel_rfl)⟩,gm (by kernel_rfl) (by kernel_rfl) (by kernel_rfl),⟨iM,dz (by kernel_rfl)⟩,gm (by kernel_rfl) (by kernel_rfl) (by kernel_rfl),⟨iM,dz (by kernel_rfl)⟩,gm (by kernel_rfl) (by kernel_rfl) (by kernel_rfl),⟨iM,dz (by kernel_rfl)⟩,gm (by kernel_rfl) (by kernel_rfl) (by kernel_rfl),⟨iM,dz (by kernel_rfl)⟩,gm (by kernel_rfl) (by kernel_rfl) (by kernel_rfl),⟨iM,dz (by kernel_rfl)⟩,gm (by kernel_rfl) (by kernel_rfl) (by kernel_rfl),⟨iM,dz (by kernel_rfl)⟩,gm (by kernel_rfl) (by kernel_rfl) (by kernel_rfl),⟨iM,dz (by kernel_rfl)⟩,gm (by kernel_rfl) (by kernel_rfl) (by kernel_rfl),⟨iM,dz (by kernel_rfl)⟩,gm (by kernel_rfl) (by kernel_rfl) (by kernel_rfl),⟨iM,dz (by kernel_rfl)⟩,gm (by kernel_rfl) (by kernel_rfl) (by kernel_rfl),⟨iM,dz (by kernel_rfl)⟩,gm (by kernel_rfl) (by kernel_rfl) (by kernel_rfl),⟨fun _=> ⟨by kernel_rfl,by kernel_rfl⟩,dz (by kernel_rfl)⟩,gm (by kernel_rfl) (by kernel_rfl) (by kernel_rfl),⟨iM,dz (by kernel_rfl)⟩,gm (by kernel_rfl) (by kernel_rfl) (by kernel_rfl),⟨fun _=> ⟨by kernel_rfl,by kernel_rfl⟩,dz (by kernel_rfl)⟩,gm (by kernel_rfl) (by kernel_rfl) (by kernel_rfl),⟨iM,dz (by kernel_rfl)⟩,gm (by kernel_rfl) (by kernel_rfl) (by kernel_rfl),⟨iM,dz (by kernel_rfl)⟩,gm (by kernel_rfl) (by kernel_rfl) (by kernel_rfl),⟨fun _=> ⟨by kernel_rfl,by kernel_rfl⟩,dz (by kernel_rfl)⟩,gm (by kernel_rfl) (by kernel_rfl) (by kernel_rfl),⟨iM,dz (by kernel_rfl)⟩,gm (by kernel_rfl) (by kernel_rfl) (by kernel_rfl),⟨iM,dz (by kernel_rfl)⟩,gm (by kernel_rfl) (by kernel_rfl) (by kernel_rfl),⟨iM,dz (by kernel_rfl)⟩,gm (by kernel_rfl) (by kernel_rfl) (by kernel_rfl),⟨iM,dz (by kernel_rfl)⟩,gm (by kernel_rfl) (by kernel_rfl) (by kernel_rfl),⟨iM,dz (by kernel_rfl)⟩,gm (by kernel_rfl) (by kernel_rfl) (by kernel_rfl),⟨fun _=> ⟨by kernel_rfl,by kernel_rfl⟩,dz (by kernel_rfl)⟩,gm (by kernel_rfl) (by kernel_rfl) (by kernel_rfl),⟨fun _=> ⟨by kernel_rfl,by kernel_rfl⟩,dz (by kernel_rfl)⟩,gm (by kernel_rfl) (by kernel_rfl) (by kernel_rfl),⟨fun _=> ⟨by kernel_rfl,by kernel_rfl⟩,dz (by kernel_rfl)⟩,gm (by kernel_rfl) (by kernel_rfl) (by kernel_rfl),⟨iM,dz (by kernel_rfl)⟩,gm (by kernel_rfl) (by kernel_rfl) (by kernel_rfl),⟨iM,dz (by kernel_rfl)⟩,gm (by kernel_rfl) (by kernel_rfl) (by kernel_rfl),⟨iM,dz (by kernel_rfl)⟩,gm (by kernel_rfl) (by kernel_rfl) (by kernel_rfl),⟨iM,dz (by kernel_rfl)⟩,gm (by kernel_rfl) (by kernel_rfl) (by kernel_rfl),⟨iM,dz (by kernel_rfl)⟩,gm (by kernel_rfl) (by kernel_rfl) (by kernel_rfl),⟨iM,dz (by kernel_rfl)⟩,gm (by kernel_rfl) (by kernel_rfl) (by kernel_rfl),⟨iM,dz (by kernel_rfl)⟩,gm (by kernel_rfl) (by kernel_rfl) (by kernel_rfl),⟨iM,dz (by kernel_rfl)⟩,gm (by kernel_rfl) (by kernel_rfl) (by kernel_rfl),⟨iM,dz (by kernel_rfl)⟩,gm (by kernel_rfl) (by kernel_rfl) (by kernel_rfl),⟨iM,dz (by kernel_rfl)⟩,gm (by kernel_rfl) (by kernel_rfl) (by kernel_rfl),⟨iM,dz (by kernel_rfl)⟩,gm (by kernel_rfl) (by kernel_rfl) (by kernel_rfl),⟨iM,dz (by kernel_rfl)⟩,gm (by kernel_rfl) (by kernel_rfl) (by kernel_rfl),⟨iM,dz (by kernel_rfl)⟩,gm (by kernel_rfl) (by kernel_rfl) (by kernel_rfl),⟨iM,dz (by kernel_rfl)⟩,gm (by kernel_rfl) (by kernel_rfl) (by kernel_rfl),⟨iM,dz (by kernel_rfl)⟩,gm (by kernel_rfl) (by kernel_rfl) (by kernel_rfl),⟨iM,dz (by kernel_rfl)⟩,gm (by kernel_rfl) (by kernel_rfl) (by kernel_rfl),⟨iM,dz (by kernel_rfl)⟩,gm (by kernel_rfl) (by kernel_rfl) (by kernel_rfl),⟨iM,dz (by kernel_rfl)⟩,gm (by kernel_rfl) (by kernel_rfl) (by kernel_rfl),⟨iM,dz (by kernel_rfl)⟩,gm (by kernel_rfl) (by kernel_rfl) (by kernel_rfl),⟨iM,dz (by kernel_rfl)⟩,gm (by kernel_rfl) (by kernel_rfl) (by kernel_rfl),⟨fun _=> ⟨by kernel_rfl,by kernel_rfl⟩,dz (by kernel_rfl)⟩,trivial⟩
theorem mX:Tryz.prog.follows .mixedOrders=true:=by kernel_rfl
def Ji:Go.Shelf.Ren:=⟨fun|6=>76|14=>116|15=>117|20=>144|21=>145|22=>146|23=>147|24=>148|25=>149|26=>150|27=>151|28=>152|29=>153|46=>176|47=>177|48=>178|49=>179|50=>180|57=>184|n=>n,fun|0=>0|3=>3|4=>4|5=>5|9=>9|22=>75|24=>117|25=>132|39=>181|45=>205|46=>206|50=>178|53=>212|55=>214|66=>228|70=>232|76=>237|77=>238|n=>n,fun n=>n⟩
theorem Rj:Go.Proofs.SlLaysF0.n6 Tryz.prog Ji:=⟨by kernel_rfl,⟨Tryz.f76.name,by kernel_rfl,Tryz.func76.trans (congrArg some (by kernel_rfl))⟩,⟨Tryz.f116.name,by kernel_rfl,Tryz.func116.trans (congrArg some (by kernel_rfl))⟩,Tryz.func117.trans (congrArg some (by kernel_rfl)),⟨Tryz.f144.name,by kernel_rfl,Tryz.func144.trans (congrArg some (by kernel_rfl))⟩,⟨Tryz.f145.name,by kernel_rfl,Tryz.func145.trans (congrArg some (by kernel_rfl))⟩,⟨Tryz.f146.name,by kernel_rfl,Tryz.func146.trans (congrArg some (by kernel_rfl))⟩,⟨Tryz.f147.name,by kernel_rfl,Tryz.func147.trans (congrArg some (by kernel_rfl))⟩,⟨Tryz.f148.name,by kernel_rfl,Tryz.func148.trans (congrArg some (by kernel_rfl))⟩,⟨Tryz.f149.name,by kernel_rfl,Tryz.func149.trans (congrArg some (by kernel_rfl))⟩,⟨Tryz.f150.name,by kernel_rfl,Tryz.func150.trans (congrArg some (by kernel_rfl))⟩,⟨Tryz.f151.name,by kernel_rfl,Tryz.func151.trans (congrArg some (by kernel_rfl))⟩,Tryz.func152.trans (congrArg some (by kernel_rfl)),Tryz.func153.trans (congrArg some (by kernel_rfl)),⟨Tryz.f176.name,by kernel_rfl,Tryz.func176.trans (congrArg some (by kernel_rfl))⟩,Tryz.func177.trans (congrArg some (by kernel_rfl)),Tryz.func178.trans (congrArg some (by kernel_rfl)),⟨Tryz.f179.name,by kernel_rfl,Tryz.func179.trans (congrArg some (by kernel_rfl))⟩,⟨Tryz.f180.name,by kernel_rfl,Tryz.func180.trans (congrArg some (by kernel_rfl))⟩,⟨Tryz.f184.name,by kernel_rfl,Tryz.func184.trans (congrArg some (by kernel_rfl))⟩,Tryz.underlying0,Tryz.isAgg0,Tryz.sizeOf0,Tryz.zeroValue0,Tryz.underlying3,Tryz.isAgg3,Tryz.sizeOf3,Tryz.zeroValue3,Tryz.underlying4,Tryz.isAgg4,Tryz.sizeOf4,Tryz.zeroValue4,Tryz.underlying5,Tryz.isAgg5,Tryz.sizeOf5,Tryz.zeroValue5,Tryz.underlying9,Tryz.isAgg9,Tryz.sizeOf9,Tryz.zeroValue9,Tryz.underlying75,Tryz.isAgg75,Tryz.sizeOf75,Tryz.zeroValue75,Tryz.underlying132,Tryz.isAgg132,Tryz.sizeOf132,Tryz.zeroValue132,Tryz.underlying181,Tryz.isAgg181,Tryz.sizeOf181,Tryz.zeroValue181,Tryz.underlying205,Tryz.isAgg205,Tryz.sizeOf205,Tryz.zeroValue205,Tryz.underlying206,Tryz.isAgg206,Tryz.sizeOf206,Tryz.zeroValue206,Tryz.underlying178,Tryz.isAgg178,Tryz.sizeOf178,Tryz.zeroValue178,Tryz.underlying212,Tryz.isAgg212,Tryz.sizeOf212,Tryz.zeroValue212,Tryz.underlying214,Tryz.isAgg214,Tryz.sizeOf214,Tryz.zeroValue214,Tryz.underlying228,Tryz.isAgg228,Tryz.sizeOf228,Tryz.zeroValue228,Tryz.underlying232,Tryz.isAgg232,Tryz.sizeOf232,Tryz.zeroValue232,Tryz.underlying237,Tryz.isAgg237,Tryz.sizeOf237,Tryz.zeroValue237,Tryz.underlying238,Tryz.isAgg238,Tryz.sizeOf238,Tryz.zeroValue238⟩
theorem RU (w:World):(isAgg (Ji.t 24)).run Tryz.prog w= .ok true w:=Tryz.isAgg117 w
theorem Qu (w:World):(Go.sizeOf (Ji.t 24)).run Tryz.prog w= .ok 2 w:=Tryz.sizeOf117 w
section
variable (p:au) (t:Task)
abbrev k1:List CV:=[(cI p.buses),(.d (bg none 5 Source.cell p.sources)),(.d (bg none 6 Link.cell p.links)),(.d (bg none 4 aU.cell p.racks))]
abbrev k3:DV:=(bg none 1 (bM .i64) t.crew)
abbrev k4:DV:=(bg none 2 af.cell t.allowed)
abbrev k5:DV:=(bg none 2 af.cell t.goal)
abbrev k2:List CV:=[(.d (bg none 1 (bM .i64) t.fed)),(.d (k3 t)),(.d (k4 t)),(.d (k5 t))]
abbrev k0:List SV:=[(.agg (k1 p)),(.agg (k2 t))]
end
theorem F7 (p:au) (t:Task):eu Tryz.prog 11 (k0 p t) [] (fun r=>(vB r)) (fun _=>[]) (yO p t):=
  eZ tT mX Tryz.func11 (
  .rg {fr:=[(0,2),(1,3)],fz:=[2,3]} []<| .r<| .e (bif (bif (bif (bif (bif (bif (decide (60<(p.sources.length:Int)))then true else(decide (60<(p.links.length:Int))))then true else(decide (60<(p.racks.length:Int))))then true else(decide (60<(t.fed.length:Int))))then true else(decide (60<(t.crew.length:Int))))then true else(decide (60<(t.allowed.length:Int))))then true else(decide (60<(t.goal.length:Int)))))
theorem aN (n:Int) (u0:Int) (u1:Int):eu Tryz.prog 123 [(sI n),(sI u0),(sI u1)] [] (fun r=>(vB r)) (fun _=>[]) (aT n u0 u1):=
  eZ tT mX Tryz.func123 (
  .r<| .r<| .e (bif (decide (u0≤n))then(decide (n≤u1))else false))
section
variable (p:au)
abbrev k6:List SV:=[(.agg (k1 p))]
end
theorem Ba (p:au):eu Tryz.prog 125 (k6 p) [] (fun r=>(vD (.fn 163 1 (bn [(Da [(.int .i64 r.1),(bg none 5 Source.cell r.2.1),(bg none 6 Link.cell r.2.2.1),(bg none 4 aU.cell r.2.2.2)] 0)])))) (fun _=>[]) (tK p):=
  eZ tT mX Tryz.func125 (
  .rg {fr:=[(0,1)],fz:=[1]} []<| .r<| .e (p.buses,p.sources,p.links,p.racks))
theorem Dz (p:au):eu Tryz.prog 127 (k6 p) [] (fun r=>(vD (.fn 166 1 (bn [(Da [(.int .i64 r.1),(bg none 5 Source.cell r.2.1),(bg none 6 Link.cell r.2.2.1),(bg none 4 aU.cell r.2.2.2)] 0)])))) (fun _=>[]) (xA p):=
  eZ tT mX Tryz.func127 (
  .rg {fr:=[(0,1)],fz:=[1]} []<| .r<| .e (p.buses,p.sources,p.links,p.racks))
theorem DF (p:au):eu Tryz.prog 129 (k6 p) [] (fun r=>(vD (.fn 169 1 (bn [(Da [(.int .i64 r.1),(bg none 5 Source.cell r.2.1),(bg none 6 Link.cell r.2.2.1),(bg none 4 aU.cell r.2.2.2)] 0)])))) (fun _=>[]) (wV p):=
  eZ tT mX Tryz.func129 (
  .rg {fr:=[(0,1)],fz:=[1]} []<| .r<| .e (p.buses,p.sources,p.links,p.racks))
section
variable (x:Source) (u2:(List Source)) (x1:Int) (u3:(List Link)) (u4:(List aU)) (r_:Bool) (u0:Bool) (u1:Bool) (u5:Bool) (u6:Bool)
abbrev k7:List CV:=[(cI x.bus),(cI x.kind),(cI x.power),(cI x.sync),(cI x.ohm)]
abbrev k9:DV:=(bg none 5 Source.cell u2)
abbrev k8:DV:=(Da [(.int .i64 x1),(k9 u2),(bg none 6 Link.cell u3),(bg none 4 aU.cell u4)] 0)
abbrev k10:=(IntKind.wrap .i64 (x1 - 1))
abbrev k11:=((bif r_ then u0 else false),true)
abbrev k12:=((bif (bif r_ then u0 else false)then u1 else false),true)
abbrev k13:=(bif (bif (bif r_ then u0 else false)then u1 else false)then u5 else false)
abbrev k14:=(bif (k13 r_ u0 u1 u5)then u6 else false)
end
theorem zS (x:Source) (x1:Int) (u2:(List Source)) (u3:(List Link)) (u4:(List aU)):eu Tryz.prog 163 [(.agg (k7 x)),(sD (k8 u2 x1 u3 u4))] [] (fun r=>(vB r)) (fun _=>[]) (mM x x1 u2 u3 u4):=
  eZ tT mX Tryz.func163 (
  .rg {fr:=[(0,1)],fz:=[1]} []<| .cl 5 (aN x.bus 0 (k10 x1)) fun r_=> .cg 9 [(r_,true)] (aN x.kind 1 3) fun u0=> .cg 14 [(k11 r_ u0)] (aN x.power 1 100000) fun u1=> .cg 19 [(k12 r_ u0 u1)] (aN x.sync 0 8) fun u5=> .cg 24 [((k13 r_ u0 u1 u5),true)] (aN x.ohm 10 100000) fun u6=> .r<| .e (k14 r_ u0 u1 u5 u6))
section
variable (x1:Int) (u0:(List Source)) (u1:(List Link)) (u2:(List aU))
abbrev k16:=(bn [(k8 u0 x1 u1 u2)])
abbrev k15:DV:=(Da [(.fn 163 1 (k16 x1 u0 u1 u2))] 0)
end
theorem Bl (x:Source) (x1:Int) (u0:(List Source)) (u1:(List Link)) (u2:(List aU)):eu Tryz.prog 162 [(.agg (k7 x)),(sD (k15 x1 u0 u1 u2))] [] (fun r=>(vB r)) (fun _=>[]) (r9 x x1 u0 u1 u2):=
  eZ tT mX Tryz.func162 (
  .rg {fr:=[(0,1)],fz:=[1]} []<| .cl 2 (zS x x1 u0 u1 u2) fun r_=> .r<| .e (!r_))
section
variable (s_:(List Source)) (f_:Int) (u0:(List Source)) (u1:(List Link)) (u2:(List aU)) (t8:Int)
abbrev k17:List SV:=[(sD (k9 s_)),(sD (.fn 162 1 (bn [(k15 f_ u0 u1 u2)])))]
abbrev k18:=(IntKind.wrap .i64 (t8+1))
end
theorem yo (s_:(List Source)) (f_:Int) (u0:(List Source)) (u1:(List Link)) (u2:(List aU)):eu Tryz.prog 181 (k17 s_ f_ u0 u1 u2) [] (fun r=>(vI r)) (fun _=>[]) (nZ s_ f_ u0 u1 u2):=
  eZ tT mX Tryz.func181 (
  .r<| .r<| .lp (σ:=Int) (β:=Unit) (0) [] [] ⟨[0,1,7],[],fun t8=>[(8,(vI t8))],fun t8=>[]⟩ ⟨[],[],fun _=>[],fun _=>[]⟩
  (fun t8=> .r<| .it (.r<| .cl 5 (Bl (at' s_ t8.toNat) f_ u0 u1 u2) fun r_=> .a1 ((0:Int)≤t8∧t8<(s_.length:Int))<| .rg {} [0,1]<| .it (.r<| .e (.done (.ret t8)))
  (.r<| .e (.next (k18 t8))))
  (.e (.done (.brk ()))))
  (fun _=> .r<| .e (-1)))
theorem uS (s_:(List Source)) (f_:Int) (u0:(List Source)) (u1:(List Link)) (u2:(List aU)):eu Tryz.prog 161 (k17 s_ f_ u0 u1 u2) [] (fun r=>(vB r)) (fun _=>[]) (iF s_ f_ u0 u1 u2):=
  eZ tT mX Tryz.func161 (
  .r<| .cl 2 (yo s_ f_ u0 u1 u2) fun r_=> .r<| .e (decide (0≤r_)))
theorem DK (l:(List Source)) (u0:Int) (u1:Int) (u2:(List Source)) (u3:(List Link)) (u4:(List aU)):eu Tryz.prog 124 [(sD (k9 l)),(sI u0),(sD (.fn 163 1 (k16 u1 u2 u3 u4)))] [] (fun r=>(vB r)) (fun _=>[]) (rM l u0 u1 u2 u3 u4):=
  eZ tT mX Tryz.func124 (
  .rg {fr:=[(0,1)],fz:=[1]} []<| .cg 7 [((decide ((l.length:Int)≤u0)),true)] (uS l u1 u2 u3 u4) fun r_=> .r<| .e (bif (decide ((l.length:Int)≤u0))then(!r_)else false))
section
variable (x:Link) (u0:Int)
abbrev k19:List CV:=[(cI x.a),(cI x.b),(cI x.kind),(cI x.most),(cI x.ohm),(.d (bg none 2 oZ.cell x.trip))]
abbrev k20:=((decide (((at' x.trip u0.toNat).amps)≤((at' x.trip ((k10 u0).toNat)).amps))),false)
end
theorem Bc (x:Link) (x1:Int) (u3:(List Source)) (u4:(List Link)) (u5:(List aU)):eu Tryz.prog 166 [(.agg (k19 x)),(sD (k8 u3 x1 u4 u5))] [] (fun r=>(vB r)) (fun _=>[]) (oI x x1 u3 u4 u5):=
  eZ tT mX Tryz.func166 (
  .rg {fr:=[(0,5)]} []<| .cl 5 (aN x.a 0 (k10 x1)) fun r_=> .cg 13 [((!r_),false)] (aN x.b 0 (k10 x1)) fun u1=> .cg 26 [((bif (bif (!r_)then true else(!u1))then true else(decide (x.a=x.b))),false)] (aN x.kind 1 3) fun u6=> .cg 32 [((bif (bif (bif (!r_)then true else(!u1))then true else(decide (x.a=x.b)))then true else(!u6)),false)] (aN x.most 1 100000) fun u8=> .cg 38 [((bif (bif (bif (bif (!r_)then true else(!u1))then true else(decide (x.a=x.b)))then true else(!u6))then true else(!u8)),false)] (aN x.ohm 10 100000) fun u9=> .r<| .it (.r<| .e false)
  (.rg {fz:=[5]} []<| .lp (σ:=Int) (β:=Unit) (0) [] [] ⟨[2,48,49],[],fun u0=>[(50,(vI u0))],fun u0=>[]⟩ ⟨[2],[],fun _=>[],fun _=>[]⟩
  (fun u0=> .r<| .it (.a1 ((0:Int)≤u0∧u0<(x.trip.length:Int))<| .rg {fr:=[(3,9)],fz:=[9]} []<| .cl 2 (aN ((at' x.trip u0.toNat).amps) 1 1000000) fun u2=> .cg 7 [((!u2),false)] (aN ((at' x.trip u0.toNat).millis) 1 100000) fun u7=> .a2 ((gB [((decide (0<u0)),true),((bif (!u2)then true else(!u7)),false)]=true→(0:Int)≤(k10 u0)∧(k10 u0)<(x.trip.length:Int))) ((gB [(k20 x u0),((decide (0<u0)),true),((bif (!u2)then true else(!u7)),false)]=true→(0:Int)≤(k10 u0)∧(k10 u0)<(x.trip.length:Int)))<| .rg {} [3,2,0,1]<| .it (.r<| .e (.done (.ret false)))
  (.r<| .e (.next (k18 u0))))
  (.e (.done (.brk ()))))
  (fun _=> .r<| .e (bif (decide ((x.trip.length:Int)≤6))then(bif (decide ((x.trip.length:Int)=0))then true else(decide (x.kind=3)))else false))))
section
variable (x1:Int) (u0:(List Source)) (u1:(List Link)) (u2:(List aU))
abbrev k21:DV:=(Da [(.fn 166 1 (k16 x1 u0 u1 u2))] 0)
end
theorem yA (x:Link) (x1:Int) (u0:(List Source)) (u1:(List Link)) (u2:(List aU)):eu Tryz.prog 165 [(.agg (k19 x)),(sD (k21 x1 u0 u1 u2))] [] (fun r=>(vB r)) (fun _=>[]) (pu x x1 u0 u1 u2):=
  eZ tT mX Tryz.func165 (
  .rg {fr:=[(0,1)],fz:=[1]} []<| .cl 2 (Bc x x1 u0 u1 u2) fun r_=> .r<| .e (!r_))
section
variable (s_:(List Link)) (f_:Int) (u0:(List Source)) (u1:(List Link)) (u2:(List aU)) (t8:Int)
abbrev k22:List SV:=[(sD (bg none 6 Link.cell s_)),(sD (.fn 165 1 (bn [(k21 f_ u0 u1 u2)])))]
abbrev k23:=((0:Int)≤t8∧t8<(s_.length:Int))
end
theorem vG (s_:(List Link)) (f_:Int) (u0:(List Source)) (u1:(List Link)) (u2:(List aU)):eu Tryz.prog 182 (k22 s_ f_ u0 u1 u2) [] (fun r=>(vI r)) (fun _=>[]) (kT s_ f_ u0 u1 u2):=
  eZ tT mX Tryz.func182 (
  .r<| .r<| .lp (σ:=Int) (β:=Unit) (0) [] [] ⟨[0,1,7],[],fun t8=>[(8,(vI t8))],fun t8=>[]⟩ ⟨[],[],fun _=>[],fun _=>[]⟩
  (fun t8=> .r<| .it (.r<| .cl 5 (yA (at' s_ t8.toNat) f_ u0 u1 u2) fun r_=> .a1 (k23 s_ t8)<| .rg {} [0,1]<| .it (.r<| .e (.done (.ret t8)))
  (.r<| .e (.next (k18 t8))))
  (.e (.done (.brk ()))))
  (fun _=> .r<| .e (-1)))
theorem rP (s_:(List Link)) (f_:Int) (u0:(List Source)) (u1:(List Link)) (u2:(List aU)):eu Tryz.prog 164 (k22 s_ f_ u0 u1 u2) [] (fun r=>(vB r)) (fun _=>[]) (fV s_ f_ u0 u1 u2):=
  eZ tT mX Tryz.func164 (
  .r<| .cl 2 (vG s_ f_ u0 u1 u2) fun r_=> .r<| .e (decide (0≤r_)))
theorem BP (l:(List Link)) (u0:Int) (u1:Int) (u2:(List Source)) (u3:(List Link)) (u4:(List aU)):eu Tryz.prog 126 [(sD (bg none 6 Link.cell l)),(sI u0),(sD (.fn 166 1 (k16 u1 u2 u3 u4)))] [] (fun r=>(vB r)) (fun _=>[]) (pG l u0 u1 u2 u3 u4):=
  eZ tT mX Tryz.func126 (
  .rg {fr:=[(0,1)],fz:=[1]} []<| .cg 7 [((decide ((l.length:Int)≤u0)),true)] (rP l u1 u2 u3 u4) fun r_=> .r<| .e (bif (decide ((l.length:Int)≤u0))then(!r_)else false))
section
variable (x:aU)
abbrev k24:List CV:=[(cI x.feeds.e0),(cI x.feeds.e1),(cI x.power),(cI x.paths)]
end
theorem Ct (x:aU):eu Tryz.prog 170 [(.agg (k24 x))] [] (fun r=>(vI r)) (fun _=>[]) (qp x):=
  eZ tT mX Tryz.func170 (
  .rg {fr:=[(0,1)],fz:=[1]} []<| .rg {} [.pf ⟨(0:Int)≤1∧(1:Int)<(2:Nat),(by decide)⟩]<| .it (.r<| .e 1)
  (.r<| .e 2))
section
variable (r_:Bool) (u0:Bool) (x:aU) (u1:Bool)
abbrev k26:=(bif (bif (bif r_ then u0 else false)then(!decide (x.feeds.e0=x.feeds.e1))else false)then u1 else false)
abbrev k25:=((k26 r_ u0 x u1),true)
end
theorem BQ (x:aU) (x1:Int) (u2:(List Source)) (u3:(List Link)) (u4:(List aU)):eu Tryz.prog 169 [(.agg (k24 x)),(sD (k8 u2 x1 u3 u4))] [] (fun r=>(vB r)) (fun _=>[]) (oD x x1 u2 u3 u4):=
  eZ tT mX Tryz.func169 (
  .rg {fr:=[(0,1)],fz:=[1]} []<| .rg {} [.pf ⟨(0:Int)≤0∧(0:Int)<(2:Nat),(by decide)⟩, .pf ⟨(0:Int)≤1∧(1:Int)<(2:Nat),(by decide)⟩]<| .cl 4 (aN x.feeds.e0 0 (k10 x1)) fun r_=> .cg 10 [(r_,true)] (aN x.feeds.e1 (-1) (k10 x1)) fun u0=> .cg 20 [((bif (bif r_ then u0 else false)then(!decide (x.feeds.e0=x.feeds.e1))else false),true)] (aN x.power 1 100000) fun u1=> .cg 26 [(k25 r_ u0 x u1)] (Ct x) fun u5=> .cg 27 [(k25 r_ u0 x u1)] (aN x.paths 0 u5) fun u6=> .r<| .e (bif (k26 r_ u0 x u1)then u6 else false))
section
variable (x1:Int) (u0:(List Source)) (u1:(List Link)) (u2:(List aU))
abbrev k27:DV:=(Da [(.fn 169 1 (k16 x1 u0 u1 u2))] 0)
end
theorem yZ (x:aU) (x1:Int) (u0:(List Source)) (u1:(List Link)) (u2:(List aU)):eu Tryz.prog 168 [(.agg (k24 x)),(sD (k27 x1 u0 u1 u2))] [] (fun r=>(vB r)) (fun _=>[]) (o9 x x1 u0 u1 u2):=
  eZ tT mX Tryz.func168 (
  .rg {fr:=[(0,1)],fz:=[1]} []<| .cl 2 (BQ x x1 u0 u1 u2) fun r_=> .r<| .e (!r_))
section
variable (s_:(List aU)) (f_:Int) (u0:(List Source)) (u1:(List Link)) (u2:(List aU))
abbrev k28:List SV:=[(sD (bg none 4 aU.cell s_)),(sD (.fn 168 1 (bn [(k27 f_ u0 u1 u2)])))]
end
theorem vL (s_:(List aU)) (f_:Int) (u0:(List Source)) (u1:(List Link)) (u2:(List aU)):eu Tryz.prog 183 (k28 s_ f_ u0 u1 u2) [] (fun r=>(vI r)) (fun _=>[]) (kU s_ f_ u0 u1 u2):=
  eZ tT mX Tryz.func183 (
  .r<| .r<| .lp (σ:=Int) (β:=Unit) (0) [] [] ⟨[0,1,7],[],fun t8=>[(8,(vI t8))],fun t8=>[]⟩ ⟨[],[],fun _=>[],fun _=>[]⟩
  (fun t8=> .r<| .it (.r<| .cl 5 (yZ (⟨((at' s_ t8.toNat).feeds),(at' s_ t8.toNat).power,(at' s_ t8.toNat).paths⟩:aU) f_ u0 u1 u2) fun r_=> .a1 ((0:Int)≤t8∧t8<(s_.length:Int))<| .rg {} [0,1]<| .it (.r<| .e (.done (.ret t8)))
  (.r<| .e (.next (k18 t8))))
  (.e (.done (.brk ()))))
  (fun _=> .r<| .e (-1)))
theorem rD (s_:(List aU)) (f_:Int) (u0:(List Source)) (u1:(List Link)) (u2:(List aU)):eu Tryz.prog 167 (k28 s_ f_ u0 u1 u2) [] (fun r=>(vB r)) (fun _=>[]) (fQ s_ f_ u0 u1 u2):=
  eZ tT mX Tryz.func167 (
  .r<| .cl 2 (vL s_ f_ u0 u1 u2) fun r_=> .r<| .e (decide (0≤r_)))
theorem Cj (l:(List aU)) (u0:Int) (u1:Int) (u2:(List Source)) (u3:(List Link)) (u4:(List aU)):eu Tryz.prog 128 [(sD (bg none 4 aU.cell l)),(sI u0),(sD (.fn 169 1 (k16 u1 u2 u3 u4)))] [] (fun r=>(vB r)) (fun _=>[]) (oC l u0 u1 u2 u3 u4):=
  eZ tT mX Tryz.func128 (
  .rg {fr:=[(0,1)],fz:=[1]} []<| .cg 7 [((decide ((l.length:Int)≤u0)),true)] (rD l u1 u2 u3 u4) fun r_=> .r<| .e (bif (decide ((l.length:Int)≤u0))then(!r_)else false))
theorem C9 (p:au):eu Tryz.prog 89 (k6 p) [] (fun r=>(vI r)) (fun _=>[]) (qi p):=
  eZ tT mX Tryz.func89 (
  .rg {fr:=[(0,1)],fz:=[1]} []<| .cl 2 (aN p.buses 1 24) fun r_=> .r<| .it (.r<| .e 10)
  (.cl 3 (Ba p) fun u0=> .cl 4 (DK p.sources 8 u0.1 u0.2.1 u0.2.2.1 u0.2.2.2) fun u3=> .r<| .it (.r<| .e 11)
  (.cl 3 (Dz p) fun u1=> .cl 4 (BP p.links 40 u1.1 u1.2.1 u1.2.2.1 u1.2.2.2) fun u4=> .r<| .it (.r<| .e 12)
  (.cl 3 (DF p) fun u2=> .cl 4 (Cj p.racks 24 u2.1 u2.2.1 u2.2.2.1 u2.2.2.2) fun u5=> .r<| .it (.r<| .e 13)
  (.r<| .e 0)))))
section
variable (s_:State) (p:au) (u0:Int)
abbrev WM:DV:=(bg none 1 ai s_.locked)
abbrev Y7:DV:=(bg none 1 ai s_.badLink)
abbrev Xh:DV:=(bg none 1 ai s_.on_)
abbrev X6:DV:=(bg none 1 ai s_.badSource)
abbrev YI:DV:=(bg none 1 ai s_.earthed)
abbrev Y5:DV:=(bg none 1 ai s_.badBus)
abbrev zP:List CV:=[(.d (bg none 1 ai s_.closed)),(.d (WM s_)),(.d (Y7 s_)),(.d (Xh s_)),(.d (X6 s_)),(.d (YI s_)),(.d (Y5 s_))]
abbrev UE:List SV:=[(.agg (k1 p)),(.agg (zP s_))]
abbrev Xz:=(⟨s_.closed,(p.links.length:Int)⟩:cZ)
abbrev X5:=(⟨s_.locked,(p.links.length:Int)⟩:cZ)
abbrev XL:=(⟨s_.badLink,(p.links.length:Int)⟩:cZ)
abbrev X3:=(⟨s_.on_,(p.sources.length:Int)⟩:cZ)
abbrev YB:=(⟨s_.badSource,(p.sources.length:Int)⟩:cZ)
abbrev k42:=(ay cZ.cell [(Xz s_ p),(X5 s_ p),(XL s_ p),(X3 s_ p),(YB s_ p),(⟨s_.earthed,p.buses⟩:cZ),(⟨s_.badBus,p.buses⟩:cZ)])
abbrev Zb:=((0:Int)≤u0∧u0<(p.links.length:Int))
abbrev k44:=((gB [((decide (((at' p.links u0.toNat).kind)=1)),true)]=true→(0:Int)≤u0∧u0<(s_.closed.length:Int)))
abbrev k45:=((gB [((!(at' s_.closed u0.toNat)),false),((decide (((at' p.links u0.toNat).kind)=1)),true)]=true→(0:Int)≤u0∧u0<(s_.locked.length:Int)))
end
theorem dF (p:au) (s_:State):eu Tryz.prog 62 (UE s_ p) [] (fun r=>(vI r)) (fun _=>[]) (dL p s_):=
  eZ tT mX Tryz.func62 (
  .rg {fr:=[(0,11),(1,12)]} []<| .cl 1 (C9 p) fun r_=> .r<| .r<| .it (.r<| .e r_)
  (.r<| .rg {an:=[(30, .arr [(Xz s_ p),(X5 s_ p),(XL s_ p),(X3 s_ p),(YB s_ p),(⟨s_.earthed,p.buses⟩:cZ),(⟨s_.badBus,p.buses⟩:cZ)].length (k42 s_ p))],fr:=[(30,13)],fz:=[12]} [.pf ⟨[(Xz s_ p),(X5 s_ p),(XL s_ p),(X3 s_ p),(YB s_ p),(⟨s_.earthed,p.buses⟩:cZ),(⟨s_.badBus,p.buses⟩:cZ)].length=7,rfl⟩, .pf ⟨aR 7 2 (vE 2 [(bg none 1 ai s_.closed),(.int .i64 (p.links.length:Int)),(WM s_),(.int .i64 (p.links.length:Int)),(Y7 s_),(.int .i64 (p.links.length:Int)),(Xh s_),(.int .i64 (p.sources.length:Int)),(X6 s_),(.int .i64 (p.sources.length:Int)),(YI s_),(.int .i64 p.buses),(Y5 s_),(.int .i64 p.buses)]) (k42 s_ p),(by intro i hi j hj;match i,j,hi,hj with|0,0,_,_=>rfl|0,1,_,_=>rfl|1,0,_,_=>rfl|1,1,_,_=>rfl|2,0,_,_=>rfl|2,1,_,_=>rfl|3,0,_,_=>rfl|3,1,_,_=>rfl|4,0,_,_=>rfl|4,1,_,_=>rfl|5,0,_,_=>rfl|5,1,_,_=>rfl|6,0,_,_=>rfl|6,1,_,_=>rfl)⟩]<| .lp (σ:=Int) (β:=Unit) (0) [] [] ⟨[2,3,53,54],[11,13],fun u1=>[(55,(vI u1))],fun u1=>[]⟩ ⟨[2,3],[11],fun _=>[],fun _=>[]⟩
  (fun u1=> .r<| .it (.a1 ((0:Int)≤u1∧u1<([(Xz s_ p),(X5 s_ p),(XL s_ p),(X3 s_ p),(YB s_ p),(⟨s_.earthed,p.buses⟩:cZ),(⟨s_.badBus,p.buses⟩:cZ)].length:Int))<| .rg {fr:=[(2,17)],fz:=[17]} [0, .t 0 u1 ([(Xz s_ p),(X5 s_ p),(XL s_ p),(X3 s_ p),(YB s_ p),(⟨s_.earthed,p.buses⟩:cZ),(⟨s_.badBus,p.buses⟩:cZ)].length)]<| .r<| .it (.r<| .e (.done (.ret 9)))
  (.r<| .e (.next (k18 u1))))
  (.e (.done (.brk ()))))
  (fun _=> .r<| .lp (σ:=Int) (β:=Unit) (0) [] [] ⟨[3,67,68],[],fun u0=>[(69,(vI u0))],fun u0=>[]⟩ ⟨[],[],fun _=>[],fun _=>[]⟩
  (fun u0=> .r<| .it (.a1 (Zb p u0)<| .rg {fr:=[(3,21)],fz:=[21]} []<| .a2 (k44 s_ p u0) (k45 s_ p u0)<| .rg {} [0,1]<| .it (.r<| .e (.done (.ret 9)))
  (.r<| .e (.next (k18 u0))))
  (.e (.done (.brk ()))))
  (fun _=> .r<| .e 0))))
theorem xX (i:Int) (x1:Int):eu Tryz.prog 98 [(sI i),(sD (Da [(.int .i64 x1)] 0))] [] (fun r=>(vB r)) (fun _=>[]) (nV i x1):=
  eZ tT mX Tryz.func98 (
  .r<| .r<| .e (bif (decide (i<0))then true else(decide (x1≤i))))
section
variable (s_:(List Int)) (t8:Int)
abbrev RB:DV:=(bg none 1 (bM .i64) s_)
abbrev Wt:=((0:Int)≤t8∧t8<(s_.length:Int))
end
theorem uW (s_:(List Int)) (f_:Int):eu Tryz.prog 132 [(sD (RB s_)),(sD (.fn 98 1 (bn [(Da [(.int .i64 f_)] 0)])))] [] (fun r=>(vI r)) (fun _=>[]) (kY s_ f_):=
  eZ tT mX Tryz.func132 (
  .r<| .r<| .lp (σ:=Int) (β:=Unit) (0) [] [] ⟨[0,1,7],[],fun t8=>[(8,(vI t8))],fun t8=>[]⟩ ⟨[],[],fun _=>[],fun _=>[]⟩
  (fun t8=> .r<| .it (.r<| .cl 5 (xX (at' s_ t8.toNat) f_) fun r_=> .a1 (Wt s_ t8)<| .rg {} [0,1]<| .it (.r<| .e (.done (.ret t8)))
  (.r<| .e (.next (k18 t8))))
  (.e (.done (.brk ()))))
  (fun _=> .r<| .e (-1)))
theorem tJ (s_:(List Int)) (f_:Int):eu Tryz.prog 97 [(sD (RB s_)),(sD (.fn 98 1 (bn [(Da [(.int .i64 f_)] 0)])))] [] (fun r=>(vB r)) (fun _=>[]) (gG s_ f_):=
  eZ tT mX Tryz.func97 (
  .r<| .cl 2 (uW s_ f_) fun r_=> .r<| .e (decide (0≤r_)))
section
variable (l:(List Int)) (n:Int)
abbrev k48:List SV:=[(sD (RB l)),(sI n)]
end
theorem q8 (l:(List Int)) (n:Int):eu Tryz.prog 96 (k48 l n) [] (fun r=>(vB r)) (fun _=>[]) (jM l n):=
  eZ tT mX Tryz.func96 (
  .rg {fr:=[(0,1)],fz:=[1]} []<| .cg 6 [((decide ((l.length:Int)≤24)),true)] (tJ l n) fun r_=> .r<| .e (bif (decide ((l.length:Int)≤24))then(!r_)else false))
section
variable (x:af) (p:au)
abbrev RA:List CV:=[(cI x.deed),(cI x.index)]
abbrev k49:List SV:=[(.agg (k1 p)),(.agg (RA x))]
abbrev Za:=((gB [((bif (decide (0≤x.index))then(decide (x.index<(p.links.length:Int)))else false),true)]=true→(0:Int)≤x.index∧x.index<(p.links.length:Int)))
abbrev Ze:=(bif (bif (decide (0≤x.index))then(decide (x.index<(p.links.length:Int)))else false)then(!decide (((at' p.links x.index.toNat).kind)=1))else false)
abbrev k54:=(decide (x.index<p.buses))
abbrev Uz:=(bif (decide (0≤x.index))then(k54 x p)else false)
abbrev k56:=(decide (x.index<(p.sources.length:Int)))
abbrev LV:=(bif (decide (0≤x.index))then(k56 x p)else false)
abbrev LX:=((gB [((bif (decide (0≤x.index))then(decide (x.index<0))else false),true)]=true→(0:Int)≤x.index∧x.index<(p.links.length:Int)))
abbrev LZ:=(bif (bif (decide (0≤x.index))then(decide (x.index<0))else false)then(!decide (((at' p.links x.index.toNat).kind)=1))else false)
end
theorem uK (p:au) (x:af):eu Tryz.prog 79 (k49 x p) [] (fun r=>(vB r)) (fun _=>[]) (l7 p x):=
  eZ tT mX Tryz.func79 (
  .rg {fr:=[(0,2),(1,3)],fz:=[2,3]} []<| .r<| .r<| .r<| .it (.it (.r<| .a1 (Za x p)<| .r<| .e (Ze x p))
  (.r<| .it (.it (.r<| .e (Uz x p))
  (.r<| .it (.it (.r<| .e (LV x p))
  (.a1 (LX x p)<| .r<| .e (LZ x p)))
  (.r<| .it (.r<| .e (LV x p))
  (.a1 (LX x p)<| .r<| .e (LZ x p)))))
  (.r<| .it (.r<| .e (Uz x p))
  (.r<| .it (.it (.r<| .e (LV x p))
  (.a1 (LX x p)<| .r<| .e (LZ x p)))
  (.r<| .it (.r<| .e (LV x p))
  (.a1 (LX x p)<| .r<| .e (LZ x p)))))))
  (.r<| .it (.it (.r<| .a1 (Za x p)<| .r<| .e (Ze x p))
  (.r<| .it (.it (.r<| .e (Uz x p))
  (.r<| .it (.it (.r<| .e (LV x p))
  (.a1 (LX x p)<| .r<| .e (LZ x p)))
  (.r<| .it (.r<| .e (LV x p))
  (.a1 (LX x p)<| .r<| .e (LZ x p)))))
  (.r<| .it (.r<| .e (Uz x p))
  (.r<| .it (.it (.r<| .e (LV x p))
  (.a1 (LX x p)<| .r<| .e (LZ x p)))
  (.r<| .it (.r<| .e (LV x p))
  (.a1 (LX x p)<| .r<| .e (LZ x p)))))))
  (.r<| .it (.it (.r<| .a1 (Za x p)<| .r<| .e (Ze x p))
  (.r<| .it (.it (.r<| .e (Uz x p))
  (.r<| .it (.it (.r<| .e (LV x p))
  (.a1 (LX x p)<| .r<| .e (LZ x p)))
  (.r<| .it (.r<| .e (LV x p))
  (.a1 (LX x p)<| .r<| .e (LZ x p)))))
  (.r<| .it (.r<| .e (Uz x p))
  (.r<| .it (.it (.r<| .e (LV x p))
  (.a1 (LX x p)<| .r<| .e (LZ x p)))
  (.r<| .it (.r<| .e (LV x p))
  (.a1 (LX x p)<| .r<| .e (LZ x p)))))))
  (.r<| .it (.r<| .a1 (Za x p)<| .r<| .e (Ze x p))
  (.r<| .it (.it (.r<| .e (Uz x p))
  (.r<| .it (.it (.r<| .e (LV x p))
  (.a1 (LX x p)<| .r<| .e (LZ x p)))
  (.r<| .it (.r<| .e (LV x p))
  (.a1 (LX x p)<| .r<| .e (LZ x p)))))
  (.r<| .it (.r<| .e (Uz x p))
  (.r<| .it (.it (.r<| .e (LV x p))
  (.a1 (LX x p)<| .r<| .e (LZ x p)))
  (.r<| .it (.r<| .e (LV x p))
  (.a1 (LX x p)<| .r<| .e (LZ x p))))))))))
theorem yg (x:af) (x1:Int) (u0:(List Source)) (u1:(List Link)) (u2:(List aU)):eu Tryz.prog 100 [(.agg (RA x)),(sD (k8 u0 x1 u1 u2))] [] (fun r=>(vB r)) (fun _=>[]) (nW x x1 u0 u1 u2):=
  eZ tT mX Tryz.func100 (
  .rg {fr:=[(0,1)],fz:=[1]} []<| .cl 2 (uK (⟨x1,u0,u1,u2⟩:au) x) fun r_=> .r<| .e (!r_))
section
variable (s_:(List af)) (f_:Int) (u0:(List Source)) (u1:(List Link)) (u2:(List aU)) (t8:Int)
abbrev KJ:DV:=(bg none 2 af.cell s_)
abbrev k59:List SV:=[(sD (KJ s_)),(sD (.fn 100 1 (k16 f_ u0 u1 u2)))]
abbrev Ry:=((0:Int)≤t8∧t8<(s_.length:Int))
end
theorem vw (s_:(List af)) (f_:Int) (u0:(List Source)) (u1:(List Link)) (u2:(List aU)):eu Tryz.prog 131 (k59 s_ f_ u0 u1 u2) [] (fun r=>(vI r)) (fun _=>[]) (kS s_ f_ u0 u1 u2):=
  eZ tT mX Tryz.func131 (
  .r<| .r<| .lp (σ:=Int) (β:=Unit) (0) [] [] ⟨[0,1,7],[],fun t8=>[(8,(vI t8))],fun t8=>[]⟩ ⟨[],[],fun _=>[],fun _=>[]⟩
  (fun t8=> .r<| .it (.r<| .cl 5 (yg (at' s_ t8.toNat) f_ u0 u1 u2) fun r_=> .a1 (Ry s_ t8)<| .rg {} [0,1]<| .it (.r<| .e (.done (.ret t8)))
  (.r<| .e (.next (k18 t8))))
  (.e (.done (.brk ()))))
  (fun _=> .r<| .e (-1)))
theorem tC (s_:(List af)) (f_:Int) (u0:(List Source)) (u1:(List Link)) (u2:(List aU)):eu Tryz.prog 92 (k59 s_ f_ u0 u1 u2) [] (fun r=>(vB r)) (fun _=>[]) (gI s_ f_ u0 u1 u2):=
  eZ tT mX Tryz.func92 (
  .r<| .cl 2 (vw s_ f_ u0 u1 u2) fun r_=> .r<| .e (decide (0≤r_)))
theorem qZ (l:(List af)) (x1:Int) (u0:(List Source)) (u1:(List Link)) (u2:(List aU)):eu Tryz.prog 99 [(sD (KJ l)),(sD (k8 u0 x1 u1 u2))] [] (fun r=>(vB r)) (fun _=>[]) (jO l x1 u0 u1 u2):=
  eZ tT mX Tryz.func99 (
  .r<| .cg 6 [((decide ((l.length:Int)≤24)),true)] (tC l x1 u0 u1 u2) fun r_=> .r<| .e (bif (decide ((l.length:Int)≤24))then(!r_)else false))
theorem Bt (p:au) (t:Task):eu Tryz.prog 63 (k0 p t) [] (fun r=>(vB r)) (fun _=>[]) (oL p t):=
  eZ tT mX Tryz.func63 (
  .rg {fr:=[(0,2),(1,3)],fz:=[2,3]} []<| .r<| .r<| .cl 6 (q8 t.fed (p.racks.length:Int)) fun r_=> .cg 13 [(r_,true)] (q8 t.crew p.buses) fun u0=> .cg 19 [(k11 r_ u0)] (qZ t.allowed p.buses p.sources p.links p.racks) fun u1=> .cg 25 [(k12 r_ u0 u1)] (qZ t.goal p.buses p.sources p.links p.racks) fun u2=> .r<| .e (k13 r_ u0 u1 u2))
theorem xY (p:au) (s_:State):eu Tryz.prog 113 (UE s_ p) [] (fun r=>(vD (.fn 143 2 (bn [(Da [(.int .i64 r.1),(bg none 5 Source.cell r.2.1),(bg none 6 Link.cell r.2.2.1),(bg none 4 aU.cell r.2.2.2.1)] 0),(Da [(bg none 1 ai r.2.2.2.2.1),(bg none 1 ai r.2.2.2.2.2.1),(bg none 1 ai r.2.2.2.2.2.2.1),(bg none 1 ai r.2.2.2.2.2.2.2.1),(bg none 1 ai r.2.2.2.2.2.2.2.2.1),(bg none 1 ai r.2.2.2.2.2.2.2.2.2.1),(bg none 1 ai r.2.2.2.2.2.2.2.2.2.2)] 0)])))) (fun _=>[]) (jW p s_):=
  eZ tT mX Tryz.func113 (
  .rg {fr:=[(0,2),(1,3)],fz:=[2,3]} []<| .r<| .e (p.buses,p.sources,p.links,p.racks,s_.closed,s_.locked,s_.badLink,s_.on_,s_.badSource,s_.earthed,s_.badBus))
noncomputable def sS:gV:=⟨[22],K9 ([1,1,0,1,0]++[0]) (qb Tryz.f75),K9 ([1,1,0,1,0]++[1]) (qb Tryz.f75),125,[]⟩
section
variable (g:aS)
abbrev k63:Ob:=(Hg 3 3 false false 1 1 (bM .i64) (bM .i64) g.head)
abbrev k62:List (Nat × Option Ob):=[(0,some (k63 g))]
end
theorem gH (g:aS) (x:Int):eu Tryz.prog 115 [(.agg [(.mp 0)]),(sI x)] (k62 g) (fun r=>(vI r)) (fun r=>(k62 g)) (dw g x):=
  eZ tT mX Tryz.func115 (
  .rg {fr:=[(0,2)]} []<| .lp (σ:=Int) (β:=Unit) (x) [] [] ⟨[2],[0,2],fun x1=>[(1,(vI x1))],fun x1=>[]⟩ ⟨[],[],fun _=>[],fun _=>[]⟩
  (fun x1=> .rg {an:=[(3, .look (bA aY x1 g.head).isSome [(cI ((bA aY x1 g.head).getD 0))])]} [.pf ⟨fF [some .i64] 1 1 g.head.length (zX (bM .i64) g.head) (A8 (bM .i64) g.head) [(.int .i64 x1)] [(.d (.int .i64 0))] (bA aY x1 g.head).isSome [(cI ((bA aY x1 g.head).getD 0))],oh (fun _=>rfl) (fun _ _=>rfl) g.head x1 0 rfl rfl rfl⟩]<| .r<| .it (.r<| .e (.done (.ret x1)))
  (.r<| .e (.next ((bA aY x1 g.head).getD 0))))
  (fun _=> .no))
theorem wX (g:aS) (a:Int) (b:Int):eu Tryz.prog 114 [(.agg [(.mp 0)]),(sI a),(sI b)] (k62 g) (fun r=>(.iI [])) (fun r=>[(0,some (Hg 3 3 false false 1 1 (bM .i64) (bM .i64) r))]) (jD g a b):=
  eZ tT mX Tryz.func114 (
  .rg {fr:=[(0,2)]} []<| .cr 2 (gH g a) fun r_=> .cr 5 (gH g b) fun u0=> .r<| .r<| .it (.rg {an:=[(4, .map (fB aY r_ u0 g.head).length (zX (bM .i64) (fB aY r_ u0 g.head)) (A8 (bM .i64) (fB aY r_ u0 g.head)) [])]} [.pf ⟨vZ [some .i64] 1 1 g.head.length (zX (bM .i64) g.head) (A8 (bM .i64) g.head) [(.int .i64 r_)] [(cI u0)] [] (fB aY r_ u0 g.head).length (zX (bM .i64) (fB aY r_ u0 g.head)) (A8 (bM .i64) (fB aY r_ u0 g.head)),Ey (fun _=>rfl) (fun _ _=>rfl) g.head r_ u0 rfl rfl⟩]<| .e (fB aY r_ u0 g.head))
  (.e g.head))
section
variable (o_:aS)
abbrev k65:Nat × Option Ob:=(0,some (.loop sS 0 [(5,(vP 1 0))]))
abbrev k64:List (Nat × Option Ob):=[k65,(1,some (.cells 172 [(.mp 2)])),(2,some (k63 o_))]
end
theorem wF (u0:Int) (u1:Int) (u2:Int) (u3:Int) (u4:Int) (u5:(List oZ)) (o_:aS):RD Tryz.prog 0 [(.agg [(cI u0),(cI u1),(cI u2),(cI u3),(cI u4),(.d (bg none 2 oZ.cell u5))])] (k64 o_) (fun _=>vB true) (fun r=>[k65,(1,some (.cells 172 [(.mp 2)])),(2,some (Hg 3 3 false false 1 1 (bM .i64) (bM .i64) r.head))]) (mg u0 u1 u2 u3 u4 u5 o_):=
  WG tT mX sS ⟨[5],[0,1,2],fun _=>[(6,(vD (Da [(.int .i64 u0),(.int .i64 u1),(.int .i64 u2),(.int .i64 u3),(.int .i64 u4),(bg none 2 oZ.cell u5)] 0)))],fun _=>[]⟩ (.rg {fr:=[(0,4)],fz:=[4]} []<| .e ())
  (.cl 5 (dV [(0,2)] (wX o_ u0 u1)) fun r_=> .r<| .e (⟨r_⟩:aS))
section
variable (x2:(List Bool)) (u6:(List Bool)) (u2:(List Bool)) (u7:(List Bool)) (u8:(List Bool)) (u9:(List Bool)) (u1:(List Bool)) (u3:(List (Int × Int))) (t9:Int) (u0:(List Link))
abbrev k67:List DV:=[(bg none 1 ai x2),(bg none 1 ai u6),(bg none 1 ai u2),(bg none 1 ai u7),(bg none 1 ai u8),(bg none 1 ai u9),(bg none 1 ai u1)]
abbrev UX:DV:=(Da (k67 x2 u6 u2 u7 u8 u9 u1) 0)
abbrev k68:Ob:=(Hg 3 3 false false 1 1 (bM .i64) (bM .i64) u3)
abbrev k69:=(bif (bif (at' x2 t9.toNat)then(!(at' u2 t9.toNat))else false)then(!(at' u1 (((at' u0 t9.toNat).a).toNat)))else false)
abbrev Zc:=((0:Int)≤t9∧t9<(x2.length:Int))
abbrev k71:=((gB [((bif (at' x2 t9.toNat)then(!(at' u2 t9.toNat))else false),true)]=true→(0:Int)≤(at' u0 t9.toNat).a∧(at' u0 t9.toNat).a<(u1.length:Int)))
abbrev k72:=((gB [((k69 x2 u2 u1 t9 u0),true)]=true→(0:Int)≤(at' u0 t9.toNat).b∧(at' u0 t9.toNat).b<(u1.length:Int)))
end
theorem vR (x1:Int) (u4:(List Source)) (u0:(List Link)) (u5:(List aU)) (x2:(List Bool)) (u6:(List Bool)) (u2:(List Bool)) (u7:(List Bool)) (u8:(List Bool)) (u9:(List Bool)) (u1:(List Bool)) (o_:aS):eu Tryz.prog 143 [(.one (.yl 0)),(sD (k8 u4 x1 u0 u5)),(sD (UX x2 u6 u2 u7 u8 u9 u1))] (k64 o_) (fun r=>(.iI [])) (fun r=>[k65,(1,some (.cells 172 [(.mp 2)])),(2,some (Hg 3 3 false false 1 1 (bM .i64) (bM .i64) r.head))]) (mh x1 u4 u0 u5 x2 u6 u2 u7 u8 u9 u1 o_):=
  eZ tT mX Tryz.func143 (
  .r<| .lp (σ:=((List (Int × Int)) × Int)) (β:=(List (Int × Int))) (o_.head,0) [] [] ⟨[0,2,7,8],[0,1],fun(u3,t9)=>[(9,(vI t9))],fun(u3,t9)=>[(2,some (k68 u3))]⟩ ⟨[],[0,1],fun o501=>[],fun o501=>[(2,some (Hg 3 3 false false 1 1 (bM .i64) (bM .i64) o501))]⟩
  (fun(u3,t9)=> .r<| .it (.a1 (k23 u0 t9)<| .rg {fr:=[(3,10)],fz:=[10]} []<| .fk (bif (k69 x2 u2 u1 t9 u0)then(!(at' u1 (((at' u0 t9.toNat).b).toNat)))else false) (.cy 34 (wF ((at' u0 t9.toNat).a) ((at' u0 t9.toNat).b) ((at' u0 t9.toNat).kind) ((at' u0 t9.toNat).most) ((at' u0 t9.toNat).ohm) ((at' u0 t9.toNat).trip) (⟨u3⟩:aS)) fun r_=> .a4 (Zc x2 t9) ((gB [((at' x2 t9.toNat),true)]=true→(0:Int)≤t9∧t9<(u2.length:Int))) (k71 x2 u2 u1 t9 u0) (k72 x2 u2 u1 t9 u0)<| .rg {ov:=[(31,true,5)]} [0,1,2,3, .k 4]<| .f<| .r<| .e (.next (r_.head,(k18 t9))))
  (.a4 (Zc x2 t9) ((gB [((at' x2 t9.toNat),true)]=true→(0:Int)≤t9∧t9<(u2.length:Int))) (k71 x2 u2 u1 t9 u0) (k72 x2 u2 u1 t9 u0)<| .rg {ov:=[(31,false,4)],sk:=[32,33,34,35]} [0,1,2,3]<| .f<| .r<| .e (.next (u3,(k18 t9)))))
  (.e (.done (.brk u3))))
  (fun o501=> .e (⟨o501⟩:aS)))
section
variable (u1:(List aI)) (u2:(List (Int × Int))) (u3:Int) (s_:State) (u0:Int) (u7:Int) (p:au) (u5:(List aI)) (u6:Int) (u4:(List (Int × Int)))
abbrev k73:List (Nat × Option Ob):=[(60,some (.rows 129 2 u1.length (xC aI.ev u1) none)),(61,some (k68 u2))]
abbrev k74:=((0:Int)≤u3∧u3<(s_.badBus.length:Int))
abbrev Je:=((bA aY u0 u2).getD 0)
abbrev Ws:List CV:=[(cI (Je u2 u0))]
abbrev Uu:=(fB aY u0 (u1.length:Int) u2)
abbrev ZH:=(zX (bM .i64) (Uu u1 u2 u0))
abbrev Zk:=(A8 (bM .i64) (Uu u1 u2 u0))
abbrev k80:=((u1.length+[(⟨([]:List Int),([]:List Int)⟩:aI)].length)*48≤140737488355328)
abbrev RP:=(u1++[(⟨([]:List Int),([]:List Int)⟩:aI)])
abbrev ZL:=(xC aI.ev (RP u1))
abbrev Z0:=(bA aY u0 (Uu u1 u2 u0))
abbrev Uy:=((Z0 u1 u2 u0).getD 0)
abbrev k84:List CV:=[(cI (Uy u1 u2 u0))]
abbrev k86:=((0:Int)≤(Uy u1 u2 u0)∧(Uy u1 u2 u0)<((RP u1).length:Int))
abbrev Zx:=((Uy u1 u2 u0).toNat)
abbrev k90:=(at' (RP u1) (Zx u1 u2 u0))
abbrev Uk:=((k90 u1 u2 u0).buses)
abbrev k88:=((Uk u1 u2 u0).length+[u3].length)
abbrev k87:=((k88 u1 u2 u3 u0)*8≤140737488355328)
abbrev k92:=((Uk u1 u2 u0).length+[u3].length≤4611686018427387904)
abbrev Wu:=((Uk u1 u2 u0)++[u3])
abbrev k94:=(ay (bM .i64) (Wu u1 u2 u3 u0))
abbrev ZU:=((RP u1).set (Zx u1 u2 u0) (⟨(Wu u1 u2 u3 u0),(k90 u1 u2 u0).sources⟩:aI))
abbrev k95:=(xC aI.ev (ZU u1 u2 u3 u0))
abbrev k97:=((RP u1).length)
abbrev k98:=((Uk u1 u2 u0).length)
abbrev k99:=(yt (ay (bM .i64) (Uk u1 u2 u0)) (Uk u1 u2 u0).length (ay (bM .i64) [u3]))
abbrev Zu:=((Wu u1 u2 u3 u0).length)
abbrev ZI:=(UG (ZL u1) (Zx u1 u2 u0) 0 (.row 3 1 (Wu u1 u2 u3 u0).length (k94 u1 u2 u3 u0)))
abbrev aaY:=((ZU u1 u2 u3 u0),(Uu u1 u2 u0),(k18 u3))
abbrev XY:=((0:Int)≤(Je u2 u0)∧(Je u2 u0)<(u1.length:Int))
abbrev J4:=((at' u1 ((Je u2 u0).toNat)).buses)
abbrev WK:=((J4 u1 u2 u0).length+[u3].length)
abbrev OY:=((J4 u1 u2 u0)++[u3])
abbrev UL:=(ay (bM .i64) (OY u1 u2 u3 u0))
abbrev V9:=(u1.set ((Je u2 u0).toNat) (⟨(OY u1 u2 u3 u0),(at' u1 ((Je u2 u0).toNat)).sources⟩:aI))
abbrev YW:=(xC aI.ev (V9 u1 u2 u3 u0))
abbrev aak:=(yt (ay (bM .i64) (J4 u1 u2 u0)) (J4 u1 u2 u0).length (ay (bM .i64) [u3]))
abbrev ZW:=(UG (xC aI.ev u1) ((Je u2 u0).toNat) 0 (.row 3 1 (OY u1 u2 u3 u0).length (UL u1 u2 u3 u0)))
abbrev ZX:=((V9 u1 u2 u3 u0),u2,(k18 u3))
abbrev Ye:=((0:Int)≤u7∧u7<(p.sources.length:Int))
abbrev ZC:=((0:Int)≤u7∧u7<(s_.on_.length:Int))
abbrev aaK:=((gB [((at' s_.on_ u7.toNat),true)]=true→(0:Int)≤u7∧u7<(s_.badSource.length:Int)))
abbrev aaG:=((bif (at' s_.on_ u7.toNat)then(!(at' s_.badSource u7.toNat))else false),true)
abbrev aaq:=((gB [(aaG s_ u7)]=true→(0:Int)≤(at' p.sources u7.toNat).bus∧(at' p.sources u7.toNat).bus<(s_.badBus.length:Int)))
abbrev Yx:=((at' p.sources u7.toNat).bus)
abbrev Kk:=((at' u5 ((Je u4 u6).toNat)).sources)
abbrev Xb:=((Kk u5 u6 u4).length+[u7].length)
abbrev Pe:=((Kk u5 u6 u4)++[u7])
abbrev VX:=(ay (bM .i64) (Pe u7 u5 u6 u4))
abbrev VU:=(u5.set ((Je u4 u6).toNat) (⟨(at' u5 ((Je u4 u6).toNat)).buses,(Pe u7 u5 u6 u4)⟩:aI))
abbrev Xg:=(xC aI.ev (VU u7 u5 u6 u4))
abbrev aaJ:=(yt (ay (bM .i64) (Kk u5 u6 u4)) (Kk u5 u6 u4).length (ay (bM .i64) [u7]))
abbrev ZP:=(UG (xC aI.ev u5) ((Je u4 u6).toNat) 1 (.row 3 1 (Pe u7 u5 u6 u4).length (VX u7 u5 u6 u4)))
abbrev ZO:=((VU u7 u5 u6 u4),(k18 u7))
end
theorem iJ (p:au) (s_:State):eu Tryz.prog 75 (UE s_ p) [] (fun r=>(vD (bg none 2 aI.cell r))) (fun _=>[]) (fC p s_):=
  eZ tT mX Tryz.func75 (
  .rg {fr:=[(0,55),(1,56)],fz:=[56]} []<| .rg {an:=[(0, .map 0 (zX (bM .i64) ([]:(List (Int × Int)))) (A8 (bM .i64) ([]:(List (Int × Int)))) [])],fr:=[(0,57),(2,58)]} []<| .cl 2 (xY p s_) fun r_=> .r<| .cl 0 (dV [(0,59),(1,58),(2,57)] (vR r_.1 r_.2.1 r_.2.2.1 r_.2.2.2.1 r_.2.2.2.2.1 r_.2.2.2.2.2.1 r_.2.2.2.2.2.2.1 r_.2.2.2.2.2.2.2.1 r_.2.2.2.2.2.2.2.2.1 r_.2.2.2.2.2.2.2.2.2.1 r_.2.2.2.2.2.2.2.2.2.2 (⟨([]:(List (Int × Int)))⟩:aS))) fun v0=> .rf 59 [5] [] none 0 []<| .r<| .im (.adR 7 60 129 2 (xC aI.ev ([]:List aI)))<| .rg {an:=[(0, .map 0 (zX (bM .i64) ([]:(List (Int × Int)))) (A8 (bM .i64) ([]:(List (Int × Int)))) [])],fr:=[(0,61)]} []<| .r<| .lp (σ:=((List aI) × (List (Int × Int)) × Int)) (β:=((List aI) × (List (Int × Int)))) (([]:List aI),([]:(List (Int × Int))),0) [] [] ⟨[2,3,5,8,31],[55,57,58],fun(u1,u2,u3)=>[(7,(vO 60 false u1.length)),(32,(vI u3))],fun(u1,u2,u3)=>(k73 u1 u2)⟩ ⟨[2,3,5,8],[55,57,58],fun(u9,u4)=>[(7,(vO 60 false u9.length))],fun(u9,u4)=>(k73 u9 u4)⟩
  (fun(u1,u2,u3)=> .r<| .it (.r<| .a1 (k74 u3 s_)<| .r<| .it (.r<| .e (.next (u1,u2,(k18 u3))))
  (.cr 2 (dV [(0,57)] (gH v0 u3)) fun u0=> .r<| .rg {an:=[(2, .look (bA aY u0 u2).isSome (Ws u2 u0))]} [.pf ⟨fF [some .i64] 1 1 u2.length (zX (bM .i64) u2) (A8 (bM .i64) u2) [(.int .i64 u0)] [(.d (.int .i64 0))] (bA aY u0 u2).isSome (Ws u2 u0),oh (fun _=>rfl) (fun _ _=>rfl) u2 u0 0 rfl rfl rfl⟩]<| .r<| .it (.rg {an:=[(4, .map (Uu u1 u2 u0).length (ZH u1 u2 u0) (Zk u1 u2 u0) [])]} [.pf ⟨vZ [some .i64] 1 1 u2.length (zX (bM .i64) u2) (A8 (bM .i64) u2) [(.int .i64 u0)] [(cI (u1.length:Int))] [] (Uu u1 u2 u0).length (ZH u1 u2 u0) (Zk u1 u2 u0),Ey (fun _=>rfl) (fun _ _=>rfl) u2 u0 (u1.length:Int) rfl rfl⟩]<| .a2 (k80 u1) (u1.length+[(⟨([]:List Int),([]:List Int)⟩:aI)].length≤4611686018427387904)<| .rg {an:=[(2, .arr [(⟨([]:List Int),([]:List Int)⟩:aI)].length (vE 2 [nS,nS])),(3, .rows (RP u1).length (ZL u1))],fr:=[(2,86),(3,87)]} [.pf ⟨[(⟨([]:List Int),([]:List Int)⟩:aI)].length=1,rfl⟩, .pf ⟨aR 1 2 (vE 2 [nS,nS]) (vE 2 [nS,nS]),xw _ _ _⟩, .e (u1.length),0,1, .pf ⟨(RP u1).length=u1.length+[(⟨([]:List Int),([]:List Int)⟩:aI)].length,List.length_append⟩, .pf ⟨DZ u1.length [(⟨([]:List Int),([]:List Int)⟩:aI)].length 2 (xC aI.ev u1) (vE 2 [nS,nS]) (ZL u1),Tv _ _ _ _ _ (by intro i hi j hj;match i,j,hi,hj with|0,0,_,_=>exact⟨rfl,_,_,_,rfl⟩|0,1,_,_=>exact⟨rfl,_,_,_,rfl⟩)⟩]<| .rg {an:=[(2, .look (Z0 u1 u2 u0).isSome (k84 u1 u2 u0))]} [.pf ⟨fF [some .i64] 1 1 (Uu u1 u2 u0).length (ZH u1 u2 u0) (Zk u1 u2 u0) [(.int .i64 u0)] [(.d (.int .i64 0))] (Z0 u1 u2 u0).isSome (k84 u1 u2 u0),oh (fun _=>rfl) (fun _ _=>rfl) (Uu u1 u2 u0) u0 0 rfl rfl rfl⟩]<| .a3 (k86 u1 u2 u0) (k87 u1 u2 u3 u0) (k92 u1 u2 u3 u0)<| .rg {an:=[(6, .take 88),(8, .arr [u3].length (ay (bM .i64) [u3])),(9, .arr (Wu u1 u2 u3 u0).length (k94 u1 u2 u3 u0)),(12, .rows 0 (k95 u1 u2 u3 u0))],fr:=[(8,89),(9,90)]} [0, .t 0 (Uy u1 u2 u0) (k97 u1), .pf ⟨[u3].length=1,rfl⟩, .pf ⟨aR 1 1 (vE 1 [(.int .i64 u3)]) (ay (bM .i64) [u3]),(by intro i hi j hj;match i,j,hi,hj with|0,0,_,_=>rfl)⟩, .e (k98 u1 u2 u0),1,2, .pf ⟨(Wu u1 u2 u3 u0).length=(Uk u1 u2 u0).length+[u3].length,List.length_append⟩, .pf ⟨aR (k88 u1 u2 u3 u0) 1 (k99 u1 u2 u3 u0) (k94 u1 u2 u3 u0),iU _ _ _ _⟩,0, .t 0 (Uy u1 u2 u0) (k97 u1), .e (Zu u1 u2 u3 u0), .pf ⟨Rw (RP u1).length 2 (ZI u1 u2 u3 u0) (k95 u1 u2 u3 u0),EH _ _ _ _ _ _ _ _ rfl (fun j hj=>(match j,hj with|0,_=>rfl|1,_=>rfl))⟩, .pf ⟨∀i0 j0 c0,((some ((Uy u1 u2 u0).toNat,0,CV.own 88 false (Uk u1 u2 u0).length)):Option (Nat × Nat × CV))=some (i0,j0,c0)→i0=(Uy u1 u2 u0).toNat∧j0=0,(fun i0 j0 c0 e=>by cases e;exact⟨rfl,rfl⟩)⟩]<| .im (.ll 87 (RP u1) (ZU u1 u2 u3 u0))<| .r<| .en (.next (aaY u1 u2 u3 u0)) [] [(87,60)])
  (.rg {an:=[(2, .look (bA aY u0 u2).isSome (Ws u2 u0))]} [.pf ⟨fF [some .i64] 1 1 u2.length (zX (bM .i64) u2) (A8 (bM .i64) u2) [(.int .i64 u0)] [(.d (.int .i64 0))] (bA aY u0 u2).isSome (Ws u2 u0),oh (fun _=>rfl) (fun _ _=>rfl) u2 u0 0 rfl rfl rfl⟩]<| .a3 (XY u1 u2 u0) ((WK u1 u2 u3 u0)*8≤140737488355328) ((J4 u1 u2 u0).length+[u3].length≤4611686018427387904)<| .rg {an:=[(6, .take 91),(8, .arr [u3].length (ay (bM .i64) [u3])),(9, .arr (OY u1 u2 u3 u0).length (UL u1 u2 u3 u0)),(12, .rows 0 (YW u1 u2 u3 u0))],fr:=[(8,92),(9,93)]} [0, .t 0 (Je u2 u0) u1.length, .pf ⟨[u3].length=1,rfl⟩, .pf ⟨aR 1 1 (vE 1 [(.int .i64 u3)]) (ay (bM .i64) [u3]),(by intro i hi j hj;match i,j,hi,hj with|0,0,_,_=>rfl)⟩, .e ((J4 u1 u2 u0).length),1,2, .pf ⟨(OY u1 u2 u3 u0).length=(J4 u1 u2 u0).length+[u3].length,List.length_append⟩, .pf ⟨aR (WK u1 u2 u3 u0) 1 (aak u1 u2 u3 u0) (UL u1 u2 u3 u0),iU _ _ _ _⟩,0, .t 0 (Je u2 u0) u1.length, .e ((OY u1 u2 u3 u0).length), .pf ⟨Rw u1.length 2 (ZW u1 u2 u3 u0) (YW u1 u2 u3 u0),EH _ _ _ _ _ _ _ _ rfl (fun j hj=>(match j,hj with|0,_=>rfl|1,_=>rfl))⟩, .pf ⟨∀i0 j0 c0,((some ((Je u2 u0).toNat,0,CV.own 91 false (J4 u1 u2 u0).length)):Option (Nat × Nat × CV))=some (i0,j0,c0)→i0=(Je u2 u0).toNat∧j0=0,(fun i0 j0 c0 e=>by cases e;exact⟨rfl,rfl⟩)⟩]<| .im (.ll 60 u1 (V9 u1 u2 u3 u0))<| .r<| .e (.next (ZX u1 u2 u3 u0)))))
  (.e (.done (.brk (u1,u2)))))
  (fun(u9,u4)=> .r<| .lp (σ:=((List aI) × Int)) (β:=(List aI)) (u9,0) [] [] ⟨[3,5,8,76,77],[57,58,61],fun(u5,u7)=>[(7,(vO 60 false u5.length)),(78,(vI u7))],fun(u5,u7)=>[(60,some (.rows 129 2 u5.length (xC aI.ev u5) none))]⟩ ⟨[],[],fun u8=>[(7,(vO 60 false u8.length))],fun u8=>[(60,some (.rows 129 2 u8.length (xC aI.ev u8) none))]⟩
  (fun(u5,u7)=> .r<| .it (.a1 (Ye u7 p)<| .rg {fr:=[(3,106)],fz:=[106]} []<| .a3 (ZC s_ u7) (aaK s_ u7) (aaq s_ u7 p)<| .rg {} [0,1,2]<| .it (.cr 4 (dV [(0,57)] (gH v0 (Yx u7 p))) fun u6=> .rg {an:=[(5, .look (bA aY u6 u4).isSome (Ws u4 u6))]} [0, .pf ⟨fF [some .i64] 1 1 u4.length (zX (bM .i64) u4) (A8 (bM .i64) u4) [(.int .i64 u6)] [(.d (.int .i64 0))] (bA aY u6 u4).isSome (Ws u4 u6),oh (fun _=>rfl) (fun _ _=>rfl) u4 u6 0 rfl rfl rfl⟩]<| .a3 (XY u5 u4 u6) ((Xb u7 u5 u6 u4)*8≤140737488355328) ((Kk u5 u6 u4).length+[u7].length≤4611686018427387904)<| .rg {an:=[(6, .take 107),(8, .arr [u7].length (ay (bM .i64) [u7])),(9, .arr (Pe u7 u5 u6 u4).length (VX u7 u5 u6 u4)),(12, .rows 0 (Xg u7 u5 u6 u4))],fr:=[(8,108),(9,109)]} [0, .t 0 (Je u4 u6) u5.length, .pf ⟨[u7].length=1,rfl⟩, .pf ⟨aR 1 1 (vE 1 [(.int .i64 u7)]) (ay (bM .i64) [u7]),(by intro i hi j hj;match i,j,hi,hj with|0,0,_,_=>rfl)⟩, .e ((Kk u5 u6 u4).length),1,2, .pf ⟨(Pe u7 u5 u6 u4).length=(Kk u5 u6 u4).length+[u7].length,List.length_append⟩, .pf ⟨aR (Xb u7 u5 u6 u4) 1 (aaJ u7 u5 u6 u4) (VX u7 u5 u6 u4),iU _ _ _ _⟩,0, .t 0 (Je u4 u6) u5.length, .e ((Pe u7 u5 u6 u4).length), .pf ⟨Rw u5.length 2 (ZP u7 u5 u6 u4) (Xg u7 u5 u6 u4),EH _ _ _ _ _ _ _ _ rfl (fun j hj=>(match j,hj with|0,_=>rfl|1,_=>rfl))⟩, .pf ⟨∀i0 j0 c0,((some ((Je u4 u6).toNat,1,CV.own 107 false (Kk u5 u6 u4).length)):Option (Nat × Nat × CV))=some (i0,j0,c0)→i0=(Je u4 u6).toNat∧j0=1,(fun i0 j0 c0 e=>by cases e;exact⟨rfl,rfl⟩)⟩]<| .im (.ll 60 u5 (VU u7 u5 u6 u4))<| .r<| .e (.next (ZO u7 u5 u6 u4)))
  (.r<| .e (.next (u5,(k18 u7)))))
  (.e (.done (.brk u5))))
  (fun u8=> .r<| .fz [60]<| .im (.us 4 (vD (.sl none 2 u8.length (fun i j=>ZB (xC aI.ev u8 i j)))) (vD (bg none 2 aI.cell u8)) (Ap.v (qX.one (lT.d (kI.sl (.inr rfl) (fun i _ j hj=>match j,hj with|0,_=> .refl _|1,_=> .refl _))))))<| .e u8)))
section
variable (p:au) (u0:Int) (u1:(List aI)) (u3:Int) (u2:(List Bool)) (u6:(List Bool))
abbrev Xl:=((1:Int)*p.buses≤281474976710656)
abbrev Yb:=((p.buses:Int)≤9223372036854775807)
abbrev Mx:=(List.replicate p.buses.toNat (false:Bool))
abbrev TB:=(ay ai (Mx p))
abbrev Ug:=((0:Int)≤u0∧u0<(u1.length:Int))
abbrev Yp:=((0:Int)≤u3∧u3<(((at' u1 u0.toNat).buses).length:Int))
abbrev Pk:=(at' ((at' u1 u0.toNat).buses) u3.toNat)
abbrev YZ:=((0:Int)≤(Pk u0 u1 u3)∧(Pk u0 u1 u3)<(u2.length:Int))
abbrev Ub:=(u2.set ((Pk u0 u1 u3).toNat) (decide (0<(((at' u1 u0.toNat).sources).length:Int))))
abbrev RO:=(ay ai (Ub u0 u1 u3 u2))
abbrev Y6:=(xO (ay ai u2) ((Pk u0 u1 u3).toNat) 0 [(.bool (decide (0<(((at' u1 u0.toNat).sources).length:Int))))])
abbrev XK:=((Ub u0 u1 u3 u2),(k18 u3))
abbrev WX:=(u6,(k18 u0))
end
theorem DR (p:au) (s_:State):eu Tryz.prog 30 (UE s_ p) [] (fun r=>(.iI [(sD (bg none 1 ai r.1)),(sI r.2)])) (fun _=>[]) (fZ p s_):=
  eZ tT mX Tryz.func30 (
  .rg {fr:=[(0,7),(1,8)],fz:=[7,8]} []<| .cl 2 (dF p s_) fun r_=> .r<| .r<| .it (.r<| .e (([]:List Bool),r_))
  (.a3 ((0:Int)≤p.buses) (Xl p) (Yb p)<| .rg {an:=[(2, .arr (Mx p).length (TB p))],fr:=[(2,9)]} [0, .e ((p.buses:Int)),1,2, .pf ⟨(Mx p).length=p.buses.toNat,List.length_replicate⟩, .pf ⟨aR p.buses.toNat 1 (fun _ j=>[(.bool false)].getD j .nilp) (TB p),pO _ _ _ _ _ (fun j hj=>(match j,hj with|0,_=>rfl))⟩]<| .cl 2 (iJ p s_) fun u1=> .r<| .lp (σ:=((List Bool) × Int)) (β:=(List Bool)) ((Mx p),0) [] [] ⟨[23,24],[],fun(u4,u0)=>[(7,(vO 9 true u4.length)),(25,(vI u0))],fun(u4,u0)=>[(9,some (bO 4 1 ai u4))]⟩ ⟨[],[],fun u5=>[(7,(vO 9 true u5.length))],fun u5=>[(9,some (bO 4 1 ai u5))]⟩
  (fun(u4,u0)=> .r<| .it (.a1 (Ug u0 u1)<| .rg {fr:=[(2,13)]} []<| .rg {fz:=[13]} []<| .lp (σ:=((List Bool) × Int)) (β:=(List Bool)) (u4,0) [] [] ⟨[9,23,24,25,30,31],[],fun(u2,u3)=>[(7,(vO 9 true u2.length)),(32,(vI u3))],fun(u2,u3)=>[(9,some (bO 4 1 ai u2))]⟩ ⟨[23,24,25],[],fun u6=>[(7,(vO 9 true u6.length))],fun u6=>[(9,some (bO 4 1 ai u6))]⟩
  (fun(u2,u3)=> .r<| .it (.a1 (Yp u0 u1 u3)<| .r<| .a1 (YZ u0 u1 u3 u2)<| .rg {an:=[(7, .arr 0 (RO u0 u1 u3 u2))]} [0, .t 0 (Pk u0 u1 u3) u2.length, .pf ⟨aR u2.length 1 (Y6 u0 u1 u3 u2) (RO u0 u1 u3 u2),fe _ _ _ _ _ _ _ _ rfl (fun j hj=>(match j,hj with|0,_=>rfl))⟩]<| .im (.ll 9 u2 (Ub u0 u1 u3 u2))<| .r<| .e (.next (XK u0 u1 u3 u2)))
  (.e (.done (.brk u2))))
  (fun u6=> .r<| .e (.next (WX u0 u6))))
  (.e (.done (.brk u4))))
  (fun u5=> .rg {fz:=[9]} []<| .e (u5,0))))
theorem yG (x:Int):eu Tryz.prog 154 [(sI x)] [] (fun r=>(vB r)) (fun _=>[]) (uN x):=
  eZ tT mX Tryz.func154 (
  .r<| .r<| .e (!decide (x=x)))
theorem CJ (x:Int) (y:Int):eu Tryz.prog 118 [(sI x),(sI y)] [] (fun r=>(vI r)) (fun _=>[]) (qo x y):=
  eZ tT mX Tryz.func118 (
  .r<| .cl 1 (yG x) fun r_=> .r<| .cl 1 (yG y) fun u0=> .r<| .r<| .it (.r<| .it (.r<| .e 0)
  (.r<| .e (-1)))
  (.r<| .it (.r<| .e 1)
  (.r<| .it (.r<| .e (-1))
  (.r<| .it (.r<| .e 1)
  (.r<| .e 0)))))
theorem zK (s1:(List Int)) (s2:(List Int)):eu Tryz.prog 78 [(sD (RB s1)),(sD (RB s2))] [] (fun r=>(vI r)) (fun _=>[]) (qf s1 s2):=
  eZ tT mX Tryz.func78 (
  .r<| .r<| .lp (σ:=Int) (β:=Unit) (0) [] [] ⟨[0,1,9,10],[],fun u0=>[(11,(vI u0))],fun u0=>[]⟩ ⟨[0,1],[],fun _=>[],fun _=>[]⟩
  (fun u0=> .r<| .it (.a1 (Wt s1 u0)<| .r<| .r<| .it (.r<| .e (.done (.ret 1)))
  (.a1 (Wt s2 u0)<| .r<| .cl 2 (CJ (at' s1 u0.toNat) (at' s2 u0.toNat)) fun r_=> .r<| .r<| .it (.r<| .e (.done (.ret r_)))
  (.r<| .e (.next (k18 u0)))))
  (.e (.done (.brk ()))))
  (fun _=> .r<| .it (.r<| .e (-1))
  (.r<| .e 0)))
theorem yu (a:aC) (b:aC):eu Tryz.prog 77 [(.agg [(cI a.e0),(cI a.e1)]),(.agg [(cI b.e0),(cI b.e1)])] [] (fun r=>(vI r)) (fun _=>[]) (je a b):=
  eZ tT mX Tryz.func77 (
  .rg {fr:=[(0,2),(1,3)],fz:=[2,3]} []<| .cl 2 ⟨fun{r_} hr_=>((Fn.RY (args:=[(sD (bg none 1 (bM .i64) [a.e0,a.e1])),(sD (bg none 1 (bM .i64) [b.e0,b.e1]))]) (args':=[(sD (.sl (some true) 1 [a.e0,a.e1].length (fun i j=>([(.int .i64 a.e0),(.int .i64 a.e1)].getD (0+(i*1+j)) .nilp)))),(sD (.sl (some true) 1 [b.e0,b.e1].length (fun i j=>([(.int .i64 b.e0),(.int .i64 b.e1)].getD (0+(i*1+j)) .nilp))))]) (hin:=[]) (hin':=[]) (zK [a.e0,a.e1] [b.e0,b.e1] hr_) ⟨qX.one (lT.d (kI.sl (.inl rfl) (by intro i hi j hj;match i,j,hi,hj with|0,0,_,_=>exact .refl _|1,0,_,_=>exact .refl _))),qX.one (lT.d (kI.sl (.inl rfl) (by intro i hi j hj;match i,j,hi,hj with|0,0,_,_=>exact .refl _|1,0,_,_=>exact .refl _))),trivial⟩ trivial):Fn Tryz.prog 78 [(sD (.sl (some true) 1 [a.e0,a.e1].length (fun i j=>([(.int .i64 a.e0),(.int .i64 a.e1)].getD (0+(i*1+j)) .nilp)))),(sD (.sl (some true) 1 [b.e0,b.e1].length (fun i j=>([(.int .i64 b.e0),(.int .i64 b.e1)].getD (0+(i*1+j)) .nilp))))] [] (vI r_) [])⟩ fun r_=> .r<| .e r_)
theorem pJ (x y:aC):je x y=some (if x.e0<y.e0 then -1 else if y.e0<x.e0 then 1 else if x.e1<y.e1 then -1 else if y.e1<x.e1 then 1 else 0):=by
 have hc: ∀a b:Int,qo a b=some (if a<b then -1 else if b<a then 1 else 0):=by
  intro a b
  unfold qo uN
  by_cases h:a<b<;>by_cases g:b<a<;>simp [h,g]
 obtain⟨k,hk⟩: ∃k,FUEL=k+1+1+1:=⟨1180591620717411303421,rfl⟩
 unfold je qf
 rw [hk]
 simp only [aF,rq,hc,aJ,at']
 by_cases h0:x.e0<y.e0<;>by_cases g0:y.e0<x.e0<;>by_cases h1:x.e1<y.e1<;>by_cases g1:y.e1<x.e1<;>simp [h0,g0,h1,g1,IntKind.wrap_i64]
theorem wW (x y:aC):je x y=some (aZ x y):=by unfold aZ;rw [pJ];rfl
theorem iW (x y:aC):Go.Proofs.ltOf aZ x y=true↔x.e0<y.e0∨ ¬ y.e0<x.e0∧x.e1<y.e1:=by
 unfold Go.Proofs.ltOf aZ;rw [pJ,decide_eq_true_iff]
 by_cases h0:x.e0<y.e0<;>by_cases g0:y.e0<x.e0<;>by_cases h1:x.e1<y.e1<;>by_cases g1:y.e1<x.e1<;>simp [h0,g0,h1,g1]
theorem xZ:Go.Sort.SWO (Go.Proofs.ltOf aZ) where
 irrefl x:=by rw [←Bool.not_eq_true,iW];omega
 trans x y z h1 h2:=by rw [iW]at*;omega
 ntrans x y z h1 h2:=by rw [←Bool.not_eq_true,iW]at*;omega
theorem yh (x y:aC) (h1:(Go.Proofs.ltOf aZ) x y=false) (h2:(Go.Proofs.ltOf aZ) y x=false):x=y:=by
 rw [←Bool.not_eq_true,iW]at h1 h2
 obtain⟨a,b⟩:=x
 obtain⟨c,d⟩:=y
 have e1:a=c:=by simp only at h1 h2;omega
 have e2:b=d:=by simp only at h1 h2;omega
 rw [e1,e2]
theorem yP (s:(List aC)) {r:(List aC)} (h:iZ s=some r):Fn Tryz.prog 76 [(.one (.own 0 false s.length)),(sD (.fn 77 0 (bn [])))] [(0,some (.arr 117 2 s.length (ay aC.cell s)))] (.iI []) [(0,some (.arr 117 2 r.length (ay aC.cell r)))]:=
 U4 Rj 2 RU Qu (fun x:aC=>[.int .i64 x.e0, .int .i64 x.e1]) (fun _=>rfl) (fun x v hv=>by simp at hv;rcases hv with rfl|rfl<;>rfl) aZ xZ yh (ec:=fun x=>[(cI x.e0),(cI x.e1)])
  (fun x y=>yu x y (wW x y)) (fun F w x=> ⟨rfl,rfl,trivial⟩) (enters_of Tryz.func77 (by kernel_rfl) rfl)
  (fun F w x j hj v=>match j,hj with|0,_=>Iff.rfl|1,_=>Iff.rfl) 76 rfl ⟨_,Tryz.func76,rfl,rfl⟩ s (by cases s with|nil=>(cases h;simp)|cons x xs=>exact h)
section
variable (u6:(List aC)) (u1:Int) (u2:(List aI)) (u0:Int) (u3:Int) (p:au) (u4:(List aC))
abbrev NV:List (Nat × Option Ob):=[(138,some (bO 117 2 aC.cell u6))]
abbrev aas:=((0:Int)≤(k18 u1)∧(k18 u1)≤(((at' u2 u0.toNat).sources).length:Int))
abbrev TS:=((k18 u1).toNat)
abbrev Wi:=(((at' u2 u0.toNat).sources).drop (TS u1))
abbrev aaU:=((0:Int)≤u3∧u3<((Wi u1 u2 u0).length:Int))
abbrev Kz:=(at' ((at' u2 u0.toNat).sources) u1.toNat)
abbrev aaz:=((0:Int)≤(Kz u1 u2 u0)∧(Kz u1 u2 u0)<(p.sources.length:Int))
abbrev ZQ:=((gB [((decide (((at' p.sources ((Kz u1 u2 u0).toNat)).sync)=0)),false)]=true→(0:Int)≤(Kz u1 u2 u0)∧(Kz u1 u2 u0)<(p.sources.length:Int)))
abbrev Sr:=(at' (Wi u1 u2 u0) u3.toNat)
abbrev Zn:=((gB [((decide (((at' p.sources ((Kz u1 u2 u0).toNat)).sync)=0)),false)]=true→(0:Int)≤(Sr u1 u2 u0 u3)∧(Sr u1 u2 u0 u3)<(p.sources.length:Int)))
abbrev Mi:=(⟨(Kz u1 u2 u0),(Sr u1 u2 u0 u3)⟩:aC)
abbrev YQ:=(u4.length+[(Mi u1 u2 u0 u3)].length)
abbrev aaV:=((YQ u1 u2 u0 u3 u4)*16≤140737488355328)
abbrev aaF:=(u4.length+[(Mi u1 u2 u0 u3)].length≤4611686018427387904)
abbrev VH:=(ay aC.cell [(Mi u1 u2 u0 u3)])
abbrev Tq:=(u4++[(Mi u1 u2 u0 u3)])
abbrev Y3:=(ay aC.cell (Tq u1 u2 u0 u3 u4))
abbrev aai:=(vE 2 [(.int .i64 (Kz u1 u2 u0)),(.int .i64 (Sr u1 u2 u0 u3))])
abbrev Zz:=(yt (ay aC.cell u4) u4.length (VH u1 u2 u0 u3))
abbrev aaH:=((Tq u1 u2 u0 u3 u4),(k18 u3))
abbrev Vm:=(u4,(k18 u3))
end
theorem AL (p:au) (s_:State):eu Tryz.prog 32 (UE s_ p) [] (fun r=>(.iI [(sD (bg none 2 aC.cell r.1)),(sI r.2)])) (fun _=>[]) (nI p s_):=
  eZ tT mX Tryz.func32 (
  .rg {fr:=[(0,134),(1,135)],fz:=[134,135]} []<| .cl 2 (dF p s_) fun r_=> .r<| .r<| .it (.r<| .e (([]:List aC),r_))
  (.r<| .cl 2 (iJ p s_) fun u2=> .r<| .im (.ad 7 268 117 2 (ay aC.cell ([]:List aC)))<| .lp (σ:=((List aC) × Int)) (β:=(List aC)) (([]:List aC),0) [] [(268,138)] ⟨[2,22,23],[],fun(u6,u0)=>[(7,(vO 138 false u6.length)),(24,(vI u0))],fun(u6,u0)=>(NV u6)⟩ ⟨[],[],fun u5=>[(7,(vO 138 false u5.length))],fun u5=>(NV u5)⟩
  (fun(u6,u0)=> .r<| .it (.a1 (Ug u0 u2)<| .rg {fr:=[(2,235)],fz:=[235]} []<| .r<| .lp (σ:=((List aC) × Int)) (β:=(List aC)) (u6,0) [] [] ⟨[2,9,22,23,24,29,30],[],fun(u7,u1)=>[(7,(vO 138 false u7.length)),(31,(vI u1))],fun(u7,u1)=>(NV u7)⟩ ⟨[2,22,23,24],[],fun u8=>[(7,(vO 138 false u8.length))],fun u8=>(NV u8)⟩
  (fun(u7,u1)=> .r<| .it (.a1 ((0:Int)≤u1∧u1<(((at' u2 u0.toNat).sources).length:Int))<| .r<| .a1 (aas u1 u2 u0)<| .r<| .im (.us 40 (vD (.sl none 1 (((at' u2 u0.toNat).sources).length - (TS u1)) (fun iq jq=>ay (bM .i64) ((at' u2 u0.toNat).sources) (iq+(TS u1)) jq))) (vD (bg none 1 (bM .i64) (Wi u1 u2 u0))) (Ap.v (qX.one (lT.d (kI.Zg (by first|rw [List.length_append,List.length_drop]|simp only [List.length_set,List.length_drop,Cm]) (.inr rfl) (U5 _ _ _ _))))))<| .lp (σ:=((List aC) × Int)) (β:=(List aC)) (u7,0) [] [] ⟨[2,9,11,22,23,24,29,30,31,40,41],[],fun(u4,u3)=>[(7,(vO 138 false u4.length)),(42,(vI u3))],fun(u4,u3)=>(NV u4)⟩ ⟨[2,9,22,23,24,29,30,31],[],fun u9=>[(7,(vO 138 false u9.length))],fun u9=>(NV u9)⟩
  (fun(u4,u3)=> .r<| .it (.a1 (aaU u1 u2 u0 u3)<| .r<| .a3 (aaz u1 u2 u0 p) (ZQ u1 u2 u0 p) (Zn u1 u2 u0 u3 p)<| .rg {} [0,1,2]<| .it (.a2 (aaV u1 u2 u0 u3 u4) (aaF u1 u2 u0 u3 u4)<| .rg {an:=[(4, .arr [(Mi u1 u2 u0 u3)].length (VH u1 u2 u0 u3)),(5, .arr (Tq u1 u2 u0 u3 u4).length (Y3 u1 u2 u0 u3 u4))],fr:=[(4,266),(5,267)]} [.pf ⟨[(Mi u1 u2 u0 u3)].length=1,rfl⟩, .pf ⟨aR 1 2 (aai u1 u2 u0 u3) (VH u1 u2 u0 u3),(by intro i hi j hj;match i,j,hi,hj with|0,0,_,_=>rfl|0,1,_,_=>rfl)⟩, .e (u4.length),0,1, .pf ⟨(Tq u1 u2 u0 u3 u4).length=u4.length+[(Mi u1 u2 u0 u3)].length,List.length_append⟩, .pf ⟨aR (YQ u1 u2 u0 u3 u4) 2 (Zz u1 u2 u0 u3 u4) (Y3 u1 u2 u0 u3 u4),iU _ _ _ _⟩]<| .r<| .en (.next (aaH u1 u2 u0 u3 u4)) [] [(267,138)])
  (.r<| .e (.next (Vm u3 u4))))
  (.e (.done (.brk u4))))
  (fun u9=> .r<| .e (.next (Vm u1 u9))))
  (.e (.done (.brk u7))))
  (fun u8=> .r<| .e (.next (Vm u0 u8))))
  (.e (.done (.brk u6))))
  (fun u5=> .cl 1 (dV [(0,138)] ⟨fun h=>yP u5 h⟩) fun v0=> .r<| .a1 (u5.length=v0.length)<| .so 7 138 false u5.length v0.length 0<| .so 77 138 false u5.length v0.length 0<| .fz [138]<| .r<| .e (v0,0))))
theorem AX (p:au) (s_:State):eu Tryz.prog 30 (UE s_ p) [] (fun r=>(.iI [(.one (.own 0 false r.1.length)),(sI r.2)])) (fun r=>[(0,some (bO 4 1 ai r.1))]) (fZ p s_):=
  eZ tT mX Tryz.func30 (
  .rg {fr:=[(0,7),(1,8)],fz:=[7,8]} []<| .cl 2 (dF p s_) fun r_=> .r<| .r<| .it (.r<| .im (.ad 4 9 4 1 (ay ai ([]:List Bool)))<| .en (([]:List Bool),r_) [] [(9,0)])
  (.a3 ((0:Int)≤p.buses) (Xl p) (Yb p)<| .rg {an:=[(2, .arr (Mx p).length (TB p))],fr:=[(2,10)]} [0, .e ((p.buses:Int)),1,2, .pf ⟨(Mx p).length=p.buses.toNat,List.length_replicate⟩, .pf ⟨aR p.buses.toNat 1 (fun _ j=>[(.bool false)].getD j .nilp) (TB p),pO _ _ _ _ _ (fun j hj=>(match j,hj with|0,_=>rfl))⟩]<| .cl 2 (iJ p s_) fun u1=> .r<| .lp (σ:=((List Bool) × Int)) (β:=(List Bool)) ((Mx p),0) [] [] ⟨[23,24],[],fun(u4,u0)=>[(7,(vO 10 true u4.length)),(25,(vI u0))],fun(u4,u0)=>[(10,some (bO 4 1 ai u4))]⟩ ⟨[],[],fun u5=>[(7,(vO 10 true u5.length))],fun u5=>[(10,some (bO 4 1 ai u5))]⟩
  (fun(u4,u0)=> .r<| .it (.a1 (Ug u0 u1)<| .rg {fr:=[(2,14)]} []<| .rg {fz:=[14]} []<| .lp (σ:=((List Bool) × Int)) (β:=(List Bool)) (u4,0) [] [] ⟨[9,23,24,25,30,31],[],fun(u2,u3)=>[(7,(vO 10 true u2.length)),(32,(vI u3))],fun(u2,u3)=>[(10,some (bO 4 1 ai u2))]⟩ ⟨[23,24,25],[],fun u6=>[(7,(vO 10 true u6.length))],fun u6=>[(10,some (bO 4 1 ai u6))]⟩
  (fun(u2,u3)=> .r<| .it (.a1 (Yp u0 u1 u3)<| .r<| .a1 (YZ u0 u1 u3 u2)<| .rg {an:=[(7, .arr 0 (RO u0 u1 u3 u2))]} [0, .t 0 (Pk u0 u1 u3) u2.length, .pf ⟨aR u2.length 1 (Y6 u0 u1 u3 u2) (RO u0 u1 u3 u2),fe _ _ _ _ _ _ _ _ rfl (fun j hj=>(match j,hj with|0,_=>rfl))⟩]<| .im (.ll 10 u2 (Ub u0 u1 u3 u2))<| .r<| .e (.next (XK u0 u1 u3 u2)))
  (.e (.done (.brk u2))))
  (fun u6=> .r<| .e (.next (WX u0 u6))))
  (.e (.done (.brk u4))))
  (fun u5=> .r<| .en (u5,0) [] [(10,0)])))
section
variable (p:au) (u0:Int) (r_:((List Bool) × Int)) (u1:(List aW))
abbrev Bu:=((at' p.racks u0.toNat).feeds)
abbrev Xn:List DV:=[(.int .i64 ((Bu p u0).e0))]
abbrev SK:List CV:=[(cI ((Bu p u0).e0)),(cI ((Bu p u0).e1))]
abbrev aaD:=((gB [((decide (0≤((Bu p u0).e0))),true)]=true→(0:Int)≤(Bu p u0).e0∧(Bu p u0).e0<(r_.1.length:Int)))
abbrev WE:List DV:=[(.int .i64 ((Bu p u0).e1))]
abbrev ZN:=((gB [((decide (0≤((Bu p u0).e1))),true)]=true→(0:Int)≤(Bu p u0).e1∧(Bu p u0).e1<(r_.1.length:Int)))
abbrev WT:=(bif (decide (0≤((Bu p u0).e0)))then(at' r_.1 (((Bu p u0).e0).toNat))else false)
abbrev X9:=(bif (decide (0≤((Bu p u0).e1)))then(at' r_.1 (((Bu p u0).e1).toNat))else false)
abbrev MV:=(⟨(WT p u0 r_),(X9 p u0 r_)⟩:aW)
abbrev WN:=(u1.length+[(MV p u0 r_)].length)
abbrev aaQ:=((WN p u0 r_ u1)*2≤140737488355328)
abbrev aaS:=(u1.length+[(MV p u0 r_)].length≤4611686018427387904)
abbrev U8:=(ay aW.cell [(MV p u0 r_)])
abbrev TF:=(u1++[(MV p u0 r_)])
abbrev Xd:=(ay aW.cell (TF p u0 r_ u1))
abbrev Zr:=(vE 2 [(.bool (WT p u0 r_)),(.bool (X9 p u0 r_))])
abbrev aaA:=(yt (ay aW.cell u1) u1.length (U8 p u0 r_))
abbrev Zq:=((TF p u0 r_ u1),(k18 u0))
end
theorem Co (p:au) (s_:State):eu Tryz.prog 31 (UE s_ p) [] (fun r=>(.iI [(.one (.own 0 false r.1.length)),(sI r.2)])) (fun r=>[(0,some (bO 78 2 aW.cell r.1))]) (uD p s_):=
  eZ tT mX Tryz.func31 (
  .rg {fr:=[(0,19),(1,20)],fz:=[20]} []<| .cl 2 (dV [(0,21)] (AX p s_)) fun r_=> .rg {fz:=[21]} []<| .r<| .it (.r<| .im (.ad 4 22 78 2 (ay aW.cell ([]:List aW)))<| .en (([]:List aW),r_.2) [] [(22,0)])
  (.r<| .r<| .im (.ad 8 39 78 2 (ay aW.cell ([]:List aW)))<| .lp (σ:=((List aW) × Int)) (β:=(List aW)) (([]:List aW),0) [] [(39,26)] ⟨[6,24,25],[],fun(u1,u0)=>[(8,(vO 26 false u1.length)),(26,(vI u0))],fun(u1,u0)=>[(26,some (bO 78 2 aW.cell u1))]⟩ ⟨[],[],fun u2=>[(8,(vO 26 false u2.length))],fun u2=>[(26,some (bO 78 2 aW.cell u2))]⟩
  (fun(u1,u0)=> .r<| .it (.a1 ((0:Int)≤u0∧u0<(p.racks.length:Int))<| .rg {fr:=[(2,35)],fz:=[35]} []<| .rg {fr:=[(0,36)]} []<| .r<| .ul 11<| .r<| .t<| .rg {an:=[(1, .vals (Xn p u0))]} [.pf ⟨(0:Int)≤0∧(0:Int)<(2:Nat),(by decide)⟩, .pf ⟨0*1+1≤(SK p u0).length,Nat.le_of_ble_eq_true rfl⟩, .pf ⟨((SK p u0).drop (0*1)).take 1=(Xn p u0).map .d,rfl⟩]<| .a1 (aaD p u0 r_)<| .rg {} [0, .pf ⟨(0:Int)≤0∧(0:Int)<(2:Nat),(by decide)⟩]<| .r<| .im (.dp [6,8,11,24,25,26,31,32])<| .r<| .t<| .rg {an:=[(1, .vals (WE p u0))]} [.pf ⟨(0:Int)≤1∧(1:Int)<(2:Nat),(by decide)⟩, .pf ⟨1*1+1≤(SK p u0).length,Nat.le_of_ble_eq_true rfl⟩, .pf ⟨((SK p u0).drop (1*1)).take 1=(WE p u0).map .d,rfl⟩]<| .a1 (ZN p u0 r_)<| .rg {} [0, .pf ⟨(0:Int)≤1∧(1:Int)<(2:Nat),(by decide)⟩]<| .r<| .im (.dp [6,8,11,24,25,26,31,32])<| .r<| .f<| .a2 (aaQ p u0 r_ u1) (aaS p u0 r_ u1)<| .rg {an:=[(2, .arr [(MV p u0 r_)].length (U8 p u0 r_)),(3, .arr (TF p u0 r_ u1).length (Xd p u0 r_ u1))],fr:=[(2,37),(3,38)]} [.pf ⟨[(MV p u0 r_)].length=1,rfl⟩, .pf ⟨aR 1 2 (Zr p u0 r_) (U8 p u0 r_),(by intro i hi j hj;match i,j,hi,hj with|0,0,_,_=>rfl|0,1,_,_=>rfl)⟩, .e (u1.length),0,1, .pf ⟨(TF p u0 r_ u1).length=u1.length+[(MV p u0 r_)].length,List.length_append⟩, .pf ⟨aR (WN p u0 r_ u1) 2 (aaA p u0 r_ u1) (Xd p u0 r_ u1),iU _ _ _ _⟩]<| .r<| .en (.next (Zq p u0 r_ u1)) [] [(38,26)])
  (.e (.done (.brk u1))))
  (fun u2=> .r<| .en (u2,0) [] [(26,0)])))
theorem Aq (r_:Int) (x1:(List aW)):eu Tryz.prog 101 [(sI r_),(sD (Da [(bg none 2 aW.cell x1)] 0))] [] (fun r=>(vB r)) (fun _=>[]) (qV r_ x1):=
  eZ tT mX Tryz.func101 (
  .r<| .a2 ((0:Int)≤r_∧r_<(x1.length:Int)) ((gB [((!((at' x1 r_.toNat).e0)),true)]=true→(0:Int)≤r_∧r_<(x1.length:Int)))<| .rg {} [0, .pf ⟨(0:Int)≤0∧(0:Int)<(2:Nat),(by decide)⟩,1, .pf ⟨(0:Int)≤1∧(1:Int)<(2:Nat),(by decide)⟩]<| .e (bif (!((at' x1 r_.toNat).e0))then(!((at' x1 r_.toNat).e1))else false))
section
variable (s_:(List Int)) (f_:(List aW))
abbrev Ya:List SV:=[(sD (RB s_)),(sD (.fn 101 1 (bn [(Da [(bg none 2 aW.cell f_)] 0)])))]
end
theorem rA (s_:(List Int)) (f_:(List aW)):eu Tryz.prog 132 (Ya s_ f_) [] (fun r=>(vI r)) (fun _=>[]) (jr s_ f_):=
  eZ tT mX Tryz.func132 (
  .r<| .r<| .lp (σ:=Int) (β:=Unit) (0) [] [] ⟨[0,1,7],[],fun t8=>[(8,(vI t8))],fun t8=>[]⟩ ⟨[],[],fun _=>[],fun _=>[]⟩
  (fun t8=> .r<| .it (.r<| .cl 5 (Aq (at' s_ t8.toNat) f_) fun r_=> .a1 (Wt s_ t8)<| .rg {} [0,1]<| .it (.r<| .e (.done (.ret t8)))
  (.r<| .e (.next (k18 t8))))
  (.e (.done (.brk ()))))
  (fun _=> .r<| .e (-1)))
theorem qC (s_:(List Int)) (f_:(List aW)):eu Tryz.prog 97 (Ya s_ f_) [] (fun r=>(vB r)) (fun _=>[]) (fq s_ f_):=
  eZ tT mX Tryz.func97 (
  .r<| .cl 2 (rA s_ f_) fun r_=> .r<| .e (decide (0≤r_)))
theorem Bd (s_:(List Int)) (v_:Int):eu Tryz.prog 171 (k48 s_ v_) [] (fun r=>(vI r)) (fun _=>[]) (tL s_ v_):=
  eZ tT mX Tryz.func171 (
  .r<| .r<| .lp (σ:=Int) (β:=Unit) (0) [] [] ⟨[0,1,7],[],fun t8=>[(8,(vI t8))],fun t8=>[]⟩ ⟨[],[],fun _=>[],fun _=>[]⟩
  (fun t8=> .r<| .it (.r<| .a1 (Wt s_ t8)<| .r<| .it (.r<| .e (.done (.ret t8)))
  (.r<| .e (.next (k18 t8))))
  (.e (.done (.brk ()))))
  (fun _=> .r<| .e (-1)))
theorem qD (s_:(List Int)) (v_:Int):eu Tryz.prog 133 (k48 s_ v_) [] (fun r=>(vB r)) (fun _=>[]) (jg s_ v_):=
  eZ tT mX Tryz.func133 (
  .r<| .cl 2 (Bd s_ v_) fun r_=> .r<| .e (decide (0≤r_)))
section
variable (p:au) (s_:State) (t:Task) (b:Int) (u1:Int) (u0:Int)
abbrev XV:List SV:=[(.agg (k1 p)),(.agg (zP s_)),(.agg (k2 t)),(sI b)]
abbrev aad:=((0:Int)≤b∧b<(s_.earthed.length:Int))
abbrev ZK:=((gB [((decide ((Yx u1 p)=b)),true)]=true→(0:Int)≤u1∧u1<(s_.on_.length:Int)))
abbrev R4:=((at' p.links u0.toNat).a)
abbrev TM:=((at' p.links u0.toNat).b)
abbrev ZG:=(IntKind.wrap .i64 ((IntKind.wrap .i64 ((R4 p u0)+(TM p u0))) - b))
abbrev ZV:=((bif (decide (((at' p.links u0.toNat).kind)=1))then true else(at' s_.closed u0.toNat)),false)
end
theorem Dy (p:au) (s_:State) (t:Task) (b:Int):eu Tryz.prog 103 (XV p s_ t b) [] (fun r=>(vB r)) (fun _=>[]) (rE p s_ t b):=
  eZ tT mX Tryz.func103 (
  .rg {fr:=[(0,11),(1,12),(2,13)],fz:=[12,13]} []<| .a1 (aad s_ b)<| .r<| .it (.r<| .e false)
  (.r<| .lp (σ:=Int) (β:=Unit) (0) [] [] ⟨[3,4,5,6,20,21],[11],fun u1=>[(22,(vI u1))],fun u1=>[]⟩ ⟨[3,4,5,6],[11],fun _=>[],fun _=>[]⟩
  (fun u1=> .r<| .it (.a1 (Ye u1 p)<| .rg {fr:=[(3,17)],fz:=[17]} []<| .a1 (ZK p s_ b u1)<| .r<| .it (.r<| .e (.done (.ret false)))
  (.r<| .e (.next (k18 u1))))
  (.e (.done (.brk ()))))
  (fun _=> .r<| .lp (σ:=Int) (β:=Unit) (0) [] [] ⟨[3,5,6,40,41],[],fun u0=>[(42,(vI u0))],fun u0=>[]⟩ ⟨[],[],fun _=>[],fun _=>[]⟩
  (fun u0=> .r<| .it (.a1 (Zb p u0)<| .rg {fr:=[(3,21)],fz:=[21]} []<| .cg 20 [((bif (!decide ((R4 p u0)=b))then(!decide ((TM p u0)=b))else false),false)] (qD t.crew (ZG p b u0)) fun r_=> .r<| .it (.r<| .e (.next (k18 u0)))
  (.a2 ((gB [((decide (((at' p.links u0.toNat).kind)=1)),false)]=true→(0:Int)≤u0∧u0<(s_.closed.length:Int))) ((gB [(ZV p s_ u0)]=true→(0:Int)≤u0∧u0<(s_.locked.length:Int)))<| .rg {} [0,1]<| .it (.r<| .e (.done (.ret false)))
  (.r<| .e (.next (k18 u0)))))
  (.e (.done (.brk ()))))
  (fun _=> .r<| .e true))))
section
variable (x3:(List Int)) (u9:(List Int)) (v0:(List af)) (v1:(List af)) (x2:(List Bool)) (u3:(List Bool)) (u4:(List Bool)) (u5:(List Bool)) (u6:(List Bool)) (u7:(List Bool)) (u8:(List Bool))
abbrev XU:DV:=(Da [(RB x3),(RB u9),(KJ v0),(KJ v1)] 0)
abbrev pM:=(⟨x2,u3,u4,u5,u6,u7,u8⟩:State)
end
theorem AP (b:Int) (x1:Int) (u0:(List Source)) (u1:(List Link)) (u2:(List aU)) (x2:(List Bool)) (u3:(List Bool)) (u4:(List Bool)) (u5:(List Bool)) (u6:(List Bool)) (u7:(List Bool)) (u8:(List Bool)) (x3:(List Int)) (u9:(List Int)) (v0:(List af)) (v1:(List af)):eu Tryz.prog 102 [(sI b),(sD (k8 u0 x1 u1 u2)),(sD (UX x2 u3 u4 u5 u6 u7 u8)),(sD (XU x3 u9 v0 v1))] [] (fun r=>(vB r)) (fun _=>[]) (qQ b x1 u0 u1 u2 x2 u3 u4 u5 u6 u7 u8 x3 u9 v0 v1):=
  eZ tT mX Tryz.func102 (
  .r<| .cl 4 (Dy (⟨x1,u0,u1,u2⟩:au) (pM x2 u3 u4 u5 u6 u7 u8) (⟨x3,u9,v0,v1⟩:Task) b) fun r_=> .r<| .e (!r_))
section
variable (s_:(List Int)) (f_:Int) (u0:(List Source)) (u1:(List Link)) (u2:(List aU)) (u3:(List Bool)) (u4:(List Bool)) (u5:(List Bool)) (u6:(List Bool)) (u7:(List Bool)) (u8:(List Bool)) (u9:(List Bool)) (v0:(List Int)) (v1:(List Int)) (v2:(List af)) (v3:(List af))
abbrev YH:List SV:=[(sD (RB s_)),(sD (.fn 102 3 (bn [(k8 u0 f_ u1 u2),(UX u3 u4 u5 u6 u7 u8 u9),(XU v0 v1 v2 v3)])))]
end
theorem rQ (s_:(List Int)) (f_:Int) (u0:(List Source)) (u1:(List Link)) (u2:(List aU)) (u3:(List Bool)) (u4:(List Bool)) (u5:(List Bool)) (u6:(List Bool)) (u7:(List Bool)) (u8:(List Bool)) (u9:(List Bool)) (v0:(List Int)) (v1:(List Int)) (v2:(List af)) (v3:(List af)):eu Tryz.prog 132 (YH s_ f_ u0 u1 u2 u3 u4 u5 u6 u7 u8 u9 v0 v1 v2 v3) [] (fun r=>(vI r)) (fun _=>[]) (jA s_ f_ u0 u1 u2 u3 u4 u5 u6 u7 u8 u9 v0 v1 v2 v3):=
  eZ tT mX Tryz.func132 (
  .r<| .r<| .lp (σ:=Int) (β:=Unit) (0) [] [] ⟨[0,1,7],[],fun t8=>[(8,(vI t8))],fun t8=>[]⟩ ⟨[],[],fun _=>[],fun _=>[]⟩
  (fun t8=> .r<| .it (.r<| .cl 5 (AP (at' s_ t8.toNat) f_ u0 u1 u2 u3 u4 u5 u6 u7 u8 u9 v0 v1 v2 v3) fun r_=> .a1 (Wt s_ t8)<| .rg {} [0,1]<| .it (.r<| .e (.done (.ret t8)))
  (.r<| .e (.next (k18 t8))))
  (.e (.done (.brk ()))))
  (fun _=> .r<| .e (-1)))
theorem qx (s_:(List Int)) (f_:Int) (u0:(List Source)) (u1:(List Link)) (u2:(List aU)) (u3:(List Bool)) (u4:(List Bool)) (u5:(List Bool)) (u6:(List Bool)) (u7:(List Bool)) (u8:(List Bool)) (u9:(List Bool)) (v0:(List Int)) (v1:(List Int)) (v2:(List af)) (v3:(List af)):eu Tryz.prog 97 (YH s_ f_ u0 u1 u2 u3 u4 u5 u6 u7 u8 u9 v0 v1 v2 v3) [] (fun r=>(vB r)) (fun _=>[]) (fo s_ f_ u0 u1 u2 u3 u4 u5 u6 u7 u8 u9 v0 v1 v2 v3):=
  eZ tT mX Tryz.func97 (
  .r<| .cl 2 (rQ s_ f_ u0 u1 u2 u3 u4 u5 u6 u7 u8 u9 v0 v1 v2 v3) fun r_=> .r<| .e (decide (0≤r_)))
section
variable (p:au) (s_:State) (t:Task)
abbrev Yd:List SV:=[(.agg (k1 p)),(.agg (zP s_)),(.agg (k2 t))]
end
theorem wC (p:au) (s_:State) (t:Task):eu Tryz.prog 64 (Yd p s_ t) [] (fun r=>(vI r)) (fun _=>[]) (nH p s_ t):=
  eZ tT mX Tryz.func64 (
  .rg {fr:=[(0,5),(1,6),(2,7)],fz:=[5,6,7]} []<| .cl 2 (DR p s_) fun r_=> .r<| .r<| .lp (σ:=Int) (β:=Unit) (0) [] [] ⟨[3,4,5,21,22],[],fun u0=>[(23,(vI u0))],fun u0=>[]⟩ ⟨[3,4,5],[],fun _=>[],fun _=>[]⟩
  (fun u0=> .r<| .it (.a1 ((0:Int)≤u0∧u0<(r_.1.length:Int))<| .r<| .a1 ((gB [((at' r_.1 u0.toNat),true)]=true→(0:Int)≤u0∧u0<(s_.earthed.length:Int)))<| .r<| .it (.r<| .e (.done (.ret 40)))
  (.r<| .e (.next (k18 u0))))
  (.e (.done (.brk ()))))
  (fun _=> .cl 2 (AL p s_) fun u2=> .r<| .r<| .it (.r<| .e 41)
  (.cl 2 (dV [(0,8)] (Co p s_)) fun u1=> .rg {fr:=[(6,9)],fz:=[8]} []<| .fz [9]<| .cl 3 (qC t.fed u1.1) fun u3=> .r<| .it (.r<| .e 42)
  (.cl 3 (qx t.crew p.buses p.sources p.links p.racks s_.closed s_.locked s_.badLink s_.on_ s_.badSource s_.earthed s_.badBus t.fed t.crew t.allowed t.goal) fun u4=> .r<| .it (.r<| .e 45)
  (.r<| .e 0)))))
theorem fO (p:au) (s_:State) (t:Task):eu Tryz.prog 23 (Yd p s_ t) [] (fun r=>(vI r)) (fun _=>[]) (eG p s_ t):=
  eZ tT mX Tryz.func23 (
  .rg {fr:=[(0,3),(1,4),(2,5)],fz:=[3,4,5]} []<| .cl 2 (dF p s_) fun r_=> .r<| .r<| .it (.r<| .e r_)
  (.cl 2 (Bt p t) fun u1=> .r<| .it (.r<| .e 1)
  (.cl 3 (wC p s_ t) fun u0=> .r<| .e u0)))
section
variable (s_:State)
abbrev Vw:List SV:=[(.agg (zP s_))]
abbrev UQ:=(Gb 280 (List.replicate 280 false) 0 s_.closed (Nat.min s_.closed.length 280))
abbrev WH:=(ay ai (UQ s_))
abbrev VD:=(Gb 280 (UQ s_) 40 s_.locked (Nat.min s_.locked.length 240))
abbrev Yc:=(ay ai (VD s_))
abbrev U7:=(Gb 280 (VD s_) 80 s_.badLink (Nat.min s_.badLink.length 200))
abbrev Yz:=(ay ai (U7 s_))
abbrev Vg:=(Gb 280 (U7 s_) 120 s_.on_ (Nat.min s_.on_.length 160))
abbrev XF:=(ay ai (Vg s_))
abbrev Vx:=(Gb 280 (Vg s_) 160 s_.badSource (Nat.min s_.badSource.length 120))
abbrev Yg:=(ay ai (Vx s_))
abbrev Vb:=(Gb 280 (Vx s_) 200 s_.earthed (Nat.min s_.earthed.length 80))
abbrev Wz:=(ay ai (Vb s_))
abbrev Yu:=(Gb 280 (Vb s_) 240 s_.badBus (Nat.min s_.badBus.length 40))
end
theorem pV (s_:State):eu Tryz.prog 61 (Vw s_) [] (fun r=>(.v (.agg (aaT 280 r)))) (fun _=>[]) (nD s_):=
  eZ tT mX Tryz.func61 (
  .rg {fr:=[(0,10),(1,11)],fz:=[10]} []<| .rg {an:=[(0, .arr 280 (ay ai (List.replicate 280 false)))],fr:=[(0,12)]} [.e (280), .pf ⟨aR 280 1 (fun i _=>(List.replicate 280 (DV.bool false)).getD i .nilp) (ay ai (List.replicate 280 false)),VK 280⟩]<| .r<| .ul 11<| .r<| .t<| .rg {an:=[(1, .vals [(bg none 1 ai s_.closed)])]} [.pf ⟨(0:Int)≤0∧(0:Int)<(7:Nat),(by decide)⟩, .pf ⟨0*1+1≤(zP s_).length,Nat.le_of_ble_eq_true rfl⟩, .pf ⟨((zP s_).drop (0*1)).take 1=[(bg none 1 ai s_.closed)].map .d,rfl⟩]<| .rg {an:=[(4, .take 12)],fr:=[(2,13)]} [.e (280), .pf ⟨(0:Int)≤(0:Int)∧(0:Int)<(280:Nat),(by decide)⟩, .e (280)]<| .im (.uh 12 (some (.arr 115 1 280 (Al (ay ai (List.replicate 280 false)) 0 (ay ai s_.closed) (Nat.min s_.closed.length 280)))) (some (.arr 115 1 280 (WH s_))) (uP (MI 280 (List.replicate 280 false) 0 s_.closed (Nat.min s_.closed.length 280))))<| .r<| .im (.dp [2,3,20,21])<| .r<| .t<| .rg {an:=[(1, .vals [(WM s_)])]} [.pf ⟨(0:Int)≤1∧(1:Int)<(7:Nat),(by decide)⟩, .pf ⟨1*1+1≤(zP s_).length,Nat.le_of_ble_eq_true rfl⟩, .pf ⟨((zP s_).drop (1*1)).take 1=[(WM s_)].map .d,rfl⟩]<| .rg {an:=[(4, .take 12)],fr:=[(2,14)]} [.e (280), .pf ⟨(0:Int)≤(40:Int)∧(40:Int)<(280:Nat),(by decide)⟩, .e (240)]<| .im (.uh 12 (some (.arr 115 1 280 (Al (WH s_) 40 (ay ai s_.locked) (Nat.min s_.locked.length 240)))) (some (.arr 115 1 280 (Yc s_))) (uP (MI 280 (UQ s_) 40 s_.locked (Nat.min s_.locked.length 240))))<| .r<| .im (.dp [2,3,20,21])<| .r<| .t<| .rg {an:=[(1, .vals [(Y7 s_)])]} [.pf ⟨(0:Int)≤2∧(2:Int)<(7:Nat),(by decide)⟩, .pf ⟨2*1+1≤(zP s_).length,Nat.le_of_ble_eq_true rfl⟩, .pf ⟨((zP s_).drop (2*1)).take 1=[(Y7 s_)].map .d,rfl⟩]<| .rg {an:=[(4, .take 12)],fr:=[(2,15)]} [.e (280), .pf ⟨(0:Int)≤(80:Int)∧(80:Int)<(280:Nat),(by decide)⟩, .e (200)]<| .im (.uh 12 (some (.arr 115 1 280 (Al (Yc s_) 80 (ay ai s_.badLink) (Nat.min s_.badLink.length 200)))) (some (.arr 115 1 280 (Yz s_))) (uP (MI 280 (VD s_) 80 s_.badLink (Nat.min s_.badLink.length 200))))<| .r<| .im (.dp [2,3,20,21])<| .r<| .t<| .rg {an:=[(1, .vals [(Xh s_)])]} [.pf ⟨(0:Int)≤3∧(3:Int)<(7:Nat),(by decide)⟩, .pf ⟨3*1+1≤(zP s_).length,Nat.le_of_ble_eq_true rfl⟩, .pf ⟨((zP s_).drop (3*1)).take 1=[(Xh s_)].map .d,rfl⟩]<| .rg {an:=[(4, .take 12)],fr:=[(2,16)]} [.e (280), .pf ⟨(0:Int)≤(120:Int)∧(120:Int)<(280:Nat),(by decide)⟩, .e (160)]<| .im (.uh 12 (some (.arr 115 1 280 (Al (Yz s_) 120 (ay ai s_.on_) (Nat.min s_.on_.length 160)))) (some (.arr 115 1 280 (XF s_))) (uP (MI 280 (U7 s_) 120 s_.on_ (Nat.min s_.on_.length 160))))<| .r<| .im (.dp [2,3,20,21])<| .r<| .t<| .rg {an:=[(1, .vals [(X6 s_)])]} [.pf ⟨(0:Int)≤4∧(4:Int)<(7:Nat),(by decide)⟩, .pf ⟨4*1+1≤(zP s_).length,Nat.le_of_ble_eq_true rfl⟩, .pf ⟨((zP s_).drop (4*1)).take 1=[(X6 s_)].map .d,rfl⟩]<| .rg {an:=[(4, .take 12)],fr:=[(2,17)]} [.e (280), .pf ⟨(0:Int)≤(160:Int)∧(160:Int)<(280:Nat),(by decide)⟩, .e (120)]<| .im (.uh 12 (some (.arr 115 1 280 (Al (XF s_) 160 (ay ai s_.badSource) (Nat.min s_.badSource.length 120)))) (some (.arr 115 1 280 (Yg s_))) (uP (MI 280 (Vg s_) 160 s_.badSource (Nat.min s_.badSource.length 120))))<| .r<| .im (.dp [2,3,20,21])<| .r<| .t<| .rg {an:=[(1, .vals [(YI s_)])]} [.pf ⟨(0:Int)≤5∧(5:Int)<(7:Nat),(by decide)⟩, .pf ⟨5*1+1≤(zP s_).length,Nat.le_of_ble_eq_true rfl⟩, .pf ⟨((zP s_).drop (5*1)).take 1=[(YI s_)].map .d,rfl⟩]<| .rg {an:=[(4, .take 12)],fr:=[(2,18)]} [.e (280), .pf ⟨(0:Int)≤(200:Int)∧(200:Int)<(280:Nat),(by decide)⟩, .e (80)]<| .im (.uh 12 (some (.arr 115 1 280 (Al (Yg s_) 200 (ay ai s_.earthed) (Nat.min s_.earthed.length 80)))) (some (.arr 115 1 280 (Wz s_))) (uP (MI 280 (Vx s_) 200 s_.earthed (Nat.min s_.earthed.length 80))))<| .r<| .im (.dp [2,3,20,21])<| .r<| .t<| .rg {an:=[(1, .vals [(Y5 s_)])]} [.pf ⟨(0:Int)≤6∧(6:Int)<(7:Nat),(by decide)⟩, .pf ⟨6*1+1≤(zP s_).length,Nat.le_of_ble_eq_true rfl⟩, .pf ⟨((zP s_).drop (6*1)).take 1=[(Y5 s_)].map .d,rfl⟩]<| .rg {an:=[(4, .take 12)],fr:=[(2,19)]} [.e (280), .pf ⟨(0:Int)≤(240:Int)∧(240:Int)<(280:Nat),(by decide)⟩, .e (40)]<| .im (.uh 12 (some (.arr 115 1 280 (Al (Wz s_) 240 (ay ai s_.badBus) (Nat.min s_.badBus.length 40)))) (some (.arr 115 1 280 (ay ai (Yu s_)))) (uP (MI 280 (Vb s_) 240 s_.badBus (Nat.min s_.badBus.length 40))))<| .r<| .im (.dp [2,3,20,21])<| .r<| .f<| .rg {fz:=[11]} [.pf ⟨0+280≤280,(by decide)⟩, .pf ⟨1≤280,(by decide)⟩]<| .e (Yu s_))
theorem uI (s_:(List Bool)) (u0:Bool):eu Tryz.prog 91 [(sD (bg (some u0) 1 ai s_))] [] (fun r=>(vD (bg none 1 ai r))) (fun _=>[]) (pE s_ u0):=
  eZ tT mX Tryz.func91 (
  .r<| .r<| .it (.r<| .e ([]:List Bool))
  (.a2 ((([]:List Bool).length+s_.length)*1≤140737488355328) (([]:List Bool).length+s_.length≤4611686018427387904)<| .rg {an:=[(0, .arr ([]:List Bool).length (ay ai ([]:List Bool))),(2, .arr (([]:List Bool)++s_).length (ay ai (([]:List Bool)++s_)))],fr:=[(0,2),(2,3)],fz:=[3]} [.pf ⟨([]:List Bool).length=0,rfl⟩, .pf ⟨aR 0 1 (vE 1 []) (ay ai ([]:List Bool)),(fun i hi=>absurd hi (Nat.not_lt_zero i))⟩, .e (([]:List Bool).length),0,1, .pf ⟨(([]:List Bool)++s_).length=([]:List Bool).length+s_.length,List.length_append⟩, .pf ⟨aR (([]:List Bool).length+s_.length) 1 (yt (ay ai ([]:List Bool)) ([]:List Bool).length (ay ai s_)) (ay ai (([]:List Bool)++s_)),iU _ _ _ _⟩]<| .e (([]:List Bool)++s_)))
theorem dY (s:(List Bool)) {r:(List Bool)} (h:aj s=some r):Fn Tryz.prog 91 [(sD (bg none 1 ai s))] [] (vD (bg none 1 ai r)) []:=by
 refine Fn.nn (uI s true h) fun hl=> ?_
 have hs:s=[]:=List.eq_nil_of_length_eq_zero hl
 subst hs
 exact uI [] false (by rw [←h];kernel_rfl)
theorem uM (s_:State):eu Tryz.prog 53 (Vw s_) [] (fun r=>(.v (.agg [(.d (bg none 1 ai r.closed)),(.d (bg none 1 ai r.locked)),(.d (bg none 1 ai r.badLink)),(.d (bg none 1 ai r.on_)),(.d (bg none 1 ai r.badSource)),(.d (bg none 1 ai r.earthed)),(.d (bg none 1 ai r.badBus))]))) (fun _=>[]) (jJ s_):=
  eZ tT mX Tryz.func53 (
  .rg {fr:=[(0,3),(1,4)]} []<| .rg {an:=[(7, .cells)],fr:=[(7,5)]} []<| .ul 11<| .r<| .t<| .a1 ((0:Int)≤0∧0<(7:Int))<| .r<| .cl 4 ⟨fun h=>dY s_.closed h⟩ fun r_=> .r<| .r<| .im (.dp [1,2,12,13,14])<| .r<| .t<| .a1 ((0:Int)≤1∧1<(7:Int))<| .r<| .cl 4 ⟨fun h=>dY s_.locked h⟩ fun u0=> .r<| .r<| .im (.dp [1,2,12,13,14])<| .r<| .t<| .a1 ((0:Int)≤2∧2<(7:Int))<| .r<| .cl 4 ⟨fun h=>dY s_.badLink h⟩ fun u1=> .r<| .r<| .im (.dp [1,2,12,13,14])<| .r<| .t<| .a1 ((0:Int)≤3∧3<(7:Int))<| .r<| .cl 4 ⟨fun h=>dY s_.on_ h⟩ fun u2=> .r<| .r<| .im (.dp [1,2,12,13,14])<| .r<| .t<| .a1 ((0:Int)≤4∧4<(7:Int))<| .r<| .cl 4 ⟨fun h=>dY s_.badSource h⟩ fun u3=> .r<| .r<| .im (.dp [1,2,12,13,14])<| .r<| .t<| .a1 ((0:Int)≤5∧5<(7:Int))<| .r<| .cl 4 ⟨fun h=>dY s_.earthed h⟩ fun u4=> .r<| .r<| .im (.dp [1,2,12,13,14])<| .r<| .t<| .a1 ((0:Int)≤6∧6<(7:Int))<| .r<| .cl 4 ⟨fun h=>dY s_.badBus h⟩ fun u5=> .r<| .r<| .im (.dp [1,2,12,13,14])<| .r<| .f<| .rg {fz:=[4]} []<| .e (pM r_ u0 u1 u2 u3 u4 u5))
end
end Sg
