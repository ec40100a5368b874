import Derived.Test.YtboodeobmgjjpaaGreatGm
import Derived.Test.YtboodeobmgjjpaaGreatProg
import Derived.Test.YtboodeobmgjjpaaGreatLd
set_option linter.all false
namespace Sg
open Go Go.Proofs
set_option maxRecDepth 20000
noncomputable section
noncomputable def TT:List (Nat × TI):=[(3,⟨Tryz.t3.desc,Tryz.t3.size,Tryz.t3.bytes,zl Tryz.t3,false⟩),
  (4,⟨Tryz.t4.desc,Tryz.t4.size,Tryz.t4.bytes,zl Tryz.t4,false⟩),
  (22,⟨Tryz.t22.desc,Tryz.t22.size,Tryz.t22.bytes,zl Tryz.t22,false⟩),
  (23,⟨Tryz.t23.desc,Tryz.t23.size,Tryz.t23.bytes,zl Tryz.t23,false⟩),
  (24,⟨Tryz.t24.desc,Tryz.t24.size,Tryz.t24.bytes,zl Tryz.t24,false⟩),
  (26,⟨Tryz.t25.desc,Tryz.t26.size,Tryz.t26.bytes,zl Tryz.t26,false⟩),
  (27,⟨Tryz.t27.desc,Tryz.t27.size,Tryz.t27.bytes,zl Tryz.t27,false⟩),
  (29,⟨Tryz.t28.desc,Tryz.t29.size,Tryz.t29.bytes,zl Tryz.t29,false⟩),
  (30,⟨Tryz.t30.desc,Tryz.t30.size,Tryz.t30.bytes,zl Tryz.t30,false⟩),
  (31,⟨Tryz.t31.desc,Tryz.t31.size,Tryz.t31.bytes,zl Tryz.t31,false⟩),
  (33,⟨Tryz.t32.desc,Tryz.t33.size,Tryz.t33.bytes,zl Tryz.t33,false⟩),
  (36,⟨Tryz.t36.desc,Tryz.t36.size,Tryz.t36.bytes,zl Tryz.t36,false⟩),
  (37,⟨Tryz.t3.desc,Tryz.t37.size,Tryz.t37.bytes,zl Tryz.t37,false⟩),
  (40,⟨Tryz.t32.desc,Tryz.t40.size,Tryz.t40.bytes,zl Tryz.t40,false⟩),
  (52,⟨Tryz.t3.desc,Tryz.t52.size,Tryz.t52.bytes,zl Tryz.t52,false⟩),
  (53,⟨Tryz.t53.desc,Tryz.t53.size,Tryz.t53.bytes,zl Tryz.t53,false⟩),
  (55,⟨Tryz.t54.desc,Tryz.t55.size,Tryz.t55.bytes,zl Tryz.t55,false⟩),
  (56,⟨Tryz.t3.desc,Tryz.t56.size,Tryz.t56.bytes,zl Tryz.t56,false⟩),
  (58,⟨Tryz.t57.desc,Tryz.t58.size,Tryz.t58.bytes,zl Tryz.t58,true⟩),
  (59,⟨Tryz.t3.desc,Tryz.t59.size,Tryz.t59.bytes,zl Tryz.t59,false⟩),
  (61,⟨Tryz.t60.desc,Tryz.t61.size,Tryz.t61.bytes,zl Tryz.t61,true⟩),
  (72,⟨Tryz.t72.desc,Tryz.t72.size,Tryz.t72.bytes,zl Tryz.t72,false⟩),
  (75,⟨Tryz.t75.desc,Tryz.t75.size,Tryz.t75.bytes,zl Tryz.t75,false⟩),
  (78,⟨Tryz.t78.desc,Tryz.t78.size,Tryz.t78.bytes,zl Tryz.t78,true⟩),
  (99,⟨Tryz.t99.desc,Tryz.t99.size,Tryz.t99.bytes,zl Tryz.t99,false⟩),
  (100,⟨Tryz.t100.desc,Tryz.t100.size,Tryz.t100.bytes,zl Tryz.t100,false⟩),
  (101,⟨Tryz.t101.desc,Tryz.t101.size,Tryz.t101.bytes,zl Tryz.t101,false⟩),
  (103,⟨Tryz.t102.desc,Tryz.t103.size,Tryz.t103.bytes,zl Tryz.t103,false⟩),
  (112,⟨Tryz.t112.desc,Tryz.t112.size,Tryz.t112.bytes,zl Tryz.t112,false⟩),
  (115,⟨Tryz.t114.desc,Tryz.t115.size,Tryz.t115.bytes,zl Tryz.t115,true⟩),
  (117,⟨Tryz.t117.desc,Tryz.t117.size,Tryz.t117.bytes,zl Tryz.t117,true⟩),
  (119,⟨Tryz.t118.desc,Tryz.t119.size,Tryz.t119.bytes,zl Tryz.t119,true⟩),
  (126,⟨Tryz.t126.desc,Tryz.t126.size,Tryz.t126.bytes,zl Tryz.t126,false⟩),
  (129,⟨Tryz.t128.desc,Tryz.t129.size,Tryz.t129.bytes,zl Tryz.t129,false⟩),
  (133,⟨Tryz.t133.desc,Tryz.t133.size,Tryz.t133.bytes,zl Tryz.t133,false⟩),
  (145,⟨Tryz.t145.desc,Tryz.t145.size,Tryz.t145.bytes,zl Tryz.t145,false⟩),
  (147,⟨Tryz.t146.desc,Tryz.t147.size,Tryz.t147.bytes,zl Tryz.t147,false⟩),
  (148,⟨Tryz.t148.desc,Tryz.t148.size,Tryz.t148.bytes,zl Tryz.t148,false⟩),
  (149,⟨Tryz.t149.desc,Tryz.t149.size,Tryz.t149.bytes,zl Tryz.t149,false⟩),
  (154,⟨Tryz.t154.desc,Tryz.t154.size,Tryz.t154.bytes,zl Tryz.t154,false⟩),
  (155,⟨Tryz.t155.desc,Tryz.t155.size,Tryz.t155.bytes,zl Tryz.t155,false⟩),
  (165,⟨Tryz.t165.desc,Tryz.t165.size,Tryz.t165.bytes,zl Tryz.t165,false⟩),
  (167,⟨Tryz.t166.desc,Tryz.t167.size,Tryz.t167.bytes,zl Tryz.t167,false⟩),
  (168,⟨Tryz.t168.desc,Tryz.t168.size,Tryz.t168.bytes,zl Tryz.t168,false⟩),
  (170,⟨Tryz.t170.desc,Tryz.t170.size,Tryz.t170.bytes,zl Tryz.t170,false⟩),
  (172,⟨Tryz.t171.desc,Tryz.t172.size,Tryz.t172.bytes,zl Tryz.t172,false⟩),
  (182,⟨Tryz.t182.desc,Tryz.t182.size,Tryz.t182.bytes,zl Tryz.t182,false⟩),
  (184,⟨Tryz.t183.desc,Tryz.t184.size,Tryz.t184.bytes,zl Tryz.t184,false⟩),
  (185,⟨Tryz.t185.desc,Tryz.t185.size,Tryz.t185.bytes,zl Tryz.t185,false⟩),
  (193,⟨Tryz.t193.desc,Tryz.t193.size,Tryz.t193.bytes,zl Tryz.t193,false⟩),
  (196,⟨Tryz.t196.desc,Tryz.t196.size,Tryz.t196.bytes,zl Tryz.t196,false⟩),
  (199,⟨Tryz.t199.desc,Tryz.t199.size,Tryz.t199.bytes,zl Tryz.t199,false⟩),
  (220,⟨Tryz.t219.desc,Tryz.t220.size,Tryz.t220.bytes,zl Tryz.t220,true⟩)]
theorem tT:rq Tryz.prog TT:=⟨fQ (by kernel_rfl) (by kernel_rfl) (by kernel_rfl),⟨iC,di (by kernel_rfl)⟩,fQ (by kernel_rfl) (by kernel_rfl) (by kernel_rfl),⟨iC,di (by kernel_rfl)⟩,fQ (by kernel_rfl) (by kernel_rfl) (by kernel_rfl),⟨iC,di (by kernel_rfl)⟩,fQ (by kernel_rfl) (by kernel_rfl) (by kernel_rfl),⟨iC,di (by kernel_rfl)⟩,fQ (by kernel_rfl) (by kernel_rfl) (by kernel_rfl),⟨iC,di (by kernel_rfl)⟩,fQ (by kernel_rfl) (by kernel_rfl) (by kernel_rfl),⟨iC,di (by kernel_rfl)⟩,fQ (by kernel_rfl) (by kernel_rfl) (by kernel_rfl),⟨iC,di (by kernel_rfl)⟩,fQ (by kernel_rfl) (by kernel_rfl) (by kernel_rfl),⟨iC,di (by kernel_rfl)⟩,fQ (by kernel_rfl) (by kernel_rfl) (by kernel_rfl),⟨iC,di (by kernel_rfl)⟩,fQ (by kernel_rfl) (by kernel_rfl) (by kernel_rfl),⟨iC,di (by kernel_rfl)⟩,fQ (by kernel_rfl) (by kernel_rfl) (by kernel_rfl),⟨iC,di (by kernel_rfl)⟩,fQ (by kernel_rfl) (by kernel_rfl) (by kernel_rfl),⟨iC,di (by kernel_rfl)⟩,fQ (by kernel_rfl) (by kernel_rfl) (by kernel_rfl),⟨iC,di (by kernel_rfl)⟩,fQ (by kernel_rfl) (by kernel_rfl) (by kernel_rfl),⟨iC,di (by kernel_rfl)⟩,fQ (by kernel_rfl) (by kernel_rfl) (by kernel_rfl),⟨iC,di (by kernel_rfl)⟩,fQ (by kernel_rfl) (by kernel_rfl) (by kernel_rfl),⟨iC,di (by kernel_rfl)⟩,fQ (by kernel_rfl) (by kernel_rfl) (by kernel_rfl),⟨iC,di (by kernel_rfl)⟩,fQ (by kernel_rfl) (by kernel_rfl) (by kernel_rfl),⟨iC,di (by kernel_rfl)⟩,fQ (by kernel_rfl) (by kernel_rfl) (by kernel_rfl),⟨fun _=> ⟨by kernel_rfl,by kernel_rfl⟩,di (by kernel_rfl)⟩,fQ (by kernel_rfl) (by kernel_rfl) (by kernel_rfl),⟨iC,di (by kernel_rfl)⟩,fQ (by kernel_rfl) (by kernel_rfl) (by kernel_rfl),⟨fun _=> ⟨by kernel_rfl,by kernel_rfl⟩,di (by kernel_rfl)⟩,fQ (by kernel_rfl) (by kernel_rfl) (by kernel_rfl),⟨iC,di (by kernel_rfl)⟩,fQ (by kernel_rfl) (by kernel_rfl) (by kernel_rfl),⟨iC,di (by kernel_rfl)⟩,fQ (by kernel_rfl) (by kernel_rfl) (by kernel_rfl),⟨fun _=> ⟨by kernel_rfl,by kernel_rfl⟩,di (by kernel_rfl)⟩,fQ (by kernel_rfl) (by kernel_rfl) (by kernel_rfl),⟨iC,di (by kernel_rfl)⟩,fQ (by kernel_rfl) (by kernel_rfl) (by kernel_rfl),⟨iC,di (by kernel_rfl)⟩,fQ (by kernel_rfl) (by kernel_rfl) (by kernel_rfl),⟨iC,di (by kernel_rfl)⟩,fQ (by kernel_rfl) (by kernel_rfl) (by kernel_rfl),⟨iC,di (by kernel_rfl)⟩,fQ (by kernel_rfl) (by kernel_rfl) (by kernel_rfl),⟨iC,di (by kernel_rfl)⟩,fQ (by kernel_rfl) (by kernel_rfl) (by kernel_rfl),⟨fun _=> ⟨by kernel_rfl,by kernel_rfl⟩,di (by kernel_rfl)⟩,fQ (by kernel_rfl) (by kernel_rfl) (by kernel_rfl),⟨fun _=> ⟨by kernel_rfl,by kernel_rfl⟩,di (by kernel_rfl)⟩,fQ (by kernel_rfl) (by kernel_rfl) (by kernel_rfl),⟨fun _=> ⟨by kernel_rfl,by kernel_rfl⟩,di (by kernel_rfl)⟩,fQ (by kernel_rfl) (by kernel_rfl) (by kernel_rfl),⟨iC,di (by kernel_rfl)⟩,fQ (by kernel_rfl) (by kernel_rfl) (by kernel_rfl),⟨iC,di (by kernel_rfl)⟩,fQ (by kernel_rfl) (by kernel_rfl) (by kernel_rfl),⟨iC,di (by kernel_rfl)⟩,fQ (by kernel_rfl) (by kernel_rfl) (by kernel_rfl),⟨iC,di (by kernel_rfl)⟩,fQ (by kernel_rfl) (by kernel_rfl) (by kernel_rfl),⟨iC,di (by kernel_rfl)⟩,fQ (by kernel_rfl) (by kernel_rfl) (by kernel_rfl),⟨iC,di (by kernel_rfl)⟩,fQ (by kernel_rfl) (by kernel_rfl) (by kernel_rfl),⟨iC,di (by kernel_rfl)⟩,fQ (by kernel_rfl) (by kernel_rfl) (by kernel_rfl),⟨iC,di (by kernel_rfl)⟩,fQ (by kernel_rfl) (by kernel_rfl) (by kernel_rfl),⟨iC,di (by kernel_rfl)⟩,fQ (by kernel_rfl) (by kernel_rfl) (by kernel_rfl),⟨iC,di (by kernel_rfl)⟩,fQ (by kernel_rfl) (by kernel_rfl) (by kernel_rfl),⟨iC,di (by kernel_rfl)⟩,fQ (by kernel_rfl) (by kernel_rfl) (by kernel_rfl),⟨iC,di (by kernel_rfl)⟩,fQ (by kernel_rfl) (by kernel_rfl) (by kernel_rfl),⟨iC,di (by kernel_rfl)⟩,fQ (by kernel_rfl) (by kernel_rfl) (by kernel_rfl),⟨iC,di (by kernel_rfl)⟩,fQ (by kernel_rfl) (by kernel_rfl) (by kernel_rfl),⟨iC,di (by kernel_rfl)⟩,fQ (by kernel_rfl) (by kernel_rfl) (by kernel_rfl),⟨iC,di (by kernel_rfl)⟩,fQ (by kernel_rfl) (by kernel_rfl) (by kernel_rfl),⟨iC,di (by kernel_rfl)⟩,fQ (by kernel_rfl) (by kernel_rfl) (by kernel_rfl),⟨iC,di (by kernel_rfl)⟩,fQ (by kernel_rfl) (by kernel_rfl) (by kernel_rfl),⟨iC,di (by kernel_rfl)⟩,fQ (by kernel_rfl) (by kernel_rfl) (by kernel_rfl),⟨iC,di (by kernel_rfl)⟩,fQ (by kernel_rfl) (by kernel_rfl) (by kernel_rfl),⟨fun _=> ⟨by kernel_rfl,by kernel_rfl⟩,di (by kernel_rfl)⟩,trivial⟩
theorem mX:Tryz.prog.follows .mixedOrders=true:=by kernel_rfl
def Jf:Go.Shelf.Ren:=⟨fun|6=>76|14=>116|15=>117|20=>144|21=>145|22=>146|23=>147|24=>148|25=>149|26=>150|27=>151|28=>152|29=>153|46=>176|47=>177|48=>178|49=>179|50=>180|57=>184|n=>n,fun|0=>0|3=>3|4=>4|5=>5|9=>9|22=>75|24=>117|25=>132|39=>181|45=>205|46=>206|50=>178|53=>212|55=>214|66=>228|70=>232|76=>237|77=>238|n=>n,fun n=>n⟩
theorem Rm:Go.Proofs.SlLaysF0.n6 Tryz.prog Jf:=⟨by kernel_rfl,⟨Tryz.f76.name,by kernel_rfl,Tryz.func76.trans (congrArg some (by kernel_rfl))⟩,⟨Tryz.f116.name,by kernel_rfl,Tryz.func116.trans (congrArg some (by kernel_rfl))⟩,Tryz.func117.trans (congrArg some (by kernel_rfl)),⟨Tryz.f144.name,by kernel_rfl,Tryz.func144.trans (congrArg some (by kernel_rfl))⟩,⟨Tryz.f145.name,by kernel_rfl,Tryz.func145.trans (congrArg some (by kernel_rfl))⟩,⟨Tryz.f146.name,by kernel_rfl,Tryz.func146.trans (congrArg some (by kernel_rfl))⟩,⟨Tryz.f147.name,by kernel_rfl,Tryz.func147.trans (congrArg some (by kernel_rfl))⟩,⟨Tryz.f148.name,by kernel_rfl,Tryz.func148.trans (congrArg some (by kernel_rfl))⟩,⟨Tryz.f149.name,by kernel_rfl,Tryz.func149.trans (congrArg some (by kernel_rfl))⟩,⟨Tryz.f150.name,by kernel_rfl,Tryz.func150.trans (congrArg some (by kernel_rfl))⟩,⟨Tryz.f151.name,by kernel_rfl,Tryz.func151.trans (congrArg some (by kernel_rfl))⟩,Tryz.func152.trans (congrArg some (by kernel_rfl)),Tryz.func153.trans (congrArg some (by kernel_rfl)),⟨Tryz.f176.name,by kernel_rfl,Tryz.func176.trans (congrArg some (by kernel_rfl))⟩,Tryz.func177.trans (congrArg some (by kernel_rfl)),Tryz.func178.trans (congrArg some (by kernel_rfl)),⟨Tryz.f179.name,by kernel_rfl,Tryz.func179.trans (congrArg some (by kernel_rfl))⟩,⟨Tryz.f180.name,by kernel_rfl,Tryz.func180.trans (congrArg some (by kernel_rfl))⟩,⟨Tryz.f184.name,by kernel_rfl,Tryz.func184.trans (congrArg some (by kernel_rfl))⟩,Tryz.underlying0,Tryz.isAgg0,Tryz.sizeOf0,Tryz.zeroValue0,Tryz.underlying3,Tryz.isAgg3,Tryz.sizeOf3,Tryz.zeroValue3,Tryz.underlying4,Tryz.isAgg4,Tryz.sizeOf4,Tryz.zeroValue4,Tryz.underlying5,Tryz.isAgg5,Tryz.sizeOf5,Tryz.zeroValue5,Tryz.underlying9,Tryz.isAgg9,Tryz.sizeOf9,Tryz.zeroValue9,Tryz.underlying75,Tryz.isAgg75,Tryz.sizeOf75,Tryz.zeroValue75,Tryz.underlying132,Tryz.isAgg132,Tryz.sizeOf132,Tryz.zeroValue132,Tryz.underlying181,Tryz.isAgg181,Tryz.sizeOf181,Tryz.zeroValue181,Tryz.underlying205,Tryz.isAgg205,Tryz.sizeOf205,Tryz.zeroValue205,Tryz.underlying206,Tryz.isAgg206,Tryz.sizeOf206,Tryz.zeroValue206,Tryz.underlying178,Tryz.isAgg178,Tryz.sizeOf178,Tryz.zeroValue178,Tryz.underlying212,Tryz.isAgg212,Tryz.sizeOf212,Tryz.zeroValue212,Tryz.underlying214,Tryz.isAgg214,Tryz.sizeOf214,Tryz.zeroValue214,Tryz.underlying228,Tryz.isAgg228,Tryz.sizeOf228,Tryz.zeroValue228,Tryz.underlying232,Tryz.isAgg232,Tryz.sizeOf232,Tryz.zeroValue232,Tryz.underlying237,Tryz.isAgg237,Tryz.sizeOf237,Tryz.zeroValue237,Tryz.underlying238,Tryz.isAgg238,Tryz.sizeOf238,Tryz.zeroValue238⟩
theorem RL (w:World):(isAgg (Jf.t 24)).run Tryz.prog w= .ok true w:=Tryz.isAgg117 w
theorem Ps (w:World):(Go.sizeOf (Jf.t 24)).run Tryz.prog w= .ok 2 w:=Tryz.sizeOf117 w
section
variable (p:au) (t:Task)
abbrev k1:List CV:=[(cI p.buses),(.d (bg none 5 Source.cell p.sources)),(.d (bg none 6 Link.cell p.links)),(.d (bg none 4 aT.cell p.racks))]
abbrev k3:DV:=(bg none 1 (bJ .i64) t.crew)
abbrev k4:DV:=(bg none 2 af.cell t.allowed)
abbrev k5:DV:=(bg none 2 af.cell t.goal)
abbrev k2:List CV:=[(.d (bg none 1 (bJ .i64) t.fed)),(.d (k3 t)),(.d (k4 t)),(.d (k5 t))]
abbrev k0:List SV:=[(.agg (k1 p)),(.agg (k2 t))]
end
theorem Fp (p:au) (t:Task):dG Tryz.prog 11 (k0 p t) [] (fun r=>(vB r)) (fun _=>[]) (yR p t):=
  dP tT mX Tryz.func11 (
  .rg {fr:=[(0,2),(1,3)],fz:=[2,3]} []<| .r<| .e (bif (bif (bif (bif (bif (bif (decide (60<(p.sources.length:Int)))then true else(decide (60<(p.links.length:Int))))then true else(decide (60<(p.racks.length:Int))))then true else(decide (60<(t.fed.length:Int))))then true else(decide (60<(t.crew.length:Int))))then true else(decide (60<(t.allowed.length:Int))))then true else(decide (60<(t.goal.length:Int)))))
theorem aN (n:Int) (u0:Int) (u1:Int):dG Tryz.prog 123 [(sI n),(sI u0),(sI u1)] [] (fun r=>(vB r)) (fun _=>[]) (aS n u0 u1):=
  dP tT mX Tryz.func123 (
  .r<| .r<| .e (bif (decide (u0≤n))then(decide (n≤u1))else false))
section
variable (p:au)
abbrev k6:List SV:=[(.agg (k1 p))]
end
theorem BS (p:au):dG Tryz.prog 125 (k6 p) [] (fun r=>(vD (.fn 163 1 (aZ [(D7 [(.int .i64 r.1),(bg none 5 Source.cell r.2.1),(bg none 6 Link.cell r.2.2.1),(bg none 4 aT.cell r.2.2.2)] 0)])))) (fun _=>[]) (rY p):=
  dP tT mX Tryz.func125 (
  .rg {fr:=[(0,1)],fz:=[1]} []<| .r<| .e (p.buses,p.sources,p.links,p.racks))
theorem DW (p:au):dG Tryz.prog 127 (k6 p) [] (fun r=>(vD (.fn 166 1 (aZ [(D7 [(.int .i64 r.1),(bg none 5 Source.cell r.2.1),(bg none 6 Link.cell r.2.2.1),(bg none 4 aT.cell r.2.2.2)] 0)])))) (fun _=>[]) (xA p):=
  dP tT mX Tryz.func127 (
  .rg {fr:=[(0,1)],fz:=[1]} []<| .r<| .e (p.buses,p.sources,p.links,p.racks))
theorem DT (p:au):dG Tryz.prog 129 (k6 p) [] (fun r=>(vD (.fn 169 1 (aZ [(D7 [(.int .i64 r.1),(bg none 5 Source.cell r.2.1),(bg none 6 Link.cell r.2.2.1),(bg none 4 aT.cell r.2.2.2)] 0)])))) (fun _=>[]) (xw p):=
  dP tT mX Tryz.func129 (
  .rg {fr:=[(0,1)],fz:=[1]} []<| .r<| .e (p.buses,p.sources,p.links,p.racks))
section
variable (x:Source) (u2:(List Source)) (x1:Int) (u3:(List Link)) (u4:(List aT)) (r_:Bool) (u0:Bool) (u1:Bool) (u5:Bool) (u6:Bool)
abbrev k7:List CV:=[(cI x.bus),(cI x.kind),(cI x.power),(cI x.sync),(cI x.ohm)]
abbrev k9:DV:=(bg none 5 Source.cell u2)
abbrev k8:DV:=(D7 [(.int .i64 x1),(k9 u2),(bg none 6 Link.cell u3),(bg none 4 aT.cell u4)] 0)
abbrev k10:=(IntKind.wrap .i64 (x1 - 1))
abbrev k11:=((bif r_ then u0 else false),true)
abbrev k12:=((bif (bif r_ then u0 else false)then u1 else false),true)
abbrev k13:=(bif (bif (bif r_ then u0 else false)then u1 else false)then u5 else false)
abbrev k14:=(bif (k13 r_ u0 u1 u5)then u6 else false)
end
theorem zK (x:Source) (x1:Int) (u2:(List Source)) (u3:(List Link)) (u4:(List aT)):dG Tryz.prog 163 [(.agg (k7 x)),(sD (k8 u2 x1 u3 u4))] [] (fun r=>(vB r)) (fun _=>[]) (mM x x1 u2 u3 u4):=
  dP tT mX Tryz.func163 (
  .rg {fr:=[(0,1)],fz:=[1]} []<| .cl 5 (aN x.bus 0 (k10 x1)) fun r_=> .cg 9 [(r_,true)] (aN x.kind 1 3) fun u0=> .cg 14 [(k11 r_ u0)] (aN x.power 1 100000) fun u1=> .cg 19 [(k12 r_ u0 u1)] (aN x.sync 0 8) fun u5=> .cg 24 [((k13 r_ u0 u1 u5),true)] (aN x.ohm 10 100000) fun u6=> .r<| .e (k14 r_ u0 u1 u5 u6))
section
variable (x1:Int) (u0:(List Source)) (u1:(List Link)) (u2:(List aT))
abbrev k16:=(aZ [(k8 u0 x1 u1 u2)])
abbrev k15:DV:=(D7 [(.fn 163 1 (k16 x1 u0 u1 u2))] 0)
end
theorem Bg (x:Source) (x1:Int) (u0:(List Source)) (u1:(List Link)) (u2:(List aT)):dG Tryz.prog 162 [(.agg (k7 x)),(sD (k15 x1 u0 u1 u2))] [] (fun r=>(vB r)) (fun _=>[]) (sZ x x1 u0 u1 u2):=
  dP tT mX Tryz.func162 (
  .rg {fr:=[(0,1)],fz:=[1]} []<| .cl 2 (zK x x1 u0 u1 u2) fun r_=> .r<| .e (!r_))
section
variable (s_:(List Source)) (f_:Int) (u0:(List Source)) (u1:(List Link)) (u2:(List aT)) (t8:Int)
abbrev k17:List SV:=[(sD (k9 s_)),(sD (.fn 162 1 (aZ [(k15 f_ u0 u1 u2)])))]
abbrev k18:=(IntKind.wrap .i64 (t8+1))
end
theorem xO (s_:(List Source)) (f_:Int) (u0:(List Source)) (u1:(List Link)) (u2:(List aT)):dG Tryz.prog 181 (k17 s_ f_ u0 u1 u2) [] (fun r=>(vI r)) (fun _=>[]) (og s_ f_ u0 u1 u2):=
  dP tT mX Tryz.func181 (
  .r<| .r<| .lp (σ:=Int) (β:=Unit) (0) [] [] ⟨[0,1,7],[],fun t8=>[(8,(vI t8))],fun t8=>[]⟩ ⟨[],[],fun _=>[],fun _=>[]⟩
  (fun t8=> .r<| .it (.r<| .cl 5 (Bg (at' s_ t8.toNat) f_ u0 u1 u2) fun r_=> .a1 ((0:Int)≤t8∧t8<(s_.length:Int))<| .rg {} [0,1]<| .it (.r<| .e (.done (.ret t8)))
  (.r<| .e (.next (k18 t8))))
  (.e (.done (.brk ()))))
  (fun _=> .r<| .e (-1)))
theorem uL (s_:(List Source)) (f_:Int) (u0:(List Source)) (u1:(List Link)) (u2:(List aT)):dG Tryz.prog 161 (k17 s_ f_ u0 u1 u2) [] (fun r=>(vB r)) (fun _=>[]) (iy s_ f_ u0 u1 u2):=
  dP tT mX Tryz.func161 (
  .r<| .cl 2 (xO s_ f_ u0 u1 u2) fun r_=> .r<| .e (decide (0≤r_)))
theorem DU (l:(List Source)) (u0:Int) (u1:Int) (u2:(List Source)) (u3:(List Link)) (u4:(List aT)):dG Tryz.prog 124 [(sD (k9 l)),(sI u0),(sD (.fn 163 1 (k16 u1 u2 u3 u4)))] [] (fun r=>(vB r)) (fun _=>[]) (rA l u0 u1 u2 u3 u4):=
  dP tT mX Tryz.func124 (
  .rg {fr:=[(0,1)],fz:=[1]} []<| .cg 7 [((decide ((l.length:Int)≤u0)),true)] (uL l u1 u2 u3 u4) fun r_=> .r<| .e (bif (decide ((l.length:Int)≤u0))then(!r_)else false))
section
variable (x:Link) (u0:Int)
abbrev k19:List CV:=[(cI x.a),(cI x.b),(cI x.kind),(cI x.most),(cI x.ohm),(.d (bg none 2 oQ.cell x.trip))]
abbrev k20:=((decide (((at' x.trip u0.toNat).amps)≤((at' x.trip ((k10 u0).toNat)).amps))),false)
end
theorem Ce (x:Link) (x1:Int) (u3:(List Source)) (u4:(List Link)) (u5:(List aT)):dG Tryz.prog 166 [(.agg (k19 x)),(sD (k8 u3 x1 u4 u5))] [] (fun r=>(vB r)) (fun _=>[]) (oO x x1 u3 u4 u5):=
  dP tT mX Tryz.func166 (
  .rg {fr:=[(0,5)]} []<| .cl 5 (aN x.a 0 (k10 x1)) fun r_=> .cg 13 [((!r_),false)] (aN x.b 0 (k10 x1)) fun u1=> .cg 26 [((bif (bif (!r_)then true else(!u1))then true else(decide (x.a=x.b))),false)] (aN x.kind 1 3) fun u6=> .cg 32 [((bif (bif (bif (!r_)then true else(!u1))then true else(decide (x.a=x.b)))then true else(!u6)),false)] (aN x.most 1 100000) fun u8=> .cg 38 [((bif (bif (bif (bif (!r_)then true else(!u1))then true else(decide (x.a=x.b)))then true else(!u6))then true else(!u8)),false)] (aN x.ohm 10 100000) fun u9=> .r<| .it (.r<| .e false)
  (.rg {fz:=[5]} []<| .lp (σ:=Int) (β:=Unit) (0) [] [] ⟨[2,48,49],[],fun u0=>[(50,(vI u0))],fun u0=>[]⟩ ⟨[2],[],fun _=>[],fun _=>[]⟩
  (fun u0=> .r<| .it (.a1 ((0:Int)≤u0∧u0<(x.trip.length:Int))<| .rg {fr:=[(3,9)],fz:=[9]} []<| .cl 2 (aN ((at' x.trip u0.toNat).amps) 1 1000000) fun u2=> .cg 7 [((!u2),false)] (aN ((at' x.trip u0.toNat).millis) 1 100000) fun u7=> .a2 ((gB [((decide (0<u0)),true),((bif (!u2)then true else(!u7)),false)]=true→(0:Int)≤(k10 u0)∧(k10 u0)<(x.trip.length:Int))) ((gB [(k20 x u0),((decide (0<u0)),true),((bif (!u2)then true else(!u7)),false)]=true→(0:Int)≤(k10 u0)∧(k10 u0)<(x.trip.length:Int)))<| .rg {} [3,2,0,1]<| .it (.r<| .e (.done (.ret false)))
  (.r<| .e (.next (k18 u0))))
  (.e (.done (.brk ()))))
  (fun _=> .r<| .e (bif (decide ((x.trip.length:Int)≤6))then(bif (decide ((x.trip.length:Int)=0))then true else(decide (x.kind=3)))else false))))
section
variable (x1:Int) (u0:(List Source)) (u1:(List Link)) (u2:(List aT))
abbrev k21:DV:=(D7 [(.fn 166 1 (k16 x1 u0 u1 u2))] 0)
end
theorem yT (x:Link) (x1:Int) (u0:(List Source)) (u1:(List Link)) (u2:(List aT)):dG Tryz.prog 165 [(.agg (k19 x)),(sD (k21 x1 u0 u1 u2))] [] (fun r=>(vB r)) (fun _=>[]) (oV x x1 u0 u1 u2):=
  dP tT mX Tryz.func165 (
  .rg {fr:=[(0,1)],fz:=[1]} []<| .cl 2 (Ce x x1 u0 u1 u2) fun r_=> .r<| .e (!r_))
section
variable (s_:(List Link)) (f_:Int) (u0:(List Source)) (u1:(List Link)) (u2:(List aT)) (t8:Int)
abbrev k22:List SV:=[(sD (bg none 6 Link.cell s_)),(sD (.fn 165 1 (aZ [(k21 f_ u0 u1 u2)])))]
abbrev k23:=((0:Int)≤t8∧t8<(s_.length:Int))
end
theorem uN (s_:(List Link)) (f_:Int) (u0:(List Source)) (u1:(List Link)) (u2:(List aT)):dG Tryz.prog 182 (k22 s_ f_ u0 u1 u2) [] (fun r=>(vI r)) (fun _=>[]) (kP s_ f_ u0 u1 u2):=
  dP tT mX Tryz.func182 (
  .r<| .r<| .lp (σ:=Int) (β:=Unit) (0) [] [] ⟨[0,1,7],[],fun t8=>[(8,(vI t8))],fun t8=>[]⟩ ⟨[],[],fun _=>[],fun _=>[]⟩
  (fun t8=> .r<| .it (.r<| .cl 5 (yT (at' s_ t8.toNat) f_ u0 u1 u2) fun r_=> .a1 (k23 s_ t8)<| .rg {} [0,1]<| .it (.r<| .e (.done (.ret t8)))
  (.r<| .e (.next (k18 t8))))
  (.e (.done (.brk ()))))
  (fun _=> .r<| .e (-1)))
theorem rz (s_:(List Link)) (f_:Int) (u0:(List Source)) (u1:(List Link)) (u2:(List aT)):dG Tryz.prog 164 (k22 s_ f_ u0 u1 u2) [] (fun r=>(vB r)) (fun _=>[]) (fK s_ f_ u0 u1 u2):=
  dP tT mX Tryz.func164 (
  .r<| .cl 2 (uN s_ f_ u0 u1 u2) fun r_=> .r<| .e (decide (0≤r_)))
theorem BQ (l:(List Link)) (u0:Int) (u1:Int) (u2:(List Source)) (u3:(List Link)) (u4:(List aT)):dG Tryz.prog 126 [(sD (bg none 6 Link.cell l)),(sI u0),(sD (.fn 166 1 (k16 u1 u2 u3 u4)))] [] (fun r=>(vB r)) (fun _=>[]) (oL l u0 u1 u2 u3 u4):=
  dP tT mX Tryz.func126 (
  .rg {fr:=[(0,1)],fz:=[1]} []<| .cg 7 [((decide ((l.length:Int)≤u0)),true)] (rz l u1 u2 u3 u4) fun r_=> .r<| .e (bif (decide ((l.length:Int)≤u0))then(!r_)else false))
section
variable (x:aT)
abbrev k24:List CV:=[(cI x.feeds.e0),(cI x.feeds.e1),(cI x.power),(cI x.paths)]
end
theorem CU (x:aT):dG Tryz.prog 170 [(.agg (k24 x))] [] (fun r=>(vI r)) (fun _=>[]) (qm x):=
  dP tT mX Tryz.func170 (
  .rg {fr:=[(0,1)],fz:=[1]} []<| .rg {} [.pf ⟨(0:Int)≤1∧(1:Int)<(2:Nat),(by decide)⟩]<| .it (.r<| .e 1)
  (.r<| .e 2))
section
variable (r_:Bool) (u0:Bool) (x:aT) (u1:Bool)
abbrev k26:=(bif (bif (bif r_ then u0 else false)then(!decide (x.feeds.e0=x.feeds.e1))else false)then u1 else false)
abbrev k25:=((k26 r_ u0 x u1),true)
end
theorem BX (x:aT) (x1:Int) (u2:(List Source)) (u3:(List Link)) (u4:(List aT)):dG Tryz.prog 169 [(.agg (k24 x)),(sD (k8 u2 x1 u3 u4))] [] (fun r=>(vB r)) (fun _=>[]) (oG x x1 u2 u3 u4):=
  dP tT mX Tryz.func169 (
  .rg {fr:=[(0,1)],fz:=[1]} []<| .rg {} [.pf ⟨(0:Int)≤0∧(0:Int)<(2:Nat),(by decide)⟩, .pf ⟨(0:Int)≤1∧(1:Int)<(2:Nat),(by decide)⟩]<| .cl 4 (aN x.feeds.e0 0 (k10 x1)) fun r_=> .cg 10 [(r_,true)] (aN x.feeds.e1 (-1) (k10 x1)) fun u0=> .cg 20 [((bif (bif r_ then u0 else false)then(!decide (x.feeds.e0=x.feeds.e1))else false),true)] (aN x.power 1 100000) fun u1=> .cg 26 [(k25 r_ u0 x u1)] (CU x) fun u5=> .cg 27 [(k25 r_ u0 x u1)] (aN x.paths 0 u5) fun u6=> .r<| .e (bif (k26 r_ u0 x u1)then u6 else false))
section
variable (x1:Int) (u0:(List Source)) (u1:(List Link)) (u2:(List aT))
abbrev k27:DV:=(D7 [(.fn 169 1 (k16 x1 u0 u1 u2))] 0)
end
theorem yA (x:aT) (x1:Int) (u0:(List Source)) (u1:(List Link)) (u2:(List aT)):dG Tryz.prog 168 [(.agg (k24 x)),(sD (k27 x1 u0 u1 u2))] [] (fun r=>(vB r)) (fun _=>[]) (pE x x1 u0 u1 u2):=
  dP tT mX Tryz.func168 (
  .rg {fr:=[(0,1)],fz:=[1]} []<| .cl 2 (BX x x1 u0 u1 u2) fun r_=> .r<| .e (!r_))
section
variable (s_:(List aT)) (f_:Int) (u0:(List Source)) (u1:(List Link)) (u2:(List aT))
abbrev k28:List SV:=[(sD (bg none 4 aT.cell s_)),(sD (.fn 168 1 (aZ [(k27 f_ u0 u1 u2)])))]
end
theorem vv (s_:(List aT)) (f_:Int) (u0:(List Source)) (u1:(List Link)) (u2:(List aT)):dG Tryz.prog 183 (k28 s_ f_ u0 u1 u2) [] (fun r=>(vI r)) (fun _=>[]) (kR s_ f_ u0 u1 u2):=
  dP tT mX Tryz.func183 (
  .r<| .r<| .lp (σ:=Int) (β:=Unit) (0) [] [] ⟨[0,1,7],[],fun t8=>[(8,(vI t8))],fun t8=>[]⟩ ⟨[],[],fun _=>[],fun _=>[]⟩
  (fun t8=> .r<| .it (.r<| .cl 5 (yA (⟨((at' s_ t8.toNat).feeds),(at' s_ t8.toNat).power,(at' s_ t8.toNat).paths⟩:aT) f_ u0 u1 u2) fun r_=> .a1 ((0:Int)≤t8∧t8<(s_.length:Int))<| .rg {} [0,1]<| .it (.r<| .e (.done (.ret t8)))
  (.r<| .e (.next (k18 t8))))
  (.e (.done (.brk ()))))
  (fun _=> .r<| .e (-1)))
theorem rH (s_:(List aT)) (f_:Int) (u0:(List Source)) (u1:(List Link)) (u2:(List aT)):dG Tryz.prog 167 (k28 s_ f_ u0 u1 u2) [] (fun r=>(vB r)) (fun _=>[]) (fO s_ f_ u0 u1 u2):=
  dP tT mX Tryz.func167 (
  .r<| .cl 2 (vv s_ f_ u0 u1 u2) fun r_=> .r<| .e (decide (0≤r_)))
theorem Ci (l:(List aT)) (u0:Int) (u1:Int) (u2:(List Source)) (u3:(List Link)) (u4:(List aT)):dG Tryz.prog 128 [(sD (bg none 4 aT.cell l)),(sI u0),(sD (.fn 169 1 (k16 u1 u2 u3 u4)))] [] (fun r=>(vB r)) (fun _=>[]) (oM l u0 u1 u2 u3 u4):=
  dP tT mX Tryz.func128 (
  .rg {fr:=[(0,1)],fz:=[1]} []<| .cg 7 [((decide ((l.length:Int)≤u0)),true)] (rH l u1 u2 u3 u4) fun r_=> .r<| .e (bif (decide ((l.length:Int)≤u0))then(!r_)else false))
theorem wB (p:au):dG Tryz.prog 89 (k6 p) [] (fun r=>(vI r)) (fun _=>[]) (ny p):=
  dP tT mX Tryz.func89 (
  .rg {fr:=[(0,1)],fz:=[1]} []<| .cl 2 (aN p.buses 1 24) fun r_=> .r<| .it (.r<| .e 10)
  (.cl 3 (BS p) fun u0=> .cl 4 (DU p.sources 8 u0.1 u0.2.1 u0.2.2.1 u0.2.2.2) fun u3=> .r<| .it (.r<| .e 11)
  (.cl 3 (DW p) fun u1=> .cl 4 (BQ p.links 40 u1.1 u1.2.1 u1.2.2.1 u1.2.2.2) fun u4=> .r<| .it (.r<| .e 12)
  (.cl 3 (DT p) fun u2=> .cl 4 (Ci p.racks 24 u2.1 u2.2.1 u2.2.2.1 u2.2.2.2) fun u5=> .r<| .it (.r<| .e 13)
  (.r<| .e 0)))))
section
variable (s_:State) (p:au) (u0:Int)
abbrev WJ:DV:=(bg none 1 ai s_.locked)
abbrev Xw:DV:=(bg none 1 ai s_.badLink)
abbrev WC:DV:=(bg none 1 ai s_.on_)
abbrev Xr:DV:=(bg none 1 ai s_.badSource)
abbrev Xn:DV:=(bg none 1 ai s_.earthed)
abbrev Xu:DV:=(bg none 1 ai s_.badBus)
abbrev A8:List CV:=[(.d (bg none 1 ai s_.closed)),(.d (WJ s_)),(.d (Xw s_)),(.d (WC s_)),(.d (Xr s_)),(.d (Xn s_)),(.d (Xu s_))]
abbrev Pm:List SV:=[(.agg (k1 p)),(.agg (A8 s_))]
abbrev XZ:=(⟨s_.closed,(p.links.length:Int)⟩:cK)
abbrev XG:=(⟨s_.locked,(p.links.length:Int)⟩:cK)
abbrev WN:=(⟨s_.badLink,(p.links.length:Int)⟩:cK)
abbrev Yo:=(⟨s_.on_,(p.sources.length:Int)⟩:cK)
abbrev Za:=(⟨s_.badSource,(p.sources.length:Int)⟩:cK)
abbrev k42:=(aA cK.cell [(XZ s_ p),(XG s_ p),(WN s_ p),(Yo s_ p),(Za s_ p),(⟨s_.earthed,p.buses⟩:cK),(⟨s_.badBus,p.buses⟩:cK)])
abbrev TY:=((0:Int)≤u0∧u0<(p.links.length:Int))
abbrev k44:=((gB [((decide (((at' p.links u0.toNat).kind)=1)),true)]=true→(0:Int)≤u0∧u0<(s_.closed.length:Int)))
abbrev k45:=((gB [((!(at' s_.closed u0.toNat)),false),((decide (((at' p.links u0.toNat).kind)=1)),true)]=true→(0:Int)≤u0∧u0<(s_.locked.length:Int)))
end
theorem bZ (p:au) (s_:State):dG Tryz.prog 62 (Pm s_ p) [] (fun r=>(vI r)) (fun _=>[]) (dz p s_):=
  dP tT mX Tryz.func62 (
  .rg {fr:=[(0,11),(1,12)]} []<| .cl 1 (wB p) fun r_=> .r<| .r<| .it (.r<| .e r_)
  (.r<| .rg {an:=[(30, .arr [(XZ s_ p),(XG s_ p),(WN s_ p),(Yo s_ p),(Za s_ p),(⟨s_.earthed,p.buses⟩:cK),(⟨s_.badBus,p.buses⟩:cK)].length (k42 s_ p))],fr:=[(30,13)],fz:=[12]} [.pf ⟨[(XZ s_ p),(XG s_ p),(WN s_ p),(Yo s_ p),(Za s_ p),(⟨s_.earthed,p.buses⟩:cK),(⟨s_.badBus,p.buses⟩:cK)].length=7,rfl⟩, .pf ⟨aM 7 2 (uM 2 [(bg none 1 ai s_.closed),(.int .i64 (p.links.length:Int)),(WJ s_),(.int .i64 (p.links.length:Int)),(Xw s_),(.int .i64 (p.links.length:Int)),(WC s_),(.int .i64 (p.sources.length:Int)),(Xr s_),(.int .i64 (p.sources.length:Int)),(Xn s_),(.int .i64 p.buses),(Xu s_),(.int .i64 p.buses)]) (k42 s_ p),(by intro i hi j hj;match i,j,hi,hj with|0,0,_,_=>rfl|0,1,_,_=>rfl|1,0,_,_=>rfl|1,1,_,_=>rfl|2,0,_,_=>rfl|2,1,_,_=>rfl|3,0,_,_=>rfl|3,1,_,_=>rfl|4,0,_,_=>rfl|4,1,_,_=>rfl|5,0,_,_=>rfl|5,1,_,_=>rfl|6,0,_,_=>rfl|6,1,_,_=>rfl)⟩]<| .lp (σ:=Int) (β:=Unit) (0) [] [] ⟨[2,3,53,54],[11,13],fun u1=>[(55,(vI u1))],fun u1=>[]⟩ ⟨[2,3],[11],fun _=>[],fun _=>[]⟩
  (fun u1=> .r<| .it (.a1 ((0:Int)≤u1∧u1<([(XZ s_ p),(XG s_ p),(WN s_ p),(Yo s_ p),(Za s_ p),(⟨s_.earthed,p.buses⟩:cK),(⟨s_.badBus,p.buses⟩:cK)].length:Int))<| .rg {fr:=[(2,17)],fz:=[17]} [0, .t 0 u1 ([(XZ s_ p),(XG s_ p),(WN s_ p),(Yo s_ p),(Za s_ p),(⟨s_.earthed,p.buses⟩:cK),(⟨s_.badBus,p.buses⟩:cK)].length)]<| .r<| .it (.r<| .e (.done (.ret 9)))
  (.r<| .e (.next (k18 u1))))
  (.e (.done (.brk ()))))
  (fun _=> .r<| .lp (σ:=Int) (β:=Unit) (0) [] [] ⟨[3,67,68],[],fun u0=>[(69,(vI u0))],fun u0=>[]⟩ ⟨[],[],fun _=>[],fun _=>[]⟩
  (fun u0=> .r<| .it (.a1 (TY p u0)<| .rg {fr:=[(3,21)],fz:=[21]} []<| .a2 (k44 s_ p u0) (k45 s_ p u0)<| .rg {} [0,1]<| .it (.r<| .e (.done (.ret 9)))
  (.r<| .e (.next (k18 u0))))
  (.e (.done (.brk ()))))
  (fun _=> .r<| .e 0))))
theorem xP (i:Int) (x1:Int):dG Tryz.prog 98 [(sI i),(sD (D7 [(.int .i64 x1)] 0))] [] (fun r=>(vB r)) (fun _=>[]) (nX i x1):=
  dP tT mX Tryz.func98 (
  .r<| .r<| .e (bif (decide (i<0))then true else(decide (x1≤i))))
section
variable (s_:(List Int)) (t8:Int)
abbrev O8:DV:=(bg none 1 (bJ .i64) s_)
abbrev Ro:=((0:Int)≤t8∧t8<(s_.length:Int))
end
theorem uV (s_:(List Int)) (f_:Int):dG Tryz.prog 132 [(sD (O8 s_)),(sD (.fn 98 1 (aZ [(D7 [(.int .i64 f_)] 0)])))] [] (fun r=>(vI r)) (fun _=>[]) (kS s_ f_):=
  dP tT mX Tryz.func132 (
  .r<| .r<| .lp (σ:=Int) (β:=Unit) (0) [] [] ⟨[0,1,7],[],fun t8=>[(8,(vI t8))],fun t8=>[]⟩ ⟨[],[],fun _=>[],fun _=>[]⟩
  (fun t8=> .r<| .it (.r<| .cl 5 (xP (at' s_ t8.toNat) f_) fun r_=> .a1 (Ro s_ t8)<| .rg {} [0,1]<| .it (.r<| .e (.done (.ret t8)))
  (.r<| .e (.next (k18 t8))))
  (.e (.done (.brk ()))))
  (fun _=> .r<| .e (-1)))
theorem si (s_:(List Int)) (f_:Int):dG Tryz.prog 97 [(sD (O8 s_)),(sD (.fn 98 1 (aZ [(D7 [(.int .i64 f_)] 0)])))] [] (fun r=>(vB r)) (fun _=>[]) (fZ s_ f_):=
  dP tT mX Tryz.func97 (
  .r<| .cl 2 (uV s_ f_) fun r_=> .r<| .e (decide (0≤r_)))
section
variable (l:(List Int)) (n:Int)
abbrev Yw:List SV:=[(sD (O8 l)),(sI n)]
end
theorem qX (l:(List Int)) (n:Int):dG Tryz.prog 96 (Yw l n) [] (fun r=>(vB r)) (fun _=>[]) (jM l n):=
  dP tT mX Tryz.func96 (
  .rg {fr:=[(0,1)],fz:=[1]} []<| .cg 6 [((decide ((l.length:Int)≤24)),true)] (si l n) fun r_=> .r<| .e (bif (decide ((l.length:Int)≤24))then(!r_)else false))
section
variable (x:af) (p:au)
abbrev PX:List CV:=[(cI x.deed),(cI x.index)]
abbrev k49:List SV:=[(.agg (k1 p)),(.agg (PX x))]
abbrev Zj:=((gB [((bif (decide (0≤x.index))then(decide (x.index<(p.links.length:Int)))else false),true)]=true→(0:Int)≤x.index∧x.index<(p.links.length:Int)))
abbrev Zk:=(bif (bif (decide (0≤x.index))then(decide (x.index<(p.links.length:Int)))else false)then(!decide (((at' p.links x.index.toNat).kind)=1))else false)
abbrev Tw:=(decide (x.index<p.buses))
abbrev Uk:=(bif (decide (0≤x.index))then(Tw x p)else false)
abbrev LC:=(decide (x.index<(p.sources.length:Int)))
abbrev LX:=(bif (decide (0≤x.index))then(LC x p)else false)
abbrev LY:=((gB [((bif (decide (0≤x.index))then(decide (x.index<0))else false),true)]=true→(0:Int)≤x.index∧x.index<(p.links.length:Int)))
abbrev LV:=(bif (bif (decide (0≤x.index))then(decide (x.index<0))else false)then(!decide (((at' p.links x.index.toNat).kind)=1))else false)
end
theorem pq (p:au) (x:af):dG Tryz.prog 79 (k49 x p) [] (fun r=>(vB r)) (fun _=>[]) (jB p x):=
  dP tT mX Tryz.func79 (
  .rg {fr:=[(0,2),(1,3)],fz:=[2,3]} []<| .r<| .r<| .r<| .it (.it (.r<| .a1 (Zj x p)<| .r<| .e (Zk x p))
  (.r<| .it (.it (.r<| .e (Uk x p))
  (.r<| .it (.it (.r<| .e (LX x p))
  (.a1 (LY x p)<| .r<| .e (LV x p)))
  (.r<| .it (.r<| .e (LX x p))
  (.a1 (LY x p)<| .r<| .e (LV x p)))))
  (.r<| .it (.r<| .e (Uk x p))
  (.r<| .it (.it (.r<| .e (LX x p))
  (.a1 (LY x p)<| .r<| .e (LV x p)))
  (.r<| .it (.r<| .e (LX x p))
  (.a1 (LY x p)<| .r<| .e (LV x p)))))))
  (.r<| .it (.it (.r<| .a1 (Zj x p)<| .r<| .e (Zk x p))
  (.r<| .it (.it (.r<| .e (Uk x p))
  (.r<| .it (.it (.r<| .e (LX x p))
  (.a1 (LY x p)<| .r<| .e (LV x p)))
  (.r<| .it (.r<| .e (LX x p))
  (.a1 (LY x p)<| .r<| .e (LV x p)))))
  (.r<| .it (.r<| .e (Uk x p))
  (.r<| .it (.it (.r<| .e (LX x p))
  (.a1 (LY x p)<| .r<| .e (LV x p)))
  (.r<| .it (.r<| .e (LX x p))
  (.a1 (LY x p)<| .r<| .e (LV x p)))))))
  (.r<| .it (.it (.r<| .a1 (Zj x p)<| .r<| .e (Zk x p))
  (.r<| .it (.it (.r<| .e (Uk x p))
  (.r<| .it (.it (.r<| .e (LX x p))
  (.a1 (LY x p)<| .r<| .e (LV x p)))
  (.r<| .it (.r<| .e (LX x p))
  (.a1 (LY x p)<| .r<| .e (LV x p)))))
  (.r<| .it (.r<| .e (Uk x p))
  (.r<| .it (.it (.r<| .e (LX x p))
  (.a1 (LY x p)<| .r<| .e (LV x p)))
  (.r<| .it (.r<| .e (LX x p))
  (.a1 (LY x p)<| .r<| .e (LV x p)))))))
  (.r<| .it (.r<| .a1 (Zj x p)<| .r<| .e (Zk x p))
  (.r<| .it (.it (.r<| .e (Uk x p))
  (.r<| .it (.it (.r<| .e (LX x p))
  (.a1 (LY x p)<| .r<| .e (LV x p)))
  (.r<| .it (.r<| .e (LX x p))
  (.a1 (LY x p)<| .r<| .e (LV x p)))))
  (.r<| .it (.r<| .e (Uk x p))
  (.r<| .it (.it (.r<| .e (LX x p))
  (.a1 (LY x p)<| .r<| .e (LV x p)))
  (.r<| .it (.r<| .e (LX x p))
  (.a1 (LY x p)<| .r<| .e (LV x p))))))))))
theorem xQ (x:af) (x1:Int) (u0:(List Source)) (u1:(List Link)) (u2:(List aT)):dG Tryz.prog 100 [(.agg (PX x)),(sD (k8 u0 x1 u1 u2))] [] (fun r=>(vB r)) (fun _=>[]) (nY x x1 u0 u1 u2):=
  dP tT mX Tryz.func100 (
  .rg {fr:=[(0,1)],fz:=[1]} []<| .cl 2 (pq (⟨x1,u0,u1,u2⟩:au) x) fun r_=> .r<| .e (!r_))
section
variable (s_:(List af)) (f_:Int) (u0:(List Source)) (u1:(List Link)) (u2:(List aT)) (t8:Int)
abbrev Ny:DV:=(bg none 2 af.cell s_)
abbrev k59:List SV:=[(sD (Ny s_)),(sD (.fn 100 1 (k16 f_ u0 u1 u2)))]
abbrev Uh:=((0:Int)≤t8∧t8<(s_.length:Int))
end
theorem uP (s_:(List af)) (f_:Int) (u0:(List Source)) (u1:(List Link)) (u2:(List aT)):dG Tryz.prog 131 (k59 s_ f_ u0 u1 u2) [] (fun r=>(vI r)) (fun _=>[]) (kQ s_ f_ u0 u1 u2):=
  dP tT mX Tryz.func131 (
  .r<| .r<| .lp (σ:=Int) (β:=Unit) (0) [] [] ⟨[0,1,7],[],fun t8=>[(8,(vI t8))],fun t8=>[]⟩ ⟨[],[],fun _=>[],fun _=>[]⟩
  (fun t8=> .r<| .it (.r<| .cl 5 (xQ (at' s_ t8.toNat) f_ u0 u1 u2) fun r_=> .a1 (Uh s_ t8)<| .rg {} [0,1]<| .it (.r<| .e (.done (.ret t8)))
  (.r<| .e (.next (k18 t8))))
  (.e (.done (.brk ()))))
  (fun _=> .r<| .e (-1)))
theorem rX (s_:(List af)) (f_:Int) (u0:(List Source)) (u1:(List Link)) (u2:(List aT)):dG Tryz.prog 92 (k59 s_ f_ u0 u1 u2) [] (fun r=>(vB r)) (fun _=>[]) (gm s_ f_ u0 u1 u2):=
  dP tT mX Tryz.func92 (
  .r<| .cl 2 (uP s_ f_ u0 u1 u2) fun r_=> .r<| .e (decide (0≤r_)))
theorem qU (l:(List af)) (x1:Int) (u0:(List Source)) (u1:(List Link)) (u2:(List aT)):dG Tryz.prog 99 [(sD (Ny l)),(sD (k8 u0 x1 u1 u2))] [] (fun r=>(vB r)) (fun _=>[]) (jF l x1 u0 u1 u2):=
  dP tT mX Tryz.func99 (
  .r<| .cg 6 [((decide ((l.length:Int)≤24)),true)] (rX l x1 u0 u1 u2) fun r_=> .r<| .e (bif (decide ((l.length:Int)≤24))then(!r_)else false))
theorem uE (p:au) (t:Task):dG Tryz.prog 63 (k0 p t) [] (fun r=>(vB r)) (fun _=>[]) (lN p t):=
  dP tT mX Tryz.func63 (
  .rg {fr:=[(0,2),(1,3)],fz:=[2,3]} []<| .r<| .r<| .cl 6 (qX t.fed (p.racks.length:Int)) fun r_=> .cg 13 [(r_,true)] (qX t.crew p.buses) fun u0=> .cg 19 [(k11 r_ u0)] (qU t.allowed p.buses p.sources p.links p.racks) fun u1=> .cg 25 [(k12 r_ u0 u1)] (qU t.goal p.buses p.sources p.links p.racks) fun u2=> .r<| .e (k13 r_ u0 u1 u2))
theorem xJ (p:au) (s_:State):dG Tryz.prog 113 (Pm s_ p) [] (fun r=>(vD (.fn 143 2 (aZ [(D7 [(.int .i64 r.1),(bg none 5 Source.cell r.2.1),(bg none 6 Link.cell r.2.2.1),(bg none 4 aT.cell r.2.2.2.1)] 0),(D7 [(bg none 1 ai r.2.2.2.2.1),(bg none 1 ai r.2.2.2.2.2.1),(bg none 1 ai r.2.2.2.2.2.2.1),(bg none 1 ai r.2.2.2.2.2.2.2.1),(bg none 1 ai r.2.2.2.2.2.2.2.2.1),(bg none 1 ai r.2.2.2.2.2.2.2.2.2.1),(bg none 1 ai r.2.2.2.2.2.2.2.2.2.2)] 0)])))) (fun _=>[]) (jQ p s_):=
  dP tT mX Tryz.func113 (
  .rg {fr:=[(0,2),(1,3)],fz:=[2,3]} []<| .r<| .e (p.buses,p.sources,p.links,p.racks,s_.closed,s_.locked,s_.badLink,s_.on_,s_.badSource,s_.earthed,s_.badBus))
noncomputable def sQ:iw:=⟨[22],Me ([1,1,0,1,0]++[0]) (rV Tryz.f75),Me ([1,1,0,1,0]++[1]) (rV Tryz.f75),125,[]⟩
section
variable (g:aR)
abbrev k63:Ob:=(Iz 3 3 false false 1 1 (bJ .i64) (bJ .i64) g.head)
abbrev k62:List (Nat × Option Ob):=[(0,some (k63 g))]
end
theorem gq (g:aR) (x:Int):dG Tryz.prog 115 [(.agg [(.mp 0)]),(sI x)] (k62 g) (fun r=>(vI r)) (fun r=>(k62 g)) (dh g x):=
  dP tT mX Tryz.func115 (
  .rg {fr:=[(0,2)]} []<| .lp (σ:=Int) (β:=Unit) (x) [] [] ⟨[2],[0,2],fun x1=>[(1,(vI x1))],fun x1=>[]⟩ ⟨[],[],fun _=>[],fun _=>[]⟩
  (fun x1=> .rg {an:=[(3, .look (aY aW x1 g.head).isSome [(cI ((aY aW x1 g.head).getD 0))])]} [.pf ⟨fB [some .i64] 1 1 g.head.length (Ab (bJ .i64) g.head) (A9 (bJ .i64) g.head) [(.int .i64 x1)] [(.d (.int .i64 0))] (aY aW x1 g.head).isSome [(cI ((aY aW x1 g.head).getD 0))],oq (fun _=>rfl) (fun _ _=>rfl) g.head x1 0 rfl rfl rfl⟩]<| .r<| .it (.r<| .e (.done (.ret x1)))
  (.r<| .e (.next ((aY aW x1 g.head).getD 0))))
  (fun _=> .no))
theorem xk (g:aR) (a:Int) (b:Int):dG Tryz.prog 114 [(.agg [(.mp 0)]),(sI a),(sI b)] (k62 g) (fun r=>(.iF [])) (fun r=>[(0,some (Iz 3 3 false false 1 1 (bJ .i64) (bJ .i64) r))]) (jw g a b):=
  dP tT mX Tryz.func114 (
  .rg {fr:=[(0,2)]} []<| .cr 2 (gq g a) fun r_=> .cr 5 (gq g b) fun u0=> .r<| .r<| .it (.rg {an:=[(4, .map (fo aW r_ u0 g.head).length (Ab (bJ .i64) (fo aW r_ u0 g.head)) (A9 (bJ .i64) (fo aW r_ u0 g.head)) [])]} [.pf ⟨wD [some .i64] 1 1 g.head.length (Ab (bJ .i64) g.head) (A9 (bJ .i64) g.head) [(.int .i64 r_)] [(cI u0)] [] (fo aW r_ u0 g.head).length (Ab (bJ .i64) (fo aW r_ u0 g.head)) (A9 (bJ .i64) (fo aW r_ u0 g.head)),Gb (fun _=>rfl) (fun _ _=>rfl) g.head r_ u0 rfl rfl⟩]<| .e (fo aW r_ u0 g.head))
  (.e g.head))
section
variable (o_:aR)
abbrev k65:Nat × Option Ob:=(0,some (.loop sQ 0 [(5,(vP 1 0))]))
abbrev k64:List (Nat × Option Ob):=[k65,(1,some (.cells 172 [(.mp 2)])),(2,some (k63 o_))]
end
theorem vR (u0:Int) (u1:Int) (u2:Int) (u3:Int) (u4:Int) (u5:(List oQ)) (o_:aR):Tv Tryz.prog 0 [(.agg [(cI u0),(cI u1),(cI u2),(cI u3),(cI u4),(.d (bg none 2 oQ.cell u5))])] (k64 o_) (fun _=>vB true) (fun r=>[k65,(1,some (.cells 172 [(.mp 2)])),(2,some (Iz 3 3 false false 1 1 (bJ .i64) (bJ .i64) r.head))]) (lZ u0 u1 u2 u3 u4 u5 o_):=
  Zl tT mX sQ ⟨[5],[0,1,2],fun _=>[(6,(vD (D7 [(.int .i64 u0),(.int .i64 u1),(.int .i64 u2),(.int .i64 u3),(.int .i64 u4),(bg none 2 oQ.cell u5)] 0)))],fun _=>[]⟩ (.rg {fr:=[(0,4)],fz:=[4]} []<| .e ())
  (.cl 5 (dY [(0,2)] (xk o_ u0 u1)) fun r_=> .r<| .e (⟨r_⟩:aR))
section
variable (x2:(List Bool)) (u6:(List Bool)) (u2:(List Bool)) (u7:(List Bool)) (u8:(List Bool)) (u9:(List Bool)) (u1:(List Bool)) (u3:(List (Int × Int))) (t9:Int) (u0:(List Link))
abbrev k67:List DV:=[(bg none 1 ai x2),(bg none 1 ai u6),(bg none 1 ai u2),(bg none 1 ai u7),(bg none 1 ai u8),(bg none 1 ai u9),(bg none 1 ai u1)]
abbrev UO:DV:=(D7 (k67 x2 u6 u2 u7 u8 u9 u1) 0)
abbrev k68:Ob:=(Iz 3 3 false false 1 1 (bJ .i64) (bJ .i64) u3)
abbrev k69:=(bif (bif (at' x2 t9.toNat)then(!(at' u2 t9.toNat))else false)then(!(at' u1 (((at' u0 t9.toNat).a).toNat)))else false)
abbrev Yx:=((0:Int)≤t9∧t9<(x2.length:Int))
abbrev k71:=((gB [((bif (at' x2 t9.toNat)then(!(at' u2 t9.toNat))else false),true)]=true→(0:Int)≤(at' u0 t9.toNat).a∧(at' u0 t9.toNat).a<(u1.length:Int)))
abbrev k72:=((gB [((k69 x2 u2 u1 t9 u0),true)]=true→(0:Int)≤(at' u0 t9.toNat).b∧(at' u0 t9.toNat).b<(u1.length:Int)))
end
theorem wz (x1:Int) (u4:(List Source)) (u0:(List Link)) (u5:(List aT)) (x2:(List Bool)) (u6:(List Bool)) (u2:(List Bool)) (u7:(List Bool)) (u8:(List Bool)) (u9:(List Bool)) (u1:(List Bool)) (o_:aR):dG Tryz.prog 143 [(.one (.yl 0)),(sD (k8 u4 x1 u0 u5)),(sD (UO x2 u6 u2 u7 u8 u9 u1))] (k64 o_) (fun r=>(.iF [])) (fun r=>[k65,(1,some (.cells 172 [(.mp 2)])),(2,some (Iz 3 3 false false 1 1 (bJ .i64) (bJ .i64) r.head))]) (l9 x1 u4 u0 u5 x2 u6 u2 u7 u8 u9 u1 o_):=
  dP tT mX Tryz.func143 (
  .r<| .lp (σ:=((List (Int × Int)) × Int)) (β:=(List (Int × Int))) (o_.head,0) [] [] ⟨[0,2,7,8],[0,1],fun(u3,t9)=>[(9,(vI t9))],fun(u3,t9)=>[(2,some (k68 u3))]⟩ ⟨[],[0,1],fun o501=>[],fun o501=>[(2,some (Iz 3 3 false false 1 1 (bJ .i64) (bJ .i64) o501))]⟩
  (fun(u3,t9)=> .r<| .it (.a1 (k23 u0 t9)<| .rg {fr:=[(3,10)],fz:=[10]} []<| .fk (bif (k69 x2 u2 u1 t9 u0)then(!(at' u1 (((at' u0 t9.toNat).b).toNat)))else false) (.cy 34 (vR ((at' u0 t9.toNat).a) ((at' u0 t9.toNat).b) ((at' u0 t9.toNat).kind) ((at' u0 t9.toNat).most) ((at' u0 t9.toNat).ohm) ((at' u0 t9.toNat).trip) (⟨u3⟩:aR)) fun r_=> .a4 (Yx x2 t9) ((gB [((at' x2 t9.toNat),true)]=true→(0:Int)≤t9∧t9<(u2.length:Int))) (k71 x2 u2 u1 t9 u0) (k72 x2 u2 u1 t9 u0)<| .rg {ov:=[(31,true,5)]} [0,1,2,3, .k 4]<| .f<| .r<| .e (.next (r_.head,(k18 t9))))
  (.a4 (Yx x2 t9) ((gB [((at' x2 t9.toNat),true)]=true→(0:Int)≤t9∧t9<(u2.length:Int))) (k71 x2 u2 u1 t9 u0) (k72 x2 u2 u1 t9 u0)<| .rg {ov:=[(31,false,4)],sk:=[32,33,34,35]} [0,1,2,3]<| .f<| .r<| .e (.next (u3,(k18 t9)))))
  (.e (.done (.brk u3))))
  (fun o501=> .e (⟨o501⟩:aR)))
section
variable (u1:(List aI)) (u2:(List (Int × Int))) (u3:Int) (s_:State) (u0:Int) (u7:Int) (p:au) (u5:(List aI)) (u6:Int) (u4:(List (Int × Int)))
abbrev k73:List (Nat × Option Ob):=[(60,some (.rows 129 2 u1.length (wZ aI.ev u1) none)),(61,some (k68 u2))]
abbrev k74:=((0:Int)≤u3∧u3<(s_.badBus.length:Int))
abbrev Jd:=((aY aW u0 u2).getD 0)
abbrev Wn:List CV:=[(cI (Jd u2 u0))]
abbrev Uv:=(fo aW u0 (u1.length:Int) u2)
abbrev k78:=(Ab (bJ .i64) (Uv u1 u2 u0))
abbrev k79:=(A9 (bJ .i64) (Uv u1 u2 u0))
abbrev k80:=((u1.length+[(⟨([]:List Int),([]:List Int)⟩:aI)].length)*48≤140737488355328)
abbrev Rt:=(u1++[(⟨([]:List Int),([]:List Int)⟩:aI)])
abbrev k82:=(wZ aI.ev (Rt u1))
abbrev Z7:=(aY aW u0 (Uv u1 u2 u0))
abbrev T9:=((Z7 u1 u2 u0).getD 0)
abbrev k84:List CV:=[(cI (T9 u1 u2 u0))]
abbrev k86:=((0:Int)≤(T9 u1 u2 u0)∧(T9 u1 u2 u0)<((Rt u1).length:Int))
abbrev Zq:=((T9 u1 u2 u0).toNat)
abbrev k90:=(at' (Rt u1) (Zq u1 u2 u0))
abbrev Ud:=((k90 u1 u2 u0).buses)
abbrev k88:=((Ud u1 u2 u0).length+[u3].length)
abbrev k87:=((k88 u1 u2 u3 u0)*8≤140737488355328)
abbrev k92:=((Ud u1 u2 u0).length+[u3].length≤4611686018427387904)
abbrev Wh:=((Ud u1 u2 u0)++[u3])
abbrev k94:=(aA (bJ .i64) (Wh u1 u2 u3 u0))
abbrev Zw:=((Rt u1).set (Zq u1 u2 u0) (⟨(Wh u1 u2 u3 u0),(k90 u1 u2 u0).sources⟩:aI))
abbrev k95:=(wZ aI.ev (Zw u1 u2 u3 u0))
abbrev k97:=((Rt u1).length)
abbrev k98:=((Ud u1 u2 u0).length)
abbrev k99:=(zI (aA (bJ .i64) (Ud u1 u2 u0)) (Ud u1 u2 u0).length (aA (bJ .i64) [u3]))
abbrev aax:=((Wh u1 u2 u3 u0).length)
abbrev ZM:=(Ug (k82 u1) (Zq u1 u2 u0) 0 (.row 3 1 (Wh u1 u2 u3 u0).length (k94 u1 u2 u3 u0)))
abbrev ZN:=((Zw u1 u2 u3 u0),(Uv u1 u2 u0),(k18 u3))
abbrev XA:=((0:Int)≤(Jd u2 u0)∧(Jd u2 u0)<(u1.length:Int))
abbrev LG:=((at' u1 ((Jd u2 u0).toNat)).buses)
abbrev WT:=((LG u1 u2 u0).length+[u3].length)
abbrev Oc:=((LG u1 u2 u0)++[u3])
abbrev Vr:=(aA (bJ .i64) (Oc u1 u2 u3 u0))
abbrev V6:=(u1.set ((Jd u2 u0).toNat) (⟨(Oc u1 u2 u3 u0),(at' u1 ((Jd u2 u0).toNat)).sources⟩:aI))
abbrev WO:=(wZ aI.ev (V6 u1 u2 u3 u0))
abbrev aaj:=(zI (aA (bJ .i64) (LG u1 u2 u0)) (LG u1 u2 u0).length (aA (bJ .i64) [u3]))
abbrev Z4:=(Ug (wZ aI.ev u1) ((Jd u2 u0).toNat) 0 (.row 3 1 (Oc u1 u2 u3 u0).length (Vr u1 u2 u3 u0)))
abbrev aaE:=((V6 u1 u2 u3 u0),u2,(k18 u3))
abbrev QZ:=((0:Int)≤u7∧u7<(p.sources.length:Int))
abbrev Xl:=((0:Int)≤u7∧u7<(s_.on_.length:Int))
abbrev XR:=((gB [((at' s_.on_ u7.toNat),true)]=true→(0:Int)≤u7∧u7<(s_.badSource.length:Int)))
abbrev XM:=((bif (at' s_.on_ u7.toNat)then(!(at' s_.badSource u7.toNat))else false),true)
abbrev Y5:=((gB [(XM s_ u7)]=true→(0:Int)≤(at' p.sources u7.toNat).bus∧(at' p.sources u7.toNat).bus<(s_.badBus.length:Int)))
abbrev Oj:=((at' p.sources u7.toNat).bus)
abbrev Kb:=((at' u5 ((Jd u4 u6).toNat)).sources)
abbrev X6:=((Kb u5 u6 u4).length+[u7].length)
abbrev Pd:=((Kb u5 u6 u4)++[u7])
abbrev Vu:=(aA (bJ .i64) (Pd u7 u5 u6 u4))
abbrev U9:=(u5.set ((Jd u4 u6).toNat) (⟨(at' u5 ((Jd u4 u6).toNat)).buses,(Pd u7 u5 u6 u4)⟩:aI))
abbrev Y9:=(wZ aI.ev (U9 u7 u5 u6 u4))
abbrev aak:=(zI (aA (bJ .i64) (Kb u5 u6 u4)) (Kb u5 u6 u4).length (aA (bJ .i64) [u7]))
abbrev ZB:=(Ug (wZ aI.ev u5) ((Jd u4 u6).toNat) 1 (.row 3 1 (Pd u7 u5 u6 u4).length (Vu u7 u5 u6 u4)))
abbrev Z0:=((U9 u7 u5 u6 u4),(k18 u7))
end
theorem ic (p:au) (s_:State):dG Tryz.prog 75 (Pm s_ p) [] (fun r=>(vD (bg none 2 aI.cell r))) (fun _=>[]) (fq p s_):=
  dP tT mX Tryz.func75 (
  .rg {fr:=[(0,55),(1,56)],fz:=[56]} []<| .rg {an:=[(0, .map 0 (Ab (bJ .i64) ([]:(List (Int × Int)))) (A9 (bJ .i64) ([]:(List (Int × Int)))) [])],fr:=[(0,57),(2,58)]} []<| .cl 2 (xJ p s_) fun r_=> .r<| .cl 0 (dY [(0,59),(1,58),(2,57)] (wz r_.1 r_.2.1 r_.2.2.1 r_.2.2.2.1 r_.2.2.2.2.1 r_.2.2.2.2.2.1 r_.2.2.2.2.2.2.1 r_.2.2.2.2.2.2.2.1 r_.2.2.2.2.2.2.2.2.1 r_.2.2.2.2.2.2.2.2.2.1 r_.2.2.2.2.2.2.2.2.2.2 (⟨([]:(List (Int × Int)))⟩:aR))) fun v0=> .rf 59 [5] [] none 0 []<| .r<| .im (.adR 7 60 129 2 (wZ aI.ev ([]:List aI)))<| .rg {an:=[(0, .map 0 (Ab (bJ .i64) ([]:(List (Int × Int)))) (A9 (bJ .i64) ([]:(List (Int × Int)))) [])],fr:=[(0,61)]} []<| .r<| .lp (σ:=((List aI) × (List (Int × Int)) × Int)) (β:=((List aI) × (List (Int × Int)))) (([]:List aI),([]:(List (Int × Int))),0) [] [] ⟨[2,3,5,8,31],[55,57,58],fun(u1,u2,u3)=>[(7,(vO 60 false u1.length)),(32,(vI u3))],fun(u1,u2,u3)=>(k73 u1 u2)⟩ ⟨[2,3,5,8],[55,57,58],fun(u9,u4)=>[(7,(vO 60 false u9.length))],fun(u9,u4)=>(k73 u9 u4)⟩
  (fun(u1,u2,u3)=> .r<| .it (.r<| .a1 (k74 u3 s_)<| .r<| .it (.r<| .e (.next (u1,u2,(k18 u3))))
  (.cr 2 (dY [(0,57)] (gq v0 u3)) fun u0=> .r<| .rg {an:=[(2, .look (aY aW u0 u2).isSome (Wn u2 u0))]} [.pf ⟨fB [some .i64] 1 1 u2.length (Ab (bJ .i64) u2) (A9 (bJ .i64) u2) [(.int .i64 u0)] [(.d (.int .i64 0))] (aY aW u0 u2).isSome (Wn u2 u0),oq (fun _=>rfl) (fun _ _=>rfl) u2 u0 0 rfl rfl rfl⟩]<| .r<| .it (.rg {an:=[(4, .map (Uv u1 u2 u0).length (k78 u1 u2 u0) (k79 u1 u2 u0) [])]} [.pf ⟨wD [some .i64] 1 1 u2.length (Ab (bJ .i64) u2) (A9 (bJ .i64) u2) [(.int .i64 u0)] [(cI (u1.length:Int))] [] (Uv u1 u2 u0).length (k78 u1 u2 u0) (k79 u1 u2 u0),Gb (fun _=>rfl) (fun _ _=>rfl) u2 u0 (u1.length:Int) rfl rfl⟩]<| .a2 (k80 u1) (u1.length+[(⟨([]:List Int),([]:List Int)⟩:aI)].length≤4611686018427387904)<| .rg {an:=[(2, .arr [(⟨([]:List Int),([]:List Int)⟩:aI)].length (uM 2 [nS,nS])),(3, .rows (Rt u1).length (k82 u1))],fr:=[(2,86),(3,87)]} [.pf ⟨[(⟨([]:List Int),([]:List Int)⟩:aI)].length=1,rfl⟩, .pf ⟨aM 1 2 (uM 2 [nS,nS]) (uM 2 [nS,nS]),xg _ _ _⟩, .e (u1.length),0,1, .pf ⟨(Rt u1).length=u1.length+[(⟨([]:List Int),([]:List Int)⟩:aI)].length,List.length_append⟩, .pf ⟨Eh u1.length [(⟨([]:List Int),([]:List Int)⟩:aI)].length 2 (wZ aI.ev u1) (uM 2 [nS,nS]) (k82 u1),SB _ _ _ _ _ (by intro i hi j hj;match i,j,hi,hj with|0,0,_,_=>exact⟨rfl,_,_,_,rfl⟩|0,1,_,_=>exact⟨rfl,_,_,_,rfl⟩)⟩]<| .rg {an:=[(2, .look (Z7 u1 u2 u0).isSome (k84 u1 u2 u0))]} [.pf ⟨fB [some .i64] 1 1 (Uv u1 u2 u0).length (k78 u1 u2 u0) (k79 u1 u2 u0) [(.int .i64 u0)] [(.d (.int .i64 0))] (Z7 u1 u2 u0).isSome (k84 u1 u2 u0),oq (fun _=>rfl) (fun _ _=>rfl) (Uv u1 u2 u0) u0 0 rfl rfl rfl⟩]<| .a3 (k86 u1 u2 u0) (k87 u1 u2 u3 u0) (k92 u1 u2 u3 u0)<| .rg {an:=[(6, .take 88),(8, .arr [u3].length (aA (bJ .i64) [u3])),(9, .arr (Wh u1 u2 u3 u0).length (k94 u1 u2 u3 u0)),(12, .rows 0 (k95 u1 u2 u3 u0))],fr:=[(8,89),(9,90)]} [0, .t 0 (T9 u1 u2 u0) (k97 u1), .pf ⟨[u3].length=1,rfl⟩, .pf ⟨aM 1 1 (uM 1 [(.int .i64 u3)]) (aA (bJ .i64) [u3]),(by intro i hi j hj;match i,j,hi,hj with|0,0,_,_=>rfl)⟩, .e (k98 u1 u2 u0),1,2, .pf ⟨(Wh u1 u2 u3 u0).length=(Ud u1 u2 u0).length+[u3].length,List.length_append⟩, .pf ⟨aM (k88 u1 u2 u3 u0) 1 (k99 u1 u2 u3 u0) (k94 u1 u2 u3 u0),jI _ _ _ _⟩,0, .t 0 (T9 u1 u2 u0) (k97 u1), .e (aax u1 u2 u3 u0), .pf ⟨Qy (Rt u1).length 2 (ZM u1 u2 u3 u0) (k95 u1 u2 u3 u0),EN _ _ _ _ _ _ _ _ rfl (fun j hj=>(match j,hj with|0,_=>rfl|1,_=>rfl))⟩, .pf ⟨∀i0 j0 c0,((some ((T9 u1 u2 u0).toNat,0,CV.own 88 false (Ud u1 u2 u0).length)):Option (Nat × Nat × CV))=some (i0,j0,c0)→i0=(T9 u1 u2 u0).toNat∧j0=0,(fun i0 j0 c0 e=>by cases e;exact⟨rfl,rfl⟩)⟩]<| .im (.ll 87 (Rt u1) (Zw u1 u2 u3 u0))<| .r<| .en (.next (ZN u1 u2 u3 u0)) [] [(87,60)])
  (.rg {an:=[(2, .look (aY aW u0 u2).isSome (Wn u2 u0))]} [.pf ⟨fB [some .i64] 1 1 u2.length (Ab (bJ .i64) u2) (A9 (bJ .i64) u2) [(.int .i64 u0)] [(.d (.int .i64 0))] (aY aW u0 u2).isSome (Wn u2 u0),oq (fun _=>rfl) (fun _ _=>rfl) u2 u0 0 rfl rfl rfl⟩]<| .a3 (XA u1 u2 u0) ((WT u1 u2 u3 u0)*8≤140737488355328) ((LG u1 u2 u0).length+[u3].length≤4611686018427387904)<| .rg {an:=[(6, .take 91),(8, .arr [u3].length (aA (bJ .i64) [u3])),(9, .arr (Oc u1 u2 u3 u0).length (Vr u1 u2 u3 u0)),(12, .rows 0 (WO u1 u2 u3 u0))],fr:=[(8,92),(9,93)]} [0, .t 0 (Jd u2 u0) u1.length, .pf ⟨[u3].length=1,rfl⟩, .pf ⟨aM 1 1 (uM 1 [(.int .i64 u3)]) (aA (bJ .i64) [u3]),(by intro i hi j hj;match i,j,hi,hj with|0,0,_,_=>rfl)⟩, .e ((LG u1 u2 u0).length),1,2, .pf ⟨(Oc u1 u2 u3 u0).length=(LG u1 u2 u0).length+[u3].length,List.length_append⟩, .pf ⟨aM (WT u1 u2 u3 u0) 1 (aaj u1 u2 u3 u0) (Vr u1 u2 u3 u0),jI _ _ _ _⟩,0, .t 0 (Jd u2 u0) u1.length, .e ((Oc u1 u2 u3 u0).length), .pf ⟨Qy u1.length 2 (Z4 u1 u2 u3 u0) (WO u1 u2 u3 u0),EN _ _ _ _ _ _ _ _ rfl (fun j hj=>(match j,hj with|0,_=>rfl|1,_=>rfl))⟩, .pf ⟨∀i0 j0 c0,((some ((Jd u2 u0).toNat,0,CV.own 91 false (LG u1 u2 u0).length)):Option (Nat × Nat × CV))=some (i0,j0,c0)→i0=(Jd u2 u0).toNat∧j0=0,(fun i0 j0 c0 e=>by cases e;exact⟨rfl,rfl⟩)⟩]<| .im (.ll 60 u1 (V6 u1 u2 u3 u0))<| .r<| .e (.next (aaE u1 u2 u3 u0)))))
  (.e (.done (.brk (u1,u2)))))
  (fun(u9,u4)=> .r<| .lp (σ:=((List aI) × Int)) (β:=(List aI)) (u9,0) [] [] ⟨[3,5,8,76,77],[57,58,61],fun(u5,u7)=>[(7,(vO 60 false u5.length)),(78,(vI u7))],fun(u5,u7)=>[(60,some (.rows 129 2 u5.length (wZ aI.ev u5) none))]⟩ ⟨[],[],fun u8=>[(7,(vO 60 false u8.length))],fun u8=>[(60,some (.rows 129 2 u8.length (wZ aI.ev u8) none))]⟩
  (fun(u5,u7)=> .r<| .it (.a1 (QZ u7 p)<| .rg {fr:=[(3,106)],fz:=[106]} []<| .a3 (Xl s_ u7) (XR s_ u7) (Y5 s_ u7 p)<| .rg {} [0,1,2]<| .it (.cr 4 (dY [(0,57)] (gq v0 (Oj u7 p))) fun u6=> .rg {an:=[(5, .look (aY aW u6 u4).isSome (Wn u4 u6))]} [0, .pf ⟨fB [some .i64] 1 1 u4.length (Ab (bJ .i64) u4) (A9 (bJ .i64) u4) [(.int .i64 u6)] [(.d (.int .i64 0))] (aY aW u6 u4).isSome (Wn u4 u6),oq (fun _=>rfl) (fun _ _=>rfl) u4 u6 0 rfl rfl rfl⟩]<| .a3 (XA u5 u4 u6) ((X6 u7 u5 u6 u4)*8≤140737488355328) ((Kb u5 u6 u4).length+[u7].length≤4611686018427387904)<| .rg {an:=[(6, .take 107),(8, .arr [u7].length (aA (bJ .i64) [u7])),(9, .arr (Pd u7 u5 u6 u4).length (Vu u7 u5 u6 u4)),(12, .rows 0 (Y9 u7 u5 u6 u4))],fr:=[(8,108),(9,109)]} [0, .t 0 (Jd u4 u6) u5.length, .pf ⟨[u7].length=1,rfl⟩, .pf ⟨aM 1 1 (uM 1 [(.int .i64 u7)]) (aA (bJ .i64) [u7]),(by intro i hi j hj;match i,j,hi,hj with|0,0,_,_=>rfl)⟩, .e ((Kb u5 u6 u4).length),1,2, .pf ⟨(Pd u7 u5 u6 u4).length=(Kb u5 u6 u4).length+[u7].length,List.length_append⟩, .pf ⟨aM (X6 u7 u5 u6 u4) 1 (aak u7 u5 u6 u4) (Vu u7 u5 u6 u4),jI _ _ _ _⟩,0, .t 0 (Jd u4 u6) u5.length, .e ((Pd u7 u5 u6 u4).length), .pf ⟨Qy u5.length 2 (ZB u7 u5 u6 u4) (Y9 u7 u5 u6 u4),EN _ _ _ _ _ _ _ _ rfl (fun j hj=>(match j,hj with|0,_=>rfl|1,_=>rfl))⟩, .pf ⟨∀i0 j0 c0,((some ((Jd u4 u6).toNat,1,CV.own 107 false (Kb u5 u6 u4).length)):Option (Nat × Nat × CV))=some (i0,j0,c0)→i0=(Jd u4 u6).toNat∧j0=1,(fun i0 j0 c0 e=>by cases e;exact⟨rfl,rfl⟩)⟩]<| .im (.ll 60 u5 (U9 u7 u5 u6 u4))<| .r<| .e (.next (Z0 u7 u5 u6 u4)))
  (.r<| .e (.next (u5,(k18 u7)))))
  (.e (.done (.brk u5))))
  (fun u8=> .r<| .fz [60]<| .im (.us 4 (vD (.sl none 2 u8.length (fun i j=>ZK (wZ aI.ev u8 i j)))) (vD (bg none 2 aI.cell u8)) (Ar.v (sG.one (mh.d (kH.sl (.inr rfl) (fun i _ j hj=>match j,hj with|0,_=> .refl _|1,_=> .refl _))))))<| .e u8)))
section
variable (p:au) (u0:Int) (u1:(List aI)) (u3:Int) (u2:(List Bool)) (u6:(List Bool))
abbrev TL:=((1:Int)*p.buses≤281474976710656)
abbrev Ty:=((p.buses:Int)≤9223372036854775807)
abbrev yx:=(List.replicate p.buses.toNat (false:Bool))
abbrev Jt:=(aA ai (yx p))
abbrev TM:=((0:Int)≤u0∧u0<(u1.length:Int))
abbrev WX:=((0:Int)≤u3∧u3<(((at' u1 u0.toNat).buses).length:Int))
abbrev Ol:=(at' ((at' u1 u0.toNat).buses) u3.toNat)
abbrev XK:=((0:Int)≤(Ol u0 u1 u3)∧(Ol u0 u1 u3)<(u2.length:Int))
abbrev SL:=(u2.set ((Ol u0 u1 u3).toNat) (decide (0<(((at' u1 u0.toNat).sources).length:Int))))
abbrev Sw:=(aA ai (SL u0 u1 u3 u2))
abbrev X4:=(qW (aA ai u2) ((Ol u0 u1 u3).toNat) 0 [(.bool (decide (0<(((at' u1 u0.toNat).sources).length:Int))))])
abbrev Y1:=((SL u0 u1 u3 u2),(k18 u3))
abbrev Ph:=(u6,(k18 u0))
end
theorem DK (p:au) (s_:State):dG Tryz.prog 30 (Pm s_ p) [] (fun r=>(.iF [(sD (bg none 1 ai r.1)),(sI r.2)])) (fun _=>[]) (fJ p s_):=
  dP tT mX Tryz.func30 (
  .rg {fr:=[(0,7),(1,8)],fz:=[7,8]} []<| .cl 2 (bZ p s_) fun r_=> .r<| .r<| .it (.r<| .e (([]:List Bool),r_))
  (.a3 ((0:Int)≤p.buses) (TL p) (Ty p)<| .rg {an:=[(2, .arr (yx p).length (Jt p))],fr:=[(2,9)]} [0, .e ((p.buses:Int)),1,2, .pf ⟨(yx p).length=p.buses.toNat,List.length_replicate⟩, .pf ⟨aM p.buses.toNat 1 (fun _ j=>[(.bool false)].getD j .nilp) (Jt p),mo _ _ _ _ _ (fun j hj=>(match j,hj with|0,_=>rfl))⟩]<| .cl 2 (ic p s_) fun u1=> .r<| .lp (σ:=((List Bool) × Int)) (β:=(List Bool)) ((yx p),0) [] [] ⟨[23,24],[],fun(u4,u0)=>[(7,(vO 9 true u4.length)),(25,(vI u0))],fun(u4,u0)=>[(9,some (bM 4 1 ai u4))]⟩ ⟨[],[],fun u5=>[(7,(vO 9 true u5.length))],fun u5=>[(9,some (bM 4 1 ai u5))]⟩
  (fun(u4,u0)=> .r<| .it (.a1 (TM u0 u1)<| .rg {fr:=[(2,13)]} []<| .rg {fz:=[13]} []<| .lp (σ:=((List Bool) × Int)) (β:=(List Bool)) (u4,0) [] [] ⟨[9,23,24,25,30,31],[],fun(u2,u3)=>[(7,(vO 9 true u2.length)),(32,(vI u3))],fun(u2,u3)=>[(9,some (bM 4 1 ai u2))]⟩ ⟨[23,24,25],[],fun u6=>[(7,(vO 9 true u6.length))],fun u6=>[(9,some (bM 4 1 ai u6))]⟩
  (fun(u2,u3)=> .r<| .it (.a1 (WX u0 u1 u3)<| .r<| .a1 (XK u0 u1 u3 u2)<| .rg {an:=[(7, .arr 0 (Sw u0 u1 u3 u2))]} [0, .t 0 (Ol u0 u1 u3) u2.length, .pf ⟨aM u2.length 1 (X4 u0 u1 u3 u2) (Sw u0 u1 u3 u2),dB _ _ _ _ _ _ _ _ rfl (fun j hj=>(match j,hj with|0,_=>rfl))⟩]<| .im (.ll 9 u2 (SL u0 u1 u3 u2))<| .r<| .e (.next (Y1 u0 u1 u3 u2)))
  (.e (.done (.brk u2))))
  (fun u6=> .r<| .e (.next (Ph u0 u6))))
  (.e (.done (.brk u4))))
  (fun u5=> .rg {fz:=[9]} []<| .e (u5,0))))
theorem zh (x:Int):dG Tryz.prog 154 [(sI x)] [] (fun r=>(vB r)) (fun _=>[]) (tZ x):=
  dP tT mX Tryz.func154 (
  .r<| .r<| .e (!decide (x=x)))
theorem Da (x:Int) (y:Int):dG Tryz.prog 118 [(sI x),(sI y)] [] (fun r=>(vI r)) (fun _=>[]) (qh x y):=
  dP tT mX Tryz.func118 (
  .r<| .cl 1 (zh x) fun r_=> .r<| .cl 1 (zh y) fun u0=> .r<| .r<| .it (.r<| .it (.r<| .e 0)
  (.r<| .e (-1)))
  (.r<| .it (.r<| .e 1)
  (.r<| .it (.r<| .e (-1))
  (.r<| .it (.r<| .e 1)
  (.r<| .e 0)))))
theorem zO (s1:(List Int)) (s2:(List Int)):dG Tryz.prog 78 [(sD (O8 s1)),(sD (O8 s2))] [] (fun r=>(vI r)) (fun _=>[]) (p8 s1 s2):=
  dP tT mX Tryz.func78 (
  .r<| .r<| .lp (σ:=Int) (β:=Unit) (0) [] [] ⟨[0,1,9,10],[],fun u0=>[(11,(vI u0))],fun u0=>[]⟩ ⟨[0,1],[],fun _=>[],fun _=>[]⟩
  (fun u0=> .r<| .it (.a1 (Ro s1 u0)<| .r<| .r<| .it (.r<| .e (.done (.ret 1)))
  (.a1 (Ro s2 u0)<| .r<| .cl 2 (Da (at' s1 u0.toNat) (at' s2 u0.toNat)) fun r_=> .r<| .r<| .it (.r<| .e (.done (.ret r_)))
  (.r<| .e (.next (k18 u0)))))
  (.e (.done (.brk ()))))
  (fun _=> .r<| .it (.r<| .e (-1))
  (.r<| .e 0)))
theorem yB (a:ay) (b:ay):dG Tryz.prog 77 [(.agg [(cI a.e0),(cI a.e1)]),(.agg [(cI b.e0),(cI b.e1)])] [] (fun r=>(vI r)) (fun _=>[]) (iR a b):=
  dP tT mX Tryz.func77 (
  .rg {fr:=[(0,2),(1,3)],fz:=[2,3]} []<| .cl 2 ⟨fun{r_} hr_=>((Fn.Uj (args:=[(sD (bg none 1 (bJ .i64) [a.e0,a.e1])),(sD (bg none 1 (bJ .i64) [b.e0,b.e1]))]) (args':=[(sD (.sl (some true) 1 [a.e0,a.e1].length (fun i j=>([(.int .i64 a.e0),(.int .i64 a.e1)].getD (0+(i*1+j)) .nilp)))),(sD (.sl (some true) 1 [b.e0,b.e1].length (fun i j=>([(.int .i64 b.e0),(.int .i64 b.e1)].getD (0+(i*1+j)) .nilp))))]) (hin:=[]) (hin':=[]) (zO [a.e0,a.e1] [b.e0,b.e1] hr_) ⟨sG.one (mh.d (kH.sl (.inl rfl) (by intro i hi j hj;match i,j,hi,hj with|0,0,_,_=>exact .refl _|1,0,_,_=>exact .refl _))),sG.one (mh.d (kH.sl (.inl rfl) (by intro i hi j hj;match i,j,hi,hj with|0,0,_,_=>exact .refl _|1,0,_,_=>exact .refl _))),trivial⟩ trivial):Fn Tryz.prog 78 [(sD (.sl (some true) 1 [a.e0,a.e1].length (fun i j=>([(.int .i64 a.e0),(.int .i64 a.e1)].getD (0+(i*1+j)) .nilp)))),(sD (.sl (some true) 1 [b.e0,b.e1].length (fun i j=>([(.int .i64 b.e0),(.int .i64 b.e1)].getD (0+(i*1+j)) .nilp))))] [] (vI r_) [])⟩ fun r_=> .r<| .e r_)
theorem pG (x y:ay):iR x y=some (if x.e0<y.e0 then -1 else if y.e0<x.e0 then 1 else if x.e1<y.e1 then -1 else if y.e1<x.e1 then 1 else 0):=by
 have hc: ∀a b:Int,qh a b=some (if a<b then -1 else if b<a then 1 else 0):=by
  intro a b
  unfold qh tZ
  by_cases h:a<b<;>by_cases g:b<a<;>simp [h,g]
 obtain⟨k,hk⟩: ∃k,FUEL=k+1+1+1:=⟨1180591620717411303421,rfl⟩
 unfold iR p8
 rw [hk]
 simp only [aG,qZ,hc,aJ,at']
 by_cases h0:x.e0<y.e0<;>by_cases g0:y.e0<x.e0<;>by_cases h1:x.e1<y.e1<;>by_cases g1:y.e1<x.e1<;>simp [h0,g0,h1,g1,IntKind.wrap_i64]
theorem wS (x y:ay):iR x y=some (aX x y):=by unfold aX;rw [pG];rfl
theorem iL (x y:ay):Go.Proofs.ltOf aX x y=true↔x.e0<y.e0∨ ¬ y.e0<x.e0∧x.e1<y.e1:=by
 unfold Go.Proofs.ltOf aX;rw [pG,decide_eq_true_iff]
 by_cases h0:x.e0<y.e0<;>by_cases g0:y.e0<x.e0<;>by_cases h1:x.e1<y.e1<;>by_cases g1:y.e1<x.e1<;>simp [h0,g0,h1,g1]
theorem xU:Go.Sort.SWO (Go.Proofs.ltOf aX) where
 irrefl x:=by rw [←Bool.not_eq_true,iL];omega
 trans x y z h1 h2:=by rw [iL]at*;omega
 ntrans x y z h1 h2:=by rw [←Bool.not_eq_true,iL]at*;omega
theorem xS (x y:ay) (h1:(Go.Proofs.ltOf aX) x y=false) (h2:(Go.Proofs.ltOf aX) y x=false):x=y:=by
 rw [←Bool.not_eq_true,iL]at h1 h2
 obtain⟨a,b⟩:=x
 obtain⟨c,d⟩:=y
 have e1:a=c:=by simp only at h1 h2;omega
 have e2:b=d:=by simp only at h1 h2;omega
 rw [e1,e2]
theorem zb (s:(List ay)) {r:(List ay)} (h:iX s=some r):Fn Tryz.prog 76 [(.one (.own 0 false s.length)),(sD (.fn 77 0 (aZ [])))] [(0,some (.arr 117 2 s.length (aA ay.cell s)))] (.iF []) [(0,some (.arr 117 2 r.length (aA ay.cell r)))]:=
 Va Rm 2 RL Ps (fun x:ay=>[.int .i64 x.e0, .int .i64 x.e1]) (fun _=>rfl) (fun x v hv=>by simp at hv;rcases hv with rfl|rfl<;>rfl) aX xU xS (ec:=fun x=>[(cI x.e0),(cI x.e1)])
  (fun x y=>yB x y (wS x y)) (fun F w x=> ⟨rfl,rfl,trivial⟩) (enters_of Tryz.func77 (by kernel_rfl) rfl)
  (fun F w x j hj v=>match j,hj with|0,_=>Iff.rfl|1,_=>Iff.rfl) 76 rfl ⟨_,Tryz.func76,rfl,rfl⟩ s (by cases s with|nil=>(cases h;simp)|cons x xs=>exact h)
section
variable (u6:(List ay)) (u1:Int) (u2:(List aI)) (u0:Int) (u3:Int) (p:au) (u4:(List ay))
abbrev O3:List (Nat × Option Ob):=[(138,some (bM 117 2 ay.cell u6))]
abbrev aam:=((0:Int)≤(k18 u1)∧(k18 u1)≤(((at' u2 u0.toNat).sources).length:Int))
abbrev VN:=((k18 u1).toNat)
abbrev Vj:=(((at' u2 u0.toNat).sources).drop (VN u1))
abbrev ZF:=((0:Int)≤u3∧u3<((Vj u1 u2 u0).length:Int))
abbrev JS:=(at' ((at' u2 u0.toNat).sources) u1.toNat)
abbrev aav:=((0:Int)≤(JS u1 u2 u0)∧(JS u1 u2 u0)<(p.sources.length:Int))
abbrev aaJ:=((gB [((decide (((at' p.sources ((JS u1 u2 u0).toNat)).sync)=0)),false)]=true→(0:Int)≤(JS u1 u2 u0)∧(JS u1 u2 u0)<(p.sources.length:Int)))
abbrev Sl:=(at' (Vj u1 u2 u0) u3.toNat)
abbrev aae:=((gB [((decide (((at' p.sources ((JS u1 u2 u0).toNat)).sync)=0)),false)]=true→(0:Int)≤(Sl u1 u2 u0 u3)∧(Sl u1 u2 u0 u3)<(p.sources.length:Int)))
abbrev Mv:=(⟨(JS u1 u2 u0),(Sl u1 u2 u0 u3)⟩:ay)
abbrev WW:=(u4.length+[(Mv u1 u2 u0 u3)].length)
abbrev ZJ:=((WW u1 u2 u0 u3 u4)*16≤140737488355328)
abbrev aaR:=(u4.length+[(Mv u1 u2 u0 u3)].length≤4611686018427387904)
abbrev UJ:=(aA ay.cell [(Mv u1 u2 u0 u3)])
abbrev SY:=(u4++[(Mv u1 u2 u0 u3)])
abbrev Yf:=(aA ay.cell (SY u1 u2 u0 u3 u4))
abbrev aao:=(uM 2 [(.int .i64 (JS u1 u2 u0)),(.int .i64 (Sl u1 u2 u0 u3))])
abbrev ZV:=(zI (aA ay.cell u4) u4.length (UJ u1 u2 u0 u3))
abbrev aaS:=((SY u1 u2 u0 u3 u4),(k18 u3))
abbrev NU:=(u4,(k18 u3))
end
theorem Aj (p:au) (s_:State):dG Tryz.prog 32 (Pm s_ p) [] (fun r=>(.iF [(sD (bg none 2 ay.cell r.1)),(sI r.2)])) (fun _=>[]) (nO p s_):=
  dP tT mX Tryz.func32 (
  .rg {fr:=[(0,134),(1,135)],fz:=[134,135]} []<| .cl 2 (bZ p s_) fun r_=> .r<| .r<| .it (.r<| .e (([]:List ay),r_))
  (.r<| .cl 2 (ic p s_) fun u2=> .r<| .im (.ad 7 268 117 2 (aA ay.cell ([]:List ay)))<| .lp (σ:=((List ay) × Int)) (β:=(List ay)) (([]:List ay),0) [] [(268,138)] ⟨[2,22,23],[],fun(u6,u0)=>[(7,(vO 138 false u6.length)),(24,(vI u0))],fun(u6,u0)=>(O3 u6)⟩ ⟨[],[],fun u5=>[(7,(vO 138 false u5.length))],fun u5=>(O3 u5)⟩
  (fun(u6,u0)=> .r<| .it (.a1 (TM u0 u2)<| .rg {fr:=[(2,235)],fz:=[235]} []<| .r<| .lp (σ:=((List ay) × Int)) (β:=(List ay)) (u6,0) [] [] ⟨[2,9,22,23,24,29,30],[],fun(u7,u1)=>[(7,(vO 138 false u7.length)),(31,(vI u1))],fun(u7,u1)=>(O3 u7)⟩ ⟨[2,22,23,24],[],fun u8=>[(7,(vO 138 false u8.length))],fun u8=>(O3 u8)⟩
  (fun(u7,u1)=> .r<| .it (.a1 ((0:Int)≤u1∧u1<(((at' u2 u0.toNat).sources).length:Int))<| .r<| .a1 (aam u1 u2 u0)<| .r<| .im (.us 40 (vD (.sl none 1 (((at' u2 u0.toNat).sources).length - (VN u1)) (fun iq jq=>aA (bJ .i64) ((at' u2 u0.toNat).sources) (iq+(VN u1)) jq))) (vD (bg none 1 (bJ .i64) (Vj u1 u2 u0))) (Ar.v (sG.one (mh.d (kH.slN (by simp only [List.length_set,List.length_drop,En]) (.inr rfl) (Wd _ _ _ _))))))<| .lp (σ:=((List ay) × Int)) (β:=(List ay)) (u7,0) [] [] ⟨[2,9,11,22,23,24,29,30,31,40,41],[],fun(u4,u3)=>[(7,(vO 138 false u4.length)),(42,(vI u3))],fun(u4,u3)=>(O3 u4)⟩ ⟨[2,9,22,23,24,29,30,31],[],fun u9=>[(7,(vO 138 false u9.length))],fun u9=>(O3 u9)⟩
  (fun(u4,u3)=> .r<| .it (.a1 (ZF u1 u2 u0 u3)<| .r<| .a3 (aav u1 u2 u0 p) (aaJ u1 u2 u0 p) (aae u1 u2 u0 u3 p)<| .rg {} [0,1,2]<| .it (.a2 (ZJ u1 u2 u0 u3 u4) (aaR u1 u2 u0 u3 u4)<| .rg {an:=[(4, .arr [(Mv u1 u2 u0 u3)].length (UJ u1 u2 u0 u3)),(5, .arr (SY u1 u2 u0 u3 u4).length (Yf u1 u2 u0 u3 u4))],fr:=[(4,266),(5,267)]} [.pf ⟨[(Mv u1 u2 u0 u3)].length=1,rfl⟩, .pf ⟨aM 1 2 (aao u1 u2 u0 u3) (UJ u1 u2 u0 u3),(by intro i hi j hj;match i,j,hi,hj with|0,0,_,_=>rfl|0,1,_,_=>rfl)⟩, .e (u4.length),0,1, .pf ⟨(SY u1 u2 u0 u3 u4).length=u4.length+[(Mv u1 u2 u0 u3)].length,List.length_append⟩, .pf ⟨aM (WW u1 u2 u0 u3 u4) 2 (ZV u1 u2 u0 u3 u4) (Yf u1 u2 u0 u3 u4),jI _ _ _ _⟩]<| .r<| .en (.next (aaS u1 u2 u0 u3 u4)) [] [(267,138)])
  (.r<| .e (.next (NU u3 u4))))
  (.e (.done (.brk u4))))
  (fun u9=> .r<| .e (.next (NU u1 u9))))
  (.e (.done (.brk u7))))
  (fun u8=> .r<| .e (.next (NU u0 u8))))
  (.e (.done (.brk u6))))
  (fun u5=> .cl 1 (dY [(0,138)] ⟨fun h=>zb u5 h⟩) fun v0=> .r<| .a1 (u5.length=v0.length)<| .so 7 138 false u5.length v0.length 0<| .so 77 138 false u5.length v0.length 0<| .fz [138]<| .r<| .e (v0,0))))
theorem AA (p:au) (s_:State):dG Tryz.prog 30 (Pm s_ p) [] (fun r=>(.iF [(.one (.own 0 false r.1.length)),(sI r.2)])) (fun r=>[(0,some (bM 4 1 ai r.1))]) (fJ p s_):=
  dP tT mX Tryz.func30 (
  .rg {fr:=[(0,7),(1,8)],fz:=[7,8]} []<| .cl 2 (bZ p s_) fun r_=> .r<| .r<| .it (.r<| .im (.ad 4 9 4 1 (aA ai ([]:List Bool)))<| .en (([]:List Bool),r_) [] [(9,0)])
  (.a3 ((0:Int)≤p.buses) (TL p) (Ty p)<| .rg {an:=[(2, .arr (yx p).length (Jt p))],fr:=[(2,10)]} [0, .e ((p.buses:Int)),1,2, .pf ⟨(yx p).length=p.buses.toNat,List.length_replicate⟩, .pf ⟨aM p.buses.toNat 1 (fun _ j=>[(.bool false)].getD j .nilp) (Jt p),mo _ _ _ _ _ (fun j hj=>(match j,hj with|0,_=>rfl))⟩]<| .cl 2 (ic p s_) fun u1=> .r<| .lp (σ:=((List Bool) × Int)) (β:=(List Bool)) ((yx p),0) [] [] ⟨[23,24],[],fun(u4,u0)=>[(7,(vO 10 true u4.length)),(25,(vI u0))],fun(u4,u0)=>[(10,some (bM 4 1 ai u4))]⟩ ⟨[],[],fun u5=>[(7,(vO 10 true u5.length))],fun u5=>[(10,some (bM 4 1 ai u5))]⟩
  (fun(u4,u0)=> .r<| .it (.a1 (TM u0 u1)<| .rg {fr:=[(2,14)]} []<| .rg {fz:=[14]} []<| .lp (σ:=((List Bool) × Int)) (β:=(List Bool)) (u4,0) [] [] ⟨[9,23,24,25,30,31],[],fun(u2,u3)=>[(7,(vO 10 true u2.length)),(32,(vI u3))],fun(u2,u3)=>[(10,some (bM 4 1 ai u2))]⟩ ⟨[23,24,25],[],fun u6=>[(7,(vO 10 true u6.length))],fun u6=>[(10,some (bM 4 1 ai u6))]⟩
  (fun(u2,u3)=> .r<| .it (.a1 (WX u0 u1 u3)<| .r<| .a1 (XK u0 u1 u3 u2)<| .rg {an:=[(7, .arr 0 (Sw u0 u1 u3 u2))]} [0, .t 0 (Ol u0 u1 u3) u2.length, .pf ⟨aM u2.length 1 (X4 u0 u1 u3 u2) (Sw u0 u1 u3 u2),dB _ _ _ _ _ _ _ _ rfl (fun j hj=>(match j,hj with|0,_=>rfl))⟩]<| .im (.ll 10 u2 (SL u0 u1 u3 u2))<| .r<| .e (.next (Y1 u0 u1 u3 u2)))
  (.e (.done (.brk u2))))
  (fun u6=> .r<| .e (.next (Ph u0 u6))))
  (.e (.done (.brk u4))))
  (fun u5=> .r<| .en (u5,0) [] [(10,0)])))
section
variable (p:au) (u0:Int) (r_:((List Bool) × Int)) (u1:(List aU))
abbrev Bb:=((at' p.racks u0.toNat).feeds)
abbrev YK:List DV:=[(.int .i64 ((Bb p u0).e0))]
abbrev S9:List CV:=[(cI ((Bb p u0).e0)),(cI ((Bb p u0).e1))]
abbrev aaw:=((gB [((decide (0≤((Bb p u0).e0))),true)]=true→(0:Int)≤(Bb p u0).e0∧(Bb p u0).e0<(r_.1.length:Int)))
abbrev YA:List DV:=[(.int .i64 ((Bb p u0).e1))]
abbrev aac:=((gB [((decide (0≤((Bb p u0).e1))),true)]=true→(0:Int)≤(Bb p u0).e1∧(Bb p u0).e1<(r_.1.length:Int)))
abbrev Xv:=(bif (decide (0≤((Bb p u0).e0)))then(at' r_.1 (((Bb p u0).e0).toNat))else false)
abbrev X9:=(bif (decide (0≤((Bb p u0).e1)))then(at' r_.1 (((Bb p u0).e1).toNat))else false)
abbrev MN:=(⟨(Xv p u0 r_),(X9 p u0 r_)⟩:aU)
abbrev Wq:=(u1.length+[(MN p u0 r_)].length)
abbrev ZQ:=((Wq p u0 r_ u1)*2≤140737488355328)
abbrev Z8:=(u1.length+[(MN p u0 r_)].length≤4611686018427387904)
abbrev VT:=(aA aU.cell [(MN p u0 r_)])
abbrev Tx:=(u1++[(MN p u0 r_)])
abbrev YE:=(aA aU.cell (Tx p u0 r_ u1))
abbrev ZH:=(uM 2 [(.bool (Xv p u0 r_)),(.bool (X9 p u0 r_))])
abbrev ZT:=(zI (aA aU.cell u1) u1.length (VT p u0 r_))
abbrev ZO:=((Tx p u0 r_ u1),(k18 u0))
end
theorem Bn (p:au) (s_:State):dG Tryz.prog 31 (Pm s_ p) [] (fun r=>(.iF [(.one (.own 0 false r.1.length)),(sI r.2)])) (fun r=>[(0,some (bM 78 2 aU.cell r.1))]) (tX p s_):=
  dP tT mX Tryz.func31 (
  .rg {fr:=[(0,19),(1,20)],fz:=[20]} []<| .cl 2 (dY [(0,21)] (AA p s_)) fun r_=> .rg {fz:=[21]} []<| .r<| .it (.r<| .im (.ad 4 22 78 2 (aA aU.cell ([]:List aU)))<| .en (([]:List aU),r_.2) [] [(22,0)])
  (.r<| .r<| .im (.ad 8 39 78 2 (aA aU.cell ([]:List aU)))<| .lp (σ:=((List aU) × Int)) (β:=(List aU)) (([]:List aU),0) [] [(39,26)] ⟨[6,24,25],[],fun(u1,u0)=>[(8,(vO 26 false u1.length)),(26,(vI u0))],fun(u1,u0)=>[(26,some (bM 78 2 aU.cell u1))]⟩ ⟨[],[],fun u2=>[(8,(vO 26 false u2.length))],fun u2=>[(26,some (bM 78 2 aU.cell u2))]⟩
  (fun(u1,u0)=> .r<| .it (.a1 ((0:Int)≤u0∧u0<(p.racks.length:Int))<| .rg {fr:=[(2,35)],fz:=[35]} []<| .rg {fr:=[(0,36)]} []<| .r<| .ul 11<| .r<| .t<| .rg {an:=[(1, .vals (YK p u0))]} [.pf ⟨(0:Int)≤0∧(0:Int)<(2:Nat),(by decide)⟩, .pf ⟨0*1+1≤(S9 p u0).length,Nat.le_of_ble_eq_true rfl⟩, .pf ⟨((S9 p u0).drop (0*1)).take 1=(YK p u0).map .d,rfl⟩]<| .a1 (aaw p u0 r_)<| .rg {} [0, .pf ⟨(0:Int)≤0∧(0:Int)<(2:Nat),(by decide)⟩]<| .r<| .im (.dp [6,8,11,24,25,26,31,32])<| .r<| .t<| .rg {an:=[(1, .vals (YA p u0))]} [.pf ⟨(0:Int)≤1∧(1:Int)<(2:Nat),(by decide)⟩, .pf ⟨1*1+1≤(S9 p u0).length,Nat.le_of_ble_eq_true rfl⟩, .pf ⟨((S9 p u0).drop (1*1)).take 1=(YA p u0).map .d,rfl⟩]<| .a1 (aac p u0 r_)<| .rg {} [0, .pf ⟨(0:Int)≤1∧(1:Int)<(2:Nat),(by decide)⟩]<| .r<| .im (.dp [6,8,11,24,25,26,31,32])<| .r<| .f<| .a2 (ZQ p u0 r_ u1) (Z8 p u0 r_ u1)<| .rg {an:=[(2, .arr [(MN p u0 r_)].length (VT p u0 r_)),(3, .arr (Tx p u0 r_ u1).length (YE p u0 r_ u1))],fr:=[(2,37),(3,38)]} [.pf ⟨[(MN p u0 r_)].length=1,rfl⟩, .pf ⟨aM 1 2 (ZH p u0 r_) (VT p u0 r_),(by intro i hi j hj;match i,j,hi,hj with|0,0,_,_=>rfl|0,1,_,_=>rfl)⟩, .e (u1.length),0,1, .pf ⟨(Tx p u0 r_ u1).length=u1.length+[(MN p u0 r_)].length,List.length_append⟩, .pf ⟨aM (Wq p u0 r_ u1) 2 (ZT p u0 r_ u1) (YE p u0 r_ u1),jI _ _ _ _⟩]<| .r<| .en (.next (ZO p u0 r_ u1)) [] [(38,26)])
  (.e (.done (.brk u1))))
  (fun u2=> .r<| .en (u2,0) [] [(26,0)])))
theorem AP (r_:Int) (x1:(List aU)):dG Tryz.prog 101 [(sI r_),(sD (D7 [(bg none 2 aU.cell x1)] 0))] [] (fun r=>(vB r)) (fun _=>[]) (qM r_ x1):=
  dP tT mX Tryz.func101 (
  .r<| .a2 ((0:Int)≤r_∧r_<(x1.length:Int)) ((gB [((!((at' x1 r_.toNat).e0)),true)]=true→(0:Int)≤r_∧r_<(x1.length:Int)))<| .rg {} [0, .pf ⟨(0:Int)≤0∧(0:Int)<(2:Nat),(by decide)⟩,1, .pf ⟨(0:Int)≤1∧(1:Int)<(2:Nat),(by decide)⟩]<| .e (bif (!((at' x1 r_.toNat).e0))then(!((at' x1 r_.toNat).e1))else false))
section
variable (s_:(List Int)) (f_:(List aU))
abbrev Yq:List SV:=[(sD (O8 s_)),(sD (.fn 101 1 (aZ [(D7 [(bg none 2 aU.cell f_)] 0)])))]
end
theorem rD (s_:(List Int)) (f_:(List aU)):dG Tryz.prog 132 (Yq s_ f_) [] (fun r=>(vI r)) (fun _=>[]) (ji s_ f_):=
  dP tT mX Tryz.func132 (
  .r<| .r<| .lp (σ:=Int) (β:=Unit) (0) [] [] ⟨[0,1,7],[],fun t8=>[(8,(vI t8))],fun t8=>[]⟩ ⟨[],[],fun _=>[],fun _=>[]⟩
  (fun t8=> .r<| .it (.r<| .cl 5 (AP (at' s_ t8.toNat) f_) fun r_=> .a1 (Ro s_ t8)<| .rg {} [0,1]<| .it (.r<| .e (.done (.ret t8)))
  (.r<| .e (.next (k18 t8))))
  (.e (.done (.brk ()))))
  (fun _=> .r<| .e (-1)))
theorem qy (s_:(List Int)) (f_:(List aU)):dG Tryz.prog 97 (Yq s_ f_) [] (fun r=>(vB r)) (fun _=>[]) (eY s_ f_):=
  dP tT mX Tryz.func97 (
  .r<| .cl 2 (rD s_ f_) fun r_=> .r<| .e (decide (0≤r_)))
theorem BN (s_:(List Int)) (v_:Int):dG Tryz.prog 171 (Yw s_ v_) [] (fun r=>(vI r)) (fun _=>[]) (sP s_ v_):=
  dP tT mX Tryz.func171 (
  .r<| .r<| .lp (σ:=Int) (β:=Unit) (0) [] [] ⟨[0,1,7],[],fun t8=>[(8,(vI t8))],fun t8=>[]⟩ ⟨[],[],fun _=>[],fun _=>[]⟩
  (fun t8=> .r<| .it (.r<| .a1 (Ro s_ t8)<| .r<| .it (.r<| .e (.done (.ret t8)))
  (.r<| .e (.next (k18 t8))))
  (.e (.done (.brk ()))))
  (fun _=> .r<| .e (-1)))
theorem qG (s_:(List Int)) (v_:Int):dG Tryz.prog 133 (Yw s_ v_) [] (fun r=>(vB r)) (fun _=>[]) (iQ s_ v_):=
  dP tT mX Tryz.func133 (
  .r<| .cl 2 (BN s_ v_) fun r_=> .r<| .e (decide (0≤r_)))
section
variable (p:au) (s_:State) (t:Task) (b:Int) (u1:Int) (u0:Int)
abbrev YD:List SV:=[(.agg (k1 p)),(.agg (A8 s_)),(.agg (k2 t)),(sI b)]
abbrev XC:=((0:Int)≤b∧b<(s_.earthed.length:Int))
abbrev WR:=((gB [((decide ((Oj u1 p)=b)),true)]=true→(0:Int)≤u1∧u1<(s_.on_.length:Int)))
abbrev CK:=((at' p.links u0.toNat).a)
abbrev Eu:=((at' p.links u0.toNat).b)
abbrev aay:=(IntKind.wrap .i64 ((IntKind.wrap .i64 ((CK p u0)+(Eu p u0))) - b))
abbrev U3:=((bif (decide (((at' p.links u0.toNat).kind)=1))then true else(at' s_.closed u0.toNat)),false)
end
theorem DF (p:au) (s_:State) (t:Task) (b:Int):dG Tryz.prog 103 (YD p s_ t b) [] (fun r=>(vB r)) (fun _=>[]) (q8 p s_ t b):=
  dP tT mX Tryz.func103 (
  .rg {fr:=[(0,11),(1,12),(2,13)],fz:=[12,13]} []<| .a1 (XC s_ b)<| .r<| .it (.r<| .e false)
  (.r<| .lp (σ:=Int) (β:=Unit) (0) [] [] ⟨[3,4,5,6,20,21],[11],fun u1=>[(22,(vI u1))],fun u1=>[]⟩ ⟨[3,4,5,6],[11],fun _=>[],fun _=>[]⟩
  (fun u1=> .r<| .it (.a1 (QZ u1 p)<| .rg {fr:=[(3,17)],fz:=[17]} []<| .a1 (WR p s_ b u1)<| .r<| .it (.r<| .e (.done (.ret false)))
  (.r<| .e (.next (k18 u1))))
  (.e (.done (.brk ()))))
  (fun _=> .r<| .lp (σ:=Int) (β:=Unit) (0) [] [] ⟨[3,5,6,40,41],[],fun u0=>[(42,(vI u0))],fun u0=>[]⟩ ⟨[],[],fun _=>[],fun _=>[]⟩
  (fun u0=> .r<| .it (.a1 (TY p u0)<| .rg {fr:=[(3,21)],fz:=[21]} []<| .cg 20 [((bif (!decide ((CK p u0)=b))then(!decide ((Eu p u0)=b))else false),false)] (qG t.crew (aay p b u0)) fun r_=> .r<| .it (.r<| .e (.next (k18 u0)))
  (.a2 ((gB [((decide (((at' p.links u0.toNat).kind)=1)),false)]=true→(0:Int)≤u0∧u0<(s_.closed.length:Int))) ((gB [(U3 p s_ u0)]=true→(0:Int)≤u0∧u0<(s_.locked.length:Int)))<| .rg {} [0,1]<| .it (.r<| .e (.done (.ret false)))
  (.r<| .e (.next (k18 u0)))))
  (.e (.done (.brk ()))))
  (fun _=> .r<| .e true))))
section
variable (x3:(List Int)) (u9:(List Int)) (v0:(List af)) (v1:(List af)) (x2:(List Bool)) (u3:(List Bool)) (u4:(List Bool)) (u5:(List Bool)) (u6:(List Bool)) (u7:(List Bool)) (u8:(List Bool))
abbrev WZ:DV:=(D7 [(O8 x3),(O8 u9),(Ny v0),(Ny v1)] 0)
abbrev qE:=(⟨x2,u3,u4,u5,u6,u7,u8⟩:State)
end
theorem Am (b:Int) (x1:Int) (u0:(List Source)) (u1:(List Link)) (u2:(List aT)) (x2:(List Bool)) (u3:(List Bool)) (u4:(List Bool)) (u5:(List Bool)) (u6:(List Bool)) (u7:(List Bool)) (u8:(List Bool)) (x3:(List Int)) (u9:(List Int)) (v0:(List af)) (v1:(List af)):dG Tryz.prog 102 [(sI b),(sD (k8 u0 x1 u1 u2)),(sD (UO x2 u3 u4 u5 u6 u7 u8)),(sD (WZ x3 u9 v0 v1))] [] (fun r=>(vB r)) (fun _=>[]) (qJ b x1 u0 u1 u2 x2 u3 u4 u5 u6 u7 u8 x3 u9 v0 v1):=
  dP tT mX Tryz.func102 (
  .r<| .cl 4 (DF (⟨x1,u0,u1,u2⟩:au) (qE x2 u3 u4 u5 u6 u7 u8) (⟨x3,u9,v0,v1⟩:Task) b) fun r_=> .r<| .e (!r_))
section
variable (s_:(List Int)) (f_:Int) (u0:(List Source)) (u1:(List Link)) (u2:(List aT)) (u3:(List Bool)) (u4:(List Bool)) (u5:(List Bool)) (u6:(List Bool)) (u7:(List Bool)) (u8:(List Bool)) (u9:(List Bool)) (v0:(List Int)) (v1:(List Int)) (v2:(List af)) (v3:(List af))
abbrev XF:List SV:=[(sD (O8 s_)),(sD (.fn 102 3 (aZ [(k8 u0 f_ u1 u2),(UO u3 u4 u5 u6 u7 u8 u9),(WZ v0 v1 v2 v3)])))]
end
theorem rC (s_:(List Int)) (f_:Int) (u0:(List Source)) (u1:(List Link)) (u2:(List aT)) (u3:(List Bool)) (u4:(List Bool)) (u5:(List Bool)) (u6:(List Bool)) (u7:(List Bool)) (u8:(List Bool)) (u9:(List Bool)) (v0:(List Int)) (v1:(List Int)) (v2:(List af)) (v3:(List af)):dG Tryz.prog 132 (XF s_ f_ u0 u1 u2 u3 u4 u5 u6 u7 u8 u9 v0 v1 v2 v3) [] (fun r=>(vI r)) (fun _=>[]) (jg s_ f_ u0 u1 u2 u3 u4 u5 u6 u7 u8 u9 v0 v1 v2 v3):=
  dP tT mX Tryz.func132 (
  .r<| .r<| .lp (σ:=Int) (β:=Unit) (0) [] [] ⟨[0,1,7],[],fun t8=>[(8,(vI t8))],fun t8=>[]⟩ ⟨[],[],fun _=>[],fun _=>[]⟩
  (fun t8=> .r<| .it (.r<| .cl 5 (Am (at' s_ t8.toNat) f_ u0 u1 u2 u3 u4 u5 u6 u7 u8 u9 v0 v1 v2 v3) fun r_=> .a1 (Ro s_ t8)<| .rg {} [0,1]<| .it (.r<| .e (.done (.ret t8)))
  (.r<| .e (.next (k18 t8))))
  (.e (.done (.brk ()))))
  (fun _=> .r<| .e (-1)))
theorem qC (s_:(List Int)) (f_:Int) (u0:(List Source)) (u1:(List Link)) (u2:(List aT)) (u3:(List Bool)) (u4:(List Bool)) (u5:(List Bool)) (u6:(List Bool)) (u7:(List Bool)) (u8:(List Bool)) (u9:(List Bool)) (v0:(List Int)) (v1:(List Int)) (v2:(List af)) (v3:(List af)):dG Tryz.prog 97 (XF s_ f_ u0 u1 u2 u3 u4 u5 u6 u7 u8 u9 v0 v1 v2 v3) [] (fun r=>(vB r)) (fun _=>[]) (eU s_ f_ u0 u1 u2 u3 u4 u5 u6 u7 u8 u9 v0 v1 v2 v3):=
  dP tT mX Tryz.func97 (
  .r<| .cl 2 (rC s_ f_ u0 u1 u2 u3 u4 u5 u6 u7 u8 u9 v0 v1 v2 v3) fun r_=> .r<| .e (decide (0≤r_)))
section
variable (p:au) (s_:State) (t:Task)
abbrev UL:List SV:=[(.agg (k1 p)),(.agg (A8 s_)),(.agg (k2 t))]
end
theorem wE (p:au) (s_:State) (t:Task):dG Tryz.prog 64 (UL p s_ t) [] (fun r=>(vI r)) (fun _=>[]) (nu p s_ t):=
  dP tT mX Tryz.func64 (
  .rg {fr:=[(0,5),(1,6),(2,7)],fz:=[5,6,7]} []<| .cl 2 (DK p s_) fun r_=> .r<| .r<| .lp (σ:=Int) (β:=Unit) (0) [] [] ⟨[3,4,5,21,22],[],fun u0=>[(23,(vI u0))],fun u0=>[]⟩ ⟨[3,4,5],[],fun _=>[],fun _=>[]⟩
  (fun u0=> .r<| .it (.a1 ((0:Int)≤u0∧u0<(r_.1.length:Int))<| .r<| .a1 ((gB [((at' r_.1 u0.toNat),true)]=true→(0:Int)≤u0∧u0<(s_.earthed.length:Int)))<| .r<| .it (.r<| .e (.done (.ret 40)))
  (.r<| .e (.next (k18 u0))))
  (.e (.done (.brk ()))))
  (fun _=> .cl 2 (Aj p s_) fun u2=> .r<| .r<| .it (.r<| .e 41)
  (.cl 2 (dY [(0,8)] (Bn p s_)) fun u1=> .rg {fr:=[(6,9)],fz:=[8]} []<| .fz [9]<| .cl 3 (qy t.fed u1.1) fun u3=> .r<| .it (.r<| .e 42)
  (.cl 3 (qC t.crew p.buses p.sources p.links p.racks s_.closed s_.locked s_.badLink s_.on_ s_.badSource s_.earthed s_.badBus t.fed t.crew t.allowed t.goal) fun u4=> .r<| .it (.r<| .e 45)
  (.r<| .e 0)))))
theorem fG (p:au) (s_:State) (t:Task):dG Tryz.prog 23 (UL p s_ t) [] (fun r=>(vI r)) (fun _=>[]) (eD p s_ t):=
  dP tT mX Tryz.func23 (
  .rg {fr:=[(0,3),(1,4),(2,5)],fz:=[3,4,5]} []<| .cl 2 (bZ p s_) fun r_=> .r<| .r<| .it (.r<| .e r_)
  (.cl 2 (uE p t) fun u1=> .r<| .it (.r<| .e 1)
  (.cl 3 (wE p s_ t) fun u0=> .r<| .e u0)))
section
variable (s_:State)
abbrev UH:List SV:=[(.agg (A8 s_))]
abbrev V9:=(Gc 280 (List.replicate 280 false) 0 s_.closed (Nat.min s_.closed.length 280))
abbrev Xt:=(aA ai (V9 s_))
abbrev Vt:=(Gc 280 (V9 s_) 40 s_.locked (Nat.min s_.locked.length 240))
abbrev WQ:=(aA ai (Vt s_))
abbrev U1:=(Gc 280 (Vt s_) 80 s_.badLink (Nat.min s_.badLink.length 200))
abbrev Wt:=(aA ai (U1 s_))
abbrev VU:=(Gc 280 (U1 s_) 120 s_.on_ (Nat.min s_.on_.length 160))
abbrev WU:=(aA ai (VU s_))
abbrev VH:=(Gc 280 (VU s_) 160 s_.badSource (Nat.min s_.badSource.length 120))
abbrev YC:=(aA ai (VH s_))
abbrev VA:=(Gc 280 (VH s_) 200 s_.earthed (Nat.min s_.earthed.length 80))
abbrev Xd:=(aA ai (VA s_))
abbrev YF:=(Gc 280 (VA s_) 240 s_.badBus (Nat.min s_.badBus.length 40))
end
theorem pQ (s_:State):dG Tryz.prog 61 (UH s_) [] (fun r=>(.v (.agg (Z9 280 r)))) (fun _=>[]) (nI s_):=
  dP tT mX Tryz.func61 (
  .rg {fr:=[(0,10),(1,11)],fz:=[10]} []<| .rg {an:=[(0, .arr 280 (aA ai (List.replicate 280 false)))],fr:=[(0,12)]} [.e (280), .pf ⟨aM 280 1 (fun i _=>(List.replicate 280 (DV.bool false)).getD i .nilp) (aA ai (List.replicate 280 false)),UY 280⟩]<| .r<| .ul 11<| .r<| .t<| .rg {an:=[(1, .vals [(bg none 1 ai s_.closed)])]} [.pf ⟨(0:Int)≤0∧(0:Int)<(7:Nat),(by decide)⟩, .pf ⟨0*1+1≤(A8 s_).length,Nat.le_of_ble_eq_true rfl⟩, .pf ⟨((A8 s_).drop (0*1)).take 1=[(bg none 1 ai s_.closed)].map .d,rfl⟩]<| .rg {an:=[(4, .take 12)],fr:=[(2,13)]} [.e (280), .pf ⟨(0:Int)≤(0:Int)∧(0:Int)<(280:Nat),(by decide)⟩, .e (280)]<| .im (.uh 12 (some (.arr 115 1 280 (Ai (aA ai (List.replicate 280 false)) 0 (aA ai s_.closed) (Nat.min s_.closed.length 280)))) (some (.arr 115 1 280 (Xt s_))) (tN (Nb 280 (List.replicate 280 false) 0 s_.closed (Nat.min s_.closed.length 280))))<| .r<| .im (.dp [2,3,20,21])<| .r<| .t<| .rg {an:=[(1, .vals [(WJ s_)])]} [.pf ⟨(0:Int)≤1∧(1:Int)<(7:Nat),(by decide)⟩, .pf ⟨1*1+1≤(A8 s_).length,Nat.le_of_ble_eq_true rfl⟩, .pf ⟨((A8 s_).drop (1*1)).take 1=[(WJ s_)].map .d,rfl⟩]<| .rg {an:=[(4, .take 12)],fr:=[(2,14)]} [.e (280), .pf ⟨(0:Int)≤(40:Int)∧(40:Int)<(280:Nat),(by decide)⟩, .e (240)]<| .im (.uh 12 (some (.arr 115 1 280 (Ai (Xt s_) 40 (aA ai s_.locked) (Nat.min s_.locked.length 240)))) (some (.arr 115 1 280 (WQ s_))) (tN (Nb 280 (V9 s_) 40 s_.locked (Nat.min s_.locked.length 240))))<| .r<| .im (.dp [2,3,20,21])<| .r<| .t<| .rg {an:=[(1, .vals [(Xw s_)])]} [.pf ⟨(0:Int)≤2∧(2:Int)<(7:Nat),(by decide)⟩, .pf ⟨2*1+1≤(A8 s_).length,Nat.le_of_ble_eq_true rfl⟩, .pf ⟨((A8 s_).drop (2*1)).take 1=[(Xw s_)].map .d,rfl⟩]<| .rg {an:=[(4, .take 12)],fr:=[(2,15)]} [.e (280), .pf ⟨(0:Int)≤(80:Int)∧(80:Int)<(280:Nat),(by decide)⟩, .e (200)]<| .im (.uh 12 (some (.arr 115 1 280 (Ai (WQ s_) 80 (aA ai s_.badLink) (Nat.min s_.badLink.length 200)))) (some (.arr 115 1 280 (Wt s_))) (tN (Nb 280 (Vt s_) 80 s_.badLink (Nat.min s_.badLink.length 200))))<| .r<| .im (.dp [2,3,20,21])<| .r<| .t<| .rg {an:=[(1, .vals [(WC s_)])]} [.pf ⟨(0:Int)≤3∧(3:Int)<(7:Nat),(by decide)⟩, .pf ⟨3*1+1≤(A8 s_).length,Nat.le_of_ble_eq_true rfl⟩, .pf ⟨((A8 s_).drop (3*1)).take 1=[(WC s_)].map .d,rfl⟩]<| .rg {an:=[(4, .take 12)],fr:=[(2,16)]} [.e (280), .pf ⟨(0:Int)≤(120:Int)∧(120:Int)<(280:Nat),(by decide)⟩, .e (160)]<| .im (.uh 12 (some (.arr 115 1 280 (Ai (Wt s_) 120 (aA ai s_.on_) (Nat.min s_.on_.length 160)))) (some (.arr 115 1 280 (WU s_))) (tN (Nb 280 (U1 s_) 120 s_.on_ (Nat.min s_.on_.length 160))))<| .r<| .im (.dp [2,3,20,21])<| .r<| .t<| .rg {an:=[(1, .vals [(Xr s_)])]} [.pf ⟨(0:Int)≤4∧(4:Int)<(7:Nat),(by decide)⟩, .pf ⟨4*1+1≤(A8 s_).length,Nat.le_of_ble_eq_true rfl⟩, .pf ⟨((A8 s_).drop (4*1)).take 1=[(Xr s_)].map .d,rfl⟩]<| .rg {an:=[(4, .take 12)],fr:=[(2,17)]} [.e (280), .pf ⟨(0:Int)≤(160:Int)∧(160:Int)<(280:Nat),(by decide)⟩, .e (120)]<| .im (.uh 12 (some (.arr 115 1 280 (Ai (WU s_) 160 (aA ai s_.badSource) (Nat.min s_.badSource.length 120)))) (some (.arr 115 1 280 (YC s_))) (tN (Nb 280 (VU s_) 160 s_.badSource (Nat.min s_.badSource.length 120))))<| .r<| .im (.dp [2,3,20,21])<| .r<| .t<| .rg {an:=[(1, .vals [(Xn s_)])]} [.pf ⟨(0:Int)≤5∧(5:Int)<(7:Nat),(by decide)⟩, .pf ⟨5*1+1≤(A8 s_).length,Nat.le_of_ble_eq_true rfl⟩, .pf ⟨((A8 s_).drop (5*1)).take 1=[(Xn s_)].map .d,rfl⟩]<| .rg {an:=[(4, .take 12)],fr:=[(2,18)]} [.e (280), .pf ⟨(0:Int)≤(200:Int)∧(200:Int)<(280:Nat),(by decide)⟩, .e (80)]<| .im (.uh 12 (some (.arr 115 1 280 (Ai (YC s_) 200 (aA ai s_.earthed) (Nat.min s_.earthed.length 80)))) (some (.arr 115 1 280 (Xd s_))) (tN (Nb 280 (VH s_) 200 s_.earthed (Nat.min s_.earthed.length 80))))<| .r<| .im (.dp [2,3,20,21])<| .r<| .t<| .rg {an:=[(1, .vals [(Xu s_)])]} [.pf ⟨(0:Int)≤6∧(6:Int)<(7:Nat),(by decide)⟩, .pf ⟨6*1+1≤(A8 s_).length,Nat.le_of_ble_eq_true rfl⟩, .pf ⟨((A8 s_).drop (6*1)).take 1=[(Xu s_)].map .d,rfl⟩]<| .rg {an:=[(4, .take 12)],fr:=[(2,19)]} [.e (280), .pf ⟨(0:Int)≤(240:Int)∧(240:Int)<(280:Nat),(by decide)⟩, .e (40)]<| .im (.uh 12 (some (.arr 115 1 280 (Ai (Xd s_) 240 (aA ai s_.badBus) (Nat.min s_.badBus.length 40)))) (some (.arr 115 1 280 (aA ai (YF s_)))) (tN (Nb 280 (VA s_) 240 s_.badBus (Nat.min s_.badBus.length 40))))<| .r<| .im (.dp [2,3,20,21])<| .r<| .f<| .rg {fz:=[11]} [.pf ⟨0+280≤280,(by decide)⟩, .pf ⟨1≤280,(by decide)⟩]<| .e (YF s_))
theorem uF (s_:(List Bool)) (u0:Bool):dG Tryz.prog 91 [(sD (bg (some u0) 1 ai s_))] [] (fun r=>(vD (bg none 1 ai r))) (fun _=>[]) (o9 s_ u0):=
  dP tT mX Tryz.func91 (
  .r<| .r<| .it (.r<| .e ([]:List Bool))
  (.a2 ((([]:List Bool).length+s_.length)*1≤140737488355328) (([]:List Bool).length+s_.length≤4611686018427387904)<| .rg {an:=[(0, .arr ([]:List Bool).length (aA ai ([]:List Bool))),(2, .arr (([]:List Bool)++s_).length (aA ai (([]:List Bool)++s_)))],fr:=[(0,2),(2,3)],fz:=[3]} [.pf ⟨([]:List Bool).length=0,rfl⟩, .pf ⟨aM 0 1 (uM 1 []) (aA ai ([]:List Bool)),(fun i hi=>absurd hi (Nat.not_lt_zero i))⟩, .e (([]:List Bool).length),0,1, .pf ⟨(([]:List Bool)++s_).length=([]:List Bool).length+s_.length,List.length_append⟩, .pf ⟨aM (([]:List Bool).length+s_.length) 1 (zI (aA ai ([]:List Bool)) ([]:List Bool).length (aA ai s_)) (aA ai (([]:List Bool)++s_)),jI _ _ _ _⟩]<| .e (([]:List Bool)++s_)))
theorem dX (s:(List Bool)) {r:(List Bool)} (h:aj s=some r):Fn Tryz.prog 91 [(sD (bg none 1 ai s))] [] (vD (bg none 1 ai r)) []:=by
 refine Fn.nn (uF s true h) fun hl=> ?_
 have hs:s=[]:=List.eq_nil_of_length_eq_zero hl
 subst hs
 exact uF [] false (by rw [←h];kernel_rfl)
theorem tO (s_:State):dG Tryz.prog 53 (UH s_) [] (fun r=>(.v (.agg [(.d (bg none 1 ai r.closed)),(.d (bg none 1 ai r.locked)),(.d (bg none 1 ai r.badLink)),(.d (bg none 1 ai r.on_)),(.d (bg none 1 ai r.badSource)),(.d (bg none 1 ai r.earthed)),(.d (bg none 1 ai r.badBus))]))) (fun _=>[]) (jL s_):=
  dP tT mX Tryz.func53 (
  .rg {fr:=[(0,3),(1,4)]} []<| .rg {an:=[(7, .cells)],fr:=[(7,5)]} []<| .ul 11<| .r<| .t<| .a1 ((0:Int)≤0∧0<(7:Int))<| .r<| .cl 4 ⟨fun h=>dX s_.closed h⟩ fun r_=> .r<| .r<| .im (.dp [1,2,12,13,14])<| .r<| .t<| .a1 ((0:Int)≤1∧1<(7:Int))<| .r<| .cl 4 ⟨fun h=>dX s_.locked h⟩ fun u0=> .r<| .r<| .im (.dp [1,2,12,13,14])<| .r<| .t<| .a1 ((0:Int)≤2∧2<(7:Int))<| .r<| .cl 4 ⟨fun h=>dX s_.badLink h⟩ fun u1=> .r<| .r<| .im (.dp [1,2,12,13,14])<| .r<| .t<| .a1 ((0:Int)≤3∧3<(7:Int))<| .r<| .cl 4 ⟨fun h=>dX s_.on_ h⟩ fun u2=> .r<| .r<| .im (.dp [1,2,12,13,14])<| .r<| .t<| .a1 ((0:Int)≤4∧4<(7:Int))<| .r<| .cl 4 ⟨fun h=>dX s_.badSource h⟩ fun u3=> .r<| .r<| .im (.dp [1,2,12,13,14])<| .r<| .t<| .a1 ((0:Int)≤5∧5<(7:Int))<| .r<| .cl 4 ⟨fun h=>dX s_.earthed h⟩ fun u4=> .r<| .r<| .im (.dp [1,2,12,13,14])<| .r<| .t<| .a1 ((0:Int)≤6∧6<(7:Int))<| .r<| .cl 4 ⟨fun h=>dX s_.badBus h⟩ fun u5=> .r<| .r<| .im (.dp [1,2,12,13,14])<| .r<| .f<| .rg {fz:=[4]} []<| .e (qE r_ u0 u1 u2 u3 u4 u5))
end
end Sg
