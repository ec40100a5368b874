import Derived.Test.YtboodeobmgjjpaaGreatPrGm
import Derived.Test.YtboodeobmgjjpaaGreatProg
import Derived.Test.YtboodeobmgjjpaaGreatPrLd
set_option linter.all false
namespace Sg
open Go Go.Proofs
set_option maxRecDepth 20000
noncomputable section
noncomputable def TT:List (Nat × TI):=[(3,⟨Tryz.t3.desc,Tryz.t3.size,Tryz.t3.bytes,zl Tryz.t3,false⟩),
  (4,⟨Tryz.t4.desc,Tryz.t4.size,Tryz.t4.bytes,zl Tryz.t4,false⟩),
  (22,⟨Tryz.t22.desc,Tryz.t22.size,Tryz.t22.bytes,zl Tryz.t22,false⟩),
  (23,⟨Tryz.t23.desc,Tryz.t23.size,Tryz.t23.bytes,zl Tryz.t23,false⟩),
  (24,⟨Tryz.t24.desc,Tryz.t24.size,Tryz.t24.bytes,zl Tryz.t24,false⟩),
  (26,⟨Tryz.t25.desc,Tryz.t26.size,Tryz.t26.bytes,zl Tryz.t26,false⟩),
  (27,⟨Tryz.t27.desc,Tryz.t27.size,Tryz.t27.bytes,zl Tryz.t27,false⟩),
  (29,⟨Tryz.t28.desc,Tryz.t29.size,Tryz.t29.bytes,zl Tryz.t29,false⟩),
  (30,⟨Tryz.t30.desc,Tryz.t30.size,Tryz.t30.bytes,zl Tryz.t30,false⟩),
  (31,⟨Tryz.t31.desc,Tryz.t31.size,Tryz.t31.bytes,zl Tryz.t31,false⟩),
  (33,⟨Tryz.t32.desc,Tryz.t33.size,Tryz.t33.bytes,zl Tryz.t33,false⟩),
  (36,⟨Tryz.t36.desc,Tryz.t36.size,Tryz.t36.bytes,zl Tryz.t36,false⟩),
  (37,⟨Tryz.t3.desc,Tryz.t37.size,Tryz.t37.bytes,zl Tryz.t37,false⟩),
  (40,⟨Tryz.t32.desc,Tryz.t40.size,Tryz.t40.bytes,zl Tryz.t40,false⟩),
  (52,⟨Tryz.t3.desc,Tryz.t52.size,Tryz.t52.bytes,zl Tryz.t52,false⟩),
  (53,⟨Tryz.t53.desc,Tryz.t53.size,Tryz.t53.bytes,zl Tryz.t53,false⟩),
  (55,⟨Tryz.t54.desc,Tryz.t55.size,Tryz.t55.bytes,zl Tryz.t55,false⟩),
  (56,⟨Tryz.t3.desc,Tryz.t56.size,Tryz.t56.bytes,zl Tryz.t56,false⟩),
  (58,⟨Tryz.t57.desc,Tryz.t58.size,Tryz.t58.bytes,zl Tryz.t58,true⟩),
  (59,⟨Tryz.t3.desc,Tryz.t59.size,Tryz.t59.bytes,zl Tryz.t59,false⟩),
  (61,⟨Tryz.t60.desc,Tryz.t61.size,Tryz.t61.bytes,zl Tryz.t61,true⟩),
  (72,⟨Tryz.t72.desc,Tryz.t72.size,Tryz.t72.bytes,zl Tryz.t72,false⟩),
  (75,⟨Tryz.t75.desc,Tryz.t75.size,Tryz.t75.bytes,zl Tryz.t75,false⟩),
  (78,⟨Tryz.t78.desc,Tryz.t78.size,Tryz.t78.bytes,zl Tryz.t78,true⟩),
  (99,⟨Tryz.t99.desc,Tryz.t99.size,Tryz.t99.bytes,zl Tryz.t99,false⟩),
  (100,⟨Tryz.t100.desc,Tryz.t100.size,Tryz.t100.bytes,zl Tryz.t100,false⟩),
  (101,⟨Tryz.t101.desc,Tryz.t101.size,Tryz.t101.bytes,zl Tryz.t101,false⟩),
  (103,⟨Tryz.t102.desc,Tryz.t103.size,Tryz.t103.bytes,zl Tryz.t103,false⟩),
  (112,⟨Tryz.t112.desc,Tryz.t112.size,Tryz.t112.bytes,zl Tryz.t112,false⟩),
  (115,⟨Tryz.t114.desc,Tryz.t115.size,Tryz.t115.bytes,zl Tryz.t115,true⟩),
  (117,⟨Tryz.t117.desc,Tryz.t117.size,Tryz.t117.bytes,zl Tryz.t117,true⟩),
  (119,⟨Tryz.t118.desc,Tryz.t119.size,Tryz.t119.bytes,zl Tryz.t119,true⟩),
  (126,⟨Tryz.t126.desc,Tryz.t126.size,Tryz.t126.bytes,zl Tryz.t126,false⟩),
  (129,⟨Tryz.t128.desc,Tryz.t129.size,Tryz.t129.bytes,zl Tryz.t129,false⟩),
  (133,⟨Tryz.t133.desc,Tryz.t133.size,Tryz.t133.bytes,zl Tryz.t133,false⟩),
  (145,⟨Tryz.t145.desc,Tryz.t145.size,Tryz.t145.bytes,zl Tryz.t145,false⟩),
  (147,⟨Tryz.t146.desc,Tryz.t147.size,Tryz.t147.bytes,zl Tryz.t147,false⟩),
  (148,⟨Tryz.t148.desc,Tryz.t148.size,Tryz.t148.bytes,zl Tryz.t148,false⟩),
  (149,⟨Tryz.t149.desc,Tryz.t149.size,Tryz.t149.bytes,zl Tryz.t149,false⟩),
  (154,⟨Tryz.t154.desc,Tryz.t154.size,Tryz.t154.bytes,zl Tryz.t154,false⟩),
  (155,⟨Tryz.t155.desc,Tryz.t155.size,Tryz.t155.bytes,zl Tryz.t155,false⟩),
  (165,⟨Tryz.t165.desc,Tryz.t165.size,Tryz.t165.bytes,zl Tryz.t165,false⟩),
  (167,⟨Tryz.t166.desc,Tryz.t167.size,Tryz.t167.bytes,zl Tryz.t167,false⟩),
  (168,⟨Tryz.t168.desc,Tryz.t168.size,Tryz.t168.bytes,zl Tryz.t168,false⟩),
  (170,⟨Tryz.t170.desc,Tryz.t170.size,Tryz.t170.bytes,zl Tryz.t170,false⟩),
  (172,⟨Tryz.t171.desc,Tryz.t172.size,Tryz.t172.bytes,zl Tryz.t172,false⟩),
  (182,⟨Tryz.t182.desc,Tryz.t182.size,Tryz.t182.bytes,zl Tryz.t182,false⟩),
  (184,⟨Tryz.t183.desc,Tryz.t184.size,Tryz.t184.bytes,zl Tryz.t184,false⟩),
  (185,⟨Tryz.t185.desc,Tryz.t185.size,Tryz.t185.bytes,zl Tryz.t185,false⟩),
  (193,⟨Tryz.t193.desc,Tryz.t193.size,Tryz.t193.bytes,zl Tryz.t193,false⟩),
  (196,⟨Tryz.t196.desc,Tryz.t196.size,Tryz.t196.bytes,zl Tryz.t196,false⟩),
  (199,⟨Tryz.t199.desc,Tryz.t199.size,Tryz.t199.bytes,zl Tryz.t199,false⟩),
  (220,⟨Tryz.t219.desc,Tryz.t220.size,Tryz.t220.bytes,zl Tryz.t220,true⟩)]
theorem tT:rP Tryz.prog TT:=⟨fV (by kernel_rfl) (by kernel_rfl) (by kernel_rfl),⟨iJ,dB (by kernel_rfl)⟩,fV (by kernel_rfl) (by kernel_rfl) (by kernel_rfl),⟨iJ,dB (by kernel_rfl)⟩,fV (by kernel_rfl) (by kernel_rfl) (by kernel_rfl),⟨iJ,dB (by kernel_rfl)⟩,fV (by kernel_rfl) (by kernel_rfl) (by kernel_rfl),⟨iJ,dB (by kernel_rfl)⟩,fV (by kernel_rfl) (by kernel_rfl) (by kernel_rfl),⟨iJ,dB (by kernel_rfl)⟩,fV (by kernel_rfl) (by kernel_rfl) (by kernel_rfl),⟨iJ,dB (by kernel_rfl)⟩,fV (by kernel_rfl) (by kernel_rfl) (by kernel_rfl),⟨iJ,dB (by kernel_rfl)⟩,fV (by kernel_rfl) (by kernel_rfl) (by kernel_rfl),⟨iJ,dB (by kernel_rfl)⟩,fV (by kernel_rfl) (by kernel_rfl) (by kernel_rfl),⟨iJ,dB (by kernel_rfl)⟩,fV (by kernel_rfl) (by kernel_rfl) (by kernel_rfl),⟨iJ,dB (by kernel_rfl)⟩,fV (by kernel_rfl) (by kernel_rfl) (by kernel_rfl),⟨iJ,dB (by kernel_rfl)⟩,fV (by kernel_rfl) (by kernel_rfl) (by kernel_rfl),⟨iJ,dB (by kernel_rfl)⟩,fV (by kernel_rfl) (by kernel_rfl) (by kernel_rfl),⟨iJ,dB (by kernel_rfl)⟩,fV (by kernel_rfl) (by kernel_rfl) (by kernel_rfl),⟨iJ,dB (by kernel_rfl)⟩,fV (by kernel_rfl) (by kernel_rfl) (by kernel_rfl),⟨iJ,dB (by kernel_rfl)⟩,fV (by kernel_rfl) (by kernel_rfl) (by kernel_rfl),⟨iJ,dB (by kernel_rfl)⟩,fV (by kernel_rfl) (by kernel_rfl) (by kernel_rfl),⟨iJ,dB (by kernel_rfl)⟩,fV (by kernel_rfl) (by kernel_rfl) (by kernel_rfl),⟨iJ,dB (by kernel_rfl)⟩,fV (by kernel_rfl) (by kernel_rfl) (by kernel_rfl),⟨fun _=> ⟨by kernel_rfl,by kernel_rfl⟩,dB (by kernel_rfl)⟩,fV (by kernel_rfl) (by kernel_rfl) (by kernel_rfl),⟨iJ,dB (by kernel_rfl)⟩,fV (by kernel_rfl) (by kernel_rfl) (by kernel_rfl),⟨fun _=> ⟨by kernel_rfl,by kernel_rfl⟩,dB (by kernel_rfl)⟩,fV (by kernel_rfl) (by kernel_rfl) (by kernel_rfl),⟨iJ,dB (by kernel_rfl)⟩,fV (by kernel_rfl) (by kernel_rfl) (by kernel_rfl),⟨iJ,dB (by kernel_rfl)⟩,fV (by kernel_rfl) (by kernel_rfl) (by kernel_rfl),⟨fun _=> ⟨by kernel_rfl,by kernel_rfl⟩,dB (by kernel_rfl)⟩,fV (by kernel_rfl) (by kernel_rfl) (by kernel_rfl),⟨iJ,dB (by kernel_rfl)⟩,fV (by kernel_rfl) (by kernel_rfl) (by kernel_rfl),⟨iJ,dB (by kernel_rfl)⟩,fV (by kernel_rfl) (by kernel_rfl) (by kernel_rfl),⟨iJ,dB (by kernel_rfl)⟩,fV (by kernel_rfl) (by kernel_rfl) (by kernel_rfl),⟨iJ,dB (by kernel_rfl)⟩,fV (by kernel_rfl) (by kernel_rfl) (by kernel_rfl),⟨iJ,dB (by kernel_rfl)⟩,fV (by kernel_rfl) (by kernel_rfl) (by kernel_rfl),⟨fun _=> ⟨by kernel_rfl,by kernel_rfl⟩,dB (by kernel_rfl)⟩,fV (by kernel_rfl) (by kernel_rfl) (by kernel_rfl),⟨fun _=> ⟨by kernel_rfl,by kernel_rfl⟩,dB (by kernel_rfl)⟩,fV (by kernel_rfl) (by kernel_rfl) (by kernel_rfl),⟨fun _=> ⟨by kernel_rfl,by kernel_rfl⟩,dB (by kernel_rfl)⟩,fV (by kernel_rfl) (by kernel_rfl) (by kernel_rfl),⟨iJ,dB (by kernel_rfl)⟩,fV (by kernel_rfl) (by kernel_rfl) (by kernel_rfl),⟨iJ,dB (by kernel_rfl)⟩,fV (by kernel_rfl) (by kernel_rfl) (by kernel_rfl),⟨iJ,dB (by kernel_rfl)⟩,fV (by kernel_rfl) (by kernel_rfl) (by kernel_rfl),⟨iJ,dB (by kernel_rfl)⟩,fV (by kernel_rfl) (by kernel_rfl) (by kernel_rfl),⟨iJ,dB (by kernel_rfl)⟩,fV (by kernel_rfl) (by kernel_rfl) (by kernel_rfl),⟨iJ,dB (by kernel_rfl)⟩,fV (by kernel_rfl) (by kernel_rfl) (by kernel_rfl),⟨iJ,dB (by kernel_rfl)⟩,fV (by kernel_rfl) (by kernel_rfl) (by kernel_rfl),⟨iJ,dB (by kernel_rfl)⟩,fV (by kernel_rfl) (by kernel_rfl) (by kernel_rfl),⟨iJ,dB (by kernel_rfl)⟩,fV (by kernel_rfl) (by kernel_rfl) (by kernel_rfl),⟨iJ,dB (by kernel_rfl)⟩,fV (by kernel_rfl) (by kernel_rfl) (by kernel_rfl),⟨iJ,dB (by kernel_rfl)⟩,fV (by kernel_rfl) (by kernel_rfl) (by kernel_rfl),⟨iJ,dB (by kernel_rfl)⟩,fV (by kernel_rfl) (by kernel_rfl) (by kernel_rfl),⟨iJ,dB (by kernel_rfl)⟩,fV (by kernel_rfl) (by kernel_rfl) (by kernel_rfl),⟨iJ,dB (by kernel_rfl)⟩,fV (by kernel_rfl) (by kernel_rfl) (by kernel_rfl),⟨iJ,dB (by kernel_rfl)⟩,fV (by kernel_rfl) (by kernel_rfl) (by kernel_rfl),⟨iJ,dB (by kernel_rfl)⟩,fV (by kernel_rfl) (by kernel_rfl) (by kernel_rfl),⟨iJ,dB (by kernel_rfl)⟩,fV (by kernel_rfl) (by kernel_rfl) (by kernel_rfl),⟨iJ,dB (by kernel_rfl)⟩,fV (by kernel_rfl) (by kernel_rfl) (by kernel_rfl),⟨iJ,dB (by kernel_rfl)⟩,fV (by kernel_rfl) (by kernel_rfl) (by kernel_rfl),⟨iJ,dB (by kernel_rfl)⟩,fV (by kernel_rfl) (by kernel_rfl) (by kernel_rfl),⟨fun _=> ⟨by kernel_rfl,by kernel_rfl⟩,dB (by kernel_rfl)⟩,trivial⟩
theorem mX:Tryz.prog.follows .mixedOrders=true:=by kernel_rfl
def Jr:Go.Shelf.Ren:=⟨fun|6=>76|14=>116|15=>117|20=>144|21=>145|22=>146|23=>147|24=>148|25=>149|26=>150|27=>151|28=>152|29=>153|46=>176|47=>177|48=>178|49=>179|50=>180|57=>184|n=>n,fun|0=>0|3=>3|4=>4|5=>5|9=>9|22=>75|24=>117|25=>132|39=>181|45=>205|46=>206|50=>178|53=>212|55=>214|66=>228|70=>232|76=>237|77=>238|n=>n,fun n=>n⟩
theorem Qd:Go.Proofs.SlLaysF0.n6 Tryz.prog Jr:=⟨by kernel_rfl,⟨Tryz.f76.name,by kernel_rfl,Tryz.func76.trans (congrArg some (by kernel_rfl))⟩,⟨Tryz.f116.name,by kernel_rfl,Tryz.func116.trans (congrArg some (by kernel_rfl))⟩,Tryz.func117.trans (congrArg some (by kernel_rfl)),⟨Tryz.f144.name,by kernel_rfl,Tryz.func144.trans (congrArg some (by kernel_rfl))⟩,⟨Tryz.f145.name,by kernel_rfl,Tryz.func145.trans (congrArg some (by kernel_rfl))⟩,⟨Tryz.f146.name,by kernel_rfl,Tryz.func146.trans (congrArg some (by kernel_rfl))⟩,⟨Tryz.f147.name,by kernel_rfl,Tryz.func147.trans (congrArg some (by kernel_rfl))⟩,⟨Tryz.f148.name,by kernel_rfl,Tryz.func148.trans (congrArg some (by kernel_rfl))⟩,⟨Tryz.f149.name,by kernel_rfl,Tryz.func149.trans (congrArg some (by kernel_rfl))⟩,⟨Tryz.f150.name,by kernel_rfl,Tryz.func150.trans (congrArg some (by kernel_rfl))⟩,⟨Tryz.f151.name,by kernel_rfl,Tryz.func151.trans (congrArg some (by kernel_rfl))⟩,Tryz.func152.trans (congrArg some (by kernel_rfl)),Tryz.func153.trans (congrArg some (by kernel_rfl)),⟨Tryz.f176.name,by kernel_rfl,Tryz.func176.trans (congrArg some (by kernel_rfl))⟩,Tryz.func177.trans (congrArg some (by kernel_rfl)),Tryz.func178.trans (congrArg some (by kernel_rfl)),⟨Tryz.f179.name,by kernel_rfl,Tryz.func179.trans (congrArg some (by kernel_rfl))⟩,⟨Tryz.f180.name,by kernel_rfl,Tryz.func180.trans (congrArg some (by kernel_rfl))⟩,⟨Tryz.f184.name,by kernel_rfl,Tryz.func184.trans (congrArg some (by kernel_rfl))⟩,Tryz.underlying0,Tryz.isAgg0,Tryz.sizeOf0,Tryz.zeroValue0,Tryz.underlying3,Tryz.isAgg3,Tryz.sizeOf3,Tryz.zeroValue3,Tryz.underlying4,Tryz.isAgg4,Tryz.sizeOf4,Tryz.zeroValue4,Tryz.underlying5,Tryz.isAgg5,Tryz.sizeOf5,Tryz.zeroValue5,Tryz.underlying9,Tryz.isAgg9,Tryz.sizeOf9,Tryz.zeroValue9,Tryz.underlying75,Tryz.isAgg75,Tryz.sizeOf75,Tryz.zeroValue75,Tryz.underlying132,Tryz.isAgg132,Tryz.sizeOf132,Tryz.zeroValue132,Tryz.underlying181,Tryz.isAgg181,Tryz.sizeOf181,Tryz.zeroValue181,Tryz.underlying205,Tryz.isAgg205,Tryz.sizeOf205,Tryz.zeroValue205,Tryz.underlying206,Tryz.isAgg206,Tryz.sizeOf206,Tryz.zeroValue206,Tryz.underlying178,Tryz.isAgg178,Tryz.sizeOf178,Tryz.zeroValue178,Tryz.underlying212,Tryz.isAgg212,Tryz.sizeOf212,Tryz.zeroValue212,Tryz.underlying214,Tryz.isAgg214,Tryz.sizeOf214,Tryz.zeroValue214,Tryz.underlying228,Tryz.isAgg228,Tryz.sizeOf228,Tryz.zeroValue228,Tryz.underlying232,Tryz.isAgg232,Tryz.sizeOf232,Tryz.zeroValue232,Tryz.underlying237,Tryz.isAgg237,Tryz.sizeOf237,Tryz.zeroValue237,Tryz.underlying238,Tryz.isAgg238,Tryz.sizeOf238,Tryz.zeroValue238⟩
theorem Us (w:World):(isAgg (Jr.t 24)).run Tryz.prog w= .ok true w:=Tryz.isAgg117 w
theorem QB (w:World):(Go.sizeOf (Jr.t 24)).run Tryz.prog w= .ok 2 w:=Tryz.sizeOf117 w
section
variable (p:au) (t:Task)
abbrev k1:List CV:=[(cI p.buses),(.d (aZ none 5 Source.cell p.sources)),(.d (aZ none 6 Link.cell p.links)),(.d (aZ none 4 aV.cell p.racks))]
abbrev k3:DV:=(aZ none 1 (bO .i64) t.crew)
abbrev k4:DV:=(aZ none 2 af.cell t.allowed)
abbrev k5:DV:=(aZ none 2 af.cell t.goal)
abbrev k2:List CV:=[(.d (aZ none 1 (bO .i64) t.fed)),(.d (k3 t)),(.d (k4 t)),(.d (k5 t))]
abbrev k0:List SV:=[(.agg (k1 p)),(.agg (k2 t))]
end
theorem EC (p:au) (t:Task):dH Tryz.prog 11 (k0 p t) [] (fun r=>(vB r)) (fun _=>[]) (yV p t):=
  dO tT mX Tryz.func11 (
  .rg {fr:=[(0,2),(1,3)],fz:=[2,3]} []<| .r<| .e (bif (bif (bif (bif (bif (bif (decide (60<(p.sources.length:Int)))then true else(decide (60<(p.links.length:Int))))then true else(decide (60<(p.racks.length:Int))))then true else(decide (60<(t.fed.length:Int))))then true else(decide (60<(t.crew.length:Int))))then true else(decide (60<(t.allowed.length:Int))))then true else(decide (60<(t.goal.length:Int)))))
theorem aP (n:Int) (u0:Int) (u1:Int):dH Tryz.prog 123 [(sI n),(sI u0),(sI u1)] [] (fun r=>(vB r)) (fun _=>[]) (aU n u0 u1):=
  dO tT mX Tryz.func123 (
  .r<| .r<| .e (bif (decide (u0≤n))then(decide (n≤u1))else false))
section
variable (p:au)
abbrev k6:List SV:=[(.agg (k1 p))]
end
theorem BV (p:au):dH Tryz.prog 125 (k6 p) [] (fun r=>(vD (.fn 163 1 (bA [(En [(.int .i64 r.1),(aZ none 5 Source.cell r.2.1),(aZ none 6 Link.cell r.2.2.1),(aZ none 4 aV.cell r.2.2.2)] 0)])))) (fun _=>[]) (sK p):=
  dO tT mX Tryz.func125 (
  .rg {fr:=[(0,1)],fz:=[1]} []<| .r<| .e (p.buses,p.sources,p.links,p.racks))
theorem DY (p:au):dH Tryz.prog 127 (k6 p) [] (fun r=>(vD (.fn 166 1 (bA [(En [(.int .i64 r.1),(aZ none 5 Source.cell r.2.1),(aZ none 6 Link.cell r.2.2.1),(aZ none 4 aV.cell r.2.2.2)] 0)])))) (fun _=>[]) (wQ p):=
  dO tT mX Tryz.func127 (
  .rg {fr:=[(0,1)],fz:=[1]} []<| .r<| .e (p.buses,p.sources,p.links,p.racks))
theorem D5 (p:au):dH Tryz.prog 129 (k6 p) [] (fun r=>(vD (.fn 169 1 (bA [(En [(.int .i64 r.1),(aZ none 5 Source.cell r.2.1),(aZ none 6 Link.cell r.2.2.1),(aZ none 4 aV.cell r.2.2.2)] 0)])))) (fun _=>[]) (wZ p):=
  dO tT mX Tryz.func129 (
  .rg {fr:=[(0,1)],fz:=[1]} []<| .r<| .e (p.buses,p.sources,p.links,p.racks))
section
variable (x:Source) (u2:(List Source)) (x1:Int) (u3:(List Link)) (u4:(List aV)) (r_:Bool) (u0:Bool) (u1:Bool) (u5:Bool) (u6:Bool)
abbrev k7:List CV:=[(cI x.bus),(cI x.kind),(cI x.power),(cI x.sync),(cI x.ohm)]
abbrev k9:DV:=(aZ none 5 Source.cell u2)
abbrev k8:DV:=(En [(.int .i64 x1),(k9 u2),(aZ none 6 Link.cell u3),(aZ none 4 aV.cell u4)] 0)
abbrev k10:=(IntKind.wrap .i64 (x1 - 1))
abbrev k11:=((bif r_ then u0 else false),true)
abbrev k12:=((bif (bif r_ then u0 else false)then u1 else false),true)
abbrev k13:=(bif (bif (bif r_ then u0 else false)then u1 else false)then u5 else false)
abbrev k14:=(bif (k13 r_ u0 u1 u5)then u6 else false)
end
theorem zO (x:Source) (x1:Int) (u2:(List Source)) (u3:(List Link)) (u4:(List aV)):dH Tryz.prog 163 [(.agg (k7 x)),(sD (k8 u2 x1 u3 u4))] [] (fun r=>(vB r)) (fun _=>[]) (mD x x1 u2 u3 u4):=
  dO tT mX Tryz.func163 (
  .rg {fr:=[(0,1)],fz:=[1]} []<| .cl 5 (aP x.bus 0 (k10 x1)) fun r_=> .cg 9 [(r_,true)] (aP x.kind 1 3) fun u0=> .cg 14 [(k11 r_ u0)] (aP x.power 1 100000) fun u1=> .cg 19 [(k12 r_ u0 u1)] (aP x.sync 0 8) fun u5=> .cg 24 [((k13 r_ u0 u1 u5),true)] (aP x.ohm 10 100000) fun u6=> .r<| .e (k14 r_ u0 u1 u5 u6))
section
variable (x1:Int) (u0:(List Source)) (u1:(List Link)) (u2:(List aV))
abbrev k16:=(bA [(k8 u0 x1 u1 u2)])
abbrev k15:DV:=(En [(.fn 163 1 (k16 x1 u0 u1 u2))] 0)
end
theorem Cu (x:Source) (x1:Int) (u0:(List Source)) (u1:(List Link)) (u2:(List aV)):dH Tryz.prog 162 [(.agg (k7 x)),(sD (k15 x1 u0 u1 u2))] [] (fun r=>(vB r)) (fun _=>[]) (sO x x1 u0 u1 u2):=
  dO tT mX Tryz.func162 (
  .rg {fr:=[(0,1)],fz:=[1]} []<| .cl 2 (zO x x1 u0 u1 u2) fun r_=> .r<| .e (!r_))
section
variable (s_:(List Source)) (f_:Int) (u0:(List Source)) (u1:(List Link)) (u2:(List aV)) (t8:Int)
abbrev k17:List SV:=[(sD (k9 s_)),(sD (.fn 162 1 (bA [(k15 f_ u0 u1 u2)])))]
abbrev k18:=(IntKind.wrap .i64 (t8+1))
end
theorem xN (s_:(List Source)) (f_:Int) (u0:(List Source)) (u1:(List Link)) (u2:(List aV)):dH Tryz.prog 181 (k17 s_ f_ u0 u1 u2) [] (fun r=>(vI r)) (fun _=>[]) (nX s_ f_ u0 u1 u2):=
  dO tT mX Tryz.func181 (
  .r<| .r<| .lp (σ:=Int) (β:=Unit) (0) [] [] ⟨[0,1,7],[],fun t8=>[(8,(vI t8))],fun t8=>[]⟩ ⟨[],[],fun _=>[],fun _=>[]⟩
  (fun t8=> .r<| .it (.r<| .cl 5 (Cu (at' s_ t8.toNat) f_ u0 u1 u2) fun r_=> .a1 ((0:Int)≤t8∧t8<(s_.length:Int))<| .rg {} [0,1]<| .it (.r<| .e (.done (.ret t8)))
  (.r<| .e (.next (k18 t8))))
  (.e (.done (.brk ()))))
  (fun _=> .r<| .e (-1)))
theorem vv (s_:(List Source)) (f_:Int) (u0:(List Source)) (u1:(List Link)) (u2:(List aV)):dH Tryz.prog 161 (k17 s_ f_ u0 u1 u2) [] (fun r=>(vB r)) (fun _=>[]) (iG s_ f_ u0 u1 u2):=
  dO tT mX Tryz.func161 (
  .r<| .cl 2 (xN s_ f_ u0 u1 u2) fun r_=> .r<| .e (decide (0≤r_)))
theorem D8 (l:(List Source)) (u0:Int) (u1:Int) (u2:(List Source)) (u3:(List Link)) (u4:(List aV)):dH Tryz.prog 124 [(sD (k9 l)),(sI u0),(sD (.fn 163 1 (k16 u1 u2 u3 u4)))] [] (fun r=>(vB r)) (fun _=>[]) (rq l u0 u1 u2 u3 u4):=
  dO tT mX Tryz.func124 (
  .rg {fr:=[(0,1)],fz:=[1]} []<| .cg 7 [((decide ((l.length:Int)≤u0)),true)] (vv l u1 u2 u3 u4) fun r_=> .r<| .e (bif (decide ((l.length:Int)≤u0))then(!r_)else false))
section
variable (x:Link) (u0:Int)
abbrev k19:List CV:=[(cI x.a),(cI x.b),(cI x.kind),(cI x.most),(cI x.ohm),(.d (aZ none 2 oP.cell x.trip))]
abbrev k20:=((decide (((at' x.trip u0.toNat).amps)≤((at' x.trip ((k10 u0).toNat)).amps))),false)
end
theorem Bd (x:Link) (x1:Int) (u3:(List Source)) (u4:(List Link)) (u5:(List aV)):dH Tryz.prog 166 [(.agg (k19 x)),(sD (k8 u3 x1 u4 u5))] [] (fun r=>(vB r)) (fun _=>[]) (oZ x x1 u3 u4 u5):=
  dO tT mX Tryz.func166 (
  .rg {fr:=[(0,5)]} []<| .cl 5 (aP x.a 0 (k10 x1)) fun r_=> .cg 13 [((!r_),false)] (aP x.b 0 (k10 x1)) fun u1=> .cg 26 [((bif (bif (!r_)then true else(!u1))then true else(decide (x.a=x.b))),false)] (aP x.kind 1 3) fun u6=> .cg 32 [((bif (bif (bif (!r_)then true else(!u1))then true else(decide (x.a=x.b)))then true else(!u6)),false)] (aP x.most 1 100000) fun u8=> .cg 38 [((bif (bif (bif (bif (!r_)then true else(!u1))then true else(decide (x.a=x.b)))then true else(!u6))then true else(!u8)),false)] (aP x.ohm 10 100000) fun u9=> .r<| .it (.r<| .e false)
  (.rg {fz:=[5]} []<| .lp (σ:=Int) (β:=Unit) (0) [] [] ⟨[2,48,49],[],fun u0=>[(50,(vI u0))],fun u0=>[]⟩ ⟨[2],[],fun _=>[],fun _=>[]⟩
  (fun u0=> .r<| .it (.a1 ((0:Int)≤u0∧u0<(x.trip.length:Int))<| .rg {fr:=[(3,9)],fz:=[9]} []<| .cl 2 (aP ((at' x.trip u0.toNat).amps) 1 1000000) fun u2=> .cg 7 [((!u2),false)] (aP ((at' x.trip u0.toNat).millis) 1 100000) fun u7=> .a2 ((gB [((decide (0<u0)),true),((bif (!u2)then true else(!u7)),false)]=true→(0:Int)≤(k10 u0)∧(k10 u0)<(x.trip.length:Int))) ((gB [(k20 x u0),((decide (0<u0)),true),((bif (!u2)then true else(!u7)),false)]=true→(0:Int)≤(k10 u0)∧(k10 u0)<(x.trip.length:Int)))<| .rg {} [3,2,0,1]<| .it (.r<| .e (.done (.ret false)))
  (.r<| .e (.next (k18 u0))))
  (.e (.done (.brk ()))))
  (fun _=> .r<| .e (bif (decide ((x.trip.length:Int)≤6))then(bif (decide ((x.trip.length:Int)=0))then true else(decide (x.kind=3)))else false))))
section
variable (x1:Int) (u0:(List Source)) (u1:(List Link)) (u2:(List aV))
abbrev k21:DV:=(En [(.fn 166 1 (k16 x1 u0 u1 u2))] 0)
end
theorem yE (x:Link) (x1:Int) (u0:(List Source)) (u1:(List Link)) (u2:(List aV)):dH Tryz.prog 165 [(.agg (k19 x)),(sD (k21 x1 u0 u1 u2))] [] (fun r=>(vB r)) (fun _=>[]) (oH x x1 u0 u1 u2):=
  dO tT mX Tryz.func165 (
  .rg {fr:=[(0,1)],fz:=[1]} []<| .cl 2 (Bd x x1 u0 u1 u2) fun r_=> .r<| .e (!r_))
section
variable (s_:(List Link)) (f_:Int) (u0:(List Source)) (u1:(List Link)) (u2:(List aV)) (t8:Int)
abbrev k22:List SV:=[(sD (aZ none 6 Link.cell s_)),(sD (.fn 165 1 (bA [(k21 f_ u0 u1 u2)])))]
abbrev k23:=((0:Int)≤t8∧t8<(s_.length:Int))
end
theorem uV (s_:(List Link)) (f_:Int) (u0:(List Source)) (u1:(List Link)) (u2:(List aV)):dH Tryz.prog 182 (k22 s_ f_ u0 u1 u2) [] (fun r=>(vI r)) (fun _=>[]) (kT s_ f_ u0 u1 u2):=
  dO tT mX Tryz.func182 (
  .r<| .r<| .lp (σ:=Int) (β:=Unit) (0) [] [] ⟨[0,1,7],[],fun t8=>[(8,(vI t8))],fun t8=>[]⟩ ⟨[],[],fun _=>[],fun _=>[]⟩
  (fun t8=> .r<| .it (.r<| .cl 5 (yE (at' s_ t8.toNat) f_ u0 u1 u2) fun r_=> .a1 (k23 s_ t8)<| .rg {} [0,1]<| .it (.r<| .e (.done (.ret t8)))
  (.r<| .e (.next (k18 t8))))
  (.e (.done (.brk ()))))
  (fun _=> .r<| .e (-1)))
theorem rz (s_:(List Link)) (f_:Int) (u0:(List Source)) (u1:(List Link)) (u2:(List aV)):dH Tryz.prog 164 (k22 s_ f_ u0 u1 u2) [] (fun r=>(vB r)) (fun _=>[]) (fU s_ f_ u0 u1 u2):=
  dO tT mX Tryz.func164 (
  .r<| .cl 2 (uV s_ f_ u0 u1 u2) fun r_=> .r<| .e (decide (0≤r_)))
theorem Bl (l:(List Link)) (u0:Int) (u1:Int) (u2:(List Source)) (u3:(List Link)) (u4:(List aV)):dH Tryz.prog 126 [(sD (aZ none 6 Link.cell l)),(sI u0),(sD (.fn 166 1 (k16 u1 u2 u3 u4)))] [] (fun r=>(vB r)) (fun _=>[]) (oQ l u0 u1 u2 u3 u4):=
  dO tT mX Tryz.func126 (
  .rg {fr:=[(0,1)],fz:=[1]} []<| .cg 7 [((decide ((l.length:Int)≤u0)),true)] (rz l u1 u2 u3 u4) fun r_=> .r<| .e (bif (decide ((l.length:Int)≤u0))then(!r_)else false))
section
variable (x:aV)
abbrev k24:List CV:=[(cI x.feeds.e0),(cI x.feeds.e1),(cI x.power),(cI x.paths)]
end
theorem CJ (x:aV):dH Tryz.prog 170 [(.agg (k24 x))] [] (fun r=>(vI r)) (fun _=>[]) (ql x):=
  dO tT mX Tryz.func170 (
  .rg {fr:=[(0,1)],fz:=[1]} []<| .rg {} [.pf ⟨(0:Int)≤1∧(1:Int)<(2:Nat),(by decide)⟩]<| .it (.r<| .e 1)
  (.r<| .e 2))
section
variable (r_:Bool) (u0:Bool) (x:aV) (u1:Bool)
abbrev k26:=(bif (bif (bif r_ then u0 else false)then(!decide (x.feeds.e0=x.feeds.e1))else false)then u1 else false)
abbrev k25:=((k26 r_ u0 x u1),true)
end
theorem Ca (x:aV) (x1:Int) (u2:(List Source)) (u3:(List Link)) (u4:(List aV)):dH Tryz.prog 169 [(.agg (k24 x)),(sD (k8 u2 x1 u3 u4))] [] (fun r=>(vB r)) (fun _=>[]) (pu x x1 u2 u3 u4):=
  dO tT mX Tryz.func169 (
  .rg {fr:=[(0,1)],fz:=[1]} []<| .rg {} [.pf ⟨(0:Int)≤0∧(0:Int)<(2:Nat),(by decide)⟩, .pf ⟨(0:Int)≤1∧(1:Int)<(2:Nat),(by decide)⟩]<| .cl 4 (aP x.feeds.e0 0 (k10 x1)) fun r_=> .cg 10 [(r_,true)] (aP x.feeds.e1 (-1) (k10 x1)) fun u0=> .cg 20 [((bif (bif r_ then u0 else false)then(!decide (x.feeds.e0=x.feeds.e1))else false),true)] (aP x.power 1 100000) fun u1=> .cg 26 [(k25 r_ u0 x u1)] (CJ x) fun u5=> .cg 27 [(k25 r_ u0 x u1)] (aP x.paths 0 u5) fun u6=> .r<| .e (bif (k26 r_ u0 x u1)then u6 else false))
section
variable (x1:Int) (u0:(List Source)) (u1:(List Link)) (u2:(List aV))
abbrev k27:DV:=(En [(.fn 169 1 (k16 x1 u0 u1 u2))] 0)
end
theorem yU (x:aV) (x1:Int) (u0:(List Source)) (u1:(List Link)) (u2:(List aV)):dH Tryz.prog 168 [(.agg (k24 x)),(sD (k27 x1 u0 u1 u2))] [] (fun r=>(vB r)) (fun _=>[]) (o8 x x1 u0 u1 u2):=
  dO tT mX Tryz.func168 (
  .rg {fr:=[(0,1)],fz:=[1]} []<| .cl 2 (Ca x x1 u0 u1 u2) fun r_=> .r<| .e (!r_))
section
variable (s_:(List aV)) (f_:Int) (u0:(List Source)) (u1:(List Link)) (u2:(List aV))
abbrev k28:List SV:=[(sD (aZ none 4 aV.cell s_)),(sD (.fn 168 1 (bA [(k27 f_ u0 u1 u2)])))]
end
theorem uX (s_:(List aV)) (f_:Int) (u0:(List Source)) (u1:(List Link)) (u2:(List aV)):dH Tryz.prog 183 (k28 s_ f_ u0 u1 u2) [] (fun r=>(vI r)) (fun _=>[]) (kP s_ f_ u0 u1 u2):=
  dO tT mX Tryz.func183 (
  .r<| .r<| .lp (σ:=Int) (β:=Unit) (0) [] [] ⟨[0,1,7],[],fun t8=>[(8,(vI t8))],fun t8=>[]⟩ ⟨[],[],fun _=>[],fun _=>[]⟩
  (fun t8=> .r<| .it (.r<| .cl 5 (yU (⟨((at' s_ t8.toNat).feeds),(at' s_ t8.toNat).power,(at' s_ t8.toNat).paths⟩:aV) f_ u0 u1 u2) fun r_=> .a1 ((0:Int)≤t8∧t8<(s_.length:Int))<| .rg {} [0,1]<| .it (.r<| .e (.done (.ret t8)))
  (.r<| .e (.next (k18 t8))))
  (.e (.done (.brk ()))))
  (fun _=> .r<| .e (-1)))
theorem rF (s_:(List aV)) (f_:Int) (u0:(List Source)) (u1:(List Link)) (u2:(List aV)):dH Tryz.prog 167 (k28 s_ f_ u0 u1 u2) [] (fun r=>(vB r)) (fun _=>[]) (fT s_ f_ u0 u1 u2):=
  dO tT mX Tryz.func167 (
  .r<| .cl 2 (uX s_ f_ u0 u1 u2) fun r_=> .r<| .e (decide (0≤r_)))
theorem BR (l:(List aV)) (u0:Int) (u1:Int) (u2:(List Source)) (u3:(List Link)) (u4:(List aV)):dH Tryz.prog 128 [(sD (aZ none 4 aV.cell l)),(sI u0),(sD (.fn 169 1 (k16 u1 u2 u3 u4)))] [] (fun r=>(vB r)) (fun _=>[]) (oI l u0 u1 u2 u3 u4):=
  dO tT mX Tryz.func128 (
  .rg {fr:=[(0,1)],fz:=[1]} []<| .cg 7 [((decide ((l.length:Int)≤u0)),true)] (rF l u1 u2 u3 u4) fun r_=> .r<| .e (bif (decide ((l.length:Int)≤u0))then(!r_)else false))
theorem Dh (p:au):dH Tryz.prog 89 (k6 p) [] (fun r=>(vI r)) (fun _=>[]) (qy p):=
  dO tT mX Tryz.func89 (
  .rg {fr:=[(0,1)],fz:=[1]} []<| .cl 2 (aP p.buses 1 24) fun r_=> .r<| .it (.r<| .e 10)
  (.cl 3 (BV p) fun u0=> .cl 4 (D8 p.sources 8 u0.1 u0.2.1 u0.2.2.1 u0.2.2.2) fun u3=> .r<| .it (.r<| .e 11)
  (.cl 3 (DY p) fun u1=> .cl 4 (Bl p.links 40 u1.1 u1.2.1 u1.2.2.1 u1.2.2.2) fun u4=> .r<| .it (.r<| .e 12)
  (.cl 3 (D5 p) fun u2=> .cl 4 (BR p.racks 24 u2.1 u2.2.1 u2.2.2.1 u2.2.2.2) fun u5=> .r<| .it (.r<| .e 13)
  (.r<| .e 0)))))
section
variable (s_:State) (p:au) (u0:Int)
abbrev Uz:DV:=(aZ none 1 ah s_.locked)
abbrev Ux:DV:=(aZ none 1 ah s_.badLink)
abbrev UD:DV:=(aZ none 1 ah s_.on_)
abbrev UA:DV:=(aZ none 1 ah s_.badSource)
abbrev UU:DV:=(aZ none 1 ah s_.earthed)
abbrev UZ:DV:=(aZ none 1 ah s_.badBus)
abbrev zI:List CV:=[(.d (aZ none 1 ah s_.closed)),(.d (Uz s_)),(.d (Ux s_)),(.d (UD s_)),(.d (UA s_)),(.d (UU s_)),(.d (UZ s_))]
abbrev Pz:List SV:=[(.agg (k1 p)),(.agg (zI s_))]
abbrev Y3:=(⟨s_.closed,(p.links.length:Int)⟩:cZ)
abbrev Yi:=(⟨s_.locked,(p.links.length:Int)⟩:cZ)
abbrev Yw:=(⟨s_.badLink,(p.links.length:Int)⟩:cZ)
abbrev YE:=(⟨s_.on_,(p.sources.length:Int)⟩:cZ)
abbrev YQ:=(⟨s_.badSource,(p.sources.length:Int)⟩:cZ)
abbrev k42:=(aA cZ.cell [(Y3 s_ p),(Yi s_ p),(Yw s_ p),(YE s_ p),(YQ s_ p),(⟨s_.earthed,p.buses⟩:cZ),(⟨s_.badBus,p.buses⟩:cZ)])
abbrev Ud:=((0:Int)≤u0∧u0<(p.links.length:Int))
abbrev k44:=((gB [((decide (((at' p.links u0.toNat).kind)=1)),true)]=true→(0:Int)≤u0∧u0<(s_.closed.length:Int)))
abbrev k45:=((gB [((!(at' s_.closed u0.toNat)),false),((decide (((at' p.links u0.toNat).kind)=1)),true)]=true→(0:Int)≤u0∧u0<(s_.locked.length:Int)))
end
theorem dI (p:au) (s_:State):dH Tryz.prog 62 (Pz s_ p) [] (fun r=>(vI r)) (fun _=>[]) (dQ p s_):=
  dO tT mX Tryz.func62 (
  .rg {fr:=[(0,11),(1,12)]} []<| .cl 1 (Dh p) fun r_=> .r<| .r<| .it (.r<| .e r_)
  (.r<| .rg {an:=[(30, .arr [(Y3 s_ p),(Yi s_ p),(Yw s_ p),(YE s_ p),(YQ s_ p),(⟨s_.earthed,p.buses⟩:cZ),(⟨s_.badBus,p.buses⟩:cZ)].length (k42 s_ p))],fr:=[(30,13)],fz:=[12]} [.pf ⟨[(Y3 s_ p),(Yi s_ p),(Yw s_ p),(YE s_ p),(YQ s_ p),(⟨s_.earthed,p.buses⟩:cZ),(⟨s_.badBus,p.buses⟩:cZ)].length=7,rfl⟩, .pf ⟨aK 7 2 (uS 2 [(aZ none 1 ah s_.closed),(.int .i64 (p.links.length:Int)),(Uz s_),(.int .i64 (p.links.length:Int)),(Ux s_),(.int .i64 (p.links.length:Int)),(UD s_),(.int .i64 (p.sources.length:Int)),(UA s_),(.int .i64 (p.sources.length:Int)),(UU s_),(.int .i64 p.buses),(UZ s_),(.int .i64 p.buses)]) (k42 s_ p),(by intro i hi j hj;match i,j,hi,hj with|0,0,_,_=>rfl|0,1,_,_=>rfl|1,0,_,_=>rfl|1,1,_,_=>rfl|2,0,_,_=>rfl|2,1,_,_=>rfl|3,0,_,_=>rfl|3,1,_,_=>rfl|4,0,_,_=>rfl|4,1,_,_=>rfl|5,0,_,_=>rfl|5,1,_,_=>rfl|6,0,_,_=>rfl|6,1,_,_=>rfl)⟩]<| .lp (σ:=Int) (β:=Unit) (0) [] [] ⟨[2,3,53,54],[11,13],fun u1=>[(55,(vI u1))],fun u1=>[]⟩ ⟨[2,3],[11],fun _=>[],fun _=>[]⟩
  (fun u1=> .r<| .it (.a1 ((0:Int)≤u1∧u1<([(Y3 s_ p),(Yi s_ p),(Yw s_ p),(YE s_ p),(YQ s_ p),(⟨s_.earthed,p.buses⟩:cZ),(⟨s_.badBus,p.buses⟩:cZ)].length:Int))<| .rg {fr:=[(2,17)],fz:=[17]} [0, .t 0 u1 ([(Y3 s_ p),(Yi s_ p),(Yw s_ p),(YE s_ p),(YQ s_ p),(⟨s_.earthed,p.buses⟩:cZ),(⟨s_.badBus,p.buses⟩:cZ)].length)]<| .r<| .it (.r<| .e (.done (.ret 9)))
  (.r<| .e (.next (k18 u1))))
  (.e (.done (.brk ()))))
  (fun _=> .r<| .lp (σ:=Int) (β:=Unit) (0) [] [] ⟨[3,67,68],[],fun u0=>[(69,(vI u0))],fun u0=>[]⟩ ⟨[],[],fun _=>[],fun _=>[]⟩
  (fun u0=> .r<| .it (.a1 (Ud p u0)<| .rg {fr:=[(3,21)],fz:=[21]} []<| .a2 (k44 s_ p u0) (k45 s_ p u0)<| .rg {} [0,1]<| .it (.r<| .e (.done (.ret 9)))
  (.r<| .e (.next (k18 u0))))
  (.e (.done (.brk ()))))
  (fun _=> .r<| .e 0))))
theorem xL (i:Int) (x1:Int):dH Tryz.prog 98 [(sI i),(sD (En [(.int .i64 x1)] 0))] [] (fun r=>(vB r)) (fun _=>[]) (nW i x1):=
  dO tT mX Tryz.func98 (
  .r<| .r<| .e (bif (decide (i<0))then true else(decide (x1≤i))))
section
variable (s_:(List Int)) (t8:Int)
abbrev QD:DV:=(aZ none 1 (bO .i64) s_)
abbrev UH:=((0:Int)≤t8∧t8<(s_.length:Int))
end
theorem uN (s_:(List Int)) (f_:Int):dH Tryz.prog 132 [(sD (QD s_)),(sD (.fn 98 1 (bA [(En [(.int .i64 f_)] 0)])))] [] (fun r=>(vI r)) (fun _=>[]) (kU s_ f_):=
  dO tT mX Tryz.func132 (
  .r<| .r<| .lp (σ:=Int) (β:=Unit) (0) [] [] ⟨[0,1,7],[],fun t8=>[(8,(vI t8))],fun t8=>[]⟩ ⟨[],[],fun _=>[],fun _=>[]⟩
  (fun t8=> .r<| .it (.r<| .cl 5 (xL (at' s_ t8.toNat) f_) fun r_=> .a1 (UH s_ t8)<| .rg {} [0,1]<| .it (.r<| .e (.done (.ret t8)))
  (.r<| .e (.next (k18 t8))))
  (.e (.done (.brk ()))))
  (fun _=> .r<| .e (-1)))
theorem sW (s_:(List Int)) (f_:Int):dH Tryz.prog 97 [(sD (QD s_)),(sD (.fn 98 1 (bA [(En [(.int .i64 f_)] 0)])))] [] (fun r=>(vB r)) (fun _=>[]) (gF s_ f_):=
  dO tT mX Tryz.func97 (
  .r<| .cl 2 (uN s_ f_) fun r_=> .r<| .e (decide (0≤r_)))
section
variable (l:(List Int)) (n:Int)
abbrev X7:List SV:=[(sD (QD l)),(sI n)]
end
theorem qY (l:(List Int)) (n:Int):dH Tryz.prog 96 (X7 l n) [] (fun r=>(vB r)) (fun _=>[]) (jJ l n):=
  dO tT mX Tryz.func96 (
  .rg {fr:=[(0,1)],fz:=[1]} []<| .cg 6 [((decide ((l.length:Int)≤24)),true)] (sW l n) fun r_=> .r<| .e (bif (decide ((l.length:Int)≤24))then(!r_)else false))
section
variable (x:af) (p:au)
abbrev Si:List CV:=[(cI x.deed),(cI x.index)]
abbrev k49:List SV:=[(.agg (k1 p)),(.agg (Si x))]
abbrev Zu:=((gB [((bif (decide (0≤x.index))then(decide (x.index<(p.links.length:Int)))else false),true)]=true→(0:Int)≤x.index∧x.index<(p.links.length:Int)))
abbrev Zy:=(bif (bif (decide (0≤x.index))then(decide (x.index<(p.links.length:Int)))else false)then(!decide (((at' p.links x.index.toNat).kind)=1))else false)
abbrev R6:=(decide (x.index<p.buses))
abbrev U1:=(bif (decide (0≤x.index))then(R6 x p)else false)
abbrev Ls:=(decide (x.index<(p.sources.length:Int)))
abbrev Me:=(bif (decide (0≤x.index))then(Ls x p)else false)
abbrev L9:=((gB [((bif (decide (0≤x.index))then(decide (x.index<0))else false),true)]=true→(0:Int)≤x.index∧x.index<(p.links.length:Int)))
abbrev Mf:=(bif (bif (decide (0≤x.index))then(decide (x.index<0))else false)then(!decide (((at' p.links x.index.toNat).kind)=1))else false)
end
theorem uG (p:au) (x:af):dH Tryz.prog 79 (k49 x p) [] (fun r=>(vB r)) (fun _=>[]) (lU p x):=
  dO tT mX Tryz.func79 (
  .rg {fr:=[(0,2),(1,3)],fz:=[2,3]} []<| .r<| .r<| .r<| .it (.it (.r<| .a1 (Zu x p)<| .r<| .e (Zy x p))
  (.r<| .it (.it (.r<| .e (U1 x p))
  (.r<| .it (.it (.r<| .e (Me x p))
  (.a1 (L9 x p)<| .r<| .e (Mf x p)))
  (.r<| .it (.r<| .e (Me x p))
  (.a1 (L9 x p)<| .r<| .e (Mf x p)))))
  (.r<| .it (.r<| .e (U1 x p))
  (.r<| .it (.it (.r<| .e (Me x p))
  (.a1 (L9 x p)<| .r<| .e (Mf x p)))
  (.r<| .it (.r<| .e (Me x p))
  (.a1 (L9 x p)<| .r<| .e (Mf x p)))))))
  (.r<| .it (.it (.r<| .a1 (Zu x p)<| .r<| .e (Zy x p))
  (.r<| .it (.it (.r<| .e (U1 x p))
  (.r<| .it (.it (.r<| .e (Me x p))
  (.a1 (L9 x p)<| .r<| .e (Mf x p)))
  (.r<| .it (.r<| .e (Me x p))
  (.a1 (L9 x p)<| .r<| .e (Mf x p)))))
  (.r<| .it (.r<| .e (U1 x p))
  (.r<| .it (.it (.r<| .e (Me x p))
  (.a1 (L9 x p)<| .r<| .e (Mf x p)))
  (.r<| .it (.r<| .e (Me x p))
  (.a1 (L9 x p)<| .r<| .e (Mf x p)))))))
  (.r<| .it (.it (.r<| .a1 (Zu x p)<| .r<| .e (Zy x p))
  (.r<| .it (.it (.r<| .e (U1 x p))
  (.r<| .it (.it (.r<| .e (Me x p))
  (.a1 (L9 x p)<| .r<| .e (Mf x p)))
  (.r<| .it (.r<| .e (Me x p))
  (.a1 (L9 x p)<| .r<| .e (Mf x p)))))
  (.r<| .it (.r<| .e (U1 x p))
  (.r<| .it (.it (.r<| .e (Me x p))
  (.a1 (L9 x p)<| .r<| .e (Mf x p)))
  (.r<| .it (.r<| .e (Me x p))
  (.a1 (L9 x p)<| .r<| .e (Mf x p)))))))
  (.r<| .it (.r<| .a1 (Zu x p)<| .r<| .e (Zy x p))
  (.r<| .it (.it (.r<| .e (U1 x p))
  (.r<| .it (.it (.r<| .e (Me x p))
  (.a1 (L9 x p)<| .r<| .e (Mf x p)))
  (.r<| .it (.r<| .e (Me x p))
  (.a1 (L9 x p)<| .r<| .e (Mf x p)))))
  (.r<| .it (.r<| .e (U1 x p))
  (.r<| .it (.it (.r<| .e (Me x p))
  (.a1 (L9 x p)<| .r<| .e (Mf x p)))
  (.r<| .it (.r<| .e (Me x p))
  (.a1 (L9 x p)<| .r<| .e (Mf x p))))))))))
theorem xR (x:af) (x1:Int) (u0:(List Source)) (u1:(List Link)) (u2:(List aV)):dH Tryz.prog 100 [(.agg (Si x)),(sD (k8 u0 x1 u1 u2))] [] (fun r=>(vB r)) (fun _=>[]) (nT x x1 u0 u1 u2):=
  dO tT mX Tryz.func100 (
  .rg {fr:=[(0,1)],fz:=[1]} []<| .cl 2 (uG (⟨x1,u0,u1,u2⟩:au) x) fun r_=> .r<| .e (!r_))
section
variable (s_:(List af)) (f_:Int) (u0:(List Source)) (u1:(List Link)) (u2:(List aV)) (t8:Int)
abbrev NP:DV:=(aZ none 2 af.cell s_)
abbrev k59:List SV:=[(sD (NP s_)),(sD (.fn 100 1 (k16 f_ u0 u1 u2)))]
abbrev Ue:=((0:Int)≤t8∧t8<(s_.length:Int))
end
theorem vC (s_:(List af)) (f_:Int) (u0:(List Source)) (u1:(List Link)) (u2:(List aV)):dH Tryz.prog 131 (k59 s_ f_ u0 u1 u2) [] (fun r=>(vI r)) (fun _=>[]) (kQ s_ f_ u0 u1 u2):=
  dO tT mX Tryz.func131 (
  .r<| .r<| .lp (σ:=Int) (β:=Unit) (0) [] [] ⟨[0,1,7],[],fun t8=>[(8,(vI t8))],fun t8=>[]⟩ ⟨[],[],fun _=>[],fun _=>[]⟩
  (fun t8=> .r<| .it (.r<| .cl 5 (xR (at' s_ t8.toNat) f_ u0 u1 u2) fun r_=> .a1 (Ue s_ t8)<| .rg {} [0,1]<| .it (.r<| .e (.done (.ret t8)))
  (.r<| .e (.next (k18 t8))))
  (.e (.done (.brk ()))))
  (fun _=> .r<| .e (-1)))
theorem sG (s_:(List af)) (f_:Int) (u0:(List Source)) (u1:(List Link)) (u2:(List aV)):dH Tryz.prog 92 (k59 s_ f_ u0 u1 u2) [] (fun r=>(vB r)) (fun _=>[]) (gD s_ f_ u0 u1 u2):=
  dO tT mX Tryz.func92 (
  .r<| .cl 2 (vC s_ f_ u0 u1 u2) fun r_=> .r<| .e (decide (0≤r_)))
theorem qZ (l:(List af)) (x1:Int) (u0:(List Source)) (u1:(List Link)) (u2:(List aV)):dH Tryz.prog 99 [(sD (NP l)),(sD (k8 u0 x1 u1 u2))] [] (fun r=>(vB r)) (fun _=>[]) (jH l x1 u0 u1 u2):=
  dO tT mX Tryz.func99 (
  .r<| .cg 6 [((decide ((l.length:Int)≤24)),true)] (sG l x1 u0 u1 u2) fun r_=> .r<| .e (bif (decide ((l.length:Int)≤24))then(!r_)else false))
theorem Cm (p:au) (t:Task):dH Tryz.prog 63 (k0 p t) [] (fun r=>(vB r)) (fun _=>[]) (oF p t):=
  dO tT mX Tryz.func63 (
  .rg {fr:=[(0,2),(1,3)],fz:=[2,3]} []<| .r<| .r<| .cl 6 (qY t.fed (p.racks.length:Int)) fun r_=> .cg 13 [(r_,true)] (qY t.crew p.buses) fun u0=> .cg 19 [(k11 r_ u0)] (qZ t.allowed p.buses p.sources p.links p.racks) fun u1=> .cg 25 [(k12 r_ u0 u1)] (qZ t.goal p.buses p.sources p.links p.racks) fun u2=> .r<| .e (k13 r_ u0 u1 u2))
theorem xQ (p:au) (s_:State):dH Tryz.prog 113 (Pz s_ p) [] (fun r=>(vD (.fn 143 2 (bA [(En [(.int .i64 r.1),(aZ none 5 Source.cell r.2.1),(aZ none 6 Link.cell r.2.2.1),(aZ none 4 aV.cell r.2.2.2.1)] 0),(En [(aZ none 1 ah r.2.2.2.2.1),(aZ none 1 ah r.2.2.2.2.2.1),(aZ none 1 ah r.2.2.2.2.2.2.1),(aZ none 1 ah r.2.2.2.2.2.2.2.1),(aZ none 1 ah r.2.2.2.2.2.2.2.2.1),(aZ none 1 ah r.2.2.2.2.2.2.2.2.2.1),(aZ none 1 ah r.2.2.2.2.2.2.2.2.2.2)] 0)])))) (fun _=>[]) (jU p s_):=
  dO tT mX Tryz.func113 (
  .rg {fr:=[(0,2),(1,3)],fz:=[2,3]} []<| .r<| .e (p.buses,p.sources,p.links,p.racks,s_.closed,s_.locked,s_.badLink,s_.on_,s_.badSource,s_.earthed,s_.badBus))
noncomputable def su:iF:=⟨[22],Nt ([1,1,0,1,0]++[0]) (rY Tryz.f75),Nt ([1,1,0,1,0]++[1]) (rY Tryz.f75),125,[]⟩
section
variable (g:aT)
abbrev k63:Ob:=(Hy 3 3 false false 1 1 (bO .i64) (bO .i64) g.head)
abbrev k62:List (Nat × Option Ob):=[(0,some (k63 g))]
end
theorem gy (g:aT) (x:Int):dH Tryz.prog 115 [(.agg [(.mp 0)]),(sI x)] (k62 g) (fun r=>(vI r)) (fun r=>(k62 g)) (dz g x):=
  dO tT mX Tryz.func115 (
  .rg {fr:=[(0,2)]} []<| .lp (σ:=Int) (β:=Unit) (x) [] [] ⟨[2],[0,2],fun x1=>[(1,(vI x1))],fun x1=>[]⟩ ⟨[],[],fun _=>[],fun _=>[]⟩
  (fun x1=> .rg {an:=[(3, .look (bn aY x1 g.head).isSome [(cI ((bn aY x1 g.head).getD 0))])]} [.pf ⟨fF [some .i64] 1 1 g.head.length (zZ (bO .i64) g.head) (Bb (bO .i64) g.head) [(.int .i64 x1)] [(.d (.int .i64 0))] (bn aY x1 g.head).isSome [(cI ((bn aY x1 g.head).getD 0))],oq (fun _=>rfl) (fun _ _=>rfl) g.head x1 0 rfl rfl rfl⟩]<| .r<| .it (.r<| .e (.done (.ret x1)))
  (.r<| .e (.next ((bn aY x1 g.head).getD 0))))
  (fun _=> .no))
theorem wV (g:aT) (a:Int) (b:Int):dH Tryz.prog 114 [(.agg [(.mp 0)]),(sI a),(sI b)] (k62 g) (fun r=>(.iL [])) (fun r=>[(0,some (Hy 3 3 false false 1 1 (bO .i64) (bO .i64) r))]) (jF g a b):=
  dO tT mX Tryz.func114 (
  .rg {fr:=[(0,2)]} []<| .cr 2 (gy g a) fun r_=> .cr 5 (gy g b) fun u0=> .r<| .r<| .it (.rg {an:=[(4, .map (fB aY r_ u0 g.head).length (zZ (bO .i64) (fB aY r_ u0 g.head)) (Bb (bO .i64) (fB aY r_ u0 g.head)) [])]} [.pf ⟨wB [some .i64] 1 1 g.head.length (zZ (bO .i64) g.head) (Bb (bO .i64) g.head) [(.int .i64 r_)] [(cI u0)] [] (fB aY r_ u0 g.head).length (zZ (bO .i64) (fB aY r_ u0 g.head)) (Bb (bO .i64) (fB aY r_ u0 g.head)),Gb (fun _=>rfl) (fun _ _=>rfl) g.head r_ u0 rfl rfl⟩]<| .e (fB aY r_ u0 g.head))
  (.e g.head))
section
variable (o_:aT)
abbrev k65:Nat × Option Ob:=(0,some (.loop su 0 [(5,(vP 1 0))]))
abbrev k64:List (Nat × Option Ob):=[k65,(1,some (.cells 172 [(.mp 2)])),(2,some (k63 o_))]
end
theorem vM (u0:Int) (u1:Int) (u2:Int) (u3:Int) (u4:Int) (u5:(List oP)) (o_:aT):Sn Tryz.prog 0 [(.agg [(cI u0),(cI u1),(cI u2),(cI u3),(cI u4),(.d (aZ none 2 oP.cell u5))])] (k64 o_) (fun _=>vB true) (fun r=>[k65,(1,some (.cells 172 [(.mp 2)])),(2,some (Hy 3 3 false false 1 1 (bO .i64) (bO .i64) r.head))]) (lW u0 u1 u2 u3 u4 u5 o_):=
  Zv tT mX su ⟨[5],[0,1,2],fun _=>[(6,(vD (En [(.int .i64 u0),(.int .i64 u1),(.int .i64 u2),(.int .i64 u3),(.int .i64 u4),(aZ none 2 oP.cell u5)] 0)))],fun _=>[]⟩ (.rg {fr:=[(0,4)],fz:=[4]} []<| .e ())
  (.cl 5 (dF [(0,2)] (wV o_ u0 u1)) fun r_=> .r<| .e (⟨r_⟩:aT))
section
variable (x2:(List Bool)) (u6:(List Bool)) (u2:(List Bool)) (u7:(List Bool)) (u8:(List Bool)) (u9:(List Bool)) (u1:(List Bool)) (u3:(List (Int × Int))) (t9:Int) (u0:(List Link))
abbrev k67:List DV:=[(aZ none 1 ah x2),(aZ none 1 ah u6),(aZ none 1 ah u2),(aZ none 1 ah u7),(aZ none 1 ah u8),(aZ none 1 ah u9),(aZ none 1 ah u1)]
abbrev Vj:DV:=(En (k67 x2 u6 u2 u7 u8 u9 u1) 0)
abbrev k68:Ob:=(Hy 3 3 false false 1 1 (bO .i64) (bO .i64) u3)
abbrev k69:=(bif (bif (at' x2 t9.toNat)then(!(at' u2 t9.toNat))else false)then(!(at' u1 (((at' u0 t9.toNat).a).toNat)))else false)
abbrev Yp:=((0:Int)≤t9∧t9<(x2.length:Int))
abbrev k71:=((gB [((bif (at' x2 t9.toNat)then(!(at' u2 t9.toNat))else false),true)]=true→(0:Int)≤(at' u0 t9.toNat).a∧(at' u0 t9.toNat).a<(u1.length:Int)))
abbrev k72:=((gB [((k69 x2 u2 u1 t9 u0),true)]=true→(0:Int)≤(at' u0 t9.toNat).b∧(at' u0 t9.toNat).b<(u1.length:Int)))
end
theorem vN (x1:Int) (u4:(List Source)) (u0:(List Link)) (u5:(List aV)) (x2:(List Bool)) (u6:(List Bool)) (u2:(List Bool)) (u7:(List Bool)) (u8:(List Bool)) (u9:(List Bool)) (u1:(List Bool)) (o_:aT):dH Tryz.prog 143 [(.one (.yl 0)),(sD (k8 u4 x1 u0 u5)),(sD (Vj x2 u6 u2 u7 u8 u9 u1))] (k64 o_) (fun r=>(.iL [])) (fun r=>[k65,(1,some (.cells 172 [(.mp 2)])),(2,some (Hy 3 3 false false 1 1 (bO .i64) (bO .i64) r.head))]) (lN x1 u4 u0 u5 x2 u6 u2 u7 u8 u9 u1 o_):=
  dO tT mX Tryz.func143 (
  .r<| .lp (σ:=((List (Int × Int)) × Int)) (β:=(List (Int × Int))) (o_.head,0) [] [] ⟨[0,2,7,8],[0,1],fun(u3,t9)=>[(9,(vI t9))],fun(u3,t9)=>[(2,some (k68 u3))]⟩ ⟨[],[0,1],fun o501=>[],fun o501=>[(2,some (Hy 3 3 false false 1 1 (bO .i64) (bO .i64) o501))]⟩
  (fun(u3,t9)=> .r<| .it (.a1 (k23 u0 t9)<| .rg {fr:=[(3,10)],fz:=[10]} []<| .fk (bif (k69 x2 u2 u1 t9 u0)then(!(at' u1 (((at' u0 t9.toNat).b).toNat)))else false) (.cy 34 (vM ((at' u0 t9.toNat).a) ((at' u0 t9.toNat).b) ((at' u0 t9.toNat).kind) ((at' u0 t9.toNat).most) ((at' u0 t9.toNat).ohm) ((at' u0 t9.toNat).trip) (⟨u3⟩:aT)) fun r_=> .a4 (Yp x2 t9) ((gB [((at' x2 t9.toNat),true)]=true→(0:Int)≤t9∧t9<(u2.length:Int))) (k71 x2 u2 u1 t9 u0) (k72 x2 u2 u1 t9 u0)<| .rg {ov:=[(31,true,5)]} [0,1,2,3, .k 4]<| .f<| .r<| .e (.next (r_.head,(k18 t9))))
  (.a4 (Yp x2 t9) ((gB [((at' x2 t9.toNat),true)]=true→(0:Int)≤t9∧t9<(u2.length:Int))) (k71 x2 u2 u1 t9 u0) (k72 x2 u2 u1 t9 u0)<| .rg {ov:=[(31,false,4)],sk:=[32,33,34,35]} [0,1,2,3]<| .f<| .r<| .e (.next (u3,(k18 t9)))))
  (.e (.done (.brk u3))))
  (fun o501=> .e (⟨o501⟩:aT)))
section
variable (u1:(List aI)) (u2:(List (Int × Int))) (u3:Int) (s_:State) (u0:Int) (u7:Int) (p:au) (u5:(List aI)) (u6:Int) (u4:(List (Int × Int)))
abbrev k73:List (Nat × Option Ob):=[(60,some (.rows 129 2 u1.length (wM aI.ev u1) none)),(61,some (k68 u2))]
abbrev k74:=((0:Int)≤u3∧u3<(s_.badBus.length:Int))
abbrev Jm:=((bn aY u0 u2).getD 0)
abbrev WN:List CV:=[(cI (Jm u2 u0))]
abbrev UG:=(fB aY u0 (u1.length:Int) u2)
abbrev k78:=(zZ (bO .i64) (UG u1 u2 u0))
abbrev k79:=(Bb (bO .i64) (UG u1 u2 u0))
abbrev k80:=((u1.length+[(⟨([]:List Int),([]:List Int)⟩:aI)].length)*48≤140737488355328)
abbrev SL:=(u1++[(⟨([]:List Int),([]:List Int)⟩:aI)])
abbrev k82:=(wM aI.ev (SL u1))
abbrev k83:=(bn aY u0 (UG u1 u2 u0))
abbrev U2:=((k83 u1 u2 u0).getD 0)
abbrev k84:List CV:=[(cI (U2 u1 u2 u0))]
abbrev k86:=((0:Int)≤(U2 u1 u2 u0)∧(U2 u1 u2 u0)<((SL u1).length:Int))
abbrev k91:=((U2 u1 u2 u0).toNat)
abbrev k90:=(at' (SL u1) (k91 u1 u2 u0))
abbrev UK:=((k90 u1 u2 u0).buses)
abbrev k88:=((UK u1 u2 u0).length+[u3].length)
abbrev k87:=((k88 u1 u2 u3 u0)*8≤140737488355328)
abbrev k92:=((UK u1 u2 u0).length+[u3].length≤4611686018427387904)
abbrev WM:=((UK u1 u2 u0)++[u3])
abbrev k94:=(aA (bO .i64) (WM u1 u2 u3 u0))
abbrev k96:=((SL u1).set (k91 u1 u2 u0) (⟨(WM u1 u2 u3 u0),(k90 u1 u2 u0).sources⟩:aI))
abbrev k95:=(wM aI.ev (k96 u1 u2 u3 u0))
abbrev k97:=((SL u1).length)
abbrev k98:=((UK u1 u2 u0).length)
abbrev k99:=(yO (aA (bO .i64) (UK u1 u2 u0)) (UK u1 u2 u0).length (aA (bO .i64) [u3]))
abbrev aaE:=((WM u1 u2 u3 u0).length)
abbrev aaC:=(UO (k82 u1) (k91 u1 u2 u0) 0 (.row 3 1 (WM u1 u2 u3 u0).length (k94 u1 u2 u3 u0)))
abbrev ZW:=((k96 u1 u2 u3 u0),(UG u1 u2 u0),(k18 u3))
abbrev Yr:=((0:Int)≤(Jm u2 u0)∧(Jm u2 u0)<(u1.length:Int))
abbrev JW:=((at' u1 ((Jm u2 u0).toNat)).buses)
abbrev Yf:=((JW u1 u2 u0).length+[u3].length)
abbrev OH:=((JW u1 u2 u0)++[u3])
abbrev Wy:=(aA (bO .i64) (OH u1 u2 u3 u0))
abbrev Wp:=(u1.set ((Jm u2 u0).toNat) (⟨(OH u1 u2 u3 u0),(at' u1 ((Jm u2 u0).toNat)).sources⟩:aI))
abbrev Xt:=(wM aI.ev (Wp u1 u2 u3 u0))
abbrev aaR:=(yO (aA (bO .i64) (JW u1 u2 u0)) (JW u1 u2 u0).length (aA (bO .i64) [u3]))
abbrev aa0:=(UO (wM aI.ev u1) ((Jm u2 u0).toNat) 0 (.row 3 1 (OH u1 u2 u3 u0).length (Wy u1 u2 u3 u0)))
abbrev aaO:=((Wp u1 u2 u3 u0),u2,(k18 u3))
abbrev Ra:=((0:Int)≤u7∧u7<(p.sources.length:Int))
abbrev YS:=((0:Int)≤u7∧u7<(s_.on_.length:Int))
abbrev Ya:=((gB [((at' s_.on_ u7.toNat),true)]=true→(0:Int)≤u7∧u7<(s_.badSource.length:Int)))
abbrev Zn:=((bif (at' s_.on_ u7.toNat)then(!(at' s_.badSource u7.toNat))else false),true)
abbrev Xp:=((gB [(Zn s_ u7)]=true→(0:Int)≤(at' p.sources u7.toNat).bus∧(at' p.sources u7.toNat).bus<(s_.badBus.length:Int)))
abbrev Ou:=((at' p.sources u7.toNat).bus)
abbrev JM:=((at' u5 ((Jm u4 u6).toNat)).sources)
abbrev YC:=((JM u5 u6 u4).length+[u7].length)
abbrev O0:=((JM u5 u6 u4)++[u7])
abbrev VY:=(aA (bO .i64) (O0 u7 u5 u6 u4))
abbrev V6:=(u5.set ((Jm u4 u6).toNat) (⟨(at' u5 ((Jm u4 u6).toNat)).buses,(O0 u7 u5 u6 u4)⟩:aI))
abbrev XH:=(wM aI.ev (V6 u7 u5 u6 u4))
abbrev aai:=(yO (aA (bO .i64) (JM u5 u6 u4)) (JM u5 u6 u4).length (aA (bO .i64) [u7]))
abbrev ZX:=(UO (wM aI.ev u5) ((Jm u4 u6).toNat) 1 (.row 3 1 (O0 u7 u5 u6 u4).length (VY u7 u5 u6 u4)))
abbrev aap:=((V6 u7 u5 u6 u4),(k18 u7))
end
theorem iC (p:au) (s_:State):dH Tryz.prog 75 (Pz s_ p) [] (fun r=>(vD (aZ none 2 aI.cell r))) (fun _=>[]) (fE p s_):=
  dO tT mX Tryz.func75 (
  .rg {fr:=[(0,55),(1,56)],fz:=[56]} []<| .rg {an:=[(0, .map 0 (zZ (bO .i64) ([]:(List (Int × Int)))) (Bb (bO .i64) ([]:(List (Int × Int)))) [])],fr:=[(0,57),(2,58)]} []<| .cl 2 (xQ p s_) fun r_=> .r<| .cl 0 (dF [(0,59),(1,58),(2,57)] (vN r_.1 r_.2.1 r_.2.2.1 r_.2.2.2.1 r_.2.2.2.2.1 r_.2.2.2.2.2.1 r_.2.2.2.2.2.2.1 r_.2.2.2.2.2.2.2.1 r_.2.2.2.2.2.2.2.2.1 r_.2.2.2.2.2.2.2.2.2.1 r_.2.2.2.2.2.2.2.2.2.2 (⟨([]:(List (Int × Int)))⟩:aT))) fun v0=> .rf 59 [5] [] none 0 []<| .r<| .im (.adR 7 60 129 2 (wM aI.ev ([]:List aI)))<| .rg {an:=[(0, .map 0 (zZ (bO .i64) ([]:(List (Int × Int)))) (Bb (bO .i64) ([]:(List (Int × Int)))) [])],fr:=[(0,61)]} []<| .r<| .lp (σ:=((List aI) × (List (Int × Int)) × Int)) (β:=((List aI) × (List (Int × Int)))) (([]:List aI),([]:(List (Int × Int))),0) [] [] ⟨[2,3,5,8,31],[55,57,58],fun(u1,u2,u3)=>[(7,(vO 60 false u1.length)),(32,(vI u3))],fun(u1,u2,u3)=>(k73 u1 u2)⟩ ⟨[2,3,5,8],[55,57,58],fun(u9,u4)=>[(7,(vO 60 false u9.length))],fun(u9,u4)=>(k73 u9 u4)⟩
  (fun(u1,u2,u3)=> .r<| .it (.r<| .a1 (k74 u3 s_)<| .r<| .it (.r<| .e (.next (u1,u2,(k18 u3))))
  (.cr 2 (dF [(0,57)] (gy v0 u3)) fun u0=> .r<| .rg {an:=[(2, .look (bn aY u0 u2).isSome (WN u2 u0))]} [.pf ⟨fF [some .i64] 1 1 u2.length (zZ (bO .i64) u2) (Bb (bO .i64) u2) [(.int .i64 u0)] [(.d (.int .i64 0))] (bn aY u0 u2).isSome (WN u2 u0),oq (fun _=>rfl) (fun _ _=>rfl) u2 u0 0 rfl rfl rfl⟩]<| .r<| .it (.rg {an:=[(4, .map (UG u1 u2 u0).length (k78 u1 u2 u0) (k79 u1 u2 u0) [])]} [.pf ⟨wB [some .i64] 1 1 u2.length (zZ (bO .i64) u2) (Bb (bO .i64) u2) [(.int .i64 u0)] [(cI (u1.length:Int))] [] (UG u1 u2 u0).length (k78 u1 u2 u0) (k79 u1 u2 u0),Gb (fun _=>rfl) (fun _ _=>rfl) u2 u0 (u1.length:Int) rfl rfl⟩]<| .a2 (k80 u1) (u1.length+[(⟨([]:List Int),([]:List Int)⟩:aI)].length≤4611686018427387904)<| .rg {an:=[(2, .arr [(⟨([]:List Int),([]:List Int)⟩:aI)].length (uS 2 [nS,nS])),(3, .rows (SL u1).length (k82 u1))],fr:=[(2,86),(3,87)]} [.pf ⟨[(⟨([]:List Int),([]:List Int)⟩:aI)].length=1,rfl⟩, .pf ⟨aK 1 2 (uS 2 [nS,nS]) (uS 2 [nS,nS]),si _ _ _⟩, .e (u1.length),0,1, .pf ⟨(SL u1).length=u1.length+[(⟨([]:List Int),([]:List Int)⟩:aI)].length,List.length_append⟩, .pf ⟨Ef u1.length [(⟨([]:List Int),([]:List Int)⟩:aI)].length 2 (wM aI.ev u1) (uS 2 [nS,nS]) (k82 u1),R5 _ _ _ _ _ (by intro i hi j hj;match i,j,hi,hj with|0,0,_,_=>exact⟨rfl,_,_,_,rfl⟩|0,1,_,_=>exact⟨rfl,_,_,_,rfl⟩)⟩]<| .rg {an:=[(2, .look (k83 u1 u2 u0).isSome (k84 u1 u2 u0))]} [.pf ⟨fF [some .i64] 1 1 (UG u1 u2 u0).length (k78 u1 u2 u0) (k79 u1 u2 u0) [(.int .i64 u0)] [(.d (.int .i64 0))] (k83 u1 u2 u0).isSome (k84 u1 u2 u0),oq (fun _=>rfl) (fun _ _=>rfl) (UG u1 u2 u0) u0 0 rfl rfl rfl⟩]<| .a3 (k86 u1 u2 u0) (k87 u1 u2 u3 u0) (k92 u1 u2 u3 u0)<| .rg {an:=[(6, .take 88),(8, .arr [u3].length (aA (bO .i64) [u3])),(9, .arr (WM u1 u2 u3 u0).length (k94 u1 u2 u3 u0)),(12, .rows 0 (k95 u1 u2 u3 u0))],fr:=[(8,89),(9,90)]} [0, .t 0 (U2 u1 u2 u0) (k97 u1), .pf ⟨[u3].length=1,rfl⟩, .pf ⟨aK 1 1 (uS 1 [(.int .i64 u3)]) (aA (bO .i64) [u3]),(by intro i hi j hj;match i,j,hi,hj with|0,0,_,_=>rfl)⟩, .e (k98 u1 u2 u0),1,2, .pf ⟨(WM u1 u2 u3 u0).length=(UK u1 u2 u0).length+[u3].length,List.length_append⟩, .pf ⟨aK (k88 u1 u2 u3 u0) 1 (k99 u1 u2 u3 u0) (k94 u1 u2 u3 u0),iO _ _ _ _⟩,0, .t 0 (U2 u1 u2 u0) (k97 u1), .e (aaE u1 u2 u3 u0), .pf ⟨PE (SL u1).length 2 (aaC u1 u2 u3 u0) (k95 u1 u2 u3 u0),Ep _ _ _ _ _ _ _ _ rfl (fun j hj=>(match j,hj with|0,_=>rfl|1,_=>rfl))⟩, .pf ⟨∀i0 j0 c0,((some ((U2 u1 u2 u0).toNat,0,CV.own 88 false (UK u1 u2 u0).length)):Option (Nat × Nat × CV))=some (i0,j0,c0)→i0=(U2 u1 u2 u0).toNat∧j0=0,(fun i0 j0 c0 e=>by cases e;exact⟨rfl,rfl⟩)⟩]<| .im (.ll 87 (SL u1) (k96 u1 u2 u3 u0))<| .r<| .en (.next (ZW u1 u2 u3 u0)) [] [(87,60)])
  (.rg {an:=[(2, .look (bn aY u0 u2).isSome (WN u2 u0))]} [.pf ⟨fF [some .i64] 1 1 u2.length (zZ (bO .i64) u2) (Bb (bO .i64) u2) [(.int .i64 u0)] [(.d (.int .i64 0))] (bn aY u0 u2).isSome (WN u2 u0),oq (fun _=>rfl) (fun _ _=>rfl) u2 u0 0 rfl rfl rfl⟩]<| .a3 (Yr u1 u2 u0) ((Yf u1 u2 u3 u0)*8≤140737488355328) ((JW u1 u2 u0).length+[u3].length≤4611686018427387904)<| .rg {an:=[(6, .take 91),(8, .arr [u3].length (aA (bO .i64) [u3])),(9, .arr (OH u1 u2 u3 u0).length (Wy u1 u2 u3 u0)),(12, .rows 0 (Xt u1 u2 u3 u0))],fr:=[(8,92),(9,93)]} [0, .t 0 (Jm u2 u0) u1.length, .pf ⟨[u3].length=1,rfl⟩, .pf ⟨aK 1 1 (uS 1 [(.int .i64 u3)]) (aA (bO .i64) [u3]),(by intro i hi j hj;match i,j,hi,hj with|0,0,_,_=>rfl)⟩, .e ((JW u1 u2 u0).length),1,2, .pf ⟨(OH u1 u2 u3 u0).length=(JW u1 u2 u0).length+[u3].length,List.length_append⟩, .pf ⟨aK (Yf u1 u2 u3 u0) 1 (aaR u1 u2 u3 u0) (Wy u1 u2 u3 u0),iO _ _ _ _⟩,0, .t 0 (Jm u2 u0) u1.length, .e ((OH u1 u2 u3 u0).length), .pf ⟨PE u1.length 2 (aa0 u1 u2 u3 u0) (Xt u1 u2 u3 u0),Ep _ _ _ _ _ _ _ _ rfl (fun j hj=>(match j,hj with|0,_=>rfl|1,_=>rfl))⟩, .pf ⟨∀i0 j0 c0,((some ((Jm u2 u0).toNat,0,CV.own 91 false (JW u1 u2 u0).length)):Option (Nat × Nat × CV))=some (i0,j0,c0)→i0=(Jm u2 u0).toNat∧j0=0,(fun i0 j0 c0 e=>by cases e;exact⟨rfl,rfl⟩)⟩]<| .im (.ll 60 u1 (Wp u1 u2 u3 u0))<| .r<| .e (.next (aaO u1 u2 u3 u0)))))
  (.e (.done (.brk (u1,u2)))))
  (fun(u9,u4)=> .r<| .lp (σ:=((List aI) × Int)) (β:=(List aI)) (u9,0) [] [] ⟨[3,5,8,76,77],[57,58,61],fun(u5,u7)=>[(7,(vO 60 false u5.length)),(78,(vI u7))],fun(u5,u7)=>[(60,some (.rows 129 2 u5.length (wM aI.ev u5) none))]⟩ ⟨[],[],fun u8=>[(7,(vO 60 false u8.length))],fun u8=>[(60,some (.rows 129 2 u8.length (wM aI.ev u8) none))]⟩
  (fun(u5,u7)=> .r<| .it (.a1 (Ra u7 p)<| .rg {fr:=[(3,106)],fz:=[106]} []<| .a3 (YS s_ u7) (Ya s_ u7) (Xp s_ u7 p)<| .rg {} [0,1,2]<| .it (.cr 4 (dF [(0,57)] (gy v0 (Ou u7 p))) fun u6=> .rg {an:=[(5, .look (bn aY u6 u4).isSome (WN u4 u6))]} [0, .pf ⟨fF [some .i64] 1 1 u4.length (zZ (bO .i64) u4) (Bb (bO .i64) u4) [(.int .i64 u6)] [(.d (.int .i64 0))] (bn aY u6 u4).isSome (WN u4 u6),oq (fun _=>rfl) (fun _ _=>rfl) u4 u6 0 rfl rfl rfl⟩]<| .a3 (Yr u5 u4 u6) ((YC u7 u5 u6 u4)*8≤140737488355328) ((JM u5 u6 u4).length+[u7].length≤4611686018427387904)<| .rg {an:=[(6, .take 107),(8, .arr [u7].length (aA (bO .i64) [u7])),(9, .arr (O0 u7 u5 u6 u4).length (VY u7 u5 u6 u4)),(12, .rows 0 (XH u7 u5 u6 u4))],fr:=[(8,108),(9,109)]} [0, .t 0 (Jm u4 u6) u5.length, .pf ⟨[u7].length=1,rfl⟩, .pf ⟨aK 1 1 (uS 1 [(.int .i64 u7)]) (aA (bO .i64) [u7]),(by intro i hi j hj;match i,j,hi,hj with|0,0,_,_=>rfl)⟩, .e ((JM u5 u6 u4).length),1,2, .pf ⟨(O0 u7 u5 u6 u4).length=(JM u5 u6 u4).length+[u7].length,List.length_append⟩, .pf ⟨aK (YC u7 u5 u6 u4) 1 (aai u7 u5 u6 u4) (VY u7 u5 u6 u4),iO _ _ _ _⟩,0, .t 0 (Jm u4 u6) u5.length, .e ((O0 u7 u5 u6 u4).length), .pf ⟨PE u5.length 2 (ZX u7 u5 u6 u4) (XH u7 u5 u6 u4),Ep _ _ _ _ _ _ _ _ rfl (fun j hj=>(match j,hj with|0,_=>rfl|1,_=>rfl))⟩, .pf ⟨∀i0 j0 c0,((some ((Jm u4 u6).toNat,1,CV.own 107 false (JM u5 u6 u4).length)):Option (Nat × Nat × CV))=some (i0,j0,c0)→i0=(Jm u4 u6).toNat∧j0=1,(fun i0 j0 c0 e=>by cases e;exact⟨rfl,rfl⟩)⟩]<| .im (.ll 60 u5 (V6 u7 u5 u6 u4))<| .r<| .e (.next (aap u7 u5 u6 u4)))
  (.r<| .e (.next (u5,(k18 u7)))))
  (.e (.done (.brk u5))))
  (fun u8=> .r<| .fz [60]<| .im (.us 4 (vD (.sl none 2 u8.length (fun i j=>ZE (wM aI.ev u8 i j)))) (vD (aZ none 2 aI.cell u8)) (Aj.v (sF.one (ku.d (kF.sl (.inr rfl) (fun i _ j hj=>match j,hj with|0,_=> .refl _|1,_=> .refl _))))))<| .e u8)))
section
variable (p:au) (u0:Int) (u1:(List aI)) (u3:Int) (u2:(List Bool)) (u6:(List Bool))
abbrev TJ:=((1:Int)*p.buses≤281474976710656)
abbrev TA:=((p.buses:Int)≤9223372036854775807)
abbrev yA:=(List.replicate p.buses.toNat (false:Bool))
abbrev IL:=(aA ah (yA p))
abbrev SY:=((0:Int)≤u0∧u0<(u1.length:Int))
abbrev Yd:=((0:Int)≤u3∧u3<(((at' u1 u0.toNat).buses).length:Int))
abbrev Pm:=(at' ((at' u1 u0.toNat).buses) u3.toNat)
abbrev YX:=((0:Int)≤(Pm u0 u1 u3)∧(Pm u0 u1 u3)<(u2.length:Int))
abbrev Uf:=(u2.set ((Pm u0 u1 u3).toNat) (decide (0<(((at' u1 u0.toNat).sources).length:Int))))
abbrev Sk:=(aA ah (Uf u0 u1 u3 u2))
abbrev Yj:=(mU (aA ah u2) ((Pm u0 u1 u3).toNat) 0 [(.bool (decide (0<(((at' u1 u0.toNat).sources).length:Int))))])
abbrev WW:=((Uf u0 u1 u3 u2),(k18 u3))
abbrev OA:=(u6,(k18 u0))
end
theorem Eb (p:au) (s_:State):dH Tryz.prog 30 (Pz s_ p) [] (fun r=>(.iL [(sD (aZ none 1 ah r.1)),(sI r.2)])) (fun _=>[]) (fO p s_):=
  dO tT mX Tryz.func30 (
  .rg {fr:=[(0,7),(1,8)],fz:=[7,8]} []<| .cl 2 (dI p s_) fun r_=> .r<| .r<| .it (.r<| .e (([]:List Bool),r_))
  (.a3 ((0:Int)≤p.buses) (TJ p) (TA p)<| .rg {an:=[(2, .arr (yA p).length (IL p))],fr:=[(2,9)]} [0, .e ((p.buses:Int)),1,2, .pf ⟨(yA p).length=p.buses.toNat,List.length_replicate⟩, .pf ⟨aK p.buses.toNat 1 (fun _ j=>[(.bool false)].getD j .nilp) (IL p),l8 _ _ _ _ _ (fun j hj=>(match j,hj with|0,_=>rfl))⟩]<| .cl 2 (iC p s_) fun u1=> .r<| .lp (σ:=((List Bool) × Int)) (β:=(List Bool)) ((yA p),0) [] [] ⟨[23,24],[],fun(u4,u0)=>[(7,(vO 9 true u4.length)),(25,(vI u0))],fun(u4,u0)=>[(9,some (bD 4 1 ah u4))]⟩ ⟨[],[],fun u5=>[(7,(vO 9 true u5.length))],fun u5=>[(9,some (bD 4 1 ah u5))]⟩
  (fun(u4,u0)=> .r<| .it (.a1 (SY u0 u1)<| .rg {fr:=[(2,13)]} []<| .rg {fz:=[13]} []<| .lp (σ:=((List Bool) × Int)) (β:=(List Bool)) (u4,0) [] [] ⟨[9,23,24,25,30,31],[],fun(u2,u3)=>[(7,(vO 9 true u2.length)),(32,(vI u3))],fun(u2,u3)=>[(9,some (bD 4 1 ah u2))]⟩ ⟨[23,24,25],[],fun u6=>[(7,(vO 9 true u6.length))],fun u6=>[(9,some (bD 4 1 ah u6))]⟩
  (fun(u2,u3)=> .r<| .it (.a1 (Yd u0 u1 u3)<| .r<| .a1 (YX u0 u1 u3 u2)<| .rg {an:=[(7, .arr 0 (Sk u0 u1 u3 u2))]} [0, .t 0 (Pm u0 u1 u3) u2.length, .pf ⟨aK u2.length 1 (Yj u0 u1 u3 u2) (Sk u0 u1 u3 u2),aJ _ _ _ _ _ _ _ _ rfl (fun j hj=>(match j,hj with|0,_=>rfl))⟩]<| .im (.ll 9 u2 (Uf u0 u1 u3 u2))<| .r<| .e (.next (WW u0 u1 u3 u2)))
  (.e (.done (.brk u2))))
  (fun u6=> .r<| .e (.next (OA u0 u6))))
  (.e (.done (.brk u4))))
  (fun u5=> .rg {fz:=[9]} []<| .e (u5,0))))
theorem yt (x:Int):dH Tryz.prog 154 [(sI x)] [] (fun r=>(vB r)) (fun _=>[]) (tV x):=
  dO tT mX Tryz.func154 (
  .r<| .r<| .e (!decide (x=x)))
theorem Dk (x:Int) (y:Int):dH Tryz.prog 118 [(sI x),(sI y)] [] (fun r=>(vI r)) (fun _=>[]) (qp x y):=
  dO tT mX Tryz.func118 (
  .r<| .cl 1 (yt x) fun r_=> .r<| .cl 1 (yt y) fun u0=> .r<| .r<| .it (.r<| .it (.r<| .e 0)
  (.r<| .e (-1)))
  (.r<| .it (.r<| .e 1)
  (.r<| .it (.r<| .e (-1))
  (.r<| .it (.r<| .e 1)
  (.r<| .e 0)))))
theorem zP (s1:(List Int)) (s2:(List Int)):dH Tryz.prog 78 [(sD (QD s1)),(sD (QD s2))] [] (fun r=>(vI r)) (fun _=>[]) (qa s1 s2):=
  dO tT mX Tryz.func78 (
  .r<| .r<| .lp (σ:=Int) (β:=Unit) (0) [] [] ⟨[0,1,9,10],[],fun u0=>[(11,(vI u0))],fun u0=>[]⟩ ⟨[0,1],[],fun _=>[],fun _=>[]⟩
  (fun u0=> .r<| .it (.a1 (UH s1 u0)<| .r<| .r<| .it (.r<| .e (.done (.ret 1)))
  (.a1 (UH s2 u0)<| .r<| .cl 2 (Dk (at' s1 u0.toNat) (at' s2 u0.toNat)) fun r_=> .r<| .r<| .it (.r<| .e (.done (.ret r_)))
  (.r<| .e (.next (k18 u0)))))
  (.e (.done (.brk ()))))
  (fun _=> .r<| .it (.r<| .e (-1))
  (.r<| .e 0)))
theorem y8 (a:ay) (b:ay):dH Tryz.prog 77 [(.agg [(cI a.e0),(cI a.e1)]),(.agg [(cI b.e0),(cI b.e1)])] [] (fun r=>(vI r)) (fun _=>[]) (iW a b):=
  dO tT mX Tryz.func77 (
  .rg {fr:=[(0,2),(1,3)],fz:=[2,3]} []<| .cl 2 ⟨fun{r_} hr_=>((Fn.UM (args:=[(sD (aZ none 1 (bO .i64) [a.e0,a.e1])),(sD (aZ none 1 (bO .i64) [b.e0,b.e1]))]) (args':=[(sD (.sl (some true) 1 [a.e0,a.e1].length (fun i j=>([(.int .i64 a.e0),(.int .i64 a.e1)].getD (0+(i*1+j)) .nilp)))),(sD (.sl (some true) 1 [b.e0,b.e1].length (fun i j=>([(.int .i64 b.e0),(.int .i64 b.e1)].getD (0+(i*1+j)) .nilp))))]) (hin:=[]) (hin':=[]) (zP [a.e0,a.e1] [b.e0,b.e1] hr_) ⟨sF.one (ku.d (kF.sl (.inl rfl) (by intro i hi j hj;match i,j,hi,hj with|0,0,_,_=>exact .refl _|1,0,_,_=>exact .refl _))),sF.one (ku.d (kF.sl (.inl rfl) (by intro i hi j hj;match i,j,hi,hj with|0,0,_,_=>exact .refl _|1,0,_,_=>exact .refl _))),trivial⟩ trivial):Fn Tryz.prog 78 [(sD (.sl (some true) 1 [a.e0,a.e1].length (fun i j=>([(.int .i64 a.e0),(.int .i64 a.e1)].getD (0+(i*1+j)) .nilp)))),(sD (.sl (some true) 1 [b.e0,b.e1].length (fun i j=>([(.int .i64 b.e0),(.int .i64 b.e1)].getD (0+(i*1+j)) .nilp))))] [] (vI r_) [])⟩ fun r_=> .r<| .e r_)
theorem pJ (x y:ay):iW x y=some (if x.e0<y.e0 then -1 else if y.e0<x.e0 then 1 else if x.e1<y.e1 then -1 else if y.e1<x.e1 then 1 else 0):=by
 have hc: ∀a b:Int,qp a b=some (if a<b then -1 else if b<a then 1 else 0):=by
  intro a b
  unfold qp tV
  by_cases h:a<b<;>by_cases g:b<a<;>simp [h,g]
 obtain⟨k,hk⟩: ∃k,FUEL=k+1+1+1:=⟨1180591620717411303421,rfl⟩
 unfold iW qa
 rw [hk]
 simp only [aG,q8,hc,aL,at']
 by_cases h0:x.e0<y.e0<;>by_cases g0:y.e0<x.e0<;>by_cases h1:x.e1<y.e1<;>by_cases g1:y.e1<x.e1<;>simp [h0,g0,h1,g1,IntKind.wrap_i64]
theorem wX (x y:ay):iW x y=some (bg x y):=by unfold bg;rw [pJ];rfl
theorem iY (x y:ay):Go.Proofs.ltOf bg x y=true↔x.e0<y.e0∨ ¬ y.e0<x.e0∧x.e1<y.e1:=by
 unfold Go.Proofs.ltOf bg;rw [pJ,decide_eq_true_iff]
 by_cases h0:x.e0<y.e0<;>by_cases g0:y.e0<x.e0<;>by_cases h1:x.e1<y.e1<;>by_cases g1:y.e1<x.e1<;>simp [h0,g0,h1,g1]
theorem xV:Go.Sort.SWO (Go.Proofs.ltOf bg) where
 irrefl x:=by rw [←Bool.not_eq_true,iY];omega
 trans x y z h1 h2:=by rw [iY]at*;omega
 ntrans x y z h1 h2:=by rw [←Bool.not_eq_true,iY]at*;omega
theorem xJ (x y:ay) (h1:(Go.Proofs.ltOf bg) x y=false) (h2:(Go.Proofs.ltOf bg) y x=false):x=y:=by
 rw [←Bool.not_eq_true,iY]at h1 h2
 obtain⟨a,b⟩:=x
 obtain⟨c,d⟩:=y
 have e1:a=c:=by simp only at h1 h2;omega
 have e2:b=d:=by simp only at h1 h2;omega
 rw [e1,e2]
theorem yI (s:(List ay)) {r:(List ay)} (h:je s=some r):Fn Tryz.prog 76 [(.one (.own 0 false s.length)),(sD (.fn 77 0 (bA [])))] [(0,some (.arr 117 2 s.length (aA ay.cell s)))] (.iL []) [(0,some (.arr 117 2 r.length (aA ay.cell r)))]:=
 Vn Qd 2 Us QB (fun x:ay=>[.int .i64 x.e0, .int .i64 x.e1]) (fun _=>rfl) (fun x v hv=>by simp at hv;rcases hv with rfl|rfl<;>rfl) bg xV xJ (ec:=fun x=>[(cI x.e0),(cI x.e1)])
  (fun x y=>y8 x y (wX x y)) (fun F w x=> ⟨rfl,rfl,trivial⟩) (enters_of Tryz.func77 (by kernel_rfl) rfl)
  (fun F w x j hj v=>match j,hj with|0,_=>Iff.rfl|1,_=>Iff.rfl) 76 rfl ⟨_,Tryz.func76,rfl,rfl⟩ s (by cases s with|nil=>(cases h;simp)|cons x xs=>exact h)
section
variable (u6:(List ay)) (u1:Int) (u2:(List aI)) (u0:Int) (u3:Int) (p:au) (u4:(List ay))
abbrev OG:List (Nat × Option Ob):=[(138,some (bD 117 2 ay.cell u6))]
abbrev ZO:=((0:Int)≤(k18 u1)∧(k18 u1)≤(((at' u2 u0.toNat).sources).length:Int))
abbrev Wi:=((k18 u1).toNat)
abbrev Wz:=(((at' u2 u0.toNat).sources).drop (Wi u1))
abbrev aaB:=((0:Int)≤u3∧u3<((Wz u1 u2 u0).length:Int))
abbrev K8:=(at' ((at' u2 u0.toNat).sources) u1.toNat)
abbrev aaU:=((0:Int)≤(K8 u1 u2 u0)∧(K8 u1 u2 u0)<(p.sources.length:Int))
abbrev aas:=((gB [((decide (((at' p.sources ((K8 u1 u2 u0).toNat)).sync)=0)),false)]=true→(0:Int)≤(K8 u1 u2 u0)∧(K8 u1 u2 u0)<(p.sources.length:Int)))
abbrev SH:=(at' (Wz u1 u2 u0) u3.toNat)
abbrev Z9:=((gB [((decide (((at' p.sources ((K8 u1 u2 u0).toNat)).sync)=0)),false)]=true→(0:Int)≤(SH u1 u2 u0 u3)∧(SH u1 u2 u0 u3)<(p.sources.length:Int)))
abbrev Nr:=(⟨(K8 u1 u2 u0),(SH u1 u2 u0 u3)⟩:ay)
abbrev Y4:=(u4.length+[(Nr u1 u2 u0 u3)].length)
abbrev aad:=((Y4 u1 u2 u0 u3 u4)*16≤140737488355328)
abbrev ZI:=(u4.length+[(Nr u1 u2 u0 u3)].length≤4611686018427387904)
abbrev Vi:=(aA ay.cell [(Nr u1 u2 u0 u3)])
abbrev SX:=(u4++[(Nr u1 u2 u0 u3)])
abbrev Yt:=(aA ay.cell (SX u1 u2 u0 u3 u4))
abbrev ZL:=(uS 2 [(.int .i64 (K8 u1 u2 u0)),(.int .i64 (SH u1 u2 u0 u3))])
abbrev aaq:=(yO (aA ay.cell u4) u4.length (Vi u1 u2 u0 u3))
abbrev ZU:=((SX u1 u2 u0 u3 u4),(k18 u3))
abbrev Oq:=(u4,(k18 u3))
end
theorem Ba (p:au) (s_:State):dH Tryz.prog 32 (Pz s_ p) [] (fun r=>(.iL [(sD (aZ none 2 ay.cell r.1)),(sI r.2)])) (fun _=>[]) (nL p s_):=
  dO tT mX Tryz.func32 (
  .rg {fr:=[(0,134),(1,135)],fz:=[134,135]} []<| .cl 2 (dI p s_) fun r_=> .r<| .r<| .it (.r<| .e (([]:List ay),r_))
  (.r<| .cl 2 (iC p s_) fun u2=> .r<| .im (.ad 7 268 117 2 (aA ay.cell ([]:List ay)))<| .lp (σ:=((List ay) × Int)) (β:=(List ay)) (([]:List ay),0) [] [(268,138)] ⟨[2,22,23],[],fun(u6,u0)=>[(7,(vO 138 false u6.length)),(24,(vI u0))],fun(u6,u0)=>(OG u6)⟩ ⟨[],[],fun u5=>[(7,(vO 138 false u5.length))],fun u5=>(OG u5)⟩
  (fun(u6,u0)=> .r<| .it (.a1 (SY u0 u2)<| .rg {fr:=[(2,235)],fz:=[235]} []<| .r<| .lp (σ:=((List ay) × Int)) (β:=(List ay)) (u6,0) [] [] ⟨[2,9,22,23,24,29,30],[],fun(u7,u1)=>[(7,(vO 138 false u7.length)),(31,(vI u1))],fun(u7,u1)=>(OG u7)⟩ ⟨[2,22,23,24],[],fun u8=>[(7,(vO 138 false u8.length))],fun u8=>(OG u8)⟩
  (fun(u7,u1)=> .r<| .it (.a1 ((0:Int)≤u1∧u1<(((at' u2 u0.toNat).sources).length:Int))<| .r<| .a1 (ZO u1 u2 u0)<| .r<| .im (.us 40 (vD (.sl none 1 (((at' u2 u0.toNat).sources).length - (Wi u1)) (fun iq jq=>aA (bO .i64) ((at' u2 u0.toNat).sources) (iq+(Wi u1)) jq))) (vD (aZ none 1 (bO .i64) (Wz u1 u2 u0))) (Aj.v (sF.one (ku.d (kF.Zz (by simp only [List.length_set,List.length_drop,Bh]) (.inr rfl) (Wm _ _ _ _))))))<| .lp (σ:=((List ay) × Int)) (β:=(List ay)) (u7,0) [] [] ⟨[2,9,11,22,23,24,29,30,31,40,41],[],fun(u4,u3)=>[(7,(vO 138 false u4.length)),(42,(vI u3))],fun(u4,u3)=>(OG u4)⟩ ⟨[2,9,22,23,24,29,30,31],[],fun u9=>[(7,(vO 138 false u9.length))],fun u9=>(OG u9)⟩
  (fun(u4,u3)=> .r<| .it (.a1 (aaB u1 u2 u0 u3)<| .r<| .a3 (aaU u1 u2 u0 p) (aas u1 u2 u0 p) (Z9 u1 u2 u0 u3 p)<| .rg {} [0,1,2]<| .it (.a2 (aad u1 u2 u0 u3 u4) (ZI u1 u2 u0 u3 u4)<| .rg {an:=[(4, .arr [(Nr u1 u2 u0 u3)].length (Vi u1 u2 u0 u3)),(5, .arr (SX u1 u2 u0 u3 u4).length (Yt u1 u2 u0 u3 u4))],fr:=[(4,266),(5,267)]} [.pf ⟨[(Nr u1 u2 u0 u3)].length=1,rfl⟩, .pf ⟨aK 1 2 (ZL u1 u2 u0 u3) (Vi u1 u2 u0 u3),(by intro i hi j hj;match i,j,hi,hj with|0,0,_,_=>rfl|0,1,_,_=>rfl)⟩, .e (u4.length),0,1, .pf ⟨(SX u1 u2 u0 u3 u4).length=u4.length+[(Nr u1 u2 u0 u3)].length,List.length_append⟩, .pf ⟨aK (Y4 u1 u2 u0 u3 u4) 2 (aaq u1 u2 u0 u3 u4) (Yt u1 u2 u0 u3 u4),iO _ _ _ _⟩]<| .r<| .en (.next (ZU u1 u2 u0 u3 u4)) [] [(267,138)])
  (.r<| .e (.next (Oq u3 u4))))
  (.e (.done (.brk u4))))
  (fun u9=> .r<| .e (.next (Oq u1 u9))))
  (.e (.done (.brk u7))))
  (fun u8=> .r<| .e (.next (Oq u0 u8))))
  (.e (.done (.brk u6))))
  (fun u5=> .cl 1 (dF [(0,138)] ⟨fun h=>yI u5 h⟩) fun v0=> .r<| .a1 (u5.length=v0.length)<| .so 7 138 false u5.length v0.length 0<| .so 77 138 false u5.length v0.length 0<| .fz [138]<| .r<| .e (v0,0))))
theorem Au (p:au) (s_:State):dH Tryz.prog 30 (Pz s_ p) [] (fun r=>(.iL [(.one (.own 0 false r.1.length)),(sI r.2)])) (fun r=>[(0,some (bD 4 1 ah r.1))]) (fO p s_):=
  dO tT mX Tryz.func30 (
  .rg {fr:=[(0,7),(1,8)],fz:=[7,8]} []<| .cl 2 (dI p s_) fun r_=> .r<| .r<| .it (.r<| .im (.ad 4 9 4 1 (aA ah ([]:List Bool)))<| .en (([]:List Bool),r_) [] [(9,0)])
  (.a3 ((0:Int)≤p.buses) (TJ p) (TA p)<| .rg {an:=[(2, .arr (yA p).length (IL p))],fr:=[(2,10)]} [0, .e ((p.buses:Int)),1,2, .pf ⟨(yA p).length=p.buses.toNat,List.length_replicate⟩, .pf ⟨aK p.buses.toNat 1 (fun _ j=>[(.bool false)].getD j .nilp) (IL p),l8 _ _ _ _ _ (fun j hj=>(match j,hj with|0,_=>rfl))⟩]<| .cl 2 (iC p s_) fun u1=> .r<| .lp (σ:=((List Bool) × Int)) (β:=(List Bool)) ((yA p),0) [] [] ⟨[23,24],[],fun(u4,u0)=>[(7,(vO 10 true u4.length)),(25,(vI u0))],fun(u4,u0)=>[(10,some (bD 4 1 ah u4))]⟩ ⟨[],[],fun u5=>[(7,(vO 10 true u5.length))],fun u5=>[(10,some (bD 4 1 ah u5))]⟩
  (fun(u4,u0)=> .r<| .it (.a1 (SY u0 u1)<| .rg {fr:=[(2,14)]} []<| .rg {fz:=[14]} []<| .lp (σ:=((List Bool) × Int)) (β:=(List Bool)) (u4,0) [] [] ⟨[9,23,24,25,30,31],[],fun(u2,u3)=>[(7,(vO 10 true u2.length)),(32,(vI u3))],fun(u2,u3)=>[(10,some (bD 4 1 ah u2))]⟩ ⟨[23,24,25],[],fun u6=>[(7,(vO 10 true u6.length))],fun u6=>[(10,some (bD 4 1 ah u6))]⟩
  (fun(u2,u3)=> .r<| .it (.a1 (Yd u0 u1 u3)<| .r<| .a1 (YX u0 u1 u3 u2)<| .rg {an:=[(7, .arr 0 (Sk u0 u1 u3 u2))]} [0, .t 0 (Pm u0 u1 u3) u2.length, .pf ⟨aK u2.length 1 (Yj u0 u1 u3 u2) (Sk u0 u1 u3 u2),aJ _ _ _ _ _ _ _ _ rfl (fun j hj=>(match j,hj with|0,_=>rfl))⟩]<| .im (.ll 10 u2 (Uf u0 u1 u3 u2))<| .r<| .e (.next (WW u0 u1 u3 u2)))
  (.e (.done (.brk u2))))
  (fun u6=> .r<| .e (.next (OA u0 u6))))
  (.e (.done (.brk u4))))
  (fun u5=> .r<| .en (u5,0) [] [(10,0)])))
section
variable (p:au) (u0:Int) (r_:((List Bool) × Int)) (u1:(List aW))
abbrev BG:=((at' p.racks u0.toNat).feeds)
abbrev YR:List DV:=[(.int .i64 ((BG p u0).e0))]
abbrev Ur:List CV:=[(cI ((BG p u0).e0)),(cI ((BG p u0).e1))]
abbrev aaS:=((gB [((decide (0≤((BG p u0).e0))),true)]=true→(0:Int)≤(BG p u0).e0∧(BG p u0).e0<(r_.1.length:Int)))
abbrev YN:List DV:=[(.int .i64 ((BG p u0).e1))]
abbrev aa9:=((gB [((decide (0≤((BG p u0).e1))),true)]=true→(0:Int)≤(BG p u0).e1∧(BG p u0).e1<(r_.1.length:Int)))
abbrev YJ:=(bif (decide (0≤((BG p u0).e0)))then(at' r_.1 (((BG p u0).e0).toNat))else false)
abbrev YO:=(bif (decide (0≤((BG p u0).e1)))then(at' r_.1 (((BG p u0).e1).toNat))else false)
abbrev MP:=(⟨(YJ p u0 r_),(YO p u0 r_)⟩:aW)
abbrev Xh:=(u1.length+[(MP p u0 r_)].length)
abbrev aan:=((Xh p u0 r_ u1)*2≤140737488355328)
abbrev Z5:=(u1.length+[(MP p u0 r_)].length≤4611686018427387904)
abbrev V8:=(aA aW.cell [(MP p u0 r_)])
abbrev TL:=(u1++[(MP p u0 r_)])
abbrev Zi:=(aA aW.cell (TL p u0 r_ u1))
abbrev ZN:=(uS 2 [(.bool (YJ p u0 r_)),(.bool (YO p u0 r_))])
abbrev aam:=(yO (aA aW.cell u1) u1.length (V8 p u0 r_))
abbrev ZH:=((TL p u0 r_ u1),(k18 u0))
end
theorem Bj (p:au) (s_:State):dH Tryz.prog 31 (Pz s_ p) [] (fun r=>(.iL [(.one (.own 0 false r.1.length)),(sI r.2)])) (fun r=>[(0,some (bD 78 2 aW.cell r.1))]) (tX p s_):=
  dO tT mX Tryz.func31 (
  .rg {fr:=[(0,19),(1,20)],fz:=[20]} []<| .cl 2 (dF [(0,21)] (Au p s_)) fun r_=> .rg {fz:=[21]} []<| .r<| .it (.r<| .im (.ad 4 22 78 2 (aA aW.cell ([]:List aW)))<| .en (([]:List aW),r_.2) [] [(22,0)])
  (.r<| .r<| .im (.ad 8 39 78 2 (aA aW.cell ([]:List aW)))<| .lp (σ:=((List aW) × Int)) (β:=(List aW)) (([]:List aW),0) [] [(39,26)] ⟨[6,24,25],[],fun(u1,u0)=>[(8,(vO 26 false u1.length)),(26,(vI u0))],fun(u1,u0)=>[(26,some (bD 78 2 aW.cell u1))]⟩ ⟨[],[],fun u2=>[(8,(vO 26 false u2.length))],fun u2=>[(26,some (bD 78 2 aW.cell u2))]⟩
  (fun(u1,u0)=> .r<| .it (.a1 ((0:Int)≤u0∧u0<(p.racks.length:Int))<| .rg {fr:=[(2,35)],fz:=[35]} []<| .rg {fr:=[(0,36)]} []<| .r<| .ul 11<| .r<| .t<| .rg {an:=[(1, .vals (YR p u0))]} [.pf ⟨(0:Int)≤0∧(0:Int)<(2:Nat),(by decide)⟩, .pf ⟨0*1+1≤(Ur p u0).length,Nat.le_of_ble_eq_true rfl⟩, .pf ⟨((Ur p u0).drop (0*1)).take 1=(YR p u0).map .d,rfl⟩]<| .a1 (aaS p u0 r_)<| .rg {} [0, .pf ⟨(0:Int)≤0∧(0:Int)<(2:Nat),(by decide)⟩]<| .r<| .im (.dp [6,8,11,24,25,26,31,32])<| .r<| .t<| .rg {an:=[(1, .vals (YN p u0))]} [.pf ⟨(0:Int)≤1∧(1:Int)<(2:Nat),(by decide)⟩, .pf ⟨1*1+1≤(Ur p u0).length,Nat.le_of_ble_eq_true rfl⟩, .pf ⟨((Ur p u0).drop (1*1)).take 1=(YN p u0).map .d,rfl⟩]<| .a1 (aa9 p u0 r_)<| .rg {} [0, .pf ⟨(0:Int)≤1∧(1:Int)<(2:Nat),(by decide)⟩]<| .r<| .im (.dp [6,8,11,24,25,26,31,32])<| .r<| .f<| .a2 (aan p u0 r_ u1) (Z5 p u0 r_ u1)<| .rg {an:=[(2, .arr [(MP p u0 r_)].length (V8 p u0 r_)),(3, .arr (TL p u0 r_ u1).length (Zi p u0 r_ u1))],fr:=[(2,37),(3,38)]} [.pf ⟨[(MP p u0 r_)].length=1,rfl⟩, .pf ⟨aK 1 2 (ZN p u0 r_) (V8 p u0 r_),(by intro i hi j hj;match i,j,hi,hj with|0,0,_,_=>rfl|0,1,_,_=>rfl)⟩, .e (u1.length),0,1, .pf ⟨(TL p u0 r_ u1).length=u1.length+[(MP p u0 r_)].length,List.length_append⟩, .pf ⟨aK (Xh p u0 r_ u1) 2 (aam p u0 r_ u1) (Zi p u0 r_ u1),iO _ _ _ _⟩]<| .r<| .en (.next (ZH p u0 r_ u1)) [] [(38,26)])
  (.e (.done (.brk u1))))
  (fun u2=> .r<| .en (u2,0) [] [(26,0)])))
theorem Al (r_:Int) (x1:(List aW)):dH Tryz.prog 101 [(sI r_),(sD (En [(aZ none 2 aW.cell x1)] 0))] [] (fun r=>(vB r)) (fun _=>[]) (qV r_ x1):=
  dO tT mX Tryz.func101 (
  .r<| .a2 ((0:Int)≤r_∧r_<(x1.length:Int)) ((gB [((!((at' x1 r_.toNat).e0)),true)]=true→(0:Int)≤r_∧r_<(x1.length:Int)))<| .rg {} [0, .pf ⟨(0:Int)≤0∧(0:Int)<(2:Nat),(by decide)⟩,1, .pf ⟨(0:Int)≤1∧(1:Int)<(2:Nat),(by decide)⟩]<| .e (bif (!((at' x1 r_.toNat).e0))then(!((at' x1 r_.toNat).e1))else false))
section
variable (s_:(List Int)) (f_:(List aW))
abbrev YA:List SV:=[(sD (QD s_)),(sD (.fn 101 1 (bA [(En [(aZ none 2 aW.cell f_)] 0)])))]
end
theorem ru (s_:(List Int)) (f_:(List aW)):dH Tryz.prog 132 (YA s_ f_) [] (fun r=>(vI r)) (fun _=>[]) (jo s_ f_):=
  dO tT mX Tryz.func132 (
  .r<| .r<| .lp (σ:=Int) (β:=Unit) (0) [] [] ⟨[0,1,7],[],fun t8=>[(8,(vI t8))],fun t8=>[]⟩ ⟨[],[],fun _=>[],fun _=>[]⟩
  (fun t8=> .r<| .it (.r<| .cl 5 (Al (at' s_ t8.toNat) f_) fun r_=> .a1 (UH s_ t8)<| .rg {} [0,1]<| .it (.r<| .e (.done (.ret t8)))
  (.r<| .e (.next (k18 t8))))
  (.e (.done (.brk ()))))
  (fun _=> .r<| .e (-1)))
theorem qD (s_:(List Int)) (f_:(List aW)):dH Tryz.prog 97 (YA s_ f_) [] (fun r=>(vB r)) (fun _=>[]) (fe s_ f_):=
  dO tT mX Tryz.func97 (
  .r<| .cl 2 (ru s_ f_) fun r_=> .r<| .e (decide (0≤r_)))
theorem Cx (s_:(List Int)) (v_:Int):dH Tryz.prog 171 (X7 s_ v_) [] (fun r=>(vI r)) (fun _=>[]) (sS s_ v_):=
  dO tT mX Tryz.func171 (
  .r<| .r<| .lp (σ:=Int) (β:=Unit) (0) [] [] ⟨[0,1,7],[],fun t8=>[(8,(vI t8))],fun t8=>[]⟩ ⟨[],[],fun _=>[],fun _=>[]⟩
  (fun t8=> .r<| .it (.r<| .a1 (UH s_ t8)<| .r<| .it (.r<| .e (.done (.ret t8)))
  (.r<| .e (.next (k18 t8))))
  (.e (.done (.brk ()))))
  (fun _=> .r<| .e (-1)))
theorem qG (s_:(List Int)) (v_:Int):dH Tryz.prog 133 (X7 s_ v_) [] (fun r=>(vB r)) (fun _=>[]) (iT s_ v_):=
  dO tT mX Tryz.func133 (
  .r<| .cl 2 (Cx s_ v_) fun r_=> .r<| .e (decide (0≤r_)))
section
variable (p:au) (s_:State) (t:Task) (b:Int) (u1:Int) (u0:Int)
abbrev X8:List SV:=[(.agg (k1 p)),(.agg (zI s_)),(.agg (k2 t)),(sI b)]
abbrev Zd:=((0:Int)≤b∧b<(s_.earthed.length:Int))
abbrev Y7:=((gB [((decide ((Ou u1 p)=b)),true)]=true→(0:Int)≤u1∧u1<(s_.on_.length:Int)))
abbrev Bc:=((at' p.links u0.toNat).a)
abbrev Ew:=((at' p.links u0.toNat).b)
abbrev ZK:=(IntKind.wrap .i64 ((IntKind.wrap .i64 ((Bc p u0)+(Ew p u0))) - b))
abbrev Wn:=((bif (decide (((at' p.links u0.toNat).kind)=1))then true else(at' s_.closed u0.toNat)),false)
end
theorem DW (p:au) (s_:State) (t:Task) (b:Int):dH Tryz.prog 103 (X8 p s_ t b) [] (fun r=>(vB r)) (fun _=>[]) (rE p s_ t b):=
  dO tT mX Tryz.func103 (
  .rg {fr:=[(0,11),(1,12),(2,13)],fz:=[12,13]} []<| .a1 (Zd s_ b)<| .r<| .it (.r<| .e false)
  (.r<| .lp (σ:=Int) (β:=Unit) (0) [] [] ⟨[3,4,5,6,20,21],[11],fun u1=>[(22,(vI u1))],fun u1=>[]⟩ ⟨[3,4,5,6],[11],fun _=>[],fun _=>[]⟩
  (fun u1=> .r<| .it (.a1 (Ra u1 p)<| .rg {fr:=[(3,17)],fz:=[17]} []<| .a1 (Y7 p s_ b u1)<| .r<| .it (.r<| .e (.done (.ret false)))
  (.r<| .e (.next (k18 u1))))
  (.e (.done (.brk ()))))
  (fun _=> .r<| .lp (σ:=Int) (β:=Unit) (0) [] [] ⟨[3,5,6,40,41],[],fun u0=>[(42,(vI u0))],fun u0=>[]⟩ ⟨[],[],fun _=>[],fun _=>[]⟩
  (fun u0=> .r<| .it (.a1 (Ud p u0)<| .rg {fr:=[(3,21)],fz:=[21]} []<| .cg 20 [((bif (!decide ((Bc p u0)=b))then(!decide ((Ew p u0)=b))else false),false)] (qG t.crew (ZK p b u0)) fun r_=> .r<| .it (.r<| .e (.next (k18 u0)))
  (.a2 ((gB [((decide (((at' p.links u0.toNat).kind)=1)),false)]=true→(0:Int)≤u0∧u0<(s_.closed.length:Int))) ((gB [(Wn p s_ u0)]=true→(0:Int)≤u0∧u0<(s_.locked.length:Int)))<| .rg {} [0,1]<| .it (.r<| .e (.done (.ret false)))
  (.r<| .e (.next (k18 u0)))))
  (.e (.done (.brk ()))))
  (fun _=> .r<| .e true))))
section
variable (x3:(List Int)) (u9:(List Int)) (v0:(List af)) (v1:(List af)) (x2:(List Bool)) (u3:(List Bool)) (u4:(List Bool)) (u5:(List Bool)) (u6:(List Bool)) (u7:(List Bool)) (u8:(List Bool))
abbrev Yk:DV:=(En [(QD x3),(QD u9),(NP v0),(NP v1)] 0)
abbrev pG:=(⟨x2,u3,u4,u5,u6,u7,u8⟩:State)
end
theorem AZ (b:Int) (x1:Int) (u0:(List Source)) (u1:(List Link)) (u2:(List aV)) (x2:(List Bool)) (u3:(List Bool)) (u4:(List Bool)) (u5:(List Bool)) (u6:(List Bool)) (u7:(List Bool)) (u8:(List Bool)) (x3:(List Int)) (u9:(List Int)) (v0:(List af)) (v1:(List af)):dH Tryz.prog 102 [(sI b),(sD (k8 u0 x1 u1 u2)),(sD (Vj x2 u3 u4 u5 u6 u7 u8)),(sD (Yk x3 u9 v0 v1))] [] (fun r=>(vB r)) (fun _=>[]) (qU b x1 u0 u1 u2 x2 u3 u4 u5 u6 u7 u8 x3 u9 v0 v1):=
  dO tT mX Tryz.func102 (
  .r<| .cl 4 (DW (⟨x1,u0,u1,u2⟩:au) (pG x2 u3 u4 u5 u6 u7 u8) (⟨x3,u9,v0,v1⟩:Task) b) fun r_=> .r<| .e (!r_))
section
variable (s_:(List Int)) (f_:Int) (u0:(List Source)) (u1:(List Link)) (u2:(List aV)) (u3:(List Bool)) (u4:(List Bool)) (u5:(List Bool)) (u6:(List Bool)) (u7:(List Bool)) (u8:(List Bool)) (u9:(List Bool)) (v0:(List Int)) (v1:(List Int)) (v2:(List af)) (v3:(List af))
abbrev XM:List SV:=[(sD (QD s_)),(sD (.fn 102 3 (bA [(k8 u0 f_ u1 u2),(Vj u3 u4 u5 u6 u7 u8 u9),(Yk v0 v1 v2 v3)])))]
end
theorem rH (s_:(List Int)) (f_:Int) (u0:(List Source)) (u1:(List Link)) (u2:(List aV)) (u3:(List Bool)) (u4:(List Bool)) (u5:(List Bool)) (u6:(List Bool)) (u7:(List Bool)) (u8:(List Bool)) (u9:(List Bool)) (v0:(List Int)) (v1:(List Int)) (v2:(List af)) (v3:(List af)):dH Tryz.prog 132 (XM s_ f_ u0 u1 u2 u3 u4 u5 u6 u7 u8 u9 v0 v1 v2 v3) [] (fun r=>(vI r)) (fun _=>[]) (jl s_ f_ u0 u1 u2 u3 u4 u5 u6 u7 u8 u9 v0 v1 v2 v3):=
  dO tT mX Tryz.func132 (
  .r<| .r<| .lp (σ:=Int) (β:=Unit) (0) [] [] ⟨[0,1,7],[],fun t8=>[(8,(vI t8))],fun t8=>[]⟩ ⟨[],[],fun _=>[],fun _=>[]⟩
  (fun t8=> .r<| .it (.r<| .cl 5 (AZ (at' s_ t8.toNat) f_ u0 u1 u2 u3 u4 u5 u6 u7 u8 u9 v0 v1 v2 v3) fun r_=> .a1 (UH s_ t8)<| .rg {} [0,1]<| .it (.r<| .e (.done (.ret t8)))
  (.r<| .e (.next (k18 t8))))
  (.e (.done (.brk ()))))
  (fun _=> .r<| .e (-1)))
theorem qF (s_:(List Int)) (f_:Int) (u0:(List Source)) (u1:(List Link)) (u2:(List aV)) (u3:(List Bool)) (u4:(List Bool)) (u5:(List Bool)) (u6:(List Bool)) (u7:(List Bool)) (u8:(List Bool)) (u9:(List Bool)) (v0:(List Int)) (v1:(List Int)) (v2:(List af)) (v3:(List af)):dH Tryz.prog 97 (XM s_ f_ u0 u1 u2 u3 u4 u5 u6 u7 u8 u9 v0 v1 v2 v3) [] (fun r=>(vB r)) (fun _=>[]) (fo s_ f_ u0 u1 u2 u3 u4 u5 u6 u7 u8 u9 v0 v1 v2 v3):=
  dO tT mX Tryz.func97 (
  .r<| .cl 2 (rH s_ f_ u0 u1 u2 u3 u4 u5 u6 u7 u8 u9 v0 v1 v2 v3) fun r_=> .r<| .e (decide (0≤r_)))
section
variable (p:au) (s_:State) (t:Task)
abbrev VK:List SV:=[(.agg (k1 p)),(.agg (zI s_)),(.agg (k2 t))]
end
theorem wu (p:au) (s_:State) (t:Task):dH Tryz.prog 64 (VK p s_ t) [] (fun r=>(vI r)) (fun _=>[]) (nu p s_ t):=
  dO tT mX Tryz.func64 (
  .rg {fr:=[(0,5),(1,6),(2,7)],fz:=[5,6,7]} []<| .cl 2 (Eb p s_) fun r_=> .r<| .r<| .lp (σ:=Int) (β:=Unit) (0) [] [] ⟨[3,4,5,21,22],[],fun u0=>[(23,(vI u0))],fun u0=>[]⟩ ⟨[3,4,5],[],fun _=>[],fun _=>[]⟩
  (fun u0=> .r<| .it (.a1 ((0:Int)≤u0∧u0<(r_.1.length:Int))<| .r<| .a1 ((gB [((at' r_.1 u0.toNat),true)]=true→(0:Int)≤u0∧u0<(s_.earthed.length:Int)))<| .r<| .it (.r<| .e (.done (.ret 40)))
  (.r<| .e (.next (k18 u0))))
  (.e (.done (.brk ()))))
  (fun _=> .cl 2 (Ba p s_) fun u2=> .r<| .r<| .it (.r<| .e 41)
  (.cl 2 (dF [(0,8)] (Bj p s_)) fun u1=> .rg {fr:=[(6,9)],fz:=[8]} []<| .fz [9]<| .cl 3 (qD t.fed u1.1) fun u3=> .r<| .it (.r<| .e 42)
  (.cl 3 (qF t.crew p.buses p.sources p.links p.racks s_.closed s_.locked s_.badLink s_.on_ s_.badSource s_.earthed s_.badBus t.fed t.crew t.allowed t.goal) fun u4=> .r<| .it (.r<| .e 45)
  (.r<| .e 0)))))
theorem gW (p:au) (s_:State) (t:Task):dH Tryz.prog 23 (VK p s_ t) [] (fun r=>(vI r)) (fun _=>[]) (eY p s_ t):=
  dO tT mX Tryz.func23 (
  .rg {fr:=[(0,3),(1,4),(2,5)],fz:=[3,4,5]} []<| .cl 2 (dI p s_) fun r_=> .r<| .r<| .it (.r<| .e r_)
  (.cl 2 (Cm p t) fun u1=> .r<| .it (.r<| .e 1)
  (.cl 3 (wu p s_ t) fun u0=> .r<| .e u0)))
section
variable (s_:State)
abbrev RB:List SV:=[(.agg (zI s_))]
abbrev WK:=(Gj 280 (List.replicate 280 false) 0 s_.closed (Nat.min s_.closed.length 280))
abbrev YV:=(aA ah (WK s_))
abbrev VE:=(Gj 280 (WK s_) 40 s_.locked (Nat.min s_.locked.length 240))
abbrev XI:=(aA ah (VE s_))
abbrev Wu:=(Gj 280 (VE s_) 80 s_.badLink (Nat.min s_.badLink.length 200))
abbrev YU:=(aA ah (Wu s_))
abbrev Vd:=(Gj 280 (Wu s_) 120 s_.on_ (Nat.min s_.on_.length 160))
abbrev Yv:=(aA ah (Vd s_))
abbrev VB:=(Gj 280 (Vd s_) 160 s_.badSource (Nat.min s_.badSource.length 120))
abbrev Zm:=(aA ah (VB s_))
abbrev WG:=(Gj 280 (VB s_) 200 s_.earthed (Nat.min s_.earthed.length 80))
abbrev Zg:=(aA ah (WG s_))
abbrev X6:=(Gj 280 (WG s_) 240 s_.badBus (Nat.min s_.badBus.length 40))
end
theorem pY (s_:State):dH Tryz.prog 61 (RB s_) [] (fun r=>(.v (.agg (aaw 280 r)))) (fun _=>[]) (mZ s_):=
  dO tT mX Tryz.func61 (
  .rg {fr:=[(0,10),(1,11)],fz:=[10]} []<| .rg {an:=[(0, .arr 280 (aA ah (List.replicate 280 false)))],fr:=[(0,12)]} [.e (280), .pf ⟨aK 280 1 (fun i _=>(List.replicate 280 (DV.bool false)).getD i .nilp) (aA ah (List.replicate 280 false)),Vr 280⟩]<| .r<| .ul 11<| .r<| .t<| .rg {an:=[(1, .vals [(aZ none 1 ah s_.closed)])]} [.pf ⟨(0:Int)≤0∧(0:Int)<(7:Nat),(by decide)⟩, .pf ⟨0*1+1≤(zI s_).length,Nat.le_of_ble_eq_true rfl⟩, .pf ⟨((zI s_).drop (0*1)).take 1=[(aZ none 1 ah s_.closed)].map .d,rfl⟩]<| .rg {an:=[(4, .take 12)],fr:=[(2,13)]} [.e (280), .pf ⟨(0:Int)≤(0:Int)∧(0:Int)<(280:Nat),(by decide)⟩, .e (280)]<| .im (.uh 12 (some (.arr 115 1 280 (AA (aA ah (List.replicate 280 false)) 0 (aA ah s_.closed) (Nat.min s_.closed.length 280)))) (some (.arr 115 1 280 (YV s_))) (uq (Mt 280 (List.replicate 280 false) 0 s_.closed (Nat.min s_.closed.length 280))))<| .r<| .im (.dp [2,3,20,21])<| .r<| .t<| .rg {an:=[(1, .vals [(Uz s_)])]} [.pf ⟨(0:Int)≤1∧(1:Int)<(7:Nat),(by decide)⟩, .pf ⟨1*1+1≤(zI s_).length,Nat.le_of_ble_eq_true rfl⟩, .pf ⟨((zI s_).drop (1*1)).take 1=[(Uz s_)].map .d,rfl⟩]<| .rg {an:=[(4, .take 12)],fr:=[(2,14)]} [.e (280), .pf ⟨(0:Int)≤(40:Int)∧(40:Int)<(280:Nat),(by decide)⟩, .e (240)]<| .im (.uh 12 (some (.arr 115 1 280 (AA (YV s_) 40 (aA ah s_.locked) (Nat.min s_.locked.length 240)))) (some (.arr 115 1 280 (XI s_))) (uq (Mt 280 (WK s_) 40 s_.locked (Nat.min s_.locked.length 240))))<| .r<| .im (.dp [2,3,20,21])<| .r<| .t<| .rg {an:=[(1, .vals [(Ux s_)])]} [.pf ⟨(0:Int)≤2∧(2:Int)<(7:Nat),(by decide)⟩, .pf ⟨2*1+1≤(zI s_).length,Nat.le_of_ble_eq_true rfl⟩, .pf ⟨((zI s_).drop (2*1)).take 1=[(Ux s_)].map .d,rfl⟩]<| .rg {an:=[(4, .take 12)],fr:=[(2,15)]} [.e (280), .pf ⟨(0:Int)≤(80:Int)∧(80:Int)<(280:Nat),(by decide)⟩, .e (200)]<| .im (.uh 12 (some (.arr 115 1 280 (AA (XI s_) 80 (aA ah s_.badLink) (Nat.min s_.badLink.length 200)))) (some (.arr 115 1 280 (YU s_))) (uq (Mt 280 (VE s_) 80 s_.badLink (Nat.min s_.badLink.length 200))))<| .r<| .im (.dp [2,3,20,21])<| .r<| .t<| .rg {an:=[(1, .vals [(UD s_)])]} [.pf ⟨(0:Int)≤3∧(3:Int)<(7:Nat),(by decide)⟩, .pf ⟨3*1+1≤(zI s_).length,Nat.le_of_ble_eq_true rfl⟩, .pf ⟨((zI s_).drop (3*1)).take 1=[(UD s_)].map .d,rfl⟩]<| .rg {an:=[(4, .take 12)],fr:=[(2,16)]} [.e (280), .pf ⟨(0:Int)≤(120:Int)∧(120:Int)<(280:Nat),(by decide)⟩, .e (160)]<| .im (.uh 12 (some (.arr 115 1 280 (AA (YU s_) 120 (aA ah s_.on_) (Nat.min s_.on_.length 160)))) (some (.arr 115 1 280 (Yv s_))) (uq (Mt 280 (Wu s_) 120 s_.on_ (Nat.min s_.on_.length 160))))<| .r<| .im (.dp [2,3,20,21])<| .r<| .t<| .rg {an:=[(1, .vals [(UA s_)])]} [.pf ⟨(0:Int)≤4∧(4:Int)<(7:Nat),(by decide)⟩, .pf ⟨4*1+1≤(zI s_).length,Nat.le_of_ble_eq_true rfl⟩, .pf ⟨((zI s_).drop (4*1)).take 1=[(UA s_)].map .d,rfl⟩]<| .rg {an:=[(4, .take 12)],fr:=[(2,17)]} [.e (280), .pf ⟨(0:Int)≤(160:Int)∧(160:Int)<(280:Nat),(by decide)⟩, .e (120)]<| .im (.uh 12 (some (.arr 115 1 280 (AA (Yv s_) 160 (aA ah s_.badSource) (Nat.min s_.badSource.length 120)))) (some (.arr 115 1 280 (Zm s_))) (uq (Mt 280 (Vd s_) 160 s_.badSource (Nat.min s_.badSource.length 120))))<| .r<| .im (.dp [2,3,20,21])<| .r<| .t<| .rg {an:=[(1, .vals [(UU s_)])]} [.pf ⟨(0:Int)≤5∧(5:Int)<(7:Nat),(by decide)⟩, .pf ⟨5*1+1≤(zI s_).length,Nat.le_of_ble_eq_true rfl⟩, .pf ⟨((zI s_).drop (5*1)).take 1=[(UU s_)].map .d,rfl⟩]<| .rg {an:=[(4, .take 12)],fr:=[(2,18)]} [.e (280), .pf ⟨(0:Int)≤(200:Int)∧(200:Int)<(280:Nat),(by decide)⟩, .e (80)]<| .im (.uh 12 (some (.arr 115 1 280 (AA (Zm s_) 200 (aA ah s_.earthed) (Nat.min s_.earthed.length 80)))) (some (.arr 115 1 280 (Zg s_))) (uq (Mt 280 (VB s_) 200 s_.earthed (Nat.min s_.earthed.length 80))))<| .r<| .im (.dp [2,3,20,21])<| .r<| .t<| .rg {an:=[(1, .vals [(UZ s_)])]} [.pf ⟨(0:Int)≤6∧(6:Int)<(7:Nat),(by decide)⟩, .pf ⟨6*1+1≤(zI s_).length,Nat.le_of_ble_eq_true rfl⟩, .pf ⟨((zI s_).drop (6*1)).take 1=[(UZ s_)].map .d,rfl⟩]<| .rg {an:=[(4, .take 12)],fr:=[(2,19)]} [.e (280), .pf ⟨(0:Int)≤(240:Int)∧(240:Int)<(280:Nat),(by decide)⟩, .e (40)]<| .im (.uh 12 (some (.arr 115 1 280 (AA (Zg s_) 240 (aA ah s_.badBus) (Nat.min s_.badBus.length 40)))) (some (.arr 115 1 280 (aA ah (X6 s_)))) (uq (Mt 280 (WG s_) 240 s_.badBus (Nat.min s_.badBus.length 40))))<| .r<| .im (.dp [2,3,20,21])<| .r<| .f<| .rg {fz:=[11]} [.pf ⟨0+280≤280,(by decide)⟩, .pf ⟨1≤280,(by decide)⟩]<| .e (X6 s_))
theorem uE (s_:(List Bool)) (u0:Bool):dH Tryz.prog 91 [(sD (aZ (some u0) 1 ah s_))] [] (fun r=>(vD (aZ none 1 ah r))) (fun _=>[]) (pq s_ u0):=
  dO tT mX Tryz.func91 (
  .r<| .r<| .it (.r<| .e ([]:List Bool))
  (.a2 ((([]:List Bool).length+s_.length)*1≤140737488355328) (([]:List Bool).length+s_.length≤4611686018427387904)<| .rg {an:=[(0, .arr ([]:List Bool).length (aA ah ([]:List Bool))),(2, .arr (([]:List Bool)++s_).length (aA ah (([]:List Bool)++s_)))],fr:=[(0,2),(2,3)],fz:=[3]} [.pf ⟨([]:List Bool).length=0,rfl⟩, .pf ⟨aK 0 1 (uS 1 []) (aA ah ([]:List Bool)),(fun i hi=>absurd hi (Nat.not_lt_zero i))⟩, .e (([]:List Bool).length),0,1, .pf ⟨(([]:List Bool)++s_).length=([]:List Bool).length+s_.length,List.length_append⟩, .pf ⟨aK (([]:List Bool).length+s_.length) 1 (yO (aA ah ([]:List Bool)) ([]:List Bool).length (aA ah s_)) (aA ah (([]:List Bool)++s_)),iO _ _ _ _⟩]<| .e (([]:List Bool)++s_)))
theorem dZ (s:(List Bool)) {r:(List Bool)} (h:aj s=some r):Fn Tryz.prog 91 [(sD (aZ none 1 ah s))] [] (vD (aZ none 1 ah r)) []:=by
 refine Fn.nn (uE s true h) fun hl=> ?_
 have hs:s=[]:=List.eq_nil_of_length_eq_zero hl
 subst hs
 exact uE [] false (by rw [←h];kernel_rfl)
theorem uy (s_:State):dH Tryz.prog 53 (RB s_) [] (fun r=>(.v (.agg [(.d (aZ none 1 ah r.closed)),(.d (aZ none 1 ah r.locked)),(.d (aZ none 1 ah r.badLink)),(.d (aZ none 1 ah r.on_)),(.d (aZ none 1 ah r.badSource)),(.d (aZ none 1 ah r.earthed)),(.d (aZ none 1 ah r.badBus))]))) (fun _=>[]) (jM s_):=
  dO tT mX Tryz.func53 (
  .rg {fr:=[(0,3),(1,4)]} []<| .rg {an:=[(7, .cells)],fr:=[(7,5)]} []<| .ul 11<| .r<| .t<| .a1 ((0:Int)≤0∧0<(7:Int))<| .r<| .cl 4 ⟨fun h=>dZ s_.closed h⟩ fun r_=> .r<| .r<| .im (.dp [1,2,12,13,14])<| .r<| .t<| .a1 ((0:Int)≤1∧1<(7:Int))<| .r<| .cl 4 ⟨fun h=>dZ s_.locked h⟩ fun u0=> .r<| .r<| .im (.dp [1,2,12,13,14])<| .r<| .t<| .a1 ((0:Int)≤2∧2<(7:Int))<| .r<| .cl 4 ⟨fun h=>dZ s_.badLink h⟩ fun u1=> .r<| .r<| .im (.dp [1,2,12,13,14])<| .r<| .t<| .a1 ((0:Int)≤3∧3<(7:Int))<| .r<| .cl 4 ⟨fun h=>dZ s_.on_ h⟩ fun u2=> .r<| .r<| .im (.dp [1,2,12,13,14])<| .r<| .t<| .a1 ((0:Int)≤4∧4<(7:Int))<| .r<| .cl 4 ⟨fun h=>dZ s_.badSource h⟩ fun u3=> .r<| .r<| .im (.dp [1,2,12,13,14])<| .r<| .t<| .a1 ((0:Int)≤5∧5<(7:Int))<| .r<| .cl 4 ⟨fun h=>dZ s_.earthed h⟩ fun u4=> .r<| .r<| .im (.dp [1,2,12,13,14])<| .r<| .t<| .a1 ((0:Int)≤6∧6<(7:Int))<| .r<| .cl 4 ⟨fun h=>dZ s_.badBus h⟩ fun u5=> .r<| .r<| .im (.dp [1,2,12,13,14])<| .r<| .f<| .rg {fz:=[4]} []<| .e (pG r_ u0 u1 u2 u3 u4 u5))
end
end Sg
