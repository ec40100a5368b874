import Derived.Test.YtboodeobmgjjpaaGreatFaGm
import Derived.Test.YtboodeobmgjjpaaGreatProg
import Derived.Test.YtboodeobmgjjpaaGreatFaLd
set_option linter.all false
namespace Sg
open Go Go.Proofs
set_option maxRecDepth 20000
noncomputable section
noncomputable def TT:List (Nat × TI):=[(3,⟨Tryz.t3.desc,Tryz.t3.size,Tryz.t3.bytes,zl Tryz.t3,false⟩),
  (4,⟨Tryz.t4.desc,Tryz.t4.size,Tryz.t4.bytes,zl Tryz.t4,false⟩),
  (22,⟨Tryz.t22.desc,Tryz.t22.size,Tryz.t22.bytes,zl Tryz.t22,false⟩),
  (23,⟨Tryz.t23.desc,Tryz.t23.size,Tryz.t23.bytes,zl Tryz.t23,false⟩),
  (24,⟨Tryz.t24.desc,Tryz.t24.size,Tryz.t24.bytes,zl Tryz.t24,false⟩),
  (26,⟨Tryz.t25.desc,Tryz.t26.size,Tryz.t26.bytes,zl Tryz.t26,false⟩),
  (27,⟨Tryz.t27.desc,Tryz.t27.size,Tryz.t27.bytes,zl Tryz.t27,false⟩),
  (29,⟨Tryz.t28.desc,Tryz.t29.size,Tryz.t29.bytes,zl Tryz.t29,false⟩),
  (30,⟨Tryz.t30.desc,Tryz.t30.size,Tryz.t30.bytes,zl Tryz.t30,false⟩),
  (31,⟨Tryz.t31.desc,Tryz.t31.size,Tryz.t31.bytes,zl Tryz.t31,false⟩),
  (33,⟨Tryz.t32.desc,Tryz.t33.size,Tryz.t33.bytes,zl Tryz.t33,false⟩),
  (36,⟨Tryz.t36.desc,Tryz.t36.size,Tryz.t36.bytes,zl Tryz.t36,false⟩),
  (37,⟨Tryz.t3.desc,Tryz.t37.size,Tryz.t37.bytes,zl Tryz.t37,false⟩),
  (40,⟨Tryz.t32.desc,Tryz.t40.size,Tryz.t40.bytes,zl Tryz.t40,false⟩),
  (52,⟨Tryz.t3.desc,Tryz.t52.size,Tryz.t52.bytes,zl Tryz.t52,false⟩),
  (53,⟨Tryz.t53.desc,Tryz.t53.size,Tryz.t53.bytes,zl Tryz.t53,false⟩),
  (55,⟨Tryz.t54.desc,Tryz.t55.size,Tryz.t55.bytes,zl Tryz.t55,false⟩),
  (56,⟨Tryz.t3.desc,Tryz.t56.size,Tryz.t56.bytes,zl Tryz.t56,false⟩),
  (58,⟨Tryz.t57.desc,Tryz.t58.size,Tryz.t58.bytes,zl Tryz.t58,true⟩),
  (59,⟨Tryz.t3.desc,Tryz.t59.size,Tryz.t59.bytes,zl Tryz.t59,false⟩),
  (61,⟨Tryz.t60.desc,Tryz.t61.size,Tryz.t61.bytes,zl Tryz.t61,true⟩),
  (72,⟨Tryz.t72.desc,Tryz.t72.size,Tryz.t72.bytes,zl Tryz.t72,false⟩),
  (75,⟨Tryz.t75.desc,Tryz.t75.size,Tryz.t75.bytes,zl Tryz.t75,false⟩),
  (78,⟨Tryz.t78.desc,Tryz.t78.size,Tryz.t78.bytes,zl Tryz.t78,true⟩),
  (99,⟨Tryz.t99.desc,Tryz.t99.size,Tryz.t99.bytes,zl Tryz.t99,false⟩),
  (100,⟨Tryz.t100.desc,Tryz.t100.size,Tryz.t100.bytes,zl Tryz.t100,false⟩),
  (101,⟨Tryz.t101.desc,Tryz.t101.size,Tryz.t101.bytes,zl Tryz.t101,false⟩),
  (103,⟨Tryz.t102.desc,Tryz.t103.size,Tryz.t103.bytes,zl Tryz.t103,false⟩),
  (112,⟨Tryz.t112.desc,Tryz.t112.size,Tryz.t112.bytes,zl Tryz.t112,false⟩),
  (115,⟨Tryz.t114.desc,Tryz.t115.size,Tryz.t115.bytes,zl Tryz.t115,true⟩),
  (117,⟨Tryz.t117.desc,Tryz.t117.size,Tryz.t117.bytes,zl Tryz.t117,true⟩),
  (119,⟨Tryz.t118.desc,Tryz.t119.size,Tryz.t119.bytes,zl Tryz.t119,true⟩),
  (126,⟨Tryz.t126.desc,Tryz.t126.size,Tryz.t126.bytes,zl Tryz.t126,false⟩),
  (129,⟨Tryz.t128.desc,Tryz.t129.size,Tryz.t129.bytes,zl Tryz.t129,false⟩),
  (133,⟨Tryz.t133.desc,Tryz.t133.size,Tryz.t133.bytes,zl Tryz.t133,false⟩),
  (145,⟨Tryz.t145.desc,Tryz.t145.size,Tryz.t145.bytes,zl Tryz.t145,false⟩),
  (147,⟨Tryz.t146.desc,Tryz.t147.size,Tryz.t147.bytes,zl Tryz.t147,false⟩),
  (148,⟨Tryz.t148.desc,Tryz.t148.size,Tryz.t148.bytes,zl Tryz.t148,false⟩),
  (149,⟨Tryz.t149.desc,Tryz.t149.size,Tryz.t149.bytes,zl Tryz.t149,false⟩),
  (154,⟨Tryz.t154.desc,Tryz.t154.size,Tryz.t154.bytes,zl Tryz.t154,false⟩),
  (155,⟨Tryz.t155.desc,Tryz.t155.size,Tryz.t155.bytes,zl Tryz.t155,false⟩),
  (165,⟨Tryz.t165.desc,Tryz.t165.size,Tryz.t165.bytes,zl Tryz.t165,false⟩),
  (167,⟨Tryz.t166.desc,Tryz.t167.size,Tryz.t167.bytes,zl Tryz.t167,false⟩),
  (168,⟨Tryz.t168.desc,Tryz.t168.size,Tryz.t168.bytes,zl Tryz.t168,false⟩),
  (170,⟨Tryz.t170.desc,Tryz.t170.size,Tryz.t170.bytes,zl Tryz.t170,false⟩),
  (172,⟨Tryz.t171.desc,Tryz.t172.size,Tryz.t172.bytes,zl Tryz.t172,false⟩),
  (182,⟨Tryz.t182.desc,Tryz.t182.size,Tryz.t182.bytes,zl Tryz.t182,false⟩),
  (184,⟨Tryz.t183.desc,Tryz.t184.size,Tryz.t184.bytes,zl Tryz.t184,false⟩),
  (185,⟨Tryz.t185.desc,Tryz.t185.size,Tryz.t185.bytes,zl Tryz.t185,false⟩),
  (193,⟨Tryz.t193.desc,Tryz.t193.size,Tryz.t193.bytes,zl Tryz.t193,false⟩),
  (196,⟨Tryz.t196.desc,Tryz.t196.size,Tryz.t196.bytes,zl Tryz.t196,false⟩),
  (199,⟨Tryz.t199.desc,Tryz.t199.size,Tryz.t199.bytes,zl Tryz.t199,false⟩),
  (220,⟨Tryz.t219.desc,Tryz.t220.size,Tryz.t220.bytes,zl Tryz.t220,true⟩)]
theorem tT:rJ Tryz.prog TT:=⟨fU (by kernel_rfl) (by kernel_rfl) (by kernel_rfl),⟨iH,dw (by kernel_rfl)⟩,fU (by kernel_rfl) (by kernel_rfl) (by kernel_rfl),⟨iH,dw (by kernel_rfl)⟩,fU (by kernel_rfl) (by kernel_rfl) (by kernel_rfl),⟨iH,dw (by kernel_rfl)⟩,fU (by kernel_rfl) (by kernel_rfl) (by kernel_rfl),⟨iH,dw (by kernel_rfl)⟩,fU (by kernel_rfl) (by kernel_rfl) (by kernel_rfl),⟨iH,dw (by kernel_rfl)⟩,fU (by kernel_rfl) (by kernel_rfl) (by kernel_rfl),⟨iH,dw (by kernel_rfl)⟩,fU (by kernel_rfl) (by kernel_rfl) (by kernel_rfl),⟨iH,dw (by kernel_rfl)⟩,fU (by kernel_rfl) (by kernel_rfl) (by kernel_rfl),⟨iH,dw (by kernel_rfl)⟩,fU (by kernel_rfl) (by kernel_rfl) (by kernel_rfl),⟨iH,dw (by kernel_rfl)⟩,fU (by kernel_rfl) (by kernel_rfl) (by kernel_rfl),⟨iH,dw (by kernel_rfl)⟩,fU (by kernel_rfl) (by kernel_rfl) (by kernel_rfl),⟨iH,dw (by kernel_rfl)⟩,fU (by kernel_rfl) (by kernel_rfl) (by kernel_rfl),⟨iH,dw (by kernel_rfl)⟩,fU (by kernel_rfl) (by kernel_rfl) (by kernel_rfl),⟨iH,dw (by kernel_rfl)⟩,fU (by kernel_rfl) (by kernel_rfl) (by kernel_rfl),⟨iH,dw (by kernel_rfl)⟩,fU (by kernel_rfl) (by kernel_rfl) (by kernel_rfl),⟨iH,dw (by kernel_rfl)⟩,fU (by kernel_rfl) (by kernel_rfl) (by kernel_rfl),⟨iH,dw (by kernel_rfl)⟩,fU (by kernel_rfl) (by kernel_rfl) (by kernel_rfl),⟨iH,dw (by kernel_rfl)⟩,fU (by kernel_rfl) (by kernel_rfl) (by kernel_rfl),⟨iH,dw (by kernel_rfl)⟩,fU (by kernel_rfl) (by kernel_rfl) (by kernel_rfl),⟨fun _=> ⟨by kernel_rfl,by kernel_rfl⟩,dw (by kernel_rfl)⟩,fU (by kernel_rfl) (by kernel_rfl) (by kernel_rfl),⟨iH,dw (by kernel_rfl)⟩,fU (by kernel_rfl) (by kernel_rfl) (by kernel_rfl),⟨fun _=> ⟨by kernel_rfl,by kernel_rfl⟩,dw (by kernel_rfl)⟩,fU (by kernel_rfl) (by kernel_rfl) (by kernel_rfl),⟨iH,dw (by kernel_rfl)⟩,fU (by kernel_rfl) (by kernel_rfl) (by kernel_rfl),⟨iH,dw (by kernel_rfl)⟩,fU (by kernel_rfl) (by kernel_rfl) (by kernel_rfl),⟨fun _=> ⟨by kernel_rfl,by kernel_rfl⟩,dw (by kernel_rfl)⟩,fU (by kernel_rfl) (by kernel_rfl) (by kernel_rfl),⟨iH,dw (by kernel_rfl)⟩,fU (by kernel_rfl) (by kernel_rfl) (by kernel_rfl),⟨iH,dw (by kernel_rfl)⟩,fU (by kernel_rfl) (by kernel_rfl) (by kernel_rfl),⟨iH,dw (by kernel_rfl)⟩,fU (by kernel_rfl) (by kernel_rfl) (by kernel_rfl),⟨iH,dw (by kernel_rfl)⟩,fU (by kernel_rfl) (by kernel_rfl) (by kernel_rfl),⟨iH,dw (by kernel_rfl)⟩,fU (by kernel_rfl) (by kernel_rfl) (by kernel_rfl),⟨fun _=> ⟨by kernel_rfl,by kernel_rfl⟩,dw (by kernel_rfl)⟩,fU (by kernel_rfl) (by kernel_rfl) (by kernel_rfl),⟨fun _=> ⟨by kernel_rfl,by kernel_rfl⟩,dw (by kernel_rfl)⟩,fU (by kernel_rfl) (by kernel_rfl) (by kernel_rfl),⟨fun _=> ⟨by kernel_rfl,by kernel_rfl⟩,dw (by kernel_rfl)⟩,fU (by kernel_rfl) (by kernel_rfl) (by kernel_rfl),⟨iH,dw (by kernel_rfl)⟩,fU (by kernel_rfl) (by kernel_rfl) (by kernel_rfl),⟨iH,dw (by kernel_rfl)⟩,fU (by kernel_rfl) (by kernel_rfl) (by kernel_rfl),⟨iH,dw (by kernel_rfl)⟩,fU (by kernel_rfl) (by kernel_rfl) (by kernel_rfl),⟨iH,dw (by kernel_rfl)⟩,fU (by kernel_rfl) (by kernel_rfl) (by kernel_rfl),⟨iH,dw (by kernel_rfl)⟩,fU (by kernel_rfl) (by kernel_rfl) (by kernel_rfl),⟨iH,dw (by kernel_rfl)⟩,fU (by kernel_rfl) (by kernel_rfl) (by kernel_rfl),⟨iH,dw (by kernel_rfl)⟩,fU (by kernel_rfl) (by kernel_rfl) (by kernel_rfl),⟨iH,dw (by kernel_rfl)⟩,fU (by kernel_rfl) (by kernel_rfl) (by kernel_rfl),⟨iH,dw (by kernel_rfl)⟩,fU (by kernel_rfl) (by kernel_rfl) (by kernel_rfl),⟨iH,dw (by kernel_rfl)⟩,fU (by kernel_rfl) (by kernel_rfl) (by kernel_rfl),⟨iH,dw (by kernel_rfl)⟩,fU (by kernel_rfl) (by kernel_rfl) (by kernel_rfl),⟨iH,dw (by kernel_rfl)⟩,fU (by kernel_rfl) (by kernel_rfl) (by kernel_rfl),⟨iH,dw (by kernel_rfl)⟩,fU (by kernel_rfl) (by kernel_rfl) (by kernel_rfl),⟨iH,dw (by kernel_rfl)⟩,fU (by kernel_rfl) (by kernel_rfl) (by kernel_rfl),⟨iH,dw (by kernel_rfl)⟩,fU (by kernel_rfl) (by kernel_rfl) (by kernel_rfl),⟨iH,dw (by kernel_rfl)⟩,fU (by kernel_rfl) (by kernel_rfl) (by kernel_rfl),⟨iH,dw (by kernel_rfl)⟩,fU (by kernel_rfl) (by kernel_rfl) (by kernel_rfl),⟨iH,dw (by kernel_rfl)⟩,fU (by kernel_rfl) (by kernel_rfl) (by kernel_rfl),⟨iH,dw (by kernel_rfl)⟩,fU (by kernel_rfl) (by kernel_rfl) (by kernel_rfl),⟨iH,dw (by kernel_rfl)⟩,fU (by kernel_rfl) (by kernel_rfl) (by kernel_rfl),⟨fun _=> ⟨by kernel_rfl,by kernel_rfl⟩,dw (by kernel_rfl)⟩,trivial⟩
theorem mX:Tryz.prog.follows .mixedOrders=true:=by kernel_rfl
def IX:Go.Shelf.Ren:=⟨fun|6=>76|14=>116|15=>117|20=>144|21=>145|22=>146|23=>147|24=>148|25=>149|26=>150|27=>151|28=>152|29=>153|46=>176|47=>177|48=>178|49=>179|50=>180|57=>184|n=>n,fun|0=>0|3=>3|4=>4|5=>5|9=>9|22=>75|24=>117|25=>132|39=>181|45=>205|46=>206|50=>178|53=>212|55=>214|66=>228|70=>232|76=>237|77=>238|n=>n,fun n=>n⟩
theorem Qg:Go.Proofs.SlLaysF0.n6 Tryz.prog IX:=⟨by kernel_rfl,⟨Tryz.f76.name,by kernel_rfl,Tryz.func76.trans (congrArg some (by kernel_rfl))⟩,⟨Tryz.f116.name,by kernel_rfl,Tryz.func116.trans (congrArg some (by kernel_rfl))⟩,Tryz.func117.trans (congrArg some (by kernel_rfl)),⟨Tryz.f144.name,by kernel_rfl,Tryz.func144.trans (congrArg some (by kernel_rfl))⟩,⟨Tryz.f145.name,by kernel_rfl,Tryz.func145.trans (congrArg some (by kernel_rfl))⟩,⟨Tryz.f146.name,by kernel_rfl,Tryz.func146.trans (congrArg some (by kernel_rfl))⟩,⟨Tryz.f147.name,by kernel_rfl,Tryz.func147.trans (congrArg some (by kernel_rfl))⟩,⟨Tryz.f148.name,by kernel_rfl,Tryz.func148.trans (congrArg some (by kernel_rfl))⟩,⟨Tryz.f149.name,by kernel_rfl,Tryz.func149.trans (congrArg some (by kernel_rfl))⟩,⟨Tryz.f150.name,by kernel_rfl,Tryz.func150.trans (congrArg some (by kernel_rfl))⟩,⟨Tryz.f151.name,by kernel_rfl,Tryz.func151.trans (congrArg some (by kernel_rfl))⟩,Tryz.func152.trans (congrArg some (by kernel_rfl)),Tryz.func153.trans (congrArg some (by kernel_rfl)),⟨Tryz.f176.name,by kernel_rfl,Tryz.func176.trans (congrArg some (by kernel_rfl))⟩,Tryz.func177.trans (congrArg some (by kernel_rfl)),Tryz.func178.trans (congrArg some (by kernel_rfl)),⟨Tryz.f179.name,by kernel_rfl,Tryz.func179.trans (congrArg some (by kernel_rfl))⟩,⟨Tryz.f180.name,by kernel_rfl,Tryz.func180.trans (congrArg some (by kernel_rfl))⟩,⟨Tryz.f184.name,by kernel_rfl,Tryz.func184.trans (congrArg some (by kernel_rfl))⟩,Tryz.underlying0,Tryz.isAgg0,Tryz.sizeOf0,Tryz.zeroValue0,Tryz.underlying3,Tryz.isAgg3,Tryz.sizeOf3,Tryz.zeroValue3,Tryz.underlying4,Tryz.isAgg4,Tryz.sizeOf4,Tryz.zeroValue4,Tryz.underlying5,Tryz.isAgg5,Tryz.sizeOf5,Tryz.zeroValue5,Tryz.underlying9,Tryz.isAgg9,Tryz.sizeOf9,Tryz.zeroValue9,Tryz.underlying75,Tryz.isAgg75,Tryz.sizeOf75,Tryz.zeroValue75,Tryz.underlying132,Tryz.isAgg132,Tryz.sizeOf132,Tryz.zeroValue132,Tryz.underlying181,Tryz.isAgg181,Tryz.sizeOf181,Tryz.zeroValue181,Tryz.underlying205,Tryz.isAgg205,Tryz.sizeOf205,Tryz.zeroValue205,Tryz.underlying206,Tryz.isAgg206,Tryz.sizeOf206,Tryz.zeroValue206,Tryz.underlying178,Tryz.isAgg178,Tryz.sizeOf178,Tryz.zeroValue178,Tryz.underlying212,Tryz.isAgg212,Tryz.sizeOf212,Tryz.zeroValue212,Tryz.underlying214,Tryz.isAgg214,Tryz.sizeOf214,Tryz.zeroValue214,Tryz.underlying228,Tryz.isAgg228,Tryz.sizeOf228,Tryz.zeroValue228,Tryz.underlying232,Tryz.isAgg232,Tryz.sizeOf232,Tryz.zeroValue232,Tryz.underlying237,Tryz.isAgg237,Tryz.sizeOf237,Tryz.zeroValue237,Tryz.underlying238,Tryz.isAgg238,Tryz.sizeOf238,Tryz.zeroValue238⟩
theorem Uo (w:World):(isAgg (IX.t 24)).run Tryz.prog w= .ok true w:=Tryz.isAgg117 w
theorem Qp (w:World):(Go.sizeOf (IX.t 24)).run Tryz.prog w= .ok 2 w:=Tryz.sizeOf117 w
section
variable (p:au) (t:Task)
abbrev k1:List CV:=[(cI p.buses),(.d (aS none 5 Source.cell p.sources)),(.d (aS none 6 Link.cell p.links)),(.d (aS none 4 aV.cell p.racks))]
abbrev k3:DV:=(aS none 1 (bM .i64) t.crew)
abbrev k4:DV:=(aS none 2 af.cell t.allowed)
abbrev k5:DV:=(aS none 2 af.cell t.goal)
abbrev k2:List CV:=[(.d (aS none 1 (bM .i64) t.fed)),(.d (k3 t)),(.d (k4 t)),(.d (k5 t))]
abbrev k0:List SV:=[(.agg (k1 p)),(.agg (k2 t))]
end
theorem F8 (p:au) (t:Task):dG Tryz.prog 11 (k0 p t) [] (fun r=>(vB r)) (fun _=>[]) (yC p t):=
  dR tT mX Tryz.func11 (
  .rg {fr:=[(0,2),(1,3)],fz:=[2,3]} []<| .r<| .e (bif (bif (bif (bif (bif (bif (decide (60<(p.sources.length:Int)))then true else(decide (60<(p.links.length:Int))))then true else(decide (60<(p.racks.length:Int))))then true else(decide (60<(t.fed.length:Int))))then true else(decide (60<(t.crew.length:Int))))then true else(decide (60<(t.allowed.length:Int))))then true else(decide (60<(t.goal.length:Int)))))
theorem aO (n:Int) (u0:Int) (u1:Int):dG Tryz.prog 123 [(sI n),(sI u0),(sI u1)] [] (fun r=>(vB r)) (fun _=>[]) (aU n u0 u1):=
  dR tT mX Tryz.func123 (
  .r<| .r<| .e (bif (decide (u0≤n))then(decide (n≤u1))else false))
section
variable (p:au)
abbrev k6:List SV:=[(.agg (k1 p))]
end
theorem Ci (p:au):dG Tryz.prog 125 (k6 p) [] (fun r=>(vD (.fn 163 1 (bn [(Ej [(.int .i64 r.1),(aS none 5 Source.cell r.2.1),(aS none 6 Link.cell r.2.2.1),(aS none 4 aV.cell r.2.2.2)] 0)])))) (fun _=>[]) (sK p):=
  dR tT mX Tryz.func125 (
  .rg {fr:=[(0,1)],fz:=[1]} []<| .r<| .e (p.buses,p.sources,p.links,p.racks))
theorem Eb (p:au):dG Tryz.prog 127 (k6 p) [] (fun r=>(vD (.fn 166 1 (bn [(Ej [(.int .i64 r.1),(aS none 5 Source.cell r.2.1),(aS none 6 Link.cell r.2.2.1),(aS none 4 aV.cell r.2.2.2)] 0)])))) (fun _=>[]) (wZ p):=
  dR tT mX Tryz.func127 (
  .rg {fr:=[(0,1)],fz:=[1]} []<| .r<| .e (p.buses,p.sources,p.links,p.racks))
theorem DT (p:au):dG Tryz.prog 129 (k6 p) [] (fun r=>(vD (.fn 169 1 (bn [(Ej [(.int .i64 r.1),(aS none 5 Source.cell r.2.1),(aS none 6 Link.cell r.2.2.1),(aS none 4 aV.cell r.2.2.2)] 0)])))) (fun _=>[]) (wO p):=
  dR tT mX Tryz.func129 (
  .rg {fr:=[(0,1)],fz:=[1]} []<| .r<| .e (p.buses,p.sources,p.links,p.racks))
section
variable (x:Source) (u2:(List Source)) (x1:Int) (u3:(List Link)) (u4:(List aV)) (r_:Bool) (u0:Bool) (u1:Bool) (u5:Bool) (u6:Bool)
abbrev k7:List CV:=[(cI x.bus),(cI x.kind),(cI x.power),(cI x.sync),(cI x.ohm)]
abbrev k9:DV:=(aS none 5 Source.cell u2)
abbrev k8:DV:=(Ej [(.int .i64 x1),(k9 u2),(aS none 6 Link.cell u3),(aS none 4 aV.cell u4)] 0)
abbrev k10:=(IntKind.wrap .i64 (x1 - 1))
abbrev k11:=((bif r_ then u0 else false),true)
abbrev k12:=((bif (bif r_ then u0 else false)then u1 else false),true)
abbrev k13:=(bif (bif (bif r_ then u0 else false)then u1 else false)then u5 else false)
abbrev k14:=(bif (k13 r_ u0 u1 u5)then u6 else false)
end
theorem zN (x:Source) (x1:Int) (u2:(List Source)) (u3:(List Link)) (u4:(List aV)):dG Tryz.prog 163 [(.agg (k7 x)),(sD (k8 u2 x1 u3 u4))] [] (fun r=>(vB r)) (fun _=>[]) (mI x x1 u2 u3 u4):=
  dR tT mX Tryz.func163 (
  .rg {fr:=[(0,1)],fz:=[1]} []<| .cl 5 (aO x.bus 0 (k10 x1)) fun r_=> .cg 9 [(r_,true)] (aO x.kind 1 3) fun u0=> .cg 14 [(k11 r_ u0)] (aO x.power 1 100000) fun u1=> .cg 19 [(k12 r_ u0 u1)] (aO x.sync 0 8) fun u5=> .cg 24 [((k13 r_ u0 u1 u5),true)] (aO x.ohm 10 100000) fun u6=> .r<| .e (k14 r_ u0 u1 u5 u6))
section
variable (x1:Int) (u0:(List Source)) (u1:(List Link)) (u2:(List aV))
abbrev k16:=(bn [(k8 u0 x1 u1 u2)])
abbrev k15:DV:=(Ej [(.fn 163 1 (k16 x1 u0 u1 u2))] 0)
end
theorem Cc (x:Source) (x1:Int) (u0:(List Source)) (u1:(List Link)) (u2:(List aV)):dG Tryz.prog 162 [(.agg (k7 x)),(sD (k15 x1 u0 u1 u2))] [] (fun r=>(vB r)) (fun _=>[]) (tO x x1 u0 u1 u2):=
  dR tT mX Tryz.func162 (
  .rg {fr:=[(0,1)],fz:=[1]} []<| .cl 2 (zN x x1 u0 u1 u2) fun r_=> .r<| .e (!r_))
section
variable (s_:(List Source)) (f_:Int) (u0:(List Source)) (u1:(List Link)) (u2:(List aV)) (t8:Int)
abbrev k17:List SV:=[(sD (k9 s_)),(sD (.fn 162 1 (bn [(k15 f_ u0 u1 u2)])))]
abbrev k18:=(IntKind.wrap .i64 (t8+1))
end
theorem xL (s_:(List Source)) (f_:Int) (u0:(List Source)) (u1:(List Link)) (u2:(List aV)):dG Tryz.prog 181 (k17 s_ f_ u0 u1 u2) [] (fun r=>(vI r)) (fun _=>[]) (nY s_ f_ u0 u1 u2):=
  dR tT mX Tryz.func181 (
  .r<| .r<| .lp (σ:=Int) (β:=Unit) (0) [] [] ⟨[0,1,7],[],fun t8=>[(8,(vI t8))],fun t8=>[]⟩ ⟨[],[],fun _=>[],fun _=>[]⟩
  (fun t8=> .r<| .it (.r<| .cl 5 (Cc (at' s_ t8.toNat) f_ u0 u1 u2) fun r_=> .a1 ((0:Int)≤t8∧t8<(s_.length:Int))<| .rg {} [0,1]<| .it (.r<| .e (.done (.ret t8)))
  (.r<| .e (.next (k18 t8))))
  (.e (.done (.brk ()))))
  (fun _=> .r<| .e (-1)))
theorem vC (s_:(List Source)) (f_:Int) (u0:(List Source)) (u1:(List Link)) (u2:(List aV)):dG Tryz.prog 161 (k17 s_ f_ u0 u1 u2) [] (fun r=>(vB r)) (fun _=>[]) (iB s_ f_ u0 u1 u2):=
  dR tT mX Tryz.func161 (
  .r<| .cl 2 (xL s_ f_ u0 u1 u2) fun r_=> .r<| .e (decide (0≤r_)))
theorem D9 (l:(List Source)) (u0:Int) (u1:Int) (u2:(List Source)) (u3:(List Link)) (u4:(List aV)):dG Tryz.prog 124 [(sD (k9 l)),(sI u0),(sD (.fn 163 1 (k16 u1 u2 u3 u4)))] [] (fun r=>(vB r)) (fun _=>[]) (rF l u0 u1 u2 u3 u4):=
  dR tT mX Tryz.func124 (
  .rg {fr:=[(0,1)],fz:=[1]} []<| .cg 7 [((decide ((l.length:Int)≤u0)),true)] (vC l u1 u2 u3 u4) fun r_=> .r<| .e (bif (decide ((l.length:Int)≤u0))then(!r_)else false))
section
variable (x:Link) (u0:Int)
abbrev k19:List CV:=[(cI x.a),(cI x.b),(cI x.kind),(cI x.most),(cI x.ohm),(.d (aS none 2 oD.cell x.trip))]
abbrev k20:=((decide (((at' x.trip u0.toNat).amps)≤((at' x.trip ((k10 u0).toNat)).amps))),false)
end
theorem Be (x:Link) (x1:Int) (u3:(List Source)) (u4:(List Link)) (u5:(List aV)):dG Tryz.prog 166 [(.agg (k19 x)),(sD (k8 u3 x1 u4 u5))] [] (fun r=>(vB r)) (fun _=>[]) (pu x x1 u3 u4 u5):=
  dR tT mX Tryz.func166 (
  .rg {fr:=[(0,5)]} []<| .cl 5 (aO x.a 0 (k10 x1)) fun r_=> .cg 13 [((!r_),false)] (aO x.b 0 (k10 x1)) fun u1=> .cg 26 [((bif (bif (!r_)then true else(!u1))then true else(decide (x.a=x.b))),false)] (aO x.kind 1 3) fun u6=> .cg 32 [((bif (bif (bif (!r_)then true else(!u1))then true else(decide (x.a=x.b)))then true else(!u6)),false)] (aO x.most 1 100000) fun u8=> .cg 38 [((bif (bif (bif (bif (!r_)then true else(!u1))then true else(decide (x.a=x.b)))then true else(!u6))then true else(!u8)),false)] (aO x.ohm 10 100000) fun u9=> .r<| .it (.r<| .e false)
  (.rg {fz:=[5]} []<| .lp (σ:=Int) (β:=Unit) (0) [] [] ⟨[2,48,49],[],fun u0=>[(50,(vI u0))],fun u0=>[]⟩ ⟨[2],[],fun _=>[],fun _=>[]⟩
  (fun u0=> .r<| .it (.a1 ((0:Int)≤u0∧u0<(x.trip.length:Int))<| .rg {fr:=[(3,9)],fz:=[9]} []<| .cl 2 (aO ((at' x.trip u0.toNat).amps) 1 1000000) fun u2=> .cg 7 [((!u2),false)] (aO ((at' x.trip u0.toNat).millis) 1 100000) fun u7=> .a2 ((gB [((decide (0<u0)),true),((bif (!u2)then true else(!u7)),false)]=true→(0:Int)≤(k10 u0)∧(k10 u0)<(x.trip.length:Int))) ((gB [(k20 x u0),((decide (0<u0)),true),((bif (!u2)then true else(!u7)),false)]=true→(0:Int)≤(k10 u0)∧(k10 u0)<(x.trip.length:Int)))<| .rg {} [3,2,0,1]<| .it (.r<| .e (.done (.ret false)))
  (.r<| .e (.next (k18 u0))))
  (.e (.done (.brk ()))))
  (fun _=> .r<| .e (bif (decide ((x.trip.length:Int)≤6))then(bif (decide ((x.trip.length:Int)=0))then true else(decide (x.kind=3)))else false))))
section
variable (x1:Int) (u0:(List Source)) (u1:(List Link)) (u2:(List aV))
abbrev k21:DV:=(Ej [(.fn 166 1 (k16 x1 u0 u1 u2))] 0)
end
theorem yZ (x:Link) (x1:Int) (u0:(List Source)) (u1:(List Link)) (u2:(List aV)):dG Tryz.prog 165 [(.agg (k19 x)),(sD (k21 x1 u0 u1 u2))] [] (fun r=>(vB r)) (fun _=>[]) (o8 x x1 u0 u1 u2):=
  dR tT mX Tryz.func165 (
  .rg {fr:=[(0,1)],fz:=[1]} []<| .cl 2 (Be x x1 u0 u1 u2) fun r_=> .r<| .e (!r_))
section
variable (s_:(List Link)) (f_:Int) (u0:(List Source)) (u1:(List Link)) (u2:(List aV)) (t8:Int)
abbrev k22:List SV:=[(sD (aS none 6 Link.cell s_)),(sD (.fn 165 1 (bn [(k21 f_ u0 u1 u2)])))]
abbrev k23:=((0:Int)≤t8∧t8<(s_.length:Int))
end
theorem vz (s_:(List Link)) (f_:Int) (u0:(List Source)) (u1:(List Link)) (u2:(List aV)):dG Tryz.prog 182 (k22 s_ f_ u0 u1 u2) [] (fun r=>(vI r)) (fun _=>[]) (kX s_ f_ u0 u1 u2):=
  dR tT mX Tryz.func182 (
  .r<| .r<| .lp (σ:=Int) (β:=Unit) (0) [] [] ⟨[0,1,7],[],fun t8=>[(8,(vI t8))],fun t8=>[]⟩ ⟨[],[],fun _=>[],fun _=>[]⟩
  (fun t8=> .r<| .it (.r<| .cl 5 (yZ (at' s_ t8.toNat) f_ u0 u1 u2) fun r_=> .a1 (k23 s_ t8)<| .rg {} [0,1]<| .it (.r<| .e (.done (.ret t8)))
  (.r<| .e (.next (k18 t8))))
  (.e (.done (.brk ()))))
  (fun _=> .r<| .e (-1)))
theorem rH (s_:(List Link)) (f_:Int) (u0:(List Source)) (u1:(List Link)) (u2:(List aV)):dG Tryz.prog 164 (k22 s_ f_ u0 u1 u2) [] (fun r=>(vB r)) (fun _=>[]) (fM s_ f_ u0 u1 u2):=
  dR tT mX Tryz.func164 (
  .r<| .cl 2 (vz s_ f_ u0 u1 u2) fun r_=> .r<| .e (decide (0≤r_)))
theorem BA (l:(List Link)) (u0:Int) (u1:Int) (u2:(List Source)) (u3:(List Link)) (u4:(List aV)):dG Tryz.prog 126 [(sD (aS none 6 Link.cell l)),(sI u0),(sD (.fn 166 1 (k16 u1 u2 u3 u4)))] [] (fun r=>(vB r)) (fun _=>[]) (o5 l u0 u1 u2 u3 u4):=
  dR tT mX Tryz.func126 (
  .rg {fr:=[(0,1)],fz:=[1]} []<| .cg 7 [((decide ((l.length:Int)≤u0)),true)] (rH l u1 u2 u3 u4) fun r_=> .r<| .e (bif (decide ((l.length:Int)≤u0))then(!r_)else false))
section
variable (x:aV)
abbrev k24:List CV:=[(cI x.feeds.e0),(cI x.feeds.e1),(cI x.power),(cI x.paths)]
end
theorem Dc (x:aV):dG Tryz.prog 170 [(.agg (k24 x))] [] (fun r=>(vI r)) (fun _=>[]) (qm x):=
  dR tT mX Tryz.func170 (
  .rg {fr:=[(0,1)],fz:=[1]} []<| .rg {} [.pf ⟨(0:Int)≤1∧(1:Int)<(2:Nat),(by decide)⟩]<| .it (.r<| .e 1)
  (.r<| .e 2))
section
variable (r_:Bool) (u0:Bool) (x:aV) (u1:Bool)
abbrev k26:=(bif (bif (bif r_ then u0 else false)then(!decide (x.feeds.e0=x.feeds.e1))else false)then u1 else false)
abbrev k25:=((k26 r_ u0 x u1),true)
end
theorem BN (x:aV) (x1:Int) (u2:(List Source)) (u3:(List Link)) (u4:(List aV)):dG Tryz.prog 169 [(.agg (k24 x)),(sD (k8 u2 x1 u3 u4))] [] (fun r=>(vB r)) (fun _=>[]) (oF x x1 u2 u3 u4):=
  dR tT mX Tryz.func169 (
  .rg {fr:=[(0,1)],fz:=[1]} []<| .rg {} [.pf ⟨(0:Int)≤0∧(0:Int)<(2:Nat),(by decide)⟩, .pf ⟨(0:Int)≤1∧(1:Int)<(2:Nat),(by decide)⟩]<| .cl 4 (aO x.feeds.e0 0 (k10 x1)) fun r_=> .cg 10 [(r_,true)] (aO x.feeds.e1 (-1) (k10 x1)) fun u0=> .cg 20 [((bif (bif r_ then u0 else false)then(!decide (x.feeds.e0=x.feeds.e1))else false),true)] (aO x.power 1 100000) fun u1=> .cg 26 [(k25 r_ u0 x u1)] (Dc x) fun u5=> .cg 27 [(k25 r_ u0 x u1)] (aO x.paths 0 u5) fun u6=> .r<| .e (bif (k26 r_ u0 x u1)then u6 else false))
section
variable (x1:Int) (u0:(List Source)) (u1:(List Link)) (u2:(List aV))
abbrev k27:DV:=(Ej [(.fn 169 1 (k16 x1 u0 u1 u2))] 0)
end
theorem yH (x:aV) (x1:Int) (u0:(List Source)) (u1:(List Link)) (u2:(List aV)):dG Tryz.prog 168 [(.agg (k24 x)),(sD (k27 x1 u0 u1 u2))] [] (fun r=>(vB r)) (fun _=>[]) (o9 x x1 u0 u1 u2):=
  dR tT mX Tryz.func168 (
  .rg {fr:=[(0,1)],fz:=[1]} []<| .cl 2 (BN x x1 u0 u1 u2) fun r_=> .r<| .e (!r_))
section
variable (s_:(List aV)) (f_:Int) (u0:(List Source)) (u1:(List Link)) (u2:(List aV))
abbrev k28:List SV:=[(sD (aS none 4 aV.cell s_)),(sD (.fn 168 1 (bn [(k27 f_ u0 u1 u2)])))]
end
theorem uR (s_:(List aV)) (f_:Int) (u0:(List Source)) (u1:(List Link)) (u2:(List aV)):dG Tryz.prog 183 (k28 s_ f_ u0 u1 u2) [] (fun r=>(vI r)) (fun _=>[]) (kV s_ f_ u0 u1 u2):=
  dR tT mX Tryz.func183 (
  .r<| .r<| .lp (σ:=Int) (β:=Unit) (0) [] [] ⟨[0,1,7],[],fun t8=>[(8,(vI t8))],fun t8=>[]⟩ ⟨[],[],fun _=>[],fun _=>[]⟩
  (fun t8=> .r<| .it (.r<| .cl 5 (yH (⟨((at' s_ t8.toNat).feeds),(at' s_ t8.toNat).power,(at' s_ t8.toNat).paths⟩:aV) f_ u0 u1 u2) fun r_=> .a1 ((0:Int)≤t8∧t8<(s_.length:Int))<| .rg {} [0,1]<| .it (.r<| .e (.done (.ret t8)))
  (.r<| .e (.next (k18 t8))))
  (.e (.done (.brk ()))))
  (fun _=> .r<| .e (-1)))
theorem rE (s_:(List aV)) (f_:Int) (u0:(List Source)) (u1:(List Link)) (u2:(List aV)):dG Tryz.prog 167 (k28 s_ f_ u0 u1 u2) [] (fun r=>(vB r)) (fun _=>[]) (fP s_ f_ u0 u1 u2):=
  dR tT mX Tryz.func167 (
  .r<| .cl 2 (uR s_ f_ u0 u1 u2) fun r_=> .r<| .e (decide (0≤r_)))
theorem Cm (l:(List aV)) (u0:Int) (u1:Int) (u2:(List Source)) (u3:(List Link)) (u4:(List aV)):dG Tryz.prog 128 [(sD (aS none 4 aV.cell l)),(sI u0),(sD (.fn 169 1 (k16 u1 u2 u3 u4)))] [] (fun r=>(vB r)) (fun _=>[]) (pF l u0 u1 u2 u3 u4):=
  dR tT mX Tryz.func128 (
  .rg {fr:=[(0,1)],fz:=[1]} []<| .cg 7 [((decide ((l.length:Int)≤u0)),true)] (rE l u1 u2 u3 u4) fun r_=> .r<| .e (bif (decide ((l.length:Int)≤u0))then(!r_)else false))
theorem CO (p:au):dG Tryz.prog 89 (k6 p) [] (fun r=>(vI r)) (fun _=>[]) (qz p):=
  dR tT mX Tryz.func89 (
  .rg {fr:=[(0,1)],fz:=[1]} []<| .cl 2 (aO p.buses 1 24) fun r_=> .r<| .it (.r<| .e 10)
  (.cl 3 (Ci p) fun u0=> .cl 4 (D9 p.sources 8 u0.1 u0.2.1 u0.2.2.1 u0.2.2.2) fun u3=> .r<| .it (.r<| .e 11)
  (.cl 3 (Eb p) fun u1=> .cl 4 (BA p.links 40 u1.1 u1.2.1 u1.2.2.1 u1.2.2.2) fun u4=> .r<| .it (.r<| .e 12)
  (.cl 3 (DT p) fun u2=> .cl 4 (Cm p.racks 24 u2.1 u2.2.1 u2.2.2.1 u2.2.2.2) fun u5=> .r<| .it (.r<| .e 13)
  (.r<| .e 0)))))
section
variable (s_:State) (p:au) (u0:Int)
abbrev UW:DV:=(aS none 1 ah s_.locked)
abbrev U3:DV:=(aS none 1 ah s_.badLink)
abbrev UR:DV:=(aS none 1 ah s_.on_)
abbrev U2:DV:=(aS none 1 ah s_.badSource)
abbrev U0:DV:=(aS none 1 ah s_.earthed)
abbrev Uz:DV:=(aS none 1 ah s_.badBus)
abbrev zG:List CV:=[(.d (aS none 1 ah s_.closed)),(.d (UW s_)),(.d (U3 s_)),(.d (UR s_)),(.d (U2 s_)),(.d (U0 s_)),(.d (Uz s_))]
abbrev Pw:List SV:=[(.agg (k1 p)),(.agg (zG s_))]
abbrev Ye:=(⟨s_.closed,(p.links.length:Int)⟩:cu)
abbrev Zi:=(⟨s_.locked,(p.links.length:Int)⟩:cu)
abbrev Yq:=(⟨s_.badLink,(p.links.length:Int)⟩:cu)
abbrev Y2:=(⟨s_.on_,(p.sources.length:Int)⟩:cu)
abbrev Yr:=(⟨s_.badSource,(p.sources.length:Int)⟩:cu)
abbrev k42:=(ay cu.cell [(Ye s_ p),(Zi s_ p),(Yq s_ p),(Y2 s_ p),(Yr s_ p),(⟨s_.earthed,p.buses⟩:cu),(⟨s_.badBus,p.buses⟩:cu)])
abbrev RO:=((0:Int)≤u0∧u0<(p.links.length:Int))
abbrev k44:=((gB [((decide (((at' p.links u0.toNat).kind)=1)),true)]=true→(0:Int)≤u0∧u0<(s_.closed.length:Int)))
abbrev k45:=((gB [((!(at' s_.closed u0.toNat)),false),((decide (((at' p.links u0.toNat).kind)=1)),true)]=true→(0:Int)≤u0∧u0<(s_.locked.length:Int)))
end
theorem dI (p:au) (s_:State):dG Tryz.prog 62 (Pw s_ p) [] (fun r=>(vI r)) (fun _=>[]) (dQ p s_):=
  dR tT mX Tryz.func62 (
  .rg {fr:=[(0,11),(1,12)]} []<| .cl 1 (CO p) fun r_=> .r<| .r<| .it (.r<| .e r_)
  (.r<| .rg {an:=[(30, .arr [(Ye s_ p),(Zi s_ p),(Yq s_ p),(Y2 s_ p),(Yr s_ p),(⟨s_.earthed,p.buses⟩:cu),(⟨s_.badBus,p.buses⟩:cu)].length (k42 s_ p))],fr:=[(30,13)],fz:=[12]} [.pf ⟨[(Ye s_ p),(Zi s_ p),(Yq s_ p),(Y2 s_ p),(Yr s_ p),(⟨s_.earthed,p.buses⟩:cu),(⟨s_.badBus,p.buses⟩:cu)].length=7,rfl⟩, .pf ⟨aK 7 2 (rq 2 [(aS none 1 ah s_.closed),(.int .i64 (p.links.length:Int)),(UW s_),(.int .i64 (p.links.length:Int)),(U3 s_),(.int .i64 (p.links.length:Int)),(UR s_),(.int .i64 (p.sources.length:Int)),(U2 s_),(.int .i64 (p.sources.length:Int)),(U0 s_),(.int .i64 p.buses),(Uz s_),(.int .i64 p.buses)]) (k42 s_ p),(by intro i hi j hj;match i,j,hi,hj with|0,0,_,_=>rfl|0,1,_,_=>rfl|1,0,_,_=>rfl|1,1,_,_=>rfl|2,0,_,_=>rfl|2,1,_,_=>rfl|3,0,_,_=>rfl|3,1,_,_=>rfl|4,0,_,_=>rfl|4,1,_,_=>rfl|5,0,_,_=>rfl|5,1,_,_=>rfl|6,0,_,_=>rfl|6,1,_,_=>rfl)⟩]<| .lp (σ:=Int) (β:=Unit) (0) [] [] ⟨[2,3,53,54],[11,13],fun u1=>[(55,(vI u1))],fun u1=>[]⟩ ⟨[2,3],[11],fun _=>[],fun _=>[]⟩
  (fun u1=> .r<| .it (.a1 ((0:Int)≤u1∧u1<([(Ye s_ p),(Zi s_ p),(Yq s_ p),(Y2 s_ p),(Yr s_ p),(⟨s_.earthed,p.buses⟩:cu),(⟨s_.badBus,p.buses⟩:cu)].length:Int))<| .rg {fr:=[(2,17)],fz:=[17]} [0, .t 0 u1 ([(Ye s_ p),(Zi s_ p),(Yq s_ p),(Y2 s_ p),(Yr s_ p),(⟨s_.earthed,p.buses⟩:cu),(⟨s_.badBus,p.buses⟩:cu)].length)]<| .r<| .it (.r<| .e (.done (.ret 9)))
  (.r<| .e (.next (k18 u1))))
  (.e (.done (.brk ()))))
  (fun _=> .r<| .lp (σ:=Int) (β:=Unit) (0) [] [] ⟨[3,67,68],[],fun u0=>[(69,(vI u0))],fun u0=>[]⟩ ⟨[],[],fun _=>[],fun _=>[]⟩
  (fun u0=> .r<| .it (.a1 (RO p u0)<| .rg {fr:=[(3,21)],fz:=[21]} []<| .a2 (k44 s_ p u0) (k45 s_ p u0)<| .rg {} [0,1]<| .it (.r<| .e (.done (.ret 9)))
  (.r<| .e (.next (k18 u0))))
  (.e (.done (.brk ()))))
  (fun _=> .r<| .e 0))))
theorem xZ (i:Int) (x1:Int):dG Tryz.prog 98 [(sI i),(sD (Ej [(.int .i64 x1)] 0))] [] (fun r=>(vB r)) (fun _=>[]) (nT i x1):=
  dR tT mX Tryz.func98 (
  .r<| .r<| .e (bif (decide (i<0))then true else(decide (x1≤i))))
section
variable (s_:(List Int)) (t8:Int)
abbrev Q7:DV:=(aS none 1 (bM .i64) s_)
abbrev UI:=((0:Int)≤t8∧t8<(s_.length:Int))
end
theorem uP (s_:(List Int)) (f_:Int):dG Tryz.prog 132 [(sD (Q7 s_)),(sD (.fn 98 1 (bn [(Ej [(.int .i64 f_)] 0)])))] [] (fun r=>(vI r)) (fun _=>[]) (kQ s_ f_):=
  dR tT mX Tryz.func132 (
  .r<| .r<| .lp (σ:=Int) (β:=Unit) (0) [] [] ⟨[0,1,7],[],fun t8=>[(8,(vI t8))],fun t8=>[]⟩ ⟨[],[],fun _=>[],fun _=>[]⟩
  (fun t8=> .r<| .it (.r<| .cl 5 (xZ (at' s_ t8.toNat) f_) fun r_=> .a1 (UI s_ t8)<| .rg {} [0,1]<| .it (.r<| .e (.done (.ret t8)))
  (.r<| .e (.next (k18 t8))))
  (.e (.done (.brk ()))))
  (fun _=> .r<| .e (-1)))
theorem tJ (s_:(List Int)) (f_:Int):dG Tryz.prog 97 [(sD (Q7 s_)),(sD (.fn 98 1 (bn [(Ej [(.int .i64 f_)] 0)])))] [] (fun r=>(vB r)) (fun _=>[]) (gq s_ f_):=
  dR tT mX Tryz.func97 (
  .r<| .cl 2 (uP s_ f_) fun r_=> .r<| .e (decide (0≤r_)))
section
variable (l:(List Int)) (n:Int)
abbrev YF:List SV:=[(sD (Q7 l)),(sI n)]
end
theorem q8 (l:(List Int)) (n:Int):dG Tryz.prog 96 (YF l n) [] (fun r=>(vB r)) (fun _=>[]) (jD l n):=
  dR tT mX Tryz.func96 (
  .rg {fr:=[(0,1)],fz:=[1]} []<| .cg 6 [((decide ((l.length:Int)≤24)),true)] (tJ l n) fun r_=> .r<| .e (bif (decide ((l.length:Int)≤24))then(!r_)else false))
section
variable (x:af) (p:au)
abbrev SH:List CV:=[(cI x.deed),(cI x.index)]
abbrev k49:List SV:=[(.agg (k1 p)),(.agg (SH x))]
abbrev Zx:=((gB [((bif (decide (0≤x.index))then(decide (x.index<(p.links.length:Int)))else false),true)]=true→(0:Int)≤x.index∧x.index<(p.links.length:Int)))
abbrev Zt:=(bif (bif (decide (0≤x.index))then(decide (x.index<(p.links.length:Int)))else false)then(!decide (((at' p.links x.index.toNat).kind)=1))else false)
abbrev TR:=(decide (x.index<p.buses))
abbrev Uv:=(bif (decide (0≤x.index))then(TR x p)else false)
abbrev LY:=(decide (x.index<(p.sources.length:Int)))
abbrev L8:=(bif (decide (0≤x.index))then(LY x p)else false)
abbrev L6:=((gB [((bif (decide (0≤x.index))then(decide (x.index<0))else false),true)]=true→(0:Int)≤x.index∧x.index<(p.links.length:Int)))
abbrev Mc:=(bif (bif (decide (0≤x.index))then(decide (x.index<0))else false)then(!decide (((at' p.links x.index.toNat).kind)=1))else false)
end
theorem tY (p:au) (x:af):dG Tryz.prog 79 (k49 x p) [] (fun r=>(vB r)) (fun _=>[]) (l8 p x):=
  dR tT mX Tryz.func79 (
  .rg {fr:=[(0,2),(1,3)],fz:=[2,3]} []<| .r<| .r<| .r<| .it (.it (.r<| .a1 (Zx x p)<| .r<| .e (Zt x p))
  (.r<| .it (.it (.r<| .e (Uv x p))
  (.r<| .it (.it (.r<| .e (L8 x p))
  (.a1 (L6 x p)<| .r<| .e (Mc x p)))
  (.r<| .it (.r<| .e (L8 x p))
  (.a1 (L6 x p)<| .r<| .e (Mc x p)))))
  (.r<| .it (.r<| .e (Uv x p))
  (.r<| .it (.it (.r<| .e (L8 x p))
  (.a1 (L6 x p)<| .r<| .e (Mc x p)))
  (.r<| .it (.r<| .e (L8 x p))
  (.a1 (L6 x p)<| .r<| .e (Mc x p)))))))
  (.r<| .it (.it (.r<| .a1 (Zx x p)<| .r<| .e (Zt x p))
  (.r<| .it (.it (.r<| .e (Uv x p))
  (.r<| .it (.it (.r<| .e (L8 x p))
  (.a1 (L6 x p)<| .r<| .e (Mc x p)))
  (.r<| .it (.r<| .e (L8 x p))
  (.a1 (L6 x p)<| .r<| .e (Mc x p)))))
  (.r<| .it (.r<| .e (Uv x p))
  (.r<| .it (.it (.r<| .e (L8 x p))
  (.a1 (L6 x p)<| .r<| .e (Mc x p)))
  (.r<| .it (.r<| .e (L8 x p))
  (.a1 (L6 x p)<| .r<| .e (Mc x p)))))))
  (.r<| .it (.it (.r<| .a1 (Zx x p)<| .r<| .e (Zt x p))
  (.r<| .it (.it (.r<| .e (Uv x p))
  (.r<| .it (.it (.r<| .e (L8 x p))
  (.a1 (L6 x p)<| .r<| .e (Mc x p)))
  (.r<| .it (.r<| .e (L8 x p))
  (.a1 (L6 x p)<| .r<| .e (Mc x p)))))
  (.r<| .it (.r<| .e (Uv x p))
  (.r<| .it (.it (.r<| .e (L8 x p))
  (.a1 (L6 x p)<| .r<| .e (Mc x p)))
  (.r<| .it (.r<| .e (L8 x p))
  (.a1 (L6 x p)<| .r<| .e (Mc x p)))))))
  (.r<| .it (.r<| .a1 (Zx x p)<| .r<| .e (Zt x p))
  (.r<| .it (.it (.r<| .e (Uv x p))
  (.r<| .it (.it (.r<| .e (L8 x p))
  (.a1 (L6 x p)<| .r<| .e (Mc x p)))
  (.r<| .it (.r<| .e (L8 x p))
  (.a1 (L6 x p)<| .r<| .e (Mc x p)))))
  (.r<| .it (.r<| .e (Uv x p))
  (.r<| .it (.it (.r<| .e (L8 x p))
  (.a1 (L6 x p)<| .r<| .e (Mc x p)))
  (.r<| .it (.r<| .e (L8 x p))
  (.a1 (L6 x p)<| .r<| .e (Mc x p))))))))))
theorem xS (x:af) (x1:Int) (u0:(List Source)) (u1:(List Link)) (u2:(List aV)):dG Tryz.prog 100 [(.agg (SH x)),(sD (k8 u0 x1 u1 u2))] [] (fun r=>(vB r)) (fun _=>[]) (nX x x1 u0 u1 u2):=
  dR tT mX Tryz.func100 (
  .rg {fr:=[(0,1)],fz:=[1]} []<| .cl 2 (tY (⟨x1,u0,u1,u2⟩:au) x) fun r_=> .r<| .e (!r_))
section
variable (s_:(List af)) (f_:Int) (u0:(List Source)) (u1:(List Link)) (u2:(List aV)) (t8:Int)
abbrev NA:DV:=(aS none 2 af.cell s_)
abbrev k59:List SV:=[(sD (NA s_)),(sD (.fn 100 1 (k16 f_ u0 u1 u2)))]
abbrev TQ:=((0:Int)≤t8∧t8<(s_.length:Int))
end
theorem uS (s_:(List af)) (f_:Int) (u0:(List Source)) (u1:(List Link)) (u2:(List aV)):dG Tryz.prog 131 (k59 s_ f_ u0 u1 u2) [] (fun r=>(vI r)) (fun _=>[]) (kU s_ f_ u0 u1 u2):=
  dR tT mX Tryz.func131 (
  .r<| .r<| .lp (σ:=Int) (β:=Unit) (0) [] [] ⟨[0,1,7],[],fun t8=>[(8,(vI t8))],fun t8=>[]⟩ ⟨[],[],fun _=>[],fun _=>[]⟩
  (fun t8=> .r<| .it (.r<| .cl 5 (xS (at' s_ t8.toNat) f_ u0 u1 u2) fun r_=> .a1 (TQ s_ t8)<| .rg {} [0,1]<| .it (.r<| .e (.done (.ret t8)))
  (.r<| .e (.next (k18 t8))))
  (.e (.done (.brk ()))))
  (fun _=> .r<| .e (-1)))
theorem si (s_:(List af)) (f_:Int) (u0:(List Source)) (u1:(List Link)) (u2:(List aV)):dG Tryz.prog 92 (k59 s_ f_ u0 u1 u2) [] (fun r=>(vB r)) (fun _=>[]) (gD s_ f_ u0 u1 u2):=
  dR tT mX Tryz.func92 (
  .r<| .cl 2 (uS s_ f_ u0 u1 u2) fun r_=> .r<| .e (decide (0≤r_)))
theorem qY (l:(List af)) (x1:Int) (u0:(List Source)) (u1:(List Link)) (u2:(List aV)):dG Tryz.prog 99 [(sD (NA l)),(sD (k8 u0 x1 u1 u2))] [] (fun r=>(vB r)) (fun _=>[]) (jI l x1 u0 u1 u2):=
  dR tT mX Tryz.func99 (
  .r<| .cg 6 [((decide ((l.length:Int)≤24)),true)] (si l x1 u0 u1 u2) fun r_=> .r<| .e (bif (decide ((l.length:Int)≤24))then(!r_)else false))
theorem Cq (p:au) (t:Task):dG Tryz.prog 63 (k0 p t) [] (fun r=>(vB r)) (fun _=>[]) (oI p t):=
  dR tT mX Tryz.func63 (
  .rg {fr:=[(0,2),(1,3)],fz:=[2,3]} []<| .r<| .r<| .cl 6 (q8 t.fed (p.racks.length:Int)) fun r_=> .cg 13 [(r_,true)] (q8 t.crew p.buses) fun u0=> .cg 19 [(k11 r_ u0)] (qY t.allowed p.buses p.sources p.links p.racks) fun u1=> .cg 25 [(k12 r_ u0 u1)] (qY t.goal p.buses p.sources p.links p.racks) fun u2=> .r<| .e (k13 r_ u0 u1 u2))
theorem xU (p:au) (s_:State):dG Tryz.prog 113 (Pw s_ p) [] (fun r=>(vD (.fn 143 2 (bn [(Ej [(.int .i64 r.1),(aS none 5 Source.cell r.2.1),(aS none 6 Link.cell r.2.2.1),(aS none 4 aV.cell r.2.2.2.1)] 0),(Ej [(aS none 1 ah r.2.2.2.2.1),(aS none 1 ah r.2.2.2.2.2.1),(aS none 1 ah r.2.2.2.2.2.2.1),(aS none 1 ah r.2.2.2.2.2.2.2.1),(aS none 1 ah r.2.2.2.2.2.2.2.2.1),(aS none 1 ah r.2.2.2.2.2.2.2.2.2.1),(aS none 1 ah r.2.2.2.2.2.2.2.2.2.2)] 0)])))) (fun _=>[]) (jW p s_):=
  dR tT mX Tryz.func113 (
  .rg {fr:=[(0,2),(1,3)],fz:=[2,3]} []<| .r<| .e (p.buses,p.sources,p.links,p.racks,s_.closed,s_.locked,s_.badLink,s_.on_,s_.badSource,s_.earthed,s_.badBus))
noncomputable def sj:iA:=⟨[22],MS ([1,1,0,1,0]++[0]) (rZ Tryz.f75),MS ([1,1,0,1,0]++[1]) (rZ Tryz.f75),125,[]⟩
section
variable (g:aT)
abbrev k63:Ob:=(Iq 3 3 false false 1 1 (bM .i64) (bM .i64) g.head)
abbrev ZA:List (Nat × Option Ob):=[(0,some (k63 g))]
end
theorem gy (g:aT) (x:Int):dG Tryz.prog 115 [(.agg [(.mp 0)]),(sI x)] (ZA g) (fun r=>(vI r)) (fun r=>(ZA g)) (dz g x):=
  dR tT mX Tryz.func115 (
  .rg {fr:=[(0,2)]} []<| .lp (σ:=Int) (β:=Unit) (x) [] [] ⟨[2],[0,2],fun x1=>[(1,(vI x1))],fun x1=>[]⟩ ⟨[],[],fun _=>[],fun _=>[]⟩
  (fun x1=> .rg {an:=[(3, .look (bg aY x1 g.head).isSome [(cI ((bg aY x1 g.head).getD 0))])]} [.pf ⟨fE [some .i64] 1 1 g.head.length (Aa (bM .i64) g.head) (Ba (bM .i64) g.head) [(.int .i64 x1)] [(.d (.int .i64 0))] (bg aY x1 g.head).isSome [(cI ((bg aY x1 g.head).getD 0))],om (fun _=>rfl) (fun _ _=>rfl) g.head x1 0 rfl rfl rfl⟩]<| .r<| .it (.r<| .e (.done (.ret x1)))
  (.r<| .e (.next ((bg aY x1 g.head).getD 0))))
  (fun _=> .no))
theorem wM (g:aT) (a:Int) (b:Int):dG Tryz.prog 114 [(.agg [(.mp 0)]),(sI a),(sI b)] (ZA g) (fun r=>(.iG [])) (fun r=>[(0,some (Iq 3 3 false false 1 1 (bM .i64) (bM .i64) r))]) (jy g a b):=
  dR tT mX Tryz.func114 (
  .rg {fr:=[(0,2)]} []<| .cr 2 (gy g a) fun r_=> .cr 5 (gy g b) fun u0=> .r<| .r<| .it (.rg {an:=[(4, .map (fA aY r_ u0 g.head).length (Aa (bM .i64) (fA aY r_ u0 g.head)) (Ba (bM .i64) (fA aY r_ u0 g.head)) [])]} [.pf ⟨vU [some .i64] 1 1 g.head.length (Aa (bM .i64) g.head) (Ba (bM .i64) g.head) [(.int .i64 r_)] [(cI u0)] [] (fA aY r_ u0 g.head).length (Aa (bM .i64) (fA aY r_ u0 g.head)) (Ba (bM .i64) (fA aY r_ u0 g.head)),Fv (fun _=>rfl) (fun _ _=>rfl) g.head r_ u0 rfl rfl⟩]<| .e (fA aY r_ u0 g.head))
  (.e g.head))
section
variable (o_:aT)
abbrev Zz:Nat × Option Ob:=(0,some (.loop sj 0 [(5,(vP 1 0))]))
abbrev k64:List (Nat × Option Ob):=[Zz,(1,some (.cells 172 [(.mp 2)])),(2,some (k63 o_))]
end
theorem vF (u0:Int) (u1:Int) (u2:Int) (u3:Int) (u4:Int) (u5:(List oD)) (o_:aT):Sr Tryz.prog 0 [(.agg [(cI u0),(cI u1),(cI u2),(cI u3),(cI u4),(.d (aS none 2 oD.cell u5))])] (k64 o_) (fun _=>vB true) (fun r=>[Zz,(1,some (.cells 172 [(.mp 2)])),(2,some (Iq 3 3 false false 1 1 (bM .i64) (bM .i64) r.head))]) (lW u0 u1 u2 u3 u4 u5 o_):=
  Zo tT mX sj ⟨[5],[0,1,2],fun _=>[(6,(vD (Ej [(.int .i64 u0),(.int .i64 u1),(.int .i64 u2),(.int .i64 u3),(.int .i64 u4),(aS none 2 oD.cell u5)] 0)))],fun _=>[]⟩ (.rg {fr:=[(0,4)],fz:=[4]} []<| .e ())
  (.cl 5 (dL [(0,2)] (wM o_ u0 u1)) fun r_=> .r<| .e (⟨r_⟩:aT))
section
variable (x2:(List Bool)) (u6:(List Bool)) (u2:(List Bool)) (u7:(List Bool)) (u8:(List Bool)) (u9:(List Bool)) (u1:(List Bool)) (u3:(List (Int × Int))) (t9:Int) (u0:(List Link))
abbrev k67:List DV:=[(aS none 1 ah x2),(aS none 1 ah u6),(aS none 1 ah u2),(aS none 1 ah u7),(aS none 1 ah u8),(aS none 1 ah u9),(aS none 1 ah u1)]
abbrev Vv:DV:=(Ej (k67 x2 u6 u2 u7 u8 u9 u1) 0)
abbrev k68:Ob:=(Iq 3 3 false false 1 1 (bM .i64) (bM .i64) u3)
abbrev k69:=(bif (bif (at' x2 t9.toNat)then(!(at' u2 t9.toNat))else false)then(!(at' u1 (((at' u0 t9.toNat).a).toNat)))else false)
abbrev XW:=((0:Int)≤t9∧t9<(x2.length:Int))
abbrev k71:=((gB [((bif (at' x2 t9.toNat)then(!(at' u2 t9.toNat))else false),true)]=true→(0:Int)≤(at' u0 t9.toNat).a∧(at' u0 t9.toNat).a<(u1.length:Int)))
abbrev k72:=((gB [((k69 x2 u2 u1 t9 u0),true)]=true→(0:Int)≤(at' u0 t9.toNat).b∧(at' u0 t9.toNat).b<(u1.length:Int)))
end
theorem vM (x1:Int) (u4:(List Source)) (u0:(List Link)) (u5:(List aV)) (x2:(List Bool)) (u6:(List Bool)) (u2:(List Bool)) (u7:(List Bool)) (u8:(List Bool)) (u9:(List Bool)) (u1:(List Bool)) (o_:aT):dG Tryz.prog 143 [(.one (.yl 0)),(sD (k8 u4 x1 u0 u5)),(sD (Vv x2 u6 u2 u7 u8 u9 u1))] (k64 o_) (fun r=>(.iG [])) (fun r=>[Zz,(1,some (.cells 172 [(.mp 2)])),(2,some (Iq 3 3 false false 1 1 (bM .i64) (bM .i64) r.head))]) (l9 x1 u4 u0 u5 x2 u6 u2 u7 u8 u9 u1 o_):=
  dR tT mX Tryz.func143 (
  .r<| .lp (σ:=((List (Int × Int)) × Int)) (β:=(List (Int × Int))) (o_.head,0) [] [] ⟨[0,2,7,8],[0,1],fun(u3,t9)=>[(9,(vI t9))],fun(u3,t9)=>[(2,some (k68 u3))]⟩ ⟨[],[0,1],fun o501=>[],fun o501=>[(2,some (Iq 3 3 false false 1 1 (bM .i64) (bM .i64) o501))]⟩
  (fun(u3,t9)=> .r<| .it (.a1 (k23 u0 t9)<| .rg {fr:=[(3,10)],fz:=[10]} []<| .fk (bif (k69 x2 u2 u1 t9 u0)then(!(at' u1 (((at' u0 t9.toNat).b).toNat)))else false) (.cy 34 (vF ((at' u0 t9.toNat).a) ((at' u0 t9.toNat).b) ((at' u0 t9.toNat).kind) ((at' u0 t9.toNat).most) ((at' u0 t9.toNat).ohm) ((at' u0 t9.toNat).trip) (⟨u3⟩:aT)) fun r_=> .a4 (XW x2 t9) ((gB [((at' x2 t9.toNat),true)]=true→(0:Int)≤t9∧t9<(u2.length:Int))) (k71 x2 u2 u1 t9 u0) (k72 x2 u2 u1 t9 u0)<| .rg {ov:=[(31,true,5)]} [0,1,2,3, .k 4]<| .f<| .r<| .e (.next (r_.head,(k18 t9))))
  (.a4 (XW x2 t9) ((gB [((at' x2 t9.toNat),true)]=true→(0:Int)≤t9∧t9<(u2.length:Int))) (k71 x2 u2 u1 t9 u0) (k72 x2 u2 u1 t9 u0)<| .rg {ov:=[(31,false,4)],sk:=[32,33,34,35]} [0,1,2,3]<| .f<| .r<| .e (.next (u3,(k18 t9)))))
  (.e (.done (.brk u3))))
  (fun o501=> .e (⟨o501⟩:aT)))
section
variable (u1:(List aI)) (u2:(List (Int × Int))) (u3:Int) (s_:State) (u0:Int) (u7:Int) (p:au) (u5:(List aI)) (u6:Int) (u4:(List (Int × Int)))
abbrev k73:List (Nat × Option Ob):=[(60,some (.rows 129 2 u1.length (wY aI.ev u1) none)),(61,some (k68 u2))]
abbrev k74:=((0:Int)≤u3∧u3<(s_.badBus.length:Int))
abbrev IL:=((bg aY u0 u2).getD 0)
abbrev WM:List CV:=[(cI (IL u2 u0))]
abbrev UX:=(fA aY u0 (u1.length:Int) u2)
abbrev ZU:=(Aa (bM .i64) (UX u1 u2 u0))
abbrev ZX:=(Ba (bM .i64) (UX u1 u2 u0))
abbrev k80:=((u1.length+[(⟨([]:List Int),([]:List Int)⟩:aI)].length)*48≤140737488355328)
abbrev R8:=(u1++[(⟨([]:List Int),([]:List Int)⟩:aI)])
abbrev k82:=(wY aI.ev (R8 u1))
abbrev k83:=(bg aY u0 (UX u1 u2 u0))
abbrev U1:=((k83 u1 u2 u0).getD 0)
abbrev k84:List CV:=[(cI (U1 u1 u2 u0))]
abbrev k86:=((0:Int)≤(U1 u1 u2 u0)∧(U1 u1 u2 u0)<((R8 u1).length:Int))
abbrev ZO:=((U1 u1 u2 u0).toNat)
abbrev k90:=(at' (R8 u1) (ZO u1 u2 u0))
abbrev UH:=((k90 u1 u2 u0).buses)
abbrev k88:=((UH u1 u2 u0).length+[u3].length)
abbrev k87:=((k88 u1 u2 u3 u0)*8≤140737488355328)
abbrev k92:=((UH u1 u2 u0).length+[u3].length≤4611686018427387904)
abbrev WR:=((UH u1 u2 u0)++[u3])
abbrev ZJ:=(ay (bM .i64) (WR u1 u2 u3 u0))
abbrev Z4:=((R8 u1).set (ZO u1 u2 u0) (⟨(WR u1 u2 u3 u0),(k90 u1 u2 u0).sources⟩:aI))
abbrev k95:=(wY aI.ev (Z4 u1 u2 u3 u0))
abbrev k97:=((R8 u1).length)
abbrev k98:=((UH u1 u2 u0).length)
abbrev k99:=(wK (ay (bM .i64) (UH u1 u2 u0)) (UH u1 u2 u0).length (ay (bM .i64) [u3]))
abbrev ZT:=((WR u1 u2 u3 u0).length)
abbrev aa4:=(Uy (k82 u1) (ZO u1 u2 u0) 0 (.row 3 1 (WR u1 u2 u3 u0).length (ZJ u1 u2 u3 u0)))
abbrev aaG:=((Z4 u1 u2 u3 u0),(UX u1 u2 u0),(k18 u3))
abbrev Xm:=((0:Int)≤(IL u2 u0)∧(IL u2 u0)<(u1.length:Int))
abbrev Lm:=((at' u1 ((IL u2 u0).toNat)).buses)
abbrev WY:=((Lm u1 u2 u0).length+[u3].length)
abbrev Pg:=((Lm u1 u2 u0)++[u3])
abbrev VQ:=(ay (bM .i64) (Pg u1 u2 u3 u0))
abbrev Vd:=(u1.set ((IL u2 u0).toNat) (⟨(Pg u1 u2 u3 u0),(at' u1 ((IL u2 u0).toNat)).sources⟩:aI))
abbrev WV:=(wY aI.ev (Vd u1 u2 u3 u0))
abbrev aaH:=(wK (ay (bM .i64) (Lm u1 u2 u0)) (Lm u1 u2 u0).length (ay (bM .i64) [u3]))
abbrev ZQ:=(Uy (wY aI.ev u1) ((IL u2 u0).toNat) 0 (.row 3 1 (Pg u1 u2 u3 u0).length (VQ u1 u2 u3 u0)))
abbrev Zy:=((Vd u1 u2 u3 u0),u2,(k18 u3))
abbrev QR:=((0:Int)≤u7∧u7<(p.sources.length:Int))
abbrev X3:=((0:Int)≤u7∧u7<(s_.on_.length:Int))
abbrev YE:=((gB [((at' s_.on_ u7.toNat),true)]=true→(0:Int)≤u7∧u7<(s_.badSource.length:Int)))
abbrev YQ:=((bif (at' s_.on_ u7.toNat)then(!(at' s_.badSource u7.toNat))else false),true)
abbrev Zb:=((gB [(YQ s_ u7)]=true→(0:Int)≤(at' p.sources u7.toNat).bus∧(at' p.sources u7.toNat).bus<(s_.badBus.length:Int)))
abbrev OA:=((at' p.sources u7.toNat).bus)
abbrev JZ:=((at' u5 ((IL u4 u6).toNat)).sources)
abbrev WZ:=((JZ u5 u6 u4).length+[u7].length)
abbrev NZ:=((JZ u5 u6 u4)++[u7])
abbrev VJ:=(ay (bM .i64) (NZ u7 u5 u6 u4))
abbrev Wz:=(u5.set ((IL u4 u6).toNat) (⟨(at' u5 ((IL u4 u6).toNat)).buses,(NZ u7 u5 u6 u4)⟩:aI))
abbrev Yj:=(wY aI.ev (Wz u7 u5 u6 u4))
abbrev aag:=(wK (ay (bM .i64) (JZ u5 u6 u4)) (JZ u5 u6 u4).length (ay (bM .i64) [u7]))
abbrev aaR:=(Uy (wY aI.ev u5) ((IL u4 u6).toNat) 1 (.row 3 1 (NZ u7 u5 u6 u4).length (VJ u7 u5 u6 u4)))
abbrev aa2:=((Wz u7 u5 u6 u4),(k18 u7))
end
theorem iE (p:au) (s_:State):dG Tryz.prog 75 (Pw s_ p) [] (fun r=>(vD (aS none 2 aI.cell r))) (fun _=>[]) (fC p s_):=
  dR tT mX Tryz.func75 (
  .rg {fr:=[(0,55),(1,56)],fz:=[56]} []<| .rg {an:=[(0, .map 0 (Aa (bM .i64) ([]:(List (Int × Int)))) (Ba (bM .i64) ([]:(List (Int × Int)))) [])],fr:=[(0,57),(2,58)]} []<| .cl 2 (xU p s_) fun r_=> .r<| .cl 0 (dL [(0,59),(1,58),(2,57)] (vM r_.1 r_.2.1 r_.2.2.1 r_.2.2.2.1 r_.2.2.2.2.1 r_.2.2.2.2.2.1 r_.2.2.2.2.2.2.1 r_.2.2.2.2.2.2.2.1 r_.2.2.2.2.2.2.2.2.1 r_.2.2.2.2.2.2.2.2.2.1 r_.2.2.2.2.2.2.2.2.2.2 (⟨([]:(List (Int × Int)))⟩:aT))) fun v0=> .rf 59 [5] [] none 0 []<| .r<| .im (.adR 7 60 129 2 (wY aI.ev ([]:List aI)))<| .rg {an:=[(0, .map 0 (Aa (bM .i64) ([]:(List (Int × Int)))) (Ba (bM .i64) ([]:(List (Int × Int)))) [])],fr:=[(0,61)]} []<| .r<| .lp (σ:=((List aI) × (List (Int × Int)) × Int)) (β:=((List aI) × (List (Int × Int)))) (([]:List aI),([]:(List (Int × Int))),0) [] [] ⟨[2,3,5,8,31],[55,57,58],fun(u1,u2,u3)=>[(7,(vO 60 false u1.length)),(32,(vI u3))],fun(u1,u2,u3)=>(k73 u1 u2)⟩ ⟨[2,3,5,8],[55,57,58],fun(u9,u4)=>[(7,(vO 60 false u9.length))],fun(u9,u4)=>(k73 u9 u4)⟩
  (fun(u1,u2,u3)=> .r<| .it (.r<| .a1 (k74 u3 s_)<| .r<| .it (.r<| .e (.next (u1,u2,(k18 u3))))
  (.cr 2 (dL [(0,57)] (gy v0 u3)) fun u0=> .r<| .rg {an:=[(2, .look (bg aY u0 u2).isSome (WM u2 u0))]} [.pf ⟨fE [some .i64] 1 1 u2.length (Aa (bM .i64) u2) (Ba (bM .i64) u2) [(.int .i64 u0)] [(.d (.int .i64 0))] (bg aY u0 u2).isSome (WM u2 u0),om (fun _=>rfl) (fun _ _=>rfl) u2 u0 0 rfl rfl rfl⟩]<| .r<| .it (.rg {an:=[(4, .map (UX u1 u2 u0).length (ZU u1 u2 u0) (ZX u1 u2 u0) [])]} [.pf ⟨vU [some .i64] 1 1 u2.length (Aa (bM .i64) u2) (Ba (bM .i64) u2) [(.int .i64 u0)] [(cI (u1.length:Int))] [] (UX u1 u2 u0).length (ZU u1 u2 u0) (ZX u1 u2 u0),Fv (fun _=>rfl) (fun _ _=>rfl) u2 u0 (u1.length:Int) rfl rfl⟩]<| .a2 (k80 u1) (u1.length+[(⟨([]:List Int),([]:List Int)⟩:aI)].length≤4611686018427387904)<| .rg {an:=[(2, .arr [(⟨([]:List Int),([]:List Int)⟩:aI)].length (rq 2 [nS,nS])),(3, .rows (R8 u1).length (k82 u1))],fr:=[(2,86),(3,87)]} [.pf ⟨[(⟨([]:List Int),([]:List Int)⟩:aI)].length=1,rfl⟩, .pf ⟨aK 1 2 (rq 2 [nS,nS]) (rq 2 [nS,nS]),pX _ _ _⟩, .e (u1.length),0,1, .pf ⟨(R8 u1).length=u1.length+[(⟨([]:List Int),([]:List Int)⟩:aI)].length,List.length_append⟩, .pf ⟨Ee u1.length [(⟨([]:List Int),([]:List Int)⟩:aI)].length 2 (wY aI.ev u1) (rq 2 [nS,nS]) (k82 u1),Sq _ _ _ _ _ (by intro i hi j hj;match i,j,hi,hj with|0,0,_,_=>exact⟨rfl,_,_,_,rfl⟩|0,1,_,_=>exact⟨rfl,_,_,_,rfl⟩)⟩]<| .rg {an:=[(2, .look (k83 u1 u2 u0).isSome (k84 u1 u2 u0))]} [.pf ⟨fE [some .i64] 1 1 (UX u1 u2 u0).length (ZU u1 u2 u0) (ZX u1 u2 u0) [(.int .i64 u0)] [(.d (.int .i64 0))] (k83 u1 u2 u0).isSome (k84 u1 u2 u0),om (fun _=>rfl) (fun _ _=>rfl) (UX u1 u2 u0) u0 0 rfl rfl rfl⟩]<| .a3 (k86 u1 u2 u0) (k87 u1 u2 u3 u0) (k92 u1 u2 u3 u0)<| .rg {an:=[(6, .take 88),(8, .arr [u3].length (ay (bM .i64) [u3])),(9, .arr (WR u1 u2 u3 u0).length (ZJ u1 u2 u3 u0)),(12, .rows 0 (k95 u1 u2 u3 u0))],fr:=[(8,89),(9,90)]} [0, .t 0 (U1 u1 u2 u0) (k97 u1), .pf ⟨[u3].length=1,rfl⟩, .pf ⟨aK 1 1 (rq 1 [(.int .i64 u3)]) (ay (bM .i64) [u3]),(by intro i hi j hj;match i,j,hi,hj with|0,0,_,_=>rfl)⟩, .e (k98 u1 u2 u0),1,2, .pf ⟨(WR u1 u2 u3 u0).length=(UH u1 u2 u0).length+[u3].length,List.length_append⟩, .pf ⟨aK (k88 u1 u2 u3 u0) 1 (k99 u1 u2 u3 u0) (ZJ u1 u2 u3 u0),gu _ _ _ _⟩,0, .t 0 (U1 u1 u2 u0) (k97 u1), .e (ZT u1 u2 u3 u0), .pf ⟨Qw (R8 u1).length 2 (aa4 u1 u2 u3 u0) (k95 u1 u2 u3 u0),E5 _ _ _ _ _ _ _ _ rfl (fun j hj=>(match j,hj with|0,_=>rfl|1,_=>rfl))⟩, .pf ⟨∀i0 j0 c0,((some ((U1 u1 u2 u0).toNat,0,CV.own 88 false (UH u1 u2 u0).length)):Option (Nat × Nat × CV))=some (i0,j0,c0)→i0=(U1 u1 u2 u0).toNat∧j0=0,(fun i0 j0 c0 e=>by cases e;exact⟨rfl,rfl⟩)⟩]<| .im (.ll 87 (R8 u1) (Z4 u1 u2 u3 u0))<| .r<| .en (.next (aaG u1 u2 u3 u0)) [] [(87,60)])
  (.rg {an:=[(2, .look (bg aY u0 u2).isSome (WM u2 u0))]} [.pf ⟨fE [some .i64] 1 1 u2.length (Aa (bM .i64) u2) (Ba (bM .i64) u2) [(.int .i64 u0)] [(.d (.int .i64 0))] (bg aY u0 u2).isSome (WM u2 u0),om (fun _=>rfl) (fun _ _=>rfl) u2 u0 0 rfl rfl rfl⟩]<| .a3 (Xm u1 u2 u0) ((WY u1 u2 u3 u0)*8≤140737488355328) ((Lm u1 u2 u0).length+[u3].length≤4611686018427387904)<| .rg {an:=[(6, .take 91),(8, .arr [u3].length (ay (bM .i64) [u3])),(9, .arr (Pg u1 u2 u3 u0).length (VQ u1 u2 u3 u0)),(12, .rows 0 (WV u1 u2 u3 u0))],fr:=[(8,92),(9,93)]} [0, .t 0 (IL u2 u0) u1.length, .pf ⟨[u3].length=1,rfl⟩, .pf ⟨aK 1 1 (rq 1 [(.int .i64 u3)]) (ay (bM .i64) [u3]),(by intro i hi j hj;match i,j,hi,hj with|0,0,_,_=>rfl)⟩, .e ((Lm u1 u2 u0).length),1,2, .pf ⟨(Pg u1 u2 u3 u0).length=(Lm u1 u2 u0).length+[u3].length,List.length_append⟩, .pf ⟨aK (WY u1 u2 u3 u0) 1 (aaH u1 u2 u3 u0) (VQ u1 u2 u3 u0),gu _ _ _ _⟩,0, .t 0 (IL u2 u0) u1.length, .e ((Pg u1 u2 u3 u0).length), .pf ⟨Qw u1.length 2 (ZQ u1 u2 u3 u0) (WV u1 u2 u3 u0),E5 _ _ _ _ _ _ _ _ rfl (fun j hj=>(match j,hj with|0,_=>rfl|1,_=>rfl))⟩, .pf ⟨∀i0 j0 c0,((some ((IL u2 u0).toNat,0,CV.own 91 false (Lm u1 u2 u0).length)):Option (Nat × Nat × CV))=some (i0,j0,c0)→i0=(IL u2 u0).toNat∧j0=0,(fun i0 j0 c0 e=>by cases e;exact⟨rfl,rfl⟩)⟩]<| .im (.ll 60 u1 (Vd u1 u2 u3 u0))<| .r<| .e (.next (Zy u1 u2 u3 u0)))))
  (.e (.done (.brk (u1,u2)))))
  (fun(u9,u4)=> .r<| .lp (σ:=((List aI) × Int)) (β:=(List aI)) (u9,0) [] [] ⟨[3,5,8,76,77],[57,58,61],fun(u5,u7)=>[(7,(vO 60 false u5.length)),(78,(vI u7))],fun(u5,u7)=>[(60,some (.rows 129 2 u5.length (wY aI.ev u5) none))]⟩ ⟨[],[],fun u8=>[(7,(vO 60 false u8.length))],fun u8=>[(60,some (.rows 129 2 u8.length (wY aI.ev u8) none))]⟩
  (fun(u5,u7)=> .r<| .it (.a1 (QR u7 p)<| .rg {fr:=[(3,106)],fz:=[106]} []<| .a3 (X3 s_ u7) (YE s_ u7) (Zb s_ u7 p)<| .rg {} [0,1,2]<| .it (.cr 4 (dL [(0,57)] (gy v0 (OA u7 p))) fun u6=> .rg {an:=[(5, .look (bg aY u6 u4).isSome (WM u4 u6))]} [0, .pf ⟨fE [some .i64] 1 1 u4.length (Aa (bM .i64) u4) (Ba (bM .i64) u4) [(.int .i64 u6)] [(.d (.int .i64 0))] (bg aY u6 u4).isSome (WM u4 u6),om (fun _=>rfl) (fun _ _=>rfl) u4 u6 0 rfl rfl rfl⟩]<| .a3 (Xm u5 u4 u6) ((WZ u7 u5 u6 u4)*8≤140737488355328) ((JZ u5 u6 u4).length+[u7].length≤4611686018427387904)<| .rg {an:=[(6, .take 107),(8, .arr [u7].length (ay (bM .i64) [u7])),(9, .arr (NZ u7 u5 u6 u4).length (VJ u7 u5 u6 u4)),(12, .rows 0 (Yj u7 u5 u6 u4))],fr:=[(8,108),(9,109)]} [0, .t 0 (IL u4 u6) u5.length, .pf ⟨[u7].length=1,rfl⟩, .pf ⟨aK 1 1 (rq 1 [(.int .i64 u7)]) (ay (bM .i64) [u7]),(by intro i hi j hj;match i,j,hi,hj with|0,0,_,_=>rfl)⟩, .e ((JZ u5 u6 u4).length),1,2, .pf ⟨(NZ u7 u5 u6 u4).length=(JZ u5 u6 u4).length+[u7].length,List.length_append⟩, .pf ⟨aK (WZ u7 u5 u6 u4) 1 (aag u7 u5 u6 u4) (VJ u7 u5 u6 u4),gu _ _ _ _⟩,0, .t 0 (IL u4 u6) u5.length, .e ((NZ u7 u5 u6 u4).length), .pf ⟨Qw u5.length 2 (aaR u7 u5 u6 u4) (Yj u7 u5 u6 u4),E5 _ _ _ _ _ _ _ _ rfl (fun j hj=>(match j,hj with|0,_=>rfl|1,_=>rfl))⟩, .pf ⟨∀i0 j0 c0,((some ((IL u4 u6).toNat,1,CV.own 107 false (JZ u5 u6 u4).length)):Option (Nat × Nat × CV))=some (i0,j0,c0)→i0=(IL u4 u6).toNat∧j0=1,(fun i0 j0 c0 e=>by cases e;exact⟨rfl,rfl⟩)⟩]<| .im (.ll 60 u5 (Wz u7 u5 u6 u4))<| .r<| .e (.next (aa2 u7 u5 u6 u4)))
  (.r<| .e (.next (u5,(k18 u7)))))
  (.e (.done (.brk u5))))
  (fun u8=> .r<| .fz [60]<| .im (.us 4 (vD (.sl none 2 u8.length (fun i j=>ZG (wY aI.ev u8 i j)))) (vD (aS none 2 aI.cell u8)) (A7.v (sZ.one (kC.d (kD.sl (.inr rfl) (fun i _ j hj=>match j,hj with|0,_=> .refl _|1,_=> .refl _))))))<| .e u8)))
section
variable (p:au) (u0:Int) (u1:(List aI)) (u3:Int) (u2:(List Bool)) (u6:(List Bool))
abbrev R7:=((1:Int)*p.buses≤281474976710656)
abbrev RH:=((p.buses:Int)≤9223372036854775807)
abbrev y9:=(List.replicate p.buses.toNat (false:Bool))
abbrev Jm:=(ay ah (y9 p))
abbrev Sm:=((0:Int)≤u0∧u0<(u1.length:Int))
abbrev X4:=((0:Int)≤u3∧u3<(((at' u1 u0.toNat).buses).length:Int))
abbrev OQ:=(at' ((at' u1 u0.toNat).buses) u3.toNat)
abbrev YM:=((0:Int)≤(OQ u0 u1 u3)∧(OQ u0 u1 u3)<(u2.length:Int))
abbrev TJ:=(u2.set ((OQ u0 u1 u3).toNat) (decide (0<(((at' u1 u0.toNat).sources).length:Int))))
abbrev Uq:=(ay ah (TJ u0 u1 u3 u2))
abbrev Zd:=(mV (ay ah u2) ((OQ u0 u1 u3).toNat) 0 [(.bool (decide (0<(((at' u1 u0.toNat).sources).length:Int))))])
abbrev Zh:=((TJ u0 u1 u3 u2),(k18 u3))
abbrev Ox:=(u6,(k18 u0))
end
theorem DR (p:au) (s_:State):dG Tryz.prog 30 (Pw s_ p) [] (fun r=>(.iG [(sD (aS none 1 ah r.1)),(sI r.2)])) (fun _=>[]) (fQ p s_):=
  dR tT mX Tryz.func30 (
  .rg {fr:=[(0,7),(1,8)],fz:=[7,8]} []<| .cl 2 (dI p s_) fun r_=> .r<| .r<| .it (.r<| .e (([]:List Bool),r_))
  (.a3 ((0:Int)≤p.buses) (R7 p) (RH p)<| .rg {an:=[(2, .arr (y9 p).length (Jm p))],fr:=[(2,9)]} [0, .e ((p.buses:Int)),1,2, .pf ⟨(y9 p).length=p.buses.toNat,List.length_replicate⟩, .pf ⟨aK p.buses.toNat 1 (fun _ j=>[(.bool false)].getD j .nilp) (Jm p),mU _ _ _ _ _ (fun j hj=>(match j,hj with|0,_=>rfl))⟩]<| .cl 2 (iE p s_) fun u1=> .r<| .lp (σ:=((List Bool) × Int)) (β:=(List Bool)) ((y9 p),0) [] [] ⟨[23,24],[],fun(u4,u0)=>[(7,(vO 9 true u4.length)),(25,(vI u0))],fun(u4,u0)=>[(9,some (bC 4 1 ah u4))]⟩ ⟨[],[],fun u5=>[(7,(vO 9 true u5.length))],fun u5=>[(9,some (bC 4 1 ah u5))]⟩
  (fun(u4,u0)=> .r<| .it (.a1 (Sm u0 u1)<| .rg {fr:=[(2,13)]} []<| .rg {fz:=[13]} []<| .lp (σ:=((List Bool) × Int)) (β:=(List Bool)) (u4,0) [] [] ⟨[9,23,24,25,30,31],[],fun(u2,u3)=>[(7,(vO 9 true u2.length)),(32,(vI u3))],fun(u2,u3)=>[(9,some (bC 4 1 ah u2))]⟩ ⟨[23,24,25],[],fun u6=>[(7,(vO 9 true u6.length))],fun u6=>[(9,some (bC 4 1 ah u6))]⟩
  (fun(u2,u3)=> .r<| .it (.a1 (X4 u0 u1 u3)<| .r<| .a1 (YM u0 u1 u3 u2)<| .rg {an:=[(7, .arr 0 (Uq u0 u1 u3 u2))]} [0, .t 0 (OQ u0 u1 u3) u2.length, .pf ⟨aK u2.length 1 (Zd u0 u1 u3 u2) (Uq u0 u1 u3 u2),aJ _ _ _ _ _ _ _ _ rfl (fun j hj=>(match j,hj with|0,_=>rfl))⟩]<| .im (.ll 9 u2 (TJ u0 u1 u3 u2))<| .r<| .e (.next (Zh u0 u1 u3 u2)))
  (.e (.done (.brk u2))))
  (fun u6=> .r<| .e (.next (Ox u0 u6))))
  (.e (.done (.brk u4))))
  (fun u5=> .rg {fz:=[9]} []<| .e (u5,0))))
theorem yO (x:Int):dG Tryz.prog 154 [(sI x)] [] (fun r=>(vB r)) (fun _=>[]) (uy x):=
  dR tT mX Tryz.func154 (
  .r<| .r<| .e (!decide (x=x)))
theorem CX (x:Int) (y:Int):dG Tryz.prog 118 [(sI x),(sI y)] [] (fun r=>(vI r)) (fun _=>[]) (qj x y):=
  dR tT mX Tryz.func118 (
  .r<| .cl 1 (yO x) fun r_=> .r<| .cl 1 (yO y) fun u0=> .r<| .r<| .it (.r<| .it (.r<| .e 0)
  (.r<| .e (-1)))
  (.r<| .it (.r<| .e 1)
  (.r<| .it (.r<| .e (-1))
  (.r<| .it (.r<| .e 1)
  (.r<| .e 0)))))
theorem zR (s1:(List Int)) (s2:(List Int)):dG Tryz.prog 78 [(sD (Q7 s1)),(sD (Q7 s2))] [] (fun r=>(vI r)) (fun _=>[]) (qb s1 s2):=
  dR tT mX Tryz.func78 (
  .r<| .r<| .lp (σ:=Int) (β:=Unit) (0) [] [] ⟨[0,1,9,10],[],fun u0=>[(11,(vI u0))],fun u0=>[]⟩ ⟨[0,1],[],fun _=>[],fun _=>[]⟩
  (fun u0=> .r<| .it (.a1 (UI s1 u0)<| .r<| .r<| .it (.r<| .e (.done (.ret 1)))
  (.a1 (UI s2 u0)<| .r<| .cl 2 (CX (at' s1 u0.toNat) (at' s2 u0.toNat)) fun r_=> .r<| .r<| .it (.r<| .e (.done (.ret r_)))
  (.r<| .e (.next (k18 u0)))))
  (.e (.done (.brk ()))))
  (fun _=> .r<| .it (.r<| .e (-1))
  (.r<| .e 0)))
theorem yT (a:aA) (b:aA):dG Tryz.prog 77 [(.agg [(cI a.e0),(cI a.e1)]),(.agg [(cI b.e0),(cI b.e1)])] [] (fun r=>(vI r)) (fun _=>[]) (iR a b):=
  dR tT mX Tryz.func77 (
  .rg {fr:=[(0,2),(1,3)],fz:=[2,3]} []<| .cl 2 ⟨fun{r_} hr_=>((Fn.UG (args:=[(sD (aS none 1 (bM .i64) [a.e0,a.e1])),(sD (aS none 1 (bM .i64) [b.e0,b.e1]))]) (args':=[(sD (.sl (some true) 1 [a.e0,a.e1].length (fun i j=>([(.int .i64 a.e0),(.int .i64 a.e1)].getD (0+(i*1+j)) .nilp)))),(sD (.sl (some true) 1 [b.e0,b.e1].length (fun i j=>([(.int .i64 b.e0),(.int .i64 b.e1)].getD (0+(i*1+j)) .nilp))))]) (hin:=[]) (hin':=[]) (zR [a.e0,a.e1] [b.e0,b.e1] hr_) ⟨sZ.one (kC.d (kD.sl (.inl rfl) (by intro i hi j hj;match i,j,hi,hj with|0,0,_,_=>exact .refl _|1,0,_,_=>exact .refl _))),sZ.one (kC.d (kD.sl (.inl rfl) (by intro i hi j hj;match i,j,hi,hj with|0,0,_,_=>exact .refl _|1,0,_,_=>exact .refl _))),trivial⟩ trivial):Fn Tryz.prog 78 [(sD (.sl (some true) 1 [a.e0,a.e1].length (fun i j=>([(.int .i64 a.e0),(.int .i64 a.e1)].getD (0+(i*1+j)) .nilp)))),(sD (.sl (some true) 1 [b.e0,b.e1].length (fun i j=>([(.int .i64 b.e0),(.int .i64 b.e1)].getD (0+(i*1+j)) .nilp))))] [] (vI r_) [])⟩ fun r_=> .r<| .e r_)
theorem pG (x y:aA):iR x y=some (if x.e0<y.e0 then -1 else if y.e0<x.e0 then 1 else if x.e1<y.e1 then -1 else if y.e1<x.e1 then 1 else 0):=by
 have hc: ∀a b:Int,qj a b=some (if a<b then -1 else if b<a then 1 else 0):=by
  intro a b
  unfold qj uy
  by_cases h:a<b<;>by_cases g:b<a<;>simp [h,g]
 obtain⟨k,hk⟩: ∃k,FUEL=k+1+1+1:=⟨1180591620717411303421,rfl⟩
 unfold iR qb
 rw [hk]
 simp only [aG,q9,hc,aL,at']
 by_cases h0:x.e0<y.e0<;>by_cases g0:y.e0<x.e0<;>by_cases h1:x.e1<y.e1<;>by_cases g1:y.e1<x.e1<;>simp [h0,g0,h1,g1,IntKind.wrap_i64]
theorem wW (x y:aA):iR x y=some (aZ x y):=by unfold aZ;rw [pG];rfl
theorem iV (x y:aA):Go.Proofs.ltOf aZ x y=true↔x.e0<y.e0∨ ¬ y.e0<x.e0∧x.e1<y.e1:=by
 unfold Go.Proofs.ltOf aZ;rw [pG,decide_eq_true_iff]
 by_cases h0:x.e0<y.e0<;>by_cases g0:y.e0<x.e0<;>by_cases h1:x.e1<y.e1<;>by_cases g1:y.e1<x.e1<;>simp [h0,g0,h1,g1]
theorem xP:Go.Sort.SWO (Go.Proofs.ltOf aZ) where
 irrefl x:=by rw [←Bool.not_eq_true,iV];omega
 trans x y z h1 h2:=by rw [iV]at*;omega
 ntrans x y z h1 h2:=by rw [←Bool.not_eq_true,iV]at*;omega
theorem xO (x y:aA) (h1:(Go.Proofs.ltOf aZ) x y=false) (h2:(Go.Proofs.ltOf aZ) y x=false):x=y:=by
 rw [←Bool.not_eq_true,iV]at h1 h2
 obtain⟨a,b⟩:=x
 obtain⟨c,d⟩:=y
 have e1:a=c:=by simp only at h1 h2;omega
 have e2:b=d:=by simp only at h1 h2;omega
 rw [e1,e2]
theorem yK (s:(List aA)) {r:(List aA)} (h:iX s=some r):Fn Tryz.prog 76 [(.one (.own 0 false s.length)),(sD (.fn 77 0 (bn [])))] [(0,some (.arr 117 2 s.length (ay aA.cell s)))] (.iG []) [(0,some (.arr 117 2 r.length (ay aA.cell r)))]:=
 Vi Qg 2 Uo Qp (fun x:aA=>[.int .i64 x.e0, .int .i64 x.e1]) (fun _=>rfl) (fun x v hv=>by simp at hv;rcases hv with rfl|rfl<;>rfl) aZ xP xO (ec:=fun x=>[(cI x.e0),(cI x.e1)])
  (fun x y=>yT x y (wW x y)) (fun F w x=> ⟨rfl,rfl,trivial⟩) (enters_of Tryz.func77 (by kernel_rfl) rfl)
  (fun F w x j hj v=>match j,hj with|0,_=>Iff.rfl|1,_=>Iff.rfl) 76 rfl ⟨_,Tryz.func76,rfl,rfl⟩ s (by cases s with|nil=>(cases h;simp)|cons x xs=>exact h)
section
variable (u6:(List aA)) (u1:Int) (u2:(List aI)) (u0:Int) (u3:Int) (p:au) (u4:(List aA))
abbrev N9:List (Nat × Option Ob):=[(138,some (bC 117 2 aA.cell u6))]
abbrev aac:=((0:Int)≤(k18 u1)∧(k18 u1)≤(((at' u2 u0.toNat).sources).length:Int))
abbrev WA:=((k18 u1).toNat)
abbrev Wp:=(((at' u2 u0.toNat).sources).drop (WA u1))
abbrev aai:=((0:Int)≤u3∧u3<((Wp u1 u2 u0).length:Int))
abbrev Ko:=(at' ((at' u2 u0.toNat).sources) u1.toNat)
abbrev aaT:=((0:Int)≤(Ko u1 u2 u0)∧(Ko u1 u2 u0)<(p.sources.length:Int))
abbrev aak:=((gB [((decide (((at' p.sources ((Ko u1 u2 u0).toNat)).sync)=0)),false)]=true→(0:Int)≤(Ko u1 u2 u0)∧(Ko u1 u2 u0)<(p.sources.length:Int)))
abbrev Sk:=(at' (Wp u1 u2 u0) u3.toNat)
abbrev aa5:=((gB [((decide (((at' p.sources ((Ko u1 u2 u0).toNat)).sync)=0)),false)]=true→(0:Int)≤(Sk u1 u2 u0 u3)∧(Sk u1 u2 u0 u3)<(p.sources.length:Int)))
abbrev Ml:=(⟨(Ko u1 u2 u0),(Sk u1 u2 u0 u3)⟩:aA)
abbrev YI:=(u4.length+[(Ml u1 u2 u0 u3)].length)
abbrev aaU:=((YI u1 u2 u0 u3 u4)*16≤140737488355328)
abbrev aa6:=(u4.length+[(Ml u1 u2 u0 u3)].length≤4611686018427387904)
abbrev Wo:=(ay aA.cell [(Ml u1 u2 u0 u3)])
abbrev Tx:=(u4++[(Ml u1 u2 u0 u3)])
abbrev Yi:=(ay aA.cell (Tx u1 u2 u0 u3 u4))
abbrev ZP:=(rq 2 [(.int .i64 (Ko u1 u2 u0)),(.int .i64 (Sk u1 u2 u0 u3))])
abbrev ZB:=(wK (ay aA.cell u4) u4.length (Wo u1 u2 u0 u3))
abbrev aaO:=((Tx u1 u2 u0 u3 u4),(k18 u3))
abbrev O1:=(u4,(k18 u3))
end
theorem AA (p:au) (s_:State):dG Tryz.prog 32 (Pw s_ p) [] (fun r=>(.iG [(sD (aS none 2 aA.cell r.1)),(sI r.2)])) (fun _=>[]) (nJ p s_):=
  dR tT mX Tryz.func32 (
  .rg {fr:=[(0,134),(1,135)],fz:=[134,135]} []<| .cl 2 (dI p s_) fun r_=> .r<| .r<| .it (.r<| .e (([]:List aA),r_))
  (.r<| .cl 2 (iE p s_) fun u2=> .r<| .im (.ad 7 268 117 2 (ay aA.cell ([]:List aA)))<| .lp (σ:=((List aA) × Int)) (β:=(List aA)) (([]:List aA),0) [] [(268,138)] ⟨[2,22,23],[],fun(u6,u0)=>[(7,(vO 138 false u6.length)),(24,(vI u0))],fun(u6,u0)=>(N9 u6)⟩ ⟨[],[],fun u5=>[(7,(vO 138 false u5.length))],fun u5=>(N9 u5)⟩
  (fun(u6,u0)=> .r<| .it (.a1 (Sm u0 u2)<| .rg {fr:=[(2,235)],fz:=[235]} []<| .r<| .lp (σ:=((List aA) × Int)) (β:=(List aA)) (u6,0) [] [] ⟨[2,9,22,23,24,29,30],[],fun(u7,u1)=>[(7,(vO 138 false u7.length)),(31,(vI u1))],fun(u7,u1)=>(N9 u7)⟩ ⟨[2,22,23,24],[],fun u8=>[(7,(vO 138 false u8.length))],fun u8=>(N9 u8)⟩
  (fun(u7,u1)=> .r<| .it (.a1 ((0:Int)≤u1∧u1<(((at' u2 u0.toNat).sources).length:Int))<| .r<| .a1 (aac u1 u2 u0)<| .r<| .im (.us 40 (vD (.sl none 1 (((at' u2 u0.toNat).sources).length - (WA u1)) (fun iq jq=>ay (bM .i64) ((at' u2 u0.toNat).sources) (iq+(WA u1)) jq))) (vD (aS none 1 (bM .i64) (Wp u1 u2 u0))) (A7.v (sZ.one (kC.d (kD.Zu (by simp only [List.length_set,List.length_drop,Bv]) (.inr rfl) (Wq _ _ _ _))))))<| .lp (σ:=((List aA) × Int)) (β:=(List aA)) (u7,0) [] [] ⟨[2,9,11,22,23,24,29,30,31,40,41],[],fun(u4,u3)=>[(7,(vO 138 false u4.length)),(42,(vI u3))],fun(u4,u3)=>(N9 u4)⟩ ⟨[2,9,22,23,24,29,30,31],[],fun u9=>[(7,(vO 138 false u9.length))],fun u9=>(N9 u9)⟩
  (fun(u4,u3)=> .r<| .it (.a1 (aai u1 u2 u0 u3)<| .r<| .a3 (aaT u1 u2 u0 p) (aak u1 u2 u0 p) (aa5 u1 u2 u0 u3 p)<| .rg {} [0,1,2]<| .it (.a2 (aaU u1 u2 u0 u3 u4) (aa6 u1 u2 u0 u3 u4)<| .rg {an:=[(4, .arr [(Ml u1 u2 u0 u3)].length (Wo u1 u2 u0 u3)),(5, .arr (Tx u1 u2 u0 u3 u4).length (Yi u1 u2 u0 u3 u4))],fr:=[(4,266),(5,267)]} [.pf ⟨[(Ml u1 u2 u0 u3)].length=1,rfl⟩, .pf ⟨aK 1 2 (ZP u1 u2 u0 u3) (Wo u1 u2 u0 u3),(by intro i hi j hj;match i,j,hi,hj with|0,0,_,_=>rfl|0,1,_,_=>rfl)⟩, .e (u4.length),0,1, .pf ⟨(Tx u1 u2 u0 u3 u4).length=u4.length+[(Ml u1 u2 u0 u3)].length,List.length_append⟩, .pf ⟨aK (YI u1 u2 u0 u3 u4) 2 (ZB u1 u2 u0 u3 u4) (Yi u1 u2 u0 u3 u4),gu _ _ _ _⟩]<| .r<| .en (.next (aaO u1 u2 u0 u3 u4)) [] [(267,138)])
  (.r<| .e (.next (O1 u3 u4))))
  (.e (.done (.brk u4))))
  (fun u9=> .r<| .e (.next (O1 u1 u9))))
  (.e (.done (.brk u7))))
  (fun u8=> .r<| .e (.next (O1 u0 u8))))
  (.e (.done (.brk u6))))
  (fun u5=> .cl 1 (dL [(0,138)] ⟨fun h=>yK u5 h⟩) fun v0=> .r<| .a1 (u5.length=v0.length)<| .so 7 138 false u5.length v0.length 0<| .so 77 138 false u5.length v0.length 0<| .fz [138]<| .r<| .e (v0,0))))
theorem AO (p:au) (s_:State):dG Tryz.prog 30 (Pw s_ p) [] (fun r=>(.iG [(.one (.own 0 false r.1.length)),(sI r.2)])) (fun r=>[(0,some (bC 4 1 ah r.1))]) (fQ p s_):=
  dR tT mX Tryz.func30 (
  .rg {fr:=[(0,7),(1,8)],fz:=[7,8]} []<| .cl 2 (dI p s_) fun r_=> .r<| .r<| .it (.r<| .im (.ad 4 9 4 1 (ay ah ([]:List Bool)))<| .en (([]:List Bool),r_) [] [(9,0)])
  (.a3 ((0:Int)≤p.buses) (R7 p) (RH p)<| .rg {an:=[(2, .arr (y9 p).length (Jm p))],fr:=[(2,10)]} [0, .e ((p.buses:Int)),1,2, .pf ⟨(y9 p).length=p.buses.toNat,List.length_replicate⟩, .pf ⟨aK p.buses.toNat 1 (fun _ j=>[(.bool false)].getD j .nilp) (Jm p),mU _ _ _ _ _ (fun j hj=>(match j,hj with|0,_=>rfl))⟩]<| .cl 2 (iE p s_) fun u1=> .r<| .lp (σ:=((List Bool) × Int)) (β:=(List Bool)) ((y9 p),0) [] [] ⟨[23,24],[],fun(u4,u0)=>[(7,(vO 10 true u4.length)),(25,(vI u0))],fun(u4,u0)=>[(10,some (bC 4 1 ah u4))]⟩ ⟨[],[],fun u5=>[(7,(vO 10 true u5.length))],fun u5=>[(10,some (bC 4 1 ah u5))]⟩
  (fun(u4,u0)=> .r<| .it (.a1 (Sm u0 u1)<| .rg {fr:=[(2,14)]} []<| .rg {fz:=[14]} []<| .lp (σ:=((List Bool) × Int)) (β:=(List Bool)) (u4,0) [] [] ⟨[9,23,24,25,30,31],[],fun(u2,u3)=>[(7,(vO 10 true u2.length)),(32,(vI u3))],fun(u2,u3)=>[(10,some (bC 4 1 ah u2))]⟩ ⟨[23,24,25],[],fun u6=>[(7,(vO 10 true u6.length))],fun u6=>[(10,some (bC 4 1 ah u6))]⟩
  (fun(u2,u3)=> .r<| .it (.a1 (X4 u0 u1 u3)<| .r<| .a1 (YM u0 u1 u3 u2)<| .rg {an:=[(7, .arr 0 (Uq u0 u1 u3 u2))]} [0, .t 0 (OQ u0 u1 u3) u2.length, .pf ⟨aK u2.length 1 (Zd u0 u1 u3 u2) (Uq u0 u1 u3 u2),aJ _ _ _ _ _ _ _ _ rfl (fun j hj=>(match j,hj with|0,_=>rfl))⟩]<| .im (.ll 10 u2 (TJ u0 u1 u3 u2))<| .r<| .e (.next (Zh u0 u1 u3 u2)))
  (.e (.done (.brk u2))))
  (fun u6=> .r<| .e (.next (Ox u0 u6))))
  (.e (.done (.brk u4))))
  (fun u5=> .r<| .en (u5,0) [] [(10,0)])))
section
variable (p:au) (u0:Int) (r_:((List Bool) × Int)) (u1:(List aW))
abbrev Cx:=((at' p.racks u0.toNat).feeds)
abbrev YS:List DV:=[(.int .i64 ((Cx p u0).e0))]
abbrev SY:List CV:=[(cI ((Cx p u0).e0)),(cI ((Cx p u0).e1))]
abbrev aaJ:=((gB [((decide (0≤((Cx p u0).e0))),true)]=true→(0:Int)≤(Cx p u0).e0∧(Cx p u0).e0<(r_.1.length:Int)))
abbrev Y4:List DV:=[(.int .i64 ((Cx p u0).e1))]
abbrev ZH:=((gB [((decide (0≤((Cx p u0).e1))),true)]=true→(0:Int)≤(Cx p u0).e1∧(Cx p u0).e1<(r_.1.length:Int)))
abbrev Xt:=(bif (decide (0≤((Cx p u0).e0)))then(at' r_.1 (((Cx p u0).e0).toNat))else false)
abbrev YC:=(bif (decide (0≤((Cx p u0).e1)))then(at' r_.1 (((Cx p u0).e1).toNat))else false)
abbrev ME:=(⟨(Xt p u0 r_),(YC p u0 r_)⟩:aW)
abbrev YT:=(u1.length+[(ME p u0 r_)].length)
abbrev aaX:=((YT p u0 r_ u1)*2≤140737488355328)
abbrev aaE:=(u1.length+[(ME p u0 r_)].length≤4611686018427387904)
abbrev Vh:=(ay aW.cell [(ME p u0 r_)])
abbrev Ug:=(u1++[(ME p u0 r_)])
abbrev Y8:=(ay aW.cell (Ug p u0 r_ u1))
abbrev aaj:=(rq 2 [(.bool (Xt p u0 r_)),(.bool (YC p u0 r_))])
abbrev aar:=(wK (ay aW.cell u1) u1.length (Vh p u0 r_))
abbrev aaB:=((Ug p u0 r_ u1),(k18 u0))
end
theorem Bf (p:au) (s_:State):dG Tryz.prog 31 (Pw s_ p) [] (fun r=>(.iG [(.one (.own 0 false r.1.length)),(sI r.2)])) (fun r=>[(0,some (bC 78 2 aW.cell r.1))]) (uL p s_):=
  dR tT mX Tryz.func31 (
  .rg {fr:=[(0,19),(1,20)],fz:=[20]} []<| .cl 2 (dL [(0,21)] (AO p s_)) fun r_=> .rg {fz:=[21]} []<| .r<| .it (.r<| .im (.ad 4 22 78 2 (ay aW.cell ([]:List aW)))<| .en (([]:List aW),r_.2) [] [(22,0)])
  (.r<| .r<| .im (.ad 8 39 78 2 (ay aW.cell ([]:List aW)))<| .lp (σ:=((List aW) × Int)) (β:=(List aW)) (([]:List aW),0) [] [(39,26)] ⟨[6,24,25],[],fun(u1,u0)=>[(8,(vO 26 false u1.length)),(26,(vI u0))],fun(u1,u0)=>[(26,some (bC 78 2 aW.cell u1))]⟩ ⟨[],[],fun u2=>[(8,(vO 26 false u2.length))],fun u2=>[(26,some (bC 78 2 aW.cell u2))]⟩
  (fun(u1,u0)=> .r<| .it (.a1 ((0:Int)≤u0∧u0<(p.racks.length:Int))<| .rg {fr:=[(2,35)],fz:=[35]} []<| .rg {fr:=[(0,36)]} []<| .r<| .ul 11<| .r<| .t<| .rg {an:=[(1, .vals (YS p u0))]} [.pf ⟨(0:Int)≤0∧(0:Int)<(2:Nat),(by decide)⟩, .pf ⟨0*1+1≤(SY p u0).length,Nat.le_of_ble_eq_true rfl⟩, .pf ⟨((SY p u0).drop (0*1)).take 1=(YS p u0).map .d,rfl⟩]<| .a1 (aaJ p u0 r_)<| .rg {} [0, .pf ⟨(0:Int)≤0∧(0:Int)<(2:Nat),(by decide)⟩]<| .r<| .im (.dp [6,8,11,24,25,26,31,32])<| .r<| .t<| .rg {an:=[(1, .vals (Y4 p u0))]} [.pf ⟨(0:Int)≤1∧(1:Int)<(2:Nat),(by decide)⟩, .pf ⟨1*1+1≤(SY p u0).length,Nat.le_of_ble_eq_true rfl⟩, .pf ⟨((SY p u0).drop (1*1)).take 1=(Y4 p u0).map .d,rfl⟩]<| .a1 (ZH p u0 r_)<| .rg {} [0, .pf ⟨(0:Int)≤1∧(1:Int)<(2:Nat),(by decide)⟩]<| .r<| .im (.dp [6,8,11,24,25,26,31,32])<| .r<| .f<| .a2 (aaX p u0 r_ u1) (aaE p u0 r_ u1)<| .rg {an:=[(2, .arr [(ME p u0 r_)].length (Vh p u0 r_)),(3, .arr (Ug p u0 r_ u1).length (Y8 p u0 r_ u1))],fr:=[(2,37),(3,38)]} [.pf ⟨[(ME p u0 r_)].length=1,rfl⟩, .pf ⟨aK 1 2 (aaj p u0 r_) (Vh p u0 r_),(by intro i hi j hj;match i,j,hi,hj with|0,0,_,_=>rfl|0,1,_,_=>rfl)⟩, .e (u1.length),0,1, .pf ⟨(Ug p u0 r_ u1).length=u1.length+[(ME p u0 r_)].length,List.length_append⟩, .pf ⟨aK (YT p u0 r_ u1) 2 (aar p u0 r_ u1) (Y8 p u0 r_ u1),gu _ _ _ _⟩]<| .r<| .en (.next (aaB p u0 r_ u1)) [] [(38,26)])
  (.e (.done (.brk u1))))
  (fun u2=> .r<| .en (u2,0) [] [(26,0)])))
theorem Ar (r_:Int) (x1:(List aW)):dG Tryz.prog 101 [(sI r_),(sD (Ej [(aS none 2 aW.cell x1)] 0))] [] (fun r=>(vB r)) (fun _=>[]) (qP r_ x1):=
  dR tT mX Tryz.func101 (
  .r<| .a2 ((0:Int)≤r_∧r_<(x1.length:Int)) ((gB [((!((at' x1 r_.toNat).e0)),true)]=true→(0:Int)≤r_∧r_<(x1.length:Int)))<| .rg {} [0, .pf ⟨(0:Int)≤0∧(0:Int)<(2:Nat),(by decide)⟩,1, .pf ⟨(0:Int)≤1∧(1:Int)<(2:Nat),(by decide)⟩]<| .e (bif (!((at' x1 r_.toNat).e0))then(!((at' x1 r_.toNat).e1))else false))
section
variable (s_:(List Int)) (f_:(List aW))
abbrev YO:List SV:=[(sD (Q7 s_)),(sD (.fn 101 1 (bn [(Ej [(aS none 2 aW.cell f_)] 0)])))]
end
theorem rO (s_:(List Int)) (f_:(List aW)):dG Tryz.prog 132 (YO s_ f_) [] (fun r=>(vI r)) (fun _=>[]) (jw s_ f_):=
  dR tT mX Tryz.func132 (
  .r<| .r<| .lp (σ:=Int) (β:=Unit) (0) [] [] ⟨[0,1,7],[],fun t8=>[(8,(vI t8))],fun t8=>[]⟩ ⟨[],[],fun _=>[],fun _=>[]⟩
  (fun t8=> .r<| .it (.r<| .cl 5 (Ar (at' s_ t8.toNat) f_) fun r_=> .a1 (UI s_ t8)<| .rg {} [0,1]<| .it (.r<| .e (.done (.ret t8)))
  (.r<| .e (.next (k18 t8))))
  (.e (.done (.brk ()))))
  (fun _=> .r<| .e (-1)))
theorem qJ (s_:(List Int)) (f_:(List aW)):dG Tryz.prog 97 (YO s_ f_) [] (fun r=>(vB r)) (fun _=>[]) (fo s_ f_):=
  dR tT mX Tryz.func97 (
  .r<| .cl 2 (rO s_ f_) fun r_=> .r<| .e (decide (0≤r_)))
theorem Bg (s_:(List Int)) (v_:Int):dG Tryz.prog 171 (YF s_ v_) [] (fun r=>(vI r)) (fun _=>[]) (sW s_ v_):=
  dR tT mX Tryz.func171 (
  .r<| .r<| .lp (σ:=Int) (β:=Unit) (0) [] [] ⟨[0,1,7],[],fun t8=>[(8,(vI t8))],fun t8=>[]⟩ ⟨[],[],fun _=>[],fun _=>[]⟩
  (fun t8=> .r<| .it (.r<| .a1 (UI s_ t8)<| .r<| .it (.r<| .e (.done (.ret t8)))
  (.r<| .e (.next (k18 t8))))
  (.e (.done (.brk ()))))
  (fun _=> .r<| .e (-1)))
theorem qI (s_:(List Int)) (v_:Int):dG Tryz.prog 133 (YF s_ v_) [] (fun r=>(vB r)) (fun _=>[]) (jb s_ v_):=
  dR tT mX Tryz.func133 (
  .r<| .cl 2 (Bg s_ v_) fun r_=> .r<| .e (decide (0≤r_)))
section
variable (p:au) (s_:State) (t:Task) (b:Int) (u1:Int) (u0:Int)
abbrev TY:List SV:=[(.agg (k1 p)),(.agg (zG s_)),(.agg (k2 t)),(sI b)]
abbrev Yb:=((0:Int)≤b∧b<(s_.earthed.length:Int))
abbrev YL:=((gB [((decide ((OA u1 p)=b)),true)]=true→(0:Int)≤u1∧u1<(s_.on_.length:Int)))
abbrev BB:=((at' p.links u0.toNat).a)
abbrev F5:=((at' p.links u0.toNat).b)
abbrev ZL:=(IntKind.wrap .i64 ((IntKind.wrap .i64 ((BB p u0)+(F5 p u0))) - b))
abbrev VY:=((bif (decide (((at' p.links u0.toNat).kind)=1))then true else(at' s_.closed u0.toNat)),false)
end
theorem DY (p:au) (s_:State) (t:Task) (b:Int):dG Tryz.prog 103 (TY p s_ t b) [] (fun r=>(vB r)) (fun _=>[]) (rM p s_ t b):=
  dR tT mX Tryz.func103 (
  .rg {fr:=[(0,11),(1,12),(2,13)],fz:=[12,13]} []<| .a1 (Yb s_ b)<| .r<| .it (.r<| .e false)
  (.r<| .lp (σ:=Int) (β:=Unit) (0) [] [] ⟨[3,4,5,6,20,21],[11],fun u1=>[(22,(vI u1))],fun u1=>[]⟩ ⟨[3,4,5,6],[11],fun _=>[],fun _=>[]⟩
  (fun u1=> .r<| .it (.a1 (QR u1 p)<| .rg {fr:=[(3,17)],fz:=[17]} []<| .a1 (YL p s_ b u1)<| .r<| .it (.r<| .e (.done (.ret false)))
  (.r<| .e (.next (k18 u1))))
  (.e (.done (.brk ()))))
  (fun _=> .r<| .lp (σ:=Int) (β:=Unit) (0) [] [] ⟨[3,5,6,40,41],[],fun u0=>[(42,(vI u0))],fun u0=>[]⟩ ⟨[],[],fun _=>[],fun _=>[]⟩
  (fun u0=> .r<| .it (.a1 (RO p u0)<| .rg {fr:=[(3,21)],fz:=[21]} []<| .cg 20 [((bif (!decide ((BB p u0)=b))then(!decide ((F5 p u0)=b))else false),false)] (qI t.crew (ZL p b u0)) fun r_=> .r<| .it (.r<| .e (.next (k18 u0)))
  (.a2 ((gB [((decide (((at' p.links u0.toNat).kind)=1)),false)]=true→(0:Int)≤u0∧u0<(s_.closed.length:Int))) ((gB [(VY p s_ u0)]=true→(0:Int)≤u0∧u0<(s_.locked.length:Int)))<| .rg {} [0,1]<| .it (.r<| .e (.done (.ret false)))
  (.r<| .e (.next (k18 u0)))))
  (.e (.done (.brk ()))))
  (fun _=> .r<| .e true))))
section
variable (x3:(List Int)) (u9:(List Int)) (v0:(List af)) (v1:(List af)) (x2:(List Bool)) (u3:(List Bool)) (u4:(List Bool)) (u5:(List Bool)) (u6:(List Bool)) (u7:(List Bool)) (u8:(List Bool))
abbrev Xd:DV:=(Ej [(Q7 x3),(Q7 u9),(NA v0),(NA v1)] 0)
abbrev qd:=(⟨x2,u3,u4,u5,u6,u7,u8⟩:State)
end
theorem AR (b:Int) (x1:Int) (u0:(List Source)) (u1:(List Link)) (u2:(List aV)) (x2:(List Bool)) (u3:(List Bool)) (u4:(List Bool)) (u5:(List Bool)) (u6:(List Bool)) (u7:(List Bool)) (u8:(List Bool)) (x3:(List Int)) (u9:(List Int)) (v0:(List af)) (v1:(List af)):dG Tryz.prog 102 [(sI b),(sD (k8 u0 x1 u1 u2)),(sD (Vv x2 u3 u4 u5 u6 u7 u8)),(sD (Xd x3 u9 v0 v1))] [] (fun r=>(vB r)) (fun _=>[]) (qO b x1 u0 u1 u2 x2 u3 u4 u5 u6 u7 u8 x3 u9 v0 v1):=
  dR tT mX Tryz.func102 (
  .r<| .cl 4 (DY (⟨x1,u0,u1,u2⟩:au) (qd x2 u3 u4 u5 u6 u7 u8) (⟨x3,u9,v0,v1⟩:Task) b) fun r_=> .r<| .e (!r_))
section
variable (s_:(List Int)) (f_:Int) (u0:(List Source)) (u1:(List Link)) (u2:(List aV)) (u3:(List Bool)) (u4:(List Bool)) (u5:(List Bool)) (u6:(List Bool)) (u7:(List Bool)) (u8:(List Bool)) (u9:(List Bool)) (v0:(List Int)) (v1:(List Int)) (v2:(List af)) (v3:(List af))
abbrev YW:List SV:=[(sD (Q7 s_)),(sD (.fn 102 3 (bn [(k8 u0 f_ u1 u2),(Vv u3 u4 u5 u6 u7 u8 u9),(Xd v0 v1 v2 v3)])))]
end
theorem rQ (s_:(List Int)) (f_:Int) (u0:(List Source)) (u1:(List Link)) (u2:(List aV)) (u3:(List Bool)) (u4:(List Bool)) (u5:(List Bool)) (u6:(List Bool)) (u7:(List Bool)) (u8:(List Bool)) (u9:(List Bool)) (v0:(List Int)) (v1:(List Int)) (v2:(List af)) (v3:(List af)):dG Tryz.prog 132 (YW s_ f_ u0 u1 u2 u3 u4 u5 u6 u7 u8 u9 v0 v1 v2 v3) [] (fun r=>(vI r)) (fun _=>[]) (jk s_ f_ u0 u1 u2 u3 u4 u5 u6 u7 u8 u9 v0 v1 v2 v3):=
  dR tT mX Tryz.func132 (
  .r<| .r<| .lp (σ:=Int) (β:=Unit) (0) [] [] ⟨[0,1,7],[],fun t8=>[(8,(vI t8))],fun t8=>[]⟩ ⟨[],[],fun _=>[],fun _=>[]⟩
  (fun t8=> .r<| .it (.r<| .cl 5 (AR (at' s_ t8.toNat) f_ u0 u1 u2 u3 u4 u5 u6 u7 u8 u9 v0 v1 v2 v3) fun r_=> .a1 (UI s_ t8)<| .rg {} [0,1]<| .it (.r<| .e (.done (.ret t8)))
  (.r<| .e (.next (k18 t8))))
  (.e (.done (.brk ()))))
  (fun _=> .r<| .e (-1)))
theorem qL (s_:(List Int)) (f_:Int) (u0:(List Source)) (u1:(List Link)) (u2:(List aV)) (u3:(List Bool)) (u4:(List Bool)) (u5:(List Bool)) (u6:(List Bool)) (u7:(List Bool)) (u8:(List Bool)) (u9:(List Bool)) (v0:(List Int)) (v1:(List Int)) (v2:(List af)) (v3:(List af)):dG Tryz.prog 97 (YW s_ f_ u0 u1 u2 u3 u4 u5 u6 u7 u8 u9 v0 v1 v2 v3) [] (fun r=>(vB r)) (fun _=>[]) (fq s_ f_ u0 u1 u2 u3 u4 u5 u6 u7 u8 u9 v0 v1 v2 v3):=
  dR tT mX Tryz.func97 (
  .r<| .cl 2 (rQ s_ f_ u0 u1 u2 u3 u4 u5 u6 u7 u8 u9 v0 v1 v2 v3) fun r_=> .r<| .e (decide (0≤r_)))
section
variable (p:au) (s_:State) (t:Task)
abbrev WC:List SV:=[(.agg (k1 p)),(.agg (zG s_)),(.agg (k2 t))]
end
theorem wE (p:au) (s_:State) (t:Task):dG Tryz.prog 64 (WC p s_ t) [] (fun r=>(vI r)) (fun _=>[]) (nk p s_ t):=
  dR tT mX Tryz.func64 (
  .rg {fr:=[(0,5),(1,6),(2,7)],fz:=[5,6,7]} []<| .cl 2 (DR p s_) fun r_=> .r<| .r<| .lp (σ:=Int) (β:=Unit) (0) [] [] ⟨[3,4,5,21,22],[],fun u0=>[(23,(vI u0))],fun u0=>[]⟩ ⟨[3,4,5],[],fun _=>[],fun _=>[]⟩
  (fun u0=> .r<| .it (.a1 ((0:Int)≤u0∧u0<(r_.1.length:Int))<| .r<| .a1 ((gB [((at' r_.1 u0.toNat),true)]=true→(0:Int)≤u0∧u0<(s_.earthed.length:Int)))<| .r<| .it (.r<| .e (.done (.ret 40)))
  (.r<| .e (.next (k18 u0))))
  (.e (.done (.brk ()))))
  (fun _=> .cl 2 (AA p s_) fun u2=> .r<| .r<| .it (.r<| .e 41)
  (.cl 2 (dL [(0,8)] (Bf p s_)) fun u1=> .rg {fr:=[(6,9)],fz:=[8]} []<| .fz [9]<| .cl 3 (qJ t.fed u1.1) fun u3=> .r<| .it (.r<| .e 42)
  (.cl 3 (qL t.crew p.buses p.sources p.links p.racks s_.closed s_.locked s_.badLink s_.on_ s_.badSource s_.earthed s_.badBus t.fed t.crew t.allowed t.goal) fun u4=> .r<| .it (.r<| .e 45)
  (.r<| .e 0)))))
theorem gU (p:au) (s_:State) (t:Task):dG Tryz.prog 23 (WC p s_ t) [] (fun r=>(vI r)) (fun _=>[]) (eX p s_ t):=
  dR tT mX Tryz.func23 (
  .rg {fr:=[(0,3),(1,4),(2,5)],fz:=[3,4,5]} []<| .cl 2 (dI p s_) fun r_=> .r<| .r<| .it (.r<| .e r_)
  (.cl 2 (Cq p t) fun u1=> .r<| .it (.r<| .e 1)
  (.cl 3 (wE p s_ t) fun u0=> .r<| .e u0)))
section
variable (s_:State)
abbrev Tn:List SV:=[(.agg (zG s_))]
abbrev Wu:=(Gh 280 (List.replicate 280 false) 0 s_.closed (Nat.min s_.closed.length 280))
abbrev YN:=(ay ah (Wu s_))
abbrev Wv:=(Gh 280 (Wu s_) 40 s_.locked (Nat.min s_.locked.length 240))
abbrev WT:=(ay ah (Wv s_))
abbrev V4:=(Gh 280 (Wv s_) 80 s_.badLink (Nat.min s_.badLink.length 200))
abbrev X6:=(ay ah (V4 s_))
abbrev VE:=(Gh 280 (V4 s_) 120 s_.on_ (Nat.min s_.on_.length 160))
abbrev Xq:=(ay ah (VE s_))
abbrev Ww:=(Gh 280 (VE s_) 160 s_.badSource (Nat.min s_.badSource.length 120))
abbrev YK:=(ay ah (Ww s_))
abbrev VZ:=(Gh 280 (Ww s_) 200 s_.earthed (Nat.min s_.earthed.length 80))
abbrev Xj:=(ay ah (VZ s_))
abbrev Xx:=(Gh 280 (VZ s_) 240 s_.badBus (Nat.min s_.badBus.length 40))
end
theorem pR (s_:State):dG Tryz.prog 61 (Tn s_) [] (fun r=>(.v (.agg (aau 280 r)))) (fun _=>[]) (ny s_):=
  dR tT mX Tryz.func61 (
  .rg {fr:=[(0,10),(1,11)],fz:=[10]} []<| .rg {an:=[(0, .arr 280 (ay ah (List.replicate 280 false)))],fr:=[(0,12)]} [.e (280), .pf ⟨aK 280 1 (fun i _=>(List.replicate 280 (DV.bool false)).getD i .nilp) (ay ah (List.replicate 280 false)),VD 280⟩]<| .r<| .ul 11<| .r<| .t<| .rg {an:=[(1, .vals [(aS none 1 ah s_.closed)])]} [.pf ⟨(0:Int)≤0∧(0:Int)<(7:Nat),(by decide)⟩, .pf ⟨0*1+1≤(zG s_).length,Nat.le_of_ble_eq_true rfl⟩, .pf ⟨((zG s_).drop (0*1)).take 1=[(aS none 1 ah s_.closed)].map .d,rfl⟩]<| .rg {an:=[(4, .take 12)],fr:=[(2,13)]} [.e (280), .pf ⟨(0:Int)≤(0:Int)∧(0:Int)<(280:Nat),(by decide)⟩, .e (280)]<| .im (.uh 12 (some (.arr 115 1 280 (AQ (ay ah (List.replicate 280 false)) 0 (ay ah s_.closed) (Nat.min s_.closed.length 280)))) (some (.arr 115 1 280 (YN s_))) (rD (MH 280 (List.replicate 280 false) 0 s_.closed (Nat.min s_.closed.length 280))))<| .r<| .im (.dp [2,3,20,21])<| .r<| .t<| .rg {an:=[(1, .vals [(UW s_)])]} [.pf ⟨(0:Int)≤1∧(1:Int)<(7:Nat),(by decide)⟩, .pf ⟨1*1+1≤(zG s_).length,Nat.le_of_ble_eq_true rfl⟩, .pf ⟨((zG s_).drop (1*1)).take 1=[(UW s_)].map .d,rfl⟩]<| .rg {an:=[(4, .take 12)],fr:=[(2,14)]} [.e (280), .pf ⟨(0:Int)≤(40:Int)∧(40:Int)<(280:Nat),(by decide)⟩, .e (240)]<| .im (.uh 12 (some (.arr 115 1 280 (AQ (YN s_) 40 (ay ah s_.locked) (Nat.min s_.locked.length 240)))) (some (.arr 115 1 280 (WT s_))) (rD (MH 280 (Wu s_) 40 s_.locked (Nat.min s_.locked.length 240))))<| .r<| .im (.dp [2,3,20,21])<| .r<| .t<| .rg {an:=[(1, .vals [(U3 s_)])]} [.pf ⟨(0:Int)≤2∧(2:Int)<(7:Nat),(by decide)⟩, .pf ⟨2*1+1≤(zG s_).length,Nat.le_of_ble_eq_true rfl⟩, .pf ⟨((zG s_).drop (2*1)).take 1=[(U3 s_)].map .d,rfl⟩]<| .rg {an:=[(4, .take 12)],fr:=[(2,15)]} [.e (280), .pf ⟨(0:Int)≤(80:Int)∧(80:Int)<(280:Nat),(by decide)⟩, .e (200)]<| .im (.uh 12 (some (.arr 115 1 280 (AQ (WT s_) 80 (ay ah s_.badLink) (Nat.min s_.badLink.length 200)))) (some (.arr 115 1 280 (X6 s_))) (rD (MH 280 (Wv s_) 80 s_.badLink (Nat.min s_.badLink.length 200))))<| .r<| .im (.dp [2,3,20,21])<| .r<| .t<| .rg {an:=[(1, .vals [(UR s_)])]} [.pf ⟨(0:Int)≤3∧(3:Int)<(7:Nat),(by decide)⟩, .pf ⟨3*1+1≤(zG s_).length,Nat.le_of_ble_eq_true rfl⟩, .pf ⟨((zG s_).drop (3*1)).take 1=[(UR s_)].map .d,rfl⟩]<| .rg {an:=[(4, .take 12)],fr:=[(2,16)]} [.e (280), .pf ⟨(0:Int)≤(120:Int)∧(120:Int)<(280:Nat),(by decide)⟩, .e (160)]<| .im (.uh 12 (some (.arr 115 1 280 (AQ (X6 s_) 120 (ay ah s_.on_) (Nat.min s_.on_.length 160)))) (some (.arr 115 1 280 (Xq s_))) (rD (MH 280 (V4 s_) 120 s_.on_ (Nat.min s_.on_.length 160))))<| .r<| .im (.dp [2,3,20,21])<| .r<| .t<| .rg {an:=[(1, .vals [(U2 s_)])]} [.pf ⟨(0:Int)≤4∧(4:Int)<(7:Nat),(by decide)⟩, .pf ⟨4*1+1≤(zG s_).length,Nat.le_of_ble_eq_true rfl⟩, .pf ⟨((zG s_).drop (4*1)).take 1=[(U2 s_)].map .d,rfl⟩]<| .rg {an:=[(4, .take 12)],fr:=[(2,17)]} [.e (280), .pf ⟨(0:Int)≤(160:Int)∧(160:Int)<(280:Nat),(by decide)⟩, .e (120)]<| .im (.uh 12 (some (.arr 115 1 280 (AQ (Xq s_) 160 (ay ah s_.badSource) (Nat.min s_.badSource.length 120)))) (some (.arr 115 1 280 (YK s_))) (rD (MH 280 (VE s_) 160 s_.badSource (Nat.min s_.badSource.length 120))))<| .r<| .im (.dp [2,3,20,21])<| .r<| .t<| .rg {an:=[(1, .vals [(U0 s_)])]} [.pf ⟨(0:Int)≤5∧(5:Int)<(7:Nat),(by decide)⟩, .pf ⟨5*1+1≤(zG s_).length,Nat.le_of_ble_eq_true rfl⟩, .pf ⟨((zG s_).drop (5*1)).take 1=[(U0 s_)].map .d,rfl⟩]<| .rg {an:=[(4, .take 12)],fr:=[(2,18)]} [.e (280), .pf ⟨(0:Int)≤(200:Int)∧(200:Int)<(280:Nat),(by decide)⟩, .e (80)]<| .im (.uh 12 (some (.arr 115 1 280 (AQ (YK s_) 200 (ay ah s_.earthed) (Nat.min s_.earthed.length 80)))) (some (.arr 115 1 280 (Xj s_))) (rD (MH 280 (Ww s_) 200 s_.earthed (Nat.min s_.earthed.length 80))))<| .r<| .im (.dp [2,3,20,21])<| .r<| .t<| .rg {an:=[(1, .vals [(Uz s_)])]} [.pf ⟨(0:Int)≤6∧(6:Int)<(7:Nat),(by decide)⟩, .pf ⟨6*1+1≤(zG s_).length,Nat.le_of_ble_eq_true rfl⟩, .pf ⟨((zG s_).drop (6*1)).take 1=[(Uz s_)].map .d,rfl⟩]<| .rg {an:=[(4, .take 12)],fr:=[(2,19)]} [.e (280), .pf ⟨(0:Int)≤(240:Int)∧(240:Int)<(280:Nat),(by decide)⟩, .e (40)]<| .im (.uh 12 (some (.arr 115 1 280 (AQ (Xj s_) 240 (ay ah s_.badBus) (Nat.min s_.badBus.length 40)))) (some (.arr 115 1 280 (ay ah (Xx s_)))) (rD (MH 280 (VZ s_) 240 s_.badBus (Nat.min s_.badBus.length 40))))<| .r<| .im (.dp [2,3,20,21])<| .r<| .f<| .rg {fz:=[11]} [.pf ⟨0+280≤280,(by decide)⟩, .pf ⟨1≤280,(by decide)⟩]<| .e (Xx s_))
theorem uI (s_:(List Bool)) (u0:Bool):dG Tryz.prog 91 [(sD (aS (some u0) 1 ah s_))] [] (fun r=>(vD (aS none 1 ah r))) (fun _=>[]) (oK s_ u0):=
  dR tT mX Tryz.func91 (
  .r<| .r<| .it (.r<| .e ([]:List Bool))
  (.a2 ((([]:List Bool).length+s_.length)*1≤140737488355328) (([]:List Bool).length+s_.length≤4611686018427387904)<| .rg {an:=[(0, .arr ([]:List Bool).length (ay ah ([]:List Bool))),(2, .arr (([]:List Bool)++s_).length (ay ah (([]:List Bool)++s_)))],fr:=[(0,2),(2,3)],fz:=[3]} [.pf ⟨([]:List Bool).length=0,rfl⟩, .pf ⟨aK 0 1 (rq 1 []) (ay ah ([]:List Bool)),(fun i hi=>absurd hi (Nat.not_lt_zero i))⟩, .e (([]:List Bool).length),0,1, .pf ⟨(([]:List Bool)++s_).length=([]:List Bool).length+s_.length,List.length_append⟩, .pf ⟨aK (([]:List Bool).length+s_.length) 1 (wK (ay ah ([]:List Bool)) ([]:List Bool).length (ay ah s_)) (ay ah (([]:List Bool)++s_)),gu _ _ _ _⟩]<| .e (([]:List Bool)++s_)))
theorem dY (s:(List Bool)) {r:(List Bool)} (h:aj s=some r):Fn Tryz.prog 91 [(sD (aS none 1 ah s))] [] (vD (aS none 1 ah r)) []:=by
 refine Fn.nn (uI s true h) fun hl=> ?_
 have hs:s=[]:=List.eq_nil_of_length_eq_zero hl
 subst hs
 exact uI [] false (by rw [←h];kernel_rfl)
theorem uF (s_:State):dG Tryz.prog 53 (Tn s_) [] (fun r=>(.v (.agg [(.d (aS none 1 ah r.closed)),(.d (aS none 1 ah r.locked)),(.d (aS none 1 ah r.badLink)),(.d (aS none 1 ah r.on_)),(.d (aS none 1 ah r.badSource)),(.d (aS none 1 ah r.earthed)),(.d (aS none 1 ah r.badBus))]))) (fun _=>[]) (jF s_):=
  dR tT mX Tryz.func53 (
  .rg {fr:=[(0,3),(1,4)]} []<| .rg {an:=[(7, .cells)],fr:=[(7,5)]} []<| .ul 11<| .r<| .t<| .a1 ((0:Int)≤0∧0<(7:Int))<| .r<| .cl 4 ⟨fun h=>dY s_.closed h⟩ fun r_=> .r<| .r<| .im (.dp [1,2,12,13,14])<| .r<| .t<| .a1 ((0:Int)≤1∧1<(7:Int))<| .r<| .cl 4 ⟨fun h=>dY s_.locked h⟩ fun u0=> .r<| .r<| .im (.dp [1,2,12,13,14])<| .r<| .t<| .a1 ((0:Int)≤2∧2<(7:Int))<| .r<| .cl 4 ⟨fun h=>dY s_.badLink h⟩ fun u1=> .r<| .r<| .im (.dp [1,2,12,13,14])<| .r<| .t<| .a1 ((0:Int)≤3∧3<(7:Int))<| .r<| .cl 4 ⟨fun h=>dY s_.on_ h⟩ fun u2=> .r<| .r<| .im (.dp [1,2,12,13,14])<| .r<| .t<| .a1 ((0:Int)≤4∧4<(7:Int))<| .r<| .cl 4 ⟨fun h=>dY s_.badSource h⟩ fun u3=> .r<| .r<| .im (.dp [1,2,12,13,14])<| .r<| .t<| .a1 ((0:Int)≤5∧5<(7:Int))<| .r<| .cl 4 ⟨fun h=>dY s_.earthed h⟩ fun u4=> .r<| .r<| .im (.dp [1,2,12,13,14])<| .r<| .t<| .a1 ((0:Int)≤6∧6<(7:Int))<| .r<| .cl 4 ⟨fun h=>dY s_.badBus h⟩ fun u5=> .r<| .r<| .im (.dp [1,2,12,13,14])<| .r<| .f<| .rg {fz:=[4]} []<| .e (qd r_ u0 u1 u2 u3 u4 u5))
end
end Sg
