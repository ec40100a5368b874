import Derived.Test.YtboodeobmgjjpaaGreatReGm
import Derived.Test.YtboodeobmgjjpaaGreatProg
import Derived.Test.YtboodeobmgjjpaaGreatReLd
set_option linter.all false
namespace Sg
open Go Go.Proofs
set_option maxRecDepth 20000
noncomputable section
noncomputable def TT:List (Nat × TI):=[(3,⟨Tryz.t3.desc,Tryz.t3.size,Tryz.t3.bytes,zl Tryz.t3,false⟩),
  (4,⟨Tryz.t4.desc,Tryz.t4.size,Tryz.t4.bytes,zl Tryz.t4,false⟩),
  (22,⟨Tryz.t22.desc,Tryz.t22.size,Tryz.t22.bytes,zl Tryz.t22,false⟩),
  (23,⟨Tryz.t23.desc,Tryz.t23.size,Tryz.t23.bytes,zl Tryz.t23,false⟩),
  (24,⟨Tryz.t24.desc,Tryz.t24.size,Tryz.t24.bytes,zl Tryz.t24,false⟩),
  (26,⟨Tryz.t25.desc,Tryz.t26.size,Tryz.t26.bytes,zl Tryz.t26,false⟩),
  (27,⟨Tryz.t27.desc,Tryz.t27.size,Tryz.t27.bytes,zl Tryz.t27,false⟩),
  (29,⟨Tryz.t28.desc,Tryz.t29.size,Tryz.t29.bytes,zl Tryz.t29,false⟩),
  (30,⟨Tryz.t30.desc,Tryz.t30.size,Tryz.t30.bytes,zl Tryz.t30,false⟩),
  (31,⟨Tryz.t31.desc,Tryz.t31.size,Tryz.t31.bytes,zl Tryz.t31,false⟩),
  (33,⟨Tryz.t32.desc,Tryz.t33.size,Tryz.t33.bytes,zl Tryz.t33,false⟩),
  (36,⟨Tryz.t36.desc,Tryz.t36.size,Tryz.t36.bytes,zl Tryz.t36,false⟩),
  (37,⟨Tryz.t3.desc,Tryz.t37.size,Tryz.t37.bytes,zl Tryz.t37,false⟩),
  (40,⟨Tryz.t32.desc,Tryz.t40.size,Tryz.t40.bytes,zl Tryz.t40,false⟩),
  (52,⟨Tryz.t3.desc,Tryz.t52.size,Tryz.t52.bytes,zl Tryz.t52,false⟩),
  (53,⟨Tryz.t53.desc,Tryz.t53.size,Tryz.t53.bytes,zl Tryz.t53,false⟩),
  (55,⟨Tryz.t54.desc,Tryz.t55.size,Tryz.t55.bytes,zl Tryz.t55,false⟩),
  (56,⟨Tryz.t3.desc,Tryz.t56.size,Tryz.t56.bytes,zl Tryz.t56,false⟩),
  (58,⟨Tryz.t57.desc,Tryz.t58.size,Tryz.t58.bytes,zl Tryz.t58,true⟩),
  (59,⟨Tryz.t3.desc,Tryz.t59.size,Tryz.t59.bytes,zl Tryz.t59,false⟩),
  (61,⟨Tryz.t60.desc,Tryz.t61.size,Tryz.t61.bytes,zl Tryz.t61,true⟩),
  (72,⟨Tryz.t72.desc,Tryz.t72.size,Tryz.t72.bytes,zl Tryz.t72,false⟩),
  (75,⟨Tryz.t75.desc,Tryz.t75.size,Tryz.t75.bytes,zl Tryz.t75,false⟩),
  (78,⟨Tryz.t78.desc,Tryz.t78.size,Tryz.t78.bytes,zl Tryz.t78,true⟩),
  (99,⟨Tryz.t99.desc,Tryz.t99.size,Tryz.t99.bytes,zl Tryz.t99,false⟩),
  (100,⟨Tryz.t100.desc,Tryz.t100.size,Tryz.t100.bytes,zl Tryz.t100,false⟩),
  (101,⟨Tryz.t101.desc,Tryz.t101.size,Tryz.t101.bytes,zl Tryz.t101,false⟩),
  (103,⟨Tryz.t102.desc,Tryz.t103.size,Tryz.t103.bytes,zl Tryz.t103,false⟩),
  (112,⟨Tryz.t112.desc,Tryz.t112.size,Tryz.t112.bytes,zl Tryz.t112,false⟩),
  (115,⟨Tryz.t114.desc,Tryz.t115.size,Tryz.t115.bytes,zl Tryz.t115,true⟩),
  (117,⟨Tryz.t117.desc,Tryz.t117.size,Tryz.t117.bytes,zl Tryz.t117,true⟩),
  (119,⟨Tryz.t118.desc,Tryz.t119.size,Tryz.t119.bytes,zl Tryz.t119,true⟩),
  (126,⟨Tryz.t126.desc,Tryz.t126.size,Tryz.t126.bytes,zl Tryz.t126,false⟩),
  (129,⟨Tryz.t128.desc,Tryz.t129.size,Tryz.t129.bytes,zl Tryz.t129,false⟩),
  (133,⟨Tryz.t133.desc,Tryz.t133.size,Tryz.t133.bytes,zl Tryz.t133,false⟩),
  (145,⟨Tryz.t145.desc,Tryz.t145.size,Tryz.t145.bytes,zl Tryz.t145,false⟩),
  (147,⟨Tryz.t146.desc,Tryz.t147.size,Tryz.t147.bytes,zl Tryz.t147,false⟩),
  (148,⟨Tryz.t148.desc,Tryz.t148.size,Tryz.t148.bytes,zl Tryz.t148,false⟩),
  (149,⟨Tryz.t149.desc,Tryz.t149.size,Tryz.t149.bytes,zl Tryz.t149,false⟩),
  (154,⟨Tryz.t154.desc,Tryz.t154.size,Tryz.t154.bytes,zl Tryz.t154,false⟩),
  (155,⟨Tryz.t155.desc,Tryz.t155.size,Tryz.t155.bytes,zl Tryz.t155,false⟩),
  (165,⟨Tryz.t165.desc,Tryz.t165.size,Tryz.t165.bytes,zl Tryz.t165,false⟩),
  (167,⟨Tryz.t166.desc,Tryz.t167.size,Tryz.t167.bytes,zl Tryz.t167,false⟩),
  (168,⟨Tryz.t168.desc,Tryz.t168.size,Tryz.t168.bytes,zl Tryz.t168,false⟩),
  (170,⟨Tryz.t170.desc,Tryz.t170.size,Tryz.t170.bytes,zl Tryz.t170,false⟩),
  (172,⟨Tryz.t171.desc,Tryz.t172.size,Tryz.t172.bytes,zl Tryz.t172,false⟩),
  (182,⟨Tryz.t182.desc,Tryz.t182.size,Tryz.t182.bytes,zl Tryz.t182,false⟩),
  (184,⟨Tryz.t183.desc,Tryz.t184.size,Tryz.t184.bytes,zl Tryz.t184,false⟩),
  (185,⟨Tryz.t185.desc,Tryz.t185.size,Tryz.t185.bytes,zl Tryz.t185,false⟩),
  (193,⟨Tryz.t193.desc,Tryz.t193.size,Tryz.t193.bytes,zl Tryz.t193,false⟩),
  (196,⟨Tryz.t196.desc,Tryz.t196.size,Tryz.t196.bytes,zl Tryz.t196,false⟩),
  (199,⟨Tryz.t199.desc,Tryz.t199.size,Tryz.t199.bytes,zl Tryz.t199,false⟩),
  (220,⟨Tryz.t219.desc,Tryz.t220.size,Tryz.t220.bytes,zl Tryz.t220,true⟩)]
theorem tT:rG Tryz.prog TT:=⟨gu (by kernel_rfl) (by kernel_rfl) (by kernel_rfl),⟨iJ,dA (by kernel_rfl)⟩,gu (by kernel_rfl) (by kernel_rfl) (by kernel_rfl),⟨iJ,dA (by kernel_rfl)⟩,gu (by kernel_rfl) (by kernel_rfl) (by kernel_rfl),⟨iJ,dA (by kernel_rfl)⟩,gu (by kernel_rfl) (by kernel_rfl) (by kernel_rfl),⟨iJ,dA (by kernel_rfl)⟩,gu (by kernel_rfl) (by kernel_rfl) (by kernel_rfl),⟨iJ,dA (by kernel_rfl)⟩,gu (by kernel_rfl) (by kernel_rfl) (by kernel_rfl),⟨iJ,dA (by kernel_rfl)⟩,gu (by kernel_rfl) (by kernel_rfl) (by kernel_rfl),⟨iJ,dA (by kernel_rfl)⟩,gu (by kernel_rfl) (by kernel_rfl) (by kernel_rfl),⟨iJ,dA (by kernel_rfl)⟩,gu (by kernel_rfl) (by kernel_rfl) (by kernel_rfl),⟨iJ,dA (by kernel_rfl)⟩,gu (by kernel_rfl) (by kernel_rfl) (by kernel_rfl),⟨iJ,dA (by kernel_rfl)⟩,gu (by kernel_rfl) (by kernel_rfl) (by kernel_rfl),⟨iJ,dA (by kernel_rfl)⟩,gu (by kernel_rfl) (by kernel_rfl) (by kernel_rfl),⟨iJ,dA (by kernel_rfl)⟩,gu (by kernel_rfl) (by kernel_rfl) (by kernel_rfl),⟨iJ,dA (by kernel_rfl)⟩,gu (by kernel_rfl) (by kernel_rfl) (by kernel_rfl),⟨iJ,dA (by kernel_rfl)⟩,gu (by kernel_rfl) (by kernel_rfl) (by kernel_rfl),⟨iJ,dA (by kernel_rfl)⟩,gu (by kernel_rfl) (by kernel_rfl) (by kernel_rfl),⟨iJ,dA (by kernel_rfl)⟩,gu (by kernel_rfl) (by kernel_rfl) (by kernel_rfl),⟨iJ,dA (by kernel_rfl)⟩,gu (by kernel_rfl) (by kernel_rfl) (by kernel_rfl),⟨iJ,dA (by kernel_rfl)⟩,gu (by kernel_rfl) (by kernel_rfl) (by kernel_rfl),⟨fun _=> ⟨by kernel_rfl,by kernel_rfl⟩,dA (by kernel_rfl)⟩,gu (by kernel_rfl) (by kernel_rfl) (by kernel_rfl),⟨iJ,dA (by kernel_rfl)⟩,gu (by kernel_rfl) (by kernel_rfl) (by kernel_rfl),⟨fun _=> ⟨by kernel_rfl,by kernel_rfl⟩,dA (by kernel_rfl)⟩,gu (by kernel_rfl) (by kernel_rfl) (by kernel_rfl),⟨iJ,dA (by kernel_rfl)⟩,gu (by kernel_rfl) (by kernel_rfl) (by kernel_rfl),⟨iJ,dA (by kernel_rfl)⟩,gu (by kernel_rfl) (by kernel_rfl) (by kernel_rfl),⟨fun _=> ⟨by kernel_rfl,by kernel_rfl⟩,dA (by kernel_rfl)⟩,gu (by kernel_rfl) (by kernel_rfl) (by kernel_rfl),⟨iJ,dA (by kernel_rfl)⟩,gu (by kernel_rfl) (by kernel_rfl) (by kernel_rfl),⟨iJ,dA (by kernel_rfl)⟩,gu (by kernel_rfl) (by kernel_rfl) (by kernel_rfl),⟨iJ,dA (by kernel_rfl)⟩,gu (by kernel_rfl) (by kernel_rfl) (by kernel_rfl),⟨iJ,dA (by kernel_rfl)⟩,gu (by kernel_rfl) (by kernel_rfl) (by kernel_rfl),⟨iJ,dA (by kernel_rfl)⟩,gu (by kernel_rfl) (by kernel_rfl) (by kernel_rfl),⟨fun _=> ⟨by kernel_rfl,by kernel_rfl⟩,dA (by kernel_rfl)⟩,gu (by kernel_rfl) (by kernel_rfl) (by kernel_rfl),⟨fun _=> ⟨by kernel_rfl,by kernel_rfl⟩,dA (by kernel_rfl)⟩,gu (by kernel_rfl) (by kernel_rfl) (by kernel_rfl),⟨fun _=> ⟨by kernel_rfl,by kernel_rfl⟩,dA (by kernel_rfl)⟩,gu (by kernel_rfl) (by kernel_rfl) (by kernel_rfl),⟨iJ,dA (by kernel_rfl)⟩,gu (by kernel_rfl) (by kernel_rfl) (by kernel_rfl),⟨iJ,dA (by kernel_rfl)⟩,gu (by kernel_rfl) (by kernel_rfl) (by kernel_rfl),⟨iJ,dA (by kernel_rfl)⟩,gu (by kernel_rfl) (by kernel_rfl) (by kernel_rfl),⟨iJ,dA (by kernel_rfl)⟩,gu (by kernel_rfl) (by kernel_rfl) (by kernel_rfl),⟨iJ,dA (by kernel_rfl)⟩,gu (by kernel_rfl) (by kernel_rfl) (by kernel_rfl),⟨iJ,dA (by kernel_rfl)⟩,gu (by kernel_rfl) (by kernel_rfl) (by kernel_rfl),⟨iJ,dA (by kernel_rfl)⟩,gu (by kernel_rfl) (by kernel_rfl) (by kernel_rfl),⟨iJ,dA (by kernel_rfl)⟩,gu (by kernel_rfl) (by kernel_rfl) (by kernel_rfl),⟨iJ,dA (by kernel_rfl)⟩,gu (by kernel_rfl) (by kernel_rfl) (by kernel_rfl),⟨iJ,dA (by kernel_rfl)⟩,gu (by kernel_rfl) (by kernel_rfl) (by kernel_rfl),⟨iJ,dA (by kernel_rfl)⟩,gu (by kernel_rfl) (by kernel_rfl) (by kernel_rfl),⟨iJ,dA (by kernel_rfl)⟩,gu (by kernel_rfl) (by kernel_rfl) (by kernel_rfl),⟨iJ,dA (by kernel_rfl)⟩,gu (by kernel_rfl) (by kernel_rfl) (by kernel_rfl),⟨iJ,dA (by kernel_rfl)⟩,gu (by kernel_rfl) (by kernel_rfl) (by kernel_rfl),⟨iJ,dA (by kernel_rfl)⟩,gu (by kernel_rfl) (by kernel_rfl) (by kernel_rfl),⟨iJ,dA (by kernel_rfl)⟩,gu (by kernel_rfl) (by kernel_rfl) (by kernel_rfl),⟨iJ,dA (by kernel_rfl)⟩,gu (by kernel_rfl) (by kernel_rfl) (by kernel_rfl),⟨iJ,dA (by kernel_rfl)⟩,gu (by kernel_rfl) (by kernel_rfl) (by kernel_rfl),⟨iJ,dA (by kernel_rfl)⟩,gu (by kernel_rfl) (by kernel_rfl) (by kernel_rfl),⟨iJ,dA (by kernel_rfl)⟩,gu (by kernel_rfl) (by kernel_rfl) (by kernel_rfl),⟨fun _=> ⟨by kernel_rfl,by kernel_rfl⟩,dA (by kernel_rfl)⟩,trivial⟩
theorem mX:Tryz.prog.follows .mixedOrders=true:=by kernel_rfl
def Js:Go.Shelf.Ren:=⟨fun|6=>76|14=>116|15=>117|20=>144|21=>145|22=>146|23=>147|24=>148|25=>149|26=>150|27=>151|28=>152|29=>153|46=>176|47=>177|48=>178|49=>179|50=>180|57=>184|n=>n,fun|0=>0|3=>3|4=>4|5=>5|9=>9|22=>75|24=>117|25=>132|39=>181|45=>205|46=>206|50=>178|53=>212|55=>214|66=>228|70=>232|76=>237|77=>238|n=>n,fun n=>n⟩
theorem PE:Go.Proofs.SlLaysF0.n6 Tryz.prog Js:=⟨by kernel_rfl,⟨Tryz.f76.name,by kernel_rfl,Tryz.func76.trans (congrArg some (by kernel_rfl))⟩,⟨Tryz.f116.name,by kernel_rfl,Tryz.func116.trans (congrArg some (by kernel_rfl))⟩,Tryz.func117.trans (congrArg some (by kernel_rfl)),⟨Tryz.f144.name,by kernel_rfl,Tryz.func144.trans (congrArg some (by kernel_rfl))⟩,⟨Tryz.f145.name,by kernel_rfl,Tryz.func145.trans (congrArg some (by kernel_rfl))⟩,⟨Tryz.f146.name,by kernel_rfl,Tryz.func146.trans (congrArg some (by kernel_rfl))⟩,⟨Tryz.f147.name,by kernel_rfl,Tryz.func147.trans (congrArg some (by kernel_rfl))⟩,⟨Tryz.f148.name,by kernel_rfl,Tryz.func148.trans (congrArg some (by kernel_rfl))⟩,⟨Tryz.f149.name,by kernel_rfl,Tryz.func149.trans (congrArg some (by kernel_rfl))⟩,⟨Tryz.f150.name,by kernel_rfl,Tryz.func150.trans (congrArg some (by kernel_rfl))⟩,⟨Tryz.f151.name,by kernel_rfl,Tryz.func151.trans (congrArg some (by kernel_rfl))⟩,Tryz.func152.trans (congrArg some (by kernel_rfl)),Tryz.func153.trans (congrArg some (by kernel_rfl)),⟨Tryz.f176.name,by kernel_rfl,Tryz.func176.trans (congrArg some (by kernel_rfl))⟩,Tryz.func177.trans (congrArg some (by kernel_rfl)),Tryz.func178.trans (congrArg some (by kernel_rfl)),⟨Tryz.f179.name,by kernel_rfl,Tryz.func179.trans (congrArg some (by kernel_rfl))⟩,⟨Tryz.f180.name,by kernel_rfl,Tryz.func180.trans (congrArg some (by kernel_rfl))⟩,⟨Tryz.f184.name,by kernel_rfl,Tryz.func184.trans (congrArg some (by kernel_rfl))⟩,Tryz.underlying0,Tryz.isAgg0,Tryz.sizeOf0,Tryz.zeroValue0,Tryz.underlying3,Tryz.isAgg3,Tryz.sizeOf3,Tryz.zeroValue3,Tryz.underlying4,Tryz.isAgg4,Tryz.sizeOf4,Tryz.zeroValue4,Tryz.underlying5,Tryz.isAgg5,Tryz.sizeOf5,Tryz.zeroValue5,Tryz.underlying9,Tryz.isAgg9,Tryz.sizeOf9,Tryz.zeroValue9,Tryz.underlying75,Tryz.isAgg75,Tryz.sizeOf75,Tryz.zeroValue75,Tryz.underlying132,Tryz.isAgg132,Tryz.sizeOf132,Tryz.zeroValue132,Tryz.underlying181,Tryz.isAgg181,Tryz.sizeOf181,Tryz.zeroValue181,Tryz.underlying205,Tryz.isAgg205,Tryz.sizeOf205,Tryz.zeroValue205,Tryz.underlying206,Tryz.isAgg206,Tryz.sizeOf206,Tryz.zeroValue206,Tryz.underlying178,Tryz.isAgg178,Tryz.sizeOf178,Tryz.zeroValue178,Tryz.underlying212,Tryz.isAgg212,Tryz.sizeOf212,Tryz.zeroValue212,Tryz.underlying214,Tryz.isAgg214,Tryz.sizeOf214,Tryz.zeroValue214,Tryz.underlying228,Tryz.isAgg228,Tryz.sizeOf228,Tryz.zeroValue228,Tryz.underlying232,Tryz.isAgg232,Tryz.sizeOf232,Tryz.zeroValue232,Tryz.underlying237,Tryz.isAgg237,Tryz.sizeOf237,Tryz.zeroValue237,Tryz.underlying238,Tryz.isAgg238,Tryz.sizeOf238,Tryz.zeroValue238⟩
theorem R5 (w:World):(isAgg (Js.t 24)).run Tryz.prog w= .ok true w:=Tryz.isAgg117 w
theorem QX (w:World):(Go.sizeOf (Js.t 24)).run Tryz.prog w= .ok 2 w:=Tryz.sizeOf117 w
section
variable (p:aj) (t:Task)
abbrev k1:List CV:=[(cI p.buses),(.d (bB none 5 Source.cell p.sources)),(.d (bB none 6 Link.cell p.links)),(.d (bB none 4 aU.cell p.racks))]
abbrev k3:DV:=(bB none 1 (bL .i64) t.crew)
abbrev k4:DV:=(bB none 2 af.cell t.allowed)
abbrev k5:DV:=(bB none 2 af.cell t.goal)
abbrev k2:List CV:=[(.d (bB none 1 (bL .i64) t.fed)),(.d (k3 t)),(.d (k4 t)),(.d (k5 t))]
abbrev k0:List SV:=[(.agg (k1 p)),(.agg (k2 t))]
end
theorem FC (p:aj) (t:Task):eP Tryz.prog 11 (k0 p t) [] (fun r=>(vB r)) (fun _=>[]) (yx p t):=
  fD tT mX Tryz.func11 (
  .rg {fr:=[(0,2),(1,3)],fz:=[2,3]} []<| .r<| .e (bif (bif (bif (bif (bif (bif (decide (60<(p.sources.length:Int)))then true else(decide (60<(p.links.length:Int))))then true else(decide (60<(p.racks.length:Int))))then true else(decide (60<(t.fed.length:Int))))then true else(decide (60<(t.crew.length:Int))))then true else(decide (60<(t.allowed.length:Int))))then true else(decide (60<(t.goal.length:Int)))))
theorem aM (n:Int) (u0:Int) (u1:Int):eP Tryz.prog 123 [(sI n),(sI u0),(sI u1)] [] (fun r=>(vB r)) (fun _=>[]) (aS n u0 u1):=
  fD tT mX Tryz.func123 (
  .r<| .r<| .e (bif (decide (u0≤n))then(decide (n≤u1))else false))
section
variable (p:aj)
abbrev k6:List SV:=[(.agg (k1 p))]
end
theorem AY (p:aj):eP Tryz.prog 125 (k6 p) [] (fun r=>(vD (.fn 163 1 (bg [(DW [(.int .i64 r.1),(bB none 5 Source.cell r.2.1),(bB none 6 Link.cell r.2.2.1),(bB none 4 aU.cell r.2.2.2)] 0)])))) (fun _=>[]) (tV p):=
  fD tT mX Tryz.func125 (
  .rg {fr:=[(0,1)],fz:=[1]} []<| .r<| .e (p.buses,p.sources,p.links,p.racks))
theorem Dw (p:aj):eP Tryz.prog 127 (k6 p) [] (fun r=>(vD (.fn 166 1 (bg [(DW [(.int .i64 r.1),(bB none 5 Source.cell r.2.1),(bB none 6 Link.cell r.2.2.1),(bB none 4 aU.cell r.2.2.2)] 0)])))) (fun _=>[]) (xg p):=
  fD tT mX Tryz.func127 (
  .rg {fr:=[(0,1)],fz:=[1]} []<| .r<| .e (p.buses,p.sources,p.links,p.racks))
theorem Dx (p:aj):eP Tryz.prog 129 (k6 p) [] (fun r=>(vD (.fn 169 1 (bg [(DW [(.int .i64 r.1),(bB none 5 Source.cell r.2.1),(bB none 6 Link.cell r.2.2.1),(bB none 4 aU.cell r.2.2.2)] 0)])))) (fun _=>[]) (wR p):=
  fD tT mX Tryz.func129 (
  .rg {fr:=[(0,1)],fz:=[1]} []<| .r<| .e (p.buses,p.sources,p.links,p.racks))
section
variable (x:Source) (u2:(List Source)) (x1:Int) (u3:(List Link)) (u4:(List aU)) (r_:Bool) (u0:Bool) (u1:Bool) (u5:Bool) (u6:Bool)
abbrev k7:List CV:=[(cI x.bus),(cI x.kind),(cI x.power),(cI x.sync),(cI x.ohm)]
abbrev k9:DV:=(bB none 5 Source.cell u2)
abbrev k8:DV:=(DW [(.int .i64 x1),(k9 u2),(bB none 6 Link.cell u3),(bB none 4 aU.cell u4)] 0)
abbrev k10:=(IntKind.wrap .i64 (x1 - 1))
abbrev k11:=((bif r_ then u0 else false),true)
abbrev k12:=((bif (bif r_ then u0 else false)then u1 else false),true)
abbrev k13:=(bif (bif (bif r_ then u0 else false)then u1 else false)then u5 else false)
abbrev k14:=(bif (k13 r_ u0 u1 u5)then u6 else false)
end
theorem zG (x:Source) (x1:Int) (u2:(List Source)) (u3:(List Link)) (u4:(List aU)):eP Tryz.prog 163 [(.agg (k7 x)),(sD (k8 u2 x1 u3 u4))] [] (fun r=>(vB r)) (fun _=>[]) (mo x x1 u2 u3 u4):=
  fD tT mX Tryz.func163 (
  .rg {fr:=[(0,1)],fz:=[1]} []<| .cl 5 (aM x.bus 0 (k10 x1)) fun r_=> .cg 9 [(r_,true)] (aM x.kind 1 3) fun u0=> .cg 14 [(k11 r_ u0)] (aM x.power 1 100000) fun u1=> .cg 19 [(k12 r_ u0 u1)] (aM x.sync 0 8) fun u5=> .cg 24 [((k13 r_ u0 u1 u5),true)] (aM x.ohm 10 100000) fun u6=> .r<| .e (k14 r_ u0 u1 u5 u6))
section
variable (x1:Int) (u0:(List Source)) (u1:(List Link)) (u2:(List aU))
abbrev k16:=(bg [(k8 u0 x1 u1 u2)])
abbrev k15:DV:=(DW [(.fn 163 1 (k16 x1 u0 u1 u2))] 0)
end
theorem Bv (x:Source) (x1:Int) (u0:(List Source)) (u1:(List Link)) (u2:(List aU)):eP Tryz.prog 162 [(.agg (k7 x)),(sD (k15 x1 u0 u1 u2))] [] (fun r=>(vB r)) (fun _=>[]) (sW x x1 u0 u1 u2):=
  fD tT mX Tryz.func162 (
  .rg {fr:=[(0,1)],fz:=[1]} []<| .cl 2 (zG x x1 u0 u1 u2) fun r_=> .r<| .e (!r_))
section
variable (s_:(List Source)) (f_:Int) (u0:(List Source)) (u1:(List Link)) (u2:(List aU)) (t8:Int)
abbrev k17:List SV:=[(sD (k9 s_)),(sD (.fn 162 1 (bg [(k15 f_ u0 u1 u2)])))]
abbrev k18:=(IntKind.wrap .i64 (t8+1))
end
theorem xN (s_:(List Source)) (f_:Int) (u0:(List Source)) (u1:(List Link)) (u2:(List aU)):eP Tryz.prog 181 (k17 s_ f_ u0 u1 u2) [] (fun r=>(vI r)) (fun _=>[]) (nW s_ f_ u0 u1 u2):=
  fD tT mX Tryz.func181 (
  .r<| .r<| .lp (σ:=Int) (β:=Unit) (0) [] [] ⟨[0,1,7],[],fun t8=>[(8,(vI t8))],fun t8=>[]⟩ ⟨[],[],fun _=>[],fun _=>[]⟩
  (fun t8=> .r<| .it (.r<| .cl 5 (Bv (at' s_ t8.toNat) f_ u0 u1 u2) fun r_=> .a1 ((0:Int)≤t8∧t8<(s_.length:Int))<| .rg {} [0,1]<| .it (.r<| .e (.done (.ret t8)))
  (.r<| .e (.next (k18 t8))))
  (.e (.done (.brk ()))))
  (fun _=> .r<| .e (-1)))
theorem uR (s_:(List Source)) (f_:Int) (u0:(List Source)) (u1:(List Link)) (u2:(List aU)):eP Tryz.prog 161 (k17 s_ f_ u0 u1 u2) [] (fun r=>(vB r)) (fun _=>[]) (iF s_ f_ u0 u1 u2):=
  fD tT mX Tryz.func161 (
  .r<| .cl 2 (xN s_ f_ u0 u1 u2) fun r_=> .r<| .e (decide (0≤r_)))
theorem DK (l:(List Source)) (u0:Int) (u1:Int) (u2:(List Source)) (u3:(List Link)) (u4:(List aU)):eP Tryz.prog 124 [(sD (k9 l)),(sI u0),(sD (.fn 163 1 (k16 u1 u2 u3 u4)))] [] (fun r=>(vB r)) (fun _=>[]) (rW l u0 u1 u2 u3 u4):=
  fD tT mX Tryz.func124 (
  .rg {fr:=[(0,1)],fz:=[1]} []<| .cg 7 [((decide ((l.length:Int)≤u0)),true)] (uR l u1 u2 u3 u4) fun r_=> .r<| .e (bif (decide ((l.length:Int)≤u0))then(!r_)else false))
section
variable (x:Link) (u0:Int)
abbrev k19:List CV:=[(cI x.a),(cI x.b),(cI x.kind),(cI x.most),(cI x.ohm),(.d (bB none 2 oF.cell x.trip))]
abbrev k20:=((decide (((at' x.trip u0.toNat).amps)≤((at' x.trip ((k10 u0).toNat)).amps))),false)
end
theorem AZ (x:Link) (x1:Int) (u3:(List Source)) (u4:(List Link)) (u5:(List aU)):eP Tryz.prog 166 [(.agg (k19 x)),(sD (k8 u3 x1 u4 u5))] [] (fun r=>(vB r)) (fun _=>[]) (oM x x1 u3 u4 u5):=
  fD tT mX Tryz.func166 (
  .rg {fr:=[(0,5)]} []<| .cl 5 (aM x.a 0 (k10 x1)) fun r_=> .cg 13 [((!r_),false)] (aM x.b 0 (k10 x1)) fun u1=> .cg 26 [((bif (bif (!r_)then true else(!u1))then true else(decide (x.a=x.b))),false)] (aM x.kind 1 3) fun u6=> .cg 32 [((bif (bif (bif (!r_)then true else(!u1))then true else(decide (x.a=x.b)))then true else(!u6)),false)] (aM x.most 1 100000) fun u8=> .cg 38 [((bif (bif (bif (bif (!r_)then true else(!u1))then true else(decide (x.a=x.b)))then true else(!u6))then true else(!u8)),false)] (aM x.ohm 10 100000) fun u9=> .r<| .it (.r<| .e false)
  (.rg {fz:=[5]} []<| .lp (σ:=Int) (β:=Unit) (0) [] [] ⟨[2,48,49],[],fun u0=>[(50,(vI u0))],fun u0=>[]⟩ ⟨[2],[],fun _=>[],fun _=>[]⟩
  (fun u0=> .r<| .it (.a1 ((0:Int)≤u0∧u0<(x.trip.length:Int))<| .rg {fr:=[(3,9)],fz:=[9]} []<| .cl 2 (aM ((at' x.trip u0.toNat).amps) 1 1000000) fun u2=> .cg 7 [((!u2),false)] (aM ((at' x.trip u0.toNat).millis) 1 100000) fun u7=> .a2 ((gB [((decide (0<u0)),true),((bif (!u2)then true else(!u7)),false)]=true→(0:Int)≤(k10 u0)∧(k10 u0)<(x.trip.length:Int))) ((gB [(k20 x u0),((decide (0<u0)),true),((bif (!u2)then true else(!u7)),false)]=true→(0:Int)≤(k10 u0)∧(k10 u0)<(x.trip.length:Int)))<| .rg {} [3,2,0,1]<| .it (.r<| .e (.done (.ret false)))
  (.r<| .e (.next (k18 u0))))
  (.e (.done (.brk ()))))
  (fun _=> .r<| .e (bif (decide ((x.trip.length:Int)≤6))then(bif (decide ((x.trip.length:Int)=0))then true else(decide (x.kind=3)))else false))))
section
variable (x1:Int) (u0:(List Source)) (u1:(List Link)) (u2:(List aU))
abbrev k21:DV:=(DW [(.fn 166 1 (k16 x1 u0 u1 u2))] 0)
end
theorem y7 (x:Link) (x1:Int) (u0:(List Source)) (u1:(List Link)) (u2:(List aU)):eP Tryz.prog 165 [(.agg (k19 x)),(sD (k21 x1 u0 u1 u2))] [] (fun r=>(vB r)) (fun _=>[]) (oG x x1 u0 u1 u2):=
  fD tT mX Tryz.func165 (
  .rg {fr:=[(0,1)],fz:=[1]} []<| .cl 2 (AZ x x1 u0 u1 u2) fun r_=> .r<| .e (!r_))
section
variable (s_:(List Link)) (f_:Int) (u0:(List Source)) (u1:(List Link)) (u2:(List aU)) (t8:Int)
abbrev k22:List SV:=[(sD (bB none 6 Link.cell s_)),(sD (.fn 165 1 (bg [(k21 f_ u0 u1 u2)])))]
abbrev k23:=((0:Int)≤t8∧t8<(s_.length:Int))
end
theorem vJ (s_:(List Link)) (f_:Int) (u0:(List Source)) (u1:(List Link)) (u2:(List aU)):eP Tryz.prog 182 (k22 s_ f_ u0 u1 u2) [] (fun r=>(vI r)) (fun _=>[]) (kS s_ f_ u0 u1 u2):=
  fD tT mX Tryz.func182 (
  .r<| .r<| .lp (σ:=Int) (β:=Unit) (0) [] [] ⟨[0,1,7],[],fun t8=>[(8,(vI t8))],fun t8=>[]⟩ ⟨[],[],fun _=>[],fun _=>[]⟩
  (fun t8=> .r<| .it (.r<| .cl 5 (y7 (at' s_ t8.toNat) f_ u0 u1 u2) fun r_=> .a1 (k23 s_ t8)<| .rg {} [0,1]<| .it (.r<| .e (.done (.ret t8)))
  (.r<| .e (.next (k18 t8))))
  (.e (.done (.brk ()))))
  (fun _=> .r<| .e (-1)))
theorem rR (s_:(List Link)) (f_:Int) (u0:(List Source)) (u1:(List Link)) (u2:(List aU)):eP Tryz.prog 164 (k22 s_ f_ u0 u1 u2) [] (fun r=>(vB r)) (fun _=>[]) (fZ s_ f_ u0 u1 u2):=
  fD tT mX Tryz.func164 (
  .r<| .cl 2 (vJ s_ f_ u0 u1 u2) fun r_=> .r<| .e (decide (0≤r_)))
theorem Cb (l:(List Link)) (u0:Int) (u1:Int) (u2:(List Source)) (u3:(List Link)) (u4:(List aU)):eP Tryz.prog 126 [(sD (bB none 6 Link.cell l)),(sI u0),(sD (.fn 166 1 (k16 u1 u2 u3 u4)))] [] (fun r=>(vB r)) (fun _=>[]) (oP l u0 u1 u2 u3 u4):=
  fD tT mX Tryz.func126 (
  .rg {fr:=[(0,1)],fz:=[1]} []<| .cg 7 [((decide ((l.length:Int)≤u0)),true)] (rR l u1 u2 u3 u4) fun r_=> .r<| .e (bif (decide ((l.length:Int)≤u0))then(!r_)else false))
section
variable (x:aU)
abbrev k24:List CV:=[(cI x.feeds.e0),(cI x.feeds.e1),(cI x.power),(cI x.paths)]
end
theorem Cw (x:aU):eP Tryz.prog 170 [(.agg (k24 x))] [] (fun r=>(vI r)) (fun _=>[]) (ql x):=
  fD tT mX Tryz.func170 (
  .rg {fr:=[(0,1)],fz:=[1]} []<| .rg {} [.pf ⟨(0:Int)≤1∧(1:Int)<(2:Nat),(by decide)⟩]<| .it (.r<| .e 1)
  (.r<| .e 2))
section
variable (r_:Bool) (u0:Bool) (x:aU) (u1:Bool)
abbrev k26:=(bif (bif (bif r_ then u0 else false)then(!decide (x.feeds.e0=x.feeds.e1))else false)then u1 else false)
abbrev k25:=((k26 r_ u0 x u1),true)
end
theorem Bj (x:aU) (x1:Int) (u2:(List Source)) (u3:(List Link)) (u4:(List aU)):eP Tryz.prog 169 [(.agg (k24 x)),(sD (k8 u2 x1 u3 u4))] [] (fun r=>(vB r)) (fun _=>[]) (pu x x1 u2 u3 u4):=
  fD tT mX Tryz.func169 (
  .rg {fr:=[(0,1)],fz:=[1]} []<| .rg {} [.pf ⟨(0:Int)≤0∧(0:Int)<(2:Nat),(by decide)⟩, .pf ⟨(0:Int)≤1∧(1:Int)<(2:Nat),(by decide)⟩]<| .cl 4 (aM x.feeds.e0 0 (k10 x1)) fun r_=> .cg 10 [(r_,true)] (aM x.feeds.e1 (-1) (k10 x1)) fun u0=> .cg 20 [((bif (bif r_ then u0 else false)then(!decide (x.feeds.e0=x.feeds.e1))else false),true)] (aM x.power 1 100000) fun u1=> .cg 26 [(k25 r_ u0 x u1)] (Cw x) fun u5=> .cg 27 [(k25 r_ u0 x u1)] (aM x.paths 0 u5) fun u6=> .r<| .e (bif (k26 r_ u0 x u1)then u6 else false))
section
variable (x1:Int) (u0:(List Source)) (u1:(List Link)) (u2:(List aU))
abbrev k27:DV:=(DW [(.fn 169 1 (k16 x1 u0 u1 u2))] 0)
end
theorem yH (x:aU) (x1:Int) (u0:(List Source)) (u1:(List Link)) (u2:(List aU)):eP Tryz.prog 168 [(.agg (k24 x)),(sD (k27 x1 u0 u1 u2))] [] (fun r=>(vB r)) (fun _=>[]) (o8 x x1 u0 u1 u2):=
  fD tT mX Tryz.func168 (
  .rg {fr:=[(0,1)],fz:=[1]} []<| .cl 2 (Bj x x1 u0 u1 u2) fun r_=> .r<| .e (!r_))
section
variable (s_:(List aU)) (f_:Int) (u0:(List Source)) (u1:(List Link)) (u2:(List aU))
abbrev k28:List SV:=[(sD (bB none 4 aU.cell s_)),(sD (.fn 168 1 (bg [(k27 f_ u0 u1 u2)])))]
end
theorem vH (s_:(List aU)) (f_:Int) (u0:(List Source)) (u1:(List Link)) (u2:(List aU)):eP Tryz.prog 183 (k28 s_ f_ u0 u1 u2) [] (fun r=>(vI r)) (fun _=>[]) (kM s_ f_ u0 u1 u2):=
  fD tT mX Tryz.func183 (
  .r<| .r<| .lp (σ:=Int) (β:=Unit) (0) [] [] ⟨[0,1,7],[],fun t8=>[(8,(vI t8))],fun t8=>[]⟩ ⟨[],[],fun _=>[],fun _=>[]⟩
  (fun t8=> .r<| .it (.r<| .cl 5 (yH (⟨((at' s_ t8.toNat).feeds),(at' s_ t8.toNat).power,(at' s_ t8.toNat).paths⟩:aU) f_ u0 u1 u2) fun r_=> .a1 ((0:Int)≤t8∧t8<(s_.length:Int))<| .rg {} [0,1]<| .it (.r<| .e (.done (.ret t8)))
  (.r<| .e (.next (k18 t8))))
  (.e (.done (.brk ()))))
  (fun _=> .r<| .e (-1)))
theorem rV (s_:(List aU)) (f_:Int) (u0:(List Source)) (u1:(List Link)) (u2:(List aU)):eP Tryz.prog 167 (k28 s_ f_ u0 u1 u2) [] (fun r=>(vB r)) (fun _=>[]) (gm s_ f_ u0 u1 u2):=
  fD tT mX Tryz.func167 (
  .r<| .cl 2 (vH s_ f_ u0 u1 u2) fun r_=> .r<| .e (decide (0≤r_)))
theorem Bo (l:(List aU)) (u0:Int) (u1:Int) (u2:(List Source)) (u3:(List Link)) (u4:(List aU)):eP Tryz.prog 128 [(sD (bB none 4 aU.cell l)),(sI u0),(sD (.fn 169 1 (k16 u1 u2 u3 u4)))] [] (fun r=>(vB r)) (fun _=>[]) (oC l u0 u1 u2 u3 u4):=
  fD tT mX Tryz.func128 (
  .rg {fr:=[(0,1)],fz:=[1]} []<| .cg 7 [((decide ((l.length:Int)≤u0)),true)] (rV l u1 u2 u3 u4) fun r_=> .r<| .e (bif (decide ((l.length:Int)≤u0))then(!r_)else false))
theorem Cx (p:aj):eP Tryz.prog 89 (k6 p) [] (fun r=>(vI r)) (fun _=>[]) (qw p):=
  fD tT mX Tryz.func89 (
  .rg {fr:=[(0,1)],fz:=[1]} []<| .cl 2 (aM p.buses 1 24) fun r_=> .r<| .it (.r<| .e 10)
  (.cl 3 (AY p) fun u0=> .cl 4 (DK p.sources 8 u0.1 u0.2.1 u0.2.2.1 u0.2.2.2) fun u3=> .r<| .it (.r<| .e 11)
  (.cl 3 (Dw p) fun u1=> .cl 4 (Cb p.links 40 u1.1 u1.2.1 u1.2.2.1 u1.2.2.2) fun u4=> .r<| .it (.r<| .e 12)
  (.cl 3 (Dx p) fun u2=> .cl 4 (Bo p.racks 24 u2.1 u2.2.1 u2.2.2.1 u2.2.2.2) fun u5=> .r<| .it (.r<| .e 13)
  (.r<| .e 0)))))
section
variable (s_:State) (p:aj) (u0:Int)
abbrev Xe:DV:=(bB none 1 ai s_.locked)
abbrev XC:DV:=(bB none 1 ai s_.badLink)
abbrev Xm:DV:=(bB none 1 ai s_.on_)
abbrev YA:DV:=(bB none 1 ai s_.badSource)
abbrev Yi:DV:=(bB none 1 ai s_.earthed)
abbrev YN:DV:=(bB none 1 ai s_.badBus)
abbrev Ao:List CV:=[(.d (bB none 1 ai s_.closed)),(.d (Xe s_)),(.d (XC s_)),(.d (Xm s_)),(.d (YA s_)),(.d (Yi s_)),(.d (YN s_))]
abbrev Ut:List SV:=[(.agg (k1 p)),(.agg (Ao s_))]
abbrev Yt:=(⟨s_.closed,(p.links.length:Int)⟩:dm)
abbrev WC:=(⟨s_.locked,(p.links.length:Int)⟩:dm)
abbrev V8:=(⟨s_.badLink,(p.links.length:Int)⟩:dm)
abbrev WX:=(⟨s_.on_,(p.sources.length:Int)⟩:dm)
abbrev XO:=(⟨s_.badSource,(p.sources.length:Int)⟩:dm)
abbrev k42:=(ay dm.cell [(Yt s_ p),(WC s_ p),(V8 s_ p),(WX s_ p),(XO s_ p),(⟨s_.earthed,p.buses⟩:dm),(⟨s_.badBus,p.buses⟩:dm)])
abbrev YV:=((0:Int)≤u0∧u0<(p.links.length:Int))
abbrev k44:=((gB [((decide (((at' p.links u0.toNat).kind)=1)),true)]=true→(0:Int)≤u0∧u0<(s_.closed.length:Int)))
abbrev k45:=((gB [((!(at' s_.closed u0.toNat)),false),((decide (((at' p.links u0.toNat).kind)=1)),true)]=true→(0:Int)≤u0∧u0<(s_.locked.length:Int)))
end
theorem dh (p:aj) (s_:State):eP Tryz.prog 62 (Ut s_ p) [] (fun r=>(vI r)) (fun _=>[]) (dD p s_):=
  fD tT mX Tryz.func62 (
  .rg {fr:=[(0,11),(1,12)]} []<| .cl 1 (Cx p) fun r_=> .r<| .r<| .it (.r<| .e r_)
  (.r<| .rg {an:=[(30, .arr [(Yt s_ p),(WC s_ p),(V8 s_ p),(WX s_ p),(XO s_ p),(⟨s_.earthed,p.buses⟩:dm),(⟨s_.badBus,p.buses⟩:dm)].length (k42 s_ p))],fr:=[(30,13)],fz:=[12]} [.pf ⟨[(Yt s_ p),(WC s_ p),(V8 s_ p),(WX s_ p),(XO s_ p),(⟨s_.earthed,p.buses⟩:dm),(⟨s_.badBus,p.buses⟩:dm)].length=7,rfl⟩, .pf ⟨aT 7 2 (vU 2 [(bB none 1 ai s_.closed),(.int .i64 (p.links.length:Int)),(Xe s_),(.int .i64 (p.links.length:Int)),(XC s_),(.int .i64 (p.links.length:Int)),(Xm s_),(.int .i64 (p.sources.length:Int)),(YA s_),(.int .i64 (p.sources.length:Int)),(Yi s_),(.int .i64 p.buses),(YN s_),(.int .i64 p.buses)]) (k42 s_ p),(by intro i hi j hj;match i,j,hi,hj with|0,0,_,_=>rfl|0,1,_,_=>rfl|1,0,_,_=>rfl|1,1,_,_=>rfl|2,0,_,_=>rfl|2,1,_,_=>rfl|3,0,_,_=>rfl|3,1,_,_=>rfl|4,0,_,_=>rfl|4,1,_,_=>rfl|5,0,_,_=>rfl|5,1,_,_=>rfl|6,0,_,_=>rfl|6,1,_,_=>rfl)⟩]<| .lp (σ:=Int) (β:=Unit) (0) [] [] ⟨[2,3,53,54],[11,13],fun u1=>[(55,(vI u1))],fun u1=>[]⟩ ⟨[2,3],[11],fun _=>[],fun _=>[]⟩
  (fun u1=> .r<| .it (.a1 ((0:Int)≤u1∧u1<([(Yt s_ p),(WC s_ p),(V8 s_ p),(WX s_ p),(XO s_ p),(⟨s_.earthed,p.buses⟩:dm),(⟨s_.badBus,p.buses⟩:dm)].length:Int))<| .rg {fr:=[(2,17)],fz:=[17]} [0, .t 0 u1 ([(Yt s_ p),(WC s_ p),(V8 s_ p),(WX s_ p),(XO s_ p),(⟨s_.earthed,p.buses⟩:dm),(⟨s_.badBus,p.buses⟩:dm)].length)]<| .r<| .it (.r<| .e (.done (.ret 9)))
  (.r<| .e (.next (k18 u1))))
  (.e (.done (.brk ()))))
  (fun _=> .r<| .lp (σ:=Int) (β:=Unit) (0) [] [] ⟨[3,67,68],[],fun u0=>[(69,(vI u0))],fun u0=>[]⟩ ⟨[],[],fun _=>[],fun _=>[]⟩
  (fun u0=> .r<| .it (.a1 (YV p u0)<| .rg {fr:=[(3,21)],fz:=[21]} []<| .a2 (k44 s_ p u0) (k45 s_ p u0)<| .rg {} [0,1]<| .it (.r<| .e (.done (.ret 9)))
  (.r<| .e (.next (k18 u0))))
  (.e (.done (.brk ()))))
  (fun _=> .r<| .e 0))))
theorem xR (i:Int) (x1:Int):eP Tryz.prog 98 [(sI i),(sD (DW [(.int .i64 x1)] 0))] [] (fun r=>(vB r)) (fun _=>[]) (nO i x1):=
  fD tT mX Tryz.func98 (
  .r<| .r<| .e (bif (decide (i<0))then true else(decide (x1≤i))))
section
variable (s_:(List Int)) (t8:Int)
abbrev Pz:DV:=(bB none 1 (bL .i64) s_)
abbrev UA:=((0:Int)≤t8∧t8<(s_.length:Int))
end
theorem vE (s_:(List Int)) (f_:Int):eP Tryz.prog 132 [(sD (Pz s_)),(sD (.fn 98 1 (bg [(DW [(.int .i64 f_)] 0)])))] [] (fun r=>(vI r)) (fun _=>[]) (kQ s_ f_):=
  fD tT mX Tryz.func132 (
  .r<| .r<| .lp (σ:=Int) (β:=Unit) (0) [] [] ⟨[0,1,7],[],fun t8=>[(8,(vI t8))],fun t8=>[]⟩ ⟨[],[],fun _=>[],fun _=>[]⟩
  (fun t8=> .r<| .it (.r<| .cl 5 (xR (at' s_ t8.toNat) f_) fun r_=> .a1 (UA s_ t8)<| .rg {} [0,1]<| .it (.r<| .e (.done (.ret t8)))
  (.r<| .e (.next (k18 t8))))
  (.e (.done (.brk ()))))
  (fun _=> .r<| .e (-1)))
theorem sH (s_:(List Int)) (f_:Int):eP Tryz.prog 97 [(sD (Pz s_)),(sD (.fn 98 1 (bg [(DW [(.int .i64 f_)] 0)])))] [] (fun r=>(vB r)) (fun _=>[]) (gF s_ f_):=
  fD tT mX Tryz.func97 (
  .r<| .cl 2 (vE s_ f_) fun r_=> .r<| .e (decide (0≤r_)))
section
variable (l:(List Int)) (n:Int)
abbrev ZW:List SV:=[(sD (Pz l)),(sI n)]
end
theorem rA (l:(List Int)) (n:Int):eP Tryz.prog 96 (ZW l n) [] (fun r=>(vB r)) (fun _=>[]) (jM l n):=
  fD tT mX Tryz.func96 (
  .rg {fr:=[(0,1)],fz:=[1]} []<| .cg 6 [((decide ((l.length:Int)≤24)),true)] (sH l n) fun r_=> .r<| .e (bif (decide ((l.length:Int)≤24))then(!r_)else false))
section
variable (x:af) (p:aj)
abbrev S9:List CV:=[(cI x.deed),(cI x.index)]
abbrev k49:List SV:=[(.agg (k1 p)),(.agg (S9 x))]
abbrev YU:=((gB [((bif (decide (0≤x.index))then(decide (x.index<(p.links.length:Int)))else false),true)]=true→(0:Int)≤x.index∧x.index<(p.links.length:Int)))
abbrev Y0:=(bif (bif (decide (0≤x.index))then(decide (x.index<(p.links.length:Int)))else false)then(!decide (((at' p.links x.index.toNat).kind)=1))else false)
abbrev k54:=(decide (x.index<p.buses))
abbrev Uq:=(bif (decide (0≤x.index))then(k54 x p)else false)
abbrev k56:=(decide (x.index<(p.sources.length:Int)))
abbrev LH:=(bif (decide (0≤x.index))then(k56 x p)else false)
abbrev LK:=((gB [((bif (decide (0≤x.index))then(decide (x.index<0))else false),true)]=true→(0:Int)≤x.index∧x.index<(p.links.length:Int)))
abbrev LM:=(bif (bif (decide (0≤x.index))then(decide (x.index<0))else false)then(!decide (((at' p.links x.index.toNat).kind)=1))else false)
end
theorem pz (p:aj) (x:af):eP Tryz.prog 79 (k49 x p) [] (fun r=>(vB r)) (fun _=>[]) (jF p x):=
  fD tT mX Tryz.func79 (
  .rg {fr:=[(0,2),(1,3)],fz:=[2,3]} []<| .r<| .r<| .r<| .it (.it (.r<| .a1 (YU x p)<| .r<| .e (Y0 x p))
  (.r<| .it (.it (.r<| .e (Uq x p))
  (.r<| .it (.it (.r<| .e (LH x p))
  (.a1 (LK x p)<| .r<| .e (LM x p)))
  (.r<| .it (.r<| .e (LH x p))
  (.a1 (LK x p)<| .r<| .e (LM x p)))))
  (.r<| .it (.r<| .e (Uq x p))
  (.r<| .it (.it (.r<| .e (LH x p))
  (.a1 (LK x p)<| .r<| .e (LM x p)))
  (.r<| .it (.r<| .e (LH x p))
  (.a1 (LK x p)<| .r<| .e (LM x p)))))))
  (.r<| .it (.it (.r<| .a1 (YU x p)<| .r<| .e (Y0 x p))
  (.r<| .it (.it (.r<| .e (Uq x p))
  (.r<| .it (.it (.r<| .e (LH x p))
  (.a1 (LK x p)<| .r<| .e (LM x p)))
  (.r<| .it (.r<| .e (LH x p))
  (.a1 (LK x p)<| .r<| .e (LM x p)))))
  (.r<| .it (.r<| .e (Uq x p))
  (.r<| .it (.it (.r<| .e (LH x p))
  (.a1 (LK x p)<| .r<| .e (LM x p)))
  (.r<| .it (.r<| .e (LH x p))
  (.a1 (LK x p)<| .r<| .e (LM x p)))))))
  (.r<| .it (.it (.r<| .a1 (YU x p)<| .r<| .e (Y0 x p))
  (.r<| .it (.it (.r<| .e (Uq x p))
  (.r<| .it (.it (.r<| .e (LH x p))
  (.a1 (LK x p)<| .r<| .e (LM x p)))
  (.r<| .it (.r<| .e (LH x p))
  (.a1 (LK x p)<| .r<| .e (LM x p)))))
  (.r<| .it (.r<| .e (Uq x p))
  (.r<| .it (.it (.r<| .e (LH x p))
  (.a1 (LK x p)<| .r<| .e (LM x p)))
  (.r<| .it (.r<| .e (LH x p))
  (.a1 (LK x p)<| .r<| .e (LM x p)))))))
  (.r<| .it (.r<| .a1 (YU x p)<| .r<| .e (Y0 x p))
  (.r<| .it (.it (.r<| .e (Uq x p))
  (.r<| .it (.it (.r<| .e (LH x p))
  (.a1 (LK x p)<| .r<| .e (LM x p)))
  (.r<| .it (.r<| .e (LH x p))
  (.a1 (LK x p)<| .r<| .e (LM x p)))))
  (.r<| .it (.r<| .e (Uq x p))
  (.r<| .it (.it (.r<| .e (LH x p))
  (.a1 (LK x p)<| .r<| .e (LM x p)))
  (.r<| .it (.r<| .e (LH x p))
  (.a1 (LK x p)<| .r<| .e (LM x p))))))))))
theorem xY (x:af) (x1:Int) (u0:(List Source)) (u1:(List Link)) (u2:(List aU)):eP Tryz.prog 100 [(.agg (S9 x)),(sD (k8 u0 x1 u1 u2))] [] (fun r=>(vB r)) (fun _=>[]) (nQ x x1 u0 u1 u2):=
  fD tT mX Tryz.func100 (
  .rg {fr:=[(0,1)],fz:=[1]} []<| .cl 2 (pz (⟨x1,u0,u1,u2⟩:aj) x) fun r_=> .r<| .e (!r_))
section
variable (s_:(List af)) (f_:Int) (u0:(List Source)) (u1:(List Link)) (u2:(List aU)) (t8:Int)
abbrev Nz:DV:=(bB none 2 af.cell s_)
abbrev k59:List SV:=[(sD (Nz s_)),(sD (.fn 100 1 (k16 f_ u0 u1 u2)))]
abbrev Ue:=((0:Int)≤t8∧t8<(s_.length:Int))
end
theorem vz (s_:(List af)) (f_:Int) (u0:(List Source)) (u1:(List Link)) (u2:(List aU)):eP Tryz.prog 131 (k59 s_ f_ u0 u1 u2) [] (fun r=>(vI r)) (fun _=>[]) (kR s_ f_ u0 u1 u2):=
  fD tT mX Tryz.func131 (
  .r<| .r<| .lp (σ:=Int) (β:=Unit) (0) [] [] ⟨[0,1,7],[],fun t8=>[(8,(vI t8))],fun t8=>[]⟩ ⟨[],[],fun _=>[],fun _=>[]⟩
  (fun t8=> .r<| .it (.r<| .cl 5 (xY (at' s_ t8.toNat) f_ u0 u1 u2) fun r_=> .a1 (Ue s_ t8)<| .rg {} [0,1]<| .it (.r<| .e (.done (.ret t8)))
  (.r<| .e (.next (k18 t8))))
  (.e (.done (.brk ()))))
  (fun _=> .r<| .e (-1)))
theorem tL (s_:(List af)) (f_:Int) (u0:(List Source)) (u1:(List Link)) (u2:(List aU)):eP Tryz.prog 92 (k59 s_ f_ u0 u1 u2) [] (fun r=>(vB r)) (fun _=>[]) (gH s_ f_ u0 u1 u2):=
  fD tT mX Tryz.func92 (
  .r<| .cl 2 (vz s_ f_ u0 u1 u2) fun r_=> .r<| .e (decide (0≤r_)))
theorem rz (l:(List af)) (x1:Int) (u0:(List Source)) (u1:(List Link)) (u2:(List aU)):eP Tryz.prog 99 [(sD (Nz l)),(sD (k8 u0 x1 u1 u2))] [] (fun r=>(vB r)) (fun _=>[]) (jH l x1 u0 u1 u2):=
  fD tT mX Tryz.func99 (
  .r<| .cg 6 [((decide ((l.length:Int)≤24)),true)] (tL l x1 u0 u1 u2) fun r_=> .r<| .e (bif (decide ((l.length:Int)≤24))then(!r_)else false))
theorem Ce (p:aj) (t:Task):eP Tryz.prog 63 (k0 p t) [] (fun r=>(vB r)) (fun _=>[]) (oz p t):=
  fD tT mX Tryz.func63 (
  .rg {fr:=[(0,2),(1,3)],fz:=[2,3]} []<| .r<| .r<| .cl 6 (rA t.fed (p.racks.length:Int)) fun r_=> .cg 13 [(r_,true)] (rA t.crew p.buses) fun u0=> .cg 19 [(k11 r_ u0)] (rz t.allowed p.buses p.sources p.links p.racks) fun u1=> .cg 25 [(k12 r_ u0 u1)] (rz t.goal p.buses p.sources p.links p.racks) fun u2=> .r<| .e (k13 r_ u0 u1 u2))
theorem xV (p:aj) (s_:State):eP Tryz.prog 113 (Ut s_ p) [] (fun r=>(vD (.fn 143 2 (bg [(DW [(.int .i64 r.1),(bB none 5 Source.cell r.2.1),(bB none 6 Link.cell r.2.2.1),(bB none 4 aU.cell r.2.2.2.1)] 0),(DW [(bB none 1 ai r.2.2.2.2.1),(bB none 1 ai r.2.2.2.2.2.1),(bB none 1 ai r.2.2.2.2.2.2.1),(bB none 1 ai r.2.2.2.2.2.2.2.1),(bB none 1 ai r.2.2.2.2.2.2.2.2.1),(bB none 1 ai r.2.2.2.2.2.2.2.2.2.1),(bB none 1 ai r.2.2.2.2.2.2.2.2.2.2)] 0)])))) (fun _=>[]) (jV p s_):=
  fD tT mX Tryz.func113 (
  .rg {fr:=[(0,2),(1,3)],fz:=[2,3]} []<| .r<| .e (p.buses,p.sources,p.links,p.racks,s_.closed,s_.locked,s_.badLink,s_.on_,s_.badSource,s_.earthed,s_.badBus))
noncomputable def tO:iD:=⟨[22],MP ([1,1,0,1,0]++[0]) (tC Tryz.f75),MP ([1,1,0,1,0]++[1]) (tC Tryz.f75),125,[]⟩
section
variable (g:aR)
abbrev k63:Ob:=(GD 3 3 false false 1 1 (bL .i64) (bL .i64) g.head)
abbrev k62:List (Nat × Option Ob):=[(0,some (k63 g))]
end
theorem gG (g:aR) (x:Int):eP Tryz.prog 115 [(.agg [(.mp 0)]),(sI x)] (k62 g) (fun r=>(vI r)) (fun r=>(k62 g)) (dB g x):=
  fD tT mX Tryz.func115 (
  .rg {fr:=[(0,2)]} []<| .lp (σ:=Int) (β:=Unit) (x) [] [] ⟨[2],[0,2],fun x1=>[(1,(vI x1))],fun x1=>[]⟩ ⟨[],[],fun _=>[],fun _=>[]⟩
  (fun x1=> .rg {an:=[(3, .look (aZ aW x1 g.head).isSome [(cI ((aZ aW x1 g.head).getD 0))])]} [.pf ⟨fH [some .i64] 1 1 g.head.length (zU (bL .i64) g.head) (AX (bL .i64) g.head) [(.int .i64 x1)] [(.d (.int .i64 0))] (aZ aW x1 g.head).isSome [(cI ((aZ aW x1 g.head).getD 0))],nZ (fun _=>rfl) (fun _ _=>rfl) g.head x1 0 rfl rfl rfl⟩]<| .r<| .it (.r<| .e (.done (.ret x1)))
  (.r<| .e (.next ((aZ aW x1 g.head).getD 0))))
  (fun _=> .no))
theorem xw (g:aR) (a:Int) (b:Int):eP Tryz.prog 114 [(.agg [(.mp 0)]),(sI a),(sI b)] (k62 g) (fun r=>(.iL [])) (fun r=>[(0,some (GD 3 3 false false 1 1 (bL .i64) (bL .i64) r))]) (jC g a b):=
  fD tT mX Tryz.func114 (
  .rg {fr:=[(0,2)]} []<| .cr 2 (gG g a) fun r_=> .cr 5 (gG g b) fun u0=> .r<| .r<| .it (.rg {an:=[(4, .map (fE aW r_ u0 g.head).length (zU (bL .i64) (fE aW r_ u0 g.head)) (AX (bL .i64) (fE aW r_ u0 g.head)) [])]} [.pf ⟨vV [some .i64] 1 1 g.head.length (zU (bL .i64) g.head) (AX (bL .i64) g.head) [(.int .i64 r_)] [(cI u0)] [] (fE aW r_ u0 g.head).length (zU (bL .i64) (fE aW r_ u0 g.head)) (AX (bL .i64) (fE aW r_ u0 g.head)),Em (fun _=>rfl) (fun _ _=>rfl) g.head r_ u0 rfl rfl⟩]<| .e (fE aW r_ u0 g.head))
  (.e g.head))
section
variable (o_:aR)
abbrev k65:Nat × Option Ob:=(0,some (.loop tO 0 [(5,(vP 1 0))]))
abbrev k64:List (Nat × Option Ob):=[k65,(1,some (.cells 172 [(.mp 2)])),(2,some (k63 o_))]
end
theorem wB (u0:Int) (u1:Int) (u2:Int) (u3:Int) (u4:Int) (u5:(List oF)) (o_:aR):SC Tryz.prog 0 [(.agg [(cI u0),(cI u1),(cI u2),(cI u3),(cI u4),(.d (bB none 2 oF.cell u5))])] (k64 o_) (fun _=>vB true) (fun r=>[k65,(1,some (.cells 172 [(.mp 2)])),(2,some (GD 3 3 false false 1 1 (bL .i64) (bL .i64) r.head))]) (lQ u0 u1 u2 u3 u4 u5 o_):=
  Y3 tT mX tO ⟨[5],[0,1,2],fun _=>[(6,(vD (DW [(.int .i64 u0),(.int .i64 u1),(.int .i64 u2),(.int .i64 u3),(.int .i64 u4),(bB none 2 oF.cell u5)] 0)))],fun _=>[]⟩ (.rg {fr:=[(0,4)],fz:=[4]} []<| .e ())
  (.cl 5 (d9 [(0,2)] (xw o_ u0 u1)) fun r_=> .r<| .e (⟨r_⟩:aR))
section
variable (x2:(List Bool)) (u6:(List Bool)) (u2:(List Bool)) (u7:(List Bool)) (u8:(List Bool)) (u9:(List Bool)) (u1:(List Bool)) (u3:(List (Int × Int))) (t9:Int) (u0:(List Link))
abbrev k67:List DV:=[(bB none 1 ai x2),(bB none 1 ai u6),(bB none 1 ai u2),(bB none 1 ai u7),(bB none 1 ai u8),(bB none 1 ai u9),(bB none 1 ai u1)]
abbrev Vx:DV:=(DW (k67 x2 u6 u2 u7 u8 u9 u1) 0)
abbrev k68:Ob:=(GD 3 3 false false 1 1 (bL .i64) (bL .i64) u3)
abbrev k69:=(bif (bif (at' x2 t9.toNat)then(!(at' u2 t9.toNat))else false)then(!(at' u1 (((at' u0 t9.toNat).a).toNat)))else false)
abbrev YX:=((0:Int)≤t9∧t9<(x2.length:Int))
abbrev k71:=((gB [((bif (at' x2 t9.toNat)then(!(at' u2 t9.toNat))else false),true)]=true→(0:Int)≤(at' u0 t9.toNat).a∧(at' u0 t9.toNat).a<(u1.length:Int)))
abbrev k72:=((gB [((k69 x2 u2 u1 t9 u0),true)]=true→(0:Int)≤(at' u0 t9.toNat).b∧(at' u0 t9.toNat).b<(u1.length:Int)))
end
theorem wH (x1:Int) (u4:(List Source)) (u0:(List Link)) (u5:(List aU)) (x2:(List Bool)) (u6:(List Bool)) (u2:(List Bool)) (u7:(List Bool)) (u8:(List Bool)) (u9:(List Bool)) (u1:(List Bool)) (o_:aR):eP Tryz.prog 143 [(.one (.yl 0)),(sD (k8 u4 x1 u0 u5)),(sD (Vx x2 u6 u2 u7 u8 u9 u1))] (k64 o_) (fun r=>(.iL [])) (fun r=>[k65,(1,some (.cells 172 [(.mp 2)])),(2,some (GD 3 3 false false 1 1 (bL .i64) (bL .i64) r.head))]) (lZ x1 u4 u0 u5 x2 u6 u2 u7 u8 u9 u1 o_):=
  fD tT mX Tryz.func143 (
  .r<| .lp (σ:=((List (Int × Int)) × Int)) (β:=(List (Int × Int))) (o_.head,0) [] [] ⟨[0,2,7,8],[0,1],fun(u3,t9)=>[(9,(vI t9))],fun(u3,t9)=>[(2,some (k68 u3))]⟩ ⟨[],[0,1],fun o501=>[],fun o501=>[(2,some (GD 3 3 false false 1 1 (bL .i64) (bL .i64) o501))]⟩
  (fun(u3,t9)=> .r<| .it (.a1 (k23 u0 t9)<| .rg {fr:=[(3,10)],fz:=[10]} []<| .fk (bif (k69 x2 u2 u1 t9 u0)then(!(at' u1 (((at' u0 t9.toNat).b).toNat)))else false) (.cy 34 (wB ((at' u0 t9.toNat).a) ((at' u0 t9.toNat).b) ((at' u0 t9.toNat).kind) ((at' u0 t9.toNat).most) ((at' u0 t9.toNat).ohm) ((at' u0 t9.toNat).trip) (⟨u3⟩:aR)) fun r_=> .a4 (YX x2 t9) ((gB [((at' x2 t9.toNat),true)]=true→(0:Int)≤t9∧t9<(u2.length:Int))) (k71 x2 u2 u1 t9 u0) (k72 x2 u2 u1 t9 u0)<| .rg {ov:=[(31,true,5)]} [0,1,2,3, .k 4]<| .f<| .r<| .e (.next (r_.head,(k18 t9))))
  (.a4 (YX x2 t9) ((gB [((at' x2 t9.toNat),true)]=true→(0:Int)≤t9∧t9<(u2.length:Int))) (k71 x2 u2 u1 t9 u0) (k72 x2 u2 u1 t9 u0)<| .rg {ov:=[(31,false,4)],sk:=[32,33,34,35]} [0,1,2,3]<| .f<| .r<| .e (.next (u3,(k18 t9)))))
  (.e (.done (.brk u3))))
  (fun o501=> .e (⟨o501⟩:aR)))
section
variable (u1:(List aI)) (u2:(List (Int × Int))) (u3:Int) (s_:State) (u0:Int) (u7:Int) (p:aj) (u5:(List aI)) (u6:Int) (u4:(List (Int × Int)))
abbrev k73:List (Nat × Option Ob):=[(60,some (.rows 129 2 u1.length (wT aI.ev u1) none)),(61,some (k68 u2))]
abbrev k74:=((0:Int)≤u3∧u3<(s_.badBus.length:Int))
abbrev I4:=((aZ aW u0 u2).getD 0)
abbrev VZ:List CV:=[(cI (I4 u2 u0))]
abbrev Ug:=(fE aW u0 (u1.length:Int) u2)
abbrev ZR:=(zU (bL .i64) (Ug u1 u2 u0))
abbrev ZX:=(AX (bL .i64) (Ug u1 u2 u0))
abbrev k80:=((u1.length+[(⟨([]:List Int),([]:List Int)⟩:aI)].length)*48≤140737488355328)
abbrev Sj:=(u1++[(⟨([]:List Int),([]:List Int)⟩:aI)])
abbrev k82:=(wT aI.ev (Sj u1))
abbrev Y7:=(aZ aW u0 (Ug u1 u2 u0))
abbrev Uc:=((Y7 u1 u2 u0).getD 0)
abbrev k84:List CV:=[(cI (Uc u1 u2 u0))]
abbrev k86:=((0:Int)≤(Uc u1 u2 u0)∧(Uc u1 u2 u0)<((Sj u1).length:Int))
abbrev ZT:=((Uc u1 u2 u0).toNat)
abbrev k90:=(at' (Sj u1) (ZT u1 u2 u0))
abbrev Uo:=((k90 u1 u2 u0).buses)
abbrev k88:=((Uo u1 u2 u0).length+[u3].length)
abbrev k87:=((k88 u1 u2 u3 u0)*8≤140737488355328)
abbrev k92:=((Uo u1 u2 u0).length+[u3].length≤4611686018427387904)
abbrev V4:=((Uo u1 u2 u0)++[u3])
abbrev k94:=(ay (bL .i64) (V4 u1 u2 u3 u0))
abbrev k96:=((Sj u1).set (ZT u1 u2 u0) (⟨(V4 u1 u2 u3 u0),(k90 u1 u2 u0).sources⟩:aI))
abbrev k95:=(wT aI.ev (k96 u1 u2 u3 u0))
abbrev k97:=((Sj u1).length)
abbrev k98:=((Uo u1 u2 u0).length)
abbrev k99:=(uT (ay (bL .i64) (Uo u1 u2 u0)) (Uo u1 u2 u0).length (ay (bL .i64) [u3]))
abbrev Z8:=((V4 u1 u2 u3 u0).length)
abbrev Zp:=(Ur (k82 u1) (ZT u1 u2 u0) 0 (.row 3 1 (V4 u1 u2 u3 u0).length (k94 u1 u2 u3 u0)))
abbrev ZM:=((k96 u1 u2 u3 u0),(Ug u1 u2 u0),(k18 u3))
abbrev Wi:=((0:Int)≤(I4 u2 u0)∧(I4 u2 u0)<(u1.length:Int))
abbrev JD:=((at' u1 ((I4 u2 u0).toNat)).buses)
abbrev XF:=((JD u1 u2 u0).length+[u3].length)
abbrev NY:=((JD u1 u2 u0)++[u3])
abbrev UH:=(ay (bL .i64) (NY u1 u2 u3 u0))
abbrev Vg:=(u1.set ((I4 u2 u0).toNat) (⟨(NY u1 u2 u3 u0),(at' u1 ((I4 u2 u0).toNat)).sources⟩:aI))
abbrev XU:=(wT aI.ev (Vg u1 u2 u3 u0))
abbrev Ze:=(uT (ay (bL .i64) (JD u1 u2 u0)) (JD u1 u2 u0).length (ay (bL .i64) [u3]))
abbrev aat:=(Ur (wT aI.ev u1) ((I4 u2 u0).toNat) 0 (.row 3 1 (NY u1 u2 u3 u0).length (UH u1 u2 u3 u0)))
abbrev aap:=((Vg u1 u2 u3 u0),u2,(k18 u3))
abbrev Wt:=((0:Int)≤u7∧u7<(p.sources.length:Int))
abbrev ZV:=((0:Int)≤u7∧u7<(s_.on_.length:Int))
abbrev ZQ:=((gB [((at' s_.on_ u7.toNat),true)]=true→(0:Int)≤u7∧u7<(s_.badSource.length:Int)))
abbrev Zk:=((bif (at' s_.on_ u7.toNat)then(!(at' s_.badSource u7.toNat))else false),true)
abbrev Zm:=((gB [(Zk s_ u7)]=true→(0:Int)≤(at' p.sources u7.toNat).bus∧(at' p.sources u7.toNat).bus<(s_.badBus.length:Int)))
abbrev X6:=((at' p.sources u7.toNat).bus)
abbrev Kr:=((at' u5 ((I4 u4 u6).toNat)).sources)
abbrev V9:=((Kr u5 u6 u4).length+[u7].length)
abbrev Ov:=((Kr u5 u6 u4)++[u7])
abbrev U6:=(ay (bL .i64) (Ov u7 u5 u6 u4))
abbrev VW:=(u5.set ((I4 u4 u6).toNat) (⟨(at' u5 ((I4 u4 u6).toNat)).buses,(Ov u7 u5 u6 u4)⟩:aI))
abbrev YM:=(wT aI.ev (VW u7 u5 u6 u4))
abbrev aax:=(uT (ay (bL .i64) (Kr u5 u6 u4)) (Kr u5 u6 u4).length (ay (bL .i64) [u7]))
abbrev ZP:=(Ur (wT aI.ev u5) ((I4 u4 u6).toNat) 1 (.row 3 1 (Ov u7 u5 u6 u4).length (U6 u7 u5 u6 u4)))
abbrev aal:=((VW u7 u5 u6 u4),(k18 u7))
end
theorem iE (p:aj) (s_:State):eP Tryz.prog 75 (Ut s_ p) [] (fun r=>(vD (bB none 2 aI.cell r))) (fun _=>[]) (fG p s_):=
  fD tT mX Tryz.func75 (
  .rg {fr:=[(0,55),(1,56)],fz:=[56]} []<| .rg {an:=[(0, .map 0 (zU (bL .i64) ([]:(List (Int × Int)))) (AX (bL .i64) ([]:(List (Int × Int)))) [])],fr:=[(0,57),(2,58)]} []<| .cl 2 (xV p s_) fun r_=> .r<| .cl 0 (d9 [(0,59),(1,58),(2,57)] (wH r_.1 r_.2.1 r_.2.2.1 r_.2.2.2.1 r_.2.2.2.2.1 r_.2.2.2.2.2.1 r_.2.2.2.2.2.2.1 r_.2.2.2.2.2.2.2.1 r_.2.2.2.2.2.2.2.2.1 r_.2.2.2.2.2.2.2.2.2.1 r_.2.2.2.2.2.2.2.2.2.2 (⟨([]:(List (Int × Int)))⟩:aR))) fun v0=> .rf 59 [5] [] none 0 []<| .r<| .im (.adR 7 60 129 2 (wT aI.ev ([]:List aI)))<| .rg {an:=[(0, .map 0 (zU (bL .i64) ([]:(List (Int × Int)))) (AX (bL .i64) ([]:(List (Int × Int)))) [])],fr:=[(0,61)]} []<| .r<| .lp (σ:=((List aI) × (List (Int × Int)) × Int)) (β:=((List aI) × (List (Int × Int)))) (([]:List aI),([]:(List (Int × Int))),0) [] [] ⟨[2,3,5,8,31],[55,57,58],fun(u1,u2,u3)=>[(7,(vO 60 false u1.length)),(32,(vI u3))],fun(u1,u2,u3)=>(k73 u1 u2)⟩ ⟨[2,3,5,8],[55,57,58],fun(u9,u4)=>[(7,(vO 60 false u9.length))],fun(u9,u4)=>(k73 u9 u4)⟩
  (fun(u1,u2,u3)=> .r<| .it (.r<| .a1 (k74 u3 s_)<| .r<| .it (.r<| .e (.next (u1,u2,(k18 u3))))
  (.cr 2 (d9 [(0,57)] (gG v0 u3)) fun u0=> .r<| .rg {an:=[(2, .look (aZ aW u0 u2).isSome (VZ u2 u0))]} [.pf ⟨fH [some .i64] 1 1 u2.length (zU (bL .i64) u2) (AX (bL .i64) u2) [(.int .i64 u0)] [(.d (.int .i64 0))] (aZ aW u0 u2).isSome (VZ u2 u0),nZ (fun _=>rfl) (fun _ _=>rfl) u2 u0 0 rfl rfl rfl⟩]<| .r<| .it (.rg {an:=[(4, .map (Ug u1 u2 u0).length (ZR u1 u2 u0) (ZX u1 u2 u0) [])]} [.pf ⟨vV [some .i64] 1 1 u2.length (zU (bL .i64) u2) (AX (bL .i64) u2) [(.int .i64 u0)] [(cI (u1.length:Int))] [] (Ug u1 u2 u0).length (ZR u1 u2 u0) (ZX u1 u2 u0),Em (fun _=>rfl) (fun _ _=>rfl) u2 u0 (u1.length:Int) rfl rfl⟩]<| .a2 (k80 u1) (u1.length+[(⟨([]:List Int),([]:List Int)⟩:aI)].length≤4611686018427387904)<| .rg {an:=[(2, .arr [(⟨([]:List Int),([]:List Int)⟩:aI)].length (vU 2 [nS,nS])),(3, .rows (Sj u1).length (k82 u1))],fr:=[(2,86),(3,87)]} [.pf ⟨[(⟨([]:List Int),([]:List Int)⟩:aI)].length=1,rfl⟩, .pf ⟨aT 1 2 (vU 2 [nS,nS]) (vU 2 [nS,nS]),qa _ _ _⟩, .e (u1.length),0,1, .pf ⟨(Sj u1).length=u1.length+[(⟨([]:List Int),([]:List Int)⟩:aI)].length,List.length_append⟩, .pf ⟨DN u1.length [(⟨([]:List Int),([]:List Int)⟩:aI)].length 2 (wT aI.ev u1) (vU 2 [nS,nS]) (k82 u1),RJ _ _ _ _ _ (by intro i hi j hj;match i,j,hi,hj with|0,0,_,_=>exact⟨rfl,_,_,_,rfl⟩|0,1,_,_=>exact⟨rfl,_,_,_,rfl⟩)⟩]<| .rg {an:=[(2, .look (Y7 u1 u2 u0).isSome (k84 u1 u2 u0))]} [.pf ⟨fH [some .i64] 1 1 (Ug u1 u2 u0).length (ZR u1 u2 u0) (ZX u1 u2 u0) [(.int .i64 u0)] [(.d (.int .i64 0))] (Y7 u1 u2 u0).isSome (k84 u1 u2 u0),nZ (fun _=>rfl) (fun _ _=>rfl) (Ug u1 u2 u0) u0 0 rfl rfl rfl⟩]<| .a3 (k86 u1 u2 u0) (k87 u1 u2 u3 u0) (k92 u1 u2 u3 u0)<| .rg {an:=[(6, .take 88),(8, .arr [u3].length (ay (bL .i64) [u3])),(9, .arr (V4 u1 u2 u3 u0).length (k94 u1 u2 u3 u0)),(12, .rows 0 (k95 u1 u2 u3 u0))],fr:=[(8,89),(9,90)]} [0, .t 0 (Uc u1 u2 u0) (k97 u1), .pf ⟨[u3].length=1,rfl⟩, .pf ⟨aT 1 1 (vU 1 [(.int .i64 u3)]) (ay (bL .i64) [u3]),(by intro i hi j hj;match i,j,hi,hj with|0,0,_,_=>rfl)⟩, .e (k98 u1 u2 u0),1,2, .pf ⟨(V4 u1 u2 u3 u0).length=(Uo u1 u2 u0).length+[u3].length,List.length_append⟩, .pf ⟨aT (k88 u1 u2 u3 u0) 1 (k99 u1 u2 u3 u0) (k94 u1 u2 u3 u0),kK _ _ _ _⟩,0, .t 0 (Uc u1 u2 u0) (k97 u1), .e (Z8 u1 u2 u3 u0), .pf ⟨Pd (Sj u1).length 2 (Zp u1 u2 u3 u0) (k95 u1 u2 u3 u0),Fe _ _ _ _ _ _ _ _ rfl (fun j hj=>(match j,hj with|0,_=>rfl|1,_=>rfl))⟩, .pf ⟨∀i0 j0 c0,((some ((Uc u1 u2 u0).toNat,0,CV.own 88 false (Uo u1 u2 u0).length)):Option (Nat × Nat × CV))=some (i0,j0,c0)→i0=(Uc u1 u2 u0).toNat∧j0=0,(fun i0 j0 c0 e=>by cases e;exact⟨rfl,rfl⟩)⟩]<| .im (.ll 87 (Sj u1) (k96 u1 u2 u3 u0))<| .r<| .en (.next (ZM u1 u2 u3 u0)) [] [(87,60)])
  (.rg {an:=[(2, .look (aZ aW u0 u2).isSome (VZ u2 u0))]} [.pf ⟨fH [some .i64] 1 1 u2.length (zU (bL .i64) u2) (AX (bL .i64) u2) [(.int .i64 u0)] [(.d (.int .i64 0))] (aZ aW u0 u2).isSome (VZ u2 u0),nZ (fun _=>rfl) (fun _ _=>rfl) u2 u0 0 rfl rfl rfl⟩]<| .a3 (Wi u1 u2 u0) ((XF u1 u2 u3 u0)*8≤140737488355328) ((JD u1 u2 u0).length+[u3].length≤4611686018427387904)<| .rg {an:=[(6, .take 91),(8, .arr [u3].length (ay (bL .i64) [u3])),(9, .arr (NY u1 u2 u3 u0).length (UH u1 u2 u3 u0)),(12, .rows 0 (XU u1 u2 u3 u0))],fr:=[(8,92),(9,93)]} [0, .t 0 (I4 u2 u0) u1.length, .pf ⟨[u3].length=1,rfl⟩, .pf ⟨aT 1 1 (vU 1 [(.int .i64 u3)]) (ay (bL .i64) [u3]),(by intro i hi j hj;match i,j,hi,hj with|0,0,_,_=>rfl)⟩, .e ((JD u1 u2 u0).length),1,2, .pf ⟨(NY u1 u2 u3 u0).length=(JD u1 u2 u0).length+[u3].length,List.length_append⟩, .pf ⟨aT (XF u1 u2 u3 u0) 1 (Ze u1 u2 u3 u0) (UH u1 u2 u3 u0),kK _ _ _ _⟩,0, .t 0 (I4 u2 u0) u1.length, .e ((NY u1 u2 u3 u0).length), .pf ⟨Pd u1.length 2 (aat u1 u2 u3 u0) (XU u1 u2 u3 u0),Fe _ _ _ _ _ _ _ _ rfl (fun j hj=>(match j,hj with|0,_=>rfl|1,_=>rfl))⟩, .pf ⟨∀i0 j0 c0,((some ((I4 u2 u0).toNat,0,CV.own 91 false (JD u1 u2 u0).length)):Option (Nat × Nat × CV))=some (i0,j0,c0)→i0=(I4 u2 u0).toNat∧j0=0,(fun i0 j0 c0 e=>by cases e;exact⟨rfl,rfl⟩)⟩]<| .im (.ll 60 u1 (Vg u1 u2 u3 u0))<| .r<| .e (.next (aap u1 u2 u3 u0)))))
  (.e (.done (.brk (u1,u2)))))
  (fun(u9,u4)=> .r<| .lp (σ:=((List aI) × Int)) (β:=(List aI)) (u9,0) [] [] ⟨[3,5,8,76,77],[57,58,61],fun(u5,u7)=>[(7,(vO 60 false u5.length)),(78,(vI u7))],fun(u5,u7)=>[(60,some (.rows 129 2 u5.length (wT aI.ev u5) none))]⟩ ⟨[],[],fun u8=>[(7,(vO 60 false u8.length))],fun u8=>[(60,some (.rows 129 2 u8.length (wT aI.ev u8) none))]⟩
  (fun(u5,u7)=> .r<| .it (.a1 (Wt u7 p)<| .rg {fr:=[(3,106)],fz:=[106]} []<| .a3 (ZV s_ u7) (ZQ s_ u7) (Zm s_ u7 p)<| .rg {} [0,1,2]<| .it (.cr 4 (d9 [(0,57)] (gG v0 (X6 u7 p))) fun u6=> .rg {an:=[(5, .look (aZ aW u6 u4).isSome (VZ u4 u6))]} [0, .pf ⟨fH [some .i64] 1 1 u4.length (zU (bL .i64) u4) (AX (bL .i64) u4) [(.int .i64 u6)] [(.d (.int .i64 0))] (aZ aW u6 u4).isSome (VZ u4 u6),nZ (fun _=>rfl) (fun _ _=>rfl) u4 u6 0 rfl rfl rfl⟩]<| .a3 (Wi u5 u4 u6) ((V9 u7 u5 u6 u4)*8≤140737488355328) ((Kr u5 u6 u4).length+[u7].length≤4611686018427387904)<| .rg {an:=[(6, .take 107),(8, .arr [u7].length (ay (bL .i64) [u7])),(9, .arr (Ov u7 u5 u6 u4).length (U6 u7 u5 u6 u4)),(12, .rows 0 (YM u7 u5 u6 u4))],fr:=[(8,108),(9,109)]} [0, .t 0 (I4 u4 u6) u5.length, .pf ⟨[u7].length=1,rfl⟩, .pf ⟨aT 1 1 (vU 1 [(.int .i64 u7)]) (ay (bL .i64) [u7]),(by intro i hi j hj;match i,j,hi,hj with|0,0,_,_=>rfl)⟩, .e ((Kr u5 u6 u4).length),1,2, .pf ⟨(Ov u7 u5 u6 u4).length=(Kr u5 u6 u4).length+[u7].length,List.length_append⟩, .pf ⟨aT (V9 u7 u5 u6 u4) 1 (aax u7 u5 u6 u4) (U6 u7 u5 u6 u4),kK _ _ _ _⟩,0, .t 0 (I4 u4 u6) u5.length, .e ((Ov u7 u5 u6 u4).length), .pf ⟨Pd u5.length 2 (ZP u7 u5 u6 u4) (YM u7 u5 u6 u4),Fe _ _ _ _ _ _ _ _ rfl (fun j hj=>(match j,hj with|0,_=>rfl|1,_=>rfl))⟩, .pf ⟨∀i0 j0 c0,((some ((I4 u4 u6).toNat,1,CV.own 107 false (Kr u5 u6 u4).length)):Option (Nat × Nat × CV))=some (i0,j0,c0)→i0=(I4 u4 u6).toNat∧j0=1,(fun i0 j0 c0 e=>by cases e;exact⟨rfl,rfl⟩)⟩]<| .im (.ll 60 u5 (VW u7 u5 u6 u4))<| .r<| .e (.next (aal u7 u5 u6 u4)))
  (.r<| .e (.next (u5,(k18 u7)))))
  (.e (.done (.brk u5))))
  (fun u8=> .r<| .fz [60]<| .im (.us 4 (vD (.sl none 2 u8.length (fun i j=>Zf (wT aI.ev u8 i j)))) (vD (bB none 2 aI.cell u8)) (zR.v (qJ.one (lK.d (jD.sl (.inr rfl) (fun i _ j hj=>match j,hj with|0,_=> .refl _|1,_=> .refl _))))))<| .e u8)))
section
variable (p:aj) (u0:Int) (u1:(List aI)) (u3:Int) (u2:(List Bool)) (u6:(List Bool))
abbrev Yn:=((1:Int)*p.buses≤281474976710656)
abbrev XQ:=((p.buses:Int)≤9223372036854775807)
abbrev LX:=(List.replicate p.buses.toNat (false:Bool))
abbrev TK:=(ay ai (LX p))
abbrev Sz:=((0:Int)≤u0∧u0<(u1.length:Int))
abbrev Yj:=((0:Int)≤u3∧u3<(((at' u1 u0.toNat).buses).length:Int))
abbrev Oh:=(at' ((at' u1 u0.toNat).buses) u3.toNat)
abbrev XZ:=((0:Int)≤(Oh u0 u1 u3)∧(Oh u0 u1 u3)<(u2.length:Int))
abbrev Sn:=(u2.set ((Oh u0 u1 u3).toNat) (decide (0<(((at' u1 u0.toNat).sources).length:Int))))
abbrev R9:=(ay ai (Sn u0 u1 u3 u2))
abbrev XW:=(xJ (ay ai u2) ((Oh u0 u1 u3).toNat) 0 [(.bool (decide (0<(((at' u1 u0.toNat).sources).length:Int))))])
abbrev WH:=((Sn u0 u1 u3 u2),(k18 u3))
abbrev WK:=(u6,(k18 u0))
end
theorem DC (p:aj) (s_:State):eP Tryz.prog 30 (Ut s_ p) [] (fun r=>(.iL [(sD (bB none 1 ai r.1)),(sI r.2)])) (fun _=>[]) (fV p s_):=
  fD tT mX Tryz.func30 (
  .rg {fr:=[(0,7),(1,8)],fz:=[7,8]} []<| .cl 2 (dh p s_) fun r_=> .r<| .r<| .it (.r<| .e (([]:List Bool),r_))
  (.a3 ((0:Int)≤p.buses) (Yn p) (XQ p)<| .rg {an:=[(2, .arr (LX p).length (TK p))],fr:=[(2,9)]} [0, .e ((p.buses:Int)),1,2, .pf ⟨(LX p).length=p.buses.toNat,List.length_replicate⟩, .pf ⟨aT p.buses.toNat 1 (fun _ j=>[(.bool false)].getD j .nilp) (TK p),pX _ _ _ _ _ (fun j hj=>(match j,hj with|0,_=>rfl))⟩]<| .cl 2 (iE p s_) fun u1=> .r<| .lp (σ:=((List Bool) × Int)) (β:=(List Bool)) ((LX p),0) [] [] ⟨[23,24],[],fun(u4,u0)=>[(7,(vO 9 true u4.length)),(25,(vI u0))],fun(u4,u0)=>[(9,some (bS 4 1 ai u4))]⟩ ⟨[],[],fun u5=>[(7,(vO 9 true u5.length))],fun u5=>[(9,some (bS 4 1 ai u5))]⟩
  (fun(u4,u0)=> .r<| .it (.a1 (Sz u0 u1)<| .rg {fr:=[(2,13)]} []<| .rg {fz:=[13]} []<| .lp (σ:=((List Bool) × Int)) (β:=(List Bool)) (u4,0) [] [] ⟨[9,23,24,25,30,31],[],fun(u2,u3)=>[(7,(vO 9 true u2.length)),(32,(vI u3))],fun(u2,u3)=>[(9,some (bS 4 1 ai u2))]⟩ ⟨[23,24,25],[],fun u6=>[(7,(vO 9 true u6.length))],fun u6=>[(9,some (bS 4 1 ai u6))]⟩
  (fun(u2,u3)=> .r<| .it (.a1 (Yj u0 u1 u3)<| .r<| .a1 (XZ u0 u1 u3 u2)<| .rg {an:=[(7, .arr 0 (R9 u0 u1 u3 u2))]} [0, .t 0 (Oh u0 u1 u3) u2.length, .pf ⟨aT u2.length 1 (XW u0 u1 u3 u2) (R9 u0 u1 u3 u2),fe _ _ _ _ _ _ _ _ rfl (fun j hj=>(match j,hj with|0,_=>rfl))⟩]<| .im (.ll 9 u2 (Sn u0 u1 u3 u2))<| .r<| .e (.next (WH u0 u1 u3 u2)))
  (.e (.done (.brk u2))))
  (fun u6=> .r<| .e (.next (WK u0 u6))))
  (.e (.done (.brk u4))))
  (fun u5=> .rg {fz:=[9]} []<| .e (u5,0))))
theorem zf (x:Int):eP Tryz.prog 154 [(sI x)] [] (fun r=>(vB r)) (fun _=>[]) (uI x):=
  fD tT mX Tryz.func154 (
  .r<| .r<| .e (!decide (x=x)))
theorem CO (x:Int) (y:Int):eP Tryz.prog 118 [(sI x),(sI y)] [] (fun r=>(vI r)) (fun _=>[]) (qo x y):=
  fD tT mX Tryz.func118 (
  .r<| .cl 1 (zf x) fun r_=> .r<| .cl 1 (zf y) fun u0=> .r<| .r<| .it (.r<| .it (.r<| .e 0)
  (.r<| .e (-1)))
  (.r<| .it (.r<| .e 1)
  (.r<| .it (.r<| .e (-1))
  (.r<| .it (.r<| .e 1)
  (.r<| .e 0)))))
theorem zP (s1:(List Int)) (s2:(List Int)):eP Tryz.prog 78 [(sD (Pz s1)),(sD (Pz s2))] [] (fun r=>(vI r)) (fun _=>[]) (qh s1 s2):=
  fD tT mX Tryz.func78 (
  .r<| .r<| .lp (σ:=Int) (β:=Unit) (0) [] [] ⟨[0,1,9,10],[],fun u0=>[(11,(vI u0))],fun u0=>[]⟩ ⟨[0,1],[],fun _=>[],fun _=>[]⟩
  (fun u0=> .r<| .it (.a1 (UA s1 u0)<| .r<| .r<| .it (.r<| .e (.done (.ret 1)))
  (.a1 (UA s2 u0)<| .r<| .cl 2 (CO (at' s1 u0.toNat) (at' s2 u0.toNat)) fun r_=> .r<| .r<| .it (.r<| .e (.done (.ret r_)))
  (.r<| .e (.next (k18 u0)))))
  (.e (.done (.brk ()))))
  (fun _=> .r<| .it (.r<| .e (-1))
  (.r<| .e 0)))
theorem yG (a:aC) (b:aC):eP Tryz.prog 77 [(.agg [(cI a.e0),(cI a.e1)]),(.agg [(cI b.e0),(cI b.e1)])] [] (fun r=>(vI r)) (fun _=>[]) (iV a b):=
  fD tT mX Tryz.func77 (
  .rg {fr:=[(0,2),(1,3)],fz:=[2,3]} []<| .cl 2 ⟨fun{r_} hr_=>((Fn.TG (args:=[(sD (bB none 1 (bL .i64) [a.e0,a.e1])),(sD (bB none 1 (bL .i64) [b.e0,b.e1]))]) (args':=[(sD (.sl (some true) 1 [a.e0,a.e1].length (fun i j=>([(.int .i64 a.e0),(.int .i64 a.e1)].getD (0+(i*1+j)) .nilp)))),(sD (.sl (some true) 1 [b.e0,b.e1].length (fun i j=>([(.int .i64 b.e0),(.int .i64 b.e1)].getD (0+(i*1+j)) .nilp))))]) (hin:=[]) (hin':=[]) (zP [a.e0,a.e1] [b.e0,b.e1] hr_) ⟨qJ.one (lK.d (jD.sl (.inl rfl) (by intro i hi j hj;match i,j,hi,hj with|0,0,_,_=>exact .refl _|1,0,_,_=>exact .refl _))),qJ.one (lK.d (jD.sl (.inl rfl) (by intro i hi j hj;match i,j,hi,hj with|0,0,_,_=>exact .refl _|1,0,_,_=>exact .refl _))),trivial⟩ trivial):Fn Tryz.prog 78 [(sD (.sl (some true) 1 [a.e0,a.e1].length (fun i j=>([(.int .i64 a.e0),(.int .i64 a.e1)].getD (0+(i*1+j)) .nilp)))),(sD (.sl (some true) 1 [b.e0,b.e1].length (fun i j=>([(.int .i64 b.e0),(.int .i64 b.e1)].getD (0+(i*1+j)) .nilp))))] [] (vI r_) [])⟩ fun r_=> .r<| .e r_)
theorem pM (x y:aC):iV x y=some (if x.e0<y.e0 then -1 else if y.e0<x.e0 then 1 else if x.e1<y.e1 then -1 else if y.e1<x.e1 then 1 else 0):=by
 have hc: ∀a b:Int,qo a b=some (if a<b then -1 else if b<a then 1 else 0):=by
  intro a b
  unfold qo uI
  by_cases h:a<b<;>by_cases g:b<a<;>simp [h,g]
 obtain⟨k,hk⟩: ∃k,FUEL=k+1+1+1:=⟨1180591620717411303421,rfl⟩
 unfold iV qh
 rw [hk]
 simp only [aD,q9,hc,aJ,at']
 by_cases h0:x.e0<y.e0<;>by_cases g0:y.e0<x.e0<;>by_cases h1:x.e1<y.e1<;>by_cases g1:y.e1<x.e1<;>simp [h0,g0,h1,g1,IntKind.wrap_i64]
theorem xu (x y:aC):iV x y=some (aY x y):=by unfold aY;rw [pM];rfl
theorem iQ (x y:aC):Go.Proofs.ltOf aY x y=true↔x.e0<y.e0∨ ¬ y.e0<x.e0∧x.e1<y.e1:=by
 unfold Go.Proofs.ltOf aY;rw [pM,decide_eq_true_iff]
 by_cases h0:x.e0<y.e0<;>by_cases g0:y.e0<x.e0<;>by_cases h1:x.e1<y.e1<;>by_cases g1:y.e1<x.e1<;>simp [h0,g0,h1,g1]
theorem yc:Go.Sort.SWO (Go.Proofs.ltOf aY) where
 irrefl x:=by rw [←Bool.not_eq_true,iQ];omega
 trans x y z h1 h2:=by rw [iQ]at*;omega
 ntrans x y z h1 h2:=by rw [←Bool.not_eq_true,iQ]at*;omega
theorem xX (x y:aC) (h1:(Go.Proofs.ltOf aY) x y=false) (h2:(Go.Proofs.ltOf aY) y x=false):x=y:=by
 rw [←Bool.not_eq_true,iQ]at h1 h2
 obtain⟨a,b⟩:=x
 obtain⟨c,d⟩:=y
 have e1:a=c:=by simp only at h1 h2;omega
 have e2:b=d:=by simp only at h1 h2;omega
 rw [e1,e2]
theorem yj (s:(List aC)) {r:(List aC)} (h:iY s=some r):Fn Tryz.prog 76 [(.one (.own 0 false s.length)),(sD (.fn 77 0 (bg [])))] [(0,some (.arr 117 2 s.length (ay aC.cell s)))] (.iL []) [(0,some (.arr 117 2 r.length (ay aC.cell r)))]:=
 UY PE 2 R5 QX (fun x:aC=>[.int .i64 x.e0, .int .i64 x.e1]) (fun _=>rfl) (fun x v hv=>by simp at hv;rcases hv with rfl|rfl<;>rfl) aY yc xX (ec:=fun x=>[(cI x.e0),(cI x.e1)])
  (fun x y=>yG x y (xu x y)) (fun F w x=> ⟨rfl,rfl,trivial⟩) (enters_of Tryz.func77 (by kernel_rfl) rfl)
  (fun F w x j hj v=>match j,hj with|0,_=>Iff.rfl|1,_=>Iff.rfl) 76 rfl ⟨_,Tryz.func76,rfl,rfl⟩ s (by cases s with|nil=>(cases h;simp)|cons x xs=>exact h)
section
variable (u6:(List aC)) (u1:Int) (u2:(List aI)) (u0:Int) (u3:Int) (p:aj) (u4:(List aC))
abbrev OW:List (Nat × Option Ob):=[(138,some (bS 117 2 aC.cell u6))]
abbrev aai:=((0:Int)≤(k18 u1)∧(k18 u1)≤(((at' u2 u0.toNat).sources).length:Int))
abbrev A8:=((k18 u1).toNat)
abbrev Vl:=(((at' u2 u0.toNat).sources).drop (A8 u1))
abbrev aaj:=((0:Int)≤u3∧u3<((Vl u1 u2 u0).length:Int))
abbrev Kz:=(at' ((at' u2 u0.toNat).sources) u1.toNat)
abbrev Zx:=((0:Int)≤(Kz u1 u2 u0)∧(Kz u1 u2 u0)<(p.sources.length:Int))
abbrev Za:=((gB [((decide (((at' p.sources ((Kz u1 u2 u0).toNat)).sync)=0)),false)]=true→(0:Int)≤(Kz u1 u2 u0)∧(Kz u1 u2 u0)<(p.sources.length:Int)))
abbrev Ro:=(at' (Vl u1 u2 u0) u3.toNat)
abbrev ZH:=((gB [((decide (((at' p.sources ((Kz u1 u2 u0).toNat)).sync)=0)),false)]=true→(0:Int)≤(Ro u1 u2 u0 u3)∧(Ro u1 u2 u0 u3)<(p.sources.length:Int)))
abbrev Ma:=(⟨(Kz u1 u2 u0),(Ro u1 u2 u0 u3)⟩:aC)
abbrev X4:=(u4.length+[(Ma u1 u2 u0 u3)].length)
abbrev aag:=((X4 u1 u2 u0 u3 u4)*16≤140737488355328)
abbrev aaL:=(u4.length+[(Ma u1 u2 u0 u3)].length≤4611686018427387904)
abbrev UI:=(ay aC.cell [(Ma u1 u2 u0 u3)])
abbrev Tx:=(u4++[(Ma u1 u2 u0 u3)])
abbrev Xk:=(ay aC.cell (Tx u1 u2 u0 u3 u4))
abbrev ZB:=(vU 2 [(.int .i64 (Kz u1 u2 u0)),(.int .i64 (Ro u1 u2 u0 u3))])
abbrev aaG:=(uT (ay aC.cell u4) u4.length (UI u1 u2 u0 u3))
abbrev aaf:=((Tx u1 u2 u0 u3 u4),(k18 u3))
abbrev VI:=(u4,(k18 u3))
end
theorem Al (p:aj) (s_:State):eP Tryz.prog 32 (Ut s_ p) [] (fun r=>(.iL [(sD (bB none 2 aC.cell r.1)),(sI r.2)])) (fun _=>[]) (nG p s_):=
  fD tT mX Tryz.func32 (
  .rg {fr:=[(0,134),(1,135)],fz:=[134,135]} []<| .cl 2 (dh p s_) fun r_=> .r<| .r<| .it (.r<| .e (([]:List aC),r_))
  (.r<| .cl 2 (iE p s_) fun u2=> .r<| .im (.ad 7 268 117 2 (ay aC.cell ([]:List aC)))<| .lp (σ:=((List aC) × Int)) (β:=(List aC)) (([]:List aC),0) [] [(268,138)] ⟨[2,22,23],[],fun(u6,u0)=>[(7,(vO 138 false u6.length)),(24,(vI u0))],fun(u6,u0)=>(OW u6)⟩ ⟨[],[],fun u5=>[(7,(vO 138 false u5.length))],fun u5=>(OW u5)⟩
  (fun(u6,u0)=> .r<| .it (.a1 (Sz u0 u2)<| .rg {fr:=[(2,235)],fz:=[235]} []<| .r<| .lp (σ:=((List aC) × Int)) (β:=(List aC)) (u6,0) [] [] ⟨[2,9,22,23,24,29,30],[],fun(u7,u1)=>[(7,(vO 138 false u7.length)),(31,(vI u1))],fun(u7,u1)=>(OW u7)⟩ ⟨[2,22,23,24],[],fun u8=>[(7,(vO 138 false u8.length))],fun u8=>(OW u8)⟩
  (fun(u7,u1)=> .r<| .it (.a1 ((0:Int)≤u1∧u1<(((at' u2 u0.toNat).sources).length:Int))<| .r<| .a1 (aai u1 u2 u0)<| .r<| .im (.us 40 (vD (.sl none 1 (((at' u2 u0.toNat).sources).length - (A8 u1)) (fun iq jq=>ay (bL .i64) ((at' u2 u0.toNat).sources) (iq+(A8 u1)) jq))) (vD (bB none 1 (bL .i64) (Vl u1 u2 u0))) (zR.v (qJ.one (lK.d (jD.WI (by first|rw [List.length_append,List.length_drop]|simp only [List.length_set,List.length_drop,lW]) (.inr rfl) (Qq _ _ _ _))))))<| .lp (σ:=((List aC) × Int)) (β:=(List aC)) (u7,0) [] [] ⟨[2,9,11,22,23,24,29,30,31,40,41],[],fun(u4,u3)=>[(7,(vO 138 false u4.length)),(42,(vI u3))],fun(u4,u3)=>(OW u4)⟩ ⟨[2,9,22,23,24,29,30,31],[],fun u9=>[(7,(vO 138 false u9.length))],fun u9=>(OW u9)⟩
  (fun(u4,u3)=> .r<| .it (.a1 (aaj u1 u2 u0 u3)<| .r<| .a3 (Zx u1 u2 u0 p) (Za u1 u2 u0 p) (ZH u1 u2 u0 u3 p)<| .rg {} [0,1,2]<| .it (.a2 (aag u1 u2 u0 u3 u4) (aaL u1 u2 u0 u3 u4)<| .rg {an:=[(4, .arr [(Ma u1 u2 u0 u3)].length (UI u1 u2 u0 u3)),(5, .arr (Tx u1 u2 u0 u3 u4).length (Xk u1 u2 u0 u3 u4))],fr:=[(4,266),(5,267)]} [.pf ⟨[(Ma u1 u2 u0 u3)].length=1,rfl⟩, .pf ⟨aT 1 2 (ZB u1 u2 u0 u3) (UI u1 u2 u0 u3),(by intro i hi j hj;match i,j,hi,hj with|0,0,_,_=>rfl|0,1,_,_=>rfl)⟩, .e (u4.length),0,1, .pf ⟨(Tx u1 u2 u0 u3 u4).length=u4.length+[(Ma u1 u2 u0 u3)].length,List.length_append⟩, .pf ⟨aT (X4 u1 u2 u0 u3 u4) 2 (aaG u1 u2 u0 u3 u4) (Xk u1 u2 u0 u3 u4),kK _ _ _ _⟩]<| .r<| .en (.next (aaf u1 u2 u0 u3 u4)) [] [(267,138)])
  (.r<| .e (.next (VI u3 u4))))
  (.e (.done (.brk u4))))
  (fun u9=> .r<| .e (.next (VI u1 u9))))
  (.e (.done (.brk u7))))
  (fun u8=> .r<| .e (.next (VI u0 u8))))
  (.e (.done (.brk u6))))
  (fun u5=> .cl 1 (d9 [(0,138)] ⟨fun h=>yj u5 h⟩) fun v0=> .r<| .a1 (u5.length=v0.length)<| .so 7 138 false u5.length v0.length 0<| .so 77 138 false u5.length v0.length 0<| .fz [138]<| .r<| .e (v0,0))))
theorem Av (p:aj) (s_:State):eP Tryz.prog 30 (Ut s_ p) [] (fun r=>(.iL [(.one (.own 0 false r.1.length)),(sI r.2)])) (fun r=>[(0,some (bS 4 1 ai r.1))]) (fV p s_):=
  fD tT mX Tryz.func30 (
  .rg {fr:=[(0,7),(1,8)],fz:=[7,8]} []<| .cl 2 (dh p s_) fun r_=> .r<| .r<| .it (.r<| .im (.ad 4 9 4 1 (ay ai ([]:List Bool)))<| .en (([]:List Bool),r_) [] [(9,0)])
  (.a3 ((0:Int)≤p.buses) (Yn p) (XQ p)<| .rg {an:=[(2, .arr (LX p).length (TK p))],fr:=[(2,10)]} [0, .e ((p.buses:Int)),1,2, .pf ⟨(LX p).length=p.buses.toNat,List.length_replicate⟩, .pf ⟨aT p.buses.toNat 1 (fun _ j=>[(.bool false)].getD j .nilp) (TK p),pX _ _ _ _ _ (fun j hj=>(match j,hj with|0,_=>rfl))⟩]<| .cl 2 (iE p s_) fun u1=> .r<| .lp (σ:=((List Bool) × Int)) (β:=(List Bool)) ((LX p),0) [] [] ⟨[23,24],[],fun(u4,u0)=>[(7,(vO 10 true u4.length)),(25,(vI u0))],fun(u4,u0)=>[(10,some (bS 4 1 ai u4))]⟩ ⟨[],[],fun u5=>[(7,(vO 10 true u5.length))],fun u5=>[(10,some (bS 4 1 ai u5))]⟩
  (fun(u4,u0)=> .r<| .it (.a1 (Sz u0 u1)<| .rg {fr:=[(2,14)]} []<| .rg {fz:=[14]} []<| .lp (σ:=((List Bool) × Int)) (β:=(List Bool)) (u4,0) [] [] ⟨[9,23,24,25,30,31],[],fun(u2,u3)=>[(7,(vO 10 true u2.length)),(32,(vI u3))],fun(u2,u3)=>[(10,some (bS 4 1 ai u2))]⟩ ⟨[23,24,25],[],fun u6=>[(7,(vO 10 true u6.length))],fun u6=>[(10,some (bS 4 1 ai u6))]⟩
  (fun(u2,u3)=> .r<| .it (.a1 (Yj u0 u1 u3)<| .r<| .a1 (XZ u0 u1 u3 u2)<| .rg {an:=[(7, .arr 0 (R9 u0 u1 u3 u2))]} [0, .t 0 (Oh u0 u1 u3) u2.length, .pf ⟨aT u2.length 1 (XW u0 u1 u3 u2) (R9 u0 u1 u3 u2),fe _ _ _ _ _ _ _ _ rfl (fun j hj=>(match j,hj with|0,_=>rfl))⟩]<| .im (.ll 10 u2 (Sn u0 u1 u3 u2))<| .r<| .e (.next (WH u0 u1 u3 u2)))
  (.e (.done (.brk u2))))
  (fun u6=> .r<| .e (.next (WK u0 u6))))
  (.e (.done (.brk u4))))
  (fun u5=> .r<| .en (u5,0) [] [(10,0)])))
section
variable (p:aj) (u0:Int) (r_:((List Bool) × Int)) (u1:(List aV))
abbrev A7:=((at' p.racks u0.toNat).feeds)
abbrev WE:List DV:=[(.int .i64 ((A7 p u0).e0))]
abbrev Tc:List CV:=[(cI ((A7 p u0).e0)),(cI ((A7 p u0).e1))]
abbrev Zr:=((gB [((decide (0≤((A7 p u0).e0))),true)]=true→(0:Int)≤(A7 p u0).e0∧(A7 p u0).e0<(r_.1.length:Int)))
abbrev Xy:List DV:=[(.int .i64 ((A7 p u0).e1))]
abbrev aaB:=((gB [((decide (0≤((A7 p u0).e1))),true)]=true→(0:Int)≤(A7 p u0).e1∧(A7 p u0).e1<(r_.1.length:Int)))
abbrev Xz:=(bif (decide (0≤((A7 p u0).e0)))then(at' r_.1 (((A7 p u0).e0).toNat))else false)
abbrev WU:=(bif (decide (0≤((A7 p u0).e1)))then(at' r_.1 (((A7 p u0).e1).toNat))else false)
abbrev L6:=(⟨(Xz p u0 r_),(WU p u0 r_)⟩:aV)
abbrev Wz:=(u1.length+[(L6 p u0 r_)].length)
abbrev Z4:=((Wz p u0 r_ u1)*2≤140737488355328)
abbrev aaJ:=(u1.length+[(L6 p u0 r_)].length≤4611686018427387904)
abbrev Ux:=(ay aV.cell [(L6 p u0 r_)])
abbrev Rh:=(u1++[(L6 p u0 r_)])
abbrev WR:=(ay aV.cell (Rh p u0 r_ u1))
abbrev ZU:=(vU 2 [(.bool (Xz p u0 r_)),(.bool (WU p u0 r_))])
abbrev aam:=(uT (ay aV.cell u1) u1.length (Ux p u0 r_))
abbrev Zz:=((Rh p u0 r_ u1),(k18 u0))
end
theorem BD (p:aj) (s_:State):eP Tryz.prog 31 (Ut s_ p) [] (fun r=>(.iL [(.one (.own 0 false r.1.length)),(sI r.2)])) (fun r=>[(0,some (bS 78 2 aV.cell r.1))]) (uP p s_):=
  fD tT mX Tryz.func31 (
  .rg {fr:=[(0,19),(1,20)],fz:=[20]} []<| .cl 2 (d9 [(0,21)] (Av p s_)) fun r_=> .rg {fz:=[21]} []<| .r<| .it (.r<| .im (.ad 4 22 78 2 (ay aV.cell ([]:List aV)))<| .en (([]:List aV),r_.2) [] [(22,0)])
  (.r<| .r<| .im (.ad 8 39 78 2 (ay aV.cell ([]:List aV)))<| .lp (σ:=((List aV) × Int)) (β:=(List aV)) (([]:List aV),0) [] [(39,26)] ⟨[6,24,25],[],fun(u1,u0)=>[(8,(vO 26 false u1.length)),(26,(vI u0))],fun(u1,u0)=>[(26,some (bS 78 2 aV.cell u1))]⟩ ⟨[],[],fun u2=>[(8,(vO 26 false u2.length))],fun u2=>[(26,some (bS 78 2 aV.cell u2))]⟩
  (fun(u1,u0)=> .r<| .it (.a1 ((0:Int)≤u0∧u0<(p.racks.length:Int))<| .rg {fr:=[(2,35)],fz:=[35]} []<| .rg {fr:=[(0,36)]} []<| .r<| .ul 11<| .r<| .t<| .rg {an:=[(1, .vals (WE p u0))]} [.pf ⟨(0:Int)≤0∧(0:Int)<(2:Nat),(by decide)⟩, .pf ⟨0*1+1≤(Tc p u0).length,Nat.le_of_ble_eq_true rfl⟩, .pf ⟨((Tc p u0).drop (0*1)).take 1=(WE p u0).map .d,rfl⟩]<| .a1 (Zr p u0 r_)<| .rg {} [0, .pf ⟨(0:Int)≤0∧(0:Int)<(2:Nat),(by decide)⟩]<| .r<| .im (.dp [6,8,11,24,25,26,31,32])<| .r<| .t<| .rg {an:=[(1, .vals (Xy p u0))]} [.pf ⟨(0:Int)≤1∧(1:Int)<(2:Nat),(by decide)⟩, .pf ⟨1*1+1≤(Tc p u0).length,Nat.le_of_ble_eq_true rfl⟩, .pf ⟨((Tc p u0).drop (1*1)).take 1=(Xy p u0).map .d,rfl⟩]<| .a1 (aaB p u0 r_)<| .rg {} [0, .pf ⟨(0:Int)≤1∧(1:Int)<(2:Nat),(by decide)⟩]<| .r<| .im (.dp [6,8,11,24,25,26,31,32])<| .r<| .f<| .a2 (Z4 p u0 r_ u1) (aaJ p u0 r_ u1)<| .rg {an:=[(2, .arr [(L6 p u0 r_)].length (Ux p u0 r_)),(3, .arr (Rh p u0 r_ u1).length (WR p u0 r_ u1))],fr:=[(2,37),(3,38)]} [.pf ⟨[(L6 p u0 r_)].length=1,rfl⟩, .pf ⟨aT 1 2 (ZU p u0 r_) (Ux p u0 r_),(by intro i hi j hj;match i,j,hi,hj with|0,0,_,_=>rfl|0,1,_,_=>rfl)⟩, .e (u1.length),0,1, .pf ⟨(Rh p u0 r_ u1).length=u1.length+[(L6 p u0 r_)].length,List.length_append⟩, .pf ⟨aT (Wz p u0 r_ u1) 2 (aam p u0 r_ u1) (WR p u0 r_ u1),kK _ _ _ _⟩]<| .r<| .en (.next (Zz p u0 r_ u1)) [] [(38,26)])
  (.e (.done (.brk u1))))
  (fun u2=> .r<| .en (u2,0) [] [(26,0)])))
theorem AV (r_:Int) (x1:(List aV)):eP Tryz.prog 101 [(sI r_),(sD (DW [(bB none 2 aV.cell x1)] 0))] [] (fun r=>(vB r)) (fun _=>[]) (qK r_ x1):=
  fD tT mX Tryz.func101 (
  .r<| .a2 ((0:Int)≤r_∧r_<(x1.length:Int)) ((gB [((!((at' x1 r_.toNat).e0)),true)]=true→(0:Int)≤r_∧r_<(x1.length:Int)))<| .rg {} [0, .pf ⟨(0:Int)≤0∧(0:Int)<(2:Nat),(by decide)⟩,1, .pf ⟨(0:Int)≤1∧(1:Int)<(2:Nat),(by decide)⟩]<| .e (bif (!((at' x1 r_.toNat).e0))then(!((at' x1 r_.toNat).e1))else false))
section
variable (s_:(List Int)) (f_:(List aV))
abbrev Yv:List SV:=[(sD (Pz s_)),(sD (.fn 101 1 (bg [(DW [(bB none 2 aV.cell f_)] 0)])))]
end
theorem rD (s_:(List Int)) (f_:(List aV)):eP Tryz.prog 132 (Yv s_ f_) [] (fun r=>(vI r)) (fun _=>[]) (jy s_ f_):=
  fD tT mX Tryz.func132 (
  .r<| .r<| .lp (σ:=Int) (β:=Unit) (0) [] [] ⟨[0,1,7],[],fun t8=>[(8,(vI t8))],fun t8=>[]⟩ ⟨[],[],fun _=>[],fun _=>[]⟩
  (fun t8=> .r<| .it (.r<| .cl 5 (AV (at' s_ t8.toNat) f_) fun r_=> .a1 (UA s_ t8)<| .rg {} [0,1]<| .it (.r<| .e (.done (.ret t8)))
  (.r<| .e (.next (k18 t8))))
  (.e (.done (.brk ()))))
  (fun _=> .r<| .e (-1)))
theorem qF (s_:(List Int)) (f_:(List aV)):eP Tryz.prog 97 (Yv s_ f_) [] (fun r=>(vB r)) (fun _=>[]) (fq s_ f_):=
  fD tT mX Tryz.func97 (
  .r<| .cl 2 (rD s_ f_) fun r_=> .r<| .e (decide (0≤r_)))
theorem Bd (s_:(List Int)) (v_:Int):eP Tryz.prog 171 (ZW s_ v_) [] (fun r=>(vI r)) (fun _=>[]) (tF s_ v_):=
  fD tT mX Tryz.func171 (
  .r<| .r<| .lp (σ:=Int) (β:=Unit) (0) [] [] ⟨[0,1,7],[],fun t8=>[(8,(vI t8))],fun t8=>[]⟩ ⟨[],[],fun _=>[],fun _=>[]⟩
  (fun t8=> .r<| .it (.r<| .a1 (UA s_ t8)<| .r<| .it (.r<| .e (.done (.ret t8)))
  (.r<| .e (.next (k18 t8))))
  (.e (.done (.brk ()))))
  (fun _=> .r<| .e (-1)))
theorem qD (s_:(List Int)) (v_:Int):eP Tryz.prog 133 (ZW s_ v_) [] (fun r=>(vB r)) (fun _=>[]) (iR s_ v_):=
  fD tT mX Tryz.func133 (
  .r<| .cl 2 (Bd s_ v_) fun r_=> .r<| .e (decide (0≤r_)))
section
variable (p:aj) (s_:State) (t:Task) (b:Int) (u1:Int) (u0:Int)
abbrev Yp:List SV:=[(.agg (k1 p)),(.agg (Ao s_)),(.agg (k2 t)),(sI b)]
abbrev Zc:=((0:Int)≤b∧b<(s_.earthed.length:Int))
abbrev aaA:=((gB [((decide ((X6 u1 p)=b)),true)]=true→(0:Int)≤u1∧u1<(s_.on_.length:Int)))
abbrev TA:=((at' p.links u0.toNat).a)
abbrev Sq:=((at' p.links u0.toNat).b)
abbrev Zo:=(IntKind.wrap .i64 ((IntKind.wrap .i64 ((TA p u0)+(Sq p u0))) - b))
abbrev Zi:=((bif (decide (((at' p.links u0.toNat).kind)=1))then true else(at' s_.closed u0.toNat)),false)
end
theorem Dv (p:aj) (s_:State) (t:Task) (b:Int):eP Tryz.prog 103 (Yp p s_ t b) [] (fun r=>(vB r)) (fun _=>[]) (rE p s_ t b):=
  fD tT mX Tryz.func103 (
  .rg {fr:=[(0,11),(1,12),(2,13)],fz:=[12,13]} []<| .a1 (Zc s_ b)<| .r<| .it (.r<| .e false)
  (.r<| .lp (σ:=Int) (β:=Unit) (0) [] [] ⟨[3,4,5,6,20,21],[11],fun u1=>[(22,(vI u1))],fun u1=>[]⟩ ⟨[3,4,5,6],[11],fun _=>[],fun _=>[]⟩
  (fun u1=> .r<| .it (.a1 (Wt u1 p)<| .rg {fr:=[(3,17)],fz:=[17]} []<| .a1 (aaA p s_ b u1)<| .r<| .it (.r<| .e (.done (.ret false)))
  (.r<| .e (.next (k18 u1))))
  (.e (.done (.brk ()))))
  (fun _=> .r<| .lp (σ:=Int) (β:=Unit) (0) [] [] ⟨[3,5,6,40,41],[],fun u0=>[(42,(vI u0))],fun u0=>[]⟩ ⟨[],[],fun _=>[],fun _=>[]⟩
  (fun u0=> .r<| .it (.a1 (YV p u0)<| .rg {fr:=[(3,21)],fz:=[21]} []<| .cg 20 [((bif (!decide ((TA p u0)=b))then(!decide ((Sq p u0)=b))else false),false)] (qD t.crew (Zo p b u0)) fun r_=> .r<| .it (.r<| .e (.next (k18 u0)))
  (.a2 ((gB [((decide (((at' p.links u0.toNat).kind)=1)),false)]=true→(0:Int)≤u0∧u0<(s_.closed.length:Int))) ((gB [(Zi p s_ u0)]=true→(0:Int)≤u0∧u0<(s_.locked.length:Int)))<| .rg {} [0,1]<| .it (.r<| .e (.done (.ret false)))
  (.r<| .e (.next (k18 u0)))))
  (.e (.done (.brk ()))))
  (fun _=> .r<| .e true))))
section
variable (x3:(List Int)) (u9:(List Int)) (v0:(List af)) (v1:(List af)) (x2:(List Bool)) (u3:(List Bool)) (u4:(List Bool)) (u5:(List Bool)) (u6:(List Bool)) (u7:(List Bool)) (u8:(List Bool))
abbrev Wv:DV:=(DW [(Pz x3),(Pz u9),(Nz v0),(Nz v1)] 0)
abbrev pJ:=(⟨x2,u3,u4,u5,u6,u7,u8⟩:State)
end
theorem AP (b:Int) (x1:Int) (u0:(List Source)) (u1:(List Link)) (u2:(List aU)) (x2:(List Bool)) (u3:(List Bool)) (u4:(List Bool)) (u5:(List Bool)) (u6:(List Bool)) (u7:(List Bool)) (u8:(List Bool)) (x3:(List Int)) (u9:(List Int)) (v0:(List af)) (v1:(List af)):eP Tryz.prog 102 [(sI b),(sD (k8 u0 x1 u1 u2)),(sD (Vx x2 u3 u4 u5 u6 u7 u8)),(sD (Wv x3 u9 v0 v1))] [] (fun r=>(vB r)) (fun _=>[]) (qO b x1 u0 u1 u2 x2 u3 u4 u5 u6 u7 u8 x3 u9 v0 v1):=
  fD tT mX Tryz.func102 (
  .r<| .cl 4 (Dv (⟨x1,u0,u1,u2⟩:aj) (pJ x2 u3 u4 u5 u6 u7 u8) (⟨x3,u9,v0,v1⟩:Task) b) fun r_=> .r<| .e (!r_))
section
variable (s_:(List Int)) (f_:Int) (u0:(List Source)) (u1:(List Link)) (u2:(List aU)) (u3:(List Bool)) (u4:(List Bool)) (u5:(List Bool)) (u6:(List Bool)) (u7:(List Bool)) (u8:(List Bool)) (u9:(List Bool)) (v0:(List Int)) (v1:(List Int)) (v2:(List af)) (v3:(List af))
abbrev XG:List SV:=[(sD (Pz s_)),(sD (.fn 102 3 (bg [(k8 u0 f_ u1 u2),(Vx u3 u4 u5 u6 u7 u8 u9),(Wv v0 v1 v2 v3)])))]
end
theorem rO (s_:(List Int)) (f_:Int) (u0:(List Source)) (u1:(List Link)) (u2:(List aU)) (u3:(List Bool)) (u4:(List Bool)) (u5:(List Bool)) (u6:(List Bool)) (u7:(List Bool)) (u8:(List Bool)) (u9:(List Bool)) (v0:(List Int)) (v1:(List Int)) (v2:(List af)) (v3:(List af)):eP Tryz.prog 132 (XG s_ f_ u0 u1 u2 u3 u4 u5 u6 u7 u8 u9 v0 v1 v2 v3) [] (fun r=>(vI r)) (fun _=>[]) (jr s_ f_ u0 u1 u2 u3 u4 u5 u6 u7 u8 u9 v0 v1 v2 v3):=
  fD tT mX Tryz.func132 (
  .r<| .r<| .lp (σ:=Int) (β:=Unit) (0) [] [] ⟨[0,1,7],[],fun t8=>[(8,(vI t8))],fun t8=>[]⟩ ⟨[],[],fun _=>[],fun _=>[]⟩
  (fun t8=> .r<| .it (.r<| .cl 5 (AP (at' s_ t8.toNat) f_ u0 u1 u2 u3 u4 u5 u6 u7 u8 u9 v0 v1 v2 v3) fun r_=> .a1 (UA s_ t8)<| .rg {} [0,1]<| .it (.r<| .e (.done (.ret t8)))
  (.r<| .e (.next (k18 t8))))
  (.e (.done (.brk ()))))
  (fun _=> .r<| .e (-1)))
theorem qz (s_:(List Int)) (f_:Int) (u0:(List Source)) (u1:(List Link)) (u2:(List aU)) (u3:(List Bool)) (u4:(List Bool)) (u5:(List Bool)) (u6:(List Bool)) (u7:(List Bool)) (u8:(List Bool)) (u9:(List Bool)) (v0:(List Int)) (v1:(List Int)) (v2:(List af)) (v3:(List af)):eP Tryz.prog 97 (XG s_ f_ u0 u1 u2 u3 u4 u5 u6 u7 u8 u9 v0 v1 v2 v3) [] (fun r=>(vB r)) (fun _=>[]) (fA s_ f_ u0 u1 u2 u3 u4 u5 u6 u7 u8 u9 v0 v1 v2 v3):=
  fD tT mX Tryz.func97 (
  .r<| .cl 2 (rO s_ f_ u0 u1 u2 u3 u4 u5 u6 u7 u8 u9 v0 v1 v2 v3) fun r_=> .r<| .e (decide (0≤r_)))
section
variable (p:aj) (s_:State) (t:Task)
abbrev Xt:List SV:=[(.agg (k1 p)),(.agg (Ao s_)),(.agg (k2 t))]
end
theorem vS (p:aj) (s_:State) (t:Task):eP Tryz.prog 64 (Xt p s_ t) [] (fun r=>(vI r)) (fun _=>[]) (nu p s_ t):=
  fD tT mX Tryz.func64 (
  .rg {fr:=[(0,5),(1,6),(2,7)],fz:=[5,6,7]} []<| .cl 2 (DC p s_) fun r_=> .r<| .r<| .lp (σ:=Int) (β:=Unit) (0) [] [] ⟨[3,4,5,21,22],[],fun u0=>[(23,(vI u0))],fun u0=>[]⟩ ⟨[3,4,5],[],fun _=>[],fun _=>[]⟩
  (fun u0=> .r<| .it (.a1 ((0:Int)≤u0∧u0<(r_.1.length:Int))<| .r<| .a1 ((gB [((at' r_.1 u0.toNat),true)]=true→(0:Int)≤u0∧u0<(s_.earthed.length:Int)))<| .r<| .it (.r<| .e (.done (.ret 40)))
  (.r<| .e (.next (k18 u0))))
  (.e (.done (.brk ()))))
  (fun _=> .cl 2 (Al p s_) fun u2=> .r<| .r<| .it (.r<| .e 41)
  (.cl 2 (d9 [(0,8)] (BD p s_)) fun u1=> .rg {fr:=[(6,9)],fz:=[8]} []<| .fz [9]<| .cl 3 (qF t.fed u1.1) fun u3=> .r<| .it (.r<| .e 42)
  (.cl 3 (qz t.crew p.buses p.sources p.links p.racks s_.closed s_.locked s_.badLink s_.on_ s_.badSource s_.earthed s_.badBus t.fed t.crew t.allowed t.goal) fun u4=> .r<| .it (.r<| .e 45)
  (.r<| .e 0)))))
theorem fQ (p:aj) (s_:State) (t:Task):eP Tryz.prog 23 (Xt p s_ t) [] (fun r=>(vI r)) (fun _=>[]) (eG p s_ t):=
  fD tT mX Tryz.func23 (
  .rg {fr:=[(0,3),(1,4),(2,5)],fz:=[3,4,5]} []<| .cl 2 (dh p s_) fun r_=> .r<| .r<| .it (.r<| .e r_)
  (.cl 2 (Ce p t) fun u1=> .r<| .it (.r<| .e 1)
  (.cl 3 (vS p s_ t) fun u0=> .r<| .e u0)))
section
variable (s_:State)
abbrev UD:List SV:=[(.agg (Ao s_))]
abbrev UQ:=(FY 280 (List.replicate 280 false) 0 s_.closed (Nat.min s_.closed.length 280))
abbrev X5:=(ay ai (UQ s_))
abbrev Ve:=(FY 280 (UQ s_) 40 s_.locked (Nat.min s_.locked.length 240))
abbrev Xq:=(ay ai (Ve s_))
abbrev Vk:=(FY 280 (Ve s_) 80 s_.badLink (Nat.min s_.badLink.length 200))
abbrev XB:=(ay ai (Vk s_))
abbrev Uw:=(FY 280 (Vk s_) 120 s_.on_ (Nat.min s_.on_.length 160))
abbrev Wd:=(ay ai (Uw s_))
abbrev U3:=(FY 280 (Uw s_) 160 s_.badSource (Nat.min s_.badSource.length 120))
abbrev Xp:=(ay ai (U3 s_))
abbrev VB:=(FY 280 (U3 s_) 200 s_.earthed (Nat.min s_.earthed.length 80))
abbrev XM:=(ay ai (VB s_))
abbrev Yk:=(FY 280 (VB s_) 240 s_.badBus (Nat.min s_.badBus.length 40))
end
theorem p9 (s_:State):eP Tryz.prog 61 (UD s_) [] (fun r=>(.v (.agg (Zh 280 r)))) (fun _=>[]) (ni s_):=
  fD tT mX Tryz.func61 (
  .rg {fr:=[(0,10),(1,11)],fz:=[10]} []<| .rg {an:=[(0, .arr 280 (ay ai (List.replicate 280 false)))],fr:=[(0,12)]} [.e (280), .pf ⟨aT 280 1 (fun i _=>(List.replicate 280 (DV.bool false)).getD i .nilp) (ay ai (List.replicate 280 false)),Vm 280⟩]<| .r<| .ul 11<| .r<| .t<| .rg {an:=[(1, .vals [(bB none 1 ai s_.closed)])]} [.pf ⟨(0:Int)≤0∧(0:Int)<(7:Nat),(by decide)⟩, .pf ⟨0*1+1≤(Ao s_).length,Nat.le_of_ble_eq_true rfl⟩, .pf ⟨((Ao s_).drop (0*1)).take 1=[(bB none 1 ai s_.closed)].map .d,rfl⟩]<| .rg {an:=[(4, .take 12)],fr:=[(2,13)]} [.e (280), .pf ⟨(0:Int)≤(0:Int)∧(0:Int)<(280:Nat),(by decide)⟩, .e (280)]<| .im (.uh 12 (some (.arr 115 1 280 (Az (ay ai (List.replicate 280 false)) 0 (ay ai s_.closed) (Nat.min s_.closed.length 280)))) (some (.arr 115 1 280 (X5 s_))) (rP (MN 280 (List.replicate 280 false) 0 s_.closed (Nat.min s_.closed.length 280))))<| .r<| .im (.dp [2,3,20,21])<| .r<| .t<| .rg {an:=[(1, .vals [(Xe s_)])]} [.pf ⟨(0:Int)≤1∧(1:Int)<(7:Nat),(by decide)⟩, .pf ⟨1*1+1≤(Ao s_).length,Nat.le_of_ble_eq_true rfl⟩, .pf ⟨((Ao s_).drop (1*1)).take 1=[(Xe s_)].map .d,rfl⟩]<| .rg {an:=[(4, .take 12)],fr:=[(2,14)]} [.e (280), .pf ⟨(0:Int)≤(40:Int)∧(40:Int)<(280:Nat),(by decide)⟩, .e (240)]<| .im (.uh 12 (some (.arr 115 1 280 (Az (X5 s_) 40 (ay ai s_.locked) (Nat.min s_.locked.length 240)))) (some (.arr 115 1 280 (Xq s_))) (rP (MN 280 (UQ s_) 40 s_.locked (Nat.min s_.locked.length 240))))<| .r<| .im (.dp [2,3,20,21])<| .r<| .t<| .rg {an:=[(1, .vals [(XC s_)])]} [.pf ⟨(0:Int)≤2∧(2:Int)<(7:Nat),(by decide)⟩, .pf ⟨2*1+1≤(Ao s_).length,Nat.le_of_ble_eq_true rfl⟩, .pf ⟨((Ao s_).drop (2*1)).take 1=[(XC s_)].map .d,rfl⟩]<| .rg {an:=[(4, .take 12)],fr:=[(2,15)]} [.e (280), .pf ⟨(0:Int)≤(80:Int)∧(80:Int)<(280:Nat),(by decide)⟩, .e (200)]<| .im (.uh 12 (some (.arr 115 1 280 (Az (Xq s_) 80 (ay ai s_.badLink) (Nat.min s_.badLink.length 200)))) (some (.arr 115 1 280 (XB s_))) (rP (MN 280 (Ve s_) 80 s_.badLink (Nat.min s_.badLink.length 200))))<| .r<| .im (.dp [2,3,20,21])<| .r<| .t<| .rg {an:=[(1, .vals [(Xm s_)])]} [.pf ⟨(0:Int)≤3∧(3:Int)<(7:Nat),(by decide)⟩, .pf ⟨3*1+1≤(Ao s_).length,Nat.le_of_ble_eq_true rfl⟩, .pf ⟨((Ao s_).drop (3*1)).take 1=[(Xm s_)].map .d,rfl⟩]<| .rg {an:=[(4, .take 12)],fr:=[(2,16)]} [.e (280), .pf ⟨(0:Int)≤(120:Int)∧(120:Int)<(280:Nat),(by decide)⟩, .e (160)]<| .im (.uh 12 (some (.arr 115 1 280 (Az (XB s_) 120 (ay ai s_.on_) (Nat.min s_.on_.length 160)))) (some (.arr 115 1 280 (Wd s_))) (rP (MN 280 (Vk s_) 120 s_.on_ (Nat.min s_.on_.length 160))))<| .r<| .im (.dp [2,3,20,21])<| .r<| .t<| .rg {an:=[(1, .vals [(YA s_)])]} [.pf ⟨(0:Int)≤4∧(4:Int)<(7:Nat),(by decide)⟩, .pf ⟨4*1+1≤(Ao s_).length,Nat.le_of_ble_eq_true rfl⟩, .pf ⟨((Ao s_).drop (4*1)).take 1=[(YA s_)].map .d,rfl⟩]<| .rg {an:=[(4, .take 12)],fr:=[(2,17)]} [.e (280), .pf ⟨(0:Int)≤(160:Int)∧(160:Int)<(280:Nat),(by decide)⟩, .e (120)]<| .im (.uh 12 (some (.arr 115 1 280 (Az (Wd s_) 160 (ay ai s_.badSource) (Nat.min s_.badSource.length 120)))) (some (.arr 115 1 280 (Xp s_))) (rP (MN 280 (Uw s_) 160 s_.badSource (Nat.min s_.badSource.length 120))))<| .r<| .im (.dp [2,3,20,21])<| .r<| .t<| .rg {an:=[(1, .vals [(Yi s_)])]} [.pf ⟨(0:Int)≤5∧(5:Int)<(7:Nat),(by decide)⟩, .pf ⟨5*1+1≤(Ao s_).length,Nat.le_of_ble_eq_true rfl⟩, .pf ⟨((Ao s_).drop (5*1)).take 1=[(Yi s_)].map .d,rfl⟩]<| .rg {an:=[(4, .take 12)],fr:=[(2,18)]} [.e (280), .pf ⟨(0:Int)≤(200:Int)∧(200:Int)<(280:Nat),(by decide)⟩, .e (80)]<| .im (.uh 12 (some (.arr 115 1 280 (Az (Xp s_) 200 (ay ai s_.earthed) (Nat.min s_.earthed.length 80)))) (some (.arr 115 1 280 (XM s_))) (rP (MN 280 (U3 s_) 200 s_.earthed (Nat.min s_.earthed.length 80))))<| .r<| .im (.dp [2,3,20,21])<| .r<| .t<| .rg {an:=[(1, .vals [(YN s_)])]} [.pf ⟨(0:Int)≤6∧(6:Int)<(7:Nat),(by decide)⟩, .pf ⟨6*1+1≤(Ao s_).length,Nat.le_of_ble_eq_true rfl⟩, .pf ⟨((Ao s_).drop (6*1)).take 1=[(YN s_)].map .d,rfl⟩]<| .rg {an:=[(4, .take 12)],fr:=[(2,19)]} [.e (280), .pf ⟨(0:Int)≤(240:Int)∧(240:Int)<(280:Nat),(by decide)⟩, .e (40)]<| .im (.uh 12 (some (.arr 115 1 280 (Az (XM s_) 240 (ay ai s_.badBus) (Nat.min s_.badBus.length 40)))) (some (.arr 115 1 280 (ay ai (Yk s_)))) (rP (MN 280 (VB s_) 240 s_.badBus (Nat.min s_.badBus.length 40))))<| .r<| .im (.dp [2,3,20,21])<| .r<| .f<| .rg {fz:=[11]} [.pf ⟨0+280≤280,(by decide)⟩, .pf ⟨1≤280,(by decide)⟩]<| .e (Yk s_))
theorem uK (s_:(List Bool)) (u0:Bool):eP Tryz.prog 91 [(sD (bB (some u0) 1 ai s_))] [] (fun r=>(vD (bB none 1 ai r))) (fun _=>[]) (pE s_ u0):=
  fD tT mX Tryz.func91 (
  .r<| .r<| .it (.r<| .e ([]:List Bool))
  (.a2 ((([]:List Bool).length+s_.length)*1≤140737488355328) (([]:List Bool).length+s_.length≤4611686018427387904)<| .rg {an:=[(0, .arr ([]:List Bool).length (ay ai ([]:List Bool))),(2, .arr (([]:List Bool)++s_).length (ay ai (([]:List Bool)++s_)))],fr:=[(0,2),(2,3)],fz:=[3]} [.pf ⟨([]:List Bool).length=0,rfl⟩, .pf ⟨aT 0 1 (vU 1 []) (ay ai ([]:List Bool)),(fun i hi=>absurd hi (Nat.not_lt_zero i))⟩, .e (([]:List Bool).length),0,1, .pf ⟨(([]:List Bool)++s_).length=([]:List Bool).length+s_.length,List.length_append⟩, .pf ⟨aT (([]:List Bool).length+s_.length) 1 (uT (ay ai ([]:List Bool)) ([]:List Bool).length (ay ai s_)) (ay ai (([]:List Bool)++s_)),kK _ _ _ _⟩]<| .e (([]:List Bool)++s_)))
theorem eu (s:(List Bool)) {r:(List Bool)} (h:au s=some r):Fn Tryz.prog 91 [(sD (bB none 1 ai s))] [] (vD (bB none 1 ai r)) []:=by
 refine Fn.nn (uK s true h) fun hl=> ?_
 have hs:s=[]:=List.eq_nil_of_length_eq_zero hl
 subst hs
 exact uK [] false (by rw [←h];kernel_rfl)
theorem uM (s_:State):eP Tryz.prog 53 (UD s_) [] (fun r=>(.v (.agg [(.d (bB none 1 ai r.closed)),(.d (bB none 1 ai r.locked)),(.d (bB none 1 ai r.badLink)),(.d (bB none 1 ai r.on_)),(.d (bB none 1 ai r.badSource)),(.d (bB none 1 ai r.earthed)),(.d (bB none 1 ai r.badBus))]))) (fun _=>[]) (jI s_):=
  fD tT mX Tryz.func53 (
  .rg {fr:=[(0,3),(1,4)]} []<| .rg {an:=[(7, .cells)],fr:=[(7,5)]} []<| .ul 11<| .r<| .t<| .a1 ((0:Int)≤0∧0<(7:Int))<| .r<| .cl 4 ⟨fun h=>eu s_.closed h⟩ fun r_=> .r<| .r<| .im (.dp [1,2,12,13,14])<| .r<| .t<| .a1 ((0:Int)≤1∧1<(7:Int))<| .r<| .cl 4 ⟨fun h=>eu s_.locked h⟩ fun u0=> .r<| .r<| .im (.dp [1,2,12,13,14])<| .r<| .t<| .a1 ((0:Int)≤2∧2<(7:Int))<| .r<| .cl 4 ⟨fun h=>eu s_.badLink h⟩ fun u1=> .r<| .r<| .im (.dp [1,2,12,13,14])<| .r<| .t<| .a1 ((0:Int)≤3∧3<(7:Int))<| .r<| .cl 4 ⟨fun h=>eu s_.on_ h⟩ fun u2=> .r<| .r<| .im (.dp [1,2,12,13,14])<| .r<| .t<| .a1 ((0:Int)≤4∧4<(7:Int))<| .r<| .cl 4 ⟨fun h=>eu s_.badSource h⟩ fun u3=> .r<| .r<| .im (.dp [1,2,12,13,14])<| .r<| .t<| .a1 ((0:Int)≤5∧5<(7:Int))<| .r<| .cl 4 ⟨fun h=>eu s_.earthed h⟩ fun u4=> .r<| .r<| .im (.dp [1,2,12,13,14])<| .r<| .t<| .a1 ((0:Int)≤6∧6<(7:Int))<| .r<| .cl 4 ⟨fun h=>eu s_.badBus h⟩ fun u5=> .r<| .r<| .im (.dp [1,2,12,13,14])<| .r<| .f<| .rg {fz:=[4]} []<| .e (pJ r_ u0 u1 u2 u3 u4 u5))
end
end Sg
