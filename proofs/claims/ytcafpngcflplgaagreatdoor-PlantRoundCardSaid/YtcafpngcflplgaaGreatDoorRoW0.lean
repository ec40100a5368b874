import Derived.Test.YtcafpngcflplgaaGreatDoorRoGm
import Derived.Test.YtcafpngcflplgaaGreatDoorProg
import Derived.Test.YtcafpngcflplgaaGreatDoorRoLg
set_option linter.all false
namespace Sg
open Go Go.Proofs
set_option maxRecDepth 20000
noncomputable section
noncomputable def TT:List (Nat × TI):=[(3,⟨Tryz.t3.desc,Tryz.t3.size,Tryz.t3.bytes,zl Tryz.t3,false⟩),
  (4,⟨Tryz.t4.desc,Tryz.t4.size,Tryz.t4.bytes,zl Tryz.t4,false⟩),
  (5,⟨Tryz.t5.desc,Tryz.t5.size,Tryz.t5.bytes,zl Tryz.t5,false⟩),
  (9,⟨Tryz.t9.desc,Tryz.t9.size,Tryz.t9.bytes,zl Tryz.t9,false⟩),
  (22,⟨Tryz.t22.desc,Tryz.t22.size,Tryz.t22.bytes,zl Tryz.t22,false⟩),
  (23,⟨Tryz.t23.desc,Tryz.t23.size,Tryz.t23.bytes,zl Tryz.t23,false⟩),
  (24,⟨Tryz.t24.desc,Tryz.t24.size,Tryz.t24.bytes,zl Tryz.t24,false⟩),
  (25,⟨Tryz.t25.desc,Tryz.t25.size,Tryz.t25.bytes,zl Tryz.t25,false⟩),
  (27,⟨Tryz.t26.desc,Tryz.t27.size,Tryz.t27.bytes,zl Tryz.t27,false⟩),
  (31,⟨Tryz.t3.desc,Tryz.t31.size,Tryz.t31.bytes,zl Tryz.t31,false⟩),
  (33,⟨Tryz.t33.desc,Tryz.t33.size,Tryz.t33.bytes,zl Tryz.t33,false⟩),
  (35,⟨Tryz.t34.desc,Tryz.t35.size,Tryz.t35.bytes,zl Tryz.t35,false⟩),
  (40,⟨Tryz.t40.desc,Tryz.t40.size,Tryz.t40.bytes,zl Tryz.t40,false⟩),
  (43,⟨Tryz.t43.desc,Tryz.t43.size,Tryz.t43.bytes,zl Tryz.t43,false⟩),
  (46,⟨Tryz.t46.desc,Tryz.t46.size,Tryz.t46.bytes,zl Tryz.t46,false⟩),
  (53,⟨Tryz.t53.desc,Tryz.t53.size,Tryz.t53.bytes,zl Tryz.t53,false⟩),
  (57,⟨Tryz.t57.desc,Tryz.t57.size,Tryz.t57.bytes,zl Tryz.t57,false⟩),
  (65,⟨Tryz.t3.desc,Tryz.t65.size,Tryz.t65.bytes,zl Tryz.t65,false⟩),
  (67,⟨Tryz.t66.desc,Tryz.t67.size,Tryz.t67.bytes,zl Tryz.t67,true⟩),
  (68,⟨Tryz.t3.desc,Tryz.t68.size,Tryz.t68.bytes,zl Tryz.t68,false⟩),
  (70,⟨Tryz.t69.desc,Tryz.t70.size,Tryz.t70.bytes,zl Tryz.t70,true⟩),
  (71,⟨Tryz.t71.desc,Tryz.t71.size,Tryz.t71.bytes,zl Tryz.t71,false⟩),
  (73,⟨Tryz.t72.desc,Tryz.t73.size,Tryz.t73.bytes,zl Tryz.t73,false⟩),
  (74,⟨Tryz.t74.desc,Tryz.t74.size,Tryz.t74.bytes,zl Tryz.t74,true⟩),
  (76,⟨Tryz.t75.desc,Tryz.t76.size,Tryz.t76.bytes,zl Tryz.t76,true⟩),
  (79,⟨Tryz.t79.desc,Tryz.t79.size,Tryz.t79.bytes,zl Tryz.t79,false⟩),
  (82,⟨Tryz.t82.desc,Tryz.t82.size,Tryz.t82.bytes,zl Tryz.t82,false⟩),
  (85,⟨Tryz.t85.desc,Tryz.t85.size,Tryz.t85.bytes,zl Tryz.t85,false⟩),
  (92,⟨Tryz.t91.desc,Tryz.t92.size,Tryz.t92.bytes,zl Tryz.t92,false⟩),
  (94,⟨Tryz.t91.desc,Tryz.t94.size,Tryz.t94.bytes,zl Tryz.t94,false⟩),
  (109,⟨Tryz.t109.desc,Tryz.t109.size,Tryz.t109.bytes,zl Tryz.t109,false⟩),
  (112,⟨Tryz.t112.desc,Tryz.t112.size,Tryz.t112.bytes,zl Tryz.t112,true⟩),
  (114,⟨Tryz.t3.desc,Tryz.t114.size,Tryz.t114.bytes,zl Tryz.t114,false⟩),
  (116,⟨Tryz.t115.desc,Tryz.t116.size,Tryz.t116.bytes,zl Tryz.t116,true⟩),
  (128,⟨Tryz.t128.desc,Tryz.t128.size,Tryz.t128.bytes,zl Tryz.t128,false⟩),
  (131,⟨Tryz.t131.desc,Tryz.t131.size,Tryz.t131.bytes,zl Tryz.t131,false⟩),
  (137,⟨Tryz.t137.desc,Tryz.t137.size,Tryz.t137.bytes,zl Tryz.t137,false⟩),
  (140,⟨Tryz.t140.desc,Tryz.t140.size,Tryz.t140.bytes,zl Tryz.t140,false⟩),
  (141,⟨Tryz.t141.desc,Tryz.t141.size,Tryz.t141.bytes,zl Tryz.t141,false⟩),
  (153,⟨Tryz.t153.desc,Tryz.t153.size,Tryz.t153.bytes,zl Tryz.t153,false⟩),
  (154,⟨Tryz.t154.desc,Tryz.t154.size,Tryz.t154.bytes,zl Tryz.t154,false⟩),
  (155,⟨Tryz.t155.desc,Tryz.t155.size,Tryz.t155.bytes,zl Tryz.t155,false⟩),
  (157,⟨Tryz.t156.desc,Tryz.t157.size,Tryz.t157.bytes,zl Tryz.t157,false⟩),
  (166,⟨Tryz.t166.desc,Tryz.t166.size,Tryz.t166.bytes,zl Tryz.t166,false⟩),
  (196,⟨Tryz.t196.desc,Tryz.t196.size,Tryz.t196.bytes,zl Tryz.t196,false⟩),
  (198,⟨Tryz.t198.desc,Tryz.t198.size,Tryz.t198.bytes,zl Tryz.t198,false⟩),
  (200,⟨Tryz.t200.desc,Tryz.t200.size,Tryz.t200.bytes,zl Tryz.t200,false⟩),
  (207,⟨Tryz.t207.desc,Tryz.t207.size,Tryz.t207.bytes,zl Tryz.t207,false⟩),
  (222,⟨Tryz.t222.desc,Tryz.t222.size,Tryz.t222.bytes,zl Tryz.t222,false⟩),
  (237,⟨Tryz.t237.desc,Tryz.t237.size,Tryz.t237.bytes,zl Tryz.t237,true⟩)]
theorem tT:jR Tryz.prog TT:=⟨eZ (by kernel_rfl) (by kernel_rfl) (by kernel_rfl),⟨gT,bZ (by kernel_rfl)⟩,eZ (by kernel_rfl) (by kernel_rfl) (by kernel_rfl),⟨gT,bZ (by kernel_rfl)⟩,eZ (by kernel_rfl) (by kernel_rfl) (by kernel_rfl),⟨gT,bZ (by kernel_rfl)⟩,eZ (by kernel_rfl) (by kernel_rfl) (by kernel_rfl),⟨gT,bZ (by kernel_rfl)⟩,eZ (by kernel_rfl) (by kernel_rfl) (by kernel_rfl),⟨gT,bZ (by kernel_rfl)⟩,eZ (by kernel_rfl) (by kernel_rfl) (by kernel_rfl),⟨gT,bZ (by kernel_rfl)⟩,eZ (by kernel_rfl) (by kernel_rfl) (by kernel_rfl),⟨gT,bZ (by kernel_rfl)⟩,eZ (by kernel_rfl) (by kernel_rfl) (by kernel_rfl),⟨gT,bZ (by kernel_rfl)⟩,eZ (by kernel_rfl) (by kernel_rfl) (by kernel_rfl),⟨gT,bZ (by kernel_rfl)⟩,eZ (by kernel_rfl) (by kernel_rfl) (by kernel_rfl),⟨gT,bZ (by kernel_rfl)⟩,eZ (by kernel_rfl) (by kernel_rfl) (by kernel_rfl),⟨gT,bZ (by kernel_rfl)⟩,eZ (by kernel_rfl) (by kernel_rfl) (by kernel_rfl),⟨gT,bZ (by kernel_rfl)⟩,eZ (by kernel_rfl) (by kernel_rfl) (by kernel_rfl),⟨gT,bZ (by kernel_rfl)⟩,eZ (by kernel_rfl) (by kernel_rfl) (by kernel_rfl),⟨gT,bZ (by kernel_rfl)⟩,eZ (by kernel_rfl) (by kernel_rfl) (by kernel_rfl),⟨gT,bZ (by kernel_rfl)⟩,eZ (by kernel_rfl) (by kernel_rfl) (by kernel_rfl),⟨gT,bZ (by kernel_rfl)⟩,eZ (by kernel_rfl) (by kernel_rfl) (by kernel_rfl),⟨gT,bZ (by kernel_rfl)⟩,eZ (by kernel_rfl) (by kernel_rfl) (by kernel_rfl),⟨gT,bZ (by kernel_rfl)⟩,eZ (by kernel_rfl) (by kernel_rfl) (by kernel_rfl),⟨fun _=> ⟨by kernel_rfl,by kernel_rfl⟩,bZ (by kernel_rfl)⟩,eZ (by kernel_rfl) (by kernel_rfl) (by kernel_rfl),⟨gT,bZ (by kernel_rfl)⟩,eZ (by kernel_rfl) (by kernel_rfl) (by kernel_rfl),⟨fun _=> ⟨by kernel_rfl,by kernel_rfl⟩,bZ (by kernel_rfl)⟩,eZ (by kernel_rfl) (by kernel_rfl) (by kernel_rfl),⟨gT,bZ (by kernel_rfl)⟩,eZ (by kernel_rfl) (by kernel_rfl) (by kernel_rfl),⟨gT,bZ (by kernel_rfl)⟩,eZ (by kernel_rfl) (by kernel_rfl) (by kernel_rfl),⟨fun _=> ⟨by kernel_rfl,by kernel_rfl⟩,bZ (by kernel_rfl)⟩,eZ (by kernel_rfl) (by kernel_rfl) (by kernel_rfl),⟨fun _=> ⟨by kernel_rfl,by kernel_rfl⟩,bZ (by kernel_rfl)⟩,eZ (by kernel_rfl) (by kernel_rfl) (by kernel_rfl),⟨gT,bZ (by kernel_rfl)⟩,eZ (by kernel_rfl) (by kernel_rfl) (by kernel_rfl),⟨gT,bZ (by kernel_rfl)⟩,eZ (by kernel_rfl) (by kernel_rfl) (by kernel_rfl),⟨gT,bZ (by kernel_rfl)⟩,eZ (by kernel_rfl) (by kernel_rfl) (by kernel_rfl),⟨gT,bZ (by kernel_rfl)⟩,eZ (by kernel_rfl) (by kernel_rfl) (by kernel_rfl),⟨gT,bZ (by kernel_rfl)⟩,eZ (by kernel_rfl) (by kernel_rfl) (by kernel_rfl),⟨gT,bZ (by kernel_rfl)⟩,eZ (by kernel_rfl) (by kernel_rfl) (by kernel_rfl),⟨fun _=> ⟨by kernel_rfl,by kernel_rfl⟩,bZ (by kernel_rfl)⟩,eZ (by kernel_rfl) (by kernel_rfl) (by kernel_rfl),⟨gT,bZ (by kernel_rfl)⟩,eZ (by kernel_rfl) (by kernel_rfl) (by kernel_rfl),⟨fun _=> ⟨by kernel_rfl,by kernel_rfl⟩,bZ (by kernel_rfl)⟩,eZ (by kernel_rfl) (by kernel_rfl) (by kernel_rfl),⟨gT,bZ (by kernel_rfl)⟩,eZ (by kernel_rfl) (by kernel_rfl) (by kernel_rfl),⟨gT,bZ (by kernel_rfl)⟩,eZ (by kernel_rfl) (by kernel_rfl) (by kernel_rfl),⟨gT,bZ (by kernel_rfl)⟩,eZ (by kernel_rfl) (by kernel_rfl) (by kernel_rfl),⟨gT,bZ (by kernel_rfl)⟩,eZ (by kernel_rfl) (by kernel_rfl) (by kernel_rfl),⟨gT,bZ (by kernel_rfl)⟩,eZ (by kernel_rfl) (by kernel_rfl) (by kernel_rfl),⟨gT,bZ (by kernel_rfl)⟩,eZ (by kernel_rfl) (by kernel_rfl) (by kernel_rfl),⟨gT,bZ (by kernel_rfl)⟩,eZ (by kernel_rfl) (by kernel_rfl) (by kernel_rfl),⟨gT,bZ (by kernel_rfl)⟩,eZ (by kernel_rfl) (by kernel_rfl) (by kernel_rfl),⟨gT,bZ (by kernel_rfl)⟩,eZ (by kernel_rfl) (by kernel_rfl) (by kernel_rfl),⟨gT,bZ (by kernel_rfl)⟩,eZ (by kernel_rfl) (by kernel_rfl) (by kernel_rfl),⟨gT,bZ (by kernel_rfl)⟩,eZ (by kernel_rfl) (by kernel_rfl) (by kernel_rfl),⟨gT,bZ (by kernel_rfl)⟩,eZ (by kernel_rfl) (by kernel_rfl) (by kernel_rfl),⟨gT,bZ (by kernel_rfl)⟩,eZ (by kernel_rfl) (by kernel_rfl) (by kernel_rfl),⟨gT,bZ (by kernel_rfl)⟩,eZ (by kernel_rfl) (by kernel_rfl) (by kernel_rfl),⟨gT,bZ (by kernel_rfl)⟩,eZ (by kernel_rfl) (by kernel_rfl) (by kernel_rfl),⟨fun _=> ⟨by kernel_rfl,by kernel_rfl⟩,bZ (by kernel_rfl)⟩,trivial⟩
theorem mX:Tryz.prog.follows .mixedOrders=true:=by kernel_rfl
def GR:Go.Shelf.Ren:=⟨fun|6=>42|14=>89|15=>90|20=>111|21=>112|22=>113|23=>114|24=>115|25=>116|26=>117|27=>118|28=>119|29=>120|46=>134|47=>135|48=>136|49=>137|50=>138|57=>153|n=>n,fun|0=>0|3=>3|4=>4|5=>5|9=>9|22=>46|24=>74|25=>97|39=>166|45=>189|46=>190|50=>163|53=>196|55=>198|66=>213|70=>217|76=>231|77=>232|n=>n,fun n=>n⟩
theorem OX:Go.Proofs.SlLaysF0.n6 Tryz.prog GR:=⟨by kernel_rfl,⟨Tryz.f42.name,by kernel_rfl,Tryz.func42.trans (congrArg some (by kernel_rfl))⟩,⟨Tryz.f89.name,by kernel_rfl,Tryz.func89.trans (congrArg some (by kernel_rfl))⟩,Tryz.func90.trans (congrArg some (by kernel_rfl)),⟨Tryz.f111.name,by kernel_rfl,Tryz.func111.trans (congrArg some (by kernel_rfl))⟩,⟨Tryz.f112.name,by kernel_rfl,Tryz.func112.trans (congrArg some (by kernel_rfl))⟩,⟨Tryz.f113.name,by kernel_rfl,Tryz.func113.trans (congrArg some (by kernel_rfl))⟩,⟨Tryz.f114.name,by kernel_rfl,Tryz.func114.trans (congrArg some (by kernel_rfl))⟩,⟨Tryz.f115.name,by kernel_rfl,Tryz.func115.trans (congrArg some (by kernel_rfl))⟩,⟨Tryz.f116.name,by kernel_rfl,Tryz.func116.trans (congrArg some (by kernel_rfl))⟩,⟨Tryz.f117.name,by kernel_rfl,Tryz.func117.trans (congrArg some (by kernel_rfl))⟩,⟨Tryz.f118.name,by kernel_rfl,Tryz.func118.trans (congrArg some (by kernel_rfl))⟩,Tryz.func119.trans (congrArg some (by kernel_rfl)),Tryz.func120.trans (congrArg some (by kernel_rfl)),⟨Tryz.f134.name,by kernel_rfl,Tryz.func134.trans (congrArg some (by kernel_rfl))⟩,Tryz.func135.trans (congrArg some (by kernel_rfl)),Tryz.func136.trans (congrArg some (by kernel_rfl)),⟨Tryz.f137.name,by kernel_rfl,Tryz.func137.trans (congrArg some (by kernel_rfl))⟩,⟨Tryz.f138.name,by kernel_rfl,Tryz.func138.trans (congrArg some (by kernel_rfl))⟩,⟨Tryz.f153.name,by kernel_rfl,Tryz.func153.trans (congrArg some (by kernel_rfl))⟩,Tryz.underlying0,Tryz.isAgg0,Tryz.sizeOf0,Tryz.zeroValue0,Tryz.underlying3,Tryz.isAgg3,Tryz.sizeOf3,Tryz.zeroValue3,Tryz.underlying4,Tryz.isAgg4,Tryz.sizeOf4,Tryz.zeroValue4,Tryz.underlying5,Tryz.isAgg5,Tryz.sizeOf5,Tryz.zeroValue5,Tryz.underlying9,Tryz.isAgg9,Tryz.sizeOf9,Tryz.zeroValue9,Tryz.underlying46,Tryz.isAgg46,Tryz.sizeOf46,Tryz.zeroValue46,Tryz.underlying97,Tryz.isAgg97,Tryz.sizeOf97,Tryz.zeroValue97,Tryz.underlying166,Tryz.isAgg166,Tryz.sizeOf166,Tryz.zeroValue166,Tryz.underlying189,Tryz.isAgg189,Tryz.sizeOf189,Tryz.zeroValue189,Tryz.underlying190,Tryz.isAgg190,Tryz.sizeOf190,Tryz.zeroValue190,Tryz.underlying163,Tryz.isAgg163,Tryz.sizeOf163,Tryz.zeroValue163,Tryz.underlying196,Tryz.isAgg196,Tryz.sizeOf196,Tryz.zeroValue196,Tryz.underlying198,Tryz.isAgg198,Tryz.sizeOf198,Tryz.zeroValue198,Tryz.underlying213,Tryz.isAgg213,Tryz.sizeOf213,Tryz.zeroValue213,Tryz.underlying217,Tryz.isAgg217,Tryz.sizeOf217,Tryz.zeroValue217,Tryz.underlying231,Tryz.isAgg231,Tryz.sizeOf231,Tryz.zeroValue231,Tryz.underlying232,Tryz.isAgg232,Tryz.sizeOf232,Tryz.zeroValue232⟩
theorem Sm (w:World):(isAgg (GR.t 24)).run Tryz.prog w= .ok true w:=Tryz.isAgg74 w
theorem Ps (w:World):(Go.sizeOf (GR.t 24)).run Tryz.prog w= .ok 2 w:=Tryz.sizeOf74 w
theorem aI (n:Int) (u0:Int) (u1:Int):iA Tryz.prog 29 [(sI n),(sI u0),(sI u1)] [] (fun r=>(vB r)) (fun _=>[]) (aL n u0 u1):=
  jM tT mX Tryz.func29 (
  .r<| .r<| .e (bif (decide (u0≤n))then(decide (n≤u1))else false))
section
variable (p:au)
abbrev k1:List CV:=[(cI p.buses),(.d (bK none 5 Source.cell p.sources)),(.d (bK none 6 Link.cell p.links)),(.d (bK none 4 aG.cell p.racks))]
abbrev k0:List SV:=[(.agg (k1 p))]
end
theorem yR (p:au):iA Tryz.prog 31 (k0 p) [] (fun r=>(vD (.fn 77 1 (xC [(Oa [(.int .i64 r.1),(bK none 5 Source.cell r.2.1),(bK none 6 Link.cell r.2.2.1),(bK none 4 aG.cell r.2.2.2)] 0)])))) (fun _=>[]) (oO p):=
  jM tT mX Tryz.func31 (
  .rg {fr:=[(0,1)],fz:=[1]} []<| .r<| .e (p.buses,p.sources,p.links,p.racks))
theorem Br (p:au):iA Tryz.prog 33 (k0 p) [] (fun r=>(vD (.fn 80 1 (xC [(Oa [(.int .i64 r.1),(bK none 5 Source.cell r.2.1),(bK none 6 Link.cell r.2.2.1),(bK none 4 aG.cell r.2.2.2)] 0)])))) (fun _=>[]) (qQ p):=
  jM tT mX Tryz.func33 (
  .rg {fr:=[(0,1)],fz:=[1]} []<| .r<| .e (p.buses,p.sources,p.links,p.racks))
theorem Bh (p:au):iA Tryz.prog 35 (k0 p) [] (fun r=>(vD (.fn 83 1 (xC [(Oa [(.int .i64 r.1),(bK none 5 Source.cell r.2.1),(bK none 6 Link.cell r.2.2.1),(bK none 4 aG.cell r.2.2.2)] 0)])))) (fun _=>[]) (qX p):=
  jM tT mX Tryz.func35 (
  .rg {fr:=[(0,1)],fz:=[1]} []<| .r<| .e (p.buses,p.sources,p.links,p.racks))
section
variable (x1:Int) (u2:(List Source)) (u3:(List Link)) (u4:(List aG)) (r_:Bool) (u0:Bool) (u1:Bool) (u5:Bool) (u6:Bool)
abbrev k2:DV:=(Oa [(.int .i64 x1),(bK none 5 Source.cell u2),(bK none 6 Link.cell u3),(bK none 4 aG.cell u4)] 0)
abbrev k3:=(IntKind.wrap .i64 (x1 - 1))
abbrev k4:=(bif (bif (bif (bif r_ then u0 else false)then u1 else false)then u5 else false)then u6 else false)
end
theorem vG (x:Source) (x1:Int) (u2:(List Source)) (u3:(List Link)) (u4:(List aG)):iA Tryz.prog 77 [(.agg [(cI x.bus),(cI x.kind),(cI x.power),(cI x.sync),(cI x.ohm)]),(sD (k2 x1 u2 u3 u4))] [] (fun r=>(vB r)) (fun _=>[]) (jI x x1 u2 u3 u4):=
  jM tT mX Tryz.func77 (
  .rg {fr:=[(0,1)],fz:=[1]} []<| .cl 5 (aI x.bus 0 (k3 x1)) fun r_=> .cg 9 [(r_,true)] (aI x.kind 1 3) fun u0=> .cg 14 [((bif r_ then u0 else false),true)] (aI x.power 1 100000) fun u1=> .cg 19 [((bif (bif r_ then u0 else false)then u1 else false),true)] (aI x.sync 0 8) fun u5=> .cg 24 [((bif (bif (bif r_ then u0 else false)then u1 else false)then u5 else false),true)] (aI x.ohm 10 100000) fun u6=> .r<| .e (k4 r_ u0 u1 u5 u6))
section
variable (x1:Int) (u0:(List Source)) (u1:(List Link)) (u2:(List aG))
abbrev k6:=(xC [(k2 x1 u0 u1 u2)])
abbrev k5:DV:=(Oa [(.fn 77 1 (k6 x1 u0 u1 u2))] 0)
end
theorem yj (x:Source) (x1:Int) (u0:(List Source)) (u1:(List Link)) (u2:(List aG)):iA Tryz.prog 76 [(.agg [(cI x.bus),(cI x.kind),(cI x.power),(cI x.sync),(cI x.ohm)]),(sD (k5 x1 u0 u1 u2))] [] (fun r=>(vB r)) (fun _=>[]) (oH x x1 u0 u1 u2):=
  jM tT mX Tryz.func76 (
  .rg {fr:=[(0,1)],fz:=[1]} []<| .cl 2 (vG x x1 u0 u1 u2) fun r_=> .r<| .e (!r_))
section
variable (s_:(List Source)) (f_:Int) (u0:(List Source)) (u1:(List Link)) (u2:(List aG)) (t8:Int)
abbrev k7:List SV:=[(sD (bK none 5 Source.cell s_)),(sD (.fn 76 1 (xC [(k5 f_ u0 u1 u2)])))]
abbrev k8:=(IntKind.wrap .i64 (t8+1))
end
theorem sM (s_:(List Source)) (f_:Int) (u0:(List Source)) (u1:(List Link)) (u2:(List aG)):iA Tryz.prog 107 (k7 s_ f_ u0 u1 u2) [] (fun r=>(vI r)) (fun _=>[]) (kG s_ f_ u0 u1 u2):=
  jM tT mX Tryz.func107 (
  .r<| .r<| .lp (σ:=Int) (β:=Unit) (0) [] [] ⟨[0,1,7],[],fun t8=>[(8,(vI t8))],fun t8=>[]⟩ ⟨[],[],fun _=>[],fun _=>[]⟩
  (fun t8=> .r<| .it (.r<| .cl 5 (yj (at' s_ t8.toNat) f_ u0 u1 u2) fun r_=> .a1 ((0:Int)≤t8∧t8<(s_.length:Int))<| .rg {} [0,1]<| .it (.r<| .e (.done (.ret t8)))
  (.r<| .e (.next (k8 t8))))
  (.e (.done (.brk ()))))
  (fun _=> .r<| .e (-1)))
theorem qc (s_:(List Source)) (f_:Int) (u0:(List Source)) (u1:(List Link)) (u2:(List aG)):iA Tryz.prog 75 (k7 s_ f_ u0 u1 u2) [] (fun r=>(vB r)) (fun _=>[]) (fU s_ f_ u0 u1 u2):=
  jM tT mX Tryz.func75 (
  .r<| .cl 2 (sM s_ f_ u0 u1 u2) fun r_=> .r<| .e (decide (0≤r_)))
theorem Bd (l:(List Source)) (u0:Int) (u1:Int) (u2:(List Source)) (u3:(List Link)) (u4:(List aG)):iA Tryz.prog 30 [(sD (bK none 5 Source.cell l)),(sI u0),(sD (.fn 77 1 (k6 u1 u2 u3 u4)))] [] (fun r=>(vB r)) (fun _=>[]) (nC l u0 u1 u2 u3 u4):=
  jM tT mX Tryz.func30 (
  .rg {fr:=[(0,1)],fz:=[1]} []<| .cg 7 [((decide ((l.length:Int)≤u0)),true)] (qc l u1 u2 u3 u4) fun r_=> .r<| .e (bif (decide ((l.length:Int)≤u0))then(!r_)else false))
section
variable (x:Link)
abbrev k9:List CV:=[(cI x.a),(cI x.b),(cI x.kind),(cI x.most),(cI x.ohm),(.d (bK none 2 aW.cell x.trip))]
end
theorem zO (x:Link) (x1:Int) (u3:(List Source)) (u4:(List Link)) (u5:(List aG)):iA Tryz.prog 80 [(.agg (k9 x)),(sD (k2 x1 u3 u4 u5))] [] (fun r=>(vB r)) (fun _=>[]) (kU x x1 u3 u4 u5):=
  jM tT mX Tryz.func80 (
  .rg {fr:=[(0,5)]} []<| .cl 5 (aI x.a 0 (k3 x1)) fun r_=> .cg 13 [((!r_),false)] (aI x.b 0 (k3 x1)) fun u1=> .cg 26 [((bif (bif (!r_)then true else(!u1))then true else(decide (x.a=x.b))),false)] (aI x.kind 1 3) fun u6=> .cg 32 [((bif (bif (bif (!r_)then true else(!u1))then true else(decide (x.a=x.b)))then true else(!u6)),false)] (aI x.most 1 100000) fun u8=> .cg 38 [((bif (bif (bif (bif (!r_)then true else(!u1))then true else(decide (x.a=x.b)))then true else(!u6))then true else(!u8)),false)] (aI x.ohm 10 100000) fun u9=> .r<| .it (.r<| .e false)
  (.rg {fz:=[5]} []<| .lp (σ:=Int) (β:=Unit) (0) [] [] ⟨[2,48,49],[],fun u0=>[(50,(vI u0))],fun u0=>[]⟩ ⟨[2],[],fun _=>[],fun _=>[]⟩
  (fun u0=> .r<| .it (.a1 ((0:Int)≤u0∧u0<(x.trip.length:Int))<| .rg {fr:=[(3,9)],fz:=[9]} []<| .cl 2 (aI ((at' x.trip u0.toNat).amps) 1 1000000) fun u2=> .cg 7 [((!u2),false)] (aI ((at' x.trip u0.toNat).millis) 1 100000) fun u7=> .a2 ((gB [((decide (0<u0)),true),((bif (!u2)then true else(!u7)),false)]=true→(0:Int)≤(k3 u0)∧(k3 u0)<(x.trip.length:Int))) ((gB [((decide (((at' x.trip u0.toNat).amps)≤((at' x.trip ((k3 u0).toNat)).amps))),false),((decide (0<u0)),true),((bif (!u2)then true else(!u7)),false)]=true→(0:Int)≤(k3 u0)∧(k3 u0)<(x.trip.length:Int)))<| .rg {} [3,2,0,1]<| .it (.r<| .e (.done (.ret false)))
  (.r<| .e (.next (k8 u0))))
  (.e (.done (.brk ()))))
  (fun _=> .r<| .e (bif (decide ((x.trip.length:Int)≤6))then(bif (decide ((x.trip.length:Int)=0))then true else(decide (x.kind=3)))else false))))
section
variable (x1:Int) (u0:(List Source)) (u1:(List Link)) (u2:(List aG))
abbrev k10:DV:=(Oa [(.fn 80 1 (k6 x1 u0 u1 u2))] 0)
end
theorem uV (x:Link) (x1:Int) (u0:(List Source)) (u1:(List Link)) (u2:(List aG)):iA Tryz.prog 79 [(.agg (k9 x)),(sD (k10 x1 u0 u1 u2))] [] (fun r=>(vB r)) (fun _=>[]) (lC x x1 u0 u1 u2):=
  jM tT mX Tryz.func79 (
  .rg {fr:=[(0,1)],fz:=[1]} []<| .cl 2 (zO x x1 u0 u1 u2) fun r_=> .r<| .e (!r_))
section
variable (s_:(List Link)) (f_:Int) (u0:(List Source)) (u1:(List Link)) (u2:(List aG)) (t8:Int)
abbrev k11:List SV:=[(sD (bK none 6 Link.cell s_)),(sD (.fn 79 1 (xC [(k10 f_ u0 u1 u2)])))]
abbrev k12:=((0:Int)≤t8∧t8<(s_.length:Int))
end
theorem pY (s_:(List Link)) (f_:Int) (u0:(List Source)) (u1:(List Link)) (u2:(List aG)):iA Tryz.prog 108 (k11 s_ f_ u0 u1 u2) [] (fun r=>(vI r)) (fun _=>[]) (je s_ f_ u0 u1 u2):=
  jM tT mX Tryz.func108 (
  .r<| .r<| .lp (σ:=Int) (β:=Unit) (0) [] [] ⟨[0,1,7],[],fun t8=>[(8,(vI t8))],fun t8=>[]⟩ ⟨[],[],fun _=>[],fun _=>[]⟩
  (fun t8=> .r<| .it (.r<| .cl 5 (uV (at' s_ t8.toNat) f_ u0 u1 u2) fun r_=> .a1 (k12 s_ t8)<| .rg {} [0,1]<| .it (.r<| .e (.done (.ret t8)))
  (.r<| .e (.next (k8 t8))))
  (.e (.done (.brk ()))))
  (fun _=> .r<| .e (-1)))
theorem nE (s_:(List Link)) (f_:Int) (u0:(List Source)) (u1:(List Link)) (u2:(List aG)):iA Tryz.prog 78 (k11 s_ f_ u0 u1 u2) [] (fun r=>(vB r)) (fun _=>[]) (eD s_ f_ u0 u1 u2):=
  jM tT mX Tryz.func78 (
  .r<| .cl 2 (pY s_ f_ u0 u1 u2) fun r_=> .r<| .e (decide (0≤r_)))
theorem zJ (l:(List Link)) (u0:Int) (u1:Int) (u2:(List Source)) (u3:(List Link)) (u4:(List aG)):iA Tryz.prog 32 [(sD (bK none 6 Link.cell l)),(sI u0),(sD (.fn 80 1 (k6 u1 u2 u3 u4)))] [] (fun r=>(vB r)) (fun _=>[]) (kW l u0 u1 u2 u3 u4):=
  jM tT mX Tryz.func32 (
  .rg {fr:=[(0,1)],fz:=[1]} []<| .cg 7 [((decide ((l.length:Int)≤u0)),true)] (nE l u1 u2 u3 u4) fun r_=> .r<| .e (bif (decide ((l.length:Int)≤u0))then(!r_)else false))
section
variable (x:aG)
abbrev k13:List CV:=[(cI x.feeds.e0),(cI x.feeds.e1),(cI x.power),(cI x.paths)]
end
theorem zZ (x:aG):iA Tryz.prog 84 [(.agg (k13 x))] [] (fun r=>(vI r)) (fun _=>[]) (lZ x):=
  jM tT mX Tryz.func84 (
  .rg {fr:=[(0,1)],fz:=[1]} []<| .rg {} [.pf ⟨(0:Int)≤1∧(1:Int)<(2:Nat),(by decide)⟩]<| .it (.r<| .e 1)
  (.r<| .e 2))
section
variable (r_:Bool) (u0:Bool) (x:aG) (u1:Bool)
abbrev k15:=(bif (bif (bif r_ then u0 else false)then(!decide (x.feeds.e0=x.feeds.e1))else false)then u1 else false)
abbrev k14:=((k15 r_ u0 x u1),true)
end
theorem zb (x:aG) (x1:Int) (u2:(List Source)) (u3:(List Link)) (u4:(List aG)):iA Tryz.prog 83 [(.agg (k13 x)),(sD (k2 x1 u2 u3 u4))] [] (fun r=>(vB r)) (fun _=>[]) (kY x x1 u2 u3 u4):=
  jM tT mX Tryz.func83 (
  .rg {fr:=[(0,1)],fz:=[1]} []<| .rg {} [.pf ⟨(0:Int)≤0∧(0:Int)<(2:Nat),(by decide)⟩, .pf ⟨(0:Int)≤1∧(1:Int)<(2:Nat),(by decide)⟩]<| .cl 4 (aI x.feeds.e0 0 (k3 x1)) fun r_=> .cg 10 [(r_,true)] (aI x.feeds.e1 (-1) (k3 x1)) fun u0=> .cg 20 [((bif (bif r_ then u0 else false)then(!decide (x.feeds.e0=x.feeds.e1))else false),true)] (aI x.power 1 100000) fun u1=> .cg 26 [(k14 r_ u0 x u1)] (zZ x) fun u5=> .cg 27 [(k14 r_ u0 x u1)] (aI x.paths 0 u5) fun u6=> .r<| .e (bif (k15 r_ u0 x u1)then u6 else false))
section
variable (x1:Int) (u0:(List Source)) (u1:(List Link)) (u2:(List aG))
abbrev k16:DV:=(Oa [(.fn 83 1 (k6 x1 u0 u1 u2))] 0)
end
theorem tO (x:aG) (x1:Int) (u0:(List Source)) (u1:(List Link)) (u2:(List aG)):iA Tryz.prog 82 [(.agg (k13 x)),(sD (k16 x1 u0 u1 u2))] [] (fun r=>(vB r)) (fun _=>[]) (lm x x1 u0 u1 u2):=
  jM tT mX Tryz.func82 (
  .rg {fr:=[(0,1)],fz:=[1]} []<| .cl 2 (zb x x1 u0 u1 u2) fun r_=> .r<| .e (!r_))
section
variable (s_:(List aG)) (f_:Int) (u0:(List Source)) (u1:(List Link)) (u2:(List aG))
abbrev k17:List SV:=[(sD (bK none 4 aG.cell s_)),(sD (.fn 82 1 (xC [(k16 f_ u0 u1 u2)])))]
end
theorem p9 (s_:(List aG)) (f_:Int) (u0:(List Source)) (u1:(List Link)) (u2:(List aG)):iA Tryz.prog 109 (k17 s_ f_ u0 u1 u2) [] (fun r=>(vI r)) (fun _=>[]) (jg s_ f_ u0 u1 u2):=
  jM tT mX Tryz.func109 (
  .r<| .r<| .lp (σ:=Int) (β:=Unit) (0) [] [] ⟨[0,1,7],[],fun t8=>[(8,(vI t8))],fun t8=>[]⟩ ⟨[],[],fun _=>[],fun _=>[]⟩
  (fun t8=> .r<| .it (.r<| .cl 5 (tO (⟨((at' s_ t8.toNat).feeds),(at' s_ t8.toNat).power,(at' s_ t8.toNat).paths⟩:aG) f_ u0 u1 u2) fun r_=> .a1 ((0:Int)≤t8∧t8<(s_.length:Int))<| .rg {} [0,1]<| .it (.r<| .e (.done (.ret t8)))
  (.r<| .e (.next (k8 t8))))
  (.e (.done (.brk ()))))
  (fun _=> .r<| .e (-1)))
theorem nu (s_:(List aG)) (f_:Int) (u0:(List Source)) (u1:(List Link)) (u2:(List aG)):iA Tryz.prog 81 (k17 s_ f_ u0 u1 u2) [] (fun r=>(vB r)) (fun _=>[]) (eF s_ f_ u0 u1 u2):=
  jM tT mX Tryz.func81 (
  .r<| .cl 2 (p9 s_ f_ u0 u1 u2) fun r_=> .r<| .e (decide (0≤r_)))
theorem zm (l:(List aG)) (u0:Int) (u1:Int) (u2:(List Source)) (u3:(List Link)) (u4:(List aG)):iA Tryz.prog 34 [(sD (bK none 4 aG.cell l)),(sI u0),(sD (.fn 83 1 (k6 u1 u2 u3 u4)))] [] (fun r=>(vB r)) (fun _=>[]) (kT l u0 u1 u2 u3 u4):=
  jM tT mX Tryz.func34 (
  .rg {fr:=[(0,1)],fz:=[1]} []<| .cg 7 [((decide ((l.length:Int)≤u0)),true)] (nu l u1 u2 u3 u4) fun r_=> .r<| .e (bif (decide ((l.length:Int)≤u0))then(!r_)else false))
theorem fE (p:au):iA Tryz.prog 8 (k0 p) [] (fun r=>(vI r)) (fun _=>[]) (eB p):=
  jM tT mX Tryz.func8 (
  .rg {fr:=[(0,1)],fz:=[1]} []<| .cl 2 (aI p.buses 1 24) fun r_=> .r<| .it (.r<| .e 10)
  (.cl 3 (yR p) fun u0=> .cl 4 (Bd p.sources 8 u0.1 u0.2.1 u0.2.2.1 u0.2.2.2) fun u3=> .r<| .it (.r<| .e 11)
  (.cl 3 (Br p) fun u1=> .cl 4 (zJ p.links 40 u1.1 u1.2.1 u1.2.2.1 u1.2.2.2) fun u4=> .r<| .it (.r<| .e 12)
  (.cl 3 (Bh p) fun u2=> .cl 4 (zm p.racks 24 u2.1 u2.2.1 u2.2.2.1 u2.2.2.2) fun u5=> .r<| .it (.r<| .e 13)
  (.r<| .e 0)))))
theorem qJ:iA Tryz.prog 63 [] [] (fun r=>(.v (.one (.mp 0)))) (fun r=>[(0,some (J6 9 65 false false 1 1 fo (aD .i64) r))]) (jP):=
  jM tT mX Tryz.func63 (
  .r<| .rg {an:=[(0, .map 0 (iN fo ([]:(List (ByteArray × Int)))) (iZ (aD .i64) ([]:(List (ByteArray × Int)))) []),(1, .map (ay aS ⟨#[103,114,105,100]⟩ 1 ([]:(List (ByteArray × Int)))).length (iN fo (ay aS ⟨#[103,114,105,100]⟩ 1 ([]:(List (ByteArray × Int))))) (iZ (aD .i64) (ay aS ⟨#[103,114,105,100]⟩ 1 ([]:(List (ByteArray × Int))))) []),(2, .map (ay aS ⟨#[103,101,110,101,114,97,116,111,114]⟩ 2 (ay aS ⟨#[103,114,105,100]⟩ 1 ([]:(List (ByteArray × Int))))).length (iN fo (ay aS ⟨#[103,101,110,101,114,97,116,111,114]⟩ 2 (ay aS ⟨#[103,114,105,100]⟩ 1 ([]:(List (ByteArray × Int)))))) (iZ (aD .i64) (ay aS ⟨#[103,101,110,101,114,97,116,111,114]⟩ 2 (ay aS ⟨#[103,114,105,100]⟩ 1 ([]:(List (ByteArray × Int)))))) []),(3, .map (ay aS ⟨#[98,97,116,116,101,114,121]⟩ 3 (ay aS ⟨#[103,101,110,101,114,97,116,111,114]⟩ 2 (ay aS ⟨#[103,114,105,100]⟩ 1 ([]:(List (ByteArray × Int)))))).length (iN fo (ay aS ⟨#[98,97,116,116,101,114,121]⟩ 3 (ay aS ⟨#[103,101,110,101,114,97,116,111,114]⟩ 2 (ay aS ⟨#[103,114,105,100]⟩ 1 ([]:(List (ByteArray × Int))))))) (iZ (aD .i64) (ay aS ⟨#[98,97,116,116,101,114,121]⟩ 3 (ay aS ⟨#[103,101,110,101,114,97,116,111,114]⟩ 2 (ay aS ⟨#[103,114,105,100]⟩ 1 ([]:(List (ByteArray × Int))))))) [])],fr:=[(0,1)]} [.pf ⟨gD [.s] 1 1 ([]:(List (ByteArray × Int))).length (iN fo ([]:(List (ByteArray × Int)))) (iZ (aD .i64) ([]:(List (ByteArray × Int)))) [(.str ⟨#[103,114,105,100]⟩)] [(cI 1)] [] (ay aS ⟨#[103,114,105,100]⟩ 1 ([]:(List (ByteArray × Int)))).length (iN fo (ay aS ⟨#[103,114,105,100]⟩ 1 ([]:(List (ByteArray × Int))))) (iZ (aD .i64) (ay aS ⟨#[103,114,105,100]⟩ 1 ([]:(List (ByteArray × Int))))),fK (fun _=>rfl) (fun _ _=>rfl) ([]:(List (ByteArray × Int))) ⟨#[103,114,105,100]⟩ 1 rfl rfl⟩, .pf ⟨gD [.s] 1 1 (ay aS ⟨#[103,114,105,100]⟩ 1 ([]:(List (ByteArray × Int)))).length (iN fo (ay aS ⟨#[103,114,105,100]⟩ 1 ([]:(List (ByteArray × Int))))) (iZ (aD .i64) (ay aS ⟨#[103,114,105,100]⟩ 1 ([]:(List (ByteArray × Int))))) [(.str ⟨#[103,101,110,101,114,97,116,111,114]⟩)] [(cI 2)] [] (ay aS ⟨#[103,101,110,101,114,97,116,111,114]⟩ 2 (ay aS ⟨#[103,114,105,100]⟩ 1 ([]:(List (ByteArray × Int))))).length (iN fo (ay aS ⟨#[103,101,110,101,114,97,116,111,114]⟩ 2 (ay aS ⟨#[103,114,105,100]⟩ 1 ([]:(List (ByteArray × Int)))))) (iZ (aD .i64) (ay aS ⟨#[103,101,110,101,114,97,116,111,114]⟩ 2 (ay aS ⟨#[103,114,105,100]⟩ 1 ([]:(List (ByteArray × Int)))))),fK (fun _=>rfl) (fun _ _=>rfl) (ay aS ⟨#[103,114,105,100]⟩ 1 ([]:(List (ByteArray × Int)))) ⟨#[103,101,110,101,114,97,116,111,114]⟩ 2 rfl rfl⟩, .pf ⟨gD [.s] 1 1 (ay aS ⟨#[103,101,110,101,114,97,116,111,114]⟩ 2 (ay aS ⟨#[103,114,105,100]⟩ 1 ([]:(List (ByteArray × Int))))).length (iN fo (ay aS ⟨#[103,101,110,101,114,97,116,111,114]⟩ 2 (ay aS ⟨#[103,114,105,100]⟩ 1 ([]:(List (ByteArray × Int)))))) (iZ (aD .i64) (ay aS ⟨#[103,101,110,101,114,97,116,111,114]⟩ 2 (ay aS ⟨#[103,114,105,100]⟩ 1 ([]:(List (ByteArray × Int)))))) [(.str ⟨#[98,97,116,116,101,114,121]⟩)] [(cI 3)] [] (ay aS ⟨#[98,97,116,116,101,114,121]⟩ 3 (ay aS ⟨#[103,101,110,101,114,97,116,111,114]⟩ 2 (ay aS ⟨#[103,114,105,100]⟩ 1 ([]:(List (ByteArray × Int)))))).length (iN fo (ay aS ⟨#[98,97,116,116,101,114,121]⟩ 3 (ay aS ⟨#[103,101,110,101,114,97,116,111,114]⟩ 2 (ay aS ⟨#[103,114,105,100]⟩ 1 ([]:(List (ByteArray × Int))))))) (iZ (aD .i64) (ay aS ⟨#[98,97,116,116,101,114,121]⟩ 3 (ay aS ⟨#[103,101,110,101,114,97,116,111,114]⟩ 2 (ay aS ⟨#[103,114,105,100]⟩ 1 ([]:(List (ByteArray × Int))))))),fK (fun _=>rfl) (fun _ _=>rfl) (ay aS ⟨#[103,101,110,101,114,97,116,111,114]⟩ 2 (ay aS ⟨#[103,114,105,100]⟩ 1 ([]:(List (ByteArray × Int))))) ⟨#[98,97,116,116,101,114,121]⟩ 3 rfl rfl⟩]<| .en (ay aS ⟨#[98,97,116,116,101,114,121]⟩ 3 (ay aS ⟨#[103,101,110,101,114,97,116,111,114]⟩ 2 (ay aS ⟨#[103,114,105,100]⟩ 1 ([]:(List (ByteArray × Int)))))) [] [(1,0)])
theorem uR:iA Tryz.prog 65 [] [] (fun r=>(.v (.one (.mp 0)))) (fun r=>[(0,some (J6 9 68 false false 1 1 fo (aD .i64) r))]) (kV):=
  jM tT mX Tryz.func65 (
  .r<| .rg {an:=[(0, .map 0 (iN fo ([]:(List (ByteArray × Int)))) (iZ (aD .i64) ([]:(List (ByteArray × Int)))) []),(1, .map (ay aS ⟨#[99,97,98,108,101]⟩ 1 ([]:(List (ByteArray × Int)))).length (iN fo (ay aS ⟨#[99,97,98,108,101]⟩ 1 ([]:(List (ByteArray × Int))))) (iZ (aD .i64) (ay aS ⟨#[99,97,98,108,101]⟩ 1 ([]:(List (ByteArray × Int))))) []),(2, .map (ay aS ⟨#[115,119,105,116,99,104]⟩ 2 (ay aS ⟨#[99,97,98,108,101]⟩ 1 ([]:(List (ByteArray × Int))))).length (iN fo (ay aS ⟨#[115,119,105,116,99,104]⟩ 2 (ay aS ⟨#[99,97,98,108,101]⟩ 1 ([]:(List (ByteArray × Int)))))) (iZ (aD .i64) (ay aS ⟨#[115,119,105,116,99,104]⟩ 2 (ay aS ⟨#[99,97,98,108,101]⟩ 1 ([]:(List (ByteArray × Int)))))) []),(3, .map (ay aS ⟨#[98,114,101,97,107,101,114]⟩ 3 (ay aS ⟨#[115,119,105,116,99,104]⟩ 2 (ay aS ⟨#[99,97,98,108,101]⟩ 1 ([]:(List (ByteArray × Int)))))).length (iN fo (ay aS ⟨#[98,114,101,97,107,101,114]⟩ 3 (ay aS ⟨#[115,119,105,116,99,104]⟩ 2 (ay aS ⟨#[99,97,98,108,101]⟩ 1 ([]:(List (ByteArray × Int))))))) (iZ (aD .i64) (ay aS ⟨#[98,114,101,97,107,101,114]⟩ 3 (ay aS ⟨#[115,119,105,116,99,104]⟩ 2 (ay aS ⟨#[99,97,98,108,101]⟩ 1 ([]:(List (ByteArray × Int))))))) [])],fr:=[(0,1)]} [.pf ⟨gD [.s] 1 1 ([]:(List (ByteArray × Int))).length (iN fo ([]:(List (ByteArray × Int)))) (iZ (aD .i64) ([]:(List (ByteArray × Int)))) [(.str ⟨#[99,97,98,108,101]⟩)] [(cI 1)] [] (ay aS ⟨#[99,97,98,108,101]⟩ 1 ([]:(List (ByteArray × Int)))).length (iN fo (ay aS ⟨#[99,97,98,108,101]⟩ 1 ([]:(List (ByteArray × Int))))) (iZ (aD .i64) (ay aS ⟨#[99,97,98,108,101]⟩ 1 ([]:(List (ByteArray × Int))))),fK (fun _=>rfl) (fun _ _=>rfl) ([]:(List (ByteArray × Int))) ⟨#[99,97,98,108,101]⟩ 1 rfl rfl⟩, .pf ⟨gD [.s] 1 1 (ay aS ⟨#[99,97,98,108,101]⟩ 1 ([]:(List (ByteArray × Int)))).length (iN fo (ay aS ⟨#[99,97,98,108,101]⟩ 1 ([]:(List (ByteArray × Int))))) (iZ (aD .i64) (ay aS ⟨#[99,97,98,108,101]⟩ 1 ([]:(List (ByteArray × Int))))) [(.str ⟨#[115,119,105,116,99,104]⟩)] [(cI 2)] [] (ay aS ⟨#[115,119,105,116,99,104]⟩ 2 (ay aS ⟨#[99,97,98,108,101]⟩ 1 ([]:(List (ByteArray × Int))))).length (iN fo (ay aS ⟨#[115,119,105,116,99,104]⟩ 2 (ay aS ⟨#[99,97,98,108,101]⟩ 1 ([]:(List (ByteArray × Int)))))) (iZ (aD .i64) (ay aS ⟨#[115,119,105,116,99,104]⟩ 2 (ay aS ⟨#[99,97,98,108,101]⟩ 1 ([]:(List (ByteArray × Int)))))),fK (fun _=>rfl) (fun _ _=>rfl) (ay aS ⟨#[99,97,98,108,101]⟩ 1 ([]:(List (ByteArray × Int)))) ⟨#[115,119,105,116,99,104]⟩ 2 rfl rfl⟩, .pf ⟨gD [.s] 1 1 (ay aS ⟨#[115,119,105,116,99,104]⟩ 2 (ay aS ⟨#[99,97,98,108,101]⟩ 1 ([]:(List (ByteArray × Int))))).length (iN fo (ay aS ⟨#[115,119,105,116,99,104]⟩ 2 (ay aS ⟨#[99,97,98,108,101]⟩ 1 ([]:(List (ByteArray × Int)))))) (iZ (aD .i64) (ay aS ⟨#[115,119,105,116,99,104]⟩ 2 (ay aS ⟨#[99,97,98,108,101]⟩ 1 ([]:(List (ByteArray × Int)))))) [(.str ⟨#[98,114,101,97,107,101,114]⟩)] [(cI 3)] [] (ay aS ⟨#[98,114,101,97,107,101,114]⟩ 3 (ay aS ⟨#[115,119,105,116,99,104]⟩ 2 (ay aS ⟨#[99,97,98,108,101]⟩ 1 ([]:(List (ByteArray × Int)))))).length (iN fo (ay aS ⟨#[98,114,101,97,107,101,114]⟩ 3 (ay aS ⟨#[115,119,105,116,99,104]⟩ 2 (ay aS ⟨#[99,97,98,108,101]⟩ 1 ([]:(List (ByteArray × Int))))))) (iZ (aD .i64) (ay aS ⟨#[98,114,101,97,107,101,114]⟩ 3 (ay aS ⟨#[115,119,105,116,99,104]⟩ 2 (ay aS ⟨#[99,97,98,108,101]⟩ 1 ([]:(List (ByteArray × Int))))))),fK (fun _=>rfl) (fun _ _=>rfl) (ay aS ⟨#[115,119,105,116,99,104]⟩ 2 (ay aS ⟨#[99,97,98,108,101]⟩ 1 ([]:(List (ByteArray × Int))))) ⟨#[98,114,101,97,107,101,114]⟩ 3 rfl rfl⟩]<| .en (ay aS ⟨#[98,114,101,97,107,101,114]⟩ 3 (ay aS ⟨#[115,119,105,116,99,104]⟩ 2 (ay aS ⟨#[99,97,98,108,101]⟩ 1 ([]:(List (ByteArray × Int)))))) [] [(1,0)])
theorem zU:iA Tryz.prog 122 [] [] (fun r=>(.v (.one (.mp 0)))) (fun r=>[(0,some (J6 9 3 false false 1 1 fo (aD .i64) r))]) (pX):=
  jM tT mX Tryz.func122 (
  .r<| .rg {an:=[(0, .map 0 (iN fo ([]:(List (ByteArray × Int)))) (iZ (aD .i64) ([]:(List (ByteArray × Int)))) []),(1, .map (ay aS ⟨#[112,108,97,110,116]⟩ 1 ([]:(List (ByteArray × Int)))).length (iN fo (ay aS ⟨#[112,108,97,110,116]⟩ 1 ([]:(List (ByteArray × Int))))) (iZ (aD .i64) (ay aS ⟨#[112,108,97,110,116]⟩ 1 ([]:(List (ByteArray × Int))))) []),(2, .map (ay aS ⟨#[115,111,117,114,99,101]⟩ 2 (ay aS ⟨#[112,108,97,110,116]⟩ 1 ([]:(List (ByteArray × Int))))).length (iN fo (ay aS ⟨#[115,111,117,114,99,101]⟩ 2 (ay aS ⟨#[112,108,97,110,116]⟩ 1 ([]:(List (ByteArray × Int)))))) (iZ (aD .i64) (ay aS ⟨#[115,111,117,114,99,101]⟩ 2 (ay aS ⟨#[112,108,97,110,116]⟩ 1 ([]:(List (ByteArray × Int)))))) []),(3, .map (ay aS ⟨#[108,105,110,107]⟩ 3 (ay aS ⟨#[115,111,117,114,99,101]⟩ 2 (ay aS ⟨#[112,108,97,110,116]⟩ 1 ([]:(List (ByteArray × Int)))))).length (iN fo (ay aS ⟨#[108,105,110,107]⟩ 3 (ay aS ⟨#[115,111,117,114,99,101]⟩ 2 (ay aS ⟨#[112,108,97,110,116]⟩ 1 ([]:(List (ByteArray × Int))))))) (iZ (aD .i64) (ay aS ⟨#[108,105,110,107]⟩ 3 (ay aS ⟨#[115,111,117,114,99,101]⟩ 2 (ay aS ⟨#[112,108,97,110,116]⟩ 1 ([]:(List (ByteArray × Int))))))) []),(4, .map (ay aS ⟨#[114,97,99,107]⟩ 4 (ay aS ⟨#[108,105,110,107]⟩ 3 (ay aS ⟨#[115,111,117,114,99,101]⟩ 2 (ay aS ⟨#[112,108,97,110,116]⟩ 1 ([]:(List (ByteArray × Int))))))).length (iN fo (ay aS ⟨#[114,97,99,107]⟩ 4 (ay aS ⟨#[108,105,110,107]⟩ 3 (ay aS ⟨#[115,111,117,114,99,101]⟩ 2 (ay aS ⟨#[112,108,97,110,116]⟩ 1 ([]:(List (ByteArray × Int)))))))) (iZ (aD .i64) (ay aS ⟨#[114,97,99,107]⟩ 4 (ay aS ⟨#[108,105,110,107]⟩ 3 (ay aS ⟨#[115,111,117,114,99,101]⟩ 2 (ay aS ⟨#[112,108,97,110,116]⟩ 1 ([]:(List (ByteArray × Int)))))))) [])],fr:=[(0,1)]} [.pf ⟨gD [.s] 1 1 ([]:(List (ByteArray × Int))).length (iN fo ([]:(List (ByteArray × Int)))) (iZ (aD .i64) ([]:(List (ByteArray × Int)))) [(.str ⟨#[112,108,97,110,116]⟩)] [(cI 1)] [] (ay aS ⟨#[112,108,97,110,116]⟩ 1 ([]:(List (ByteArray × Int)))).length (iN fo (ay aS ⟨#[112,108,97,110,116]⟩ 1 ([]:(List (ByteArray × Int))))) (iZ (aD .i64) (ay aS ⟨#[112,108,97,110,116]⟩ 1 ([]:(List (ByteArray × Int))))),fK (fun _=>rfl) (fun _ _=>rfl) ([]:(List (ByteArray × Int))) ⟨#[112,108,97,110,116]⟩ 1 rfl rfl⟩, .pf ⟨gD [.s] 1 1 (ay aS ⟨#[112,108,97,110,116]⟩ 1 ([]:(List (ByteArray × Int)))).length (iN fo (ay aS ⟨#[112,108,97,110,116]⟩ 1 ([]:(List (ByteArray × Int))))) (iZ (aD .i64) (ay aS ⟨#[112,108,97,110,116]⟩ 1 ([]:(List (ByteArray × Int))))) [(.str ⟨#[115,111,117,114,99,101]⟩)] [(cI 2)] [] (ay aS ⟨#[115,111,117,114,99,101]⟩ 2 (ay aS ⟨#[112,108,97,110,116]⟩ 1 ([]:(List (ByteArray × Int))))).length (iN fo (ay aS ⟨#[115,111,117,114,99,101]⟩ 2 (ay aS ⟨#[112,108,97,110,116]⟩ 1 ([]:(List (ByteArray × Int)))))) (iZ (aD .i64) (ay aS ⟨#[115,111,117,114,99,101]⟩ 2 (ay aS ⟨#[112,108,97,110,116]⟩ 1 ([]:(List (ByteArray × Int)))))),fK (fun _=>rfl) (fun _ _=>rfl) (ay aS ⟨#[112,108,97,110,116]⟩ 1 ([]:(List (ByteArray × Int)))) ⟨#[115,111,117,114,99,101]⟩ 2 rfl rfl⟩, .pf ⟨gD [.s] 1 1 (ay aS ⟨#[115,111,117,114,99,101]⟩ 2 (ay aS ⟨#[112,108,97,110,116]⟩ 1 ([]:(List (ByteArray × Int))))).length (iN fo (ay aS ⟨#[115,111,117,114,99,101]⟩ 2 (ay aS ⟨#[112,108,97,110,116]⟩ 1 ([]:(List (ByteArray × Int)))))) (iZ (aD .i64) (ay aS ⟨#[115,111,117,114,99,101]⟩ 2 (ay aS ⟨#[112,108,97,110,116]⟩ 1 ([]:(List (ByteArray × Int)))))) [(.str ⟨#[108,105,110,107]⟩)] [(cI 3)] [] (ay aS ⟨#[108,105,110,107]⟩ 3 (ay aS ⟨#[115,111,117,114,99,101]⟩ 2 (ay aS ⟨#[112,108,97,110,116]⟩ 1 ([]:(List (ByteArray × Int)))))).length (iN fo (ay aS ⟨#[108,105,110,107]⟩ 3 (ay aS ⟨#[115,111,117,114,99,101]⟩ 2 (ay aS ⟨#[112,108,97,110,116]⟩ 1 ([]:(List (ByteArray × Int))))))) (iZ (aD .i64) (ay aS ⟨#[108,105,110,107]⟩ 3 (ay aS ⟨#[115,111,117,114,99,101]⟩ 2 (ay aS ⟨#[112,108,97,110,116]⟩ 1 ([]:(List (ByteArray × Int))))))),fK (fun _=>rfl) (fun _ _=>rfl) (ay aS ⟨#[115,111,117,114,99,101]⟩ 2 (ay aS ⟨#[112,108,97,110,116]⟩ 1 ([]:(List (ByteArray × Int))))) ⟨#[108,105,110,107]⟩ 3 rfl rfl⟩, .pf ⟨gD [.s] 1 1 (ay aS ⟨#[108,105,110,107]⟩ 3 (ay aS ⟨#[115,111,117,114,99,101]⟩ 2 (ay aS ⟨#[112,108,97,110,116]⟩ 1 ([]:(List (ByteArray × Int)))))).length (iN fo (ay aS ⟨#[108,105,110,107]⟩ 3 (ay aS ⟨#[115,111,117,114,99,101]⟩ 2 (ay aS ⟨#[112,108,97,110,116]⟩ 1 ([]:(List (ByteArray × Int))))))) (iZ (aD .i64) (ay aS ⟨#[108,105,110,107]⟩ 3 (ay aS ⟨#[115,111,117,114,99,101]⟩ 2 (ay aS ⟨#[112,108,97,110,116]⟩ 1 ([]:(List (ByteArray × Int))))))) [(.str ⟨#[114,97,99,107]⟩)] [(cI 4)] [] (ay aS ⟨#[114,97,99,107]⟩ 4 (ay aS ⟨#[108,105,110,107]⟩ 3 (ay aS ⟨#[115,111,117,114,99,101]⟩ 2 (ay aS ⟨#[112,108,97,110,116]⟩ 1 ([]:(List (ByteArray × Int))))))).length (iN fo (ay aS ⟨#[114,97,99,107]⟩ 4 (ay aS ⟨#[108,105,110,107]⟩ 3 (ay aS ⟨#[115,111,117,114,99,101]⟩ 2 (ay aS ⟨#[112,108,97,110,116]⟩ 1 ([]:(List (ByteArray × Int)))))))) (iZ (aD .i64) (ay aS ⟨#[114,97,99,107]⟩ 4 (ay aS ⟨#[108,105,110,107]⟩ 3 (ay aS ⟨#[115,111,117,114,99,101]⟩ 2 (ay aS ⟨#[112,108,97,110,116]⟩ 1 ([]:(List (ByteArray × Int)))))))),fK (fun _=>rfl) (fun _ _=>rfl) (ay aS ⟨#[108,105,110,107]⟩ 3 (ay aS ⟨#[115,111,117,114,99,101]⟩ 2 (ay aS ⟨#[112,108,97,110,116]⟩ 1 ([]:(List (ByteArray × Int)))))) ⟨#[114,97,99,107]⟩ 4 rfl rfl⟩]<| .en (ay aS ⟨#[114,97,99,107]⟩ 4 (ay aS ⟨#[108,105,110,107]⟩ 3 (ay aS ⟨#[115,111,117,114,99,101]⟩ 2 (ay aS ⟨#[112,108,97,110,116]⟩ 1 ([]:(List (ByteArray × Int))))))) [] [(1,0)])
theorem xu (u0:(List (ByteArray × Int))) (w_:ByteArray):Ez Tryz.prog qw 124 [(.one (.mp 0)),(sD (.str w_))] [(0,some (J6 9 65 false false 1 1 fo (aD .i64) u0))] (fun r=>(vI r)) (fun r=>[(0,some (J6 9 65 false false 1 1 fo (aD .i64) u0))]) (iR u0 w_):=
  Uu tT mX Tryz.func124 (
  .r<| .rg {an:=[(2, .look (aO aS w_ u0).isSome [(cI ((aO aS w_ u0).getD 0))])]} [.pf ⟨dY [.s] 1 1 u0.length (iN fo u0) (iZ (aD .i64) u0) [(.str w_)] [(.d (.int .i64 0))] (aO aS w_ u0).isSome [(cI ((aO aS w_ u0).getD 0))],cZ (fun _=>rfl) (fun _ _=>rfl) u0 w_ 0 rfl rfl rfl⟩]<| .cp 1 (dK ((aO aS w_ u0).isSome)) (fun r_=>
  .r<| .r<| .e (some ((aO aS w_ u0).getD 0)))
  (.pn qw 1 [] [0] {} []<| .e none))
theorem sH (u0:(List (ByteArray × Int))) (w_:ByteArray):Ez Tryz.prog qw 125 [(.one (.mp 0)),(sD (.str w_))] [(0,some (J6 9 68 false false 1 1 fo (aD .i64) u0))] (fun r=>(vI r)) (fun r=>[(0,some (J6 9 68 false false 1 1 fo (aD .i64) u0))]) (fM u0 w_):=
  Uu tT mX Tryz.func125 (
  .r<| .rg {an:=[(2, .look (aO aS w_ u0).isSome [(cI ((aO aS w_ u0).getD 0))])]} [.pf ⟨dY [.s] 1 1 u0.length (iN fo u0) (iZ (aD .i64) u0) [(.str w_)] [(.d (.int .i64 0))] (aO aS w_ u0).isSome [(cI ((aO aS w_ u0).getD 0))],cZ (fun _=>rfl) (fun _ _=>rfl) u0 w_ 0 rfl rfl rfl⟩]<| .cp 1 (dK ((aO aS w_ u0).isSome)) (fun r_=>
  .r<| .r<| .e (some ((aO aS w_ u0).getD 0)))
  (.pn qw 1 [] [0] {} []<| .e none))
section
variable (r_:(List ByteArray)) (v2:(List (ByteArray × Int))) (u7:Int) (u8:Int) (u9:Int) (v0:Int) (v1:Int) (x5:(List aW)) (v5:Int) (v6:Int) (v7:Int) (v8:Int) (u0:au)
abbrev k18:=((aO aS (at' r_ 0) v2).getD 0)
abbrev k19:=((0:Int)≤1∧1<(r_.length:Int))
abbrev k20:=((0:Int)≤2∧2<(r_.length:Int))
abbrev k21:=((0:Int)≤3∧3<(r_.length:Int))
abbrev k22:=((0:Int)≤4∧4<(r_.length:Int))
abbrev k23:=((0:Int)≤5∧5<(r_.length:Int))
abbrev k24:List (Nat × Option Ob):=[(33,some (.cells 73 [(cI u7),(cI u8),(cI u9),(cI v0),(cI v1),(.own 34 false x5.length)])),(34,some (dG 70 2 aW.cell x5))]
abbrev k25:=(⟨(⟨v5,v6⟩:ax),v7,v8⟩:aG)
abbrev k26:=(u0.racks++[(k25 v5 v6 v7 v8)])
end
theorem Ba (w0:Int) (s_:ByteArray) (u0:au):Ez Tryz.prog qw 94 [(.one (.ptr 0 0)),(sI w0),(sD (.str s_))] [(0,some (.cells 27 [(cI u0.buses),(.own 1 false u0.sources.length),(.own 2 false u0.links.length),(.own 3 false u0.racks.length)])),(1,some (dG 67 5 Source.cell u0.sources)),(2,some (dG 73 6 Link.cell u0.links)),(3,some (dG 76 4 aG.cell u0.racks))] (fun r=>(vI r.1)) (fun r=>[(0,some (.cells 27 [(cI r.2.buses),(.own 4 false r.2.sources.length),(.own 5 false r.2.links.length),(.own 6 false r.2.racks.length)])),(1,none),(2,none),(3,none),(4,some (dG 67 5 Source.cell r.2.sources)),(5,some (dG 73 6 Link.cell r.2.links)),(6,some (dG 76 4 aG.cell r.2.racks))]) (ni w0 s_ u0):=
  Uu tT mX Tryz.func94 (
  .r<| .cl 1 (oP s_ ⟨#[32]⟩) fun r_=> .r<| .cl 0 (oU [(0,23)] zU) fun v2=> .a1 ((0:Int)≤0∧0<(r_.length:Int))<| .rg {an:=[(4, .look (aO aS (at' r_ 0) v2).isSome [(cI (k18 r_ v2))])]} [1,0, .pf ⟨dY [.s] 1 1 v2.length (iN fo v2) (iZ (aD .i64) v2) [(.str (at' r_ 0))] [(.d (.int .i64 0))] (aO aS (at' r_ 0) v2).isSome [(cI (k18 r_ v2))],cZ (fun _=>rfl) (fun _ _=>rfl) v2 (at' r_ 0) 0 rfl rfl rfl⟩]<| .cp 13 (dK (bif (bif (aO aS (at' r_ 0) v2).isSome then(decide (w0≤(k18 r_ v2)))else false)then((decide (1<(k18 r_ v2)))==(decide (0<w0)))else false)) (fun w5=>
  .r<| .r<| .r<| .it (.cp 3 (dK (decide ((r_.length:Int)=2))) (fun w6=>
  .r<| .cp 4 (aT (at' r_ 1)) (fun w2=>
  .a1 (k19 r_)<| .rg {} [0,1]<| .r<| .im (.re 0 1 1 24)<| .im (.re 0 2 2 25)<| .im (.re 0 3 3 26)<| .en (some ((k18 r_ v2),(⟨w2,u0.sources,u0.links,u0.racks⟩:au))) [] [(24,4),(25,5),(26,6)])
  (.a1 (k19 r_)<| .pn qw 4 [] [0,1,2,3] {} [0,1]<| .e none))
  (.pn qw 3 [] [0,1,2,3] {} []<| .e none))
  (.r<| .it (.cp 3 (dK (decide ((r_.length:Int)=6))) (fun w7=>
  .r<| .cp 8 (aT (at' r_ 1)) (fun u2=>
  .cl 9 (oU [(0,27)] qJ) fun w3=> .YD 13 (X3 [(0,27)] (xu w3 (at' r_ 2))) (fun u3=>
  .cp 17 (aT (at' r_ 3)) (fun u4=>
  .cp 21 (aT (at' r_ 4)) (fun u5=>
  .cp 25 (aT (at' r_ 5)) (fun u6=>
  .as _ inferInstance [(0:Int)≤1∧1<(r_.length:Int),(0:Int)≤2∧2<(r_.length:Int),(0:Int)≤3∧3<(r_.length:Int),(0:Int)≤4∧4<(r_.length:Int),(0:Int)≤5∧5<(r_.length:Int),(u0.sources.length+[(⟨u2,u3,u4,u5,u6⟩:Source)].length)*40≤140737488355328,u0.sources.length+[(⟨u2,u3,u4,u5,u6⟩:Source)].length≤4611686018427387904] (fun h=> ⟨h.1,h.2.1,h.2.2.1,h.2.2.2.1,h.2.2.2.2.1,h.2.2.2.2.2.1,h.2.2.2.2.2.2,trivial⟩:((k19 r_)∧(k20 r_)∧(k21 r_)∧(k22 r_)∧(k23 r_)∧((u0.sources.length+[(⟨u2,u3,u4,u5,u6⟩:Source)].length)*40≤140737488355328)∧(u0.sources.length+[(⟨u2,u3,u4,u5,u6⟩:Source)].length≤4611686018427387904))→_)<| .rg {an:=[(27, .arr [(⟨u2,u3,u4,u5,u6⟩:Source)].length (aA Source.cell [(⟨u2,u3,u4,u5,u6⟩:Source)])),(28, .arr (u0.sources++[(⟨u2,u3,u4,u5,u6⟩:Source)]).length (aA Source.cell (u0.sources++[(⟨u2,u3,u4,u5,u6⟩:Source)])))],fr:=[(27,28),(28,29)]} [0,12,11,1,10,2,9,3,8,4,7, .pf ⟨[(⟨u2,u3,u4,u5,u6⟩:Source)].length=1,rfl⟩, .pf ⟨aH 1 5 (jX 5 [(.int .i64 u2),(.int .i64 u3),(.int .i64 u4),(.int .i64 u5),(.int .i64 u6)]) (aA Source.cell [(⟨u2,u3,u4,u5,u6⟩:Source)]),(by intro i hi j hj;match i,j,hi,hj with|0,0,_,_=>rfl|0,1,_,_=>rfl|0,2,_,_=>rfl|0,3,_,_=>rfl|0,4,_,_=>rfl)⟩, .e (u0.sources.length),5,6, .pf ⟨(u0.sources++[(⟨u2,u3,u4,u5,u6⟩:Source)]).length=u0.sources.length+[(⟨u2,u3,u4,u5,u6⟩:Source)].length,List.length_append⟩, .pf ⟨aH (u0.sources.length+[(⟨u2,u3,u4,u5,u6⟩:Source)].length) 5 (nW (aA Source.cell u0.sources) u0.sources.length (aA Source.cell [(⟨u2,u3,u4,u5,u6⟩:Source)])) (aA Source.cell (u0.sources++[(⟨u2,u3,u4,u5,u6⟩:Source)])),bG _ _ _ _⟩]<| .r<| .im (.re 0 2 2 30)<| .im (.re 0 3 3 31)<| .en (some ((k18 r_ v2),(⟨u0.buses,(u0.sources++[(⟨u2,u3,u4,u5,u6⟩:Source)]),u0.links,u0.racks⟩:au))) [] [(29,4),(30,5),(31,6)])
  (.a5 (k19 r_) (k20 r_) (k21 r_) (k22 r_) (k23 r_)<| .pn qw 25 [] [0,1,2,3] {} [0,10,9,1,8,2,7,3,6,4,5]<| .e none))
  (.a5 (k19 r_) (k20 r_) (k21 r_) (k22 r_) (k23 r_)<| .pn qw 21 [] [0,1,2,3] {} [0,9,8,1,7,2,6,3,5,4]<| .e none))
  (.a5 (k19 r_) (k20 r_) (k21 r_) (k22 r_) (k23 r_)<| .pn qw 17 [] [0,1,2,3] {} [0,8,7,1,6,2,5,3,4]<| .e none))
  (.a5 (k19 r_) (k20 r_) (k21 r_) (k22 r_) (k23 r_)<| .pn qw 13 [] [0,1,2,3] {} [0,7,6,1,5,2,3,4]<| .e none))
  (.a5 (k19 r_) (k20 r_) (k21 r_) (k22 r_) (k23 r_)<| .pn qw 8 [] [0,1,2,3] {} [0,5,1,2,3,4]<| .e none))
  (.pn qw 3 [] [0,1,2,3] {} []<| .e none))
  (.r<| .it (.cp 3 (dK (decide (6≤(r_.length:Int)))) (fun w8=>
  .r<| .cp 3 (aT (at' r_ 1)) (fun u7=>
  .cp 7 (aT (at' r_ 2)) (fun u8=>
  .cl 8 (oU [(0,32)] uR) fun w4=> .YD 12 (X3 [(0,32)] (sH w4 (at' r_ 3))) (fun u9=>
  .cp 16 (aT (at' r_ 4)) (fun v0=>
  .cp 20 (aT (at' r_ 5)) (fun v1=>
  .a5 (k19 r_) (k20 r_) (k21 r_) (k22 r_) (k23 r_)<| .rg {fr:=[(22,33)]} [0,10,1,9,8,2,7,3,6,4,5]<| .im (.nH 33 5 34 70 2 (aA aW.cell ([]:List aW)))<| .a1 ((0:Int)≤(6:Int)∧(6:Int)≤(r_.length:Int))<| .r<| .im (.us 120 (vD (.sl none 1 (r_.length - 6) (fun iq jq=>aA fo r_ (iq+6) jq))) (vD (bK none 1 fo (r_.drop 6))) (zy.v (zD.one (pE.d (mg.Yg (by first|rw [List.length_append,List.length_drop]|simp only [List.length_set,List.length_drop,BZ]|exact List.length_replicate) (.inr rfl) (OL _ _ _ _))))))<| .lp (σ:=((List aW) × Int)) (β:=(List aW)) (([]:List aW),0) [] [] ⟨[0,8,10,120,121],[0,1,2,3],fun(x5,v9)=>[(122,(vI v9))],fun(x5,v9)=>(k24 u7 u8 u9 v0 v1 x5)⟩ ⟨[0,8,10],[0,1,2,3],fun u1=>[],fun u1=>(k24 u7 u8 u9 v0 v1 u1)⟩
  (fun(x5,v9)=> .r<| .it (.a1 ((0:Int)≤v9∧v9<((r_.drop 6).length:Int))<| .r<| .cl 1 (dm (at' (r_.drop 6) v9.toNat) ⟨#[58]⟩) fun w1=> .r<| .cp 1 (dK w1.2.2) (fun w9=>
  .r<| .cp 3 (aT w1.1) (fun v3=>
  .cp 5 (aT w1.2.1) (fun v4=>
  .a2 ((x5.length+[(⟨v3,v4⟩:aW)].length)*16≤140737488355328) (x5.length+[(⟨v3,v4⟩:aW)].length≤4611686018427387904)<| .rg {an:=[(7, .arr [(⟨v3,v4⟩:aW)].length (aA aW.cell [(⟨v3,v4⟩:aW)])),(8, .arr (x5++[(⟨v3,v4⟩:aW)]).length (aA aW.cell (x5++[(⟨v3,v4⟩:aW)])))],fr:=[(7,41),(8,42)]} [3,2, .pf ⟨[(⟨v3,v4⟩:aW)].length=1,rfl⟩, .pf ⟨aH 1 2 (jX 2 [(.int .i64 v3),(.int .i64 v4)]) (aA aW.cell [(⟨v3,v4⟩:aW)]),(by intro i hi j hj;match i,j,hi,hj with|0,0,_,_=>rfl|0,1,_,_=>rfl)⟩, .e (x5.length),0,1, .pf ⟨(x5++[(⟨v3,v4⟩:aW)]).length=x5.length+[(⟨v3,v4⟩:aW)].length,List.length_append⟩, .pf ⟨aH (x5.length+[(⟨v3,v4⟩:aW)].length) 2 (nW (aA aW.cell x5) x5.length (aA aW.cell [(⟨v3,v4⟩:aW)])) (aA aW.cell (x5++[(⟨v3,v4⟩:aW)])),bG _ _ _ _⟩]<| .r<| .en (.next ((x5++[(⟨v3,v4⟩:aW)]),(k8 v9))) [] [(42,34)])
  (.pn qw 5 [] [0,1,2,3] {} []<| .e (.done (.ret none))))
  (.pn qw 3 [] [0,1,2,3] {} []<| .e (.done (.ret none))))
  (.pn qw 1 [] [0,1,2,3] {} []<| .e (.done (.ret none))))
  (.e (.done (.brk x5))))
  (fun u1=> .fz [34]<| .a2 ((u0.links.length+[(⟨u7,u8,u9,v0,v1,u1⟩:Link)].length)*64≤140737488355328) (u0.links.length+[(⟨u7,u8,u9,v0,v1,u1⟩:Link)].length≤4611686018427387904)<| .rg {an:=[(6, .arr [(⟨u7,u8,u9,v0,v1,u1⟩:Link)].length (aA Link.cell [(⟨u7,u8,u9,v0,v1,u1⟩:Link)])),(7, .arr (u0.links++[(⟨u7,u8,u9,v0,v1,u1⟩:Link)]).length (aA Link.cell (u0.links++[(⟨u7,u8,u9,v0,v1,u1⟩:Link)])))],fr:=[(6,43),(7,44)]} [.pf ⟨[(⟨u7,u8,u9,v0,v1,u1⟩:Link)].length=1,rfl⟩, .pf ⟨aH 1 6 (jX 6 [(.int .i64 u7),(.int .i64 u8),(.int .i64 u9),(.int .i64 v0),(.int .i64 v1),(bK none 2 aW.cell u1)]) (aA Link.cell [(⟨u7,u8,u9,v0,v1,u1⟩:Link)]),(by intro i hi j hj;match i,j,hi,hj with|0,0,_,_=>rfl|0,1,_,_=>rfl|0,2,_,_=>rfl|0,3,_,_=>rfl|0,4,_,_=>rfl|0,5,_,_=>rfl)⟩, .e (u0.links.length),0,1, .pf ⟨(u0.links++[(⟨u7,u8,u9,v0,v1,u1⟩:Link)]).length=u0.links.length+[(⟨u7,u8,u9,v0,v1,u1⟩:Link)].length,List.length_append⟩, .pf ⟨aH (u0.links.length+[(⟨u7,u8,u9,v0,v1,u1⟩:Link)].length) 6 (nW (aA Link.cell u0.links) u0.links.length (aA Link.cell [(⟨u7,u8,u9,v0,v1,u1⟩:Link)])) (aA Link.cell (u0.links++[(⟨u7,u8,u9,v0,v1,u1⟩:Link)])),bG _ _ _ _⟩]<| .r<| .im (.re 0 1 1 45)<| .im (.re 0 3 3 46)<| .en (some ((k18 r_ v2),(⟨u0.buses,u0.sources,(u0.links++[(⟨u7,u8,u9,v0,v1,u1⟩:Link)]),u0.racks⟩:au))) [] [(45,4),(44,5),(46,6)]))
  (.a5 (k19 r_) (k20 r_) (k21 r_) (k22 r_) (k23 r_)<| .pn qw 20 [] [0,1,2,3] {fr:=[(22,33)]} [0,10,1,9,8,2,7,3,6,4,5]<| .e none))
  (.a5 (k19 r_) (k20 r_) (k21 r_) (k22 r_) (k23 r_)<| .pn qw 16 [] [0,1,2,3] {fr:=[(22,33)]} [0,9,1,8,7,2,6,3,5,4]<| .e none))
  (.a5 (k19 r_) (k20 r_) (k21 r_) (k22 r_) (k23 r_)<| .pn qw 12 [] [0,1,2,3] {fr:=[(22,33)]} [0,8,1,7,6,2,5,3,4]<| .e none))
  (.a5 (k19 r_) (k20 r_) (k21 r_) (k22 r_) (k23 r_)<| .pn qw 7 [] [0,1,2,3] {fr:=[(22,32)]} [0,6,1,5,2,3,4]<| .e none))
  (.a5 (k19 r_) (k20 r_) (k21 r_) (k22 r_) (k23 r_)<| .pn qw 3 [] [0,1,2,3] {fr:=[(22,32)]} [0,5,1,2,3,4]<| .e none))
  (.pn qw 3 [] [0,1,2,3] {} []<| .e none))
  (.r<| .it (.cp 3 (dK (decide ((r_.length:Int)=5))) (fun x0=>
  .r<| .cp 8 (aT (at' r_ 1)) (fun v5=>
  .cp 12 (aT (at' r_ 2)) (fun v6=>
  .cp 17 (aT (at' r_ 3)) (fun v7=>
  .cp 21 (aT (at' r_ 4)) (fun v8=>
  .a6 (k19 r_) (k20 r_) (k21 r_) (k22 r_) ((u0.racks.length+[(k25 v5 v6 v7 v8)].length)*32≤140737488355328) (u0.racks.length+[(k25 v5 v6 v7 v8)].length≤4611686018427387904)<| .rg {an:=[(23, .arr [(k25 v5 v6 v7 v8)].length (aA aG.cell [(k25 v5 v6 v7 v8)])),(24, .arr (k26 v5 v6 v7 v8 u0).length (aA aG.cell (k26 v5 v6 v7 v8 u0)))],fr:=[(23,47),(24,48)]} [0,9,1,8,2,7,3,6, .pf ⟨[(k25 v5 v6 v7 v8)].length=1,rfl⟩, .pf ⟨aH 1 4 (jX 4 [(.int .i64 v5),(.int .i64 v6),(.int .i64 v7),(.int .i64 v8)]) (aA aG.cell [(k25 v5 v6 v7 v8)]),(by intro i hi j hj;match i,j,hi,hj with|0,0,_,_=>rfl|0,1,_,_=>rfl|0,2,_,_=>rfl|0,3,_,_=>rfl)⟩, .e (u0.racks.length),4,5, .pf ⟨(k26 v5 v6 v7 v8 u0).length=u0.racks.length+[(k25 v5 v6 v7 v8)].length,List.length_append⟩, .pf ⟨aH (u0.racks.length+[(k25 v5 v6 v7 v8)].length) 4 (nW (aA aG.cell u0.racks) u0.racks.length (aA aG.cell [(k25 v5 v6 v7 v8)])) (aA aG.cell (k26 v5 v6 v7 v8 u0)),bG _ _ _ _⟩]<| .r<| .im (.re 0 1 1 49)<| .im (.re 0 2 2 50)<| .en (some ((k18 r_ v2),(⟨u0.buses,u0.sources,u0.links,(k26 v5 v6 v7 v8 u0)⟩:au))) [] [(49,4),(50,5),(48,6)])
  (.a4 (k19 r_) (k20 r_) (k21 r_) (k22 r_)<| .pn qw 21 [] [0,1,2,3] {} [0,7,1,6,2,5,3,4]<| .e none))
  (.a4 (k19 r_) (k20 r_) (k21 r_) (k22 r_)<| .pn qw 17 [] [0,1,2,3] {} [0,6,1,5,2,4,3]<| .e none))
  (.a4 (k19 r_) (k20 r_) (k21 r_) (k22 r_)<| .pn qw 12 [] [0,1,2,3] {} [0,5,1,4,2,3]<| .e none))
  (.a4 (k19 r_) (k20 r_) (k21 r_) (k22 r_)<| .pn qw 8 [] [0,1,2,3] {} [0,4,1,2,3]<| .e none))
  (.pn qw 3 [] [0,1,2,3] {} []<| .e none))
  (.r<| .im (.re 0 1 1 51)<| .im (.re 0 2 2 52)<| .im (.re 0 3 3 53)<| .en (some ((k18 r_ v2),u0)) [] [(51,4),(52,5),(53,6)])))))
  (.pn qw 13 [] [0,1,2,3] {} []<| .e none))
section
variable (o0:Int) (o1:(List Source)) (o2:(List Link)) (o3:(List aG))
abbrev k27:List (Nat × Option Ob):=[(17,some (.cells 27 [(cI o0),(.own 54 false o1.length),(.own 55 false o2.length),(.own 56 false o3.length)])),(19,none),(20,none),(21,none),(54,some (dG 67 5 Source.cell o1)),(55,some (dG 73 6 Link.cell o2)),(56,some (dG 76 4 aG.cell o3))]
end
theorem vJ (u7:ByteArray):iA Tryz.prog 50 [(sD (.str u7))] [] (fun r=>(.eG [(.agg [(cI r.1.buses),(.own 0 false r.1.sources.length),(.own 1 false r.1.links.length),(.own 2 false r.1.racks.length)]),(sI r.2.1),(sB r.2.2)])) (fun r=>[(0,some (dG 67 5 Source.cell r.1.sources)),(1,some (dG 73 6 Link.cell r.1.links)),(2,some (dG 76 4 aG.cell r.1.racks)),(3,none)]) (mh u7):=
  VB tT mX Tryz.func50 (p:=YT (jS Tryz.f50)) (pv:=qw) (β:=Unit) (γ:=(Int × (List Source) × (List Link) × (List aG) × Bool × Int)) (δ:=(Int × (List Source) × (List Link) × (List aG) × Int)) (
  .rg {fr:=[(0,22),(2,23)]} []<| .im (.nH 22 1 24 67 5 (aA Source.cell ([]:List Source)))<| .im (.nH 22 2 25 73 6 (aA Link.cell ([]:List Link)))<| .im (.nH 22 3 26 76 4 (aA aG.cell ([]:List aG)))<| .en () [] [(22,17),(23,18),(24,19),(25,20),(26,21)])
  ⟨[0],[],fun z_=>[(2,(vP 17 0)),(3,(vI 0)),(4,(vP 18 0))],fun z_=>[(17,some (.cells 27 [(cI 0),(.own 19 false (([]:List Source).length)),(.own 20 false (([]:List Link).length)),(.own 21 false (([]:List aG).length))])),(18,some (.cells 4 [(cB false)])),(19,some (dG 67 5 Source.cell ([]:List Source))),(20,some (dG 73 6 Link.cell ([]:List Link))),(21,some (dG 76 4 aG.cell ([]:List aG)))]⟩ (fun z_=>
  .r<| .im (.re 17 1 19 63)<| .im (.re 17 2 20 64)<| .im (.re 17 3 21 65)<| .lp (σ:=(Int × (List Source) × (List Link) × (List aG) × ByteArray × Int × Int)) (β:=(Int × (List Source) × (List Link) × (List aG) × Int)) (0,([]:List Source),([]:List Link),([]:List aG),u7,0,0) [] [(63,54),(64,55),(65,56)] ⟨[2,4],[18],fun(o0,o1,o2,o3,u4,n,u5)=>[(0,(vD (.str u4))),(3,(vI n)),(5,(vI u5))],fun(o0,o1,o2,o3,u4,n,u5)=>(k27 o0 o1 o2 o3)⟩ ⟨[2,4],[18],fun(u6,u0,u1,u2,n1)=>[(3,(vI n1))],fun(u6,u0,u1,u2,n1)=>(k27 u6 u0 u1 u2)⟩
  (fun(o0,o1,o2,o3,u4,n,u5)=> .r<| .it (.cl 1 (dm u4 ⟨#[10]⟩) fun r_=> .r<| .cp 1 (dK r_.2.2) (fun u8=>
  .r<| .cp 2 (X3 [(0,17),(1,54),(2,55),(3,56),(4,60),(5,61),(6,62)] (Ba u5 r_.1 (⟨o0,o1,o2,o3⟩:au))) (fun u3=>
  .r<| .r<| .r<| .en (.next (u3.2.buses,u3.2.sources,u3.2.links,u3.2.racks,r_.2.1,(k8 n),u3.1)) [] [(60,54),(61,55),(62,56)])
  (.pn qw 2 [2,3,4] [17,18,19,20,21,54,55,56] {} []<| .en (.done (.ret (.inr (o0,o1,o2,o3,n)))) [] [(54,36),(55,37),(56,38)]))
  (.pn qw 1 [2,3,4] [17,18,19,20,21,54,55,56] {} []<| .en (.done (.ret (.inr (o0,o1,o2,o3,n)))) [] [(54,36),(55,37),(56,38)]))
  (.e (.done (.brk (o0,o1,o2,o3,n)))))
  (fun(u6,u0,u1,u2,n1)=> .r<| .en (.inl (u6,u0,u1,u2,(decide (0<n1)),n1)) [] [(54,36),(55,37),(56,38)]))
  (fun z_=> ⟨[2,4],[],fun w_=>[(3,(vI w_.2.2.2.2.2))],fun w_=>[(17,some (.cells 27 [(cI w_.1),(.own 36 false w_.2.1.length),(.own 37 false w_.2.2.1.length),(.own 38 false w_.2.2.2.1.length)])),(18,some (.cells 4 [(cB w_.2.2.2.2.1)])),(19,none),(20,none),(21,none),(36,some (dG 67 5 Source.cell w_.2.1)),(37,some (dG 73 6 Link.cell w_.2.2.1)),(38,some (dG 76 4 aG.cell w_.2.2.2.1))]⟩) (fun z_=> ⟨[2,4],[18],fun x=>[(3,(vI x.2.2.2.2))],fun x=>[(17,some (.cells 27 [(cI x.1),(.own 36 false x.2.1.length),(.own 37 false x.2.2.1.length),(.own 38 false x.2.2.2.1.length)])),(19,none),(20,none),(21,none),(36,some (dG 67 5 Source.cell x.2.1)),(37,some (dG 73 6 Link.cell x.2.2.1)),(38,some (dG 76 4 aG.cell x.2.2.2.1))]⟩) (g:=92) (cargs:=(fun z_=>[(.one (.ptr 18 0))])) (chin:=(fun z_ w_=>[(18,some (.cells 4 [(cB w_.2.2.2.2.1)]))])) (chd:=(fun z_ w_=>[(18,some (.cells 4 [(cB w_.2.2.2.2.1)]))])) (cpin:=(fun z_ x=>[(18,some (.cells 4 [(cB false)]))])) (cpd:=(fun z_ x=>[(18,some (.cells 4 [(cB false)]))]))
  (fun z_ w_=>Qr 18 _) (fun z_ x=>Qp 18 _)
  (fun z_ w_=>
  .en ((⟨w_.1,w_.2.1,w_.2.2.1,w_.2.2.2.1⟩:au),w_.2.2.2.2.2,w_.2.2.2.2.1) [18] [(36,0),(37,1),(38,2),(17,3)]) (fun z_ x=>
  .en ((⟨x.1,x.2.1,x.2.2.1,x.2.2.2.1⟩:au),x.2.2.2.2,false) [18] [(36,0),(37,1),(38,2),(17,3)])
  (by kernel_rfl) (by kernel_rfl) (by kernel_rfl) (by kernel_rfl) (fun _=>by kernel_rfl) (fun _ _=> ⟨by kernel_rfl,by kernel_rfl,trivial⟩) (fun _ _=> ⟨by kernel_rfl,by kernel_rfl,trivial⟩) (fun _ _=>by kernel_rfl) (fun _ _=>by kernel_rfl) (by kernel_rfl)
theorem uO (a:(List Source)) (b:(List Source)):iA Tryz.prog 52 [(sD (bK none 5 Source.cell a)),(sD (bK none 5 Source.cell b))] [] (fun r=>(vB r)) (fun _=>[]) (jl a b):=
  jM tT mX Tryz.func52 (
  .r<| .r<| .it (.r<| .e false)
  (.r<| .lp (σ:=Int) (β:=Unit) (0) [] [] ⟨[0,1],[],fun i=>[(5,(vI i))],fun i=>[]⟩ ⟨[],[],fun _=>[],fun _=>[]⟩
  (fun i=> .r<| .it (.a2 ((0:Int)≤i∧i<(a.length:Int)) ((0:Int)≤i∧i<(b.length:Int))<| .rg {} [0,1]<| .it (.r<| .e (.done (.ret false)))
  (.r<| .e (.next (k8 i))))
  (.e (.done (.brk ()))))
  (fun _=> .r<| .e true)))
theorem wY (a:(List aW)) (b:(List aW)):iA Tryz.prog 126 [(sD (bK none 2 aW.cell a)),(sD (bK none 2 aW.cell b))] [] (fun r=>(vB r)) (fun _=>[]) (j4 a b):=
  jM tT mX Tryz.func126 (
  .r<| .r<| .it (.r<| .e false)
  (.r<| .lp (σ:=Int) (β:=Unit) (0) [] [] ⟨[0,1],[],fun i=>[(5,(vI i))],fun i=>[]⟩ ⟨[],[],fun _=>[],fun _=>[]⟩
  (fun i=> .r<| .it (.a2 ((0:Int)≤i∧i<(a.length:Int)) ((0:Int)≤i∧i<(b.length:Int))<| .rg {} [0,1]<| .it (.r<| .e (.done (.ret false)))
  (.r<| .e (.next (k8 i))))
  (.e (.done (.brk ()))))
  (fun _=> .r<| .e true)))
section
variable (a:Link) (b:Link)
abbrev k28:=(bif (bif (bif (bif (decide (a.a=b.a))then(decide (a.b=b.b))else false)then(decide (a.kind=b.kind))else false)then(decide (a.most=b.most))else false)then(decide (a.ohm=b.ohm))else false)
end
theorem yx (a:Link) (b:Link):iA Tryz.prog 99 [(.agg (k9 a)),(.agg (k9 b))] [] (fun r=>(vB r)) (fun _=>[]) (lq a b):=
  jM tT mX Tryz.func99 (
  .rg {fr:=[(0,2),(1,3)],fz:=[2,3]} []<| .cg 38 [((k28 a b),true)] (wY a.trip b.trip) fun r_=> .r<| .e (bif (k28 a b)then r_ else false))
theorem wL (a:(List Link)) (b:(List Link)):iA Tryz.prog 53 [(sD (bK none 6 Link.cell a)),(sD (bK none 6 Link.cell b))] [] (fun r=>(vB r)) (fun _=>[]) (j5 a b):=
  jM tT mX Tryz.func53 (
  .r<| .r<| .it (.r<| .e false)
  (.r<| .lp (σ:=Int) (β:=Unit) (0) [] [] ⟨[0,1],[],fun i=>[(5,(vI i))],fun i=>[]⟩ ⟨[],[],fun _=>[],fun _=>[]⟩
  (fun i=> .r<| .it (.cl 8 (yx (at' a i.toNat) (at' b i.toNat)) fun r_=> .a2 (k12 a i) (k12 b i)<| .rg {} [0,1,2]<| .it (.r<| .e (.done (.ret false)))
  (.r<| .e (.next (k8 i))))
  (.e (.done (.brk ()))))
  (fun _=> .r<| .e true)))
theorem yg (a:(List aG)) (b:(List aG)):iA Tryz.prog 54 [(sD (bK none 4 aG.cell a)),(sD (bK none 4 aG.cell b))] [] (fun r=>(vB r)) (fun _=>[]) (ko a b):=
  jM tT mX Tryz.func54 (
  .r<| .r<| .it (.r<| .e false)
  (.r<| .lp (σ:=Int) (β:=Unit) (0) [] [] ⟨[0,1],[],fun i=>[(5,(vI i))],fun i=>[]⟩ ⟨[],[],fun _=>[],fun _=>[]⟩
  (fun i=> .r<| .it (.a2 ((0:Int)≤i∧i<(a.length:Int)) ((0:Int)≤i∧i<(b.length:Int))<| .rg {} [0,1]<| .it (.r<| .e (.done (.ret false)))
  (.r<| .e (.next (k8 i))))
  (.e (.done (.brk ()))))
  (fun _=> .r<| .e true)))
theorem wV (a:au) (b:au):iA Tryz.prog 20 [(.agg (k1 a)),(.agg (k1 b))] [] (fun r=>(vB r)) (fun _=>[]) (j6 a b):=
  jM tT mX Tryz.func20 (
  .rg {fr:=[(0,2),(1,3)],fz:=[2,3]} []<| .cg 10 [((decide (a.buses=b.buses)),true)] (uO a.sources b.sources) fun r_=> .cg 17 [((bif (decide (a.buses=b.buses))then r_ else false),true)] (wL a.links b.links) fun u0=> .cg 24 [((bif (bif (decide (a.buses=b.buses))then r_ else false)then u0 else false),true)] (yg a.racks b.racks) fun u1=> .r<| .e (bif (bif (bif (decide (a.buses=b.buses))then r_ else false)then u0 else false)then u1 else false))
section
variable (s_:State) (p:au)
abbrev Uj:List CV:=[(.d (bK none 1 af s_.closed)),(.d (bK none 1 af s_.locked)),(.d (bK none 1 af s_.badLink)),(.d (bK none 1 af s_.on_)),(.d (bK none 1 af s_.badSource)),(.d (bK none 1 af s_.earthed)),(.d (bK none 1 af s_.badBus))]
abbrev Sq:List SV:=[(.agg (k1 p)),(.agg (Uj s_))]
abbrev VQ:=(⟨s_.closed,(p.links.length:Int)⟩:bR)
abbrev Vw:=(⟨s_.locked,(p.links.length:Int)⟩:bR)
abbrev V7:=(⟨s_.badLink,(p.links.length:Int)⟩:bR)
abbrev V9:=(⟨s_.on_,(p.sources.length:Int)⟩:bR)
abbrev Wu:=(⟨s_.badSource,(p.sources.length:Int)⟩:bR)
abbrev Yq:=(aA bR.cell [(VQ s_ p),(Vw s_ p),(V7 s_ p),(V9 s_ p),(Wu s_ p),(⟨s_.earthed,p.buses⟩:bR),(⟨s_.badBus,p.buses⟩:bR)])
end
theorem bO (p:au) (s_:State):iA Tryz.prog 37 (Sq s_ p) [] (fun r=>(vI r)) (fun _=>[]) (bI p s_):=
  jM tT mX Tryz.func37 (
  .rg {fr:=[(0,11),(1,12)]} []<| .cl 1 (fE p) fun r_=> .r<| .r<| .it (.r<| .e r_)
  (.r<| .rg {an:=[(30, .arr [(VQ s_ p),(Vw s_ p),(V7 s_ p),(V9 s_ p),(Wu s_ p),(⟨s_.earthed,p.buses⟩:bR),(⟨s_.badBus,p.buses⟩:bR)].length (Yq s_ p))],fr:=[(30,13)],fz:=[12]} [.pf ⟨[(VQ s_ p),(Vw s_ p),(V7 s_ p),(V9 s_ p),(Wu s_ p),(⟨s_.earthed,p.buses⟩:bR),(⟨s_.badBus,p.buses⟩:bR)].length=7,rfl⟩, .pf ⟨aH 7 2 (jX 2 [(bK none 1 af s_.closed),(.int .i64 (p.links.length:Int)),(bK none 1 af s_.locked),(.int .i64 (p.links.length:Int)),(bK none 1 af s_.badLink),(.int .i64 (p.links.length:Int)),(bK none 1 af s_.on_),(.int .i64 (p.sources.length:Int)),(bK none 1 af s_.badSource),(.int .i64 (p.sources.length:Int)),(bK none 1 af s_.earthed),(.int .i64 p.buses),(bK none 1 af s_.badBus),(.int .i64 p.buses)]) (Yq s_ p),(by intro i hi j hj;match i,j,hi,hj with|0,0,_,_=>rfl|0,1,_,_=>rfl|1,0,_,_=>rfl|1,1,_,_=>rfl|2,0,_,_=>rfl|2,1,_,_=>rfl|3,0,_,_=>rfl|3,1,_,_=>rfl|4,0,_,_=>rfl|4,1,_,_=>rfl|5,0,_,_=>rfl|5,1,_,_=>rfl|6,0,_,_=>rfl|6,1,_,_=>rfl)⟩]<| .lp (σ:=Int) (β:=Unit) (0) [] [] ⟨[2,3,53,54],[11,13],fun u1=>[(55,(vI u1))],fun u1=>[]⟩ ⟨[2,3],[11],fun _=>[],fun _=>[]⟩
  (fun u1=> .r<| .it (.a1 ((0:Int)≤u1∧u1<([(VQ s_ p),(Vw s_ p),(V7 s_ p),(V9 s_ p),(Wu s_ p),(⟨s_.earthed,p.buses⟩:bR),(⟨s_.badBus,p.buses⟩:bR)].length:Int))<| .rg {fr:=[(2,17)],fz:=[17]} [0, .t 0 u1 ([(VQ s_ p),(Vw s_ p),(V7 s_ p),(V9 s_ p),(Wu s_ p),(⟨s_.earthed,p.buses⟩:bR),(⟨s_.badBus,p.buses⟩:bR)].length)]<| .r<| .it (.r<| .e (.done (.ret 9)))
  (.r<| .e (.next (k8 u1))))
  (.e (.done (.brk ()))))
  (fun _=> .r<| .lp (σ:=Int) (β:=Unit) (0) [] [] ⟨[3,67,68],[],fun u0=>[(69,(vI u0))],fun u0=>[]⟩ ⟨[],[],fun _=>[],fun _=>[]⟩
  (fun u0=> .r<| .it (.a1 ((0:Int)≤u0∧u0<(p.links.length:Int))<| .rg {fr:=[(3,21)],fz:=[21]} []<| .a2 ((gB [((decide (((at' p.links u0.toNat).kind)=1)),true)]=true→(0:Int)≤u0∧u0<(s_.closed.length:Int))) ((gB [((!(at' s_.closed u0.toNat)),false),((decide (((at' p.links u0.toNat).kind)=1)),true)]=true→(0:Int)≤u0∧u0<(s_.locked.length:Int)))<| .rg {} [0,1]<| .it (.r<| .e (.done (.ret 9)))
  (.r<| .e (.next (k8 u0))))
  (.e (.done (.brk ()))))
  (fun _=> .r<| .e 0))))
theorem lQ (p:au) (s_:State):iA Tryz.prog 85 (Sq s_ p) [] (fun r=>(vD (.fn 110 2 (xC [(Oa [(.int .i64 r.1),(bK none 5 Source.cell r.2.1),(bK none 6 Link.cell r.2.2.1),(bK none 4 aG.cell r.2.2.2.1)] 0),(Oa [(bK none 1 af r.2.2.2.2.1),(bK none 1 af r.2.2.2.2.2.1),(bK none 1 af r.2.2.2.2.2.2.1),(bK none 1 af r.2.2.2.2.2.2.2.1),(bK none 1 af r.2.2.2.2.2.2.2.2.1),(bK none 1 af r.2.2.2.2.2.2.2.2.2.1),(bK none 1 af r.2.2.2.2.2.2.2.2.2.2)] 0)])))) (fun _=>[]) (nT p s_):=
  jM tT mX Tryz.func85 (
  .rg {fr:=[(0,2),(1,3)],fz:=[2,3]} []<| .r<| .e (p.buses,p.sources,p.links,p.racks,s_.closed,s_.locked,s_.badLink,s_.on_,s_.badSource,s_.earthed,s_.badBus))
noncomputable def iL:gY:=⟨[22],Qj ([1,1,0,1,0]++[0]) (jS Tryz.f38),Qj ([1,1,0,1,0]++[1]) (jS Tryz.f38),125,[]⟩
section
variable (g:aF)
abbrev XE:Ob:=(J6 3 3 false false 1 1 (aD .i64) (aD .i64) g.head)
abbrev Yb:List (Nat × Option Ob):=[(0,some (XE g))]
end
theorem aU (g:aF) (x:Int):iA Tryz.prog 87 [(.agg [(.mp 0)]),(sI x)] (Yb g) (fun r=>(vI r)) (fun r=>(Yb g)) (di g x):=
  jM tT mX Tryz.func87 (
  .rg {fr:=[(0,2)]} []<| .lp (σ:=Int) (β:=Unit) (x) [] [] ⟨[2],[0,2],fun x1=>[(1,(vI x1))],fun x1=>[]⟩ ⟨[],[],fun _=>[],fun _=>[]⟩
  (fun x1=> .rg {an:=[(3, .look (aO dS x1 g.head).isSome [(cI ((aO dS x1 g.head).getD 0))])]} [.pf ⟨dY [.i .i64] 1 1 g.head.length (iN (aD .i64) g.head) (iZ (aD .i64) g.head) [(.int .i64 x1)] [(.d (.int .i64 0))] (aO dS x1 g.head).isSome [(cI ((aO dS x1 g.head).getD 0))],cZ (fun _=>rfl) (fun _ _=>rfl) g.head x1 0 rfl rfl rfl⟩]<| .r<| .it (.r<| .e (.done (.ret x1)))
  (.r<| .e (.next ((aO dS x1 g.head).getD 0))))
  (fun _=> .no))
theorem rD (g:aF) (a:Int) (b:Int):iA Tryz.prog 86 [(.agg [(.mp 0)]),(sI a),(sI b)] (Yb g) (fun r=>(.eG [])) (fun r=>[(0,some (J6 3 3 false false 1 1 (aD .i64) (aD .i64) r))]) (mV g a b):=
  jM tT mX Tryz.func86 (
  .rg {fr:=[(0,2)]} []<| .cr 2 (aU g a) fun r_=> .cr 5 (aU g b) fun u0=> .r<| .r<| .it (.rg {an:=[(4, .map (ay dS r_ u0 g.head).length (iN (aD .i64) (ay dS r_ u0 g.head)) (iZ (aD .i64) (ay dS r_ u0 g.head)) [])]} [.pf ⟨gD [.i .i64] 1 1 g.head.length (iN (aD .i64) g.head) (iZ (aD .i64) g.head) [(.int .i64 r_)] [(cI u0)] [] (ay dS r_ u0 g.head).length (iN (aD .i64) (ay dS r_ u0 g.head)) (iZ (aD .i64) (ay dS r_ u0 g.head)),fK (fun _=>rfl) (fun _ _=>rfl) g.head r_ u0 rfl rfl⟩]<| .e (ay dS r_ u0 g.head))
  (.e g.head))
section
variable (o_:aF)
abbrev Ye:Nat × Option Ob:=(0,some (.loop iL 0 [(5,(vP 1 0))]))
abbrev Yn:List (Nat × Option Ob):=[Ye,(1,some (.cells 157 [(.mp 2)])),(2,some (XE o_))]
end
theorem kP (u0:Int) (u1:Int) (u2:Int) (u3:Int) (u4:Int) (u5:(List aW)) (o_:aF):UJ Tryz.prog 0 [(.agg [(cI u0),(cI u1),(cI u2),(cI u3),(cI u4),(.d (bK none 2 aW.cell u5))])] (Yn o_) (fun _=>vB true) (fun r=>[Ye,(1,some (.cells 157 [(.mp 2)])),(2,some (J6 3 3 false false 1 1 (aD .i64) (aD .i64) r.head))]) (jw u0 u1 u2 u3 u4 u5 o_):=
  YX tT mX iL ⟨[5],[0,1,2],fun _=>[(6,(vD (Oa [(.int .i64 u0),(.int .i64 u1),(.int .i64 u2),(.int .i64 u3),(.int .i64 u4),(bK none 2 aW.cell u5)] 0)))],fun _=>[]⟩ (.rg {fr:=[(0,4)],fz:=[4]} []<| .e ())
  (.cl 5 (oU [(0,2)] (rD o_ u0 u1)) fun r_=> .r<| .e (⟨r_⟩:aF))
section
variable (o0:(List (Int × Int))) (x2:(List Bool)) (t9:Int) (u2:(List Bool)) (u1:(List Bool)) (u0:(List Link))
abbrev Xt:Ob:=(J6 3 3 false false 1 1 (aD .i64) (aD .i64) o0)
abbrev YB:=(bif (bif (at' x2 t9.toNat)then(!(at' u2 t9.toNat))else false)then(!(at' u1 (((at' u0 t9.toNat).a).toNat)))else false)
abbrev VN:=((0:Int)≤t9∧t9<(x2.length:Int))
abbrev Ym:=((gB [((bif (at' x2 t9.toNat)then(!(at' u2 t9.toNat))else false),true)]=true→(0:Int)≤(at' u0 t9.toNat).a∧(at' u0 t9.toNat).a<(u1.length:Int)))
abbrev YF:=((gB [((YB x2 t9 u2 u1 u0),true)]=true→(0:Int)≤(at' u0 t9.toNat).b∧(at' u0 t9.toNat).b<(u1.length:Int)))
end
theorem qm (x1:Int) (u3:(List Source)) (u0:(List Link)) (u4:(List aG)) (x2:(List Bool)) (u5:(List Bool)) (u2:(List Bool)) (u6:(List Bool)) (u7:(List Bool)) (u8:(List Bool)) (u1:(List Bool)) (o_:aF):iA Tryz.prog 110 [(.one (.yl 0)),(sD (k2 x1 u3 u0 u4)),(sD (Oa [(bK none 1 af x2),(bK none 1 af u5),(bK none 1 af u2),(bK none 1 af u6),(bK none 1 af u7),(bK none 1 af u8),(bK none 1 af u1)] 0))] (Yn o_) (fun r=>(.eG [])) (fun r=>[Ye,(1,some (.cells 157 [(.mp 2)])),(2,some (J6 3 3 false false 1 1 (aD .i64) (aD .i64) r.head))]) (mF x1 u3 u0 u4 x2 u5 u2 u6 u7 u8 u1 o_):=
  jM tT mX Tryz.func110 (
  .r<| .lp (σ:=((List (Int × Int)) × Int)) (β:=(List (Int × Int))) (o_.head,0) [] [] ⟨[0,2,7,8],[0,1],fun(o0,t9)=>[(9,(vI t9))],fun(o0,t9)=>[(2,some (Xt o0))]⟩ ⟨[],[0,1],fun o01=>[],fun o01=>[(2,some (J6 3 3 false false 1 1 (aD .i64) (aD .i64) o01))]⟩
  (fun(o0,t9)=> .r<| .it (.a1 (k12 u0 t9)<| .rg {fr:=[(3,10)],fz:=[10]} []<| .fk (bif (YB x2 t9 u2 u1 u0)then(!(at' u1 (((at' u0 t9.toNat).b).toNat)))else false) (.cy 34 (kP ((at' u0 t9.toNat).a) ((at' u0 t9.toNat).b) ((at' u0 t9.toNat).kind) ((at' u0 t9.toNat).most) ((at' u0 t9.toNat).ohm) ((at' u0 t9.toNat).trip) (⟨o0⟩:aF)) fun r_=> .a4 (VN x2 t9) ((gB [((at' x2 t9.toNat),true)]=true→(0:Int)≤t9∧t9<(u2.length:Int))) (Ym x2 t9 u2 u1 u0) (YF x2 t9 u2 u1 u0)<| .rg {ov:=[(31,true,5)]} [0,1,2,3, .k 4]<| .f<| .r<| .e (.next (r_.head,(k8 t9))))
  (.a4 (VN x2 t9) ((gB [((at' x2 t9.toNat),true)]=true→(0:Int)≤t9∧t9<(u2.length:Int))) (Ym x2 t9 u2 u1 u0) (YF x2 t9 u2 u1 u0)<| .rg {ov:=[(31,false,4)],sk:=[32,33,34,35]} [0,1,2,3]<| .f<| .r<| .e (.next (o0,(k8 t9)))))
  (.e (.done (.brk o0))))
  (fun o01=> .e (⟨o01⟩:aF)))
section
variable (r_:(Int × (List Source) × (List Link) × (List aG) × (List Bool) × (List Bool) × (List Bool) × (List Bool) × (List Bool) × (List Bool) × (List Bool))) (u1:(List ah)) (u2:(List (Int × Int))) (u3:Int) (s_:State) (u0:Int) (u5:(List ah)) (u7:Int) (p:au) (u6:Int) (u4:(List (Int × Int)))
abbrev Yr:=(oU [(0,59),(1,58),(2,57)] (qm r_.1 r_.2.1 r_.2.2.1 r_.2.2.2.1 r_.2.2.2.2.1 r_.2.2.2.2.2.1 r_.2.2.2.2.2.2.1 r_.2.2.2.2.2.2.2.1 r_.2.2.2.2.2.2.2.2.1 r_.2.2.2.2.2.2.2.2.2.1 r_.2.2.2.2.2.2.2.2.2.2 (⟨([]:(List (Int × Int)))⟩:aF)))
abbrev Xo:List (Nat × Option Ob):=[(60,some (.rows 94 2 u1.length (kQ ah.ev u1) none)),(61,some (Xt u2))]
abbrev Xv:=((0:Int)≤u3∧u3<(s_.badBus.length:Int))
abbrev qM:=((aO dS u0 u2).getD 0)
abbrev BD:List CV:=[(cI (qM u2 u0))]
abbrev Fv:=(ay dS u0 (u1.length:Int) u2)
abbrev Od:=(iN (aD .i64) (Fv u1 u2 u0))
abbrev N8:=(iZ (aD .i64) (Fv u1 u2 u0))
abbrev XB:=((u1.length+[(⟨([]:List Int),([]:List Int)⟩:ah)].length)*48≤140737488355328)
abbrev Xw:=(u1.length+[(⟨([]:List Int),([]:List Int)⟩:ah)].length≤4611686018427387904)
abbrev EA:=(u1++[(⟨([]:List Int),([]:List Int)⟩:ah)])
abbrev Rs:=(kQ ah.ev (EA u1))
abbrev QE:=(aO dS u0 (Fv u1 u2 u0))
abbrev Ho:=((QE u1 u2 u0).getD 0)
abbrev Te:List CV:=[(cI (Ho u1 u2 u0))]
abbrev WW:=((0:Int)≤(Ho u1 u2 u0)∧(Ho u1 u2 u0)<((EA u1).length:Int))
abbrev Yk:=((Ho u1 u2 u0).toNat)
abbrev Yw:=(at' (EA u1) (Yk u1 u2 u0))
abbrev Oc:=((Yw u1 u2 u0).buses)
abbrev Vk:=((Oc u1 u2 u0).length+[u3].length)
abbrev Xd:=((Vk u1 u2 u3 u0)*8≤140737488355328)
abbrev Xg:=((Oc u1 u2 u0).length+[u3].length≤4611686018427387904)
abbrev N9:=((Oc u1 u2 u0)++[u3])
abbrev RL:=(aA (aD .i64) (N9 u1 u2 u3 u0))
abbrev UQ:=((EA u1).set (Yk u1 u2 u0) (⟨(N9 u1 u2 u3 u0),(Yw u1 u2 u0).sources⟩:ah))
abbrev SA:=(kQ ah.ev (UQ u1 u2 u3 u0))
abbrev SS:=((EA u1).length)
abbrev NZ:=(jX 1 [(.int .i64 u3)])
abbrev WX:=((Oc u1 u2 u0).length)
abbrev W9:=(nW (aA (aD .i64) (Oc u1 u2 u0)) (Oc u1 u2 u0).length (aA (aD .i64) [u3]))
abbrev WT:=((N9 u1 u2 u3 u0).length)
abbrev Xh:=(SI (Rs u1) (Yk u1 u2 u0) 0 (.row 3 1 (N9 u1 u2 u3 u0).length (RL u1 u2 u3 u0)))
abbrev Yo:=((some ((Ho u1 u2 u0).toNat,0,CV.own 88 false (Oc u1 u2 u0).length)):Option (Nat × Nat × CV))
abbrev WZ:=((UQ u1 u2 u3 u0),(Fv u1 u2 u0),(k8 u3))
abbrev SG:=((0:Int)≤(qM u2 u0)∧(qM u2 u0)<(u1.length:Int))
abbrev Oe:=((at' u1 ((qM u2 u0).toNat)).buses)
abbrev WJ:=((Oe u1 u2 u0).length+[u3].length)
abbrev WR:=((WJ u1 u2 u3 u0)*8≤140737488355328)
abbrev Xb:=((Oe u1 u2 u0).length+[u3].length≤4611686018427387904)
abbrev Og:=((Oe u1 u2 u0)++[u3])
abbrev Qu:=(aA (aD .i64) (Og u1 u2 u3 u0))
abbrev UN:=(u1.set ((qM u2 u0).toNat) (⟨(Og u1 u2 u3 u0),(at' u1 ((qM u2 u0).toNat)).sources⟩:ah))
abbrev Tk:=(kQ ah.ev (UN u1 u2 u3 u0))
abbrev Xe:=((Oe u1 u2 u0).length)
abbrev Xf:=(nW (aA (aD .i64) (Oe u1 u2 u0)) (Oe u1 u2 u0).length (aA (aD .i64) [u3]))
abbrev Xu:=((Og u1 u2 u3 u0).length)
abbrev WS:=(SI (kQ ah.ev u1) ((qM u2 u0).toNat) 0 (.row 3 1 (Og u1 u2 u3 u0).length (Qu u1 u2 u3 u0)))
abbrev Yp:=((some ((qM u2 u0).toNat,0,CV.own 91 false (Oe u1 u2 u0).length)):Option (Nat × Nat × CV))
abbrev WY:=((UN u1 u2 u3 u0),u2,(k8 u3))
abbrev Xx:List (Nat × Option Ob):=[(60,some (.rows 94 2 u5.length (kQ ah.ev u5) none))]
abbrev Xa:=((0:Int)≤u7∧u7<(p.sources.length:Int))
abbrev WU:=((0:Int)≤u7∧u7<(s_.on_.length:Int))
abbrev Xq:=((gB [((at' s_.on_ u7.toNat),true)]=true→(0:Int)≤u7∧u7<(s_.badSource.length:Int)))
abbrev Ty:=((bif (at' s_.on_ u7.toNat)then(!(at' s_.badSource u7.toNat))else false),true)
abbrev Xm:=((gB [(Ty s_ u7)]=true→(0:Int)≤(at' p.sources u7.toNat).bus∧(at' p.sources u7.toNat).bus<(s_.badBus.length:Int)))
abbrev Be:=((at' u5 ((qM u4 u6).toNat)).sources)
abbrev O0:=((Be u5 u6 u4).length+[u7].length)
abbrev QB:=((O0 u5 u7 u6 u4)*8≤140737488355328)
abbrev R8:=((Be u5 u6 u4).length+[u7].length≤4611686018427387904)
abbrev Bl:=((Be u5 u6 u4)++[u7])
abbrev Gp:=(aA (aD .i64) (Bl u5 u7 u6 u4))
abbrev M8:=(u5.set ((qM u4 u6).toNat) (⟨(at' u5 ((qM u4 u6).toNat)).buses,(Bl u5 u7 u6 u4)⟩:ah))
abbrev IV:=(kQ ah.ev (M8 u5 u7 u6 u4))
abbrev QM:=((Be u5 u6 u4).length)
abbrev Ry:=(nW (aA (aD .i64) (Be u5 u6 u4)) (Be u5 u6 u4).length (aA (aD .i64) [u7]))
abbrev Sy:=((Bl u5 u7 u6 u4).length)
abbrev Qv:=(SI (kQ ah.ev u5) ((qM u4 u6).toNat) 1 (.row 3 1 (Bl u5 u7 u6 u4).length (Gp u5 u7 u6 u4)))
abbrev VZ:=((some ((qM u4 u6).toNat,1,CV.own 107 false (Be u5 u6 u4).length)):Option (Nat × Nat × CV))
abbrev Qw:=((M8 u5 u7 u6 u4),(k8 u7))
end
theorem xR (p:au) (s_:State):iA Tryz.prog 38 (Sq s_ p) [] (fun r=>(vD (bK none 2 ah.cell r))) (fun _=>[]) (iQ p s_):=
  jM tT mX Tryz.func38 (
  .rg {fr:=[(0,55),(1,56)],fz:=[56]} []<| .rg {an:=[(0, .map 0 (iN (aD .i64) ([]:(List (Int × Int)))) (iZ (aD .i64) ([]:(List (Int × Int)))) [])],fr:=[(0,57),(2,58)]} []<| .cl 2 (lQ p s_) fun r_=> .r<| .cl 0 (Yr r_) fun v0=> .rf 59 [5] [] none 0 []<| .r<| .im (.Xp 7 60 94 2 (kQ ah.ev ([]:List ah)))<| .rg {an:=[(0, .map 0 (iN (aD .i64) ([]:(List (Int × Int)))) (iZ (aD .i64) ([]:(List (Int × Int)))) [])],fr:=[(0,61)]} []<| .r<| .lp (σ:=((List ah) × (List (Int × Int)) × Int)) (β:=((List ah) × (List (Int × Int)))) (([]:List ah),([]:(List (Int × Int))),0) [] [] ⟨[2,3,5,8,31],[55,57,58],fun(u1,u2,u3)=>[(7,(vO 60 false u1.length)),(32,(vI u3))],fun(u1,u2,u3)=>(Xo u1 u2)⟩ ⟨[2,3,5,8],[55,57,58],fun(u9,u4)=>[(7,(vO 60 false u9.length))],fun(u9,u4)=>(Xo u9 u4)⟩
  (fun(u1,u2,u3)=> .r<| .it (.r<| .a1 (Xv u3 s_)<| .r<| .it (.r<| .e (.next (u1,u2,(k8 u3))))
  (.cr 2 (oU [(0,57)] (aU v0 u3)) fun u0=> .r<| .rg {an:=[(2, .look (aO dS u0 u2).isSome (BD u2 u0))]} [.pf ⟨dY [.i .i64] 1 1 u2.length (iN (aD .i64) u2) (iZ (aD .i64) u2) [(.int .i64 u0)] [(.d (.int .i64 0))] (aO dS u0 u2).isSome (BD u2 u0),cZ (fun _=>rfl) (fun _ _=>rfl) u2 u0 0 rfl rfl rfl⟩]<| .r<| .it (.rg {an:=[(4, .map (Fv u1 u2 u0).length (Od u1 u2 u0) (N8 u1 u2 u0) [])]} [.pf ⟨gD [.i .i64] 1 1 u2.length (iN (aD .i64) u2) (iZ (aD .i64) u2) [(.int .i64 u0)] [(cI (u1.length:Int))] [] (Fv u1 u2 u0).length (Od u1 u2 u0) (N8 u1 u2 u0),fK (fun _=>rfl) (fun _ _=>rfl) u2 u0 (u1.length:Int) rfl rfl⟩]<| .a2 (XB u1) (Xw u1)<| .rg {an:=[(2, .arr [(⟨([]:List Int),([]:List Int)⟩:ah)].length (jX 2 [nS,nS])),(3, .rows (EA u1).length (Rs u1))],fr:=[(2,86),(3,87)]} [.pf ⟨[(⟨([]:List Int),([]:List Int)⟩:ah)].length=1,rfl⟩, .pf ⟨aH 1 2 (jX 2 [nS,nS]) (jX 2 [nS,nS]),kF _ _ _⟩, .e (u1.length),0,1, .pf ⟨(EA u1).length=u1.length+[(⟨([]:List Int),([]:List Int)⟩:ah)].length,List.length_append⟩, .pf ⟨qH u1.length [(⟨([]:List Int),([]:List Int)⟩:ah)].length 2 (kQ ah.ev u1) (jX 2 [nS,nS]) (Rs u1),BA _ _ _ _ _ (by intro i hi j hj;match i,j,hi,hj with|0,0,_,_=>exact⟨rfl,_,_,_,rfl⟩|0,1,_,_=>exact⟨rfl,_,_,_,rfl⟩)⟩]<| .rg {an:=[(2, .look (QE u1 u2 u0).isSome (Te u1 u2 u0))]} [.pf ⟨dY [.i .i64] 1 1 (Fv u1 u2 u0).length (Od u1 u2 u0) (N8 u1 u2 u0) [(.int .i64 u0)] [(.d (.int .i64 0))] (QE u1 u2 u0).isSome (Te u1 u2 u0),cZ (fun _=>rfl) (fun _ _=>rfl) (Fv u1 u2 u0) u0 0 rfl rfl rfl⟩]<| .a3 (WW u1 u2 u0) (Xd u1 u2 u3 u0) (Xg u1 u2 u3 u0)<| .rg {an:=[(6, .take 88),(8, .arr [u3].length (aA (aD .i64) [u3])),(9, .arr (N9 u1 u2 u3 u0).length (RL u1 u2 u3 u0)),(12, .rows 0 (SA u1 u2 u3 u0))],fr:=[(8,89),(9,90)]} [0, .t 0 (Ho u1 u2 u0) (SS u1), .pf ⟨[u3].length=1,rfl⟩, .pf ⟨aH 1 1 (NZ u3) (aA (aD .i64) [u3]),(by intro i hi j hj;match i,j,hi,hj with|0,0,_,_=>rfl)⟩, .e (WX u1 u2 u0),1,2, .pf ⟨(N9 u1 u2 u3 u0).length=(Oc u1 u2 u0).length+[u3].length,List.length_append⟩, .pf ⟨aH (Vk u1 u2 u3 u0) 1 (W9 u1 u2 u3 u0) (RL u1 u2 u3 u0),bG _ _ _ _⟩,0, .t 0 (Ho u1 u2 u0) (SS u1), .e (WT u1 u2 u3 u0), .pf ⟨yX (EA u1).length 2 (Xh u1 u2 u3 u0) (SA u1 u2 u3 u0),iO _ _ _ _ _ _ _ _ rfl (fun j hj=>(match j,hj with|0,_=>rfl|1,_=>rfl))⟩, .pf ⟨∀i0 j0 c0,(Yo u1 u2 u0)=some (i0,j0,c0)→i0=(Ho u1 u2 u0).toNat∧j0=0,(fun i0 j0 c0 e=>by cases e;exact⟨rfl,rfl⟩)⟩]<| .im (.ll 87 (EA u1) (UQ u1 u2 u3 u0))<| .r<| .en (.next (WZ u1 u2 u3 u0)) [] [(87,60)])
  (.rg {an:=[(2, .look (aO dS u0 u2).isSome (BD u2 u0))]} [.pf ⟨dY [.i .i64] 1 1 u2.length (iN (aD .i64) u2) (iZ (aD .i64) u2) [(.int .i64 u0)] [(.d (.int .i64 0))] (aO dS u0 u2).isSome (BD u2 u0),cZ (fun _=>rfl) (fun _ _=>rfl) u2 u0 0 rfl rfl rfl⟩]<| .a3 (SG u1 u2 u0) (WR u1 u2 u3 u0) (Xb u1 u2 u3 u0)<| .rg {an:=[(6, .take 91),(8, .arr [u3].length (aA (aD .i64) [u3])),(9, .arr (Og u1 u2 u3 u0).length (Qu u1 u2 u3 u0)),(12, .rows 0 (Tk u1 u2 u3 u0))],fr:=[(8,92),(9,93)]} [0, .t 0 (qM u2 u0) u1.length, .pf ⟨[u3].length=1,rfl⟩, .pf ⟨aH 1 1 (NZ u3) (aA (aD .i64) [u3]),(by intro i hi j hj;match i,j,hi,hj with|0,0,_,_=>rfl)⟩, .e (Xe u1 u2 u0),1,2, .pf ⟨(Og u1 u2 u3 u0).length=(Oe u1 u2 u0).length+[u3].length,List.length_append⟩, .pf ⟨aH (WJ u1 u2 u3 u0) 1 (Xf u1 u2 u3 u0) (Qu u1 u2 u3 u0),bG _ _ _ _⟩,0, .t 0 (qM u2 u0) u1.length, .e (Xu u1 u2 u3 u0), .pf ⟨yX u1.length 2 (WS u1 u2 u3 u0) (Tk u1 u2 u3 u0),iO _ _ _ _ _ _ _ _ rfl (fun j hj=>(match j,hj with|0,_=>rfl|1,_=>rfl))⟩, .pf ⟨∀i0 j0 c0,(Yp u1 u2 u0)=some (i0,j0,c0)→i0=(qM u2 u0).toNat∧j0=0,(fun i0 j0 c0 e=>by cases e;exact⟨rfl,rfl⟩)⟩]<| .im (.ll 60 u1 (UN u1 u2 u3 u0))<| .r<| .e (.next (WY u1 u2 u3 u0)))))
  (.e (.done (.brk (u1,u2)))))
  (fun(u9,u4)=> .r<| .lp (σ:=((List ah) × Int)) (β:=(List ah)) (u9,0) [] [] ⟨[3,5,8,76,77],[57,58,61],fun(u5,u7)=>[(7,(vO 60 false u5.length)),(78,(vI u7))],fun(u5,u7)=>(Xx u5)⟩ ⟨[],[],fun u8=>[(7,(vO 60 false u8.length))],fun u8=>(Xx u8)⟩
  (fun(u5,u7)=> .r<| .it (.a1 (Xa u7 p)<| .rg {fr:=[(3,106)],fz:=[106]} []<| .a3 (WU s_ u7) (Xq s_ u7) (Xm s_ u7 p)<| .rg {} [0,1,2]<| .it (.cr 4 (oU [(0,57)] (aU v0 ((at' p.sources u7.toNat).bus))) fun u6=> .rg {an:=[(5, .look (aO dS u6 u4).isSome (BD u4 u6))]} [0, .pf ⟨dY [.i .i64] 1 1 u4.length (iN (aD .i64) u4) (iZ (aD .i64) u4) [(.int .i64 u6)] [(.d (.int .i64 0))] (aO dS u6 u4).isSome (BD u4 u6),cZ (fun _=>rfl) (fun _ _=>rfl) u4 u6 0 rfl rfl rfl⟩]<| .a3 (SG u5 u4 u6) (QB u5 u7 u6 u4) (R8 u5 u7 u6 u4)<| .rg {an:=[(6, .take 107),(8, .arr [u7].length (aA (aD .i64) [u7])),(9, .arr (Bl u5 u7 u6 u4).length (Gp u5 u7 u6 u4)),(12, .rows 0 (IV u5 u7 u6 u4))],fr:=[(8,108),(9,109)]} [0, .t 0 (qM u4 u6) u5.length, .pf ⟨[u7].length=1,rfl⟩, .pf ⟨aH 1 1 (NZ u7) (aA (aD .i64) [u7]),(by intro i hi j hj;match i,j,hi,hj with|0,0,_,_=>rfl)⟩, .e (QM u5 u6 u4),1,2, .pf ⟨(Bl u5 u7 u6 u4).length=(Be u5 u6 u4).length+[u7].length,List.length_append⟩, .pf ⟨aH (O0 u5 u7 u6 u4) 1 (Ry u5 u7 u6 u4) (Gp u5 u7 u6 u4),bG _ _ _ _⟩,0, .t 0 (qM u4 u6) u5.length, .e (Sy u5 u7 u6 u4), .pf ⟨yX u5.length 2 (Qv u5 u7 u6 u4) (IV u5 u7 u6 u4),iO _ _ _ _ _ _ _ _ rfl (fun j hj=>(match j,hj with|0,_=>rfl|1,_=>rfl))⟩, .pf ⟨∀i0 j0 c0,(VZ u5 u6 u4)=some (i0,j0,c0)→i0=(qM u4 u6).toNat∧j0=1,(fun i0 j0 c0 e=>by cases e;exact⟨rfl,rfl⟩)⟩]<| .im (.ll 60 u5 (M8 u5 u7 u6 u4))<| .r<| .e (.next (Qw u5 u7 u6 u4)))
  (.r<| .e (.next (u5,(k8 u7)))))
  (.e (.done (.brk u5))))
  (fun u8=> .rg {fz:=[60]} []<| .im (.us 4 (vD (.sl none 2 u8.length (fun i j=>UO (kQ ah.ev u8 i j)))) (vD (bK none 2 ah.cell u8)) (zy.v (zD.one (pE.d (mg.sl (.inr rfl) (fun i _ j hj=>match j,hj with|0,_=> .refl _|1,_=> .refl _))))))<| .e u8)))
theorem xL (p:au) (s_:State):iA Tryz.prog 11 (Sq s_ p) [] (fun r=>(.eG [(sD (bK none 2 ah.cell r.1)),(sI r.2)])) (fun _=>[]) (rR p s_):=
  jM tT mX Tryz.func11 (
  .rg {fr:=[(0,2),(1,3)],fz:=[2,3]} []<| .cl 2 (bO p s_) fun r_=> .r<| .r<| .it (.r<| .e (([]:List ah),r_))
  (.cl 2 (xR p s_) fun u0=> .r<| .e (u0,0)))
theorem lN (p:au) (s_:State):iA Tryz.prog 38 (Sq s_ p) [] (fun r=>(vD (bK none 2 ah.cell r))) (fun _=>[]) (iQ p s_):=
  jM tT mX Tryz.func38 (
  .rg {fr:=[(0,55),(1,56)],fz:=[56]} []<| .rg {an:=[(0, .map 0 (iN (aD .i64) ([]:(List (Int × Int)))) (iZ (aD .i64) ([]:(List (Int × Int)))) [])],fr:=[(0,57),(2,58)]} []<| .cl 2 (lQ p s_) fun r_=> .r<| .cl 0 (Yr r_) fun v0=> .rf 59 [5] [] none 0 []<| .r<| .im (.Xp 7 60 94 2 (kQ ah.ev ([]:List ah)))<| .rg {an:=[(0, .map 0 (iN (aD .i64) ([]:(List (Int × Int)))) (iZ (aD .i64) ([]:(List (Int × Int)))) [])],fr:=[(0,61)]} []<| .r<| .lp (σ:=((List ah) × (List (Int × Int)) × Int)) (β:=((List ah) × (List (Int × Int)))) (([]:List ah),([]:(List (Int × Int))),0) [] [] ⟨[2,3,5,8,31],[55,57,58],fun(u1,u2,u3)=>[(7,(vO 60 false u1.length)),(32,(vI u3))],fun(u1,u2,u3)=>(Xo u1 u2)⟩ ⟨[2,3,5,8],[55,57,58],fun(u9,u4)=>[(7,(vO 60 false u9.length))],fun(u9,u4)=>(Xo u9 u4)⟩
  (fun(u1,u2,u3)=> .r<| .it (.r<| .a1 (Xv u3 s_)<| .r<| .it (.r<| .e (.next (u1,u2,(k8 u3))))
  (.cr 2 (oU [(0,57)] (aU v0 u3)) fun u0=> .r<| .rg {an:=[(2, .look (aO dS u0 u2).isSome (BD u2 u0))]} [.pf ⟨dY [.i .i64] 1 1 u2.length (iN (aD .i64) u2) (iZ (aD .i64) u2) [(.int .i64 u0)] [(.d (.int .i64 0))] (aO dS u0 u2).isSome (BD u2 u0),cZ (fun _=>rfl) (fun _ _=>rfl) u2 u0 0 rfl rfl rfl⟩]<| .r<| .it (.rg {an:=[(4, .map (Fv u1 u2 u0).length (Od u1 u2 u0) (N8 u1 u2 u0) [])]} [.pf ⟨gD [.i .i64] 1 1 u2.length (iN (aD .i64) u2) (iZ (aD .i64) u2) [(.int .i64 u0)] [(cI (u1.length:Int))] [] (Fv u1 u2 u0).length (Od u1 u2 u0) (N8 u1 u2 u0),fK (fun _=>rfl) (fun _ _=>rfl) u2 u0 (u1.length:Int) rfl rfl⟩]<| .a2 (XB u1) (Xw u1)<| .rg {an:=[(2, .arr [(⟨([]:List Int),([]:List Int)⟩:ah)].length (jX 2 [nS,nS])),(3, .rows (EA u1).length (Rs u1))],fr:=[(2,86),(3,87)]} [.pf ⟨[(⟨([]:List Int),([]:List Int)⟩:ah)].length=1,rfl⟩, .pf ⟨aH 1 2 (jX 2 [nS,nS]) (jX 2 [nS,nS]),kF _ _ _⟩, .e (u1.length),0,1, .pf ⟨(EA u1).length=u1.length+[(⟨([]:List Int),([]:List Int)⟩:ah)].length,List.length_append⟩, .pf ⟨qH u1.length [(⟨([]:List Int),([]:List Int)⟩:ah)].length 2 (kQ ah.ev u1) (jX 2 [nS,nS]) (Rs u1),BA _ _ _ _ _ (by intro i hi j hj;match i,j,hi,hj with|0,0,_,_=>exact⟨rfl,_,_,_,rfl⟩|0,1,_,_=>exact⟨rfl,_,_,_,rfl⟩)⟩]<| .rg {an:=[(2, .look (QE u1 u2 u0).isSome (Te u1 u2 u0))]} [.pf ⟨dY [.i .i64] 1 1 (Fv u1 u2 u0).length (Od u1 u2 u0) (N8 u1 u2 u0) [(.int .i64 u0)] [(.d (.int .i64 0))] (QE u1 u2 u0).isSome (Te u1 u2 u0),cZ (fun _=>rfl) (fun _ _=>rfl) (Fv u1 u2 u0) u0 0 rfl rfl rfl⟩]<| .a3 (WW u1 u2 u0) (Xd u1 u2 u3 u0) (Xg u1 u2 u3 u0)<| .rg {an:=[(6, .take 88),(8, .arr [u3].length (aA (aD .i64) [u3])),(9, .arr (N9 u1 u2 u3 u0).length (RL u1 u2 u3 u0)),(12, .rows 0 (SA u1 u2 u3 u0))],fr:=[(8,89),(9,90)]} [0, .t 0 (Ho u1 u2 u0) (SS u1), .pf ⟨[u3].length=1,rfl⟩, .pf ⟨aH 1 1 (NZ u3) (aA (aD .i64) [u3]),(by intro i hi j hj;match i,j,hi,hj with|0,0,_,_=>rfl)⟩, .e (WX u1 u2 u0),1,2, .pf ⟨(N9 u1 u2 u3 u0).length=(Oc u1 u2 u0).length+[u3].length,List.length_append⟩, .pf ⟨aH (Vk u1 u2 u3 u0) 1 (W9 u1 u2 u3 u0) (RL u1 u2 u3 u0),bG _ _ _ _⟩,0, .t 0 (Ho u1 u2 u0) (SS u1), .e (WT u1 u2 u3 u0), .pf ⟨yX (EA u1).length 2 (Xh u1 u2 u3 u0) (SA u1 u2 u3 u0),iO _ _ _ _ _ _ _ _ rfl (fun j hj=>(match j,hj with|0,_=>rfl|1,_=>rfl))⟩, .pf ⟨∀i0 j0 c0,(Yo u1 u2 u0)=some (i0,j0,c0)→i0=(Ho u1 u2 u0).toNat∧j0=0,(fun i0 j0 c0 e=>by cases e;exact⟨rfl,rfl⟩)⟩]<| .im (.ll 87 (EA u1) (UQ u1 u2 u3 u0))<| .r<| .en (.next (WZ u1 u2 u3 u0)) [] [(87,60)])
  (.rg {an:=[(2, .look (aO dS u0 u2).isSome (BD u2 u0))]} [.pf ⟨dY [.i .i64] 1 1 u2.length (iN (aD .i64) u2) (iZ (aD .i64) u2) [(.int .i64 u0)] [(.d (.int .i64 0))] (aO dS u0 u2).isSome (BD u2 u0),cZ (fun _=>rfl) (fun _ _=>rfl) u2 u0 0 rfl rfl rfl⟩]<| .a3 (SG u1 u2 u0) (WR u1 u2 u3 u0) (Xb u1 u2 u3 u0)<| .rg {an:=[(6, .take 91),(8, .arr [u3].length (aA (aD .i64) [u3])),(9, .arr (Og u1 u2 u3 u0).length (Qu u1 u2 u3 u0)),(12, .rows 0 (Tk u1 u2 u3 u0))],fr:=[(8,92),(9,93)]} [0, .t 0 (qM u2 u0) u1.length, .pf ⟨[u3].length=1,rfl⟩, .pf ⟨aH 1 1 (NZ u3) (aA (aD .i64) [u3]),(by intro i hi j hj;match i,j,hi,hj with|0,0,_,_=>rfl)⟩, .e (Xe u1 u2 u0),1,2, .pf ⟨(Og u1 u2 u3 u0).length=(Oe u1 u2 u0).length+[u3].length,List.length_append⟩, .pf ⟨aH (WJ u1 u2 u3 u0) 1 (Xf u1 u2 u3 u0) (Qu u1 u2 u3 u0),bG _ _ _ _⟩,0, .t 0 (qM u2 u0) u1.length, .e (Xu u1 u2 u3 u0), .pf ⟨yX u1.length 2 (WS u1 u2 u3 u0) (Tk u1 u2 u3 u0),iO _ _ _ _ _ _ _ _ rfl (fun j hj=>(match j,hj with|0,_=>rfl|1,_=>rfl))⟩, .pf ⟨∀i0 j0 c0,(Yp u1 u2 u0)=some (i0,j0,c0)→i0=(qM u2 u0).toNat∧j0=0,(fun i0 j0 c0 e=>by cases e;exact⟨rfl,rfl⟩)⟩]<| .im (.ll 60 u1 (UN u1 u2 u3 u0))<| .r<| .e (.next (WY u1 u2 u3 u0)))))
  (.e (.done (.brk (u1,u2)))))
  (fun(u9,u4)=> .r<| .lp (σ:=((List ah) × Int)) (β:=(List ah)) (u9,0) [] [] ⟨[3,5,8,76,77],[57,58,61],fun(u5,u7)=>[(7,(vO 60 false u5.length)),(78,(vI u7))],fun(u5,u7)=>(Xx u5)⟩ ⟨[],[],fun u8=>[(7,(vO 60 false u8.length))],fun u8=>(Xx u8)⟩
  (fun(u5,u7)=> .r<| .it (.a1 (Xa u7 p)<| .rg {fr:=[(3,106)],fz:=[106]} []<| .a3 (WU s_ u7) (Xq s_ u7) (Xm s_ u7 p)<| .rg {} [0,1,2]<| .it (.cr 4 (oU [(0,57)] (aU v0 ((at' p.sources u7.toNat).bus))) fun u6=> .rg {an:=[(5, .look (aO dS u6 u4).isSome (BD u4 u6))]} [0, .pf ⟨dY [.i .i64] 1 1 u4.length (iN (aD .i64) u4) (iZ (aD .i64) u4) [(.int .i64 u6)] [(.d (.int .i64 0))] (aO dS u6 u4).isSome (BD u4 u6),cZ (fun _=>rfl) (fun _ _=>rfl) u4 u6 0 rfl rfl rfl⟩]<| .a3 (SG u5 u4 u6) (QB u5 u7 u6 u4) (R8 u5 u7 u6 u4)<| .rg {an:=[(6, .take 107),(8, .arr [u7].length (aA (aD .i64) [u7])),(9, .arr (Bl u5 u7 u6 u4).length (Gp u5 u7 u6 u4)),(12, .rows 0 (IV u5 u7 u6 u4))],fr:=[(8,108),(9,109)]} [0, .t 0 (qM u4 u6) u5.length, .pf ⟨[u7].length=1,rfl⟩, .pf ⟨aH 1 1 (NZ u7) (aA (aD .i64) [u7]),(by intro i hi j hj;match i,j,hi,hj with|0,0,_,_=>rfl)⟩, .e (QM u5 u6 u4),1,2, .pf ⟨(Bl u5 u7 u6 u4).length=(Be u5 u6 u4).length+[u7].length,List.length_append⟩, .pf ⟨aH (O0 u5 u7 u6 u4) 1 (Ry u5 u7 u6 u4) (Gp u5 u7 u6 u4),bG _ _ _ _⟩,0, .t 0 (qM u4 u6) u5.length, .e (Sy u5 u7 u6 u4), .pf ⟨yX u5.length 2 (Qv u5 u7 u6 u4) (IV u5 u7 u6 u4),iO _ _ _ _ _ _ _ _ rfl (fun j hj=>(match j,hj with|0,_=>rfl|1,_=>rfl))⟩, .pf ⟨∀i0 j0 c0,(VZ u5 u6 u4)=some (i0,j0,c0)→i0=(qM u4 u6).toNat∧j0=1,(fun i0 j0 c0 e=>by cases e;exact⟨rfl,rfl⟩)⟩]<| .im (.ll 60 u5 (M8 u5 u7 u6 u4))<| .r<| .e (.next (Qw u5 u7 u6 u4)))
  (.r<| .e (.next (u5,(k8 u7)))))
  (.e (.done (.brk u5))))
  (fun u8=> .r<| .fz [60]<| .im (.us 4 (vD (.sl none 2 u8.length (fun i j=>UO (kQ ah.ev u8 i j)))) (vD (bK none 2 ah.cell u8)) (zy.v (zD.one (pE.d (mg.sl (.inr rfl) (fun i _ j hj=>match j,hj with|0,_=> .refl _|1,_=> .refl _))))))<| .e u8)))
theorem gM (x y:ax):Go.Proofs.ltOf dF x y=true↔x.e0<y.e0∨ ¬ y.e0<x.e0∧x.e1<y.e1:=by
 unfold Go.Proofs.ltOf dF;rw [decide_eq_true_iff]
 by_cases h0:x.e0<y.e0<;>by_cases g0:y.e0<x.e0<;>by_cases h1:x.e1<y.e1<;>by_cases g1:y.e1<x.e1<;>simp [h0,g0,h1,g1]
theorem sV:Go.Sort.SWO (Go.Proofs.ltOf dF) where
 irrefl x:=by rw [←Bool.not_eq_true,gM];omega
 trans x y z h1 h2:=by rw [gM]at*;omega
 ntrans x y z h1 h2:=by rw [←Bool.not_eq_true,gM]at*;omega
theorem sU (x y:ax) (h1:(Go.Proofs.ltOf dF) x y=false) (h2:(Go.Proofs.ltOf dF) y x=false):x=y:=by
 rw [←Bool.not_eq_true,gM]at h1 h2
 obtain⟨a,b⟩:=x
 obtain⟨c,d⟩:=y
 have e1:a=c:=by simp only at h1 h2;omega
 have e2:b=d:=by simp only at h1 h2;omega
 rw [e1,e2]
theorem tF (s:(List ax)) {r:(List ax)} (h:pK s=some r):Fn Tryz.prog 42 [(.one (.own 0 false s.length)),(sD (.fn 43 0 (xC [])))] [(0,some (.arr 74 2 s.length (aA ax.cell s)))] (.eG []) [(0,some (.arr 74 2 r.length (aA ax.cell r)))]:=
 TN OX 2 Sm Ps (fun x:ax=>[.int .i64 x.e0, .int .i64 x.e1]) (fun _=>rfl) (fun x v hv=>by simp at hv;rcases hv with rfl|rfl<;>rfl) dF sV sU
  (Li (fun x:ax=>[.int .i64 x.e0, .int .i64 x.e1]) (fun x=>x.e0) (fun x=>x.e1) (fun _=>rfl)) (enters_of Tryz.func43 (by kernel_rfl) rfl)
  (fun F w x j hj v=>match j,hj with|0,_=>Iff.rfl|1,_=>Iff.rfl) 42 rfl ⟨_,Tryz.func42,rfl,rfl⟩ s (by cases s with|nil=>(cases h;simp)|cons x xs=>exact h)
end
end Sg
