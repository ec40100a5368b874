import Derived.Test.YtcafpngcflplgaaGreatDoorSmGm
import Derived.Test.YtcafpngcflplgaaGreatDoorProg
import Derived.Test.YtcafpngcflplgaaGreatDoorSmLg
set_option linter.all false
namespace Sg
open Go Go.Proofs
set_option maxRecDepth 20000
noncomputable section
abbrev He (a b:TypeInfo) (e:Bool):TI:=⟨a.desc,b.size,b.bytes,zl b,e⟩
abbrev vU (a:TypeInfo):TI:=He a a false
noncomputable def TT:List (Nat × TI):=[(2,vU Tryz.t2),
  (3,vU Tryz.t3),
  (4,vU Tryz.t4),
  (5,vU Tryz.t5),
  (9,vU Tryz.t9),
  (21,vU Tryz.t21),
  (22,vU Tryz.t22),
  (23,vU Tryz.t23),
  (24,vU Tryz.t24),
  (25,vU Tryz.t25),
  (27,He Tryz.t26 Tryz.t27 false),
  (31,He Tryz.t3 Tryz.t31 false),
  (33,vU Tryz.t33),
  (35,He Tryz.t34 Tryz.t35 false),
  (38,vU Tryz.t38),
  (39,vU Tryz.t39),
  (40,vU Tryz.t40),
  (43,vU Tryz.t43),
  (46,vU Tryz.t46),
  (53,vU Tryz.t53),
  (57,vU Tryz.t57),
  (65,He Tryz.t3 Tryz.t65 false),
  (67,He Tryz.t66 Tryz.t67 true),
  (68,He Tryz.t3 Tryz.t68 false),
  (70,He Tryz.t69 Tryz.t70 true),
  (71,vU Tryz.t71),
  (73,He Tryz.t72 Tryz.t73 false),
  (74,He Tryz.t74 Tryz.t74 true),
  (76,He Tryz.t75 Tryz.t76 true),
  (79,vU Tryz.t79),
  (82,vU Tryz.t82),
  (85,vU Tryz.t85),
  (92,He Tryz.t91 Tryz.t92 false),
  (94,He Tryz.t91 Tryz.t94 false),
  (109,vU Tryz.t109),
  (112,He Tryz.t112 Tryz.t112 true),
  (114,He Tryz.t3 Tryz.t114 false),
  (116,He Tryz.t115 Tryz.t116 true),
  (128,vU Tryz.t128),
  (131,vU Tryz.t131),
  (140,vU Tryz.t140),
  (153,vU Tryz.t153),
  (154,vU Tryz.t154),
  (155,vU Tryz.t155),
  (157,He Tryz.t156 Tryz.t157 false),
  (166,vU Tryz.t166),
  (174,He Tryz.t174 Tryz.t174 true),
  (196,vU Tryz.t196),
  (198,vU Tryz.t198),
  (200,vU Tryz.t200),
  (207,vU Tryz.t207),
  (222,vU Tryz.t222),
  (224,He Tryz.t224 Tryz.t224 true),
  (237,He Tryz.t237 Tryz.t237 true)]
theorem tT:kg Tryz.prog TT:=⟨eX,⟨gQ,cu⟩,eX,⟨gQ,cu⟩,eX,⟨gQ,cu⟩,eX,⟨gQ,cu⟩,eX,⟨gQ,cu⟩,eX,⟨gQ,cu⟩,eX,⟨gQ,cu⟩,eX,⟨gQ,cu⟩,eX,⟨gQ,cu⟩,eX,⟨gQ,cu⟩,eX,⟨gQ,cu⟩,eX,⟨gQ,cu⟩,eX,⟨gQ,cu⟩,eX,⟨gQ,cu⟩,eX,⟨gQ,cu⟩,eX,⟨gQ,cu⟩,eX,⟨gQ,cu⟩,eX,⟨gQ,cu⟩,eX,⟨gQ,cu⟩,eX,⟨gQ,cu⟩,eX,⟨gQ,cu⟩,eX,⟨gQ,cu⟩,eX,⟨fun _=> ⟨by kernel_rfl,by kernel_rfl⟩,cu⟩,eX,⟨gQ,cu⟩,eX,⟨fun _=> ⟨by kernel_rfl,by kernel_rfl⟩,cu⟩,eX,⟨gQ,cu⟩,eX,⟨gQ,cu⟩,eX,⟨fun _=> ⟨by kernel_rfl,by kernel_rfl⟩,cu⟩,eX,⟨fun _=> ⟨by kernel_rfl,by kernel_rfl⟩,cu⟩,eX,⟨gQ,cu⟩,eX,⟨gQ,cu⟩,eX,⟨gQ,cu⟩,eX,⟨gQ,cu⟩,eX,⟨gQ,cu⟩,eX,⟨gQ,cu⟩,eX,⟨fun _=> ⟨by kernel_rfl,by kernel_rfl⟩,cu⟩,eX,⟨gQ,cu⟩,eX,⟨fun _=> ⟨by kernel_rfl,by kernel_rfl⟩,cu⟩,eX,⟨gQ,cu⟩,eX,⟨gQ,cu⟩,eX,⟨gQ,cu⟩,eX,⟨gQ,cu⟩,eX,⟨gQ,cu⟩,eX,⟨gQ,cu⟩,eX,⟨gQ,cu⟩,eX,⟨gQ,cu⟩,eX,⟨fun _=> ⟨by kernel_rfl,by kernel_rfl⟩,cu⟩,eX,⟨gQ,cu⟩,eX,⟨gQ,cu⟩,eX,⟨gQ,cu⟩,eX,⟨gQ,cu⟩,eX,⟨gQ,cu⟩,eX,⟨fun _=> ⟨by kernel_rfl,by kernel_rfl⟩,cu⟩,eX,⟨fun _=> ⟨by kernel_rfl,by kernel_rfl⟩,cu⟩,trivial⟩
theorem mX:Tryz.prog.follows .mixedOrders=true:=by kernel_rfl
def Jb:Go.Shelf.Ren:=⟨fun|6=>42|14=>89|15=>90|20=>111|21=>112|22=>113|23=>114|24=>115|25=>116|26=>117|27=>118|28=>119|29=>120|46=>134|47=>135|48=>136|49=>137|50=>138|57=>153|n=>n,fun|0=>0|3=>3|4=>4|5=>5|9=>9|22=>46|24=>74|25=>97|39=>166|45=>189|46=>190|50=>163|53=>196|55=>198|66=>213|70=>217|76=>231|77=>232|n=>n,fun n=>n⟩
theorem R7:Go.Proofs.SlLaysF0.n6 Tryz.prog Jb:=⟨by kernel_rfl,⟨Tryz.f42.name,by kernel_rfl,Tryz.func42.trans (congrArg some (by kernel_rfl))⟩,⟨Tryz.f89.name,by kernel_rfl,Tryz.func89.trans (congrArg some (by kernel_rfl))⟩,Tryz.func90.trans (congrArg some (by kernel_rfl)),⟨Tryz.f111.name,by kernel_rfl,Tryz.func111.trans (congrArg some (by kernel_rfl))⟩,⟨Tryz.f112.name,by kernel_rfl,Tryz.func112.trans (congrArg some (by kernel_rfl))⟩,⟨Tryz.f113.name,by kernel_rfl,Tryz.func113.trans (congrArg some (by kernel_rfl))⟩,⟨Tryz.f114.name,by kernel_rfl,Tryz.func114.trans (congrArg some (by kernel_rfl))⟩,⟨Tryz.f115.name,by kernel_rfl,Tryz.func115.trans (congrArg some (by kernel_rfl))⟩,⟨Tryz.f116.name,by kernel_rfl,Tryz.func116.trans (congrArg some (by kernel_rfl))⟩,⟨Tryz.f117.name,by kernel_rfl,Tryz.func117.trans (congrArg some (by kernel_rfl))⟩,⟨Tryz.f118.name,by kernel_rfl,Tryz.func118.trans (congrArg some (by kernel_rfl))⟩,Tryz.func119.trans (congrArg some (by kernel_rfl)),Tryz.func120.trans (congrArg some (by kernel_rfl)),⟨Tryz.f134.name,by kernel_rfl,Tryz.func134.trans (congrArg some (by kernel_rfl))⟩,Tryz.func135.trans (congrArg some (by kernel_rfl)),Tryz.func136.trans (congrArg some (by kernel_rfl)),⟨Tryz.f137.name,by kernel_rfl,Tryz.func137.trans (congrArg some (by kernel_rfl))⟩,⟨Tryz.f138.name,by kernel_rfl,Tryz.func138.trans (congrArg some (by kernel_rfl))⟩,⟨Tryz.f153.name,by kernel_rfl,Tryz.func153.trans (congrArg some (by kernel_rfl))⟩,Tryz.underlying0,Tryz.isAgg0,Tryz.sizeOf0,Tryz.zeroValue0,Tryz.underlying3,Tryz.isAgg3,Tryz.sizeOf3,Tryz.zeroValue3,Tryz.underlying4,Tryz.isAgg4,Tryz.sizeOf4,Tryz.zeroValue4,Tryz.underlying5,Tryz.isAgg5,Tryz.sizeOf5,Tryz.zeroValue5,Tryz.underlying9,Tryz.isAgg9,Tryz.sizeOf9,Tryz.zeroValue9,Tryz.underlying46,Tryz.isAgg46,Tryz.sizeOf46,Tryz.zeroValue46,Tryz.underlying97,Tryz.isAgg97,Tryz.sizeOf97,Tryz.zeroValue97,Tryz.underlying166,Tryz.isAgg166,Tryz.sizeOf166,Tryz.zeroValue166,Tryz.underlying189,Tryz.isAgg189,Tryz.sizeOf189,Tryz.zeroValue189,Tryz.underlying190,Tryz.isAgg190,Tryz.sizeOf190,Tryz.zeroValue190,Tryz.underlying163,Tryz.isAgg163,Tryz.sizeOf163,Tryz.zeroValue163,Tryz.underlying196,Tryz.isAgg196,Tryz.sizeOf196,Tryz.zeroValue196,Tryz.underlying198,Tryz.isAgg198,Tryz.sizeOf198,Tryz.zeroValue198,Tryz.underlying213,Tryz.isAgg213,Tryz.sizeOf213,Tryz.zeroValue213,Tryz.underlying217,Tryz.isAgg217,Tryz.sizeOf217,Tryz.zeroValue217,Tryz.underlying231,Tryz.isAgg231,Tryz.sizeOf231,Tryz.zeroValue231,Tryz.underlying232,Tryz.isAgg232,Tryz.sizeOf232,Tryz.zeroValue232⟩
theorem UQ (w:World):(isAgg (Jb.t 24)).run Tryz.prog w= .ok true w:=Tryz.isAgg74 w
theorem Ry (w:World):(Go.sizeOf (Jb.t 24)).run Tryz.prog w= .ok 2 w:=Tryz.sizeOf74 w
theorem aO (n:Int) (u0:Int) (u1:Int):gK Tryz.prog 29 [sI n,sI u0,sI u1] [] (fun r=>(vB r)) (fun _=>[]) (aT n u0 u1):=
  iU tT mX Tryz.func29 (
  .r<| .r<| .e (bif (decide (u0<=n))then(decide (n<=u1))else false))
section
variable (p:af)
abbrev k1:List CV:=[cI p.ag,.d (bR none 5 Source.cell p.aa),.d (bR none 6 Link.cell p.ae),.d (bR none 4 aD.cell p.ac)]
abbrev k0:List SV:=[.agg (k1 p)]
end
theorem Aw (p:af):gK Tryz.prog 31 (k0 p) [] (fun r=>(vD (.fn 77 1 (yS [PS [.int .i64 r.1,bR none 5 Source.cell r.2.1,bR none 6 Link.cell r.2.2.1,bR none 4 aD.cell r.2.2.2] 0])))) (fun _=>[]) (pM p):=
  iU tT mX Tryz.func31 (
  .rg {fr:=[(0,1)],fz:=[1]} []<| .r<| .e (p.ag,p.aa,p.ae,p.ac))
theorem CF (p:af):gK Tryz.prog 33 (k0 p) [] (fun r=>(vD (.fn 80 1 (yS [PS [.int .i64 r.1,bR none 5 Source.cell r.2.1,bR none 6 Link.cell r.2.2.1,bR none 4 aD.cell r.2.2.2] 0])))) (fun _=>[]) (sK p):=
  iU tT mX Tryz.func33 (
  .rg {fr:=[(0,1)],fz:=[1]} []<| .r<| .e (p.ag,p.aa,p.ae,p.ac))
theorem CO (p:af):gK Tryz.prog 35 (k0 p) [] (fun r=>(vD (.fn 83 1 (yS [PS [.int .i64 r.1,bR none 5 Source.cell r.2.1,bR none 6 Link.cell r.2.2.1,bR none 4 aD.cell r.2.2.2] 0])))) (fun _=>[]) (tu p):=
  iU tT mX Tryz.func35 (
  .rg {fr:=[(0,1)],fz:=[1]} []<| .r<| .e (p.ag,p.aa,p.ae,p.ac))
section
variable (x:Source) (x1:Int) (u2:List Source) (u3:List Link) (u4:List aD)
abbrev k2:List CV:=[cI x.bus,cI x.kind,cI x.power,cI x.bk,cI x.ohm]
abbrev k3:DV:=(PS [.int .i64 x1,bR none 5 Source.cell u2,bR none 6 Link.cell u3,bR none 4 aD.cell u4] 0)
abbrev k4:=(IntKind.wrap .i64 (x1 - 1))
end
theorem wZ (x:Source) (x1:Int) (u2:List Source) (u3:List Link) (u4:List aD):gK Tryz.prog 77 [.agg (k2 x),sD (k3 x1 u2 u3 u4)] [] (fun r=>(vB r)) (fun _=>[]) (kr x x1 u2 u3 u4):=
  iU tT mX Tryz.func77 (
  .rg {fr:=[(0,1)],fz:=[1]} []<| .cl 5 (aO x.bus 0 (k4 x1)) fun r_=> .cg 9 [(r_,true)] (aO x.kind 1 3) fun u0=> .cg 14 [((bif r_ then u0 else false),true)] (aO x.power 1 100000) fun u1=> .cg 19 [((bif (bif r_ then u0 else false)then u1 else false),true)] (aO x.bk 0 8) fun u5=> .cg 24 [((bif (bif (bif r_ then u0 else false)then u1 else false)then u5 else false),true)] (aO x.ohm 10 100000) fun u6=> .r<| .e (bif (bif (bif (bif r_ then u0 else false)then u1 else false)then u5 else false)then u6 else false))
section
variable (x1:Int) (u0:List Source) (u1:List Link) (u2:List aD)
abbrev k6:=(yS [k3 x1 u0 u1 u2])
abbrev k5:DV:=(PS [.fn 77 1 (k6 x1 u0 u1 u2)] 0)
end
theorem zS (x:Source) (x1:Int) (u0:List Source) (u1:List Link) (u2:List aD):gK Tryz.prog 76 [.agg (k2 x),sD (k5 x1 u0 u1 u2)] [] (fun r=>(vB r)) (fun _=>[]) (pV x x1 u0 u1 u2):=
  iU tT mX Tryz.func76 (
  .rg {fr:=[(0,1)],fz:=[1]} []<| .cl 2 (wZ x x1 u0 u1 u2) fun r_=> .r<| .e (!r_))
section
variable (s_:List Source) (f_:Int) (u0:List Source) (u1:List Link) (u2:List aD) (t8:Int)
abbrev k7:List SV:=[sD (bR none 5 Source.cell s_),sD (.fn 76 1 (yS [k5 f_ u0 u1 u2]))]
abbrev k8:=(IntKind.wrap .i64 (t8+1))
end
theorem uO (s_:List Source) (f_:Int) (u0:List Source) (u1:List Link) (u2:List aD):gK Tryz.prog 107 (k7 s_ f_ u0 u1 u2) [] (fun r=>(vI r)) (fun _=>[]) (lD s_ f_ u0 u1 u2):=
  iU tT mX Tryz.func107 (
  .r<| .r<| .lp (σ:=Int) (β:=Unit) (0) [] [] ⟨[0,1,7],[],fun t8=>[(8,vI t8)],fun t8=>[]⟩ ⟨[],[],fun _=>[],fun _=>[]⟩
  (fun t8=> .r<| .it (.r<| .cl 5 (zS (at' s_ t8.toNat) f_ u0 u1 u2) fun r_=> .a1 ((0:Int)<=t8/\t8<(s_.length:Int))<| .rg {} [0,1]<| .it (.r<| .e (.done (.ret t8)))
  (.r<| .e (.next (k8 t8))))
  (.e (.done (.brk ()))))
  (fun _=> .r<| .e (-1)))
theorem qK (s_:List Source) (f_:Int) (u0:List Source) (u1:List Link) (u2:List aD):gK Tryz.prog 75 (k7 s_ f_ u0 u1 u2) [] (fun r=>(vB r)) (fun _=>[]) (gL s_ f_ u0 u1 u2):=
  iU tT mX Tryz.func75 (
  .r<| .cl 2 (uO s_ f_ u0 u1 u2) fun r_=> .r<| .e (decide (0<=r_)))
theorem Cy (l:List Source) (u0:Int) (u1:Int) (u2:List Source) (u3:List Link) (u4:List aD):gK Tryz.prog 30 [sD (bR none 5 Source.cell l),sI u0,sD (.fn 77 1 (k6 u1 u2 u3 u4))] [] (fun r=>(vB r)) (fun _=>[]) (ow l u0 u1 u2 u3 u4):=
  iU tT mX Tryz.func30 (
  .rg {fr:=[(0,1)],fz:=[1]} []<| .cg 7 [(decide ((l.length:Int)<=u0),true)] (qK l u1 u2 u3 u4) fun r_=> .r<| .e (bif (decide ((l.length:Int)<=u0))then(!r_)else false))
section
variable (x:Link) (u0:Int)
abbrev k9:List CV:=[cI x.a,cI x.b,cI x.kind,cI x.most,cI x.ohm,.d (bR none 2 au.cell x.trip)]
abbrev k10:=(decide (((at' x.trip u0.toNat).bp)<=((at' x.trip ((k4 u0).toNat)).bp)),false)
end
theorem zC (x:Link) (x1:Int) (u3:List Source) (u4:List Link) (u5:List aD):gK Tryz.prog 80 [.agg (k9 x),sD (k3 x1 u3 u4 u5)] [] (fun r=>(vB r)) (fun _=>[]) (lY x x1 u3 u4 u5):=
  iU tT mX Tryz.func80 (
  .rg {fr:=[(0,5)]} []<| .cl 5 (aO x.a 0 (k4 x1)) fun r_=> .cg 13 [(!r_,false)] (aO x.b 0 (k4 x1)) fun u1=> .cg 26 [((bif (bif (!r_)then true else(!u1))then true else(decide (x.a=x.b))),false)] (aO x.kind 1 3) fun u6=> .cg 32 [((bif (bif (bif (!r_)then true else(!u1))then true else(decide (x.a=x.b)))then true else(!u6)),false)] (aO x.most 1 100000) fun u8=> .cg 38 [((bif (bif (bif (bif (!r_)then true else(!u1))then true else(decide (x.a=x.b)))then true else(!u6))then true else(!u8)),false)] (aO x.ohm 10 100000) fun u9=> .r<| .it (.r<| .e false)
  (.rg {fz:=[5]} []<| .lp (σ:=Int) (β:=Unit) (0) [] [] ⟨[2,48,49],[],fun u0=>[(50,vI u0)],fun u0=>[]⟩ ⟨[2],[],fun _=>[],fun _=>[]⟩
  (fun u0=> .r<| .it (.a1 ((0:Int)<=u0/\u0<(x.trip.length:Int))<| .rg {fr:=[(3,9)],fz:=[9]} []<| .cl 2 (aO ((at' x.trip u0.toNat).bp) 1 1000000) fun u2=> .cg 7 [(!u2,false)] (aO ((at' x.trip u0.toNat).bj) 1 100000) fun u7=> .a2 ((gB [(decide (0<u0),true),((bif (!u2)then true else(!u7)),false)]=true->(0:Int)<=(k4 u0)/\(k4 u0)<(x.trip.length:Int))) ((gB [k10 x u0,(decide (0<u0),true),((bif (!u2)then true else(!u7)),false)]=true->(0:Int)<=(k4 u0)/\(k4 u0)<(x.trip.length:Int)))<| .rg {} [3,2,0,1]<| .it (.r<| .e (.done (.ret false)))
  (.r<| .e (.next (k8 u0))))
  (.e (.done (.brk ()))))
  (fun _=> .r<| .e (bif (decide ((x.trip.length:Int)<=6))then(bif (decide ((x.trip.length:Int)=0))then true else(decide (x.kind=3)))else false))))
section
variable (x1:Int) (u0:List Source) (u1:List Link) (u2:List aD)
abbrev k11:DV:=(PS [.fn 80 1 (k6 x1 u0 u1 u2)] 0)
end
theorem vL (x:Link) (x1:Int) (u0:List Source) (u1:List Link) (u2:List aD):gK Tryz.prog 79 [.agg (k9 x),sD (k11 x1 u0 u1 u2)] [] (fun r=>(vB r)) (fun _=>[]) (mD x x1 u0 u1 u2):=
  iU tT mX Tryz.func79 (
  .rg {fr:=[(0,1)],fz:=[1]} []<| .cl 2 (zC x x1 u0 u1 u2) fun r_=> .r<| .e (!r_))
section
variable (s_:List Link) (f_:Int) (u0:List Source) (u1:List Link) (u2:List aD) (t8:Int)
abbrev k12:List SV:=[sD (bR none 6 Link.cell s_),sD (.fn 79 1 (yS [k11 f_ u0 u1 u2]))]
abbrev k13:=((0:Int)<=t8/\t8<(s_.length:Int))
end
theorem qJ (s_:List Link) (f_:Int) (u0:List Source) (u1:List Link) (u2:List aD):gK Tryz.prog 108 (k12 s_ f_ u0 u1 u2) [] (fun r=>(vI r)) (fun _=>[]) (jI s_ f_ u0 u1 u2):=
  iU tT mX Tryz.func108 (
  .r<| .r<| .lp (σ:=Int) (β:=Unit) (0) [] [] ⟨[0,1,7],[],fun t8=>[(8,vI t8)],fun t8=>[]⟩ ⟨[],[],fun _=>[],fun _=>[]⟩
  (fun t8=> .r<| .it (.r<| .cl 5 (vL (at' s_ t8.toNat) f_ u0 u1 u2) fun r_=> .a1 (k13 s_ t8)<| .rg {} [0,1]<| .it (.r<| .e (.done (.ret t8)))
  (.r<| .e (.next (k8 t8))))
  (.e (.done (.brk ()))))
  (fun _=> .r<| .e (-1)))
theorem oz (s_:List Link) (f_:Int) (u0:List Source) (u1:List Link) (u2:List aD):gK Tryz.prog 78 (k12 s_ f_ u0 u1 u2) [] (fun r=>(vB r)) (fun _=>[]) (eZ s_ f_ u0 u1 u2):=
  iU tT mX Tryz.func78 (
  .r<| .cl 2 (qJ s_ f_ u0 u1 u2) fun r_=> .r<| .e (decide (0<=r_)))
theorem AB (l:List Link) (u0:Int) (u1:Int) (u2:List Source) (u3:List Link) (u4:List aD):gK Tryz.prog 32 [sD (bR none 6 Link.cell l),sI u0,sD (.fn 80 1 (k6 u1 u2 u3 u4))] [] (fun r=>(vB r)) (fun _=>[]) (mE l u0 u1 u2 u3 u4):=
  iU tT mX Tryz.func32 (
  .rg {fr:=[(0,1)],fz:=[1]} []<| .cg 7 [(decide ((l.length:Int)<=u0),true)] (oz l u1 u2 u3 u4) fun r_=> .r<| .e (bif (decide ((l.length:Int)<=u0))then(!r_)else false))
section
variable (x:aD)
abbrev k14:List CV:=[cI x.aw.e0,cI x.aw.e1,cI x.power,cI x.bi]
end
theorem Bb (x:aD):gK Tryz.prog 84 [.agg (k14 x)] [] (fun r=>(vI r)) (fun _=>[]) (nH x):=
  iU tT mX Tryz.func84 (
  .rg {fr:=[(0,1)],fz:=[1]} []<| .rg {} [.pf ⟨(0:Int)<=1/\(1:Int)<(2:Nat),(by decide)⟩]<| .it (.r<| .e 1)
  (.r<| .e 2))
section
variable (r_:Bool) (u0:Bool) (x:aD) (u1:Bool)
abbrev k16:=(bif (bif (bif r_ then u0 else false)then(!decide (x.aw.e0=x.aw.e1))else false)then u1 else false)
abbrev k15:=(k16 r_ u0 x u1,true)
end
theorem z8 (x:aD) (x1:Int) (u2:List Source) (u3:List Link) (u4:List aD):gK Tryz.prog 83 [.agg (k14 x),sD (k3 x1 u2 u3 u4)] [] (fun r=>(vB r)) (fun _=>[]) (mq x x1 u2 u3 u4):=
  iU tT mX Tryz.func83 (
  .rg {fr:=[(0,1)],fz:=[1]} []<| .rg {} [.pf ⟨(0:Int)<=0/\(0:Int)<(2:Nat),(by decide)⟩, .pf ⟨(0:Int)<=1/\(1:Int)<(2:Nat),(by decide)⟩]<| .cl 4 (aO x.aw.e0 0 (k4 x1)) fun r_=> .cg 10 [(r_,true)] (aO x.aw.e1 (-1) (k4 x1)) fun u0=> .cg 20 [((bif (bif r_ then u0 else false)then(!decide (x.aw.e0=x.aw.e1))else false),true)] (aO x.power 1 100000) fun u1=> .cg 26 [k15 r_ u0 x u1] (Bb x) fun u5=> .cg 27 [k15 r_ u0 x u1] (aO x.bi 0 u5) fun u6=> .r<| .e (bif (k16 r_ u0 x u1)then u6 else false))
section
variable (x1:Int) (u0:List Source) (u1:List Link) (u2:List aD)
abbrev k17:DV:=(PS [.fn 83 1 (k6 x1 u0 u1 u2)] 0)
end
theorem vC (x:aD) (x1:Int) (u0:List Source) (u1:List Link) (u2:List aD):gK Tryz.prog 82 [.agg (k14 x),sD (k17 x1 u0 u1 u2)] [] (fun r=>(vB r)) (fun _=>[]) (mG x x1 u0 u1 u2):=
  iU tT mX Tryz.func82 (
  .rg {fr:=[(0,1)],fz:=[1]} []<| .cl 2 (z8 x x1 u0 u1 u2) fun r_=> .r<| .e (!r_))
section
variable (s_:List aD) (f_:Int) (u0:List Source) (u1:List Link) (u2:List aD)
abbrev k18:List SV:=[sD (bR none 4 aD.cell s_),sD (.fn 82 1 (yS [k17 f_ u0 u1 u2]))]
end
theorem qH (s_:List aD) (f_:Int) (u0:List Source) (u1:List Link) (u2:List aD):gK Tryz.prog 109 (k18 s_ f_ u0 u1 u2) [] (fun r=>(vI r)) (fun _=>[]) (jL s_ f_ u0 u1 u2):=
  iU tT mX Tryz.func109 (
  .r<| .r<| .lp (σ:=Int) (β:=Unit) (0) [] [] ⟨[0,1,7],[],fun t8=>[(8,vI t8)],fun t8=>[]⟩ ⟨[],[],fun _=>[],fun _=>[]⟩
  (fun t8=> .r<| .it (.r<| .cl 5 (vC (⟨(at' s_ t8.toNat).aw,(at' s_ t8.toNat).power,(at' s_ t8.toNat).bi⟩:aD) f_ u0 u1 u2) fun r_=> .a1 ((0:Int)<=t8/\t8<(s_.length:Int))<| .rg {} [0,1]<| .it (.r<| .e (.done (.ret t8)))
  (.r<| .e (.next (k8 t8))))
  (.e (.done (.brk ()))))
  (fun _=> .r<| .e (-1)))
theorem oq (s_:List aD) (f_:Int) (u0:List Source) (u1:List Link) (u2:List aD):gK Tryz.prog 81 (k18 s_ f_ u0 u1 u2) [] (fun r=>(vB r)) (fun _=>[]) (eU s_ f_ u0 u1 u2):=
  iU tT mX Tryz.func81 (
  .r<| .cl 2 (qH s_ f_ u0 u1 u2) fun r_=> .r<| .e (decide (0<=r_)))
theorem Ah (l:List aD) (u0:Int) (u1:Int) (u2:List Source) (u3:List Link) (u4:List aD):gK Tryz.prog 34 [sD (bR none 4 aD.cell l),sI u0,sD (.fn 83 1 (k6 u1 u2 u3 u4))] [] (fun r=>(vB r)) (fun _=>[]) (lW l u0 u1 u2 u3 u4):=
  iU tT mX Tryz.func34 (
  .rg {fr:=[(0,1)],fz:=[1]} []<| .cg 7 [(decide ((l.length:Int)<=u0),true)] (oq l u1 u2 u3 u4) fun r_=> .r<| .e (bif (decide ((l.length:Int)<=u0))then(!r_)else false))
theorem fZ (p:af):gK Tryz.prog 8 (k0 p) [] (fun r=>(vI r)) (fun _=>[]) (fq p):=
  iU tT mX Tryz.func8 (
  .rg {fr:=[(0,1)],fz:=[1]} []<| .cl 2 (aO p.ag 1 24) fun r_=> .r<| .it (.r<| .e 10)
  (.cl 3 (Aw p) fun u0=> .cl 4 (Cy p.aa 8 u0.1 u0.2.1 u0.2.2.1 u0.2.2.2) fun u3=> .r<| .it (.r<| .e 11)
  (.cl 3 (CF p) fun u1=> .cl 4 (AB p.ae 40 u1.1 u1.2.1 u1.2.2.1 u1.2.2.2) fun u4=> .r<| .it (.r<| .e 12)
  (.cl 3 (CO p) fun u2=> .cl 4 (Ah p.ac 24 u2.1 u2.2.1 u2.2.2.1 u2.2.2.2) fun u5=> .r<| .it (.r<| .e 13)
  (.r<| .e 0)))))
theorem CK (p:af) (x:Link):gK Tryz.prog 36 [.agg (k1 p),.agg (k9 x)] [] (fun r=>(vB r)) (fun _=>[]) (ou p x):=
  iU tT mX Tryz.func36 (
  .rg {fr:=[(0,6),(1,7)],fz:=[6]} []<| .r<| .it (.r<| .e false)
  (.r<| .it (.r<| .e false)
  (.r<| .lp (σ:=Int) (β:=Unit) (0) [] [] ⟨[3],[7],fun i=>[(5,vI i)],fun i=>[]⟩ ⟨[],[],fun _=>[],fun _=>[]⟩
  (fun i=> .r<| .it (.a1 ((0:Int)<=i/\i<(x.trip.length:Int))<| .rg {fr:=[(5,11)],fz:=[11]} []<| .r<| .it (.r<| .e (.done (.ret false)))
  (.a2 ((gB [(decide (0<i),true)]=true->(0:Int)<=(k4 i)/\(k4 i)<(x.trip.length:Int))) ((gB [k10 x i,(decide (0<i),true)]=true->(0:Int)<=(k4 i)/\(k4 i)<(x.trip.length:Int)))<| .rg {} [0,1]<| .it (.r<| .e (.done (.ret false)))
  (.r<| .e (.next (k8 i)))))
  (.e (.done (.brk ()))))
  (fun _=> .r<| .e true))))
section
variable (i:Int) (p:af) (i1:Int) (i2:Int)
abbrev k19:=((0:Int)<=i/\i<(p.aa.length:Int))
abbrev k20:=((0:Int)<=i1/\i1<(p.ae.length:Int))
abbrev k21:=((0:Int)<=i2/\i2<(p.ac.length:Int))
end
theorem iL (p:af):gK Tryz.prog 9 (k0 p) [] (fun r=>(vI r)) (fun _=>[]) (fe p):=
  iU tT mX Tryz.func9 (
  .rg {fr:=[(0,9)]} []<| .r<| .it (.r<| .e 10)
  (.r<| .it (.r<| .e 11)
  (.r<| .lp (σ:=Int) (β:=Unit) (0) [] [] ⟨[1],[9],fun i=>[(3,vI i)],fun i=>[]⟩ ⟨[1],[9],fun _=>[],fun _=>[]⟩
  (fun i=> .r<| .it (.a1 (k19 i p)<| .rg {fr:=[(5,13)],fz:=[13]} []<| .r<| .it (.r<| .e (.done (.ret 11)))
  (.r<| .e (.next (k8 i))))
  (.e (.done (.brk ()))))
  (fun _=> .r<| .it (.r<| .e 12)
  (.r<| .lp (σ:=Int) (β:=Unit) (0) [] [] ⟨[1],[9],fun i1=>[(5,vI i1)],fun i1=>[]⟩ ⟨[1],[9],fun _=>[],fun _=>[]⟩
  (fun i1=> .r<| .it (.cl 6 (CK p (at' p.ae i1.toNat)) fun r_=> .a1 (k20 p i1)<| .rg {} [0,1]<| .it (.r<| .e (.done (.ret 12)))
  (.r<| .e (.next (k8 i1))))
  (.e (.done (.brk ()))))
  (fun _=> .r<| .it (.r<| .e 13)
  (.r<| .lp (σ:=Int) (β:=Unit) (0) [] [] ⟨[1],[9],fun i2=>[(6,vI i2)],fun i2=>[]⟩ ⟨[],[],fun _=>[],fun _=>[]⟩
  (fun i2=> .r<| .it (.a1 (k21 p i2)<| .rg {fr:=[(5,17)],fz:=[17]} []<| .rg {} [.pf ⟨(0:Int)<=0/\(0:Int)<(2:Nat),(by decide)⟩, .pf ⟨(0:Int)<=1/\(1:Int)<(2:Nat),(by decide)⟩]<| .r<| .r<| .it (.r<| .r<| .it (.r<| .e (.done (.ret 13)))
  (.r<| .e (.next (k8 i2))))
  (.r<| .it (.r<| .e (.done (.ret 13)))
  (.r<| .e (.next (k8 i2)))))
  (.e (.done (.brk ()))))
  (fun _=> .r<| .e 0))))))))
section
variable (s_:State) (p:af) (u0:Int)
abbrev k23:List CV:=[.d (bR none 1 av s_.a_),.d (bR none 1 av s_.bh),.d (bR none 1 av s_.aq),.d (bR none 1 av s_.on_),.d (bR none 1 av s_.am),.d (bR none 1 av s_.ba),.d (bR none 1 av s_.ap)]
abbrev k22:List SV:=[.agg (k1 p),.agg (k23 s_)]
abbrev k24:=(⟨s_.a_,(p.ae.length:Int)⟩:gD)
abbrev k25:=(⟨s_.bh,(p.ae.length:Int)⟩:gD)
abbrev k26:=(⟨s_.aq,(p.ae.length:Int)⟩:gD)
abbrev k27:=(⟨s_.on_,(p.aa.length:Int)⟩:gD)
abbrev k28:=(⟨s_.am,(p.aa.length:Int)⟩:gD)
abbrev k29:=(aj gD.cell [k24 s_ p,k25 s_ p,k26 s_ p,k27 s_ p,k28 s_ p,(⟨s_.ba,p.ag⟩:gD),(⟨s_.ap,p.ag⟩:gD)])
abbrev k30:=((gB [(decide (((at' p.ae u0.toNat).kind)=1),true)]=true->(0:Int)<=u0/\u0<(s_.a_.length:Int)))
abbrev k31:=((gB [(!(at' s_.a_ u0.toNat),false),(decide (((at' p.ae u0.toNat).kind)=1),true)]=true->(0:Int)<=u0/\u0<(s_.bh.length:Int)))
end
theorem dM (p:af) (s_:State):gK Tryz.prog 37 (k22 s_ p) [] (fun r=>(vI r)) (fun _=>[]) (dQ p s_):=
  iU tT mX Tryz.func37 (
  .rg {fr:=[(0,11),(1,12)]} []<| .cl 1 (fZ p) fun r_=> .r<| .r<| .it (.r<| .e r_)
  (.r<| .rg {an:=[(30, .arr [k24 s_ p,k25 s_ p,k26 s_ p,k27 s_ p,k28 s_ p,(⟨s_.ba,p.ag⟩:gD),(⟨s_.ap,p.ag⟩:gD)].length (k29 s_ p))],fr:=[(30,13)],fz:=[12]} [.pf ⟨[k24 s_ p,k25 s_ p,k26 s_ p,k27 s_ p,k28 s_ p,(⟨s_.ba,p.ag⟩:gD),(⟨s_.ap,p.ag⟩:gD)].length=7,rfl⟩, .pf ⟨aB 7 2 (iV 2 [bR none 1 av s_.a_,.int .i64 (p.ae.length:Int),bR none 1 av s_.bh,.int .i64 (p.ae.length:Int),bR none 1 av s_.aq,.int .i64 (p.ae.length:Int),bR none 1 av s_.on_,.int .i64 (p.aa.length:Int),bR none 1 av s_.am,.int .i64 (p.aa.length:Int),bR none 1 av s_.ba,.int .i64 p.ag,bR none 1 av s_.ap,.int .i64 p.ag]) (k29 s_ p),(by intro i hi j hj;match i,j,hi,hj with|0,0,_,_=>rfl|0,1,_,_=>rfl|1,0,_,_=>rfl|1,1,_,_=>rfl|2,0,_,_=>rfl|2,1,_,_=>rfl|3,0,_,_=>rfl|3,1,_,_=>rfl|4,0,_,_=>rfl|4,1,_,_=>rfl|5,0,_,_=>rfl|5,1,_,_=>rfl|6,0,_,_=>rfl|6,1,_,_=>rfl)⟩]<| .lp (σ:=Int) (β:=Unit) (0) [] [] ⟨[2,3,53,54],[11,13],fun u1=>[(55,vI u1)],fun u1=>[]⟩ ⟨[2,3],[11],fun _=>[],fun _=>[]⟩
  (fun u1=> .r<| .it (.a1 ((0:Int)<=u1/\u1<([k24 s_ p,k25 s_ p,k26 s_ p,k27 s_ p,k28 s_ p,(⟨s_.ba,p.ag⟩:gD),(⟨s_.ap,p.ag⟩:gD)].length:Int))<| .rg {fr:=[(2,17)],fz:=[17]} [0, .t 0 u1 ([k24 s_ p,k25 s_ p,k26 s_ p,k27 s_ p,k28 s_ p,(⟨s_.ba,p.ag⟩:gD),(⟨s_.ap,p.ag⟩:gD)].length)]<| .r<| .it (.r<| .e (.done (.ret 9)))
  (.r<| .e (.next (k8 u1))))
  (.e (.done (.brk ()))))
  (fun _=> .r<| .lp (σ:=Int) (β:=Unit) (0) [] [] ⟨[3,67,68],[],fun u0=>[(69,vI u0)],fun u0=>[]⟩ ⟨[],[],fun _=>[],fun _=>[]⟩
  (fun u0=> .r<| .it (.a1 (k20 p u0)<| .rg {fr:=[(3,21)],fz:=[21]} []<| .a2 (k30 s_ p u0) (k31 s_ p u0)<| .rg {} [0,1]<| .it (.r<| .e (.done (.ret 9)))
  (.r<| .e (.next (k8 u0))))
  (.e (.done (.brk ()))))
  (fun _=> .r<| .e 0))))
theorem uq (p:af) (s_:State):gK Tryz.prog 85 (k22 s_ p) [] (fun r=>(vD (.fn 110 2 (yS [PS [.int .i64 r.1,bR none 5 Source.cell r.2.1,bR none 6 Link.cell r.2.2.1,bR none 4 aD.cell r.2.2.2.1] 0,PS [bR none 1 av r.2.2.2.2.1,bR none 1 av r.2.2.2.2.2.1,bR none 1 av r.2.2.2.2.2.2.1,bR none 1 av r.2.2.2.2.2.2.2.1,bR none 1 av r.2.2.2.2.2.2.2.2.1,bR none 1 av r.2.2.2.2.2.2.2.2.2.1,bR none 1 av r.2.2.2.2.2.2.2.2.2.2] 0])))) (fun _=>[]) (p9 p s_):=
  iU tT mX Tryz.func85 (
  .rg {fr:=[(0,2),(1,3)],fz:=[2,3]} []<| .r<| .e (p.ag,p.aa,p.ae,p.ac,s_.a_,s_.bh,s_.aq,s_.on_,s_.am,s_.ba,s_.ap))
noncomputable def iY:iH:=⟨[22],Rc ([1,1,0,1,0]++[0]) (jX Tryz.f38),Rc ([1,1,0,1,0]++[1]) (jX Tryz.f38),125,[]⟩
section
variable (g:aM)
abbrev k33:Ob:=(Me 3 3 false false 1 1 (aN .i64) (aN .i64) g.head)
abbrev k32:List (Nat × Option Ob):=[(0,some (k33 g))]
end
theorem dA (g:aM) (x:Int):gK Tryz.prog 87 [.agg [.mp 0],sI x] (k32 g) (fun r=>(vI r)) (fun r=>(k32 g)) (dD g x):=
  iU tT mX Tryz.func87 (
  .rg {fr:=[(0,2)]} []<| .lp (σ:=Int) (β:=Unit) (x) [] [] ⟨[2],[0,2],fun x1=>[(1,vI x1)],fun x1=>[]⟩ ⟨[],[],fun _=>[],fun _=>[]⟩
  (fun x1=> .rg {an:=[(3, .look (bg fA x1 g.head).isSome [cI ((bg fA x1 g.head).getD 0)])]} [.pf ⟨jk [.i .i64] 1 1 g.head.length (kI (aN .i64) g.head) (kT (aN .i64) g.head) [.int .i64 x1] [.d (.int .i64 0)] (bg fA x1 g.head).isSome [cI ((bg fA x1 g.head).getD 0)],gZ (fun _=>rfl) (fun _ _=>rfl) g.head x1 0 rfl rfl rfl⟩]<| .r<| .it (.r<| .e (.done (.ret x1)))
  (.r<| .e (.next ((bg fA x1 g.head).getD 0))))
  (fun _=> .no))
theorem sM (g:aM) (a:Int) (b:Int):gK Tryz.prog 86 [.agg [.mp 0],sI a,sI b] (k32 g) (fun r=>(.eB [])) (fun r=>[(0,some (Me 3 3 false false 1 1 (aN .i64) (aN .i64) r))]) (nZ g a b):=
  iU tT mX Tryz.func86 (
  .rg {fr:=[(0,2)]} []<| .cr 2 (dA g a) fun r_=> .cr 5 (dA g b) fun u0=> .r<| .r<| .it (.rg {an:=[(4, .map (aG fA r_ u0 g.head).length (kI (aN .i64) (aG fA r_ u0 g.head)) (kT (aN .i64) (aG fA r_ u0 g.head)) [])]} [.pf ⟨iQ [.i .i64] 1 1 g.head.length (kI (aN .i64) g.head) (kT (aN .i64) g.head) [.int .i64 r_] [cI u0] [] (aG fA r_ u0 g.head).length (kI (aN .i64) (aG fA r_ u0 g.head)) (kT (aN .i64) (aG fA r_ u0 g.head)),iN (fun _=>rfl) (fun _ _=>rfl) g.head r_ u0 rfl rfl⟩]<| .e (aG fA r_ u0 g.head))
  (.e g.head))
section
variable (o_:aM)
abbrev k35:Nat × Option Ob:=(0,some (.loop iY 0 [(5,vP 1 0)]))
abbrev k34:List (Nat × Option Ob):=[k35,(1,some (.cells 157 [.mp 2])),(2,some (k33 o_))]
end
theorem lH (u0:Int) (u1:Int) (u2:Int) (u3:Int) (u4:Int) (u5:List au) (o_:aM):Yy Tryz.prog 0 [.agg [cI u0,cI u1,cI u2,cI u3,cI u4,.d (bR none 2 au.cell u5)]] (k34 o_) (fun _=>vB true) (fun r=>[k35,(1,some (.cells 157 [.mp 2])),(2,some (Me 3 3 false false 1 1 (aN .i64) (aN .i64) r.head))]) (j5 u0 u1 u2 u3 u4 u5 o_):=
  scY tT mX iY ⟨[5],[0,1,2],fun _=>[(6,vD (PS [.int .i64 u0,.int .i64 u1,.int .i64 u2,.int .i64 u3,.int .i64 u4,bR none 2 au.cell u5] 0))],fun _=>[]⟩ (.rg {fr:=[(0,4)],fz:=[4]} []<| .e ())
  (.cl 5 (rQ [(0,2)] (sM o_ u0 u1)) fun r_=> .r<| .e (⟨r_⟩:aM))
section
variable (o0:List (Int × Int)) (x2:List Bool) (t9:Int) (u2:List Bool) (u1:List Bool) (u0:List Link)
abbrev k36:Ob:=(Me 3 3 false false 1 1 (aN .i64) (aN .i64) o0)
abbrev k37:=(bif (bif (at' x2 t9.toNat)then(!(at' u2 t9.toNat))else false)then(!(at' u1 (((at' u0 t9.toNat).a).toNat)))else false)
abbrev Y0:=((0:Int)<=t9/\t9<(x2.length:Int))
abbrev k39:=((gB [((bif (at' x2 t9.toNat)then(!(at' u2 t9.toNat))else false),true)]=true->(0:Int)<=(at' u0 t9.toNat).a/\(at' u0 t9.toNat).a<(u1.length:Int)))
abbrev k40:=((gB [(k37 x2 t9 u2 u1 u0,true)]=true->(0:Int)<=(at' u0 t9.toNat).b/\(at' u0 t9.toNat).b<(u1.length:Int)))
end
theorem rO (x1:Int) (u3:List Source) (u0:List Link) (u4:List aD) (x2:List Bool) (u5:List Bool) (u2:List Bool) (u6:List Bool) (u7:List Bool) (u8:List Bool) (u1:List Bool) (o_:aM):gK Tryz.prog 110 [.one (.yl 0),sD (k3 x1 u3 u0 u4),sD (PS [bR none 1 av x2,bR none 1 av u5,bR none 1 av u2,bR none 1 av u6,bR none 1 av u7,bR none 1 av u8,bR none 1 av u1] 0)] (k34 o_) (fun r=>(.eB [])) (fun r=>[k35,(1,some (.cells 157 [.mp 2])),(2,some (Me 3 3 false false 1 1 (aN .i64) (aN .i64) r.head))]) (nP x1 u3 u0 u4 x2 u5 u2 u6 u7 u8 u1 o_):=
  iU tT mX Tryz.func110 (
  .r<| .lp (σ:=((List (Int × Int)) × Int)) (β:=(List (Int × Int))) (o_.head,0) [] [] ⟨[0,2,7,8],[0,1],fun(o0,t9)=>[(9,vI t9)],fun(o0,t9)=>[(2,some (k36 o0))]⟩ ⟨[],[0,1],fun o01=>[],fun o01=>[(2,some (Me 3 3 false false 1 1 (aN .i64) (aN .i64) o01))]⟩
  (fun(o0,t9)=> .r<| .it (.a1 (k13 u0 t9)<| .rg {fr:=[(3,10)],fz:=[10]} []<| .fk (bif (k37 x2 t9 u2 u1 u0)then(!(at' u1 (((at' u0 t9.toNat).b).toNat)))else false) (.cy 34 (lH ((at' u0 t9.toNat).a) ((at' u0 t9.toNat).b) ((at' u0 t9.toNat).kind) ((at' u0 t9.toNat).most) ((at' u0 t9.toNat).ohm) ((at' u0 t9.toNat).trip) (⟨o0⟩:aM)) fun r_=> .a4 (Y0 x2 t9) ((gB [(at' x2 t9.toNat,true)]=true->(0:Int)<=t9/\t9<(u2.length:Int))) (k39 x2 t9 u2 u1 u0) (k40 x2 t9 u2 u1 u0)<| .rg {ov:=[(31,true,5)]} [0,1,2,3, .k 4]<| .f<| .r<| .e (.next (r_.head,k8 t9)))
  (.a4 (Y0 x2 t9) ((gB [(at' x2 t9.toNat,true)]=true->(0:Int)<=t9/\t9<(u2.length:Int))) (k39 x2 t9 u2 u1 u0) (k40 x2 t9 u2 u1 u0)<| .rg {ov:=[(31,false,4)],sk:=[32,33,34,35]} [0,1,2,3]<| .f<| .r<| .e (.next (o0,k8 t9))))
  (.e (.done (.brk o0))))
  (fun o01=> .e (⟨o01⟩:aM)))
section
variable (r_:Int × (List Source) × (List Link) × (List aD) × (List Bool) × (List Bool) × (List Bool) × (List Bool) × (List Bool) × (List Bool) × (List Bool)) (u1:List ai) (u2:List (Int × Int)) (u3:Int) (s_:State) (u0:Int) (u5:List ai) (u7:Int) (p:af) (u6:Int) (u4:List (Int × Int))
abbrev k41:=(rQ [(0,59),(1,58),(2,57)] (rO r_.1 r_.2.1 r_.2.2.1 r_.2.2.2.1 r_.2.2.2.2.1 r_.2.2.2.2.2.1 r_.2.2.2.2.2.2.1 r_.2.2.2.2.2.2.2.1 r_.2.2.2.2.2.2.2.2.1 r_.2.2.2.2.2.2.2.2.2.1 r_.2.2.2.2.2.2.2.2.2.2 (⟨([]:(List (Int × Int)))⟩:aM)))
abbrev k42:List (Nat × Option Ob):=[(60,some (.rows 94 2 u1.length (pR ai.ev u1) none)),(61,some (k36 u2))]
abbrev k43:=((0:Int)<=u3/\u3<(s_.ap.length:Int))
abbrev Bg:=((bg fA u0 u2).getD 0)
abbrev PU:List CV:=[cI (Bg u2 u0)]
abbrev PV:=(aG fA u0 (u1.length:Int) u2)
abbrev YE:=(kI (aN .i64) (PV u1 u2 u0))
abbrev YG:=(kT (aN .i64) (PV u1 u2 u0))
abbrev k49:=((u1.length+[(⟨([]:List Int),([]:List Int)⟩:ai)].length)*48<=140737488355328)
abbrev k50:=(u1.length+[(⟨([]:List Int),([]:List Int)⟩:ai)].length<=4611686018427387904)
abbrev N9:=(u1++[(⟨([]:List Int),([]:List Int)⟩:ai)])
abbrev k52:=(pR ai.ev (N9 u1))
abbrev Zx:=(bg fA u0 (PV u1 u2 u0))
abbrev PW:=((Zx u1 u2 u0).getD 0)
abbrev k54:List CV:=[cI (PW u1 u2 u0)]
abbrev k56:=((0:Int)<=(PW u1 u2 u0)/\(PW u1 u2 u0)<((N9 u1).length:Int))
abbrev k61:=((PW u1 u2 u0).toNat)
abbrev k60:=(at' (N9 u1) (k61 u1 u2 u0))
abbrev SN:=((k60 u1 u2 u0).ag)
abbrev k58:=((SN u1 u2 u0).length+[u3].length)
abbrev k57:=((k58 u1 u2 u3 u0)*8<=140737488355328)
abbrev k62:=((SN u1 u2 u0).length+[u3].length<=4611686018427387904)
abbrev VT:=((SN u1 u2 u0)++[u3])
abbrev k64:=(aj (aN .i64) (VT u1 u2 u3 u0))
abbrev k66:=((N9 u1).set (k61 u1 u2 u0) (⟨VT u1 u2 u3 u0,(k60 u1 u2 u0).aa⟩:ai))
abbrev k65:=(pR ai.ev (k66 u1 u2 u3 u0))
abbrev k67:=((N9 u1).length)
abbrev XH:=(iV 1 [.int .i64 u3])
abbrev k69:=((SN u1 u2 u0).length)
abbrev k70:=(jK (aj (aN .i64) (SN u1 u2 u0)) (SN u1 u2 u0).length (aj (aN .i64) [u3]))
abbrev k71:=((VT u1 u2 u3 u0).length)
abbrev k72:=(Nw (k52 u1) (k61 u1 u2 u0) 0 (.row 3 1 (VT u1 u2 u3 u0).length (k64 u1 u2 u3 u0)))
abbrev k73:=((some ((PW u1 u2 u0).toNat,0,CV.own 88 false (SN u1 u2 u0).length)):Option (Nat × Nat × CV))
abbrev k74:=(k66 u1 u2 u3 u0,PV u1 u2 u0,k8 u3)
abbrev k75:=((0:Int)<=(Bg u2 u0)/\(Bg u2 u0)<(u1.length:Int))
abbrev SL:=((at' u1 ((Bg u2 u0).toNat)).ag)
abbrev k77:=((SL u1 u2 u0).length+[u3].length)
abbrev k76:=((k77 u1 u2 u3 u0)*8<=140737488355328)
abbrev k79:=((SL u1 u2 u0).length+[u3].length<=4611686018427387904)
abbrev VY:=((SL u1 u2 u0)++[u3])
abbrev YT:=(aj (aN .i64) (VY u1 u2 u3 u0))
abbrev k83:=(u1.set ((Bg u2 u0).toNat) (⟨VY u1 u2 u3 u0,(at' u1 ((Bg u2 u0).toNat)).aa⟩:ai))
abbrev k82:=(pR ai.ev (k83 u1 u2 u3 u0))
abbrev k84:=((SL u1 u2 u0).length)
abbrev k85:=(jK (aj (aN .i64) (SL u1 u2 u0)) (SL u1 u2 u0).length (aj (aN .i64) [u3]))
abbrev k86:=((VY u1 u2 u3 u0).length)
abbrev k87:=(Nw (pR ai.ev u1) ((Bg u2 u0).toNat) 0 (.row 3 1 (VY u1 u2 u3 u0).length (YT u1 u2 u3 u0)))
abbrev k88:=((some ((Bg u2 u0).toNat,0,CV.own 91 false (SL u1 u2 u0).length)):Option (Nat × Nat × CV))
abbrev k89:=(k83 u1 u2 u3 u0,u2,k8 u3)
abbrev k90:List (Nat × Option Ob):=[(60,some (.rows 94 2 u5.length (pR ai.ev u5) none))]
abbrev k91:=((0:Int)<=u7/\u7<(s_.on_.length:Int))
abbrev k92:=((gB [(at' s_.on_ u7.toNat,true)]=true->(0:Int)<=u7/\u7<(s_.am.length:Int)))
abbrev k94:=((bif (at' s_.on_ u7.toNat)then(!(at' s_.am u7.toNat))else false),true)
abbrev k93:=((gB [k94 s_ u7]=true->(0:Int)<=(at' p.aa u7.toNat).bus/\(at' p.aa u7.toNat).bus<(s_.ap.length:Int)))
abbrev Wp:=((at' p.aa u7.toNat).bus)
abbrev SK:=((at' u5 ((Bg u4 u6).toNat)).aa)
abbrev k97:=((SK u5 u6 u4).length+[u7].length)
abbrev k96:=((k97 u5 u7 u6 u4)*8<=140737488355328)
abbrev k99:=((SK u5 u6 u4).length+[u7].length<=4611686018427387904)
abbrev Ke:=((SK u5 u6 u4)++[u7])
abbrev Rv:=(aj (aN .i64) (Ke u5 u7 u6 u4))
abbrev U9:=(u5.set ((Bg u4 u6).toNat) (⟨(at' u5 ((Bg u4 u6).toNat)).ag,Ke u5 u7 u6 u4⟩:ai))
abbrev Vq:=(pR ai.ev (U9 u5 u7 u6 u4))
abbrev aa0:=((SK u5 u6 u4).length)
abbrev aai:=(jK (aj (aN .i64) (SK u5 u6 u4)) (SK u5 u6 u4).length (aj (aN .i64) [u7]))
abbrev aaW:=((Ke u5 u7 u6 u4).length)
abbrev aaE:=(Nw (pR ai.ev u5) ((Bg u4 u6).toNat) 1 (.row 3 1 (Ke u5 u7 u6 u4).length (Rv u5 u7 u6 u4)))
abbrev ab2:=((some ((Bg u4 u6).toNat,1,CV.own 107 false (SK u5 u6 u4).length)):Option (Nat × Nat × CV))
abbrev YS:=(U9 u5 u7 u6 u4,k8 u7)
abbrev Va:=(u5,k8 u7)
end
theorem kY (p:af) (s_:State):gK Tryz.prog 38 (k22 s_ p) [] (fun r=>(vD (bR none 2 ai.cell r))) (fun _=>[]) (kX p s_):=
  iU tT mX Tryz.func38 (
  .rg {fr:=[(0,55),(1,56)],fz:=[56]} []<| .rg {an:=[(0, .map 0 (kI (aN .i64) ([]:(List (Int × Int)))) (kT (aN .i64) ([]:(List (Int × Int)))) [])],fr:=[(0,57),(2,58)]} []<| .cl 2 (uq p s_) fun r_=> .r<| .cl 0 (k41 r_) fun v0=> .rf 59 [5] [] none 0 []<| .r<| .im (.adR 7 60 94 2 (pR ai.ev ([]:List ai)))<| .rg {an:=[(0, .map 0 (kI (aN .i64) ([]:(List (Int × Int)))) (kT (aN .i64) ([]:(List (Int × Int)))) [])],fr:=[(0,61)]} []<| .r<| .lp (σ:=((List ai) × (List (Int × Int)) × Int)) (β:=((List ai) × (List (Int × Int)))) (([]:List ai),([]:(List (Int × Int))),0) [] [] ⟨[2,3,5,8,31],[55,57,58],fun(u1,u2,u3)=>[(7,vO 60 false u1.length),(32,vI u3)],fun(u1,u2,u3)=>(k42 u1 u2)⟩ ⟨[2,3,5,8],[55,57,58],fun(u9,u4)=>[(7,vO 60 false u9.length)],fun(u9,u4)=>(k42 u9 u4)⟩
  (fun(u1,u2,u3)=> .r<| .it (.r<| .a1 (k43 u3 s_)<| .r<| .it (.r<| .e (.next (u1,u2,k8 u3)))
  (.cr 2 (rQ [(0,57)] (dA v0 u3)) fun u0=> .r<| .rg {an:=[(2, .look (bg fA u0 u2).isSome (PU u2 u0))]} [.pf ⟨jk [.i .i64] 1 1 u2.length (kI (aN .i64) u2) (kT (aN .i64) u2) [.int .i64 u0] [.d (.int .i64 0)] (bg fA u0 u2).isSome (PU u2 u0),gZ (fun _=>rfl) (fun _ _=>rfl) u2 u0 0 rfl rfl rfl⟩]<| .r<| .it (.rg {an:=[(4, .map (PV u1 u2 u0).length (YE u1 u2 u0) (YG u1 u2 u0) [])]} [.pf ⟨iQ [.i .i64] 1 1 u2.length (kI (aN .i64) u2) (kT (aN .i64) u2) [.int .i64 u0] [cI (u1.length:Int)] [] (PV u1 u2 u0).length (YE u1 u2 u0) (YG u1 u2 u0),iN (fun _=>rfl) (fun _ _=>rfl) u2 u0 (u1.length:Int) rfl rfl⟩]<| .a2 (k49 u1) (k50 u1)<| .rg {an:=[(2, .arr [(⟨([]:List Int),([]:List Int)⟩:ai)].length (iV 2 [nS,nS])),(3, .rows (N9 u1).length (k52 u1))],fr:=[(2,86),(3,87)]} [.pf ⟨[(⟨([]:List Int),([]:List Int)⟩:ai)].length=1,rfl⟩, .pf ⟨aB 1 2 (iV 2 [nS,nS]) (iV 2 [nS,nS]),nA _ _ _⟩, .e (u1.length),0,1, .pf ⟨(N9 u1).length=u1.length+[(⟨([]:List Int),([]:List Int)⟩:ai)].length,b_⟩, .pf ⟨Ay u1.length [(⟨([]:List Int),([]:List Int)⟩:ai)].length 2 (pR ai.ev u1) (iV 2 [nS,nS]) (k52 u1),NA _ _ _ _ _ (by intro i hi j hj;match i,j,hi,hj with|0,0,_,_=>exact⟨rfl,_,_,_,rfl⟩|0,1,_,_=>exact⟨rfl,_,_,_,rfl⟩)⟩]<| .rg {an:=[(2, .look (Zx u1 u2 u0).isSome (k54 u1 u2 u0))]} [.pf ⟨jk [.i .i64] 1 1 (PV u1 u2 u0).length (YE u1 u2 u0) (YG u1 u2 u0) [.int .i64 u0] [.d (.int .i64 0)] (Zx u1 u2 u0).isSome (k54 u1 u2 u0),gZ (fun _=>rfl) (fun _ _=>rfl) (PV u1 u2 u0) u0 0 rfl rfl rfl⟩]<| .a3 (k56 u1 u2 u0) (k57 u1 u2 u3 u0) (k62 u1 u2 u3 u0)<| .rg {an:=[(6, .take 88),(8, .arr [u3].length (aj (aN .i64) [u3])),(9, .arr (VT u1 u2 u3 u0).length (k64 u1 u2 u3 u0)),(12, .rows 0 (k65 u1 u2 u3 u0))],fr:=[(8,89),(9,90)]} [0, .t 0 (PW u1 u2 u0) (k67 u1), .pf ⟨[u3].length=1,rfl⟩, .pf ⟨aB 1 1 (XH u3) (aj (aN .i64) [u3]),(by intro i hi j hj;match i,j,hi,hj with|0,0,_,_=>rfl)⟩, .e (k69 u1 u2 u0),1,2, .pf ⟨(VT u1 u2 u3 u0).length=(SN u1 u2 u0).length+[u3].length,b_⟩, .pf ⟨aB (k58 u1 u2 u3 u0) 1 (k70 u1 u2 u3 u0) (k64 u1 u2 u3 u0),bH _ _ _ _⟩,0, .t 0 (PW u1 u2 u0) (k67 u1), .e (k71 u1 u2 u3 u0), .pf ⟨FV (N9 u1).length 2 (k72 u1 u2 u3 u0) (k65 u1 u2 u3 u0),qR _ _ _ _ _ _ _ _ rfl (fun j hj=>(match j,hj with|0,_=>rfl|1,_=>rfl))⟩, .pf ⟨∀i0 j0 c0,(k73 u1 u2 u0)=some (i0,j0,c0)->i0=(PW u1 u2 u0).toNat/\j0=0,(fun i0 j0 c0 e=>by cases e;exact⟨rfl,rfl⟩)⟩]<| .im (.ll 87 (N9 u1) (k66 u1 u2 u3 u0))<| .r<| .en (.next (k74 u1 u2 u3 u0)) [] [(87,60)])
  (.rg {an:=[(2, .look (bg fA u0 u2).isSome (PU u2 u0))]} [.pf ⟨jk [.i .i64] 1 1 u2.length (kI (aN .i64) u2) (kT (aN .i64) u2) [.int .i64 u0] [.d (.int .i64 0)] (bg fA u0 u2).isSome (PU u2 u0),gZ (fun _=>rfl) (fun _ _=>rfl) u2 u0 0 rfl rfl rfl⟩]<| .a3 (k75 u1 u2 u0) (k76 u1 u2 u3 u0) (k79 u1 u2 u3 u0)<| .rg {an:=[(6, .take 91),(8, .arr [u3].length (aj (aN .i64) [u3])),(9, .arr (VY u1 u2 u3 u0).length (YT u1 u2 u3 u0)),(12, .rows 0 (k82 u1 u2 u3 u0))],fr:=[(8,92),(9,93)]} [0, .t 0 (Bg u2 u0) u1.length, .pf ⟨[u3].length=1,rfl⟩, .pf ⟨aB 1 1 (XH u3) (aj (aN .i64) [u3]),(by intro i hi j hj;match i,j,hi,hj with|0,0,_,_=>rfl)⟩, .e (k84 u1 u2 u0),1,2, .pf ⟨(VY u1 u2 u3 u0).length=(SL u1 u2 u0).length+[u3].length,b_⟩, .pf ⟨aB (k77 u1 u2 u3 u0) 1 (k85 u1 u2 u3 u0) (YT u1 u2 u3 u0),bH _ _ _ _⟩,0, .t 0 (Bg u2 u0) u1.length, .e (k86 u1 u2 u3 u0), .pf ⟨FV u1.length 2 (k87 u1 u2 u3 u0) (k82 u1 u2 u3 u0),qR _ _ _ _ _ _ _ _ rfl (fun j hj=>(match j,hj with|0,_=>rfl|1,_=>rfl))⟩, .pf ⟨∀i0 j0 c0,(k88 u1 u2 u0)=some (i0,j0,c0)->i0=(Bg u2 u0).toNat/\j0=0,(fun i0 j0 c0 e=>by cases e;exact⟨rfl,rfl⟩)⟩]<| .im (.ll 60 u1 (k83 u1 u2 u3 u0))<| .r<| .e (.next (k89 u1 u2 u3 u0)))))
  (.e (.done (.brk (u1,u2)))))
  (fun(u9,u4)=> .r<| .lp (σ:=((List ai) × Int)) (β:=(List ai)) (u9,0) [] [] ⟨[3,5,8,76,77],[57,58,61],fun(u5,u7)=>[(7,vO 60 false u5.length),(78,vI u7)],fun(u5,u7)=>(k90 u5)⟩ ⟨[],[],fun u8=>[(7,vO 60 false u8.length)],fun u8=>(k90 u8)⟩
  (fun(u5,u7)=> .r<| .it (.a1 (k19 u7 p)<| .rg {fr:=[(3,106)],fz:=[106]} []<| .a3 (k91 s_ u7) (k92 s_ u7) (k93 s_ u7 p)<| .rg {} [0,1,2]<| .it (.cr 4 (rQ [(0,57)] (dA v0 (Wp u7 p))) fun u6=> .rg {an:=[(5, .look (bg fA u6 u4).isSome (PU u4 u6))]} [0, .pf ⟨jk [.i .i64] 1 1 u4.length (kI (aN .i64) u4) (kT (aN .i64) u4) [.int .i64 u6] [.d (.int .i64 0)] (bg fA u6 u4).isSome (PU u4 u6),gZ (fun _=>rfl) (fun _ _=>rfl) u4 u6 0 rfl rfl rfl⟩]<| .a3 (k75 u5 u4 u6) (k96 u5 u7 u6 u4) (k99 u5 u7 u6 u4)<| .rg {an:=[(6, .take 107),(8, .arr [u7].length (aj (aN .i64) [u7])),(9, .arr (Ke u5 u7 u6 u4).length (Rv u5 u7 u6 u4)),(12, .rows 0 (Vq u5 u7 u6 u4))],fr:=[(8,108),(9,109)]} [0, .t 0 (Bg u4 u6) u5.length, .pf ⟨[u7].length=1,rfl⟩, .pf ⟨aB 1 1 (XH u7) (aj (aN .i64) [u7]),(by intro i hi j hj;match i,j,hi,hj with|0,0,_,_=>rfl)⟩, .e (aa0 u5 u6 u4),1,2, .pf ⟨(Ke u5 u7 u6 u4).length=(SK u5 u6 u4).length+[u7].length,b_⟩, .pf ⟨aB (k97 u5 u7 u6 u4) 1 (aai u5 u7 u6 u4) (Rv u5 u7 u6 u4),bH _ _ _ _⟩,0, .t 0 (Bg u4 u6) u5.length, .e (aaW u5 u7 u6 u4), .pf ⟨FV u5.length 2 (aaE u5 u7 u6 u4) (Vq u5 u7 u6 u4),qR _ _ _ _ _ _ _ _ rfl (fun j hj=>(match j,hj with|0,_=>rfl|1,_=>rfl))⟩, .pf ⟨∀i0 j0 c0,(ab2 u5 u6 u4)=some (i0,j0,c0)->i0=(Bg u4 u6).toNat/\j0=1,(fun i0 j0 c0 e=>by cases e;exact⟨rfl,rfl⟩)⟩]<| .im (.ll 60 u5 (U9 u5 u7 u6 u4))<| .r<| .e (.next (YS u5 u7 u6 u4)))
  (.r<| .e (.next (Va u5 u7))))
  (.e (.done (.brk u5))))
  (fun u8=> .rg {fz:=[60]} []<| .im (.us 4 (vD (.sl none 2 u8.length (fun i j=>Dg (pR ai.ev u8 i j)))) (vD (bR none 2 ai.cell u8)) (Ca.v (zw.one (qm.d (lQ.sl (.inr rfl) (fun i _ j hj=>match j,hj with|0,_=> .refl _|1,_=> .refl _))))))<| .e u8)))
theorem p8 (p:af) (s_:State):gK Tryz.prog 11 (k22 s_ p) [] (fun r=>(.eB [sD (bR none 2 ai.cell r.1),sI r.2])) (fun _=>[]) (gU p s_):=
  iU tT mX Tryz.func11 (
  .rg {fr:=[(0,2),(1,3)],fz:=[2,3]} []<| .cl 2 (dM p s_) fun r_=> .r<| .r<| .it (.r<| .e (([]:List ai),r_))
  (.cl 2 (kY p s_) fun u0=> .r<| .e (u0,0)))
theorem Bj (p:af) (s_:State):gK Tryz.prog 73 (k22 s_ p) [] (fun r=>(vB r)) (fun _=>[]) (xN p s_):=
  iU tT mX Tryz.func73 (
  .rg {fr:=[(0,2),(1,3)],fz:=[2,3]} []<| .r<| .r<| .it (.r<| .e false)
  (.r<| .lp (σ:=Int) (β:=Unit) (0) [] [] ⟨[2,3,5],[],fun i=>[(8,vI i)],fun i=>[]⟩ ⟨[],[],fun _=>[],fun _=>[]⟩
  (fun i=> .r<| .it (.a3 (k20 p i) (k30 s_ p i) (k31 s_ p i)<| .rg {} [0,1,2]<| .it (.r<| .e (.done (.ret false)))
  (.r<| .e (.next (k8 i))))
  (.e (.done (.brk ()))))
  (fun _=> .r<| .e true)))
theorem mJ (p:af) (s_:State):gK Tryz.prog 39 (k22 s_ p) [] (fun r=>(vI r)) (fun _=>[]) (lC p s_):=
  iU tT mX Tryz.func39 (
  .rg {fr:=[(0,2),(1,3)],fz:=[2,3]} []<| .cl 1 (iL p) fun r_=> .r<| .cg 5 [(decide (r_=0),true)] (Bj p s_) fun u0=> .r<| .it (.r<| .r<| .e 9)
  (.r<| .e r_))
section
variable (p:af) (s_:State) (i:Int)
abbrev Xu:List SV:=[.agg (k1 p),.agg (k23 s_),sI i]
abbrev WJ:=((gB [(at' s_.a_ i.toNat,true)]=true->(0:Int)<=i/\i<(s_.aq.length:Int)))
abbrev WU:=(bif (at' s_.a_ i.toNat)then(!(at' s_.aq i.toNat))else false)
abbrev Qo:=(WU s_ i,true)
abbrev aa4:=(bif (WU s_ i)then(!(at' s_.ap (((at' p.ae i.toNat).a).toNat)))else false)
abbrev ZF:=(aa4 p s_ i,true)
end
theorem xk (p:af) (s_:State) (i:Int):gK Tryz.prog 88 (Xu p s_ i) [] (fun r=>(vB r)) (fun _=>[]) (rM p s_ i):=
  iU tT mX Tryz.func88 (
  .rg {fr:=[(0,2),(1,3)],fz:=[2,3]} []<| .a6 ((0:Int)<=i/\i<(s_.a_.length:Int)) (WJ s_ i) ((gB [Qo s_ i]=true->(0:Int)<=i/\i<(p.ae.length:Int))) ((gB [Qo s_ i]=true->(0:Int)<=(at' p.ae i.toNat).a/\(at' p.ae i.toNat).a<(s_.ap.length:Int))) ((gB [ZF p s_ i]=true->(0:Int)<=i/\i<(p.ae.length:Int))) ((gB [ZF p s_ i]=true->(0:Int)<=(at' p.ae i.toNat).b/\(at' p.ae i.toNat).b<(s_.ap.length:Int)))<| .rg {} [0,1,2,3,4,5]<| .e (bif (aa4 p s_ i)then(!(at' s_.ap (((at' p.ae i.toNat).b).toNat)))else false))
section
variable (p:af) (b:Int) (u0:List Bool) (i:Int)
abbrev S9:=((1:Int)*p.ag<=281474976710656)
abbrev TU:=((p.ag:Int)<=9223372036854775807)
abbrev qV:=(List.replicate p.ag.toNat (false:Bool))
abbrev Ej:=(aj av (qV p))
abbrev UL:=((qV p).set b.toNat true)
abbrev XG:=((qV p).length)
abbrev La:=(u0.set (((at' p.ae i.toNat).a).toNat) true)
abbrev Wz:=(aj av (La p u0 i))
abbrev Xf:=((La p u0 i).set (((at' p.ae i.toNat).b).toNat) true)
abbrev Y9:=(aj av (Xf p u0 i))
end
theorem qZ (p:af) (s_:State) (b:Int):gK Tryz.prog 40 (Xu p s_ b) [] (fun r=>(vD (bR none 1 av r))) (fun _=>[]) (qO p s_ b):=
  iU tT mX Tryz.func40 (
  .rg {fr:=[(0,19),(1,20)],fz:=[20]} []<| .a3 ((0:Int)<=p.ag) (S9 p) (TU p)<| .rg {an:=[(2, .arr (qV p).length (Ej p))],fr:=[(2,21)]} [0, .e ((p.ag:Int)),1,2, .pf ⟨(qV p).length=p.ag.toNat,dt⟩, .pf ⟨aB p.ag.toNat 1 (fun _ j=>[.bool false].getD j .nilp) (Ej p),gX _ _ _ _ _ (fun j hj=>(match j,hj with|0,_=>rfl))⟩]<| .a1 ((0:Int)<=b/\b<((qV p).length:Int))<| .rg {an:=[(3, .arr 0 (aj av (UL p b)))]} [0, .t 0 b (XG p), .pf ⟨aB (qV p).length 1 (bW (Ej p) b.toNat 0 [.bool true]) (aj av (UL p b)),aK _ _ _ _ _ _ _ _ rfl (fun j hj=>(match j,hj with|0,_=>rfl))⟩]<| .im (.ll 21 (qV p) (UL p b) (by simp only [cH,b_,dt,bw]))<| .r<| .lp (σ:=((List Bool) × Int)) (β:=(List Bool)) (UL p b,0) [] [] ⟨[3,4],[19],fun(u1,n)=>[(7,vO 21 true u1.length),(8,vI n)],fun(u1,n)=>[(21,some (dz 4 1 av u1))]⟩ ⟨[],[],fun u2=>[(7,vO 21 true u2.length)],fun u2=>[(21,some (dz 4 1 av u2))]⟩
  (fun(u1,n)=> .r<| .it (.r<| .lp (σ:=((List Bool) × Int)) (β:=(List Bool)) (u1,0) [] [] ⟨[3,4,8],[19],fun(u0,i)=>[(7,vO 21 true u0.length),(9,vI i)],fun(u0,i)=>[(21,some (dz 4 1 av u0))]⟩ ⟨[3,4,8],[19],fun u3=>[(7,vO 21 true u3.length)],fun u3=>[(21,some (dz 4 1 av u3))]⟩
  (fun(u0,i)=> .r<| .it (.a1 (k20 p i)<| .rg {fr:=[(5,37)]} []<| .cl 3 (xk p s_ i) fun r_=> .a2 ((gB [(r_,true)]=true->(0:Int)<=(at' p.ae i.toNat).a/\(at' p.ae i.toNat).a<(u0.length:Int))) ((gB [(at' u0 (((at' p.ae i.toNat).a).toNat),false),(r_,true)]=true->(0:Int)<=(at' p.ae i.toNat).b/\(at' p.ae i.toNat).b<(u0.length:Int)))<| .rg {} [2,0, .tg 0 [(r_,true)] ((at' p.ae i.toNat).a) u0.length,1, .tg 1 [(at' u0 (((at' p.ae i.toNat).a).toNat),false),(r_,true)] ((at' p.ae i.toNat).b) u0.length]<| .it (.a1 ((0:Int)<=(at' p.ae i.toNat).a/\(at' p.ae i.toNat).a<(u0.length:Int))<| .rg {an:=[(4, .arr 0 (Wz p u0 i))]} [0, .t 0 ((at' p.ae i.toNat).a) u0.length, .pf ⟨aB u0.length 1 (bW (aj av u0) (((at' p.ae i.toNat).a).toNat) 0 [.bool true]) (Wz p u0 i),aK _ _ _ _ _ _ _ _ rfl (fun j hj=>(match j,hj with|0,_=>rfl))⟩]<| .im (.ll 21 u0 (La p u0 i))<| .a1 ((0:Int)<=(at' p.ae i.toNat).b/\(at' p.ae i.toNat).b<((La p u0 i).length:Int))<| .rg {an:=[(4, .arr 0 (Y9 p u0 i))]} [0, .t 0 ((at' p.ae i.toNat).b) ((La p u0 i).length), .pf ⟨aB (La p u0 i).length 1 (bW (Wz p u0 i) (((at' p.ae i.toNat).b).toNat) 0 [.bool true]) (Y9 p u0 i),aK _ _ _ _ _ _ _ _ rfl (fun j hj=>(match j,hj with|0,_=>rfl))⟩]<| .im (.ll 21 (La p u0 i) (Xf p u0 i))<| .r<| .e (.next (Xf p u0 i,k8 i)))
  (.r<| .e (.next (u0,k8 i))))
  (.e (.done (.brk u0))))
  (fun u3=> .r<| .e (.next (u3,k8 n))))
  (.e (.done (.brk u1))))
  (fun u2=> .rg {fz:=[21]} []<| .e u2))
theorem mW (p:af) (s_:State) (kz:Int):gK Tryz.prog 41 (Xu p s_ kz) [] (fun r=>(vB r)) (fun _=>[]) (nG p s_ kz):=
  iU tT mX Tryz.func41 (
  .rg {fr:=[(0,2),(1,3)],fz:=[2,3]} []<| .a4 (k91 s_ kz) (k92 s_ kz) ((gB [k94 s_ kz]=true->(0:Int)<=kz/\kz<(p.aa.length:Int))) (k93 s_ kz p)<| .rg {} [0,1,2,3]<| .e (bif (bif (at' s_.on_ kz.toNat)then(!(at' s_.am kz.toNat))else false)then(!(at' s_.ap ((Wp kz p).toNat)))else false))
section
variable (x0:List Int) (u0:List Int) (x1:List Int)
abbrev aa1:List (Nat × Option Ob):=[(137,some (.cells 92 [.own 139 false x0.length,.d nS])),(139,some (dz 3 1 (aN .i64) x0))]
abbrev aad:List (Nat × Option Ob):=[(137,some (.cells 92 [.own 139 false u0.length,.own 148 false x1.length])),(148,some (dz 3 1 (aN .i64) x1))]
end
theorem yR (p:af) (s_:State):gK Tryz.prog 12 (k22 s_ p) [] (fun r=>(.eB [sD (bR none 2 ai.cell r.1),sI r.2])) (fun _=>[]) (jr p s_):=
  iU tT mX Tryz.func12 (
  .rg {fr:=[(0,78),(1,79)],fz:=[78,79]} []<| .cl 2 (mJ p s_) fun r_=> .r<| .r<| .it (.r<| .e (([]:List ai),r_))
  (.r<| .r<| .im (.ad 7 158 92 2 (aj ai.cell ([]:List ai)))<| .lp (σ:=((List ai) × Int)) (β:=(List ai)) (([]:List ai),0) [] [(158,98)] ⟨[2,3],[],fun(u1,b)=>[(7,vO 98 false u1.length),(8,vI b)],fun(u1,b)=>[(98,some (dz 92 2 ai.cell u1))]⟩ ⟨[],[],fun u3=>[(7,vO 98 false u3.length)],fun u3=>[(98,some (dz 92 2 ai.cell u3))]⟩
  (fun(u1,b)=> .r<| .it (.a1 (k43 b s_)<| .r<| .it (.r<| .e (.next (Va u1 b)))
  (.cl 3 (qZ p s_ b) fun u4=> .r<| .rg {fr:=[(0,137)]} []<| .r<| .im (.nR 137 0 146 3 1 (aj (aN .i64) ([]:List Int)))<| .lp (σ:=((List Int) × Int)) (β:=(List Int)) (([]:List Int),0) [] [(146,139)] ⟨[2,3,7,8,9,10],[98],fun(x0,c)=>[(11,vI c)],fun(x0,c)=>(aa1 x0)⟩ ⟨[2,3,7,8,9,10],[98],fun u0=>[],fun u0=>(aa1 u0)⟩
  (fun(x0,c)=> .r<| .it (.a1 (Y0 u4 c)<| .r<| .it (.a2 ((x0.length+[c].length)*8<=140737488355328) (x0.length+[c].length<=4611686018427387904)<| .rg {an:=[(3, .arr [c].length (aj (aN .i64) [c])),(4, .arr (x0++[c]).length (aj (aN .i64) (x0++[c])))],fr:=[(3,144),(4,145)]} [.pf ⟨[c].length=1,rfl⟩, .pf ⟨aB 1 1 (iV 1 [.int .i64 c]) (aj (aN .i64) [c]),(by intro i hi j hj;match i,j,hi,hj with|0,0,_,_=>rfl)⟩, .e (x0.length),0,1, .pf ⟨(x0++[c]).length=x0.length+[c].length,b_⟩, .pf ⟨aB (x0.length+[c].length) 1 (jK (aj (aN .i64) x0) x0.length (aj (aN .i64) [c])) (aj (aN .i64) (x0++[c])),bH _ _ _ _⟩]<| .r<| .en (.next (x0++[c],k8 c)) [] [(145,139)])
  (.r<| .e (.next (x0,k8 c))))
  (.e (.done (.brk x0))))
  (fun u0=> .a1 ((0:Int)<=0/\0<(u0.length:Int))<| .rg {} [0, .t 0 0 u0.length]<| .it (.r<| .e (.next (Va u1 b)))
  (.r<| .im (.nR 137 1 155 3 1 (aj (aN .i64) ([]:List Int)))<| .lp (σ:=((List Int) × Int)) (β:=(List Int)) (([]:List Int),0) [] [(155,148)] ⟨[2,3,7,8,9,10],[98,139],fun(x1,kz)=>[(12,vI kz)],fun(x1,kz)=>(aad u0 x1)⟩ ⟨[2,3,7,8,10],[98,139],fun u2=>[],fun u2=>(aad u0 u2)⟩
  (fun(x1,kz)=> .r<| .it (.cl 3 (mW p s_ kz) fun u5=> .a2 ((gB [(u5,true)]=true->(0:Int)<=kz/\kz<(p.aa.length:Int))) ((gB [(u5,true)]=true->(0:Int)<=(at' p.aa kz.toNat).bus/\(at' p.aa kz.toNat).bus<(u4.length:Int)))<| .rg {} [2,0,1]<| .it (.a2 ((x1.length+[kz].length)*8<=140737488355328) (x1.length+[kz].length<=4611686018427387904)<| .rg {an:=[(3, .arr [kz].length (aj (aN .i64) [kz])),(4, .arr (x1++[kz]).length (aj (aN .i64) (x1++[kz])))],fr:=[(3,153),(4,154)]} [.pf ⟨[kz].length=1,rfl⟩, .pf ⟨aB 1 1 (XH kz) (aj (aN .i64) [kz]),(by intro i hi j hj;match i,j,hi,hj with|0,0,_,_=>rfl)⟩, .e (x1.length),0,1, .pf ⟨(x1++[kz]).length=x1.length+[kz].length,b_⟩, .pf ⟨aB (x1.length+[kz].length) 1 (jK (aj (aN .i64) x1) x1.length (aj (aN .i64) [kz])) (aj (aN .i64) (x1++[kz])),bH _ _ _ _⟩]<| .r<| .en (.next (x1++[kz],k8 kz)) [] [(154,148)])
  (.r<| .e (.next (x1,k8 kz))))
  (.e (.done (.brk x1))))
  (fun u2=> .fz [139,148]<| .a2 ((u1.length+[(⟨u0,u2⟩:ai)].length)*48<=140737488355328) (u1.length+[(⟨u0,u2⟩:ai)].length<=4611686018427387904)<| .rg {an:=[(2, .arr [(⟨u0,u2⟩:ai)].length (aj ai.cell [(⟨u0,u2⟩:ai)])),(3, .arr (u1++[(⟨u0,u2⟩:ai)]).length (aj ai.cell (u1++[(⟨u0,u2⟩:ai)])))],fr:=[(2,156),(3,157)]} [.pf ⟨[(⟨u0,u2⟩:ai)].length=1,rfl⟩, .pf ⟨aB 1 2 (iV 2 [bR none 1 (aN .i64) u0,bR none 1 (aN .i64) u2]) (aj ai.cell [(⟨u0,u2⟩:ai)]),(by intro i hi j hj;match i,j,hi,hj with|0,0,_,_=>rfl|0,1,_,_=>rfl)⟩, .e (u1.length),0,1, .pf ⟨(u1++[(⟨u0,u2⟩:ai)]).length=u1.length+[(⟨u0,u2⟩:ai)].length,b_⟩, .pf ⟨aB (u1.length+[(⟨u0,u2⟩:ai)].length) 2 (jK (aj ai.cell u1) u1.length (aj ai.cell [(⟨u0,u2⟩:ai)])) (aj ai.cell (u1++[(⟨u0,u2⟩:ai)])),bH _ _ _ _⟩]<| .r<| .en (.next (u1++[(⟨u0,u2⟩:ai)],k8 b)) [] [(157,98)])))))
  (.e (.done (.brk u1))))
  (fun u3=> .rg {fz:=[98]} []<| .e (u3,0))))
theorem iw (x y:ah):Go.Proofs.ltOf dI x y=true↔x.e0<y.e0\/ ¬ y.e0<x.e0/\x.e1<y.e1:=by
 unfold Go.Proofs.ltOf dI;rw [db];by_cases h0:x.e0<y.e0<;>by_cases g0:y.e0<x.e0<;>by_cases h1:x.e1<y.e1<;>by_cases g1:y.e1<x.e1<;>simp [h0,g0,h1,g1]
theorem um:Go.Sort.SWO (Go.Proofs.ltOf dI) where
 irrefl x:=by rw [<-Bool.not_eq_true,iw];omega
 trans x y z h1 h2:=by rw [iw]at*;omega
 ntrans x y z h1 h2:=by rw [<-Bool.not_eq_true,iw]at*;omega
theorem uF (x y:ah) (h1:(Go.Proofs.ltOf dI) x y=false) (h2:(Go.Proofs.ltOf dI) y x=false):x=y:=by
 rw [<-Bool.not_eq_true,iw]at h1 h2;obtain⟨a,b⟩:=x;obtain⟨c,d⟩:=y;have e1:a=c:=by simp only at h1 h2;omega
 have e2:b=d:=by simp only at h1 h2;omega
 rw [e1,e2]
theorem vX (s:List ah) {r:List ah} (h:qz s=some r):Fn Tryz.prog 42 [.one (.own 0 false s.length),sD (.fn 43 0 (yS []))] [(0,some (.arr 74 2 s.length (aj ah.cell s)))] (.eB []) [(0,some (.arr 74 2 r.length (aj ah.cell r)))]:=
 WQ R7 2 UQ Ry (fun x:ah=>[.int .i64 x.e0, .int .i64 x.e1]) (fun _=>rfl) (fun x v hv=>by simp at hv;rcases hv with rfl|rfl<;>rfl) dI um uF
  (Mh (fun x:ah=>[.int .i64 x.e0, .int .i64 x.e1]) (fun x=>x.e0) (fun x=>x.e1) (fun _=>rfl)) (enters_of Tryz.func43 (by kernel_rfl) rfl)
  (fun F w x j hj v=>match j,hj with|0,_=>Iff.rfl|1,_=>Iff.rfl) 42 rfl ⟨_,Tryz.func42,rfl,rfl⟩ s (by cases s with|nil=>(cases h;simp)|cons x xs=>exact h)
section
variable (u6:List ah) (u0:Int) (u2:List ai) (u1:Int) (u3:Int) (u4:List ah)
abbrev Oh:List (Nat × Option Ob):=[(138,some (dz 74 2 ah.cell u6))]
abbrev Rt:=((0:Int)<=u0/\u0<(u2.length:Int))
abbrev LD:=((k8 u1).toNat)
abbrev Yj:=(((at' u2 u0.toNat).aa).drop (LD u1))
abbrev Kg:=(at' ((at' u2 u0.toNat).aa) u1.toNat)
abbrev Tn:=(at' (Yj u0 u2 u1) u3.toNat)
abbrev L6:=(⟨Kg u0 u2 u1,Tn u0 u2 u1 u3⟩:ah)
abbrev Zy:=(u4.length+[L6 u0 u2 u1 u3].length)
abbrev XU:=(aj ah.cell [L6 u0 u2 u1 u3])
abbrev UX:=(u4++[L6 u0 u2 u1 u3])
abbrev aaQ:=(aj ah.cell (UX u0 u2 u1 u3 u4))
abbrev NQ:=(u4,k8 u3)
end
theorem pW (p:af) (s_:State):gK Tryz.prog 13 (k22 s_ p) [] (fun r=>(.eB [sD (bR none 2 ah.cell r.1),sI r.2])) (fun _=>[]) (gW p s_):=
  iU tT mX Tryz.func13 (
  .rg {fr:=[(0,134),(1,135)],fz:=[134,135]} []<| .cl 2 (dM p s_) fun r_=> .r<| .r<| .it (.r<| .e (([]:List ah),r_))
  (.r<| .cl 2 (kY p s_) fun u2=> .r<| .im (.ad 7 268 74 2 (aj ah.cell ([]:List ah)))<| .lp (σ:=((List ah) × Int)) (β:=(List ah)) (([]:List ah),0) [] [(268,138)] ⟨[2,22,23],[],fun(u6,u0)=>[(7,vO 138 false u6.length),(24,vI u0)],fun(u6,u0)=>(Oh u6)⟩ ⟨[],[],fun u5=>[(7,vO 138 false u5.length)],fun u5=>(Oh u5)⟩
  (fun(u6,u0)=> .r<| .it (.a1 (Rt u0 u2)<| .rg {fr:=[(2,235)],fz:=[235]} []<| .r<| .lp (σ:=((List ah) × Int)) (β:=(List ah)) (u6,0) [] [] ⟨[2,9,22,23,24,29,30],[],fun(u7,u1)=>[(7,vO 138 false u7.length),(31,vI u1)],fun(u7,u1)=>(Oh u7)⟩ ⟨[2,22,23,24],[],fun u8=>[(7,vO 138 false u8.length)],fun u8=>(Oh u8)⟩
  (fun(u7,u1)=> .r<| .it (.a1 ((0:Int)<=u1/\u1<(((at' u2 u0.toNat).aa).length:Int))<| .r<| .a1 ((0:Int)<=(k8 u1)/\(k8 u1)<=(((at' u2 u0.toNat).aa).length:Int))<| .r<| .im (.us 40 (vD (.sl none 1 (((at' u2 u0.toNat).aa).length - (LD u1)) (fun iq jq=>aj (aN .i64) ((at' u2 u0.toNat).aa) (iq+(LD u1)) jq))) (vD (bR none 1 (aN .i64) (Yj u0 u2 u1))) (Ca.v (zw.one (qm.d (lQ.slN (by first|rw [b_,d8]|simp only [cH,d8,vY]|exact dt) (.inr rfl) (Mt _ _ _ _))))))<| .lp (σ:=((List ah) × Int)) (β:=(List ah)) (u7,0) [] [] ⟨[2,9,11,22,23,24,29,30,31,40,41],[],fun(u4,u3)=>[(7,vO 138 false u4.length),(42,vI u3)],fun(u4,u3)=>(Oh u4)⟩ ⟨[2,9,22,23,24,29,30,31],[],fun u9=>[(7,vO 138 false u9.length)],fun u9=>(Oh u9)⟩
  (fun(u4,u3)=> .r<| .it (.a1 ((0:Int)<=u3/\u3<((Yj u0 u2 u1).length:Int))<| .r<| .a3 ((0:Int)<=(Kg u0 u2 u1)/\(Kg u0 u2 u1)<(p.aa.length:Int)) ((gB [(decide (((at' p.aa ((Kg u0 u2 u1).toNat)).bk)=0),false)]=true->(0:Int)<=(Kg u0 u2 u1)/\(Kg u0 u2 u1)<(p.aa.length:Int))) ((gB [(decide (((at' p.aa ((Kg u0 u2 u1).toNat)).bk)=0),false)]=true->(0:Int)<=(Tn u0 u2 u1 u3)/\(Tn u0 u2 u1 u3)<(p.aa.length:Int)))<| .rg {} [0,1,2]<| .it (.a2 ((Zy u0 u2 u1 u3 u4)*16<=140737488355328) (u4.length+[L6 u0 u2 u1 u3].length<=4611686018427387904)<| .rg {an:=[(4, .arr [L6 u0 u2 u1 u3].length (XU u0 u2 u1 u3)),(5, .arr (UX u0 u2 u1 u3 u4).length (aaQ u0 u2 u1 u3 u4))],fr:=[(4,266),(5,267)]} [.pf ⟨[L6 u0 u2 u1 u3].length=1,rfl⟩, .pf ⟨aB 1 2 (iV 2 [.int .i64 (Kg u0 u2 u1),.int .i64 (Tn u0 u2 u1 u3)]) (XU u0 u2 u1 u3),(by intro i hi j hj;match i,j,hi,hj with|0,0,_,_=>rfl|0,1,_,_=>rfl)⟩, .e (u4.length),0,1, .pf ⟨(UX u0 u2 u1 u3 u4).length=u4.length+[L6 u0 u2 u1 u3].length,b_⟩, .pf ⟨aB (Zy u0 u2 u1 u3 u4) 2 (jK (aj ah.cell u4) u4.length (XU u0 u2 u1 u3)) (aaQ u0 u2 u1 u3 u4),bH _ _ _ _⟩]<| .r<| .en (.next (UX u0 u2 u1 u3 u4,k8 u3)) [] [(267,138)])
  (.r<| .e (.next (NQ u3 u4))))
  (.e (.done (.brk u4))))
  (fun u9=> .r<| .e (.next (NQ u1 u9))))
  (.e (.done (.brk u7))))
  (fun u8=> .r<| .e (.next (NQ u0 u8))))
  (.e (.done (.brk u6))))
  (fun u5=> .cl 1 (rQ [(0,138)] ⟨fun h=>vX u5 h⟩) fun v0=> .r<| .a1 (u5.length=v0.length)<| .so 7 138 false u5.length v0.length 0<| .so 77 138 false u5.length v0.length 0<| .fz [138]<| .r<| .e (v0,0))))
theorem Bw (a:Source) (b:Source):gK Tryz.prog 45 [.agg (k2 a),.agg (k2 b)] [] (fun r=>(vB r)) (fun _=>[]) (xV a b):=
  iU tT mX Tryz.func45 (
  .rg {fr:=[(0,2),(1,3)],fz:=[2,3]} []<| .r<| .e (bif (!decide (a.bk=b.bk))then true else(decide (a.bk=0))))
section
variable (u3:List ah) (u1:Bool) (u2:Bool) (u6:List Bool) (p:af) (kz:Int)
abbrev Tf:List (Nat × Option Ob):=[(37,some (dz 74 2 ah.cell u3))]
abbrev XD:=((bif (bif u1 then u2 else false)then(at' u6 ((Wp kz p).toNat))else false),true)
end
theorem yC (p:af) (s_:State):gK Tryz.prog 14 (k22 s_ p) [] (fun r=>(.eB [sD (bR none 2 ah.cell r.1),sI r.2])) (fun _=>[]) (jy p s_):=
  iU tT mX Tryz.func14 (
  .rg {fr:=[(0,34),(1,35)],fz:=[34,35]} []<| .cl 2 (mJ p s_) fun r_=> .r<| .r<| .it (.r<| .e (([]:List ah),r_))
  (.r<| .r<| .im (.ad 7 68 74 2 (aj ah.cell ([]:List ah)))<| .lp (σ:=((List ah) × Int)) (β:=(List ah)) (([]:List ah),0) [] [(68,37)] ⟨[2,3],[],fun(u3,i)=>[(7,vO 37 false u3.length),(8,vI i)],fun(u3,i)=>(Tf u3)⟩ ⟨[],[],fun u4=>[(7,vO 37 false u4.length)],fun u4=>(Tf u4)⟩
  (fun(u3,i)=> .r<| .it (.r<| .lp (σ:=((List ah) × Int)) (β:=(List ah)) (NQ i u3) [] [] ⟨[2,3,8],[],fun(u0,kz)=>[(7,vO 37 false u0.length),(9,vI kz)],fun(u0,kz)=>(Tf u0)⟩ ⟨[2,3,8],[],fun u5=>[(7,vO 37 false u5.length)],fun u5=>(Tf u5)⟩
  (fun(u0,kz)=> .r<| .it (.cl 3 (mW p s_ i) fun u1=> .cg 8 [(u1,true)] (mW p s_ kz) fun u2=> .cg 19 [((bif u1 then u2 else false),true)] (qZ p s_ (Wp i p)) fun u6=> .cg 40 [XD u1 u2 u6 p kz] (Bw (at' p.aa i.toNat) (at' p.aa kz.toNat)) fun u7=> .a5 ((gB [((bif u1 then u2 else false),true)]=true->(0:Int)<=i/\i<(p.aa.length:Int))) ((gB [((bif u1 then u2 else false),true)]=true->(0:Int)<=kz/\kz<(p.aa.length:Int))) ((gB [((bif u1 then u2 else false),true)]=true->(0:Int)<=(at' p.aa kz.toNat).bus/\(at' p.aa kz.toNat).bus<(u6.length:Int))) ((gB [XD u1 u2 u6 p kz]=true->(0:Int)<=i/\i<(p.aa.length:Int))) ((gB [XD u1 u2 u6 p kz]=true->(0:Int)<=kz/\kz<(p.aa.length:Int)))<| .rg {} [8,7,0,6,1,2,3,4,5]<| .it (.a2 ((u0.length+[(⟨i,kz⟩:ah)].length)*16<=140737488355328) (u0.length+[(⟨i,kz⟩:ah)].length<=4611686018427387904)<| .rg {an:=[(4, .arr [(⟨i,kz⟩:ah)].length (aj ah.cell [(⟨i,kz⟩:ah)])),(5, .arr (u0++[(⟨i,kz⟩:ah)]).length (aj ah.cell (u0++[(⟨i,kz⟩:ah)])))],fr:=[(4,66),(5,67)]} [.pf ⟨[(⟨i,kz⟩:ah)].length=1,rfl⟩, .pf ⟨aB 1 2 (iV 2 [.int .i64 i,.int .i64 kz]) (aj ah.cell [(⟨i,kz⟩:ah)]),(by intro i hi j hj;match i,j,hi,hj with|0,0,_,_=>rfl|0,1,_,_=>rfl)⟩, .e (u0.length),0,1, .pf ⟨(u0++[(⟨i,kz⟩:ah)]).length=u0.length+[(⟨i,kz⟩:ah)].length,b_⟩, .pf ⟨aB (u0.length+[(⟨i,kz⟩:ah)].length) 2 (jK (aj ah.cell u0) u0.length (aj ah.cell [(⟨i,kz⟩:ah)])) (aj ah.cell (u0++[(⟨i,kz⟩:ah)])),bH _ _ _ _⟩]<| .r<| .en (.next (u0++[(⟨i,kz⟩:ah)],k8 kz)) [] [(67,37)])
  (.r<| .e (.next (NQ kz u0))))
  (.e (.done (.brk u0))))
  (fun u5=> .r<| .e (.next (NQ i u5))))
  (.e (.done (.brk u3))))
  (fun u4=> .rg {fz:=[37]} []<| .e (u4,0))))
theorem qC (a:List Int) (b:List Int):gK Tryz.prog 46 [sD (bR none 1 (aN .i64) a),sD (bR none 1 (aN .i64) b)] [] (fun r=>(vB r)) (fun _=>[]) (oQ a b):=
  iU tT mX Tryz.func46 (
  .r<| .r<| .it (.r<| .e false)
  (.r<| .lp (σ:=Int) (β:=Unit) (0) [] [] ⟨[0,1],[],fun i=>[(5,vI i)],fun i=>[]⟩ ⟨[],[],fun _=>[],fun _=>[]⟩
  (fun i=> .r<| .it (.a2 ((0:Int)<=i/\i<(a.length:Int)) ((0:Int)<=i/\i<(b.length:Int))<| .rg {} [0,1]<| .it (.r<| .e (.done (.ret false)))
  (.r<| .e (.next (k8 i))))
  (.e (.done (.brk ()))))
  (fun _=> .r<| .e true)))
theorem ja (a:List ai) (b:List ai):gK Tryz.prog 15 [sD (bR none 2 ai.cell a),sD (bR none 2 ai.cell b)] [] (fun r=>(vB r)) (fun _=>[]) (dJ a b):=
  iU tT mX Tryz.func15 (
  .r<| .r<| .it (.r<| .e false)
  (.r<| .lp (σ:=Int) (β:=Unit) (0) [] [] ⟨[0,1],[],fun i=>[(5,vI i)],fun i=>[]⟩ ⟨[],[],fun _=>[],fun _=>[]⟩
  (fun i=> .r<| .it (.cl 10 (qC ((at' a i.toNat).ag) ((at' b i.toNat).ag)) fun r_=> .cg 23 [(!r_,false)] (qC ((at' a i.toNat).aa) ((at' b i.toNat).aa)) fun u0=> .a4 (Rt i a) (Rt i b) ((gB [(!r_,false)]=true->(0:Int)<=i/\i<(a.length:Int))) ((gB [(!r_,false)]=true->(0:Int)<=i/\i<(b.length:Int)))<| .rg {} [0,1,5,2,3,4]<| .it (.r<| .e (.done (.ret false)))
  (.r<| .e (.next (k8 i))))
  (.e (.done (.brk ()))))
  (fun _=> .r<| .e true)))
theorem nJ (a:List ah) (b:List ah):gK Tryz.prog 16 [sD (bR none 2 ah.cell a),sD (bR none 2 ah.cell b)] [] (fun r=>(vB r)) (fun _=>[]) (fD a b):=
  iU tT mX Tryz.func16 (
  .r<| .r<| .it (.r<| .e false)
  (.r<| .lp (σ:=Int) (β:=Unit) (0) [] [] ⟨[0,1],[],fun i=>[(5,vI i)],fun i=>[]⟩ ⟨[],[],fun _=>[],fun _=>[]⟩
  (fun i=> .r<| .it (.a2 ((0:Int)<=i/\i<(a.length:Int)) ((0:Int)<=i/\i<(b.length:Int))<| .rg {} [0,1]<| .it (.r<| .e (.done (.ret false)))
  (.r<| .e (.next (k8 i))))
  (.e (.done (.brk ()))))
  (fun _=> .r<| .e true)))
section
variable (kz:Int)
abbrev BH:=(IntKind.wrap .u8 (IntKind.wrap .i64 ((48:Int)+(IntKind.wrap .i64 (0 - (Int.tmod kz 10))))))
abbrev aa2:=(qo [BH kz])
abbrev Yg:=(aj (aN .u8) [BH kz])
abbrev Az:=(IntKind.wrap .u8 (IntKind.wrap .i64 ((48:Int)+(Int.tmod kz 10))))
abbrev Wt:=(aj (aN .u8) [Az kz])
end
theorem aQ (n:Int):gK Tryz.prog 47 [sI n] [] (fun r=>(vD (.str r))) (fun _=>[]) (aU n):=
  iU tT mX Tryz.func47 (
  .r<| .r<| .it (.r<| .e ⟨#[48]⟩)
  (.r<| .r<| .lp (σ:=(ByteArray × Int)) (β:=ByteArray) (⟨#[]⟩,n) [] [] ⟨[0],[],fun(s_,kz)=>[(3,vD (.str s_)),(4,vI kz)],fun(s_,kz)=>[]⟩ ⟨[0],[],fun u0=>[(3,vD (.str u0))],fun u0=>[]⟩
  (fun(s_,kz)=> .r<| .it (.a1 (10≠(0:Int))<| .r<| .r<| .it (.r<| .a2 (([BH kz].map (DV.int .u8)).all qi=true) ((aa2 kz).size+s_.size<=9223372036854775807)<| .rg {an:=[(3, .frz [BH kz].length (Yg kz)),(4, .vals ([BH kz].map (DV.int .u8)))]} [.pf ⟨[BH kz].length=1,rfl⟩, .pf ⟨aB 1 1 (iV 1 [.int .u8 (BH kz)]) (Yg kz),(by intro i hi j hj;match i,j,hi,hj with|0,0,_,_=>rfl)⟩, .pf ⟨0<[BH kz].length,Nat.succ_pos _⟩, .pf ⟨[BH kz].length=([BH kz].map (DV.int .u8)).length,(dg _).symm⟩, .pf ⟨aB [BH kz].length 1 (Yg kz) (fun i _=>([BH kz].map (DV.int .u8)).getD i .nilp),wm [BH kz]⟩,0,1]<| .a1 (10≠(0:Int))<| .r<| .e (.next (aA (aa2 kz) s_,IntKind.wrap .i64 (Int.tdiv kz 10))))
  (.a2 (([Az kz].map (DV.int .u8)).all qi=true) ((qo [Az kz]).size+s_.size<=9223372036854775807)<| .rg {an:=[(3, .frz [Az kz].length (Wt kz)),(4, .vals ([Az kz].map (DV.int .u8)))]} [.pf ⟨[Az kz].length=1,rfl⟩, .pf ⟨aB 1 1 (iV 1 [.int .u8 (Az kz)]) (Wt kz),(by intro i hi j hj;match i,j,hi,hj with|0,0,_,_=>rfl)⟩, .pf ⟨0<[Az kz].length,Nat.succ_pos _⟩, .pf ⟨[Az kz].length=([Az kz].map (DV.int .u8)).length,(dg _).symm⟩, .pf ⟨aB [Az kz].length 1 (Wt kz) (fun i _=>([Az kz].map (DV.int .u8)).getD i .nilp),wm [Az kz]⟩,0,1]<| .a1 (10≠(0:Int))<| .r<| .e (.next (aA (qo [Az kz]) s_,IntKind.wrap .i64 (Int.tdiv kz 10)))))
  (.e (.done (.brk s_))))
  (fun u0=> .r<| .it (.a1 ((⟨#[45]⟩:ByteArray).size+u0.size<=9223372036854775807)<| .r<| .r<| .e (aA ⟨#[45]⟩ u0))
  (.r<| .e u0))))
theorem mo:gK Tryz.prog 48 [] [] (fun r=>(vD (bR none 1 cZ r))) (fun _=>[]) (iI):=
  iU tT mX Tryz.func48 (
  .r<| .rg {an:=[(0, .arr [(⟨#[]⟩:ByteArray),⟨#[103,114,105,100]⟩,⟨#[103,101,110,101,114,97,116,111,114]⟩,⟨#[98,97,116,116,101,114,121]⟩].length (aj cZ [(⟨#[]⟩:ByteArray),⟨#[103,114,105,100]⟩,⟨#[103,101,110,101,114,97,116,111,114]⟩,⟨#[98,97,116,116,101,114,121]⟩]))],fr:=[(0,1)],fz:=[1]} [.pf ⟨[(⟨#[]⟩:ByteArray),⟨#[103,114,105,100]⟩,⟨#[103,101,110,101,114,97,116,111,114]⟩,⟨#[98,97,116,116,101,114,121]⟩].length=4,rfl⟩, .pf ⟨aB 4 1 (iV 1 [.str ⟨#[]⟩,.str ⟨#[103,114,105,100]⟩,.str ⟨#[103,101,110,101,114,97,116,111,114]⟩,.str ⟨#[98,97,116,116,101,114,121]⟩]) (aj cZ [(⟨#[]⟩:ByteArray),⟨#[103,114,105,100]⟩,⟨#[103,101,110,101,114,97,116,111,114]⟩,⟨#[98,97,116,116,101,114,121]⟩]),(by intro i hi j hj;match i,j,hi,hj with|0,0,_,_=>rfl|1,0,_,_=>rfl|2,0,_,_=>rfl|3,0,_,_=>rfl)⟩]<| .e [(⟨#[]⟩:ByteArray),⟨#[103,114,105,100]⟩,⟨#[103,101,110,101,114,97,116,111,114]⟩,⟨#[98,97,116,116,101,114,121]⟩])
theorem nO:gK Tryz.prog 49 [] [] (fun r=>(vD (bR none 1 cZ r))) (fun _=>[]) (jO):=
  iU tT mX Tryz.func49 (
  .r<| .rg {an:=[(0, .arr [(⟨#[]⟩:ByteArray),⟨#[99,97,98,108,101]⟩,⟨#[115,119,105,116,99,104]⟩,⟨#[98,114,101,97,107,101,114]⟩].length (aj cZ [(⟨#[]⟩:ByteArray),⟨#[99,97,98,108,101]⟩,⟨#[115,119,105,116,99,104]⟩,⟨#[98,114,101,97,107,101,114]⟩]))],fr:=[(0,1)],fz:=[1]} [.pf ⟨[(⟨#[]⟩:ByteArray),⟨#[99,97,98,108,101]⟩,⟨#[115,119,105,116,99,104]⟩,⟨#[98,114,101,97,107,101,114]⟩].length=4,rfl⟩, .pf ⟨aB 4 1 (iV 1 [.str ⟨#[]⟩,.str ⟨#[99,97,98,108,101]⟩,.str ⟨#[115,119,105,116,99,104]⟩,.str ⟨#[98,114,101,97,107,101,114]⟩]) (aj cZ [(⟨#[]⟩:ByteArray),⟨#[99,97,98,108,101]⟩,⟨#[115,119,105,116,99,104]⟩,⟨#[98,114,101,97,107,101,114]⟩]),(by intro i hi j hj;match i,j,hi,hj with|0,0,_,_=>rfl|1,0,_,_=>rfl|2,0,_,_=>rfl|3,0,_,_=>rfl)⟩]<| .e [(⟨#[]⟩:ByteArray),⟨#[99,97,98,108,101]⟩,⟨#[115,119,105,116,99,104]⟩,⟨#[98,114,101,97,107,101,114]⟩])
end
end Sg
