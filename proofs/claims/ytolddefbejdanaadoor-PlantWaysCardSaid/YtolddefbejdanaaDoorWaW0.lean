import Derived.Test.YtolddefbejdanaaDoorWaGm
import Derived.Test.YtolddefbejdanaaDoorProg
import Derived.Test.YtolddefbejdanaaDoorWaLd
set_option linter.all false
namespace Sg
open Go Go.Proofs
set_option maxRecDepth 20000
noncomputable section
noncomputable def TT:List (Nat × TI):=[(3,⟨Tryd.t3.desc,Tryd.t3.size,Tryd.t3.bytes,zl Tryd.t3,false⟩),
  (4,⟨Tryd.t4.desc,Tryd.t4.size,Tryd.t4.bytes,zl Tryd.t4,false⟩),
  (9,⟨Tryd.t9.desc,Tryd.t9.size,Tryd.t9.bytes,zl Tryd.t9,false⟩),
  (22,⟨Tryd.t22.desc,Tryd.t22.size,Tryd.t22.bytes,zl Tryd.t22,false⟩),
  (23,⟨Tryd.t23.desc,Tryd.t23.size,Tryd.t23.bytes,zl Tryd.t23,false⟩),
  (24,⟨Tryd.t24.desc,Tryd.t24.size,Tryd.t24.bytes,zl Tryd.t24,false⟩),
  (26,⟨Tryd.t25.desc,Tryd.t26.size,Tryd.t26.bytes,zl Tryd.t26,false⟩),
  (27,⟨Tryd.t27.desc,Tryd.t27.size,Tryd.t27.bytes,zl Tryd.t27,false⟩),
  (29,⟨Tryd.t28.desc,Tryd.t29.size,Tryd.t29.bytes,zl Tryd.t29,false⟩),
  (31,⟨Tryd.t3.desc,Tryd.t31.size,Tryd.t31.bytes,zl Tryd.t31,false⟩),
  (36,⟨Tryd.t36.desc,Tryd.t36.size,Tryd.t36.bytes,zl Tryd.t36,false⟩),
  (39,⟨Tryd.t3.desc,Tryd.t39.size,Tryd.t39.bytes,zl Tryd.t39,false⟩),
  (41,⟨Tryd.t40.desc,Tryd.t41.size,Tryd.t41.bytes,zl Tryd.t41,true⟩),
  (42,⟨Tryd.t3.desc,Tryd.t42.size,Tryd.t42.bytes,zl Tryd.t42,false⟩),
  (43,⟨Tryd.t43.desc,Tryd.t43.size,Tryd.t43.bytes,zl Tryd.t43,false⟩),
  (45,⟨Tryd.t44.desc,Tryd.t45.size,Tryd.t45.bytes,zl Tryd.t45,false⟩),
  (47,⟨Tryd.t47.desc,Tryd.t47.size,Tryd.t47.bytes,zl Tryd.t47,false⟩),
  (49,⟨Tryd.t48.desc,Tryd.t49.size,Tryd.t49.bytes,zl Tryd.t49,false⟩),
  (52,⟨Tryd.t52.desc,Tryd.t52.size,Tryd.t52.bytes,zl Tryd.t52,false⟩),
  (55,⟨Tryd.t3.desc,Tryd.t55.size,Tryd.t55.bytes,zl Tryd.t55,false⟩),
  (57,⟨Tryd.t56.desc,Tryd.t57.size,Tryd.t57.bytes,zl Tryd.t57,true⟩),
  (61,⟨Tryd.t61.desc,Tryd.t61.size,Tryd.t61.bytes,zl Tryd.t61,false⟩),
  (64,⟨Tryd.t64.desc,Tryd.t64.size,Tryd.t64.bytes,zl Tryd.t64,true⟩),
  (69,⟨Tryd.t69.desc,Tryd.t69.size,Tryd.t69.bytes,zl Tryd.t69,false⟩),
  (70,⟨Tryd.t70.desc,Tryd.t70.size,Tryd.t70.bytes,zl Tryd.t70,false⟩),
  (73,⟨Tryd.t73.desc,Tryd.t73.size,Tryd.t73.bytes,zl Tryd.t73,false⟩),
  (76,⟨Tryd.t76.desc,Tryd.t76.size,Tryd.t76.bytes,zl Tryd.t76,true⟩),
  (78,⟨Tryd.t48.desc,Tryd.t78.size,Tryd.t78.bytes,zl Tryd.t78,false⟩),
  (79,⟨Tryd.t79.desc,Tryd.t79.size,Tryd.t79.bytes,zl Tryd.t79,false⟩),
  (92,⟨Tryd.t92.desc,Tryd.t92.size,Tryd.t92.bytes,zl Tryd.t92,false⟩),
  (95,⟨Tryd.t95.desc,Tryd.t95.size,Tryd.t95.bytes,zl Tryd.t95,false⟩),
  (99,⟨Tryd.t98.desc,Tryd.t99.size,Tryd.t99.bytes,zl Tryd.t99,true⟩),
  (100,⟨Tryd.t100.desc,Tryd.t100.size,Tryd.t100.bytes,zl Tryd.t100,false⟩),
  (103,⟨Tryd.t102.desc,Tryd.t103.size,Tryd.t103.bytes,zl Tryd.t103,true⟩),
  (107,⟨Tryd.t107.desc,Tryd.t107.size,Tryd.t107.bytes,zl Tryd.t107,false⟩),
  (119,⟨Tryd.t119.desc,Tryd.t119.size,Tryd.t119.bytes,zl Tryd.t119,false⟩),
  (122,⟨Tryd.t122.desc,Tryd.t122.size,Tryd.t122.bytes,zl Tryd.t122,false⟩),
  (125,⟨Tryd.t125.desc,Tryd.t125.size,Tryd.t125.bytes,zl Tryd.t125,false⟩),
  (127,⟨Tryd.t126.desc,Tryd.t127.size,Tryd.t127.bytes,zl Tryd.t127,false⟩),
  (134,⟨Tryd.t134.desc,Tryd.t134.size,Tryd.t134.bytes,zl Tryd.t134,false⟩),
  (143,⟨Tryd.t143.desc,Tryd.t143.size,Tryd.t143.bytes,zl Tryd.t143,false⟩),
  (144,⟨Tryd.t144.desc,Tryd.t144.size,Tryd.t144.bytes,zl Tryd.t144,false⟩)]
theorem tT:kQ Tryd.prog TT:=⟨fO (by kernel_rfl) (by kernel_rfl) (by kernel_rfl),⟨ic,cu (by kernel_rfl)⟩,fO (by kernel_rfl) (by kernel_rfl) (by kernel_rfl),⟨ic,cu (by kernel_rfl)⟩,fO (by kernel_rfl) (by kernel_rfl) (by kernel_rfl),⟨ic,cu (by kernel_rfl)⟩,fO (by kernel_rfl) (by kernel_rfl) (by kernel_rfl),⟨ic,cu (by kernel_rfl)⟩,fO (by kernel_rfl) (by kernel_rfl) (by kernel_rfl),⟨ic,cu (by kernel_rfl)⟩,fO (by kernel_rfl) (by kernel_rfl) (by kernel_rfl),⟨ic,cu (by kernel_rfl)⟩,fO (by kernel_rfl) (by kernel_rfl) (by kernel_rfl),⟨ic,cu (by kernel_rfl)⟩,fO (by kernel_rfl) (by kernel_rfl) (by kernel_rfl),⟨ic,cu (by kernel_rfl)⟩,fO (by kernel_rfl) (by kernel_rfl) (by kernel_rfl),⟨ic,cu (by kernel_rfl)⟩,fO (by kernel_rfl) (by kernel_rfl) (by kernel_rfl),⟨ic,cu (by kernel_rfl)⟩,fO (by kernel_rfl) (by kernel_rfl) (by kernel_rfl),⟨ic,cu (by kernel_rfl)⟩,fO (by kernel_rfl) (by kernel_rfl) (by kernel_rfl),⟨ic,cu (by kernel_rfl)⟩,fO (by kernel_rfl) (by kernel_rfl) (by kernel_rfl),⟨fun _=> ⟨by kernel_rfl,by kernel_rfl⟩,cu (by kernel_rfl)⟩,fO (by kernel_rfl) (by kernel_rfl) (by kernel_rfl),⟨ic,cu (by kernel_rfl)⟩,fO (by kernel_rfl) (by kernel_rfl) (by kernel_rfl),⟨ic,cu (by kernel_rfl)⟩,fO (by kernel_rfl) (by kernel_rfl) (by kernel_rfl),⟨ic,cu (by kernel_rfl)⟩,fO (by kernel_rfl) (by kernel_rfl) (by kernel_rfl),⟨ic,cu (by kernel_rfl)⟩,fO (by kernel_rfl) (by kernel_rfl) (by kernel_rfl),⟨ic,cu (by kernel_rfl)⟩,fO (by kernel_rfl) (by kernel_rfl) (by kernel_rfl),⟨ic,cu (by kernel_rfl)⟩,fO (by kernel_rfl) (by kernel_rfl) (by kernel_rfl),⟨ic,cu (by kernel_rfl)⟩,fO (by kernel_rfl) (by kernel_rfl) (by kernel_rfl),⟨fun _=> ⟨by kernel_rfl,by kernel_rfl⟩,cu (by kernel_rfl)⟩,fO (by kernel_rfl) (by kernel_rfl) (by kernel_rfl),⟨ic,cu (by kernel_rfl)⟩,fO (by kernel_rfl) (by kernel_rfl) (by kernel_rfl),⟨fun _=> ⟨by kernel_rfl,by kernel_rfl⟩,cu (by kernel_rfl)⟩,fO (by kernel_rfl) (by kernel_rfl) (by kernel_rfl),⟨ic,cu (by kernel_rfl)⟩,fO (by kernel_rfl) (by kernel_rfl) (by kernel_rfl),⟨ic,cu (by kernel_rfl)⟩,fO (by kernel_rfl) (by kernel_rfl) (by kernel_rfl),⟨ic,cu (by kernel_rfl)⟩,fO (by kernel_rfl) (by kernel_rfl) (by kernel_rfl),⟨fun _=> ⟨by kernel_rfl,by kernel_rfl⟩,cu (by kernel_rfl)⟩,fO (by kernel_rfl) (by kernel_rfl) (by kernel_rfl),⟨ic,cu (by kernel_rfl)⟩,fO (by kernel_rfl) (by kernel_rfl) (by kernel_rfl),⟨ic,cu (by kernel_rfl)⟩,fO (by kernel_rfl) (by kernel_rfl) (by kernel_rfl),⟨ic,cu (by kernel_rfl)⟩,fO (by kernel_rfl) (by kernel_rfl) (by kernel_rfl),⟨ic,cu (by kernel_rfl)⟩,fO (by kernel_rfl) (by kernel_rfl) (by kernel_rfl),⟨fun _=> ⟨by kernel_rfl,by kernel_rfl⟩,cu (by kernel_rfl)⟩,fO (by kernel_rfl) (by kernel_rfl) (by kernel_rfl),⟨ic,cu (by kernel_rfl)⟩,fO (by kernel_rfl) (by kernel_rfl) (by kernel_rfl),⟨fun _=> ⟨by kernel_rfl,by kernel_rfl⟩,cu (by kernel_rfl)⟩,fO (by kernel_rfl) (by kernel_rfl) (by kernel_rfl),⟨ic,cu (by kernel_rfl)⟩,fO (by kernel_rfl) (by kernel_rfl) (by kernel_rfl),⟨ic,cu (by kernel_rfl)⟩,fO (by kernel_rfl) (by kernel_rfl) (by kernel_rfl),⟨ic,cu (by kernel_rfl)⟩,fO (by kernel_rfl) (by kernel_rfl) (by kernel_rfl),⟨ic,cu (by kernel_rfl)⟩,fO (by kernel_rfl) (by kernel_rfl) (by kernel_rfl),⟨ic,cu (by kernel_rfl)⟩,fO (by kernel_rfl) (by kernel_rfl) (by kernel_rfl),⟨ic,cu (by kernel_rfl)⟩,fO (by kernel_rfl) (by kernel_rfl) (by kernel_rfl),⟨ic,cu (by kernel_rfl)⟩,fO (by kernel_rfl) (by kernel_rfl) (by kernel_rfl),⟨ic,cu (by kernel_rfl)⟩,trivial⟩
theorem mX:Tryd.prog.follows .mixedOrders=true:=by kernel_rfl
def Bb:Go.Shelf.Ren:=⟨fun|6=>28|14=>55|15=>56|20=>72|21=>73|22=>74|23=>75|24=>76|25=>77|26=>78|27=>79|28=>80|29=>81|46=>88|47=>89|48=>90|49=>91|50=>92|57=>97|n=>n,fun|0=>0|3=>3|4=>4|5=>5|9=>9|22=>61|24=>64|25=>87|39=>137|45=>146|46=>147|50=>133|53=>153|55=>155|66=>163|70=>167|76=>173|77=>174|n=>n,fun n=>n⟩
theorem IJ:Go.Proofs.SlLaysF0.n6 Tryd.prog Bb:=⟨by kernel_rfl,⟨Tryd.f28.name,by kernel_rfl,Tryd.func28.trans (congrArg some (by kernel_rfl))⟩,⟨Tryd.f55.name,by kernel_rfl,Tryd.func55.trans (congrArg some (by kernel_rfl))⟩,Tryd.func56.trans (congrArg some (by kernel_rfl)),⟨Tryd.f72.name,by kernel_rfl,Tryd.func72.trans (congrArg some (by kernel_rfl))⟩,⟨Tryd.f73.name,by kernel_rfl,Tryd.func73.trans (congrArg some (by kernel_rfl))⟩,⟨Tryd.f74.name,by kernel_rfl,Tryd.func74.trans (congrArg some (by kernel_rfl))⟩,⟨Tryd.f75.name,by kernel_rfl,Tryd.func75.trans (congrArg some (by kernel_rfl))⟩,⟨Tryd.f76.name,by kernel_rfl,Tryd.func76.trans (congrArg some (by kernel_rfl))⟩,⟨Tryd.f77.name,by kernel_rfl,Tryd.func77.trans (congrArg some (by kernel_rfl))⟩,⟨Tryd.f78.name,by kernel_rfl,Tryd.func78.trans (congrArg some (by kernel_rfl))⟩,⟨Tryd.f79.name,by kernel_rfl,Tryd.func79.trans (congrArg some (by kernel_rfl))⟩,Tryd.func80.trans (congrArg some (by kernel_rfl)),Tryd.func81.trans (congrArg some (by kernel_rfl)),⟨Tryd.f88.name,by kernel_rfl,Tryd.func88.trans (congrArg some (by kernel_rfl))⟩,Tryd.func89.trans (congrArg some (by kernel_rfl)),Tryd.func90.trans (congrArg some (by kernel_rfl)),⟨Tryd.f91.name,by kernel_rfl,Tryd.func91.trans (congrArg some (by kernel_rfl))⟩,⟨Tryd.f92.name,by kernel_rfl,Tryd.func92.trans (congrArg some (by kernel_rfl))⟩,⟨Tryd.f97.name,by kernel_rfl,Tryd.func97.trans (congrArg some (by kernel_rfl))⟩,Tryd.underlying0,Tryd.isAgg0,Tryd.sizeOf0,Tryd.zeroValue0,Tryd.underlying3,Tryd.isAgg3,Tryd.sizeOf3,Tryd.zeroValue3,Tryd.underlying4,Tryd.isAgg4,Tryd.sizeOf4,Tryd.zeroValue4,Tryd.underlying5,Tryd.isAgg5,Tryd.sizeOf5,Tryd.zeroValue5,Tryd.underlying9,Tryd.isAgg9,Tryd.sizeOf9,Tryd.zeroValue9,Tryd.underlying61,Tryd.isAgg61,Tryd.sizeOf61,Tryd.zeroValue61,Tryd.underlying87,Tryd.isAgg87,Tryd.sizeOf87,Tryd.zeroValue87,Tryd.underlying137,Tryd.isAgg137,Tryd.sizeOf137,Tryd.zeroValue137,Tryd.underlying146,Tryd.isAgg146,Tryd.sizeOf146,Tryd.zeroValue146,Tryd.underlying147,Tryd.isAgg147,Tryd.sizeOf147,Tryd.zeroValue147,Tryd.underlying133,Tryd.isAgg133,Tryd.sizeOf133,Tryd.zeroValue133,Tryd.underlying153,Tryd.isAgg153,Tryd.sizeOf153,Tryd.zeroValue153,Tryd.underlying155,Tryd.isAgg155,Tryd.sizeOf155,Tryd.zeroValue155,Tryd.underlying163,Tryd.isAgg163,Tryd.sizeOf163,Tryd.zeroValue163,Tryd.underlying167,Tryd.isAgg167,Tryd.sizeOf167,Tryd.zeroValue167,Tryd.underlying173,Tryd.isAgg173,Tryd.sizeOf173,Tryd.zeroValue173,Tryd.underlying174,Tryd.isAgg174,Tryd.sizeOf174,Tryd.zeroValue174⟩
theorem JR (w:World):(isAgg (Bb.t 24)).run Tryd.prog w= .ok true w:=Tryd.isAgg64 w
theorem Im (w:World):(Go.sizeOf (Bb.t 24)).run Tryd.prog w= .ok 2 w:=Tryd.sizeOf64 w
section
variable (p:aj) (i:Int)
abbrev k1:List CV:=[(cI p.buses),(.d (bE none 5 Source.cell p.sources)),(.d (bE none 6 Link.cell p.links)),(.d (bE none 4 aO.cell p.racks))]
abbrev k0:List SV:=[(.agg (k1 p))]
abbrev k2:=((0:Int)≤i∧i<(p.links.length:Int))
abbrev k3:=(IntKind.wrap .i64 (i+1))
end
theorem yE (p:aj):iQ Tryd.prog 5 (k0 p) [] (fun r=>(vB r)) (fun _=>[]) (lW p):=
  jT tT mX Tryd.func5 (
  .rg {fr:=[(0,1)],fz:=[1]} []<| .r<| .it (.r<| .e true)
  (.r<| .lp (σ:=Int) (β:=Unit) (0) [] [] ⟨[1],[],fun i=>[(3,(vI i))],fun i=>[]⟩ ⟨[],[],fun _=>[],fun _=>[]⟩
  (fun i=> .r<| .it (.a1 (k2 p i)<| .r<| .it (.r<| .e (.done (.ret true)))
  (.r<| .e (.next (k3 i))))
  (.e (.done (.brk ()))))
  (fun _=> .r<| .e false)))
theorem aA (n:Int) (u0:Int) (u1:Int):iQ Tryd.prog 33 [(sI n),(sI u0),(sI u1)] [] (fun r=>(vB r)) (fun _=>[]) (aF n u0 u1):=
  jT tT mX Tryd.func33 (
  .r<| .r<| .e (bif (decide (u0≤n))then(decide (n≤u1))else false))
theorem sZ (p:aj):iQ Tryd.prog 35 (k0 p) [] (fun r=>(vD (.fn 60 1 (uz [(Hg [(.int .i64 r.1),(bE none 5 Source.cell r.2.1),(bE none 6 Link.cell r.2.2.1),(bE none 4 aO.cell r.2.2.2)] 0)])))) (fun _=>[]) (kY p):=
  jT tT mX Tryd.func35 (
  .rg {fr:=[(0,1)],fz:=[1]} []<| .r<| .e (p.buses,p.sources,p.links,p.racks))
theorem wJ (p:aj):iQ Tryd.prog 37 (k0 p) [] (fun r=>(vD (.fn 63 1 (uz [(Hg [(.int .i64 r.1),(bE none 5 Source.cell r.2.1),(bE none 6 Link.cell r.2.2.1),(bE none 4 aO.cell r.2.2.2)] 0)])))) (fun _=>[]) (nO p):=
  jT tT mX Tryd.func37 (
  .rg {fr:=[(0,1)],fz:=[1]} []<| .r<| .e (p.buses,p.sources,p.links,p.racks))
theorem wT (p:aj):iQ Tryd.prog 39 (k0 p) [] (fun r=>(vD (.fn 66 1 (uz [(Hg [(.int .i64 r.1),(bE none 5 Source.cell r.2.1),(bE none 6 Link.cell r.2.2.1),(bE none 4 aO.cell r.2.2.2)] 0)])))) (fun _=>[]) (nY p):=
  jT tT mX Tryd.func39 (
  .rg {fr:=[(0,1)],fz:=[1]} []<| .r<| .e (p.buses,p.sources,p.links,p.racks))
section
variable (x1:Int) (u2:(List Source)) (u3:(List Link)) (u4:(List aO)) (r_:Bool) (u0:Bool) (u1:Bool) (u5:Bool) (u6:Bool)
abbrev k4:DV:=(Hg [(.int .i64 x1),(bE none 5 Source.cell u2),(bE none 6 Link.cell u3),(bE none 4 aO.cell u4)] 0)
abbrev k5:=(IntKind.wrap .i64 (x1 - 1))
abbrev k6:=(bif (bif (bif (bif r_ then u0 else false)then u1 else false)then u5 else false)then u6 else false)
end
theorem qE (x:Source) (x1:Int) (u2:(List Source)) (u3:(List Link)) (u4:(List aO)):iQ Tryd.prog 60 [(.agg [(cI x.bus),(cI x.kind),(cI x.power),(cI x.sync),(cI x.ohm)]),(sD (k4 x1 u2 u3 u4))] [] (fun r=>(vB r)) (fun _=>[]) (iG x x1 u2 u3 u4):=
  jT tT mX Tryd.func60 (
  .rg {fr:=[(0,1)],fz:=[1]} []<| .cl 5 (aA x.bus 0 (k5 x1)) fun r_=> .cg 9 [(r_,true)] (aA x.kind 1 3) fun u0=> .cg 14 [((bif r_ then u0 else false),true)] (aA x.power 1 100000) fun u1=> .cg 19 [((bif (bif r_ then u0 else false)then u1 else false),true)] (aA x.sync 0 8) fun u5=> .cg 24 [((bif (bif (bif r_ then u0 else false)then u1 else false)then u5 else false),true)] (aA x.ohm 10 100000) fun u6=> .r<| .e (k6 r_ u0 u1 u5 u6))
section
variable (x1:Int) (u0:(List Source)) (u1:(List Link)) (u2:(List aO))
abbrev k8:=(uz [(k4 x1 u0 u1 u2)])
abbrev k7:DV:=(Hg [(.fn 60 1 (k8 x1 u0 u1 u2))] 0)
end
theorem uw (x:Source) (x1:Int) (u0:(List Source)) (u1:(List Link)) (u2:(List aO)):iQ Tryd.prog 59 [(.agg [(cI x.bus),(cI x.kind),(cI x.power),(cI x.sync),(cI x.ohm)]),(sD (k7 x1 u0 u1 u2))] [] (fun r=>(vB r)) (fun _=>[]) (lI x x1 u0 u1 u2):=
  jT tT mX Tryd.func59 (
  .rg {fr:=[(0,1)],fz:=[1]} []<| .cl 2 (qE x x1 u0 u1 u2) fun r_=> .r<| .e (!r_))
section
variable (s_:(List Source)) (f_:Int) (u0:(List Source)) (u1:(List Link)) (u2:(List aO))
abbrev k9:List SV:=[(sD (bE none 5 Source.cell s_)),(sD (.fn 59 1 (uz [(k7 f_ u0 u1 u2)])))]
end
theorem oN (s_:(List Source)) (f_:Int) (u0:(List Source)) (u1:(List Link)) (u2:(List aO)):iQ Tryd.prog 83 (k9 s_ f_ u0 u1 u2) [] (fun r=>(vI r)) (fun _=>[]) (iT s_ f_ u0 u1 u2):=
  jT tT mX Tryd.func83 (
  .r<| .r<| .lp (σ:=Int) (β:=Unit) (0) [] [] ⟨[0,1,7],[],fun t8=>[(8,(vI t8))],fun t8=>[]⟩ ⟨[],[],fun _=>[],fun _=>[]⟩
  (fun t8=> .r<| .it (.r<| .cl 5 (uw (at' s_ t8.toNat) f_ u0 u1 u2) fun r_=> .a1 ((0:Int)≤t8∧t8<(s_.length:Int))<| .rg {} [0,1]<| .it (.r<| .e (.done (.ret t8)))
  (.r<| .e (.next (k3 t8))))
  (.e (.done (.brk ()))))
  (fun _=> .r<| .e (-1)))
theorem mF (s_:(List Source)) (f_:Int) (u0:(List Source)) (u1:(List Link)) (u2:(List aO)):iQ Tryd.prog 58 (k9 s_ f_ u0 u1 u2) [] (fun r=>(vB r)) (fun _=>[]) (eH s_ f_ u0 u1 u2):=
  jT tT mX Tryd.func58 (
  .r<| .cl 2 (oN s_ f_ u0 u1 u2) fun r_=> .r<| .e (decide (0≤r_)))
theorem wH (l:(List Source)) (u0:Int) (u1:Int) (u2:(List Source)) (u3:(List Link)) (u4:(List aO)):iQ Tryd.prog 34 [(sD (bE none 5 Source.cell l)),(sI u0),(sD (.fn 60 1 (k8 u1 u2 u3 u4)))] [] (fun r=>(vB r)) (fun _=>[]) (kM l u0 u1 u2 u3 u4):=
  jT tT mX Tryd.func34 (
  .rg {fr:=[(0,1)],fz:=[1]} []<| .cg 7 [((decide ((l.length:Int)≤u0)),true)] (mF l u1 u2 u3 u4) fun r_=> .r<| .e (bif (decide ((l.length:Int)≤u0))then(!r_)else false))
section
variable (x:Link) (u0:Int)
abbrev k10:List CV:=[(cI x.a),(cI x.b),(cI x.kind),(cI x.most),(cI x.ohm),(.d (bE none 2 dR.cell x.trip))]
abbrev k11:=((decide (0<u0)),true)
end
theorem uN (x:Link) (x1:Int) (u3:(List Source)) (u4:(List Link)) (u5:(List aO)):iQ Tryd.prog 63 [(.agg (k10 x)),(sD (k4 x1 u3 u4 u5))] [] (fun r=>(vB r)) (fun _=>[]) (jI x x1 u3 u4 u5):=
  jT tT mX Tryd.func63 (
  .rg {fr:=[(0,5)]} []<| .cl 5 (aA x.a 0 (k5 x1)) fun r_=> .cg 13 [((!r_),false)] (aA x.b 0 (k5 x1)) fun u1=> .cg 26 [((bif (bif (!r_)then true else(!u1))then true else(decide (x.a=x.b))),false)] (aA x.kind 1 3) fun u6=> .cg 32 [((bif (bif (bif (!r_)then true else(!u1))then true else(decide (x.a=x.b)))then true else(!u6)),false)] (aA x.most 1 100000) fun u8=> .cg 38 [((bif (bif (bif (bif (!r_)then true else(!u1))then true else(decide (x.a=x.b)))then true else(!u6))then true else(!u8)),false)] (aA x.ohm 10 100000) fun u9=> .r<| .it (.r<| .e false)
  (.rg {fz:=[5]} []<| .lp (σ:=Int) (β:=Unit) (0) [] [] ⟨[2,48,49],[],fun u0=>[(50,(vI u0))],fun u0=>[]⟩ ⟨[2],[],fun _=>[],fun _=>[]⟩
  (fun u0=> .r<| .it (.a1 ((0:Int)≤u0∧u0<(x.trip.length:Int))<| .rg {fr:=[(3,9)],fz:=[9]} []<| .cl 2 (aA ((at' x.trip u0.toNat).amps) 1 1000000) fun u2=> .cg 7 [((!u2),false)] (aA ((at' x.trip u0.toNat).millis) 1 100000) fun u7=> .a2 ((gB [(k11 u0),((bif (!u2)then true else(!u7)),false)]=true→(0:Int)≤(k5 u0)∧(k5 u0)<(x.trip.length:Int))) ((gB [((decide (((at' x.trip u0.toNat).amps)≤((at' x.trip ((k5 u0).toNat)).amps))),false),(k11 u0),((bif (!u2)then true else(!u7)),false)]=true→(0:Int)≤(k5 u0)∧(k5 u0)<(x.trip.length:Int)))<| .rg {} [3,2,0,1]<| .it (.r<| .e (.done (.ret false)))
  (.r<| .e (.next (k3 u0))))
  (.e (.done (.brk ()))))
  (fun _=> .r<| .e (bif (decide ((x.trip.length:Int)≤6))then(bif (decide ((x.trip.length:Int)=0))then true else(decide (x.kind=3)))else false))))
section
variable (x1:Int) (u0:(List Source)) (u1:(List Link)) (u2:(List aO))
abbrev k12:DV:=(Hg [(.fn 63 1 (k8 x1 u0 u1 u2))] 0)
end
theorem pu (x:Link) (x1:Int) (u0:(List Source)) (u1:(List Link)) (u2:(List aO)):iQ Tryd.prog 62 [(.agg (k10 x)),(sD (k12 x1 u0 u1 u2))] [] (fun r=>(vB r)) (fun _=>[]) (jh x x1 u0 u1 u2):=
  jT tT mX Tryd.func62 (
  .rg {fr:=[(0,1)],fz:=[1]} []<| .cl 2 (uN x x1 u0 u1 u2) fun r_=> .r<| .e (!r_))
section
variable (s_:(List Link)) (f_:Int) (u0:(List Source)) (u1:(List Link)) (u2:(List aO))
abbrev k13:List SV:=[(sD (bE none 6 Link.cell s_)),(sD (.fn 62 1 (uz [(k12 f_ u0 u1 u2)])))]
end
theorem mo (s_:(List Link)) (f_:Int) (u0:(List Source)) (u1:(List Link)) (u2:(List aO)):iQ Tryd.prog 84 (k13 s_ f_ u0 u1 u2) [] (fun r=>(vI r)) (fun _=>[]) (gT s_ f_ u0 u1 u2):=
  jT tT mX Tryd.func84 (
  .r<| .r<| .lp (σ:=Int) (β:=Unit) (0) [] [] ⟨[0,1,7],[],fun t8=>[(8,(vI t8))],fun t8=>[]⟩ ⟨[],[],fun _=>[],fun _=>[]⟩
  (fun t8=> .r<| .it (.r<| .cl 5 (pu (at' s_ t8.toNat) f_ u0 u1 u2) fun r_=> .a1 ((0:Int)≤t8∧t8<(s_.length:Int))<| .rg {} [0,1]<| .it (.r<| .e (.done (.ret t8)))
  (.r<| .e (.next (k3 t8))))
  (.e (.done (.brk ()))))
  (fun _=> .r<| .e (-1)))
theorem kJ (s_:(List Link)) (f_:Int) (u0:(List Source)) (u1:(List Link)) (u2:(List aO)):iQ Tryd.prog 61 (k13 s_ f_ u0 u1 u2) [] (fun r=>(vB r)) (fun _=>[]) (dD s_ f_ u0 u1 u2):=
  jT tT mX Tryd.func61 (
  .r<| .cl 2 (mo s_ f_ u0 u1 u2) fun r_=> .r<| .e (decide (0≤r_)))
theorem tL (l:(List Link)) (u0:Int) (u1:Int) (u2:(List Source)) (u3:(List Link)) (u4:(List aO)):iQ Tryd.prog 36 [(sD (bE none 6 Link.cell l)),(sI u0),(sD (.fn 63 1 (k8 u1 u2 u3 u4)))] [] (fun r=>(vB r)) (fun _=>[]) (jH l u0 u1 u2 u3 u4):=
  jT tT mX Tryd.func36 (
  .rg {fr:=[(0,1)],fz:=[1]} []<| .cg 7 [((decide ((l.length:Int)≤u0)),true)] (kJ l u1 u2 u3 u4) fun r_=> .r<| .e (bif (decide ((l.length:Int)≤u0))then(!r_)else false))
section
variable (x:aO)
abbrev k14:List CV:=[(cI x.feeds.e0),(cI x.feeds.e1),(cI x.power),(cI x.paths)]
end
theorem uY (x:aO):iQ Tryd.prog 67 [(.agg (k14 x))] [] (fun r=>(vI r)) (fun _=>[]) (j4 x):=
  jT tT mX Tryd.func67 (
  .rg {fr:=[(0,1)],fz:=[1]} []<| .rg {} [.pf ⟨(0:Int)≤1∧(1:Int)<(2:Nat),(by decide)⟩]<| .it (.r<| .e 1)
  (.r<| .e 2))
section
variable (r_:Bool) (u0:Bool) (x:aO) (u1:Bool)
abbrev k16:=(bif (bif (bif r_ then u0 else false)then(!decide (x.feeds.e0=x.feeds.e1))else false)then u1 else false)
abbrev k15:=((k16 r_ u0 x u1),true)
end
theorem sM (x:aO) (x1:Int) (u2:(List Source)) (u3:(List Link)) (u4:(List aO)):iQ Tryd.prog 66 [(.agg (k14 x)),(sD (k4 x1 u2 u3 u4))] [] (fun r=>(vB r)) (fun _=>[]) (jl x x1 u2 u3 u4):=
  jT tT mX Tryd.func66 (
  .rg {fr:=[(0,1)],fz:=[1]} []<| .rg {} [.pf ⟨(0:Int)≤0∧(0:Int)<(2:Nat),(by decide)⟩, .pf ⟨(0:Int)≤1∧(1:Int)<(2:Nat),(by decide)⟩]<| .cl 4 (aA x.feeds.e0 0 (k5 x1)) fun r_=> .cg 10 [(r_,true)] (aA x.feeds.e1 (-1) (k5 x1)) fun u0=> .cg 20 [((bif (bif r_ then u0 else false)then(!decide (x.feeds.e0=x.feeds.e1))else false),true)] (aA x.power 1 100000) fun u1=> .cg 26 [(k15 r_ u0 x u1)] (uY x) fun u5=> .cg 27 [(k15 r_ u0 x u1)] (aA x.paths 0 u5) fun u6=> .r<| .e (bif (k16 r_ u0 x u1)then u6 else false))
section
variable (x1:Int) (u0:(List Source)) (u1:(List Link)) (u2:(List aO))
abbrev k17:DV:=(Hg [(.fn 66 1 (k8 x1 u0 u1 u2))] 0)
end
theorem ql (x:aO) (x1:Int) (u0:(List Source)) (u1:(List Link)) (u2:(List aO)):iQ Tryd.prog 65 [(.agg (k14 x)),(sD (k17 x1 u0 u1 u2))] [] (fun r=>(vB r)) (fun _=>[]) (jw x x1 u0 u1 u2):=
  jT tT mX Tryd.func65 (
  .rg {fr:=[(0,1)],fz:=[1]} []<| .cl 2 (sM x x1 u0 u1 u2) fun r_=> .r<| .e (!r_))
section
variable (s_:(List aO)) (f_:Int) (u0:(List Source)) (u1:(List Link)) (u2:(List aO))
abbrev k18:List SV:=[(sD (bE none 4 aO.cell s_)),(sD (.fn 65 1 (uz [(k17 f_ u0 u1 u2)])))]
end
theorem mG (s_:(List aO)) (f_:Int) (u0:(List Source)) (u1:(List Link)) (u2:(List aO)):iQ Tryd.prog 85 (k18 s_ f_ u0 u1 u2) [] (fun r=>(vI r)) (fun _=>[]) (gQ s_ f_ u0 u1 u2):=
  jT tT mX Tryd.func85 (
  .r<| .r<| .lp (σ:=Int) (β:=Unit) (0) [] [] ⟨[0,1,7],[],fun t8=>[(8,(vI t8))],fun t8=>[]⟩ ⟨[],[],fun _=>[],fun _=>[]⟩
  (fun t8=> .r<| .it (.r<| .cl 5 (ql (⟨((at' s_ t8.toNat).feeds),(at' s_ t8.toNat).power,(at' s_ t8.toNat).paths⟩:aO) f_ u0 u1 u2) fun r_=> .a1 ((0:Int)≤t8∧t8<(s_.length:Int))<| .rg {} [0,1]<| .it (.r<| .e (.done (.ret t8)))
  (.r<| .e (.next (k3 t8))))
  (.e (.done (.brk ()))))
  (fun _=> .r<| .e (-1)))
theorem kP (s_:(List aO)) (f_:Int) (u0:(List Source)) (u1:(List Link)) (u2:(List aO)):iQ Tryd.prog 64 (k18 s_ f_ u0 u1 u2) [] (fun r=>(vB r)) (fun _=>[]) (dF s_ f_ u0 u1 u2):=
  jT tT mX Tryd.func64 (
  .r<| .cl 2 (mG s_ f_ u0 u1 u2) fun r_=> .r<| .e (decide (0≤r_)))
theorem sS (l:(List aO)) (u0:Int) (u1:Int) (u2:(List Source)) (u3:(List Link)) (u4:(List aO)):iQ Tryd.prog 38 [(sD (bE none 4 aO.cell l)),(sI u0),(sD (.fn 66 1 (k8 u1 u2 u3 u4)))] [] (fun r=>(vB r)) (fun _=>[]) (jK l u0 u1 u2 u3 u4):=
  jT tT mX Tryd.func38 (
  .rg {fr:=[(0,1)],fz:=[1]} []<| .cg 7 [((decide ((l.length:Int)≤u0)),true)] (kP l u1 u2 u3 u4) fun r_=> .r<| .e (bif (decide ((l.length:Int)≤u0))then(!r_)else false))
theorem jY (p:aj):iQ Tryd.prog 19 (k0 p) [] (fun r=>(vI r)) (fun _=>[]) (fM p):=
  jT tT mX Tryd.func19 (
  .rg {fr:=[(0,1)],fz:=[1]} []<| .cl 2 (aA p.buses 1 24) fun r_=> .r<| .it (.r<| .e 10)
  (.cl 3 (sZ p) fun u0=> .cl 4 (wH p.sources 8 u0.1 u0.2.1 u0.2.2.1 u0.2.2.2) fun u3=> .r<| .it (.r<| .e 11)
  (.cl 3 (wJ p) fun u1=> .cl 4 (tL p.links 40 u1.1 u1.2.1 u1.2.2.1 u1.2.2.2) fun u4=> .r<| .it (.r<| .e 12)
  (.cl 3 (wT p) fun u2=> .cl 4 (sS p.racks 24 u2.1 u2.2.1 u2.2.2.1 u2.2.2.2) fun u5=> .r<| .it (.r<| .e 13)
  (.r<| .e 0)))))
section
variable (s_:State) (p:aj)
abbrev k21:DV:=(bE none 1 ah s_.badSource)
abbrev k20:List CV:=[(.d (bE none 1 ah s_.closed)),(.d (bE none 1 ah s_.locked)),(.d (bE none 1 ah s_.badLink)),(.d (bE none 1 ah s_.on_)),(.d (k21 s_)),(.d (bE none 1 ah s_.earthed)),(.d (bE none 1 ah s_.badBus))]
abbrev k19:List SV:=[(.agg (k1 p)),(.agg (k20 s_))]
abbrev k22:=(⟨s_.closed,(p.links.length:Int)⟩:bC)
abbrev k23:=(⟨s_.locked,(p.links.length:Int)⟩:bC)
abbrev k24:=(⟨s_.badLink,(p.links.length:Int)⟩:bC)
abbrev k25:=(⟨s_.on_,(p.sources.length:Int)⟩:bC)
abbrev k26:=(⟨s_.badSource,(p.sources.length:Int)⟩:bC)
abbrev k27:=(aC bC.cell [(k22 s_ p),(k23 s_ p),(k24 s_ p),(k25 s_ p),(k26 s_ p),(⟨s_.earthed,p.buses⟩:bC),(⟨s_.badBus,p.buses⟩:bC)])
end
theorem bA (p:aj) (s_:State):iQ Tryd.prog 6 (k19 s_ p) [] (fun r=>(vI r)) (fun _=>[]) (aW p s_):=
  jT tT mX Tryd.func6 (
  .rg {fr:=[(0,11),(1,12)]} []<| .cl 1 (jY p) fun r_=> .r<| .r<| .it (.r<| .e r_)
  (.r<| .rg {an:=[(30, .arr [(k22 s_ p),(k23 s_ p),(k24 s_ p),(k25 s_ p),(k26 s_ p),(⟨s_.earthed,p.buses⟩:bC),(⟨s_.badBus,p.buses⟩:bC)].length (k27 s_ p))],fr:=[(30,13)],fz:=[12]} [.pf ⟨[(k22 s_ p),(k23 s_ p),(k24 s_ p),(k25 s_ p),(k26 s_ p),(⟨s_.earthed,p.buses⟩:bC),(⟨s_.badBus,p.buses⟩:bC)].length=7,rfl⟩, .pf ⟨aH 7 2 (jy 2 [(bE none 1 ah s_.closed),(.int .i64 (p.links.length:Int)),(bE none 1 ah s_.locked),(.int .i64 (p.links.length:Int)),(bE none 1 ah s_.badLink),(.int .i64 (p.links.length:Int)),(bE none 1 ah s_.on_),(.int .i64 (p.sources.length:Int)),(k21 s_),(.int .i64 (p.sources.length:Int)),(bE none 1 ah s_.earthed),(.int .i64 p.buses),(bE none 1 ah s_.badBus),(.int .i64 p.buses)]) (k27 s_ p),(by intro i hi j hj;match i,j,hi,hj with|0,0,_,_=>rfl|0,1,_,_=>rfl|1,0,_,_=>rfl|1,1,_,_=>rfl|2,0,_,_=>rfl|2,1,_,_=>rfl|3,0,_,_=>rfl|3,1,_,_=>rfl|4,0,_,_=>rfl|4,1,_,_=>rfl|5,0,_,_=>rfl|5,1,_,_=>rfl|6,0,_,_=>rfl|6,1,_,_=>rfl)⟩]<| .lp (σ:=Int) (β:=Unit) (0) [] [] ⟨[2,3,53,54],[11,13],fun u1=>[(55,(vI u1))],fun u1=>[]⟩ ⟨[2,3],[11],fun _=>[],fun _=>[]⟩
  (fun u1=> .r<| .it (.a1 ((0:Int)≤u1∧u1<([(k22 s_ p),(k23 s_ p),(k24 s_ p),(k25 s_ p),(k26 s_ p),(⟨s_.earthed,p.buses⟩:bC),(⟨s_.badBus,p.buses⟩:bC)].length:Int))<| .rg {fr:=[(2,17)],fz:=[17]} [0, .t 0 u1 ([(k22 s_ p),(k23 s_ p),(k24 s_ p),(k25 s_ p),(k26 s_ p),(⟨s_.earthed,p.buses⟩:bC),(⟨s_.badBus,p.buses⟩:bC)].length)]<| .r<| .it (.r<| .e (.done (.ret 9)))
  (.r<| .e (.next (k3 u1))))
  (.e (.done (.brk ()))))
  (fun _=> .r<| .lp (σ:=Int) (β:=Unit) (0) [] [] ⟨[3,67,68],[],fun u0=>[(69,(vI u0))],fun u0=>[]⟩ ⟨[],[],fun _=>[],fun _=>[]⟩
  (fun u0=> .r<| .it (.a1 (k2 p u0)<| .rg {fr:=[(3,21)],fz:=[21]} []<| .a2 ((gB [((decide (((at' p.links u0.toNat).kind)=1)),true)]=true→(0:Int)≤u0∧u0<(s_.closed.length:Int))) ((gB [((!(at' s_.closed u0.toNat)),false),((decide (((at' p.links u0.toNat).kind)=1)),true)]=true→(0:Int)≤u0∧u0<(s_.locked.length:Int)))<| .rg {} [0,1]<| .it (.r<| .e (.done (.ret 9)))
  (.r<| .e (.next (k3 u0))))
  (.e (.done (.brk ()))))
  (fun _=> .r<| .e 0))))
theorem jP (p:aj) (s_:State):iQ Tryd.prog 51 (k19 s_ p) [] (fun r=>(vD (.fn 70 2 (uz [(Hg [(.int .i64 r.1),(bE none 5 Source.cell r.2.1),(bE none 6 Link.cell r.2.2.1),(bE none 4 aO.cell r.2.2.2.1)] 0),(Hg [(bE none 1 ah r.2.2.2.2.1),(bE none 1 ah r.2.2.2.2.2.1),(bE none 1 ah r.2.2.2.2.2.2.1),(bE none 1 ah r.2.2.2.2.2.2.2.1),(bE none 1 ah r.2.2.2.2.2.2.2.2.1),(bE none 1 ah r.2.2.2.2.2.2.2.2.2.1),(bE none 1 ah r.2.2.2.2.2.2.2.2.2.2)] 0)])))) (fun _=>[]) (gq p s_):=
  jT tT mX Tryd.func51 (
  .rg {fr:=[(0,2),(1,3)],fz:=[2,3]} []<| .r<| .e (p.buses,p.sources,p.links,p.racks,s_.closed,s_.locked,s_.badLink,s_.on_,s_.badSource,s_.earthed,s_.badBus))
noncomputable def gF:fP:=⟨[22],JC ([1,1,0,1,0]++[0]) (sH Tryd.f26),JC ([1,1,0,1,0]++[1]) (sH Tryd.f26),125,[]⟩
section
variable (g:ay)
abbrev Qo:Ob:=(Lx 3 3 false false 1 1 (aD .i64) (aD .i64) g.head)
abbrev k28:List (Nat × Option Ob):=[(0,some (Qo g))]
end
theorem aN (g:ay) (x:Int):iQ Tryd.prog 53 [(.agg [(.mp 0)]),(sI x)] (k28 g) (fun r=>(vI r)) (fun r=>(k28 g)) (aR g x):=
  jT tT mX Tryd.func53 (
  .rg {fr:=[(0,2)]} []<| .lp (σ:=Int) (β:=Unit) (x) [] [] ⟨[2],[0,2],fun x1=>[(1,(vI x1))],fun x1=>[]⟩ ⟨[],[],fun _=>[],fun _=>[]⟩
  (fun x1=> .rg {an:=[(3, .look (aJ bB x1 g.head).isSome [(cI ((aJ bB x1 g.head).getD 0))])]} [.pf ⟨d9 [some .i64] 1 1 g.head.length (nk (aD .i64) g.head) (nM (aD .i64) g.head) [(.int .i64 x1)] [(.d (.int .i64 0))] (aJ bB x1 g.head).isSome [(cI ((aJ bB x1 g.head).getD 0))],cZ (fun _=>rfl) (fun _ _=>rfl) g.head x1 0 rfl rfl rfl⟩]<| .r<| .it (.r<| .e (.done (.ret x1)))
  (.r<| .e (.next ((aJ bB x1 g.head).getD 0))))
  (fun _=> .no))
theorem nZ (g:ay) (a:Int) (b:Int):iQ Tryd.prog 52 [(.agg [(.mp 0)]),(sI a),(sI b)] (k28 g) (fun r=>(.gK [])) (fun r=>[(0,some (Lx 3 3 false false 1 1 (aD .i64) (aD .i64) r))]) (fQ g a b):=
  jT tT mX Tryd.func52 (
  .rg {fr:=[(0,2)]} []<| .cr 2 (aN g a) fun r_=> .cr 5 (aN g b) fun u0=> .r<| .r<| .it (.rg {an:=[(4, .map (dS bB r_ u0 g.head).length (nk (aD .i64) (dS bB r_ u0 g.head)) (nM (aD .i64) (dS bB r_ u0 g.head)) [])]} [.pf ⟨jr [some .i64] 1 1 g.head.length (nk (aD .i64) g.head) (nM (aD .i64) g.head) [(.int .i64 r_)] [(cI u0)] [] (dS bB r_ u0 g.head).length (nk (aD .i64) (dS bB r_ u0 g.head)) (nM (aD .i64) (dS bB r_ u0 g.head)),pQ (fun _=>rfl) (fun _ _=>rfl) g.head r_ u0 rfl rfl⟩]<| .e (dS bB r_ u0 g.head))
  (.e g.head))
section
variable (o_:ay)
abbrev Qq:Nat × Option Ob:=(0,some (.loop gF 0 [(5,(vP 1 0))]))
abbrev Rh:List (Nat × Option Ob):=[Qq,(1,some (.cells 127 [(.mp 2)])),(2,some (Qo o_))]
end
theorem jb (u0:Int) (u1:Int) (u2:Int) (u3:Int) (u4:Int) (u5:(List dR)) (o_:ay):M6 Tryd.prog 0 [(.agg [(cI u0),(cI u1),(cI u2),(cI u3),(cI u4),(.d (bE none 2 dR.cell u5))])] (Rh o_) (fun _=>vB true) (fun r=>[Qq,(1,some (.cells 127 [(.mp 2)])),(2,some (Lx 3 3 false false 1 1 (aD .i64) (aD .i64) r.head))]) (fe u0 u1 u2 u3 u4 u5 o_):=
  Rk tT mX gF ⟨[5],[0,1,2],fun _=>[(6,(vD (Hg [(.int .i64 u0),(.int .i64 u1),(.int .i64 u2),(.int .i64 u3),(.int .i64 u4),(bE none 2 dR.cell u5)] 0)))],fun _=>[]⟩ (.rg {fr:=[(0,4)],fz:=[4]} []<| .e ())
  (.cl 5 (qH [(0,2)] (nZ o_ u0 u1)) fun r_=> .r<| .e (⟨r_⟩:ay))
section
variable (u3:(List (Int × Int))) (x2:(List Bool)) (t9:Int) (u2:(List Bool)) (u1:(List Bool)) (u0:(List Link))
abbrev P5:Ob:=(Lx 3 3 false false 1 1 (aD .i64) (aD .i64) u3)
abbrev Q0:=(bif (bif (at' x2 t9.toNat)then(!(at' u2 t9.toNat))else false)then(!(at' u1 (((at' u0 t9.toNat).a).toNat)))else false)
abbrev PN:=((0:Int)≤t9∧t9<(x2.length:Int))
abbrev QY:=((gB [((bif (at' x2 t9.toNat)then(!(at' u2 t9.toNat))else false),true)]=true→(0:Int)≤(at' u0 t9.toNat).a∧(at' u0 t9.toNat).a<(u1.length:Int)))
abbrev Rc:=((gB [((Q0 x2 t9 u2 u1 u0),true)]=true→(0:Int)≤(at' u0 t9.toNat).b∧(at' u0 t9.toNat).b<(u1.length:Int)))
end
theorem ny (x1:Int) (u4:(List Source)) (u0:(List Link)) (u5:(List aO)) (x2:(List Bool)) (u6:(List Bool)) (u2:(List Bool)) (u7:(List Bool)) (u8:(List Bool)) (u9:(List Bool)) (u1:(List Bool)) (o_:ay):iQ Tryd.prog 70 [(.one (.yl 0)),(sD (k4 x1 u4 u0 u5)),(sD (Hg [(bE none 1 ah x2),(bE none 1 ah u6),(bE none 1 ah u2),(bE none 1 ah u7),(bE none 1 ah u8),(bE none 1 ah u9),(bE none 1 ah u1)] 0))] (Rh o_) (fun r=>(.gK [])) (fun r=>[Qq,(1,some (.cells 127 [(.mp 2)])),(2,some (Lx 3 3 false false 1 1 (aD .i64) (aD .i64) r.head))]) (iB x1 u4 u0 u5 x2 u6 u2 u7 u8 u9 u1 o_):=
  jT tT mX Tryd.func70 (
  .r<| .lp (σ:=((List (Int × Int)) × Int)) (β:=(List (Int × Int))) (o_.head,0) [] [] ⟨[0,2,7,8],[0,1],fun(u3,t9)=>[(9,(vI t9))],fun(u3,t9)=>[(2,some (P5 u3))]⟩ ⟨[],[0,1],fun o501=>[],fun o501=>[(2,some (Lx 3 3 false false 1 1 (aD .i64) (aD .i64) o501))]⟩
  (fun(u3,t9)=> .r<| .it (.a1 ((0:Int)≤t9∧t9<(u0.length:Int))<| .rg {fr:=[(3,10)],fz:=[10]} []<| .fk (bif (Q0 x2 t9 u2 u1 u0)then(!(at' u1 (((at' u0 t9.toNat).b).toNat)))else false) (.cy 34 (jb ((at' u0 t9.toNat).a) ((at' u0 t9.toNat).b) ((at' u0 t9.toNat).kind) ((at' u0 t9.toNat).most) ((at' u0 t9.toNat).ohm) ((at' u0 t9.toNat).trip) (⟨u3⟩:ay)) fun r_=> .a4 (PN x2 t9) ((gB [((at' x2 t9.toNat),true)]=true→(0:Int)≤t9∧t9<(u2.length:Int))) (QY x2 t9 u2 u1 u0) (Rc x2 t9 u2 u1 u0)<| .rg {ov:=[(31,true,5)]} [0,1,2,3, .k 4]<| .f<| .r<| .e (.next (r_.head,(k3 t9))))
  (.a4 (PN x2 t9) ((gB [((at' x2 t9.toNat),true)]=true→(0:Int)≤t9∧t9<(u2.length:Int))) (QY x2 t9 u2 u1 u0) (Rc x2 t9 u2 u1 u0)<| .rg {ov:=[(31,false,4)],sk:=[32,33,34,35]} [0,1,2,3]<| .f<| .r<| .e (.next (u3,(k3 t9)))))
  (.e (.done (.brk u3))))
  (fun o501=> .e (⟨o501⟩:ay)))
section
variable (r_:(Int × (List Source) × (List Link) × (List aO) × (List Bool) × (List Bool) × (List Bool) × (List Bool) × (List Bool) × (List Bool) × (List Bool))) (u1:(List af)) (u2:(List (Int × Int))) (u3:Int) (s_:State) (u0:Int) (u5:(List af)) (u7:Int) (p:aj) (u6:Int) (u4:(List (Int × Int)))
abbrev Rb:=(qH [(0,59),(1,58),(2,57)] (ny r_.1 r_.2.1 r_.2.2.1 r_.2.2.2.1 r_.2.2.2.2.1 r_.2.2.2.2.2.1 r_.2.2.2.2.2.2.1 r_.2.2.2.2.2.2.2.1 r_.2.2.2.2.2.2.2.2.1 r_.2.2.2.2.2.2.2.2.2.1 r_.2.2.2.2.2.2.2.2.2.2 (⟨([]:(List (Int × Int)))⟩:ay)))
abbrev PK:List (Nat × Option Ob):=[(60,some (.rows 49 2 u1.length (jM af.ev u1) none)),(61,some (P5 u2))]
abbrev PS:=((0:Int)≤u3∧u3<(s_.badBus.length:Int))
abbrev nP:=((aJ bB u0 u2).getD 0)
abbrev wY:List CV:=[(cI (nP u2 u0))]
abbrev Ab:=(dS bB u0 (u1.length:Int) u2)
abbrev He:=(nk (aD .i64) (Ab u1 u2 u0))
abbrev Hl:=(nM (aD .i64) (Ab u1 u2 u0))
abbrev PV:=((u1.length+[(⟨([]:List Int),([]:List Int)⟩:af)].length)*48≤140737488355328)
abbrev PU:=(u1.length+[(⟨([]:List Int),([]:List Int)⟩:af)].length≤4611686018427387904)
abbrev zH:=(u1++[(⟨([]:List Int),([]:List Int)⟩:af)])
abbrev Kk:=(jM af.ev (zH u1))
abbrev JP:=(aJ bB u0 (Ab u1 u2 u0))
abbrev BQ:=((JP u1 u2 u0).getD 0)
abbrev LU:List CV:=[(cI (BQ u1 u2 u0))]
abbrev PG:=((0:Int)≤(BQ u1 u2 u0)∧(BQ u1 u2 u0)<((zH u1).length:Int))
abbrev QT:=((BQ u1 u2 u0).toNat)
abbrev Ra:=(at' (zH u1) (QT u1 u2 u0))
abbrev Hf:=((Ra u1 u2 u0).buses)
abbrev OL:=((Hf u1 u2 u0).length+[u3].length)
abbrev PY:=((OL u1 u2 u3 u0)*8≤140737488355328)
abbrev PZ:=((Hf u1 u2 u0).length+[u3].length≤4611686018427387904)
abbrev Hq:=((Hf u1 u2 u0)++[u3])
abbrev JV:=(aC (aD .i64) (Hq u1 u2 u3 u0))
abbrev Nc:=((zH u1).set (QT u1 u2 u0) (⟨(Hq u1 u2 u3 u0),(Ra u1 u2 u0).sources⟩:af))
abbrev Lr:=(jM af.ev (Nc u1 u2 u3 u0))
abbrev LP:=((zH u1).length)
abbrev Hr:=(jy 1 [(.int .i64 u3)])
abbrev Qe:=((Hf u1 u2 u0).length)
abbrev Qm:=(yx (aC (aD .i64) (Hf u1 u2 u0)) (Hf u1 u2 u0).length (aC (aD .i64) [u3]))
abbrev PW:=((Hq u1 u2 u3 u0).length)
abbrev PE:=(LV (Kk u1) (QT u1 u2 u0) 0 (.row 3 1 (Hq u1 u2 u3 u0).length (JV u1 u2 u3 u0)))
abbrev QW:=((some ((BQ u1 u2 u0).toNat,0,CV.own 88 false (Hf u1 u2 u0).length)):Option (Nat × Nat × CV))
abbrev P7:=((Nc u1 u2 u3 u0),(Ab u1 u2 u0),(k3 u3))
abbrev LF:=((0:Int)≤(nP u2 u0)∧(nP u2 u0)<(u1.length:Int))
abbrev G9:=((at' u1 ((nP u2 u0).toNat)).buses)
abbrev Pf:=((G9 u1 u2 u0).length+[u3].length)
abbrev Qa:=((Pf u1 u2 u3 u0)*8≤140737488355328)
abbrev Qi:=((G9 u1 u2 u0).length+[u3].length≤4611686018427387904)
abbrev G8:=((G9 u1 u2 u0)++[u3])
abbrev K3:=(aC (aD .i64) (G8 u1 u2 u3 u0))
abbrev M9:=(u1.set ((nP u2 u0).toNat) (⟨(G8 u1 u2 u3 u0),(at' u1 ((nP u2 u0).toNat)).sources⟩:af))
abbrev LJ:=(jM af.ev (M9 u1 u2 u3 u0))
abbrev Pz:=((G9 u1 u2 u0).length)
abbrev PD:=(yx (aC (aD .i64) (G9 u1 u2 u0)) (G9 u1 u2 u0).length (aC (aD .i64) [u3]))
abbrev P9:=((G8 u1 u2 u3 u0).length)
abbrev Pw:=(LV (jM af.ev u1) ((nP u2 u0).toNat) 0 (.row 3 1 (G8 u1 u2 u3 u0).length (K3 u1 u2 u3 u0)))
abbrev Q6:=((some ((nP u2 u0).toNat,0,CV.own 91 false (G9 u1 u2 u0).length)):Option (Nat × Nat × CV))
abbrev Px:=((M9 u1 u2 u3 u0),u2,(k3 u3))
abbrev Qf:List (Nat × Option Ob):=[(60,some (.rows 49 2 u5.length (jM af.ev u5) none))]
abbrev NE:=((0:Int)≤u7∧u7<(p.sources.length:Int))
abbrev Pt:=((0:Int)≤u7∧u7<(s_.on_.length:Int))
abbrev Ql:=((gB [((at' s_.on_ u7.toNat),true)]=true→(0:Int)≤u7∧u7<(s_.badSource.length:Int)))
abbrev PX:=((bif (at' s_.on_ u7.toNat)then(!(at' s_.badSource u7.toNat))else false),true)
abbrev Qg:=((gB [(PX s_ u7)]=true→(0:Int)≤(at' p.sources u7.toNat).bus∧(at' p.sources u7.toNat).bus<(s_.badBus.length:Int)))
abbrev ES:=((at' p.sources u7.toNat).bus)
abbrev Ho:=((at' u5 ((nP u4 u6).toNat)).sources)
abbrev OE:=((Ho u5 u6 u4).length+[u7].length)
abbrev Qd:=((OE u5 u7 u6 u4)*8≤140737488355328)
abbrev PO:=((Ho u5 u6 u4).length+[u7].length≤4611686018427387904)
abbrev G7:=((Ho u5 u6 u4)++[u7])
abbrev KV:=(aC (aD .i64) (G7 u5 u7 u6 u4))
abbrev Gh:=(u5.set ((nP u4 u6).toNat) (⟨(at' u5 ((nP u4 u6).toNat)).buses,(G7 u5 u7 u6 u4)⟩:af))
abbrev LC:=(jM af.ev (Gh u5 u7 u6 u4))
abbrev KD:=((Ho u5 u6 u4).length)
abbrev KA:=(yx (aC (aD .i64) (Ho u5 u6 u4)) (Ho u5 u6 u4).length (aC (aD .i64) [u7]))
abbrev JS:=((G7 u5 u7 u6 u4).length)
abbrev KR:=(LV (jM af.ev u5) ((nP u4 u6).toNat) 1 (.row 3 1 (G7 u5 u7 u6 u4).length (KV u5 u7 u6 u4)))
abbrev OV:=((some ((nP u4 u6).toNat,1,CV.own 107 false (Ho u5 u6 u4).length)):Option (Nat × Nat × CV))
abbrev Ld:=((Gh u5 u7 u6 u4),(k3 u7))
end
theorem rW (p:aj) (s_:State):iQ Tryd.prog 26 (k19 s_ p) [] (fun r=>(vD (bE none 2 af.cell r))) (fun _=>[]) (bZ p s_):=
  jT tT mX Tryd.func26 (
  .rg {fr:=[(0,55),(1,56)],fz:=[56]} []<| .rg {an:=[(0, .map 0 (nk (aD .i64) ([]:(List (Int × Int)))) (nM (aD .i64) ([]:(List (Int × Int)))) [])],fr:=[(0,57),(2,58)]} []<| .cl 2 (jP p s_) fun r_=> .r<| .cl 0 (Rb r_) fun v0=> .rf 59 [5] [] none 0 []<| .r<| .im (.Pv 7 60 49 2 (jM af.ev ([]:List af)))<| .rg {an:=[(0, .map 0 (nk (aD .i64) ([]:(List (Int × Int)))) (nM (aD .i64) ([]:(List (Int × Int)))) [])],fr:=[(0,61)]} []<| .r<| .lp (σ:=((List af) × (List (Int × Int)) × Int)) (β:=((List af) × (List (Int × Int)))) (([]:List af),([]:(List (Int × Int))),0) [] [] ⟨[2,3,5,8,31],[55,57,58],fun(u1,u2,u3)=>[(7,(vO 60 false u1.length)),(32,(vI u3))],fun(u1,u2,u3)=>(PK u1 u2)⟩ ⟨[2,3,5,8],[55,57,58],fun(u9,u4)=>[(7,(vO 60 false u9.length))],fun(u9,u4)=>(PK u9 u4)⟩
  (fun(u1,u2,u3)=> .r<| .it (.r<| .a1 (PS u3 s_)<| .r<| .it (.r<| .e (.next (u1,u2,(k3 u3))))
  (.cr 2 (qH [(0,57)] (aN v0 u3)) fun u0=> .r<| .rg {an:=[(2, .look (aJ bB u0 u2).isSome (wY u2 u0))]} [.pf ⟨d9 [some .i64] 1 1 u2.length (nk (aD .i64) u2) (nM (aD .i64) u2) [(.int .i64 u0)] [(.d (.int .i64 0))] (aJ bB u0 u2).isSome (wY u2 u0),cZ (fun _=>rfl) (fun _ _=>rfl) u2 u0 0 rfl rfl rfl⟩]<| .r<| .it (.rg {an:=[(4, .map (Ab u1 u2 u0).length (He u1 u2 u0) (Hl u1 u2 u0) [])]} [.pf ⟨jr [some .i64] 1 1 u2.length (nk (aD .i64) u2) (nM (aD .i64) u2) [(.int .i64 u0)] [(cI (u1.length:Int))] [] (Ab u1 u2 u0).length (He u1 u2 u0) (Hl u1 u2 u0),pQ (fun _=>rfl) (fun _ _=>rfl) u2 u0 (u1.length:Int) rfl rfl⟩]<| .a2 (PV u1) (PU u1)<| .rg {an:=[(2, .arr [(⟨([]:List Int),([]:List Int)⟩:af)].length (jy 2 [nS,nS])),(3, .rows (zH u1).length (Kk u1))],fr:=[(2,86),(3,87)]} [.pf ⟨[(⟨([]:List Int),([]:List Int)⟩:af)].length=1,rfl⟩, .pf ⟨aH 1 2 (jy 2 [nS,nS]) (jy 2 [nS,nS]),iR _ _ _⟩, .e (u1.length),0,1, .pf ⟨(zH u1).length=u1.length+[(⟨([]:List Int),([]:List Int)⟩:af)].length,List.length_append⟩, .pf ⟨om u1.length [(⟨([]:List Int),([]:List Int)⟩:af)].length 2 (jM af.ev u1) (jy 2 [nS,nS]) (Kk u1),wV _ _ _ _ _ (by intro i hi j hj;match i,j,hi,hj with|0,0,_,_=>exact⟨rfl,_,_,_,rfl⟩|0,1,_,_=>exact⟨rfl,_,_,_,rfl⟩)⟩]<| .rg {an:=[(2, .look (JP u1 u2 u0).isSome (LU u1 u2 u0))]} [.pf ⟨d9 [some .i64] 1 1 (Ab u1 u2 u0).length (He u1 u2 u0) (Hl u1 u2 u0) [(.int .i64 u0)] [(.d (.int .i64 0))] (JP u1 u2 u0).isSome (LU u1 u2 u0),cZ (fun _=>rfl) (fun _ _=>rfl) (Ab u1 u2 u0) u0 0 rfl rfl rfl⟩]<| .a3 (PG u1 u2 u0) (PY u1 u2 u3 u0) (PZ u1 u2 u3 u0)<| .rg {an:=[(6, .take 88),(8, .arr [u3].length (aC (aD .i64) [u3])),(9, .arr (Hq u1 u2 u3 u0).length (JV u1 u2 u3 u0)),(12, .rows 0 (Lr u1 u2 u3 u0))],fr:=[(8,89),(9,90)]} [0, .t 0 (BQ u1 u2 u0) (LP u1), .pf ⟨[u3].length=1,rfl⟩, .pf ⟨aH 1 1 (Hr u3) (aC (aD .i64) [u3]),(by intro i hi j hj;match i,j,hi,hj with|0,0,_,_=>rfl)⟩, .e (Qe u1 u2 u0),1,2, .pf ⟨(Hq u1 u2 u3 u0).length=(Hf u1 u2 u0).length+[u3].length,List.length_append⟩, .pf ⟨aH (OL u1 u2 u3 u0) 1 (Qm u1 u2 u3 u0) (JV u1 u2 u3 u0),dm _ _ _ _⟩,0, .t 0 (BQ u1 u2 u0) (LP u1), .e (PW u1 u2 u3 u0), .pf ⟨sU (zH u1).length 2 (PE u1 u2 u3 u0) (Lr u1 u2 u3 u0),gJ _ _ _ _ _ _ _ _ rfl (fun j hj=>(match j,hj with|0,_=>rfl|1,_=>rfl))⟩, .pf ⟨∀i0 j0 c0,(QW u1 u2 u0)=some (i0,j0,c0)→i0=(BQ u1 u2 u0).toNat∧j0=0,(fun i0 j0 c0 e=>by cases e;exact⟨rfl,rfl⟩)⟩]<| .im (.ll 87 (zH u1) (Nc u1 u2 u3 u0))<| .r<| .en (.next (P7 u1 u2 u3 u0)) [] [(87,60)])
  (.rg {an:=[(2, .look (aJ bB u0 u2).isSome (wY u2 u0))]} [.pf ⟨d9 [some .i64] 1 1 u2.length (nk (aD .i64) u2) (nM (aD .i64) u2) [(.int .i64 u0)] [(.d (.int .i64 0))] (aJ bB u0 u2).isSome (wY u2 u0),cZ (fun _=>rfl) (fun _ _=>rfl) u2 u0 0 rfl rfl rfl⟩]<| .a3 (LF u1 u2 u0) (Qa u1 u2 u3 u0) (Qi u1 u2 u3 u0)<| .rg {an:=[(6, .take 91),(8, .arr [u3].length (aC (aD .i64) [u3])),(9, .arr (G8 u1 u2 u3 u0).length (K3 u1 u2 u3 u0)),(12, .rows 0 (LJ u1 u2 u3 u0))],fr:=[(8,92),(9,93)]} [0, .t 0 (nP u2 u0) u1.length, .pf ⟨[u3].length=1,rfl⟩, .pf ⟨aH 1 1 (Hr u3) (aC (aD .i64) [u3]),(by intro i hi j hj;match i,j,hi,hj with|0,0,_,_=>rfl)⟩, .e (Pz u1 u2 u0),1,2, .pf ⟨(G8 u1 u2 u3 u0).length=(G9 u1 u2 u0).length+[u3].length,List.length_append⟩, .pf ⟨aH (Pf u1 u2 u3 u0) 1 (PD u1 u2 u3 u0) (K3 u1 u2 u3 u0),dm _ _ _ _⟩,0, .t 0 (nP u2 u0) u1.length, .e (P9 u1 u2 u3 u0), .pf ⟨sU u1.length 2 (Pw u1 u2 u3 u0) (LJ u1 u2 u3 u0),gJ _ _ _ _ _ _ _ _ rfl (fun j hj=>(match j,hj with|0,_=>rfl|1,_=>rfl))⟩, .pf ⟨∀i0 j0 c0,(Q6 u1 u2 u0)=some (i0,j0,c0)→i0=(nP u2 u0).toNat∧j0=0,(fun i0 j0 c0 e=>by cases e;exact⟨rfl,rfl⟩)⟩]<| .im (.ll 60 u1 (M9 u1 u2 u3 u0))<| .r<| .e (.next (Px u1 u2 u3 u0)))))
  (.e (.done (.brk (u1,u2)))))
  (fun(u9,u4)=> .r<| .lp (σ:=((List af) × Int)) (β:=(List af)) (u9,0) [] [] ⟨[3,5,8,76,77],[57,58,61],fun(u5,u7)=>[(7,(vO 60 false u5.length)),(78,(vI u7))],fun(u5,u7)=>(Qf u5)⟩ ⟨[],[],fun u8=>[(7,(vO 60 false u8.length))],fun u8=>(Qf u8)⟩
  (fun(u5,u7)=> .r<| .it (.a1 (NE u7 p)<| .rg {fr:=[(3,106)],fz:=[106]} []<| .a3 (Pt s_ u7) (Ql s_ u7) (Qg s_ u7 p)<| .rg {} [0,1,2]<| .it (.cr 4 (qH [(0,57)] (aN v0 (ES u7 p))) fun u6=> .rg {an:=[(5, .look (aJ bB u6 u4).isSome (wY u4 u6))]} [0, .pf ⟨d9 [some .i64] 1 1 u4.length (nk (aD .i64) u4) (nM (aD .i64) u4) [(.int .i64 u6)] [(.d (.int .i64 0))] (aJ bB u6 u4).isSome (wY u4 u6),cZ (fun _=>rfl) (fun _ _=>rfl) u4 u6 0 rfl rfl rfl⟩]<| .a3 (LF u5 u4 u6) (Qd u5 u7 u6 u4) (PO u5 u7 u6 u4)<| .rg {an:=[(6, .take 107),(8, .arr [u7].length (aC (aD .i64) [u7])),(9, .arr (G7 u5 u7 u6 u4).length (KV u5 u7 u6 u4)),(12, .rows 0 (LC u5 u7 u6 u4))],fr:=[(8,108),(9,109)]} [0, .t 0 (nP u4 u6) u5.length, .pf ⟨[u7].length=1,rfl⟩, .pf ⟨aH 1 1 (Hr u7) (aC (aD .i64) [u7]),(by intro i hi j hj;match i,j,hi,hj with|0,0,_,_=>rfl)⟩, .e (KD u5 u6 u4),1,2, .pf ⟨(G7 u5 u7 u6 u4).length=(Ho u5 u6 u4).length+[u7].length,List.length_append⟩, .pf ⟨aH (OE u5 u7 u6 u4) 1 (KA u5 u7 u6 u4) (KV u5 u7 u6 u4),dm _ _ _ _⟩,0, .t 0 (nP u4 u6) u5.length, .e (JS u5 u7 u6 u4), .pf ⟨sU u5.length 2 (KR u5 u7 u6 u4) (LC u5 u7 u6 u4),gJ _ _ _ _ _ _ _ _ rfl (fun j hj=>(match j,hj with|0,_=>rfl|1,_=>rfl))⟩, .pf ⟨∀i0 j0 c0,(OV u5 u6 u4)=some (i0,j0,c0)→i0=(nP u4 u6).toNat∧j0=1,(fun i0 j0 c0 e=>by cases e;exact⟨rfl,rfl⟩)⟩]<| .im (.ll 60 u5 (Gh u5 u7 u6 u4))<| .r<| .e (.next (Ld u5 u7 u6 u4)))
  (.r<| .e (.next (u5,(k3 u7)))))
  (.e (.done (.brk u5))))
  (fun u8=> .rg {fz:=[60]} []<| .im (.us 4 (vD (.sl none 2 u8.length (fun i j=>Na (jM af.ev u8 i j)))) (vD (bE none 2 af.cell u8)) (uR.v (uS.one (mI.d (kD.sl (.inr rfl) (fun i _ j hj=>match j,hj with|0,_=> .refl _|1,_=> .refl _))))))<| .e u8)))
theorem rT (p:aj) (s_:State):iQ Tryd.prog 9 (k19 s_ p) [] (fun r=>(.gK [(sD (bE none 2 af.cell r.1)),(sI r.2)])) (fun _=>[]) (eU p s_):=
  jT tT mX Tryd.func9 (
  .rg {fr:=[(0,2),(1,3)],fz:=[2,3]} []<| .cl 2 (bA p s_) fun r_=> .r<| .r<| .it (.r<| .e (([]:List af),r_))
  (.cl 2 (rW p s_) fun u0=> .r<| .e (u0,0)))
theorem kr (s_:(List Bool)) (u0:Bool):iQ Tryd.prog 71 [(sD (bE (some u0) 1 ah s_))] [] (fun r=>(vO 0 false r.length)) (fun r=>[(0,some (gZ 4 1 ah r))]) (o8 s_ u0):=
  jT tT mX Tryd.func71 (
  .r<| .r<| .it (.r<| .im (.ad 2 2 4 1 (aC ah ([]:List Bool)))<| .en ([]:List Bool) [] [(2,0)])
  (.a2 ((([]:List Bool).length+s_.length)*1≤140737488355328) (([]:List Bool).length+s_.length≤4611686018427387904)<| .rg {an:=[(0, .arr ([]:List Bool).length (aC ah ([]:List Bool))),(2, .arr (([]:List Bool)++s_).length (aC ah (([]:List Bool)++s_)))],fr:=[(0,3),(2,4)]} [.pf ⟨([]:List Bool).length=0,rfl⟩, .pf ⟨aH 0 1 (jy 1 []) (aC ah ([]:List Bool)),(fun i hi=>absurd hi (Nat.not_lt_zero i))⟩, .e (([]:List Bool).length),0,1, .pf ⟨(([]:List Bool)++s_).length=([]:List Bool).length+s_.length,List.length_append⟩, .pf ⟨aH (([]:List Bool).length+s_.length) 1 (yx (aC ah ([]:List Bool)) ([]:List Bool).length (aC ah s_)) (aC ah (([]:List Bool)++s_)),dm _ _ _ _⟩]<| .en (([]:List Bool)++s_) [] [(4,0)]))
theorem bG (s:(List Bool)) {r:(List Bool)} (h:cO s=some r):Fn Tryd.prog 71 [(sD (bE none 1 ah s))] [] (vO 0 false r.length) [(0,some (gZ 4 1 ah r))]:=by
 refine Fn.nn (kr s true h) fun hl=> ?_
 have hs:s=[]:=List.eq_nil_of_length_eq_zero hl
 subst hs
 exact kr [] false (by rw [←h];kernel_rfl)
section
variable (s_:State)
abbrev QF:List SV:=[(.agg (k20 s_))]
end
theorem qd (s_:State):iQ Tryd.prog 54 (QF s_) [] (fun r=>(.v (.agg [(.own 0 false r.closed.length),(.own 1 false r.locked.length),(.own 2 false r.badLink.length),(.own 3 false r.on_.length),(.own 4 false r.badSource.length),(.own 5 false r.earthed.length),(.own 6 false r.badBus.length)]))) (fun r=>[(0,some (gZ 4 1 ah r.closed)),(1,some (gZ 4 1 ah r.locked)),(2,some (gZ 4 1 ah r.badLink)),(3,some (gZ 4 1 ah r.on_)),(4,some (gZ 4 1 ah r.badSource)),(5,some (gZ 4 1 ah r.earthed)),(6,some (gZ 4 1 ah r.badBus)),(7,none)]) (qi s_):=
  jT tT mX Tryd.func54 (
  .rg {fr:=[(0,10),(1,11)]} []<| .rg {an:=[(7, .cells)],fr:=[(7,12)]} []<| .ul 11<| .r<| .t<| .a1 ((0:Int)≤0∧0<(7:Int))<| .r<| .cl 4 (qH [(0,13)] ⟨fun h=>bG s_.closed h⟩) fun r_=> .r<| .r<| .im (.dp [1,2,12,13,14])<| .r<| .t<| .a1 ((0:Int)≤1∧1<(7:Int))<| .r<| .cl 4 (qH [(0,14)] ⟨fun h=>bG s_.locked h⟩) fun u0=> .r<| .r<| .im (.dp [1,2,12,13,14])<| .r<| .t<| .a1 ((0:Int)≤2∧2<(7:Int))<| .r<| .cl 4 (qH [(0,15)] ⟨fun h=>bG s_.badLink h⟩) fun u1=> .r<| .r<| .im (.dp [1,2,12,13,14])<| .r<| .t<| .a1 ((0:Int)≤3∧3<(7:Int))<| .r<| .cl 4 (qH [(0,16)] ⟨fun h=>bG s_.on_ h⟩) fun u2=> .r<| .r<| .im (.dp [1,2,12,13,14])<| .r<| .t<| .a1 ((0:Int)≤4∧4<(7:Int))<| .r<| .cl 4 (qH [(0,17)] ⟨fun h=>bG s_.badSource h⟩) fun u3=> .r<| .r<| .im (.dp [1,2,12,13,14])<| .r<| .t<| .a1 ((0:Int)≤5∧5<(7:Int))<| .r<| .cl 4 (qH [(0,18)] ⟨fun h=>bG s_.earthed h⟩) fun u4=> .r<| .r<| .im (.dp [1,2,12,13,14])<| .r<| .t<| .a1 ((0:Int)≤6∧6<(7:Int))<| .r<| .cl 4 (qH [(0,19)] ⟨fun h=>bG s_.badBus h⟩) fun u5=> .r<| .r<| .im (.dp [1,2,12,13,14])<| .r<| .f<| .r<| .en (⟨r_,u0,u1,u2,u3,u4,u5⟩:State) [] [(13,0),(14,1),(15,2),(16,3),(17,4),(18,5),(19,6),(11,7)])
section
variable (p:aj) (s_:State) (x:Part) (is:Bool) (r_:Int) (u0:State)
abbrev Qs:List SV:=[(.agg (k1 p)),(.agg (k20 s_)),(.agg [(cI x.kind),(cI x.index)]),(sB is)]
abbrev Pp:=((⟨([]:List Bool),([]:List Bool),([]:List Bool),([]:List Bool),([]:List Bool),([]:List Bool),([]:List Bool)⟩:State),r_)
abbrev Eb:List CV:=[(.own 23 false u0.badBus.length)]
abbrev wU:=(IX 1 (Eb u0))
abbrev uV:List DV:=[(.int .i64 1),(.int .i64 2)]
abbrev wO:=(IX 1 [(.own 23 false u0.badBus.length),(.own 21 false u0.badSource.length)])
abbrev wP:List DV:=[(.int .i64 1),(.int .i64 2),(.int .i64 3)]
abbrev wR:=(IX 1 [(.own 23 false u0.badBus.length),(.own 21 false u0.badSource.length),(.own 19 false u0.badLink.length)])
abbrev Gn:List CV:=[(.own 21 false u0.badSource.length)]
abbrev Gx:List CV:=[(.own 19 false u0.badLink.length)]
abbrev O5:=(aC ah (u0.badBus.set x.index.toNat is))
abbrev QM:=(⟨u0.closed,u0.locked,u0.badLink,u0.on_,u0.badSource,u0.earthed,(u0.badBus.set x.index.toNat is)⟩:State)
abbrev Nq:=(aC ah (u0.badSource.set x.index.toNat is))
abbrev QV:=(⟨u0.closed,u0.locked,u0.badLink,u0.on_,(u0.badSource.set x.index.toNat is),u0.earthed,u0.badBus⟩:State)
abbrev Np:=(aC ah (u0.badLink.set x.index.toNat is))
abbrev QS:=(⟨u0.closed,u0.locked,(u0.badLink.set x.index.toNat is),u0.on_,u0.badSource,u0.earthed,u0.badBus⟩:State)
end
theorem tu (p:aj) (s_:State) (x:Part) (is:Bool):iQ Tryd.prog 27 (Qs p s_ x is) [] (fun r=>(.gK [(.agg [(.d (bE none 1 ah r.1.closed)),(.d (bE none 1 ah r.1.locked)),(.d (bE none 1 ah r.1.badLink)),(.d (bE none 1 ah r.1.on_)),(.d (bE none 1 ah r.1.badSource)),(.d (bE none 1 ah r.1.earthed)),(.d (bE none 1 ah r.1.badBus))]),(sI r.2)])) (fun _=>[]) (qg p s_ x is):=
  jT tT mX Tryd.func27 (
  .rg {fr:=[(0,13),(1,14),(2,15),(3,16)],fz:=[13]} []<| .cl 2 (bA p s_) fun r_=> .r<| .r<| .it (.rg {fz:=[16]} []<| .e (Pp r_))
  (.cl 1 (qH [(0,17),(1,18),(2,19),(3,20),(4,21),(5,22),(6,23),(7,24)] (qd s_)) fun u0=> .r<| .fk (bB x.kind 1) (.rg {an:=[(0, .map 0 (l7 []) (IX 1 []) []),(3, .map 1 (l7 [(.int .i64 1)]) (wU u0) [23]),(6, .map 2 (l7 uV) (wO u0) [23,21]),(9, .map 3 (l7 wP) (wR u0) [23,21,19]),(13, .look true (Eb u0))],fr:=[(0,25)]} [.pf ⟨jr [some .i64] 1 1 0 (l7 []) (IX 1 []) [(.int .i64 1)] (Eb u0) [23] 1 (l7 [(.int .i64 1)]) (wU u0),⟨(fun i hi=>absurd hi (Nat.not_lt_zero i)),(by intro i hi j hj;match i,j,hi,hj with|0,0,_,_=>exact aV.1 (show dw (CV.aX (.own 23 false u0.badBus.length)) [23]=true from by kernel_rfl)),0,(fun i hi=>absurd hi (Nat.not_lt_zero i)), .inr ⟨rfl,rfl⟩,rfl,rfl,(fun i hi=>absurd hi (Nat.not_lt_zero i))⟩⟩, .pf ⟨jr [some .i64] 1 1 1 (l7 [(.int .i64 1)]) (wU u0) [(.int .i64 2)] (Gn u0) [23,21] 2 (l7 uV) (wO u0),⟨(by intro i hi;match i,hi with|0,_=>rfl),(by intro i hi j hj;match i,j,hi,hj with|0,0,_,_=>exact aV.1 (show dw (CV.aX (.own 23 false u0.badBus.length)) [23,21]=true from by kernel_rfl)|1,0,_,_=>exact aV.1 (show dw (CV.aX (.own 21 false u0.badSource.length)) [23,21]=true from by kernel_rfl)),1,(by intro i hi;match i,hi with|0,_=>rfl), .inr ⟨rfl,rfl⟩,rfl,rfl,(by intro i hi;match i,hi with|0,_=>exact fun _=> ⟨rfl,rfl⟩)⟩⟩, .pf ⟨jr [some .i64] 1 1 2 (l7 uV) (wO u0) [(.int .i64 3)] (Gx u0) [23,21,19] 3 (l7 wP) (wR u0),⟨(by intro i hi;match i,hi with|0,_=>rfl|1,_=>rfl),(by intro i hi j hj;match i,j,hi,hj with|0,0,_,_=>exact aV.1 (show dw (CV.aX (.own 23 false u0.badBus.length)) [23,21,19]=true from by kernel_rfl)|1,0,_,_=>exact aV.1 (show dw (CV.aX (.own 21 false u0.badSource.length)) [23,21,19]=true from by kernel_rfl)|2,0,_,_=>exact aV.1 (show dw (CV.aX (.own 19 false u0.badLink.length)) [23,21,19]=true from by kernel_rfl)),2,(by intro i hi;match i,hi with|0,_=>rfl|1,_=>rfl), .inr ⟨rfl,rfl⟩,rfl,rfl,(by intro i hi;match i,hi with|0,_=>exact fun _=> ⟨rfl,rfl⟩|1,_=>exact fun _=> ⟨rfl,rfl⟩)⟩⟩, .m [0] [(bB x.kind 1)=true] (d9 [some .i64] 1 1 3 (l7 wP) (wR u0) [(.int .i64 x.kind)] [(.d nS)] true (Eb u0)) (fun⟨hb1,_⟩=> ⟨(by intro i hi;match i,hi with|0,_=>rfl|1,_=>rfl|2,_=>rfl), .inl ⟨rfl,0,by decide,congrArg some hb1,(fun i hi=>absurd hi (Nat.not_lt_zero i)),rfl⟩⟩)]<| .cl 5 (aA x.index 0 (IntKind.wrap .i64 ((u0.badBus.length:Int) - 1))) fun u1=> .r<| .it (.rg {fz:=[16]} []<| .e ((⟨([]:List Bool),([]:List Bool),([]:List Bool),([]:List Bool),([]:List Bool),([]:List Bool),([]:List Bool)⟩:State),14))
  (.a1 ((0:Int)≤x.index∧x.index<(u0.badBus.length:Int))<| .rg {an:=[(5, .arr 0 (O5 x is u0))]} [0, .t 0 x.index u0.badBus.length, .pf ⟨aH u0.badBus.length 1 (jQ (aC ah u0.badBus) x.index.toNat 0 [(.bool is)]) (O5 x is u0),cK _ _ _ _ _ _ _ _ rfl (fun j hj=>(match j,hj with|0,_=>rfl))⟩]<| .im (.ll 23 u0.badBus (u0.badBus.set x.index.toNat is))<| .rg {fz:=[17,18,19,20,21,22,23]} []<| .fz [16]<| .e ((QM x is u0),0)))
  (.fk (bB x.kind 2) (.rg {an:=[(0, .map 0 (l7 []) (IX 1 []) []),(3, .map 1 (l7 [(.int .i64 1)]) (wU u0) [23]),(6, .map 2 (l7 uV) (wO u0) [23,21]),(9, .map 3 (l7 wP) (wR u0) [23,21,19]),(13, .look true (Gn u0))],fr:=[(0,25)]} [.pf ⟨jr [some .i64] 1 1 0 (l7 []) (IX 1 []) [(.int .i64 1)] (Eb u0) [23] 1 (l7 [(.int .i64 1)]) (wU u0),⟨(fun i hi=>absurd hi (Nat.not_lt_zero i)),(by intro i hi j hj;match i,j,hi,hj with|0,0,_,_=>exact aV.1 (show dw (CV.aX (.own 23 false u0.badBus.length)) [23]=true from by kernel_rfl)),0,(fun i hi=>absurd hi (Nat.not_lt_zero i)), .inr ⟨rfl,rfl⟩,rfl,rfl,(fun i hi=>absurd hi (Nat.not_lt_zero i))⟩⟩, .pf ⟨jr [some .i64] 1 1 1 (l7 [(.int .i64 1)]) (wU u0) [(.int .i64 2)] (Gn u0) [23,21] 2 (l7 uV) (wO u0),⟨(by intro i hi;match i,hi with|0,_=>rfl),(by intro i hi j hj;match i,j,hi,hj with|0,0,_,_=>exact aV.1 (show dw (CV.aX (.own 23 false u0.badBus.length)) [23,21]=true from by kernel_rfl)|1,0,_,_=>exact aV.1 (show dw (CV.aX (.own 21 false u0.badSource.length)) [23,21]=true from by kernel_rfl)),1,(by intro i hi;match i,hi with|0,_=>rfl), .inr ⟨rfl,rfl⟩,rfl,rfl,(by intro i hi;match i,hi with|0,_=>exact fun _=> ⟨rfl,rfl⟩)⟩⟩, .pf ⟨jr [some .i64] 1 1 2 (l7 uV) (wO u0) [(.int .i64 3)] (Gx u0) [23,21,19] 3 (l7 wP) (wR u0),⟨(by intro i hi;match i,hi with|0,_=>rfl|1,_=>rfl),(by intro i hi j hj;match i,j,hi,hj with|0,0,_,_=>exact aV.1 (show dw (CV.aX (.own 23 false u0.badBus.length)) [23,21,19]=true from by kernel_rfl)|1,0,_,_=>exact aV.1 (show dw (CV.aX (.own 21 false u0.badSource.length)) [23,21,19]=true from by kernel_rfl)|2,0,_,_=>exact aV.1 (show dw (CV.aX (.own 19 false u0.badLink.length)) [23,21,19]=true from by kernel_rfl)),2,(by intro i hi;match i,hi with|0,_=>rfl|1,_=>rfl), .inr ⟨rfl,rfl⟩,rfl,rfl,(by intro i hi;match i,hi with|0,_=>exact fun _=> ⟨rfl,rfl⟩|1,_=>exact fun _=> ⟨rfl,rfl⟩)⟩⟩, .m [0,1] [(bB x.kind 2)=true,(bB x.kind 1)=false] (d9 [some .i64] 1 1 3 (l7 wP) (wR u0) [(.int .i64 x.kind)] [(.d nS)] true (Gn u0)) (fun⟨hb3,hb1,_⟩=> ⟨(by intro i hi;match i,hi with|0,_=>rfl|1,_=>rfl|2,_=>rfl), .inl ⟨rfl,1,by decide,congrArg some hb3,(by intro i hi;match i,hi with|0,_=>exact congrArg some hb1),rfl⟩⟩)]<| .cl 5 (aA x.index 0 (IntKind.wrap .i64 ((u0.badSource.length:Int) - 1))) fun u2=> .r<| .it (.rg {fz:=[16]} []<| .e ((⟨([]:List Bool),([]:List Bool),([]:List Bool),([]:List Bool),([]:List Bool),([]:List Bool),([]:List Bool)⟩:State),14))
  (.a1 ((0:Int)≤x.index∧x.index<(u0.badSource.length:Int))<| .rg {an:=[(5, .arr 0 (Nq x is u0))]} [0, .t 0 x.index u0.badSource.length, .pf ⟨aH u0.badSource.length 1 (jQ (aC ah u0.badSource) x.index.toNat 0 [(.bool is)]) (Nq x is u0),cK _ _ _ _ _ _ _ _ rfl (fun j hj=>(match j,hj with|0,_=>rfl))⟩]<| .im (.ll 21 u0.badSource (u0.badSource.set x.index.toNat is))<| .rg {fz:=[17,18,19,20,21,22,23]} []<| .fz [16]<| .e ((QV x is u0),0)))
  (.fk (bB x.kind 3) (.rg {an:=[(0, .map 0 (l7 []) (IX 1 []) []),(3, .map 1 (l7 [(.int .i64 1)]) (wU u0) [23]),(6, .map 2 (l7 uV) (wO u0) [23,21]),(9, .map 3 (l7 wP) (wR u0) [23,21,19]),(13, .look true (Gx u0))],fr:=[(0,25)]} [.pf ⟨jr [some .i64] 1 1 0 (l7 []) (IX 1 []) [(.int .i64 1)] (Eb u0) [23] 1 (l7 [(.int .i64 1)]) (wU u0),⟨(fun i hi=>absurd hi (Nat.not_lt_zero i)),(by intro i hi j hj;match i,j,hi,hj with|0,0,_,_=>exact aV.1 (show dw (CV.aX (.own 23 false u0.badBus.length)) [23]=true from by kernel_rfl)),0,(fun i hi=>absurd hi (Nat.not_lt_zero i)), .inr ⟨rfl,rfl⟩,rfl,rfl,(fun i hi=>absurd hi (Nat.not_lt_zero i))⟩⟩, .pf ⟨jr [some .i64] 1 1 1 (l7 [(.int .i64 1)]) (wU u0) [(.int .i64 2)] (Gn u0) [23,21] 2 (l7 uV) (wO u0),⟨(by intro i hi;match i,hi with|0,_=>rfl),(by intro i hi j hj;match i,j,hi,hj with|0,0,_,_=>exact aV.1 (show dw (CV.aX (.own 23 false u0.badBus.length)) [23,21]=true from by kernel_rfl)|1,0,_,_=>exact aV.1 (show dw (CV.aX (.own 21 false u0.badSource.length)) [23,21]=true from by kernel_rfl)),1,(by intro i hi;match i,hi with|0,_=>rfl), .inr ⟨rfl,rfl⟩,rfl,rfl,(by intro i hi;match i,hi with|0,_=>exact fun _=> ⟨rfl,rfl⟩)⟩⟩, .pf ⟨jr [some .i64] 1 1 2 (l7 uV) (wO u0) [(.int .i64 3)] (Gx u0) [23,21,19] 3 (l7 wP) (wR u0),⟨(by intro i hi;match i,hi with|0,_=>rfl|1,_=>rfl),(by intro i hi j hj;match i,j,hi,hj with|0,0,_,_=>exact aV.1 (show dw (CV.aX (.own 23 false u0.badBus.length)) [23,21,19]=true from by kernel_rfl)|1,0,_,_=>exact aV.1 (show dw (CV.aX (.own 21 false u0.badSource.length)) [23,21,19]=true from by kernel_rfl)|2,0,_,_=>exact aV.1 (show dw (CV.aX (.own 19 false u0.badLink.length)) [23,21,19]=true from by kernel_rfl)),2,(by intro i hi;match i,hi with|0,_=>rfl|1,_=>rfl), .inr ⟨rfl,rfl⟩,rfl,rfl,(by intro i hi;match i,hi with|0,_=>exact fun _=> ⟨rfl,rfl⟩|1,_=>exact fun _=> ⟨rfl,rfl⟩)⟩⟩, .m [0,2,1] [(bB x.kind 3)=true,(bB x.kind 1)=false,(bB x.kind 2)=false] (d9 [some .i64] 1 1 3 (l7 wP) (wR u0) [(.int .i64 x.kind)] [(.d nS)] true (Gx u0)) (fun⟨hb5,hb1,hb3,_⟩=> ⟨(by intro i hi;match i,hi with|0,_=>rfl|1,_=>rfl|2,_=>rfl), .inl ⟨rfl,2,by decide,congrArg some hb5,(by intro i hi;match i,hi with|0,_=>exact congrArg some hb1|1,_=>exact congrArg some hb3),rfl⟩⟩)]<| .cl 5 (aA x.index 0 (IntKind.wrap .i64 ((u0.badLink.length:Int) - 1))) fun u3=> .r<| .it (.rg {fz:=[16]} []<| .e ((⟨([]:List Bool),([]:List Bool),([]:List Bool),([]:List Bool),([]:List Bool),([]:List Bool),([]:List Bool)⟩:State),14))
  (.a1 ((0:Int)≤x.index∧x.index<(u0.badLink.length:Int))<| .rg {an:=[(5, .arr 0 (Np x is u0))]} [0, .t 0 x.index u0.badLink.length, .pf ⟨aH u0.badLink.length 1 (jQ (aC ah u0.badLink) x.index.toNat 0 [(.bool is)]) (Np x is u0),cK _ _ _ _ _ _ _ _ rfl (fun j hj=>(match j,hj with|0,_=>rfl))⟩]<| .im (.ll 19 u0.badLink (u0.badLink.set x.index.toNat is))<| .rg {fz:=[17,18,19,20,21,22,23]} []<| .fz [16]<| .e ((QS x is u0),0)))
  (.rg {an:=[(0, .map 0 (l7 []) (IX 1 []) []),(3, .map 1 (l7 [(.int .i64 1)]) (wU u0) [23]),(6, .map 2 (l7 uV) (wO u0) [23,21]),(9, .map 3 (l7 wP) (wR u0) [23,21,19]),(13, .look false [(.d nS)])],fr:=[(0,25)]} [.pf ⟨jr [some .i64] 1 1 0 (l7 []) (IX 1 []) [(.int .i64 1)] (Eb u0) [23] 1 (l7 [(.int .i64 1)]) (wU u0),⟨(fun i hi=>absurd hi (Nat.not_lt_zero i)),(by intro i hi j hj;match i,j,hi,hj with|0,0,_,_=>exact aV.1 (show dw (CV.aX (.own 23 false u0.badBus.length)) [23]=true from by kernel_rfl)),0,(fun i hi=>absurd hi (Nat.not_lt_zero i)), .inr ⟨rfl,rfl⟩,rfl,rfl,(fun i hi=>absurd hi (Nat.not_lt_zero i))⟩⟩, .pf ⟨jr [some .i64] 1 1 1 (l7 [(.int .i64 1)]) (wU u0) [(.int .i64 2)] (Gn u0) [23,21] 2 (l7 uV) (wO u0),⟨(by intro i hi;match i,hi with|0,_=>rfl),(by intro i hi j hj;match i,j,hi,hj with|0,0,_,_=>exact aV.1 (show dw (CV.aX (.own 23 false u0.badBus.length)) [23,21]=true from by kernel_rfl)|1,0,_,_=>exact aV.1 (show dw (CV.aX (.own 21 false u0.badSource.length)) [23,21]=true from by kernel_rfl)),1,(by intro i hi;match i,hi with|0,_=>rfl), .inr ⟨rfl,rfl⟩,rfl,rfl,(by intro i hi;match i,hi with|0,_=>exact fun _=> ⟨rfl,rfl⟩)⟩⟩, .pf ⟨jr [some .i64] 1 1 2 (l7 uV) (wO u0) [(.int .i64 3)] (Gx u0) [23,21,19] 3 (l7 wP) (wR u0),⟨(by intro i hi;match i,hi with|0,_=>rfl|1,_=>rfl),(by intro i hi j hj;match i,j,hi,hj with|0,0,_,_=>exact aV.1 (show dw (CV.aX (.own 23 false u0.badBus.length)) [23,21,19]=true from by kernel_rfl)|1,0,_,_=>exact aV.1 (show dw (CV.aX (.own 21 false u0.badSource.length)) [23,21,19]=true from by kernel_rfl)|2,0,_,_=>exact aV.1 (show dw (CV.aX (.own 19 false u0.badLink.length)) [23,21,19]=true from by kernel_rfl)),2,(by intro i hi;match i,hi with|0,_=>rfl|1,_=>rfl), .inr ⟨rfl,rfl⟩,rfl,rfl,(by intro i hi;match i,hi with|0,_=>exact fun _=> ⟨rfl,rfl⟩|1,_=>exact fun _=> ⟨rfl,rfl⟩)⟩⟩, .m [2,1,0] [(bB x.kind 1)=false,(bB x.kind 2)=false,(bB x.kind 3)=false] (d9 [some .i64] 1 1 3 (l7 wP) (wR u0) [(.int .i64 x.kind)] [(.d nS)] false [(.d nS)]) (fun⟨hb1,hb3,hb5,_⟩=> ⟨(by intro i hi;match i,hi with|0,_=>rfl|1,_=>rfl|2,_=>rfl), .inr ⟨rfl,(by intro i hi;match i,hi with|0,_=>exact congrArg some hb1|1,_=>exact congrArg some hb3|2,_=>exact congrArg some hb5),rfl⟩⟩)]<| .cl 5 (aA x.index 0 (-1)) fun u4=> .r<| .it (.rg {fz:=[16]} []<| .e ((⟨([]:List Bool),([]:List Bool),([]:List Bool),([]:List Bool),([]:List Bool),([]:List Bool),([]:List Bool)⟩:State),14))
  (.no))))))
theorem gN (p:aj) (s_:State):iQ Tryd.prog 26 (k19 s_ p) [] (fun r=>(vD (bE none 2 af.cell r))) (fun _=>[]) (bZ p s_):=
  jT tT mX Tryd.func26 (
  .rg {fr:=[(0,55),(1,56)],fz:=[56]} []<| .rg {an:=[(0, .map 0 (nk (aD .i64) ([]:(List (Int × Int)))) (nM (aD .i64) ([]:(List (Int × Int)))) [])],fr:=[(0,57),(2,58)]} []<| .cl 2 (jP p s_) fun r_=> .r<| .cl 0 (Rb r_) fun v0=> .rf 59 [5] [] none 0 []<| .r<| .im (.Pv 7 60 49 2 (jM af.ev ([]:List af)))<| .rg {an:=[(0, .map 0 (nk (aD .i64) ([]:(List (Int × Int)))) (nM (aD .i64) ([]:(List (Int × Int)))) [])],fr:=[(0,61)]} []<| .r<| .lp (σ:=((List af) × (List (Int × Int)) × Int)) (β:=((List af) × (List (Int × Int)))) (([]:List af),([]:(List (Int × Int))),0) [] [] ⟨[2,3,5,8,31],[55,57,58],fun(u1,u2,u3)=>[(7,(vO 60 false u1.length)),(32,(vI u3))],fun(u1,u2,u3)=>(PK u1 u2)⟩ ⟨[2,3,5,8],[55,57,58],fun(u9,u4)=>[(7,(vO 60 false u9.length))],fun(u9,u4)=>(PK u9 u4)⟩
  (fun(u1,u2,u3)=> .r<| .it (.r<| .a1 (PS u3 s_)<| .r<| .it (.r<| .e (.next (u1,u2,(k3 u3))))
  (.cr 2 (qH [(0,57)] (aN v0 u3)) fun u0=> .r<| .rg {an:=[(2, .look (aJ bB u0 u2).isSome (wY u2 u0))]} [.pf ⟨d9 [some .i64] 1 1 u2.length (nk (aD .i64) u2) (nM (aD .i64) u2) [(.int .i64 u0)] [(.d (.int .i64 0))] (aJ bB u0 u2).isSome (wY u2 u0),cZ (fun _=>rfl) (fun _ _=>rfl) u2 u0 0 rfl rfl rfl⟩]<| .r<| .it (.rg {an:=[(4, .map (Ab u1 u2 u0).length (He u1 u2 u0) (Hl u1 u2 u0) [])]} [.pf ⟨jr [some .i64] 1 1 u2.length (nk (aD .i64) u2) (nM (aD .i64) u2) [(.int .i64 u0)] [(cI (u1.length:Int))] [] (Ab u1 u2 u0).length (He u1 u2 u0) (Hl u1 u2 u0),pQ (fun _=>rfl) (fun _ _=>rfl) u2 u0 (u1.length:Int) rfl rfl⟩]<| .a2 (PV u1) (PU u1)<| .rg {an:=[(2, .arr [(⟨([]:List Int),([]:List Int)⟩:af)].length (jy 2 [nS,nS])),(3, .rows (zH u1).length (Kk u1))],fr:=[(2,86),(3,87)]} [.pf ⟨[(⟨([]:List Int),([]:List Int)⟩:af)].length=1,rfl⟩, .pf ⟨aH 1 2 (jy 2 [nS,nS]) (jy 2 [nS,nS]),iR _ _ _⟩, .e (u1.length),0,1, .pf ⟨(zH u1).length=u1.length+[(⟨([]:List Int),([]:List Int)⟩:af)].length,List.length_append⟩, .pf ⟨om u1.length [(⟨([]:List Int),([]:List Int)⟩:af)].length 2 (jM af.ev u1) (jy 2 [nS,nS]) (Kk u1),wV _ _ _ _ _ (by intro i hi j hj;match i,j,hi,hj with|0,0,_,_=>exact⟨rfl,_,_,_,rfl⟩|0,1,_,_=>exact⟨rfl,_,_,_,rfl⟩)⟩]<| .rg {an:=[(2, .look (JP u1 u2 u0).isSome (LU u1 u2 u0))]} [.pf ⟨d9 [some .i64] 1 1 (Ab u1 u2 u0).length (He u1 u2 u0) (Hl u1 u2 u0) [(.int .i64 u0)] [(.d (.int .i64 0))] (JP u1 u2 u0).isSome (LU u1 u2 u0),cZ (fun _=>rfl) (fun _ _=>rfl) (Ab u1 u2 u0) u0 0 rfl rfl rfl⟩]<| .a3 (PG u1 u2 u0) (PY u1 u2 u3 u0) (PZ u1 u2 u3 u0)<| .rg {an:=[(6, .take 88),(8, .arr [u3].length (aC (aD .i64) [u3])),(9, .arr (Hq u1 u2 u3 u0).length (JV u1 u2 u3 u0)),(12, .rows 0 (Lr u1 u2 u3 u0))],fr:=[(8,89),(9,90)]} [0, .t 0 (BQ u1 u2 u0) (LP u1), .pf ⟨[u3].length=1,rfl⟩, .pf ⟨aH 1 1 (Hr u3) (aC (aD .i64) [u3]),(by intro i hi j hj;match i,j,hi,hj with|0,0,_,_=>rfl)⟩, .e (Qe u1 u2 u0),1,2, .pf ⟨(Hq u1 u2 u3 u0).length=(Hf u1 u2 u0).length+[u3].length,List.length_append⟩, .pf ⟨aH (OL u1 u2 u3 u0) 1 (Qm u1 u2 u3 u0) (JV u1 u2 u3 u0),dm _ _ _ _⟩,0, .t 0 (BQ u1 u2 u0) (LP u1), .e (PW u1 u2 u3 u0), .pf ⟨sU (zH u1).length 2 (PE u1 u2 u3 u0) (Lr u1 u2 u3 u0),gJ _ _ _ _ _ _ _ _ rfl (fun j hj=>(match j,hj with|0,_=>rfl|1,_=>rfl))⟩, .pf ⟨∀i0 j0 c0,(QW u1 u2 u0)=some (i0,j0,c0)→i0=(BQ u1 u2 u0).toNat∧j0=0,(fun i0 j0 c0 e=>by cases e;exact⟨rfl,rfl⟩)⟩]<| .im (.ll 87 (zH u1) (Nc u1 u2 u3 u0))<| .r<| .en (.next (P7 u1 u2 u3 u0)) [] [(87,60)])
  (.rg {an:=[(2, .look (aJ bB u0 u2).isSome (wY u2 u0))]} [.pf ⟨d9 [some .i64] 1 1 u2.length (nk (aD .i64) u2) (nM (aD .i64) u2) [(.int .i64 u0)] [(.d (.int .i64 0))] (aJ bB u0 u2).isSome (wY u2 u0),cZ (fun _=>rfl) (fun _ _=>rfl) u2 u0 0 rfl rfl rfl⟩]<| .a3 (LF u1 u2 u0) (Qa u1 u2 u3 u0) (Qi u1 u2 u3 u0)<| .rg {an:=[(6, .take 91),(8, .arr [u3].length (aC (aD .i64) [u3])),(9, .arr (G8 u1 u2 u3 u0).length (K3 u1 u2 u3 u0)),(12, .rows 0 (LJ u1 u2 u3 u0))],fr:=[(8,92),(9,93)]} [0, .t 0 (nP u2 u0) u1.length, .pf ⟨[u3].length=1,rfl⟩, .pf ⟨aH 1 1 (Hr u3) (aC (aD .i64) [u3]),(by intro i hi j hj;match i,j,hi,hj with|0,0,_,_=>rfl)⟩, .e (Pz u1 u2 u0),1,2, .pf ⟨(G8 u1 u2 u3 u0).length=(G9 u1 u2 u0).length+[u3].length,List.length_append⟩, .pf ⟨aH (Pf u1 u2 u3 u0) 1 (PD u1 u2 u3 u0) (K3 u1 u2 u3 u0),dm _ _ _ _⟩,0, .t 0 (nP u2 u0) u1.length, .e (P9 u1 u2 u3 u0), .pf ⟨sU u1.length 2 (Pw u1 u2 u3 u0) (LJ u1 u2 u3 u0),gJ _ _ _ _ _ _ _ _ rfl (fun j hj=>(match j,hj with|0,_=>rfl|1,_=>rfl))⟩, .pf ⟨∀i0 j0 c0,(Q6 u1 u2 u0)=some (i0,j0,c0)→i0=(nP u2 u0).toNat∧j0=0,(fun i0 j0 c0 e=>by cases e;exact⟨rfl,rfl⟩)⟩]<| .im (.ll 60 u1 (M9 u1 u2 u3 u0))<| .r<| .e (.next (Px u1 u2 u3 u0)))))
  (.e (.done (.brk (u1,u2)))))
  (fun(u9,u4)=> .r<| .lp (σ:=((List af) × Int)) (β:=(List af)) (u9,0) [] [] ⟨[3,5,8,76,77],[57,58,61],fun(u5,u7)=>[(7,(vO 60 false u5.length)),(78,(vI u7))],fun(u5,u7)=>(Qf u5)⟩ ⟨[],[],fun u8=>[(7,(vO 60 false u8.length))],fun u8=>(Qf u8)⟩
  (fun(u5,u7)=> .r<| .it (.a1 (NE u7 p)<| .rg {fr:=[(3,106)],fz:=[106]} []<| .a3 (Pt s_ u7) (Ql s_ u7) (Qg s_ u7 p)<| .rg {} [0,1,2]<| .it (.cr 4 (qH [(0,57)] (aN v0 (ES u7 p))) fun u6=> .rg {an:=[(5, .look (aJ bB u6 u4).isSome (wY u4 u6))]} [0, .pf ⟨d9 [some .i64] 1 1 u4.length (nk (aD .i64) u4) (nM (aD .i64) u4) [(.int .i64 u6)] [(.d (.int .i64 0))] (aJ bB u6 u4).isSome (wY u4 u6),cZ (fun _=>rfl) (fun _ _=>rfl) u4 u6 0 rfl rfl rfl⟩]<| .a3 (LF u5 u4 u6) (Qd u5 u7 u6 u4) (PO u5 u7 u6 u4)<| .rg {an:=[(6, .take 107),(8, .arr [u7].length (aC (aD .i64) [u7])),(9, .arr (G7 u5 u7 u6 u4).length (KV u5 u7 u6 u4)),(12, .rows 0 (LC u5 u7 u6 u4))],fr:=[(8,108),(9,109)]} [0, .t 0 (nP u4 u6) u5.length, .pf ⟨[u7].length=1,rfl⟩, .pf ⟨aH 1 1 (Hr u7) (aC (aD .i64) [u7]),(by intro i hi j hj;match i,j,hi,hj with|0,0,_,_=>rfl)⟩, .e (KD u5 u6 u4),1,2, .pf ⟨(G7 u5 u7 u6 u4).length=(Ho u5 u6 u4).length+[u7].length,List.length_append⟩, .pf ⟨aH (OE u5 u7 u6 u4) 1 (KA u5 u7 u6 u4) (KV u5 u7 u6 u4),dm _ _ _ _⟩,0, .t 0 (nP u4 u6) u5.length, .e (JS u5 u7 u6 u4), .pf ⟨sU u5.length 2 (KR u5 u7 u6 u4) (LC u5 u7 u6 u4),gJ _ _ _ _ _ _ _ _ rfl (fun j hj=>(match j,hj with|0,_=>rfl|1,_=>rfl))⟩, .pf ⟨∀i0 j0 c0,(OV u5 u6 u4)=some (i0,j0,c0)→i0=(nP u4 u6).toNat∧j0=1,(fun i0 j0 c0 e=>by cases e;exact⟨rfl,rfl⟩)⟩]<| .im (.ll 60 u5 (Gh u5 u7 u6 u4))<| .r<| .e (.next (Ld u5 u7 u6 u4)))
  (.r<| .e (.next (u5,(k3 u7)))))
  (.e (.done (.brk u5))))
  (fun u8=> .r<| .fz [60]<| .im (.us 4 (vD (.sl none 2 u8.length (fun i j=>Na (jM af.ev u8 i j)))) (vD (bE none 2 af.cell u8)) (uR.v (uS.one (mI.d (kD.sl (.inr rfl) (fun i _ j hj=>match j,hj with|0,_=> .refl _|1,_=> .refl _))))))<| .e u8)))
theorem fo (x y:au):Go.Proofs.ltOf bU x y=true↔x.e0<y.e0∨ ¬ y.e0<x.e0∧x.e1<y.e1:=by
 unfold Go.Proofs.ltOf bU;rw [decide_eq_true_iff]
 by_cases h0:x.e0<y.e0<;>by_cases g0:y.e0<x.e0<;>by_cases h1:x.e1<y.e1<;>by_cases g1:y.e1<x.e1<;>simp [h0,g0,h1,g1]
theorem oL:Go.Sort.SWO (Go.Proofs.ltOf bU) where
 irrefl x:=by rw [←Bool.not_eq_true,fo];omega
 trans x y z h1 h2:=by rw [fo]at*;omega
 ntrans x y z h1 h2:=by rw [←Bool.not_eq_true,fo]at*;omega
theorem o5 (x y:au) (h1:(Go.Proofs.ltOf bU) x y=false) (h2:(Go.Proofs.ltOf bU) y x=false):x=y:=by
 rw [←Bool.not_eq_true,fo]at h1 h2
 obtain⟨a,b⟩:=x
 obtain⟨c,d⟩:=y
 have e1:a=c:=by simp only at h1 h2;omega
 have e2:b=d:=by simp only at h1 h2;omega
 rw [e1,e2]
theorem pX (s:(List au)) {r:(List au)} (h:lY s=some r):Fn Tryd.prog 28 [(.one (.own 0 false s.length)),(sD (.fn 29 0 (uz [])))] [(0,some (.arr 64 2 s.length (aC au.cell s)))] (.gK []) [(0,some (.arr 64 2 r.length (aC au.cell r)))]:=
 MI IJ 2 JR Im (fun x:au=>[.int .i64 x.e0, .int .i64 x.e1]) (fun _=>rfl) (fun x v hv=>by simp at hv;rcases hv with rfl|rfl<;>rfl) bU oL o5
  (ED (fun x:au=>[.int .i64 x.e0, .int .i64 x.e1]) (fun x=>x.e0) (fun x=>x.e1) (fun _=>rfl)) (enters_of Tryd.func29 (by kernel_rfl) rfl)
  (fun F w x j hj v=>match j,hj with|0,_=>Iff.rfl|1,_=>Iff.rfl) 28 rfl ⟨_,Tryd.func28,rfl,rfl⟩ s (by cases s with|nil=>(cases h;simp)|cons x xs=>exact h)
section
variable (u6:(List au)) (u0:Int) (u2:(List af)) (u1:Int) (u3:Int) (u4:(List au))
abbrev GH:List (Nat × Option Ob):=[(138,some (gZ 64 2 au.cell u6))]
abbrev IZ:=((0:Int)≤u0∧u0<(u2.length:Int))
abbrev Mq:=(((at' u2 u0.toNat).sources).drop ((k3 u1).toNat))
abbrev Dv:=(at' ((at' u2 u0.toNat).sources) u1.toNat)
abbrev Lj:=(at' (Mq u0 u2 u1) u3.toNat)
abbrev En:=(⟨(Dv u0 u2 u1),(Lj u0 u2 u1 u3)⟩:au)
abbrev NJ:=(u4.length+[(En u0 u2 u1 u3)].length)
abbrev Ml:=(aC au.cell [(En u0 u2 u1 u3)])
abbrev K8:=(u4++[(En u0 u2 u1 u3)])
abbrev OZ:=(aC au.cell (K8 u0 u2 u1 u3 u4))
end
theorem ru (p:aj) (s_:State):iQ Tryd.prog 15 (k19 s_ p) [] (fun r=>(.gK [(sD (bE none 2 au.cell r.1)),(sI r.2)])) (fun _=>[]) (oz p s_):=
  jT tT mX Tryd.func15 (
  .rg {fr:=[(0,134),(1,135)],fz:=[134,135]} []<| .cl 2 (bA p s_) fun r_=> .r<| .r<| .it (.r<| .e (([]:List au),r_))
  (.r<| .cl 2 (gN p s_) fun u2=> .r<| .im (.ad 7 268 64 2 (aC au.cell ([]:List au)))<| .lp (σ:=((List au) × Int)) (β:=(List au)) (([]:List au),0) [] [(268,138)] ⟨[2,22,23],[],fun(u6,u0)=>[(7,(vO 138 false u6.length)),(24,(vI u0))],fun(u6,u0)=>(GH u6)⟩ ⟨[],[],fun u5=>[(7,(vO 138 false u5.length))],fun u5=>(GH u5)⟩
  (fun(u6,u0)=> .r<| .it (.a1 (IZ u0 u2)<| .rg {fr:=[(2,235)],fz:=[235]} []<| .r<| .lp (σ:=((List au) × Int)) (β:=(List au)) (u6,0) [] [] ⟨[2,9,22,23,24,29,30],[],fun(u7,u1)=>[(7,(vO 138 false u7.length)),(31,(vI u1))],fun(u7,u1)=>(GH u7)⟩ ⟨[2,22,23,24],[],fun u8=>[(7,(vO 138 false u8.length))],fun u8=>(GH u8)⟩
  (fun(u7,u1)=> .r<| .it (.a1 ((0:Int)≤u1∧u1<(((at' u2 u0.toNat).sources).length:Int))<| .r<| .a1 ((0:Int)≤(k3 u1)∧(k3 u1)≤(((at' u2 u0.toNat).sources).length:Int))<| .r<| .im (.us 40 (vD (.sl none 1 (((at' u2 u0.toNat).sources).length - ((k3 u1).toNat)) (fun iq jq=>aC (aD .i64) ((at' u2 u0.toNat).sources) (iq+((k3 u1).toNat)) jq))) (vD (bE none 1 (aD .i64) (Mq u0 u2 u1))) (uR.v (uS.one (mI.d (kD.QX (by first|rw [List.length_append,List.length_drop]|simp only [List.length_set,List.length_drop,BS]) (.inr rfl) (Md _ _ _ _))))))<| .lp (σ:=((List au) × Int)) (β:=(List au)) (u7,0) [] [] ⟨[2,9,11,22,23,24,29,30,31,40,41],[],fun(u4,u3)=>[(7,(vO 138 false u4.length)),(42,(vI u3))],fun(u4,u3)=>(GH u4)⟩ ⟨[2,9,22,23,24,29,30,31],[],fun u9=>[(7,(vO 138 false u9.length))],fun u9=>(GH u9)⟩
  (fun(u4,u3)=> .r<| .it (.a1 ((0:Int)≤u3∧u3<((Mq u0 u2 u1).length:Int))<| .r<| .a3 ((0:Int)≤(Dv u0 u2 u1)∧(Dv u0 u2 u1)<(p.sources.length:Int)) ((gB [((decide (((at' p.sources ((Dv u0 u2 u1).toNat)).sync)=0)),false)]=true→(0:Int)≤(Dv u0 u2 u1)∧(Dv u0 u2 u1)<(p.sources.length:Int))) ((gB [((decide (((at' p.sources ((Dv u0 u2 u1).toNat)).sync)=0)),false)]=true→(0:Int)≤(Lj u0 u2 u1 u3)∧(Lj u0 u2 u1 u3)<(p.sources.length:Int)))<| .rg {} [0,1,2]<| .it (.a2 ((NJ u0 u2 u1 u3 u4)*16≤140737488355328) (u4.length+[(En u0 u2 u1 u3)].length≤4611686018427387904)<| .rg {an:=[(4, .arr [(En u0 u2 u1 u3)].length (Ml u0 u2 u1 u3)),(5, .arr (K8 u0 u2 u1 u3 u4).length (OZ u0 u2 u1 u3 u4))],fr:=[(4,266),(5,267)]} [.pf ⟨[(En u0 u2 u1 u3)].length=1,rfl⟩, .pf ⟨aH 1 2 (jy 2 [(.int .i64 (Dv u0 u2 u1)),(.int .i64 (Lj u0 u2 u1 u3))]) (Ml u0 u2 u1 u3),(by intro i hi j hj;match i,j,hi,hj with|0,0,_,_=>rfl|0,1,_,_=>rfl)⟩, .e (u4.length),0,1, .pf ⟨(K8 u0 u2 u1 u3 u4).length=u4.length+[(En u0 u2 u1 u3)].length,List.length_append⟩, .pf ⟨aH (NJ u0 u2 u1 u3 u4) 2 (yx (aC au.cell u4) u4.length (Ml u0 u2 u1 u3)) (OZ u0 u2 u1 u3 u4),dm _ _ _ _⟩]<| .r<| .en (.next ((K8 u0 u2 u1 u3 u4),(k3 u3))) [] [(267,138)])
  (.r<| .e (.next (u4,(k3 u3)))))
  (.e (.done (.brk u4))))
  (fun u9=> .r<| .e (.next (u9,(k3 u1)))))
  (.e (.done (.brk u7))))
  (fun u8=> .r<| .e (.next (u8,(k3 u0)))))
  (.e (.done (.brk u6))))
  (fun u5=> .cl 1 (qH [(0,138)] ⟨fun h=>pX u5 h⟩) fun v0=> .r<| .a1 (u5.length=v0.length)<| .so 7 138 false u5.length v0.length 0<| .so 77 138 false u5.length v0.length 0<| .fz [138]<| .r<| .e (v0,0))))
section
variable (n:Int)
abbrev Jb:=(List.replicate n.toNat (false:Bool))
end
theorem bO (n:Int):iQ Tryd.prog 40 [(sI n)] [] (fun r=>(vO 0 true r.length)) (fun r=>[(0,some (gZ 4 1 ah r))]) (bW n):=
  jT tT mX Tryd.func40 (
  .r<| .a3 ((0:Int)≤n) ((1:Int)*n≤281474976710656) ((n:Int)≤9223372036854775807)<| .rg {an:=[(1, .arr (Jb n).length (aC ah (Jb n)))],fr:=[(1,1)]} [0, .e ((n:Int)),1,2, .pf ⟨(Jb n).length=n.toNat,List.length_replicate⟩, .pf ⟨aH n.toNat 1 (fun _ j=>[(.bool false)].getD j .nilp) (aC ah (Jb n)),jX _ _ _ _ _ (fun j hj=>(match j,hj with|0,_=>rfl))⟩]<| .en (Jb n) [] [(1,0)])
section
variable (p:aj) (u1:(List af)) (u0:Int) (u3:Int) (u2:(List Bool)) (u6:(List Bool))
abbrev La:=((1:Int)*p.buses≤281474976710656)
abbrev Ig:=((p.buses:Int)≤9223372036854775807)
abbrev mP:=(List.replicate p.buses.toNat (false:Bool))
abbrev yH:=(aC ah (mP p))
abbrev GD:=(at' ((at' u1 u0.toNat).buses) u3.toNat)
abbrev ND:=((0:Int)≤(GD u1 u0 u3)∧(GD u1 u0 u3)<(u2.length:Int))
abbrev Li:=(u2.set ((GD u1 u0 u3).toNat) (decide (0<(((at' u1 u0.toNat).sources).length:Int))))
abbrev Kh:=(aC ah (Li u1 u0 u3 u2))
abbrev NW:=(jQ (aC ah u2) ((GD u1 u0 u3).toNat) 0 [(.bool (decide (0<(((at' u1 u0.toNat).sources).length:Int))))])
abbrev N7:=((Li u1 u0 u3 u2),(k3 u3))
abbrev FQ:=(u6,(k3 u0))
end
theorem oD (p:aj) (s_:State):iQ Tryd.prog 8 (k19 s_ p) [] (fun r=>(.gK [(sD (bE none 1 ah r.1)),(sI r.2)])) (fun _=>[]) (jA p s_):=
  jT tT mX Tryd.func8 (
  .rg {fr:=[(0,7),(1,8)],fz:=[7,8]} []<| .cl 2 (bA p s_) fun r_=> .r<| .r<| .it (.r<| .e (([]:List Bool),r_))
  (.a3 ((0:Int)≤p.buses) (La p) (Ig p)<| .rg {an:=[(2, .arr (mP p).length (yH p))],fr:=[(2,9)]} [0, .e ((p.buses:Int)),1,2, .pf ⟨(mP p).length=p.buses.toNat,List.length_replicate⟩, .pf ⟨aH p.buses.toNat 1 (fun _ j=>[(.bool false)].getD j .nilp) (yH p),jX _ _ _ _ _ (fun j hj=>(match j,hj with|0,_=>rfl))⟩]<| .cl 2 (gN p s_) fun u1=> .r<| .lp (σ:=((List Bool) × Int)) (β:=(List Bool)) ((mP p),0) [] [] ⟨[23,24],[],fun(u4,u0)=>[(7,(vO 9 true u4.length)),(25,(vI u0))],fun(u4,u0)=>[(9,some (gZ 4 1 ah u4))]⟩ ⟨[],[],fun u5=>[(7,(vO 9 true u5.length))],fun u5=>[(9,some (gZ 4 1 ah u5))]⟩
  (fun(u4,u0)=> .r<| .it (.a1 (IZ u0 u1)<| .rg {fr:=[(2,13)]} []<| .rg {fz:=[13]} []<| .lp (σ:=((List Bool) × Int)) (β:=(List Bool)) (u4,0) [] [] ⟨[9,23,24,25,30,31],[],fun(u2,u3)=>[(7,(vO 9 true u2.length)),(32,(vI u3))],fun(u2,u3)=>[(9,some (gZ 4 1 ah u2))]⟩ ⟨[23,24,25],[],fun u6=>[(7,(vO 9 true u6.length))],fun u6=>[(9,some (gZ 4 1 ah u6))]⟩
  (fun(u2,u3)=> .r<| .it (.a1 ((0:Int)≤u3∧u3<(((at' u1 u0.toNat).buses).length:Int))<| .r<| .a1 (ND u1 u0 u3 u2)<| .rg {an:=[(7, .arr 0 (Kh u1 u0 u3 u2))]} [0, .t 0 (GD u1 u0 u3) u2.length, .pf ⟨aH u2.length 1 (NW u1 u0 u3 u2) (Kh u1 u0 u3 u2),cK _ _ _ _ _ _ _ _ rfl (fun j hj=>(match j,hj with|0,_=>rfl))⟩]<| .im (.ll 9 u2 (Li u1 u0 u3 u2))<| .r<| .e (.next (N7 u1 u0 u3 u2)))
  (.e (.done (.brk u2))))
  (fun u6=> .r<| .e (.next (FQ u0 u6))))
  (.e (.done (.brk u4))))
  (fun u5=> .rg {fz:=[9]} []<| .e (u5,0))))
section
variable (p:aj) (u0:Int) (r_:((List Bool) × Int)) (u1:(List aG))
abbrev tH:=((at' p.racks u0.toNat).feeds)
abbrev K7:List DV:=[(.int .i64 ((tH p u0).e0))]
abbrev C8:List CV:=[(cI ((tH p u0).e0)),(cI ((tH p u0).e1))]
abbrev OG:=((gB [((decide (0≤((tH p u0).e0))),true)]=true→(0:Int)≤(tH p u0).e0∧(tH p u0).e0<(r_.1.length:Int)))
abbrev Kw:List DV:=[(.int .i64 ((tH p u0).e1))]
abbrev Ol:=((gB [((decide (0≤((tH p u0).e1))),true)]=true→(0:Int)≤(tH p u0).e1∧(tH p u0).e1<(r_.1.length:Int)))
abbrev O7:=(bif (decide (0≤((tH p u0).e0)))then(at' r_.1 (((tH p u0).e0).toNat))else false)
abbrev O8:=(bif (decide (0≤((tH p u0).e1)))then(at' r_.1 (((tH p u0).e1).toNat))else false)
abbrev zN:=(⟨(O7 p u0 r_),(O8 p u0 r_)⟩:aG)
abbrev Mx:=(u1.length+[(zN p u0 r_)].length)
abbrev Nu:=((Mx p u0 r_ u1)*2≤140737488355328)
abbrev Oz:=(u1.length+[(zN p u0 r_)].length≤4611686018427387904)
abbrev Jv:=(aC aG.cell [(zN p u0 r_)])
abbrev FO:=(u1++[(zN p u0 r_)])
abbrev Kr:=(aC aG.cell (FO p u0 r_ u1))
abbrev Ot:=(jy 2 [(.bool (O7 p u0 r_)),(.bool (O8 p u0 r_))])
abbrev Oa:=(yx (aC aG.cell u1) u1.length (Jv p u0 r_))
abbrev Nr:=((FO p u0 r_ u1),(k3 u0))
end
theorem xA (p:aj) (s_:State):iQ Tryd.prog 22 (k19 s_ p) [] (fun r=>(.gK [(sD (bE none 2 aG.cell r.1)),(sI r.2)])) (fun _=>[]) (wG p s_):=
  jT tT mX Tryd.func22 (
  .rg {fr:=[(0,18),(1,19)],fz:=[19]} []<| .cl 2 (oD p s_) fun r_=> .r<| .r<| .it (.r<| .e (([]:List aG),r_.2))
  (.r<| .r<| .im (.ad 8 36 76 2 (aC aG.cell ([]:List aG)))<| .lp (σ:=((List aG) × Int)) (β:=(List aG)) (([]:List aG),0) [] [(36,23)] ⟨[6,24,25],[],fun(u1,u0)=>[(8,(vO 23 false u1.length)),(26,(vI u0))],fun(u1,u0)=>[(23,some (gZ 76 2 aG.cell u1))]⟩ ⟨[],[],fun u2=>[(8,(vO 23 false u2.length))],fun u2=>[(23,some (gZ 76 2 aG.cell u2))]⟩
  (fun(u1,u0)=> .r<| .it (.a1 ((0:Int)≤u0∧u0<(p.racks.length:Int))<| .rg {fr:=[(2,32)],fz:=[32]} []<| .rg {fr:=[(0,33)]} []<| .r<| .ul 11<| .r<| .t<| .rg {an:=[(1, .vals (K7 p u0))]} [.pf ⟨(0:Int)≤0∧(0:Int)<(2:Nat),(by decide)⟩, .pf ⟨0*1+1≤(C8 p u0).length,Nat.le_of_ble_eq_true rfl⟩, .pf ⟨((C8 p u0).drop (0*1)).take 1=(K7 p u0).map .d,rfl⟩]<| .a1 (OG p u0 r_)<| .rg {} [0, .pf ⟨(0:Int)≤0∧(0:Int)<(2:Nat),(by decide)⟩]<| .r<| .im (.dp [6,8,11,24,25,26,31,32])<| .r<| .t<| .rg {an:=[(1, .vals (Kw p u0))]} [.pf ⟨(0:Int)≤1∧(1:Int)<(2:Nat),(by decide)⟩, .pf ⟨1*1+1≤(C8 p u0).length,Nat.le_of_ble_eq_true rfl⟩, .pf ⟨((C8 p u0).drop (1*1)).take 1=(Kw p u0).map .d,rfl⟩]<| .a1 (Ol p u0 r_)<| .rg {} [0, .pf ⟨(0:Int)≤1∧(1:Int)<(2:Nat),(by decide)⟩]<| .r<| .im (.dp [6,8,11,24,25,26,31,32])<| .r<| .f<| .a2 (Nu p u0 r_ u1) (Oz p u0 r_ u1)<| .rg {an:=[(2, .arr [(zN p u0 r_)].length (Jv p u0 r_)),(3, .arr (FO p u0 r_ u1).length (Kr p u0 r_ u1))],fr:=[(2,34),(3,35)]} [.pf ⟨[(zN p u0 r_)].length=1,rfl⟩, .pf ⟨aH 1 2 (Ot p u0 r_) (Jv p u0 r_),(by intro i hi j hj;match i,j,hi,hj with|0,0,_,_=>rfl|0,1,_,_=>rfl)⟩, .e (u1.length),0,1, .pf ⟨(FO p u0 r_ u1).length=u1.length+[(zN p u0 r_)].length,List.length_append⟩, .pf ⟨aH (Mx p u0 r_ u1) 2 (Oa p u0 r_ u1) (Kr p u0 r_ u1),dm _ _ _ _⟩]<| .r<| .en (.next (Nr p u0 r_ u1)) [] [(35,23)])
  (.e (.done (.brk u1))))
  (fun u2=> .rg {fz:=[23]} []<| .e (u2,0))))
theorem lQ (a:(List Int)) (b:(List Int)):iQ Tryd.prog 41 [(sD (bE none 1 (aD .i64) a)),(sD (bE none 1 (aD .i64) b))] [] (fun r=>(vB r)) (fun _=>[]) (lq a b):=
  jT tT mX Tryd.func41 (
  .r<| .r<| .it (.r<| .e false)
  (.r<| .lp (σ:=Int) (β:=Unit) (0) [] [] ⟨[0,1],[],fun i=>[(5,(vI i))],fun i=>[]⟩ ⟨[],[],fun _=>[],fun _=>[]⟩
  (fun i=> .r<| .it (.a2 ((0:Int)≤i∧i<(a.length:Int)) ((0:Int)≤i∧i<(b.length:Int))<| .rg {} [0,1]<| .it (.r<| .e (.done (.ret false)))
  (.r<| .e (.next (k3 i))))
  (.e (.done (.brk ()))))
  (fun _=> .r<| .e true)))
theorem jo (a:(List af)) (b:(List af)):iQ Tryd.prog 23 [(sD (bE none 2 af.cell a)),(sD (bE none 2 af.cell b))] [] (fun r=>(vB r)) (fun _=>[]) (iK a b):=
  jT tT mX Tryd.func23 (
  .r<| .r<| .it (.r<| .e false)
  (.r<| .lp (σ:=Int) (β:=Unit) (0) [] [] ⟨[0,1],[],fun i=>[(5,(vI i))],fun i=>[]⟩ ⟨[],[],fun _=>[],fun _=>[]⟩
  (fun i=> .r<| .it (.cl 10 (lQ ((at' a i.toNat).buses) ((at' b i.toNat).buses)) fun r_=> .cg 23 [((!r_),false)] (lQ ((at' a i.toNat).sources) ((at' b i.toNat).sources)) fun u0=> .a4 (IZ i a) (IZ i b) ((gB [((!r_),false)]=true→(0:Int)≤i∧i<(a.length:Int))) ((gB [((!r_),false)]=true→(0:Int)≤i∧i<(b.length:Int)))<| .rg {} [0,1,5,2,3,4]<| .it (.r<| .e (.done (.ret false)))
  (.r<| .e (.next (k3 i))))
  (.e (.done (.brk ()))))
  (fun _=> .r<| .e true)))
theorem pM (a:(List au)) (b:(List au)):iQ Tryd.prog 24 [(sD (bE none 2 au.cell a)),(sD (bE none 2 au.cell b))] [] (fun r=>(vB r)) (fun _=>[]) (l8 a b):=
  jT tT mX Tryd.func24 (
  .r<| .r<| .it (.r<| .e false)
  (.r<| .lp (σ:=Int) (β:=Unit) (0) [] [] ⟨[0,1],[],fun i=>[(5,(vI i))],fun i=>[]⟩ ⟨[],[],fun _=>[],fun _=>[]⟩
  (fun i=> .r<| .it (.a2 ((0:Int)≤i∧i<(a.length:Int)) ((0:Int)≤i∧i<(b.length:Int))<| .rg {} [0,1]<| .it (.r<| .e (.done (.ret false)))
  (.r<| .e (.next (k3 i))))
  (.e (.done (.brk ()))))
  (fun _=> .r<| .e true)))
theorem sQ (p:aj) {r:ByteArray × Int} (h:lG p=some r):Fn Tryd.prog 25 [(.agg [(cI p.buses),(.d (bE none 5 Source.cell p.sources)),(.d (bE none 6 Link.cell p.links)),(.d (bE none 4 aO.cell p.racks))])] [] (.gK [(sD (.str r.1)),(sI r.2)]) []:=by
 unfold lG at h
 cases hc:fM p with
 |none=>rw [hc]at h;cases h
 |some c=>
  rw [hc]at h
  simp only [Option.bind_some]at h
  cases h0:decide (c=0)with
  |false=>rw [h0]at h;cases h
  |true=>
   rw [h0]at h
   have hc0:=of_decide_eq_true h0
   subst hc0
   simp only [cond_true]at h
   cases h1:fmtG p.buses p.sources.length p.links.length p.racks.length (fmtS p) (MZ p) (Mh p) (MQ p) (MS p)with
   |false=>rw [h1]at h;cases h
   |true=>
    rw [h1]at h
    simp only [cond_true,Option.some.injEq]at h
    subst h
    exact F8 (nb:=p.buses) (es:=aC Source.cell p.sources) (el:=aC Link.cell p.links) (er:=aC aO.cell p.racks) (et:=fun i=>aC dR.cell (at' p.links i).trip) ((jY p).run hc)
     (fun i _ j hj=>match j,hj with|0,_=>rfl|1,_=>rfl|2,_=>rfl|3,_=>rfl|4,_=>rfl)
     (fun i _ j hj=>match j,hj with|0,_=>rfl|1,_=>rfl|2,_=>rfl|3,_=>rfl|4,_=>rfl)
     (fun i _=>rfl)
     (fun i _ g _ j hj=>match j,hj with|0,_=>rfl|1,_=>rfl)
     (fun i _ j hj=>match j,hj with|0,_=>rfl|1,_=>rfl|2,_=>rfl|3,_=>rfl) h1
abbrev JQ:DV:=(bE (some true) 2 dR.cell [(⟨1000,400⟩:dR),(⟨5000,50⟩:dR)])
theorem o6:iQ Tryd.prog 20 [] [] (fun r=>(.v (.agg [(cI r.buses),(.own 0 true r.sources.length),(.own 1 true r.links.length),(.own 2 true r.racks.length)]))) (fun r=>[(0,some (gZ 41 5 Source.cell r.sources)),(1,some (gZ 45 6 Link.cell r.links)),(2,some (gZ 99 4 aO.cell r.racks)),(3,none)]) (oJ):=
  jT tT mX Tryd.func20 (
  .rg {fr:=[(0,5)]} []<| .rg {an:=[(2, .arr [(⟨0,1,500,0,20⟩:Source),(⟨2,2,300,0,40⟩:Source)].length (aC Source.cell [(⟨0,1,500,0,20⟩:Source),(⟨2,2,300,0,40⟩:Source)])),(5, .frz [(⟨1000,400⟩:dR),(⟨5000,50⟩:dR)].length (aC dR.cell [(⟨1000,400⟩:dR),(⟨5000,50⟩:dR)])),(8, .arr [(⟨0,1,3,400,10,[(⟨1000,400⟩:dR),(⟨5000,50⟩:dR)]⟩:Link),(⟨1,2,3,400,10,([]:List dR)⟩:Link)].length (jy 6 [(.int .i64 0),(.int .i64 1),(.int .i64 3),(.int .i64 400),(.int .i64 10),JQ,(.int .i64 1),(.int .i64 2),(.int .i64 3),(.int .i64 400),(.int .i64 10),nS])),(11, .arr [(⟨(⟨1,(-1)⟩:au),100,1⟩:aO)].length (aC aO.cell [(⟨(⟨1,(-1)⟩:au),100,1⟩:aO)]))],fr:=[(2,6),(8,8),(11,9)]} [.pf ⟨[(⟨0,1,500,0,20⟩:Source),(⟨2,2,300,0,40⟩:Source)].length=2,rfl⟩, .pf ⟨aH 2 5 (jy 5 [(.int .i64 0),(.int .i64 1),(.int .i64 500),(.int .i64 0),(.int .i64 20),(.int .i64 2),(.int .i64 2),(.int .i64 300),(.int .i64 0),(.int .i64 40)]) (aC Source.cell [(⟨0,1,500,0,20⟩:Source),(⟨2,2,300,0,40⟩:Source)]),(by intro i hi j hj;match i,j,hi,hj with|0,0,_,_=>rfl|0,1,_,_=>rfl|0,2,_,_=>rfl|0,3,_,_=>rfl|0,4,_,_=>rfl|1,0,_,_=>rfl|1,1,_,_=>rfl|1,2,_,_=>rfl|1,3,_,_=>rfl|1,4,_,_=>rfl)⟩, .pf ⟨[(⟨1000,400⟩:dR),(⟨5000,50⟩:dR)].length=2,rfl⟩, .pf ⟨aH 2 2 (jy 2 [(.int .i64 1000),(.int .i64 400),(.int .i64 5000),(.int .i64 50)]) (aC dR.cell [(⟨1000,400⟩:dR),(⟨5000,50⟩:dR)]),(by intro i hi j hj;match i,j,hi,hj with|0,0,_,_=>rfl|0,1,_,_=>rfl|1,0,_,_=>rfl|1,1,_,_=>rfl)⟩, .pf ⟨[(⟨0,1,3,400,10,[(⟨1000,400⟩:dR),(⟨5000,50⟩:dR)]⟩:Link),(⟨1,2,3,400,10,([]:List dR)⟩:Link)].length=2,rfl⟩, .pf ⟨aH 2 6 (jy 6 [(.int .i64 0),(.int .i64 1),(.int .i64 3),(.int .i64 400),(.int .i64 10),JQ,(.int .i64 1),(.int .i64 2),(.int .i64 3),(.int .i64 400),(.int .i64 10),nS]) (jy 6 [(.int .i64 0),(.int .i64 1),(.int .i64 3),(.int .i64 400),(.int .i64 10),JQ,(.int .i64 1),(.int .i64 2),(.int .i64 3),(.int .i64 400),(.int .i64 10),nS]),iR _ _ _⟩, .pf ⟨[(⟨(⟨1,(-1)⟩:au),100,1⟩:aO)].length=1,rfl⟩, .pf ⟨aH 1 4 (jy 4 [(.int .i64 1),(.int .i64 (-1)),(.int .i64 100),(.int .i64 1)]) (aC aO.cell [(⟨(⟨1,(-1)⟩:au),100,1⟩:aO)]),(by intro i hi j hj;match i,j,hi,hj with|0,0,_,_=>rfl|0,1,_,_=>rfl|0,2,_,_=>rfl|0,3,_,_=>rfl)⟩]<| .im (.uh 8 (some (.arr 45 6 [(⟨0,1,3,400,10,[(⟨1000,400⟩:dR),(⟨5000,50⟩:dR)]⟩:Link),(⟨1,2,3,400,10,([]:List dR)⟩:Link)].length (jy 6 [(.int .i64 0),(.int .i64 1),(.int .i64 3),(.int .i64 400),(.int .i64 10),JQ,(.int .i64 1),(.int .i64 2),(.int .i64 3),(.int .i64 400),(.int .i64 10),nS]))) (some (.arr 45 6 [(⟨0,1,3,400,10,[(⟨1000,400⟩:dR),(⟨5000,50⟩:dR)]⟩:Link),(⟨1,2,3,400,10,([]:List dR)⟩:Link)].length (aC Link.cell [(⟨0,1,3,400,10,[(⟨1000,400⟩:dR),(⟨5000,50⟩:dR)]⟩:Link),(⟨1,2,3,400,10,([]:List dR)⟩:Link)]))) (KQ (by intro i hi j hj;match i,j,hi,hj with|0,0,_,_=>exact .refl _|0,1,_,_=>exact .refl _|0,2,_,_=>exact .refl _|0,3,_,_=>exact .refl _|0,4,_,_=>exact .refl _|0,5,_,_=>exact kD.oq|1,0,_,_=>exact .refl _|1,1,_,_=>exact .refl _|1,2,_,_=>exact .refl _|1,3,_,_=>exact .refl _|1,4,_,_=>exact .refl _|1,5,_,_=>exact kD.nil')))<| .en (⟨3,[(⟨0,1,500,0,20⟩:Source),(⟨2,2,300,0,40⟩:Source)],[(⟨0,1,3,400,10,[(⟨1000,400⟩:dR),(⟨5000,50⟩:dR)]⟩:Link),(⟨1,2,3,400,10,([]:List dR)⟩:Link)],[(⟨(⟨1,(-1)⟩:au),100,1⟩:aO)]⟩:aj) [] [(6,0),(8,1),(9,2),(5,3)])
end
end Sg
