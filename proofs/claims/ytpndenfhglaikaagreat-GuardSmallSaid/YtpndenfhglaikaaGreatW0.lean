import Derived.Test.YtpndenfhglaikaaGreatGm
import Derived.Test.YtpndenfhglaikaaGreatProg
set_option linter.all false
namespace Sg
open Go Go.Proofs
set_option maxRecDepth 20000
noncomputable section
noncomputable def TT:List (Nat × TI):=[(3,⟨Tryz.t3.desc,Tryz.t3.size,Tryz.t3.bytes,zl Tryz.t3,false⟩),
  (4,⟨Tryz.t4.desc,Tryz.t4.size,Tryz.t4.bytes,zl Tryz.t4,false⟩),
  (22,⟨Tryz.t22.desc,Tryz.t22.size,Tryz.t22.bytes,zl Tryz.t22,false⟩),
  (23,⟨Tryz.t23.desc,Tryz.t23.size,Tryz.t23.bytes,zl Tryz.t23,false⟩),
  (24,⟨Tryz.t24.desc,Tryz.t24.size,Tryz.t24.bytes,zl Tryz.t24,false⟩),
  (26,⟨Tryz.t25.desc,Tryz.t26.size,Tryz.t26.bytes,zl Tryz.t26,false⟩),
  (27,⟨Tryz.t27.desc,Tryz.t27.size,Tryz.t27.bytes,zl Tryz.t27,false⟩),
  (29,⟨Tryz.t28.desc,Tryz.t29.size,Tryz.t29.bytes,zl Tryz.t29,false⟩),
  (35,⟨Tryz.t35.desc,Tryz.t35.size,Tryz.t35.bytes,zl Tryz.t35,false⟩),
  (36,⟨Tryz.t36.desc,Tryz.t36.size,Tryz.t36.bytes,zl Tryz.t36,false⟩),
  (38,⟨Tryz.t37.desc,Tryz.t38.size,Tryz.t38.bytes,zl Tryz.t38,false⟩),
  (42,⟨Tryz.t42.desc,Tryz.t42.size,Tryz.t42.bytes,zl Tryz.t42,false⟩),
  (44,⟨Tryz.t43.desc,Tryz.t44.size,Tryz.t44.bytes,zl Tryz.t44,false⟩),
  (58,⟨Tryz.t3.desc,Tryz.t58.size,Tryz.t58.bytes,zl Tryz.t58,false⟩),
  (60,⟨Tryz.t59.desc,Tryz.t60.size,Tryz.t60.bytes,zl Tryz.t60,true⟩),
  (61,⟨Tryz.t3.desc,Tryz.t61.size,Tryz.t61.bytes,zl Tryz.t61,false⟩),
  (63,⟨Tryz.t62.desc,Tryz.t63.size,Tryz.t63.bytes,zl Tryz.t63,true⟩),
  (64,⟨Tryz.t64.desc,Tryz.t64.size,Tryz.t64.bytes,zl Tryz.t64,false⟩),
  (66,⟨Tryz.t65.desc,Tryz.t66.size,Tryz.t66.bytes,zl Tryz.t66,false⟩),
  (69,⟨Tryz.t69.desc,Tryz.t69.size,Tryz.t69.bytes,zl Tryz.t69,true⟩),
  (71,⟨Tryz.t70.desc,Tryz.t71.size,Tryz.t71.bytes,zl Tryz.t71,true⟩),
  (87,⟨Tryz.t86.desc,Tryz.t87.size,Tryz.t87.bytes,zl Tryz.t87,true⟩),
  (93,⟨Tryz.t93.desc,Tryz.t93.size,Tryz.t93.bytes,zl Tryz.t93,false⟩),
  (94,⟨Tryz.t94.desc,Tryz.t94.size,Tryz.t94.bytes,zl Tryz.t94,false⟩),
  (96,⟨Tryz.t95.desc,Tryz.t96.size,Tryz.t96.bytes,zl Tryz.t96,false⟩),
  (98,⟨Tryz.t98.desc,Tryz.t98.size,Tryz.t98.bytes,zl Tryz.t98,false⟩),
  (103,⟨Tryz.t102.desc,Tryz.t103.size,Tryz.t103.bytes,zl Tryz.t103,false⟩),
  (105,⟨Tryz.t86.desc,Tryz.t105.size,Tryz.t105.bytes,zl Tryz.t105,true⟩),
  (110,⟨Tryz.t3.desc,Tryz.t110.size,Tryz.t110.bytes,zl Tryz.t110,false⟩),
  (112,⟨Tryz.t111.desc,Tryz.t112.size,Tryz.t112.bytes,zl Tryz.t112,true⟩),
  (113,⟨Tryz.t113.desc,Tryz.t113.size,Tryz.t113.bytes,zl Tryz.t113,false⟩),
  (116,⟨Tryz.t116.desc,Tryz.t116.size,Tryz.t116.bytes,zl Tryz.t116,true⟩),
  (122,⟨Tryz.t122.desc,Tryz.t122.size,Tryz.t122.bytes,zl Tryz.t122,false⟩),
  (125,⟨Tryz.t125.desc,Tryz.t125.size,Tryz.t125.bytes,zl Tryz.t125,false⟩),
  (141,⟨Tryz.t141.desc,Tryz.t141.size,Tryz.t141.bytes,zl Tryz.t141,false⟩),
  (142,⟨Tryz.t102.desc,Tryz.t142.size,Tryz.t142.bytes,zl Tryz.t142,false⟩),
  (167,⟨Tryz.t167.desc,Tryz.t167.size,Tryz.t167.bytes,zl Tryz.t167,false⟩),
  (168,⟨Tryz.t168.desc,Tryz.t168.size,Tryz.t168.bytes,zl Tryz.t168,false⟩),
  (182,⟨Tryz.t181.desc,Tryz.t182.size,Tryz.t182.bytes,zl Tryz.t182,false⟩),
  (183,⟨Tryz.t183.desc,Tryz.t183.size,Tryz.t183.bytes,zl Tryz.t183,false⟩),
  (198,⟨Tryz.t198.desc,Tryz.t198.size,Tryz.t198.bytes,zl Tryz.t198,false⟩),
  (201,⟨Tryz.t201.desc,Tryz.t201.size,Tryz.t201.bytes,zl Tryz.t201,false⟩),
  (204,⟨Tryz.t204.desc,Tryz.t204.size,Tryz.t204.bytes,zl Tryz.t204,false⟩),
  (207,⟨Tryz.t207.desc,Tryz.t207.size,Tryz.t207.bytes,zl Tryz.t207,false⟩),
  (208,⟨Tryz.t208.desc,Tryz.t208.size,Tryz.t208.bytes,zl Tryz.t208,false⟩),
  (211,⟨Tryz.t210.desc,Tryz.t211.size,Tryz.t211.bytes,zl Tryz.t211,false⟩),
  (219,⟨Tryz.t219.desc,Tryz.t219.size,Tryz.t219.bytes,zl Tryz.t219,true⟩),
  (233,⟨Tryz.t233.desc,Tryz.t233.size,Tryz.t233.bytes,zl Tryz.t233,false⟩),
  (234,⟨Tryz.t234.desc,Tryz.t234.size,Tryz.t234.bytes,zl Tryz.t234,false⟩),
  (236,⟨Tryz.t235.desc,Tryz.t236.size,Tryz.t236.bytes,zl Tryz.t236,false⟩)]
theorem tT:qJ Tryz.prog TT:=⟨gM (by kernel_rfl) (by kernel_rfl) (by kernel_rfl),⟨jX,cO (by kernel_rfl)⟩,gM (by kernel_rfl) (by kernel_rfl) (by kernel_rfl),⟨jX,cO (by kernel_rfl)⟩,gM (by kernel_rfl) (by kernel_rfl) (by kernel_rfl),⟨jX,cO (by kernel_rfl)⟩,gM (by kernel_rfl) (by kernel_rfl) (by kernel_rfl),⟨jX,cO (by kernel_rfl)⟩,gM (by kernel_rfl) (by kernel_rfl) (by kernel_rfl),⟨jX,cO (by kernel_rfl)⟩,gM (by kernel_rfl) (by kernel_rfl) (by kernel_rfl),⟨jX,cO (by kernel_rfl)⟩,gM (by kernel_rfl) (by kernel_rfl) (by kernel_rfl),⟨jX,cO (by kernel_rfl)⟩,gM (by kernel_rfl) (by kernel_rfl) (by kernel_rfl),⟨jX,cO (by kernel_rfl)⟩,gM (by kernel_rfl) (by kernel_rfl) (by kernel_rfl),⟨jX,cO (by kernel_rfl)⟩,gM (by kernel_rfl) (by kernel_rfl) (by kernel_rfl),⟨jX,cO (by kernel_rfl)⟩,gM (by kernel_rfl) (by kernel_rfl) (by kernel_rfl),⟨jX,cO (by kernel_rfl)⟩,gM (by kernel_rfl) (by kernel_rfl) (by kernel_rfl),⟨jX,cO (by kernel_rfl)⟩,gM (by kernel_rfl) (by kernel_rfl) (by kernel_rfl),⟨jX,cO (by kernel_rfl)⟩,gM (by kernel_rfl) (by kernel_rfl) (by kernel_rfl),⟨jX,cO (by kernel_rfl)⟩,gM (by kernel_rfl) (by kernel_rfl) (by kernel_rfl),⟨fun _=> ⟨by kernel_rfl,by kernel_rfl⟩,cO (by kernel_rfl)⟩,gM (by kernel_rfl) (by kernel_rfl) (by kernel_rfl),⟨jX,cO (by kernel_rfl)⟩,gM (by kernel_rfl) (by kernel_rfl) (by kernel_rfl),⟨fun _=> ⟨by kernel_rfl,by kernel_rfl⟩,cO (by kernel_rfl)⟩,gM (by kernel_rfl) (by kernel_rfl) (by kernel_rfl),⟨jX,cO (by kernel_rfl)⟩,gM (by kernel_rfl) (by kernel_rfl) (by kernel_rfl),⟨jX,cO (by kernel_rfl)⟩,gM (by kernel_rfl) (by kernel_rfl) (by kernel_rfl),⟨fun _=> ⟨by kernel_rfl,by kernel_rfl⟩,cO (by kernel_rfl)⟩,gM (by kernel_rfl) (by kernel_rfl) (by kernel_rfl),⟨fun _=> ⟨by kernel_rfl,by kernel_rfl⟩,cO (by kernel_rfl)⟩,gM (by kernel_rfl) (by kernel_rfl) (by kernel_rfl),⟨fun _=> ⟨by kernel_rfl,by kernel_rfl⟩,cO (by kernel_rfl)⟩,gM (by kernel_rfl) (by kernel_rfl) (by kernel_rfl),⟨jX,cO (by kernel_rfl)⟩,gM (by kernel_rfl) (by kernel_rfl) (by kernel_rfl),⟨jX,cO (by kernel_rfl)⟩,gM (by kernel_rfl) (by kernel_rfl) (by kernel_rfl),⟨jX,cO (by kernel_rfl)⟩,gM (by kernel_rfl) (by kernel_rfl) (by kernel_rfl),⟨jX,cO (by kernel_rfl)⟩,gM (by kernel_rfl) (by kernel_rfl) (by kernel_rfl),⟨jX,cO (by kernel_rfl)⟩,gM (by kernel_rfl) (by kernel_rfl) (by kernel_rfl),⟨fun _=> ⟨by kernel_rfl,by kernel_rfl⟩,cO (by kernel_rfl)⟩,gM (by kernel_rfl) (by kernel_rfl) (by kernel_rfl),⟨jX,cO (by kernel_rfl)⟩,gM (by kernel_rfl) (by kernel_rfl) (by kernel_rfl),⟨fun _=> ⟨by kernel_rfl,by kernel_rfl⟩,cO (by kernel_rfl)⟩,gM (by kernel_rfl) (by kernel_rfl) (by kernel_rfl),⟨jX,cO (by kernel_rfl)⟩,gM (by kernel_rfl) (by kernel_rfl) (by kernel_rfl),⟨fun _=> ⟨by kernel_rfl,by kernel_rfl⟩,cO (by kernel_rfl)⟩,gM (by kernel_rfl) (by kernel_rfl) (by kernel_rfl),⟨jX,cO (by kernel_rfl)⟩,gM (by kernel_rfl) (by kernel_rfl) (by kernel_rfl),⟨jX,cO (by kernel_rfl)⟩,gM (by kernel_rfl) (by kernel_rfl) (by kernel_rfl),⟨jX,cO (by kernel_rfl)⟩,gM (by kernel_rfl) (by kernel_rfl) (by kernel_rfl),⟨jX,cO (by kernel_rfl)⟩,gM (by kernel_rfl) (by kernel_rfl) (by kernel_rfl),⟨jX,cO (by kernel_rfl)⟩,gM (by kernel_rfl) (by kernel_rfl) (by kernel_rfl),⟨jX,cO (by kernel_rfl)⟩,gM (by kernel_rfl) (by kernel_rfl) (by kernel_rfl),⟨jX,cO (by kernel_rfl)⟩,gM (by kernel_rfl) (by kernel_rfl) (by kernel_rfl),⟨jX,cO (by kernel_rfl)⟩,gM (by kernel_rfl) (by kernel_rfl) (by kernel_rfl),⟨jX,cO (by kernel_rfl)⟩,gM (by kernel_rfl) (by kernel_rfl) (by kernel_rfl),⟨jX,cO (by kernel_rfl)⟩,gM (by kernel_rfl) (by kernel_rfl) (by kernel_rfl),⟨jX,cO (by kernel_rfl)⟩,gM (by kernel_rfl) (by kernel_rfl) (by kernel_rfl),⟨jX,cO (by kernel_rfl)⟩,gM (by kernel_rfl) (by kernel_rfl) (by kernel_rfl),⟨jX,cO (by kernel_rfl)⟩,gM (by kernel_rfl) (by kernel_rfl) (by kernel_rfl),⟨jX,cO (by kernel_rfl)⟩,gM (by kernel_rfl) (by kernel_rfl) (by kernel_rfl),⟨fun _=> ⟨by kernel_rfl,by kernel_rfl⟩,cO (by kernel_rfl)⟩,gM (by kernel_rfl) (by kernel_rfl) (by kernel_rfl),⟨jX,cO (by kernel_rfl)⟩,gM (by kernel_rfl) (by kernel_rfl) (by kernel_rfl),⟨jX,cO (by kernel_rfl)⟩,gM (by kernel_rfl) (by kernel_rfl) (by kernel_rfl),⟨jX,cO (by kernel_rfl)⟩,trivial⟩
theorem mX:Tryz.prog.follows .mixedOrders=true:=by kernel_rfl
section
variable (p:ai) (x:Link) (i:Int)
abbrev k0:List CV:=[(cI p.buses),(.d (aR none 5 Source.cell p.sources)),(.d (aR none 6 Link.cell p.links)),(.d (aR none 4 aJ.cell p.racks))]
abbrev k1:List CV:=[(cI x.a),(cI x.b),(cI x.kind),(cI x.most),(cI x.aX),(.d (aR none 2 aF.cell x.trip))]
abbrev k2:=((0:Int)≤i∧i<(x.trip.length:Int))
abbrev k3:=(IntKind.wrap .i64 (i - 1))
abbrev k4:=((decide (((at' x.trip i.toNat).amps)≤((at' x.trip ((k3 i).toNat)).amps))),false)
abbrev k5:=(IntKind.wrap .i64 (i+1))
end
theorem Bw (p:ai) (x:Link):eH Tryz.prog 81 [(.agg (k0 p)),(.agg (k1 x))] [] (fun r=>(vB r)) (fun _=>[]) (qB p x):=
  fC tT mX Tryz.func81 (
  .rg {fr:=[(0,6),(1,7)],fz:=[6]} []<| .r<| .it (.r<| .e false)
  (.r<| .it (.r<| .e false)
  (.r<| .lp (σ:=Int) (β:=Unit) (0) [] [] ⟨[3],[7],fun i=>[(5,(vI i))],fun i=>[]⟩ ⟨[],[],fun _=>[],fun _=>[]⟩
  (fun i=> .r<| .it (.a1 (k2 x i)<| .rg {fr:=[(5,11)],fz:=[11]} []<| .r<| .it (.r<| .e (.done (.ret false)))
  (.a2 ((gB [((decide (0<i)),true)]=true→(0:Int)≤(k3 i)∧(k3 i)<(x.trip.length:Int))) ((gB [(k4 x i),((decide (0<i)),true)]=true→(0:Int)≤(k3 i)∧(k3 i)<(x.trip.length:Int)))<| .rg {} [0,1]<| .it (.r<| .e (.done (.ret false)))
  (.r<| .e (.next (k5 i)))))
  (.e (.done (.brk ()))))
  (fun _=> .r<| .e true))))
section
variable (p:ai) (i:Int) (i1:Int)
abbrev k6:List SV:=[(.agg (k0 p))]
abbrev k7:=((0:Int)≤i∧i<(p.sources.length:Int))
abbrev k8:=((0:Int)≤i1∧i1<(p.links.length:Int))
end
theorem oU (p:ai):eH Tryz.prog 30 (k6 p) [] (fun r=>(vI r)) (fun _=>[]) (kK p):=
  fC tT mX Tryz.func30 (
  .rg {fr:=[(0,9)]} []<| .r<| .it (.r<| .e 10)
  (.r<| .it (.r<| .e 11)
  (.r<| .lp (σ:=Int) (β:=Unit) (0) [] [] ⟨[1],[9],fun i=>[(3,(vI i))],fun i=>[]⟩ ⟨[1],[9],fun _=>[],fun _=>[]⟩
  (fun i=> .r<| .it (.a1 (k7 p i)<| .rg {fr:=[(5,13)],fz:=[13]} []<| .r<| .it (.r<| .e (.done (.ret 11)))
  (.r<| .e (.next (k5 i))))
  (.e (.done (.brk ()))))
  (fun _=> .r<| .it (.r<| .e 12)
  (.r<| .lp (σ:=Int) (β:=Unit) (0) [] [] ⟨[1],[9],fun i1=>[(5,(vI i1))],fun i1=>[]⟩ ⟨[1],[9],fun _=>[],fun _=>[]⟩
  (fun i1=> .r<| .it (.cl 6 (Bw p (at' p.links i1.toNat)) fun r_=> .a1 (k8 p i1)<| .rg {} [0,1]<| .it (.r<| .e (.done (.ret 12)))
  (.r<| .e (.next (k5 i1))))
  (.e (.done (.brk ()))))
  (fun _=> .r<| .it (.r<| .e 13)
  (.r<| .lp (σ:=Int) (β:=Unit) (0) [] [] ⟨[1],[9],fun i2=>[(6,(vI i2))],fun i2=>[]⟩ ⟨[],[],fun _=>[],fun _=>[]⟩
  (fun i2=> .r<| .it (.a1 ((0:Int)≤i2∧i2<(p.racks.length:Int))<| .rg {fr:=[(5,17)],fz:=[17]} []<| .rg {} [.pf ⟨(0:Int)≤0∧(0:Int)<(2:Nat),(by decide)⟩, .pf ⟨(0:Int)≤1∧(1:Int)<(2:Nat),(by decide)⟩]<| .r<| .r<| .it (.r<| .r<| .it (.r<| .e (.done (.ret 13)))
  (.r<| .e (.next (k5 i2))))
  (.r<| .it (.r<| .e (.done (.ret 13)))
  (.r<| .e (.next (k5 i2)))))
  (.e (.done (.brk ()))))
  (fun _=> .r<| .e 0))))))))
theorem wH (p:ai):eH Tryz.prog 6 (k6 p) [] (fun r=>(vB r)) (fun _=>[]) (pW p):=
  fC tT mX Tryz.func6 (
  .rg {fr:=[(0,1)],fz:=[1]} []<| .r<| .it (.r<| .e true)
  (.r<| .lp (σ:=Int) (β:=Unit) (0) [] [] ⟨[1],[],fun i=>[(3,(vI i))],fun i=>[]⟩ ⟨[1],[],fun _=>[],fun _=>[]⟩
  (fun i=> .r<| .it (.a1 (k8 p i)<| .r<| .it (.r<| .e (.done (.ret true)))
  (.r<| .e (.next (k5 i))))
  (.e (.done (.brk ()))))
  (fun _=> .cl 1 (oU p) fun r_=> .r<| .e (bif (decide (r_=0))then(bif (decide (10<p.buses))then true else(decide (16<(p.links.length:Int))))else false))))
theorem aK (n:Int) (u0:Int) (u1:Int):eH Tryz.prog 108 [(sI n),(sI u0),(sI u1)] [] (fun r=>(vB r)) (fun _=>[]) (aQ n u0 u1):=
  fC tT mX Tryz.func108 (
  .r<| .r<| .e (bif (decide (u0≤n))then(decide (n≤u1))else false))
theorem Aj (p:ai):eH Tryz.prog 110 (k6 p) [] (fun r=>(vD (.fn 133 1 (zk [(MN [(.int .i64 r.1),(aR none 5 Source.cell r.2.1),(aR none 6 Link.cell r.2.2.1),(aR none 4 aJ.cell r.2.2.2)] 0)])))) (fun _=>[]) (qQ p):=
  fC tT mX Tryz.func110 (
  .rg {fr:=[(0,1)],fz:=[1]} []<| .r<| .e (p.buses,p.sources,p.links,p.racks))
theorem BQ (p:ai):eH Tryz.prog 112 (k6 p) [] (fun r=>(vD (.fn 136 1 (zk [(MN [(.int .i64 r.1),(aR none 5 Source.cell r.2.1),(aR none 6 Link.cell r.2.2.1),(aR none 4 aJ.cell r.2.2.2)] 0)])))) (fun _=>[]) (uU p):=
  fC tT mX Tryz.func112 (
  .rg {fr:=[(0,1)],fz:=[1]} []<| .r<| .e (p.buses,p.sources,p.links,p.racks))
theorem BS (p:ai):eH Tryz.prog 114 (k6 p) [] (fun r=>(vD (.fn 139 1 (zk [(MN [(.int .i64 r.1),(aR none 5 Source.cell r.2.1),(aR none 6 Link.cell r.2.2.1),(aR none 4 aJ.cell r.2.2.2)] 0)])))) (fun _=>[]) (uZ p):=
  fC tT mX Tryz.func114 (
  .rg {fr:=[(0,1)],fz:=[1]} []<| .r<| .e (p.buses,p.sources,p.links,p.racks))
section
variable (u2:(List Source)) (u3:(List Link)) (u4:(List aJ)) (x1:Int) (r_:Bool) (u0:Bool) (u1:Bool) (u5:Bool) (u6:Bool)
abbrev k10:DV:=(aR none 5 Source.cell u2)
abbrev k11:DV:=(aR none 6 Link.cell u3)
abbrev k12:DV:=(aR none 4 aJ.cell u4)
abbrev k9:DV:=(MN [(.int .i64 x1),(k10 u2),(k11 u3),(k12 u4)] 0)
abbrev k13:=(bif (bif (bif (bif r_ then u0 else false)then u1 else false)then u5 else false)then u6 else false)
end
theorem xZ (x:Source) (x1:Int) (u2:(List Source)) (u3:(List Link)) (u4:(List aJ)):eH Tryz.prog 133 [(.agg [(cI x.bus),(cI x.kind),(cI x.power),(cI x.sync),(cI x.aX)]),(sD (k9 u2 u3 u4 x1))] [] (fun r=>(vB r)) (fun _=>[]) (lT x x1 u2 u3 u4):=
  fC tT mX Tryz.func133 (
  .rg {fr:=[(0,1)],fz:=[1]} []<| .cl 5 (aK x.bus 0 (k3 x1)) fun r_=> .cg 9 [(r_,true)] (aK x.kind 1 3) fun u0=> .cg 14 [((bif r_ then u0 else false),true)] (aK x.power 1 100000) fun u1=> .cg 19 [((bif (bif r_ then u0 else false)then u1 else false),true)] (aK x.sync 0 8) fun u5=> .cg 24 [((bif (bif (bif r_ then u0 else false)then u1 else false)then u5 else false),true)] (aK x.aX 10 100000) fun u6=> .r<| .e (k13 r_ u0 u1 u5 u6))
section
variable (x1:Int) (u0:(List Source)) (u1:(List Link)) (u2:(List aJ))
abbrev k15:=(zk [(k9 u0 u1 u2 x1)])
abbrev k14:DV:=(MN [(.fn 133 1 (k15 x1 u0 u1 u2))] 0)
end
theorem Ah (x:Source) (x1:Int) (u0:(List Source)) (u1:(List Link)) (u2:(List aJ)):eH Tryz.prog 132 [(.agg [(cI x.bus),(cI x.kind),(cI x.power),(cI x.sync),(cI x.aX)]),(sD (k14 x1 u0 u1 u2))] [] (fun r=>(vB r)) (fun _=>[]) (qR x x1 u0 u1 u2):=
  fC tT mX Tryz.func132 (
  .rg {fr:=[(0,1)],fz:=[1]} []<| .cl 2 (xZ x x1 u0 u1 u2) fun r_=> .r<| .e (!r_))
section
variable (s_:(List Source)) (f_:Int) (u0:(List Source)) (u1:(List Link)) (u2:(List aJ))
abbrev k16:List SV:=[(sD (k10 s_)),(sD (.fn 132 1 (zk [(k14 f_ u0 u1 u2)])))]
end
theorem vM (s_:(List Source)) (f_:Int) (u0:(List Source)) (u1:(List Link)) (u2:(List aJ)):eH Tryz.prog 149 (k16 s_ f_ u0 u1 u2) [] (fun r=>(vI r)) (fun _=>[]) (ni s_ f_ u0 u1 u2):=
  fC tT mX Tryz.func149 (
  .r<| .r<| .lp (σ:=Int) (β:=Unit) (0) [] [] ⟨[0,1,7],[],fun t8=>[(8,(vI t8))],fun t8=>[]⟩ ⟨[],[],fun _=>[],fun _=>[]⟩
  (fun t8=> .r<| .it (.r<| .cl 5 (Ah (at' s_ t8.toNat) f_ u0 u1 u2) fun r_=> .a1 ((0:Int)≤t8∧t8<(s_.length:Int))<| .rg {} [0,1]<| .it (.r<| .e (.done (.ret t8)))
  (.r<| .e (.next (k5 t8))))
  (.e (.done (.brk ()))))
  (fun _=> .r<| .e (-1)))
theorem sQ (s_:(List Source)) (f_:Int) (u0:(List Source)) (u1:(List Link)) (u2:(List aJ)):eH Tryz.prog 131 (k16 s_ f_ u0 u1 u2) [] (fun r=>(vB r)) (fun _=>[]) (iK s_ f_ u0 u1 u2):=
  fC tT mX Tryz.func131 (
  .r<| .cl 2 (vM s_ f_ u0 u1 u2) fun r_=> .r<| .e (decide (0≤r_)))
theorem BO (l:(List Source)) (u0:Int) (u1:Int) (u2:(List Source)) (u3:(List Link)) (u4:(List aJ)):eH Tryz.prog 109 [(sD (k10 l)),(sI u0),(sD (.fn 133 1 (k15 u1 u2 u3 u4)))] [] (fun r=>(vB r)) (fun _=>[]) (qz l u0 u1 u2 u3 u4):=
  fC tT mX Tryz.func109 (
  .rg {fr:=[(0,1)],fz:=[1]} []<| .cg 7 [((decide ((l.length:Int)≤u0)),true)] (sQ l u1 u2 u3 u4) fun r_=> .r<| .e (bif (decide ((l.length:Int)≤u0))then(!r_)else false))
theorem zP (x:Link) (x1:Int) (u3:(List Source)) (u4:(List Link)) (u5:(List aJ)):eH Tryz.prog 136 [(.agg (k1 x)),(sD (k9 u3 u4 u5 x1))] [] (fun r=>(vB r)) (fun _=>[]) (og x x1 u3 u4 u5):=
  fC tT mX Tryz.func136 (
  .rg {fr:=[(0,5)]} []<| .cl 5 (aK x.a 0 (k3 x1)) fun r_=> .cg 13 [((!r_),false)] (aK x.b 0 (k3 x1)) fun u1=> .cg 26 [((bif (bif (!r_)then true else(!u1))then true else(decide (x.a=x.b))),false)] (aK x.kind 1 3) fun u6=> .cg 32 [((bif (bif (bif (!r_)then true else(!u1))then true else(decide (x.a=x.b)))then true else(!u6)),false)] (aK x.most 1 100000) fun u8=> .cg 38 [((bif (bif (bif (bif (!r_)then true else(!u1))then true else(decide (x.a=x.b)))then true else(!u6))then true else(!u8)),false)] (aK x.aX 10 100000) fun u9=> .r<| .it (.r<| .e false)
  (.rg {fz:=[5]} []<| .lp (σ:=Int) (β:=Unit) (0) [] [] ⟨[2,48,49],[],fun u0=>[(50,(vI u0))],fun u0=>[]⟩ ⟨[2],[],fun _=>[],fun _=>[]⟩
  (fun u0=> .r<| .it (.a1 (k2 x u0)<| .rg {fr:=[(3,9)],fz:=[9]} []<| .cl 2 (aK ((at' x.trip u0.toNat).amps) 1 1000000) fun u2=> .cg 7 [((!u2),false)] (aK ((at' x.trip u0.toNat).millis) 1 100000) fun u7=> .a2 ((gB [((decide (0<u0)),true),((bif (!u2)then true else(!u7)),false)]=true→(0:Int)≤(k3 u0)∧(k3 u0)<(x.trip.length:Int))) ((gB [(k4 x u0),((decide (0<u0)),true),((bif (!u2)then true else(!u7)),false)]=true→(0:Int)≤(k3 u0)∧(k3 u0)<(x.trip.length:Int)))<| .rg {} [3,2,0,1]<| .it (.r<| .e (.done (.ret false)))
  (.r<| .e (.next (k5 u0))))
  (.e (.done (.brk ()))))
  (fun _=> .r<| .e (bif (decide ((x.trip.length:Int)≤6))then(bif (decide ((x.trip.length:Int)=0))then true else(decide (x.kind=3)))else false))))
section
variable (x1:Int) (u0:(List Source)) (u1:(List Link)) (u2:(List aJ))
abbrev k17:DV:=(MN [(.fn 136 1 (k15 x1 u0 u1 u2))] 0)
end
theorem wM (x:Link) (x1:Int) (u0:(List Source)) (u1:(List Link)) (u2:(List aJ)):eH Tryz.prog 135 [(.agg (k1 x)),(sD (k17 x1 u0 u1 u2))] [] (fun r=>(vB r)) (fun _=>[]) (oK x x1 u0 u1 u2):=
  fC tT mX Tryz.func135 (
  .rg {fr:=[(0,1)],fz:=[1]} []<| .cl 2 (zP x x1 u0 u1 u2) fun r_=> .r<| .e (!r_))
section
variable (s_:(List Link)) (f_:Int) (u0:(List Source)) (u1:(List Link)) (u2:(List aJ)) (t8:Int)
abbrev k18:List SV:=[(sD (k11 s_)),(sD (.fn 135 1 (zk [(k17 f_ u0 u1 u2)])))]
abbrev k19:=((0:Int)≤t8∧t8<(s_.length:Int))
end
theorem sO (s_:(List Link)) (f_:Int) (u0:(List Source)) (u1:(List Link)) (u2:(List aJ)):eH Tryz.prog 150 (k18 s_ f_ u0 u1 u2) [] (fun r=>(vI r)) (fun _=>[]) (kV s_ f_ u0 u1 u2):=
  fC tT mX Tryz.func150 (
  .r<| .r<| .lp (σ:=Int) (β:=Unit) (0) [] [] ⟨[0,1,7],[],fun t8=>[(8,(vI t8))],fun t8=>[]⟩ ⟨[],[],fun _=>[],fun _=>[]⟩
  (fun t8=> .r<| .it (.r<| .cl 5 (wM (at' s_ t8.toNat) f_ u0 u1 u2) fun r_=> .a1 (k19 s_ t8)<| .rg {} [0,1]<| .it (.r<| .e (.done (.ret t8)))
  (.r<| .e (.next (k5 t8))))
  (.e (.done (.brk ()))))
  (fun _=> .r<| .e (-1)))
theorem qy (s_:(List Link)) (f_:Int) (u0:(List Source)) (u1:(List Link)) (u2:(List aJ)):eH Tryz.prog 134 (k18 s_ f_ u0 u1 u2) [] (fun r=>(vB r)) (fun _=>[]) (fP s_ f_ u0 u1 u2):=
  fC tT mX Tryz.func134 (
  .r<| .cl 2 (sO s_ f_ u0 u1 u2) fun r_=> .r<| .e (decide (0≤r_)))
theorem zu (l:(List Link)) (u0:Int) (u1:Int) (u2:(List Source)) (u3:(List Link)) (u4:(List aJ)):eH Tryz.prog 111 [(sD (k11 l)),(sI u0),(sD (.fn 136 1 (k15 u1 u2 u3 u4)))] [] (fun r=>(vB r)) (fun _=>[]) (nR l u0 u1 u2 u3 u4):=
  fC tT mX Tryz.func111 (
  .rg {fr:=[(0,1)],fz:=[1]} []<| .cg 7 [((decide ((l.length:Int)≤u0)),true)] (qy l u1 u2 u3 u4) fun r_=> .r<| .e (bif (decide ((l.length:Int)≤u0))then(!r_)else false))
section
variable (x:aJ)
abbrev k20:List CV:=[(cI x.feeds.e0),(cI x.feeds.e1),(cI x.power),(cI x.paths)]
end
theorem AX (x:aJ):eH Tryz.prog 140 [(.agg (k20 x))] [] (fun r=>(vI r)) (fun _=>[]) (pM x):=
  fC tT mX Tryz.func140 (
  .rg {fr:=[(0,1)],fz:=[1]} []<| .rg {} [.pf ⟨(0:Int)≤1∧(1:Int)<(2:Nat),(by decide)⟩]<| .it (.r<| .e 1)
  (.r<| .e 2))
section
variable (r_:Bool) (u0:Bool) (x:aJ) (u1:Bool)
abbrev k22:=(bif (bif (bif r_ then u0 else false)then(!decide (x.feeds.e0=x.feeds.e1))else false)then u1 else false)
abbrev k21:=((k22 r_ u0 x u1),true)
end
theorem zK (x:aJ) (x1:Int) (u2:(List Source)) (u3:(List Link)) (u4:(List aJ)):eH Tryz.prog 139 [(.agg (k20 x)),(sD (k9 u2 u3 u4 x1))] [] (fun r=>(vB r)) (fun _=>[]) (oH x x1 u2 u3 u4):=
  fC tT mX Tryz.func139 (
  .rg {fr:=[(0,1)],fz:=[1]} []<| .rg {} [.pf ⟨(0:Int)≤0∧(0:Int)<(2:Nat),(by decide)⟩, .pf ⟨(0:Int)≤1∧(1:Int)<(2:Nat),(by decide)⟩]<| .cl 4 (aK x.feeds.e0 0 (k3 x1)) fun r_=> .cg 10 [(r_,true)] (aK x.feeds.e1 (-1) (k3 x1)) fun u0=> .cg 20 [((bif (bif r_ then u0 else false)then(!decide (x.feeds.e0=x.feeds.e1))else false),true)] (aK x.power 1 100000) fun u1=> .cg 26 [(k21 r_ u0 x u1)] (AX x) fun u5=> .cg 27 [(k21 r_ u0 x u1)] (aK x.paths 0 u5) fun u6=> .r<| .e (bif (k22 r_ u0 x u1)then u6 else false))
section
variable (x1:Int) (u0:(List Source)) (u1:(List Link)) (u2:(List aJ))
abbrev k23:DV:=(MN [(.fn 139 1 (k15 x1 u0 u1 u2))] 0)
end
theorem wN (x:aJ) (x1:Int) (u0:(List Source)) (u1:(List Link)) (u2:(List aJ)):eH Tryz.prog 138 [(.agg (k20 x)),(sD (k23 x1 u0 u1 u2))] [] (fun r=>(vB r)) (fun _=>[]) (nX x x1 u0 u1 u2):=
  fC tT mX Tryz.func138 (
  .rg {fr:=[(0,1)],fz:=[1]} []<| .cl 2 (zK x x1 u0 u1 u2) fun r_=> .r<| .e (!r_))
section
variable (s_:(List aJ)) (f_:Int) (u0:(List Source)) (u1:(List Link)) (u2:(List aJ))
abbrev k24:List SV:=[(sD (k12 s_)),(sD (.fn 138 1 (zk [(k23 f_ u0 u1 u2)])))]
end
theorem sU (s_:(List aJ)) (f_:Int) (u0:(List Source)) (u1:(List Link)) (u2:(List aJ)):eH Tryz.prog 151 (k24 s_ f_ u0 u1 u2) [] (fun r=>(vI r)) (fun _=>[]) (kW s_ f_ u0 u1 u2):=
  fC tT mX Tryz.func151 (
  .r<| .r<| .lp (σ:=Int) (β:=Unit) (0) [] [] ⟨[0,1,7],[],fun t8=>[(8,(vI t8))],fun t8=>[]⟩ ⟨[],[],fun _=>[],fun _=>[]⟩
  (fun t8=> .r<| .it (.r<| .cl 5 (wN (⟨((at' s_ t8.toNat).feeds),(at' s_ t8.toNat).power,(at' s_ t8.toNat).paths⟩:aJ) f_ u0 u1 u2) fun r_=> .a1 ((0:Int)≤t8∧t8<(s_.length:Int))<| .rg {} [0,1]<| .it (.r<| .e (.done (.ret t8)))
  (.r<| .e (.next (k5 t8))))
  (.e (.done (.brk ()))))
  (fun _=> .r<| .e (-1)))
theorem qE (s_:(List aJ)) (f_:Int) (u0:(List Source)) (u1:(List Link)) (u2:(List aJ)):eH Tryz.prog 137 (k24 s_ f_ u0 u1 u2) [] (fun r=>(vB r)) (fun _=>[]) (fT s_ f_ u0 u1 u2):=
  fC tT mX Tryz.func137 (
  .r<| .cl 2 (sU s_ f_ u0 u1 u2) fun r_=> .r<| .e (decide (0≤r_)))
theorem zi (l:(List aJ)) (u0:Int) (u1:Int) (u2:(List Source)) (u3:(List Link)) (u4:(List aJ)):eH Tryz.prog 113 [(sD (k12 l)),(sI u0),(sD (.fn 139 1 (k15 u1 u2 u3 u4)))] [] (fun r=>(vB r)) (fun _=>[]) (nN l u0 u1 u2 u3 u4):=
  fC tT mX Tryz.func113 (
  .rg {fr:=[(0,1)],fz:=[1]} []<| .cg 7 [((decide ((l.length:Int)≤u0)),true)] (qE l u1 u2 u3 u4) fun r_=> .r<| .e (bif (decide ((l.length:Int)≤u0))then(!r_)else false))
theorem uG (p:ai):eH Tryz.prog 83 (k6 p) [] (fun r=>(vI r)) (fun _=>[]) (mG p):=
  fC tT mX Tryz.func83 (
  .rg {fr:=[(0,1)],fz:=[1]} []<| .cl 2 (aK p.buses 1 24) fun r_=> .r<| .it (.r<| .e 10)
  (.cl 3 (Aj p) fun u0=> .cl 4 (BO p.sources 8 u0.1 u0.2.1 u0.2.2.1 u0.2.2.2) fun u3=> .r<| .it (.r<| .e 11)
  (.cl 3 (BQ p) fun u1=> .cl 4 (zu p.links 40 u1.1 u1.2.1 u1.2.2.1 u1.2.2.2) fun u4=> .r<| .it (.r<| .e 12)
  (.cl 3 (BS p) fun u2=> .cl 4 (zi p.racks 24 u2.1 u2.2.1 u2.2.2.1 u2.2.2.2) fun u5=> .r<| .it (.r<| .e 13)
  (.r<| .e 0)))))
section
variable (s_:State) (p:ai) (u0:Int)
abbrev k26:List CV:=[(.d (aR none 1 af s_.closed)),(.d (aR none 1 af s_.locked)),(.d (aR none 1 af s_.badLink)),(.d (aR none 1 af s_.on_)),(.d (aR none 1 af s_.badSource)),(.d (aR none 1 af s_.earthed)),(.d (aR none 1 af s_.badBus))]
abbrev k25:List SV:=[(.agg (k0 p)),(.agg (k26 s_))]
abbrev k27:=(⟨s_.closed,(p.links.length:Int)⟩:bS)
abbrev k28:=(⟨s_.locked,(p.links.length:Int)⟩:bS)
abbrev UA:=(⟨s_.badLink,(p.links.length:Int)⟩:bS)
abbrev Vv:=(⟨s_.on_,(p.sources.length:Int)⟩:bS)
abbrev VA:=(⟨s_.badSource,(p.sources.length:Int)⟩:bS)
abbrev XE:=(au bS.cell [(k27 s_ p),(k28 s_ p),(UA s_ p),(Vv s_ p),(VA s_ p),(⟨s_.earthed,p.buses⟩:bS),(⟨s_.badBus,p.buses⟩:bS)])
abbrev Xq:=((gB [((decide (((at' p.links u0.toNat).kind)=1)),true)]=true→(0:Int)≤u0∧u0<(s_.closed.length:Int)))
abbrev Xo:=((gB [((!(at' s_.closed u0.toNat)),false),((decide (((at' p.links u0.toNat).kind)=1)),true)]=true→(0:Int)≤u0∧u0<(s_.locked.length:Int)))
end
theorem fE (p:ai) (s_:State):eH Tryz.prog 35 (k25 s_ p) [] (fun r=>(vI r)) (fun _=>[]) (dB p s_):=
  fC tT mX Tryz.func35 (
  .rg {fr:=[(0,11),(1,12)]} []<| .cl 1 (uG p) fun r_=> .r<| .r<| .it (.r<| .e r_)
  (.r<| .rg {an:=[(30, .arr [(k27 s_ p),(k28 s_ p),(UA s_ p),(Vv s_ p),(VA s_ p),(⟨s_.earthed,p.buses⟩:bS),(⟨s_.badBus,p.buses⟩:bS)].length (XE s_ p))],fr:=[(30,13)],fz:=[12]} [.pf ⟨[(k27 s_ p),(k28 s_ p),(UA s_ p),(Vv s_ p),(VA s_ p),(⟨s_.earthed,p.buses⟩:bS),(⟨s_.badBus,p.buses⟩:bS)].length=7,rfl⟩, .pf ⟨aB 7 2 (lM 2 [(aR none 1 af s_.closed),(.int .i64 (p.links.length:Int)),(aR none 1 af s_.locked),(.int .i64 (p.links.length:Int)),(aR none 1 af s_.badLink),(.int .i64 (p.links.length:Int)),(aR none 1 af s_.on_),(.int .i64 (p.sources.length:Int)),(aR none 1 af s_.badSource),(.int .i64 (p.sources.length:Int)),(aR none 1 af s_.earthed),(.int .i64 p.buses),(aR none 1 af s_.badBus),(.int .i64 p.buses)]) (XE s_ p),(by intro i hi j hj;match i,j,hi,hj with|0,0,_,_=>rfl|0,1,_,_=>rfl|1,0,_,_=>rfl|1,1,_,_=>rfl|2,0,_,_=>rfl|2,1,_,_=>rfl|3,0,_,_=>rfl|3,1,_,_=>rfl|4,0,_,_=>rfl|4,1,_,_=>rfl|5,0,_,_=>rfl|5,1,_,_=>rfl|6,0,_,_=>rfl|6,1,_,_=>rfl)⟩]<| .lp (σ:=Int) (β:=Unit) (0) [] [] ⟨[2,3,53,54],[11,13],fun u1=>[(55,(vI u1))],fun u1=>[]⟩ ⟨[2,3],[11],fun _=>[],fun _=>[]⟩
  (fun u1=> .r<| .it (.a1 ((0:Int)≤u1∧u1<([(k27 s_ p),(k28 s_ p),(UA s_ p),(Vv s_ p),(VA s_ p),(⟨s_.earthed,p.buses⟩:bS),(⟨s_.badBus,p.buses⟩:bS)].length:Int))<| .rg {fr:=[(2,17)],fz:=[17]} [0, .t 0 u1 ([(k27 s_ p),(k28 s_ p),(UA s_ p),(Vv s_ p),(VA s_ p),(⟨s_.earthed,p.buses⟩:bS),(⟨s_.badBus,p.buses⟩:bS)].length)]<| .r<| .it (.r<| .e (.done (.ret 9)))
  (.r<| .e (.next (k5 u1))))
  (.e (.done (.brk ()))))
  (fun _=> .r<| .lp (σ:=Int) (β:=Unit) (0) [] [] ⟨[3,67,68],[],fun u0=>[(69,(vI u0))],fun u0=>[]⟩ ⟨[],[],fun _=>[],fun _=>[]⟩
  (fun u0=> .r<| .it (.a1 (k8 p u0)<| .rg {fr:=[(3,21)],fz:=[21]} []<| .a2 (Xq s_ p u0) (Xo s_ p u0)<| .rg {} [0,1]<| .it (.r<| .e (.done (.ret 9)))
  (.r<| .e (.next (k5 u0))))
  (.e (.done (.brk ()))))
  (fun _=> .r<| .e 0))))
section
variable (s_:(List Bool))
abbrev Oh:=(([]:List Bool)++s_)
abbrev U2:=(au af (Oh s_))
end
theorem pY (s_:(List Bool)) (u0:Bool):eH Tryz.prog 84 [(sD (aR (some u0) 1 af s_))] [] (fun r=>(vO 0 false r.length)) (fun r=>[(0,some (aV 4 1 af r))]) (rq s_ u0):=
  fC tT mX Tryz.func84 (
  .r<| .r<| .it (.r<| .im (.ad 2 2 4 1 (au af ([]:List Bool)))<| .en ([]:List Bool) [] [(2,0)])
  (.a2 ((([]:List Bool).length+s_.length)*1≤140737488355328) (([]:List Bool).length+s_.length≤4611686018427387904)<| .rg {an:=[(0, .arr ([]:List Bool).length (au af ([]:List Bool))),(2, .arr (Oh s_).length (U2 s_))],fr:=[(0,3),(2,4)]} [.pf ⟨([]:List Bool).length=0,rfl⟩, .pf ⟨aB 0 1 (lM 1 []) (au af ([]:List Bool)),(fun i hi=>absurd hi (Nat.not_lt_zero i))⟩, .e (([]:List Bool).length),0,1, .pf ⟨(Oh s_).length=([]:List Bool).length+s_.length,List.length_append⟩, .pf ⟨aB (([]:List Bool).length+s_.length) 1 (oM (au af ([]:List Bool)) ([]:List Bool).length (au af s_)) (U2 s_),bD _ _ _ _⟩]<| .en (Oh s_) [] [(4,0)]))
theorem aO (s:(List Bool)) {r:(List Bool)} (h:aS s=some r):Fn Tryz.prog 84 [(sD (aR none 1 af s))] [] (vO 0 false r.length) [(0,some (aV 4 1 af r))]:=by
 refine Fn.nn (pY s true h) fun hl=> ?_
 have hs:s=[]:=List.eq_nil_of_length_eq_zero hl
 subst hs
 exact pY [] false (by rw [←h];kernel_rfl)
section
variable (p:ai) (s_:State) (k:Int)
abbrev NE:List SV:=[(.agg (k0 p)),(.agg (k26 s_)),(sI k)]
abbrev WN:=((gB [((at' s_.on_ k.toNat),true)]=true→(0:Int)≤k∧k<(s_.badSource.length:Int)))
abbrev XC:=((gB [((bif (at' s_.on_ k.toNat)then(!(at' s_.badSource k.toNat))else false),true)]=true→(0:Int)≤k∧k<(p.sources.length:Int)))
abbrev Xi:=((gB [((bif (at' s_.on_ k.toNat)then(!(at' s_.badSource k.toNat))else false),true)]=true→(0:Int)≤(at' p.sources k.toNat).bus∧(at' p.sources k.toNat).bus<(s_.badBus.length:Int)))
abbrev TK:=((at' p.sources k.toNat).bus)
abbrev Xu:=(bif (bif (at' s_.on_ k.toNat)then(!(at' s_.badSource k.toNat))else false)then(!(at' s_.badBus ((TK p k).toNat)))else false)
end
theorem BJ (p:ai) (s_:State) (k:Int):eH Tryz.prog 71 (NE p s_ k) [] (fun r=>(vB r)) (fun _=>[]) (qC p s_ k):=
  fC tT mX Tryz.func71 (
  .rg {fr:=[(0,2),(1,3)],fz:=[2,3]} []<| .a4 ((0:Int)≤k∧k<(s_.on_.length:Int)) (WN s_ k) (XC p s_ k) (Xi p s_ k)<| .rg {} [0,1,2,3]<| .e (Xu p s_ k))
section
variable (s_:State) (i:Int) (p:ai)
abbrev XQ:=((gB [((at' s_.closed i.toNat),true)]=true→(0:Int)≤i∧i<(s_.badLink.length:Int)))
abbrev XP:=((gB [((bif (at' s_.closed i.toNat)then(!(at' s_.badLink i.toNat))else false),true)]=true→(0:Int)≤(at' p.links i.toNat).a∧(at' p.links i.toNat).a<(s_.badBus.length:Int)))
abbrev NN:=((at' p.links i.toNat).a)
abbrev TN:=((NN i p).toNat)
abbrev XR:=(bif (bif (at' s_.closed i.toNat)then(!(at' s_.badLink i.toNat))else false)then(!(at' s_.badBus (TN i p)))else false)
abbrev Xl:=((XR s_ i p),true)
abbrev XK:=((gB [(Xl s_ i p)]=true→(0:Int)≤(at' p.links i.toNat).b∧(at' p.links i.toNat).b<(s_.badBus.length:Int)))
abbrev NH:=((at' p.links i.toNat).b)
abbrev Xz:=(bif (XR s_ i p)then(!(at' s_.badBus ((NH i p).toNat)))else false)
end
theorem yM (p:ai) (s_:State) (i:Int):eH Tryz.prog 73 (NE p s_ i) [] (fun r=>(vB r)) (fun _=>[]) (mM p s_ i):=
  fC tT mX Tryz.func73 (
  .rg {fr:=[(0,3),(1,4)],fz:=[4]} []<| .a1 (k8 p i)<| .rg {fr:=[(5,5)],fz:=[5]} []<| .a4 ((0:Int)≤i∧i<(s_.closed.length:Int)) (XQ s_ i) (XP s_ i p) (XK s_ i p)<| .rg {} [0,1,2,3]<| .e (Xz s_ i p))
theorem nD (s_:(List Int)) (u0:Bool):eH Tryz.prog 127 [(sD (aR (some u0) 1 (aL .i64) s_))] [] (fun r=>(vO 0 false r.length)) (fun r=>[(0,some (aV 3 1 (aL .i64) r))]) (oL s_ u0):=
  fC tT mX Tryz.func127 (
  .r<| .r<| .it (.r<| .im (.ad 2 2 3 1 (au (aL .i64) ([]:List Int)))<| .en ([]:List Int) [] [(2,0)])
  (.a2 ((([]:List Int).length+s_.length)*8≤140737488355328) (([]:List Int).length+s_.length≤4611686018427387904)<| .rg {an:=[(0, .arr ([]:List Int).length (au (aL .i64) ([]:List Int))),(2, .arr (([]:List Int)++s_).length (au (aL .i64) (([]:List Int)++s_)))],fr:=[(0,3),(2,4)]} [.pf ⟨([]:List Int).length=0,rfl⟩, .pf ⟨aB 0 1 (lM 1 []) (au (aL .i64) ([]:List Int)),(fun i hi=>absurd hi (Nat.not_lt_zero i))⟩, .e (([]:List Int).length),0,1, .pf ⟨(([]:List Int)++s_).length=([]:List Int).length+s_.length,List.length_append⟩, .pf ⟨aB (([]:List Int).length+s_.length) 1 (oM (au (aL .i64) ([]:List Int)) ([]:List Int).length (au (aL .i64) s_)) (au (aL .i64) (([]:List Int)++s_)),bD _ _ _ _⟩]<| .en (([]:List Int)++s_) [] [(4,0)]))
theorem rQ (s:(List Int)) {r:(List Int)} (h:gQ s=some r):Fn Tryz.prog 127 [(sD (aR none 1 (aL .i64) s))] [] (vO 0 false r.length) [(0,some (aV 3 1 (aL .i64) r))]:=by
 refine Fn.nn (nD s true h) fun hl=> ?_
 have hs:s=[]:=List.eq_nil_of_length_eq_zero hl
 subst hs
 exact nD [] false (by rw [←h];kernel_rfl)
theorem wY (x:Int):eH Tryz.prog 153 [(sI x)] [] (fun r=>(vB r)) (fun _=>[]) (rV x):=
  fC tT mX Tryz.func153 (
  .r<| .r<| .e (!decide (x=x)))
theorem AY (x:Int) (y:Int):eH Tryz.prog 145 [(sI x),(sI y)] [] (fun r=>(vI r)) (fun _=>[]) (pJ x y):=
  fC tT mX Tryz.func145 (
  .r<| .cl 1 (wY x) fun r_=> .r<| .cl 1 (wY y) fun u0=> .r<| .r<| .it (.r<| .it (.r<| .e 0)
  (.r<| .e (-1)))
  (.r<| .it (.r<| .e 1)
  (.r<| .it (.r<| .e (-1))
  (.r<| .it (.r<| .e 1)
  (.r<| .e 0)))))
section
variable (s1:(List Int)) (u0:Int)
abbrev Lh:DV:=(aR none 1 (aL .i64) s1)
abbrev GJ:=((0:Int)≤u0∧u0<(s1.length:Int))
end
theorem xS (s1:(List Int)) (s2:(List Int)):eH Tryz.prog 126 [(sD (Lh s1)),(sD (Lh s2))] [] (fun r=>(vI r)) (fun _=>[]) (oV s1 s2):=
  fC tT mX Tryz.func126 (
  .r<| .r<| .lp (σ:=Int) (β:=Unit) (0) [] [] ⟨[0,1,9,10],[],fun u0=>[(11,(vI u0))],fun u0=>[]⟩ ⟨[0,1],[],fun _=>[],fun _=>[]⟩
  (fun u0=> .r<| .it (.a1 (GJ s1 u0)<| .r<| .r<| .it (.r<| .e (.done (.ret 1)))
  (.a1 (GJ s2 u0)<| .r<| .cl 2 (AY (at' s1 u0.toNat) (at' s2 u0.toNat)) fun r_=> .r<| .r<| .it (.r<| .e (.done (.ret r_)))
  (.r<| .e (.next (k5 u0)))))
  (.e (.done (.brk ()))))
  (fun _=> .r<| .it (.r<| .e (-1))
  (.r<| .e 0)))
theorem Iu (u0:(List Int)):eH Tryz.prog 125 [(sD (Lh u0))] [] (fun r=>(vI r)) (fun _=>[]) (zM u0):=
  fC tT mX Tryz.func125 (
  .r<| .r<| .r<| .lp (σ:=Int) (β:=Unit) (0) [] [] ⟨[3,6,7],[],fun t8=>[(8,(vI t8))],fun t8=>[]⟩ ⟨[3],[],fun _=>[],fun _=>[]⟩
  (fun t8=> .r<| .it (.a1 (GJ u0 t8)<| .r<| .r<| .it (.r<| .e (.done (.ret (at' u0 t8.toNat))))
  (.r<| .e (.next (k5 t8))))
  (.e (.done (.brk ()))))
  (fun _=> .r<| .e 0))
section
variable (a:Way) (b:Way) (r_:Int)
abbrev PX:=(IntKind.wrap .i64 (a.aX - b.aX))
abbrev PV:=(IntKind.wrap .i64 ((a.links.length:Int) - (b.links.length:Int)))
abbrev XL:List (Nat × Option Ob):=[(5,some (aV 3 1 (aL .i64) [(PX a b),(PV a b),r_]))]
abbrev XA:=(au (aL .i64) [(PX a b),(PV a b),r_])
end
theorem Ba (a:Way) (b:Way):eH Tryz.prog 124 [(.agg [(cB a.there),(cI a.aX),(.d (aR none 1 (aL .i64) a.links))]),(.agg [(cB b.there),(cI b.aX),(.d (aR none 1 (aL .i64) b.links))])] [] (fun r=>(vB r)) (fun _=>[]) (jA a b):=
  fC tT mX Tryz.func124 (
  .rg {fr:=[(0,3),(1,4)],fz:=[3,4]} []<| .fk (!b.there) (.rg {ov:=[(3,true,0)],sk:=[4,5,6,7,8,9,10,11,12,13,14,15,16,17,18,19,20,21,22,23]} []<| .e true)
  (.cl 20 (xS a.links b.links) fun r_=> .cr 22 ⟨fun{u0} hr_1=>((Fn.wX (frz:=[5]) (p:=[[(PX a b),(PV a b),r_].length=[(PX a b),(PV a b),r_].length]) (Fn.le (args':=[(sD (aR (some true) 1 (aL .i64) [(PX a b),(PV a b),r_]))]) (Iu [(PX a b),(PV a b),r_] hr_1) (by exact⟨yh.one (gN.d iY.mh),trivial⟩)) (by kernel_rfl) ⟨rfl,trivial⟩ rfl):Fn Tryz.prog 125 [(.one (.own 5 true ([(PX a b),(PV a b),r_].length)))] (XL a b r_) (vI u0) (XL a b r_))⟩ fun u0=> .rg {an:=[(21, .arr [(PX a b),(PV a b),r_].length (XA a b r_))],fr:=[(21,5)],ov:=[(3,false,2)]} [.k 1, .pf ⟨[(PX a b),(PV a b),r_].length=3,rfl⟩, .pf ⟨aB 3 1 (lM 1 [(.int .i64 (PX a b)),(.int .i64 (PV a b)),(.int .i64 r_)]) (XA a b r_),(by intro i hi j hj;match i,j,hi,hj with|0,0,_,_=>rfl|1,0,_,_=>rfl|2,0,_,_=>rfl)⟩, .k 0]<| .e (decide (u0<0))))
theorem Af (s_:(List Int)) (v_:Int):eH Tryz.prog 129 [(sD (Lh s_)),(sI v_)] [] (fun r=>(vI r)) (fun _=>[]) (rG s_ v_):=
  fC tT mX Tryz.func129 (
  .r<| .r<| .lp (σ:=Int) (β:=Unit) (0) [] [] ⟨[0,1,7],[],fun t8=>[(8,(vI t8))],fun t8=>[]⟩ ⟨[],[],fun _=>[],fun _=>[]⟩
  (fun t8=> .r<| .it (.r<| .a1 (GJ s_ t8)<| .r<| .it (.r<| .e (.done (.ret t8)))
  (.r<| .e (.next (k5 t8))))
  (.e (.done (.brk ()))))
  (fun _=> .r<| .e (-1)))
theorem wh (s_:(List Int)) (v_:Int):eH Tryz.prog 102 [(sD (Lh s_)),(sI v_)] [] (fun r=>(vB r)) (fun _=>[]) (kY s_ v_):=
  fC tT mX Tryz.func102 (
  .r<| .cl 2 (Af s_ v_) fun r_=> .r<| .e (decide (0≤r_)))
section
variable (o_:(List Int))
abbrev Jg:Ob:=(aV 3 1 (aL .i64) o_)
abbrev TP:List (Nat × Option Ob):=[(0,some (.cells 35 [(.own 1 true o_.length)])),(1,some (Jg o_))]
end
theorem xV (i:Int) (o_:(List Int)):eH Tryz.prog 101 [(sI i),(.one (.ptr 0 0))] (TP o_) (fun r=>(vB r)) (fun r=>(TP o_)) (pu i o_):=
  fC tT mX Tryz.func101 (
  .r<| .r<| .e (bif (decide (i<0))then true else(decide ((o_.length:Int)≤i))))
theorem sN (s_:(List Int)) (o_:(List Int)):eH Tryz.prog 128 [(sD (Lh s_)),(.one (.fn 101 0 1 (Kz [(.ptr 0 0)])))] (TP o_) (fun r=>(vI r)) (fun r=>(TP o_)) (kR s_ o_):=
  fC tT mX Tryz.func128 (
  .r<| .r<| .lp (σ:=Int) (β:=Unit) (0) [] [] ⟨[0,1,7],[0,1],fun t8=>[(8,(vI t8))],fun t8=>[]⟩ ⟨[],[0,1],fun _=>[],fun _=>[]⟩
  (fun t8=> .r<| .it (.r<| .cr 5 (xV (at' s_ t8.toNat) o_) fun r_=> .a1 (GJ s_ t8)<| .rg {} [0,1]<| .it (.r<| .e (.done (.ret t8)))
  (.r<| .e (.next (k5 t8))))
  (.e (.done (.brk ()))))
  (fun _=> .r<| .e (-1)))
theorem qV (s_:(List Int)) (o_:(List Int)):eH Tryz.prog 100 [(sD (Lh s_)),(.one (.fn 101 0 1 (Kz [(.ptr 0 0)])))] (TP o_) (fun r=>(vB r)) (fun r=>(TP o_)) (gu s_ o_):=
  fC tT mX Tryz.func100 (
  .r<| .cr 2 (sN s_ o_) fun r_=> .r<| .e (decide (0≤r_)))
section
variable (p:ai) (l:(List Short)) (u3:(List Int)) (u2:Int) (u0:(List Int)) (u1:Int)
abbrev Xw:List SV:=[(.agg (k0 p)),(sD (aR none 4 Short.cell l))]
abbrev UH:=((0:Int)≤(p.links.length:Int))
abbrev WK:=((8:Int)*(p.links.length:Int)≤281474976710656)
abbrev Wj:=(((p.links.length:Int):Int)≤9223372036854775807)
abbrev NJ:=((p.links.length:Int).toNat)
abbrev MW:=(List.replicate (NJ p) (0:Int))
abbrev RD:=(au (aL .i64) (MW p))
abbrev UE:=(((p.links.length:Int):Int))
abbrev WB:List (Nat × Option Ob):=[(8,some (Jg u3)),(9,some (.cells 35 [(.own 8 true u3.length)]))]
abbrev U0:=((0:Int)≤u2∧u2<(l.length:Int))
abbrev WH:=(u0.set u1.toNat (IntKind.wrap .i64 ((at' u0 u1.toNat)+((at' l u2.toNat).amps))))
abbrev Ww:=(au (aL .i64) (WH l u2 u0 u1))
abbrev Xp:=(iH (au (aL .i64) u0) u1.toNat 0 [(.int .i64 (IntKind.wrap .i64 ((at' u0 u1.toNat)+((at' l u2.toNat).amps))))])
abbrev Xr:=((WH l u2 u0 u1),(k5 u1))
abbrev P8:=(u0,(k5 u1))
end
theorem Am (p:ai) (l:(List Short)):eH Tryz.prog 70 (Xw p l) [] (fun r=>(.iq [(sD (aR (some r.2.1) 1 (aL .i64) r.1)),(sI r.2.2)])) (fun _=>[]) (lu p l):=
  fC tT mX Tryz.func70 (
  .rg {fr:=[(0,7)],fz:=[7]} []<| .cl 1 (uG p) fun r_=> .r<| .r<| .it (.r<| .e (([]:List Int),false,r_))
  (.r<| .it (.r<| .e (([]:List Int),false,1))
  (.a3 (UH p) (WK p) (Wj p)<| .rg {an:=[(3, .arr (MW p).length (RD p))],fr:=[(3,8),(4,9)]} [0, .e (UE p),1,2, .pf ⟨(MW p).length=(NJ p),List.length_replicate⟩, .pf ⟨aB (NJ p) 1 (fun _ j=>[(.int .i64 0)].getD j .nilp) (RD p),bY _ _ _ _ _ (fun j hj=>(match j,hj with|0,_=>rfl))⟩]<| .r<| .lp (σ:=((List Int) × Int)) (β:=(List Int)) ((MW p),0) [] [] ⟨[7,23,24],[],fun(u3,u2)=>[(25,(vI u2))],fun(u3,u2)=>(WB u3)⟩ ⟨[7],[],fun u4=>[],fun u4=>(WB u4)⟩
  (fun(u3,u2)=> .r<| .it (.a1 (U0 l u2)<| .rg {fr:=[(2,13)],fz:=[13]} []<| .TF 12 [((bif (decide (((at' l u2.toNat).amps)<0))then true else(decide (1000000<((at' l u2.toNat).amps)))),false)] (nJ [(0,9),(1,8)] (qV ((at' l u2.toNat).links) u3)) fun u6=> .r<| .it (.r<| .e (.done (.ret (([]:List Int),false,1))))
  (.r<| .lp (σ:=((List Int) × Int)) (β:=(List Int)) (u3,0) [] [] ⟨[7,9,23,24,25,44],[],fun(u0,u1)=>[(45,(vI u1))],fun(u0,u1)=>(WB u0)⟩ ⟨[7,23,24,25],[],fun u5=>[],fun u5=>(WB u5)⟩
  (fun(u0,u1)=> .r<| .it (.r<| .cl 3 (wh ((at' l u2.toNat).links) u1) fun u7=> .r<| .it (.a1 (GJ u0 u1)<| .rg {an:=[(8, .arr 0 (Ww l u2 u0 u1))]} [0, .t 0 u1 u0.length,0, .t 0 u1 u0.length, .pf ⟨aB u0.length 1 (Xp l u2 u0 u1) (Ww l u2 u0 u1),bJ _ _ _ _ _ _ _ _ rfl (fun j hj=>(match j,hj with|0,_=>rfl))⟩]<| .im (.ll 8 u0 (WH l u2 u0 u1))<| .r<| .e (.next (Xr l u2 u0 u1)))
  (.r<| .e (.next (P8 u0 u1))))
  (.e (.done (.brk u0))))
  (fun u5=> .r<| .e (.next (P8 u5 u2)))))
  (.e (.done (.brk u3))))
  (fun u4=> .rg {fz:=[8]} []<| .e (u4,true,0)))))
section
variable (s_:State)
abbrev Xj:List SV:=[(.agg (k26 s_))]
end
theorem wQ (s_:State):eH Tryz.prog 36 (Xj s_) [] (fun r=>(.v (.agg [(.own 0 false r.closed.length),(.own 1 false r.locked.length),(.own 2 false r.badLink.length),(.own 3 false r.on_.length),(.own 4 false r.badSource.length),(.own 5 false r.earthed.length),(.own 6 false r.badBus.length)]))) (fun r=>[(0,some (aV 4 1 af r.closed)),(1,some (aV 4 1 af r.locked)),(2,some (aV 4 1 af r.badLink)),(3,some (aV 4 1 af r.on_)),(4,some (aV 4 1 af r.badSource)),(5,some (aV 4 1 af r.earthed)),(6,some (aV 4 1 af r.badBus)),(7,none)]) (oC s_):=
  fC tT mX Tryz.func36 (
  .rg {fr:=[(0,9),(1,10)],fz:=[9]} []<| .cl 2 (nJ [(0,11)] ⟨fun h=>aO s_.closed h⟩) fun r_=> .cl 5 (nJ [(0,12)] ⟨fun h=>aO s_.locked h⟩) fun u0=> .cl 8 (nJ [(0,13)] ⟨fun h=>aO s_.badLink h⟩) fun u1=> .cl 11 (nJ [(0,14)] ⟨fun h=>aO s_.on_ h⟩) fun u2=> .cl 14 (nJ [(0,15)] ⟨fun h=>aO s_.badSource h⟩) fun u3=> .cl 17 (nJ [(0,16)] ⟨fun h=>aO s_.earthed h⟩) fun u4=> .cl 20 (nJ [(0,17)] ⟨fun h=>aO s_.badBus h⟩) fun u5=> .r<| .en (⟨r_,u0,u1,u2,u3,u4,u5⟩:State) [] [(11,0),(12,1),(13,2),(14,3),(15,4),(16,5),(17,6),(10,7)])
section
variable (s_:State) (p:ai) (u3:Int) (u6:(List Way)) (u0:Int) (u1:Int) (u2:(List Way)) (u4:(List Int))
abbrev Wt:List CV:=[(.own 0 false s_.closed.length),(.own 1 false s_.locked.length),(.own 2 false s_.badLink.length),(.own 3 false s_.on_.length),(.own 4 false s_.badSource.length),(.own 5 false s_.earthed.length),(.own 6 false s_.badBus.length)]
abbrev Qd:List SV:=[(.agg (k0 p)),(.agg (Wt s_)),(sI u3)]
abbrev AA:List (Nat × Option Ob):=[(0,some (aV 4 1 af s_.closed)),(1,some (aV 4 1 af s_.locked)),(2,some (aV 4 1 af s_.badLink)),(3,some (aV 4 1 af s_.on_)),(4,some (aV 4 1 af s_.badSource)),(5,some (aV 4 1 af s_.earthed)),(6,some (aV 4 1 af s_.badBus))]
abbrev TY:=((p.buses:Int)≤9223372036854775807)
abbrev NF:=(List.replicate p.buses.toNat ((⟨false,0,([]:List Int)⟩:Way):Way))
abbrev XO:=(au Way.cell (NF p))
abbrev Xg:=((NF p).set u3.toNat (⟨true,(at' (NF p) u3.toNat).aX,(at' (NF p) u3.toNat).links⟩:Way))
abbrev Xx:=(au Way.cell (Xg p u3))
abbrev TM:List (Nat × Option Ob):=[(412,some (aV 182 3 Way.cell u6))]
abbrev Xh:=(⟨(at' p.links u0.toNat).a,(at' p.links u0.toNat).b⟩:aM)
abbrev Xk:=(⟨(at' p.links u0.toNat).b,(at' p.links u0.toNat).a⟩:aM)
abbrev TR:=(at' [(Xh p u0),(Xk p u0)] u1.toNat)
abbrev Xc:=((TR p u0 u1).e0)
abbrev WG:=((TR p u0 u1).e1)
abbrev Xn:List DV:=[(.int .i64 (Xc p u0 u1)),(.int .i64 (WG p u0 u1))]
abbrev XH:List CV:=[(cI (NN u0 p)),(cI (NH u0 p)),(cI (NH u0 p)),(cI (NN u0 p))]
abbrev Xt:=(at' u2 ((Xc p u0 u1).toNat))
abbrev Wu:=((u4.length+[u0].length)*8≤140737488355328)
abbrev Wy:=(u4.length+[u0].length≤4611686018427387904)
abbrev Rz:=(au (aL .i64) (u4++[u0]))
abbrev WI:=(oM (au (aL .i64) u4) u4.length (au (aL .i64) [u0]))
abbrev XF:=(IntKind.wrap .i64 (((Xt p u0 u1 u2).aX)+((at' p.links u0.toNat).aX)))
abbrev XJ:=(⟨true,(XF p u0 u1 u2),(u4++[u0])⟩:Way)
abbrev WQ:=((WG p u0 u1).toNat)
abbrev Vl:=((0:Int)≤(TR p u0 u1).e1∧(TR p u0 u1).e1<(u2.length:Int))
abbrev Tj:=(u2.set (WQ p u0 u1) (XJ p u0 u1 u2 u4))
abbrev Vr:=(au Way.cell (Tj p u0 u1 u2 u4))
end
theorem zZ (p:ai) (s_:State) (u3:Int):eH Tryz.prog 99 (Qd s_ p u3) (AA s_) (fun r=>(vO 7 true r.length)) (fun r=>[(0,some (aV 4 1 af s_.closed)),(1,some (aV 4 1 af s_.locked)),(2,some (aV 4 1 af s_.badLink)),(3,some (aV 4 1 af s_.on_)),(4,some (aV 4 1 af s_.badSource)),(5,some (aV 4 1 af s_.earthed)),(6,some (aV 4 1 af s_.badBus)),(7,some (aV 182 3 Way.cell r))]) (nE p s_ u3):=
  fC tT mX Tryz.func99 (
  .rg {fr:=[(0,410),(1,411)]} []<| .r<| .a3 ((0:Int)≤p.buses) ((40:Int)*p.buses≤281474976710656) (TY p)<| .rg {an:=[(2, .arr (NF p).length (fun _ j=>[(.bool false),(.int .i64 0),nS].getD j .nilp))],fr:=[(2,412)]} [0, .e ((p.buses:Int)),1,2, .pf ⟨(NF p).length=p.buses.toNat,List.length_replicate⟩, .pf ⟨aB p.buses.toNat 3 (fun _ j=>[(.bool false),(.int .i64 0),nS].getD j .nilp) (fun _ j=>[(.bool false),(.int .i64 0),nS].getD j .nilp),iE _ _ _⟩]<| .im (.uh 412 (some (.arr 182 3 (NF p).length (fun _ j=>[(.bool false),(.int .i64 0),nS].getD j .nilp))) (some (.arr 182 3 (NF p).length (XO p))) (Cf (Vf _ _ _ _ _ (fun j hj=>match j,hj with|0,_=> .refl _|1,_=> .refl _|2,_=>iY.nil'))))<| .a1 ((0:Int)≤u3∧u3<((NF p).length:Int))<| .rg {an:=[(4, .arr 0 (Xx p u3))]} [0, .t 0 u3 ((NF p).length), .pf ⟨aB (NF p).length 3 (iH (XO p) u3.toNat 0 [(.bool true)]) (Xx p u3),bJ _ _ _ _ _ _ _ _ rfl (fun j hj=>(match j,hj with|0,_=>rfl|1,_=>rfl|2,_=>rfl))⟩]<| .im (.ll 412 (NF p) (Xg p u3))<| .r<| .lp (σ:=((List Way) × Bool)) (β:=(List Way)) ((Xg p u3),true) [] [] ⟨[3,4,7],[0,1,2,3,4,5,6,410,411],fun(u6,v4)=>[(8,(vO 412 true u6.length)),(9,(vB v4))],fun(u6,v4)=>(TM u6)⟩ ⟨[],[0,1,2,3,4,5,6],fun u9=>[(8,(vO 412 true u9.length))],fun u9=>(TM u9)⟩
  (fun(u6,v4)=> .r<| .it (.r<| .r<| .lp (σ:=((List Way) × Bool × Int)) (β:=((List Way) × Bool)) (u6,false,0) [] [] ⟨[3,4,7,26,27],[0,1,2,3,4,5,6,410,411],fun(u5,u7,u0)=>[(8,(vO 412 true u5.length)),(9,(vB u7)),(28,(vI u0))],fun(u5,u7,u0)=>(TM u5)⟩ ⟨[3,4,7],[0,1,2,3,4,5,6,410,411],fun(v0,v2)=>[(8,(vO 412 true v0.length)),(9,(vB v2))],fun(v0,v2)=>(TM v0)⟩
  (fun(u5,u7,u0)=> .r<| .it (.a1 (k8 p u0)<| .rg {fr:=[(3,788)],fz:=[788]} []<| .cr 3 ⟨fun{r_} hr_=>((Fn.wX (frz:=[0,1,2,3,4,5,6]) (p:=[s_.closed.length=s_.closed.length,s_.locked.length=s_.locked.length,s_.badLink.length=s_.badLink.length,s_.on_.length=s_.on_.length,s_.badSource.length=s_.badSource.length,s_.earthed.length=s_.earthed.length,s_.badBus.length=s_.badBus.length]) (yM p s_ u0 hr_) (by kernel_rfl) ⟨rfl,rfl,rfl,rfl,rfl,rfl,rfl,trivial⟩ rfl):Fn Tryz.prog 73 (Qd s_ p u0) (AA s_) (vB r_) (AA s_))⟩ fun r_=> .r<| .it (.r<| .e (.next (u5,u7,(k5 u0))))
  (.r<| .lp (σ:=((List Way) × Bool × Int)) (β:=((List Way) × Bool)) (u5,u7,0) [] [] ⟨[3,4,7,10,11,26,27,28,48],[0,1,2,3,4,5,6,410,411],fun(u2,u8,u1)=>[(8,(vO 412 true u2.length)),(9,(vB u8)),(49,(vI u1))],fun(u2,u8,u1)=>(TM u2)⟩ ⟨[3,4,7,26,27,28],[0,1,2,3,4,5,6,410,411],fun(v1,v3)=>[(8,(vO 412 true v1.length)),(9,(vB v3))],fun(v1,v3)=>(TM v1)⟩
  (fun(u2,u8,u1)=> .r<| .it (.a1 ((0:Int)≤u1∧u1<((2:Nat):Int))<| .rg {an:=[(0, .vals (Xn p u0 u1))],fr:=[(1,807)]} [0, .dv 0 ⟨(0:Int)≤u1∧u1<((2:Nat):Int),u1.toNat*2+2≤(XH p u0).length,fun ax=>WZ (n:=2) (sz:=2) (Nat.le_refl _) ax⟩, .dv 0 ⟨(0:Int)≤u1∧u1<((2:Nat):Int),((XH p u0).drop (u1.toNat*2)).take 2=(Xn p u0 u1).map .d,fun ax=>WY (n:=2) (sz:=2) (g:=fun q=>[(cI ((at' [(Xh p u0),(Xk p u0)] q).e0)),(cI ((at' [(Xh p u0),(Xk p u0)] q).e1))]) (by intro q hq;match q,hq with|0,_=>rfl|1,_=>rfl) ax⟩]<| .a1 ((0:Int)≤(TR p u0 u1).e0∧(TR p u0 u1).e0<(u2.length:Int))<| .rg {fr:=[(7,808)],fz:=[808]} [.pf ⟨(0:Int)≤0∧(0:Int)<(2:Nat),(by decide)⟩,0, .t 0 (Xc p u0 u1) u2.length, .pf ⟨(0:Int)≤1∧(1:Int)<(2:Nat),(by decide)⟩]<| .r<| .it (.r<| .e (.next (u2,u8,(k5 u1))))
  (.cl 7 (nJ [(0,809)] ⟨fun h=>rQ ((Xt p u0 u1 u2).links) h⟩) fun u4=> .a2 (Wu u0 u4) (Wy u0 u4)<| .rg {an:=[(9, .arr [u0].length (au (aL .i64) [u0])),(10, .arr (u4++[u0]).length (Rz u0 u4))],fr:=[(9,810),(10,811),(12,812)],fz:=[811]} [2, .pf ⟨[u0].length=1,rfl⟩, .pf ⟨aB 1 1 (lM 1 [(.int .i64 u0)]) (au (aL .i64) [u0]),(by intro i hi j hj;match i,j,hi,hj with|0,0,_,_=>rfl)⟩, .e (u4.length),0,1, .pf ⟨(u4++[u0]).length=u4.length+[u0].length,List.length_append⟩, .pf ⟨aB (u4.length+[u0].length) 1 (WI u0 u4) (Rz u0 u4),bD _ _ _ _⟩]<| .fz [812]<| .cl 6 (Ba (XJ p u0 u1 u2 u4) (at' u2 (WQ p u0 u1))) fun v5=> .a1 (Vl p u0 u1 u2)<| .rg {} [0, .t 0 (WG p u0 u1) u2.length,1]<| .it (.a1 (Vl p u0 u1 u2)<| .rg {an:=[(4, .arr 0 (Vr p u0 u1 u2 u4))]} [0, .t 0 (WG p u0 u1) u2.length, .pf ⟨aB u2.length 3 (iH (au Way.cell u2) (WQ p u0 u1) 0 [(.bool true),(.int .i64 (XF p u0 u1 u2)),(aR none 1 (aL .i64) (u4++[u0]))]) (Vr p u0 u1 u2 u4),bJ _ _ _ _ _ _ _ _ rfl (fun j hj=>(match j,hj with|0,_=>rfl|1,_=>rfl|2,_=>rfl))⟩]<| .im (.ll 412 u2 (Tj p u0 u1 u2 u4))<| .r<| .r<| .e (.next ((Tj p u0 u1 u2 u4),true,(k5 u1))))
  (.r<| .e (.next (u2,u8,(k5 u1))))))
  (.e (.done (.brk (u2,u8)))))
  (fun(v1,v3)=> .r<| .e (.next (v1,v3,(k5 u0))))))
  (.e (.done (.brk (u5,u7)))))
  (fun(v0,v2)=> .e (.next (v0,v2))))
  (.e (.done (.brk u6))))
  (fun u9=> .r<| .en u9 [] [(412,7)]))
section
variable (p:ai) (s_:State) (u0:Int) (u2:(List Way)) (u1:Int) (u3:(List Short))
abbrev UW:List SV:=[(.agg (k0 p)),(.agg (Wt s_))]
abbrev O6:=(IntKind.wrap .i64 (((at' p.sources u0.toNat).aX)+((at' u2 u1.toNat).aX)))
abbrev Vt:=(IntKind.wrap .i64 (Int.tdiv (IntKind.wrap .i64 ((IntKind.wrap .i64 ((400000:Int)+(O6 p u0 u2 u1))) - 1)) (O6 p u0 u2 u1)))
abbrev Lc:=(⟨u0,(O6 p u0 u2 u1),(Vt p u0 u2 u1),(at' u2 u1.toNat).links⟩:Short)
abbrev Uo:=(u3.length+[(Lc p u0 u2 u1)].length)
abbrev Td:=(au Short.cell [(Lc p u0 u2 u1)])
abbrev Ra:=(u3++[(Lc p u0 u2 u1)])
abbrev V3:=(au Short.cell (Ra p u0 u2 u1 u3))
end
theorem xQ (p:ai) (s_:State) (u1:Int):eH Tryz.prog 68 (Qd s_ p u1) (AA s_) (fun r=>(.iq [(sD (aR none 4 Short.cell r.1)),(sI r.2)])) (fun r=>(AA s_)) (pI p s_ u1):=
  fC tT mX Tryz.func68 (
  .rg {fr:=[(0,29),(1,30)]} []<| .cr 2 ⟨fun{r_} hr_=>((Fn.wX (frz:=[0,1,2,3,4,5,6]) (p:=[s_.closed.length=s_.closed.length,s_.locked.length=s_.locked.length,s_.badLink.length=s_.badLink.length,s_.on_.length=s_.on_.length,s_.badSource.length=s_.badSource.length,s_.earthed.length=s_.earthed.length,s_.badBus.length=s_.badBus.length]) (fE p s_ hr_) (by kernel_rfl) ⟨rfl,rfl,rfl,rfl,rfl,rfl,rfl,trivial⟩ rfl):Fn Tryz.prog 35 (UW p s_) (AA s_) (vI r_) (AA s_))⟩ fun r_=> .r<| .r<| .it (.r<| .e (([]:List Short),r_))
  (.r<| .it (.r<| .e (([]:List Short),1))
  (.r<| .rg {fz:=[29]} []<| .im (.ad 9 51 142 4 (au Short.cell ([]:List Short)))<| .lp (σ:=((List Short) × Int)) (β:=(List Short)) (([]:List Short),0) [] [(51,35)] ⟨[2,3,4,29,30],[0,1,2,3,4,5,6,30],fun(u3,u0)=>[(9,(vO 35 false u3.length)),(31,(vI u0))],fun(u3,u0)=>[(35,some (aV 142 4 Short.cell u3))]⟩ ⟨[],[0,1,2,3,4,5,6],fun u4=>[(9,(vO 35 false u4.length))],fun u4=>[(35,some (aV 142 4 Short.cell u4))]⟩
  (fun(u3,u0)=> .r<| .it (.a1 (k7 p u0)<| .rg {fr:=[(3,46)],fz:=[46]} []<| .TF 9 [((at' s_.badBus u1.toNat),false)] ⟨fun{u5} hr_1=>((Fn.wX (frz:=[0,1,2,3,4,5,6]) (p:=[s_.closed.length=s_.closed.length,s_.locked.length=s_.locked.length,s_.badLink.length=s_.badLink.length,s_.on_.length=s_.on_.length,s_.badSource.length=s_.badSource.length,s_.earthed.length=s_.earthed.length,s_.badBus.length=s_.badBus.length]) (BJ p s_ u0 hr_1) (by kernel_rfl) ⟨rfl,rfl,rfl,rfl,rfl,rfl,rfl,trivial⟩ rfl):Fn Tryz.prog 71 (Qd s_ p u0) (AA s_) (vB u5) (AA s_))⟩ fun u5=> .a1 ((0:Int)≤u1∧u1<(s_.badBus.length:Int))<| .rg {} [0, .t 0 u1 s_.badBus.length,1]<| .it (.r<| .e (.next (u3,(k5 u0))))
  (.cl 4 (nJ [(7,47)] (zZ p s_ (TK p u0))) fun u2=> .a1 ((0:Int)≤u1∧u1<(u2.length:Int))<| .rg {fr:=[(8,48)],fz:=[48]} [1,0, .t 0 u1 u2.length]<| .r<| .it (.r<| .a3 ((O6 p u0 u2 u1)≠(0:Int)) ((Uo p u0 u2 u1 u3)*48≤140737488355328) (u3.length+[(Lc p u0 u2 u1)].length≤4611686018427387904)<| .rg {an:=[(11, .arr [(Lc p u0 u2 u1)].length (Td p u0 u2 u1)),(12, .arr (Ra p u0 u2 u1 u3).length (V3 p u0 u2 u1 u3))],fr:=[(11,49),(12,50)]} [0, .pf ⟨[(Lc p u0 u2 u1)].length=1,rfl⟩, .pf ⟨aB 1 4 (lM 4 [(.int .i64 u0),(.int .i64 (O6 p u0 u2 u1)),(.int .i64 (Vt p u0 u2 u1)),(aR none 1 (aL .i64) ((at' u2 u1.toNat).links))]) (Td p u0 u2 u1),(by intro i hi j hj;match i,j,hi,hj with|0,0,_,_=>rfl|0,1,_,_=>rfl|0,2,_,_=>rfl|0,3,_,_=>rfl)⟩, .e (u3.length),1,2, .pf ⟨(Ra p u0 u2 u1 u3).length=u3.length+[(Lc p u0 u2 u1)].length,List.length_append⟩, .pf ⟨aB (Uo p u0 u2 u1 u3) 4 (oM (au Short.cell u3) u3.length (Td p u0 u2 u1)) (V3 p u0 u2 u1 u3),bD _ _ _ _⟩]<| .r<| .en (.next ((Ra p u0 u2 u1 u3),(k5 u0))) [] [(50,35)])
  (.r<| .e (.next (u3,(k5 u0))))))
  (.e (.done (.brk u3))))
  (fun u4=> .rg {fz:=[35]} []<| .e (u4,0)))))
section
variable (u0:Machine) (u4:Bool) (u5:Int) (u2:(List (Int × Int)))
abbrev Pk:DV:=(aR none 5 Source.cell u0.p.sources)
abbrev Py:DV:=(aR none 6 Link.cell u0.p.links)
abbrev PL:DV:=(aR none 4 aJ.cell u0.p.racks)
abbrev Oe:DV:=(aR (some u4) 1 (aL .i64) u0.amps)
abbrev Ws:Nat × Option Ob:=(0,some (.cells 96 [(.own 1 false u0.clearing.events.length),(cB u0.clearing.cleared),(cI u0.clearing.millis),(cI u0.clearing.energy),(.own 2 false u0.clearing.state.closed.length),(.own 3 false u0.clearing.state.locked.length),(.own 4 false u0.clearing.state.badLink.length),(.own 5 false u0.clearing.state.on_.length),(.own 6 false u0.clearing.state.badSource.length),(.own 7 false u0.clearing.state.earthed.length),(.own 8 false u0.clearing.state.badBus.length),(cI u0.p.buses),(.d (Pk u0)),(.d (Py u0)),(.d (PL u0)),(cI u0.bus),(.d (Oe u0 u4)),(cI u0.total),(.mp 9),(cI u0.now)]))
abbrev Oj:Nat × Option Ob:=(2,some (aV 4 1 af u0.clearing.state.closed))
abbrev Qe:Nat × Option Ob:=(3,some (aV 4 1 af u0.clearing.state.locked))
abbrev Qq:Nat × Option Ob:=(4,some (aV 4 1 af u0.clearing.state.badLink))
abbrev Qt:Nat × Option Ob:=(5,some (aV 4 1 af u0.clearing.state.on_))
abbrev P7:Nat × Option Ob:=(6,some (aV 4 1 af u0.clearing.state.badSource))
abbrev QR:Nat × Option Ob:=(7,some (aV 4 1 af u0.clearing.state.earthed))
abbrev Qc:Nat × Option Ob:=(8,some (aV 4 1 af u0.clearing.state.badBus))
abbrev OH:Ob:=(NI 3 3 false false 1 1 (aL .i64) (aL .i64) u0.since)
abbrev Tq:Nat × Option Ob:=(9,some (OH u0))
abbrev Qg:List (Nat × Option Ob):=[(Ws u0 u4),(1,some (aV 87 2 Event.cell u0.clearing.events)),(Oj u0),(Qe u0),(Qq u0),(Qt u0),(P7 u0),(QR u0),(Qc u0),(Tq u0)]
abbrev VN:List (Nat × Option Ob):=[(0,some (.cells 96 [(.own 1 false u0.clearing.events.length),(cB u0.clearing.cleared),(cI u0.clearing.millis),(cI u0.clearing.energy),(.own 2 false u0.clearing.state.closed.length),(.own 3 false u0.clearing.state.locked.length),(.own 4 false u0.clearing.state.badLink.length),(.own 5 false u0.clearing.state.on_.length),(.own 6 false u0.clearing.state.badSource.length),(.own 7 false u0.clearing.state.earthed.length),(.own 8 false u0.clearing.state.badBus.length),(cI u0.p.buses),(.d (Pk u0)),(.d (Py u0)),(.d (PL u0)),(cI u0.bus),(.d (Oe u0 u4)),(cI u5),(.mp 9),(cI u0.now)]))]
abbrev Pt:Ob:=(NI 3 3 false false 1 1 (aL .i64) (aL .i64) u2)
end
theorem uj (u0:Machine) (u4:Bool):eH Tryz.prog 86 [(.one (.ptr 0 0))] (Qg u0 u4) (fun r=>(.iq [])) (fun r=>[(0,some (.cells 96 [(.own 1 false u0.clearing.events.length),(cB r.1.clearing.cleared),(cI r.1.clearing.millis),(cI r.1.clearing.energy),(.own 2 false u0.clearing.state.closed.length),(.own 3 false u0.clearing.state.locked.length),(.own 4 false u0.clearing.state.badLink.length),(.own 5 false u0.clearing.state.on_.length),(.own 6 false u0.clearing.state.badSource.length),(.own 7 false u0.clearing.state.earthed.length),(.own 8 false u0.clearing.state.badBus.length),(cI r.1.p.buses),(.d (aR none 5 Source.cell r.1.p.sources)),(.d (aR none 6 Link.cell r.1.p.links)),(.d (aR none 4 aJ.cell r.1.p.racks)),(cI r.1.bus),(.d (aR (some r.2) 1 (aL .i64) r.1.amps)),(cI r.1.total),(.mp 9),(cI r.1.now)])),(1,some (aV 87 2 Event.cell u0.clearing.events)),(Oj u0),(Qe u0),(Qq u0),(Qt u0),(P7 u0),(QR u0),(Qc u0),(9,some (NI 3 3 false false 1 1 (aL .i64) (aL .i64) r.1.since))]) (dA u0 u4):=
  fC tT mX Tryz.func86 (
  .cr 13 (nJ [(0,2),(1,3),(0,4),(1,5),(0,6),(1,7),(0,8)] (xQ u0.p u0.clearing.state u0.bus)) fun r_=> .r<| .cl 5 (Am u0.p r_.1) fun u8=> .r<| .r<| .r<| .lp (σ:=(Int × Int)) (β:=Int) (0,0) [] [] ⟨[0,4,39,40],[1,2,3,4,5,6,7,8,9],fun(u5,u3)=>[(41,(vI u3))],fun(u5,u3)=>(VN u0 u4 u5)⟩ ⟨[0,4],[1,2,3,4,5,6,7,8,9],fun u6=>[],fun u6=>(VN u0 u4 u6)⟩
  (fun(u5,u3)=> .r<| .it (.a1 ((0:Int)≤u3∧u3<(r_.1.length:Int))<| .rg {fr:=[(2,17)],fz:=[17]} []<| .r<| .r<| .e (.next ((IntKind.wrap .i64 (u5+((at' r_.1 u3.toNat).amps))),(k5 u3))))
  (.e (.done (.brk u5))))
  (fun u6=> .r<| .lp (σ:=((List (Int × Int)) × Int)) (β:=(List (Int × Int))) (u0.since,0) [] [] ⟨[0,4,55,56],[0,1,2,3,4,5,6,7,8],fun(u2,u1)=>[(57,(vI u1))],fun(u2,u1)=>[(9,some (Pt u2))]⟩ ⟨[0,4],[0,1,2,3,4,5,6,7,8],fun u7=>[],fun u7=>[(9,some (Pt u7))]⟩
  (fun(u2,u1)=> .r<| .it (.a1 ((0:Int)≤u1∧u1<(u8.1.length:Int))<| .r<| .a1 ((gB [((!u4),false)]=true→(0:Int)≤u1∧u1<(u0.amps.length:Int)))<| .r<| .it (.rg {an:=[(9, .map (gY dS u1 u0.now u2).length (yJ (aL .i64) (gY dS u1 u0.now u2)) (Ae (aL .i64) (gY dS u1 u0.now u2)) [])]} [.pf ⟨qb [some .i64] 1 1 u2.length (yJ (aL .i64) u2) (Ae (aL .i64) u2) [(.int .i64 u1)] [(cI u0.now)] [] (gY dS u1 u0.now u2).length (yJ (aL .i64) (gY dS u1 u0.now u2)) (Ae (aL .i64) (gY dS u1 u0.now u2)),CS (fun _=>rfl) (fun _ _=>rfl) u2 u1 u0.now rfl rfl⟩]<| .r<| .e (.next ((gY dS u1 u0.now u2),(k5 u1))))
  (.r<| .e (.next (u2,(k5 u1)))))
  (.e (.done (.brk u2))))
  (fun u7=> .r<| .e ((⟨u0.clearing,u0.p,u0.bus,u8.1,u6,u7,u0.now⟩:Machine),u8.2.1))))
theorem mr (u0:Machine) (u1:Bool):eH Tryz.prog 115 [(.one (.ptr 0 0))] (Qg u0 u1) (fun _=>(.v (.one (.fn 141 0 1 (Kz [(.ptr 10 0)]))))) (fun _=>[(Ws u0 u1),(1,some (aV 87 2 Event.cell u0.clearing.events)),(Oj u0),(Qe u0),(Qq u0),(Qt u0),(P7 u0),(QR u0),(Qc u0),(Tq u0),(10,some (.cells 93 [(.ptr 0 0)]))]) (iM u0 u1):=
  fC tT mX Tryz.func115 (
  .rg {fr:=[(0,11)]} []<| .r<| .en () [] [(11,10)])
noncomputable def dW:iL:=⟨[13,14],J5 ([1,1,0,1,0]++[0]) (q8 Tryz.f85),J5 ([1,1,0,1,0]++[1]) (q8 Tryz.f85),119,[]⟩
section
variable (x:Link) (u0:Int)
abbrev TU:List SV:=[(.agg (k1 x)),(sI u0)]
end
theorem o5 (x:Link) (u0:Int):eH Tryz.prog 57 (TU x u0) [] (fun r=>(.iq [(sI r.1),(sB r.2)])) (fun _=>[]) (jB x u0):=
  fC tT mX Tryz.func57 (
  .rg {fr:=[(0,1)],fz:=[1]} []<| .r<| .lp (σ:=Int) (β:=Unit) (IntKind.wrap .i64 ((x.trip.length:Int) - 1)) [] [] ⟨[1,2],[],fun i=>[(6,(vI i))],fun i=>[]⟩ ⟨[],[],fun _=>[],fun _=>[]⟩
  (fun i=> .r<| .it (.a1 (k2 x i)<| .r<| .it (.a1 (k2 x i)<| .r<| .e (.done (.ret ((at' x.trip i.toNat).millis,true))))
  (.r<| .e (.next (k3 i))))
  (.e (.done (.brk ()))))
  (fun _=> .r<| .e (0,false)))
theorem pR (u2:Int) (u0:Int) (u1:Int):RB Tryz.prog 0 [(sI u2),(sI u0)] [(0,some (.loop dW 0 [(3,(vP 1 0))])),(1,some (.cells 3 [(cI u1)]))] (fun _=>vB true) (fun r=>[(0,some (.loop dW 0 [(3,(vP 1 0))])),(1,some (.cells 3 [(cI r)]))]) (eZ u2 u0 u1):=
  Xd tT mX dW ⟨[3],[0,1],fun _=>[(5,(vI u0))],fun _=>[]⟩ (.r<| .e ())
  (.r<| .it (.r<| .e u0)
(.e u1))
section
variable (u0:Machine) (u4:Bool) (u1:Int)
abbrev VX:Nat × Option Ob:=(3,some (.cells 96 [(.own 4 false u0.clearing.events.length),(cB u0.clearing.cleared),(cI u0.clearing.millis),(cI u0.clearing.energy),(.own 5 false u0.clearing.state.closed.length),(.own 6 false u0.clearing.state.locked.length),(.own 7 false u0.clearing.state.badLink.length),(.own 8 false u0.clearing.state.on_.length),(.own 9 false u0.clearing.state.badSource.length),(.own 10 false u0.clearing.state.earthed.length),(.own 11 false u0.clearing.state.badBus.length),(cI u0.p.buses),(.d (Pk u0)),(.d (Py u0)),(.d (PL u0)),(cI u0.bus),(.d (Oe u0 u4)),(cI u0.total),(.mp 12),(cI u0.now)]))
abbrev RL:=((!decide (((at' u0.p.links u1.toNat).kind)=3)),false)
abbrev VO:=((gB [(RL u0 u1)]=true→(0:Int)≤u1∧u1<(u0.clearing.state.closed.length:Int)))
abbrev Sq:=((bif (!decide (((at' u0.p.links u1.toNat).kind)=3))then true else(!(at' u0.clearing.state.closed u1.toNat))),false)
abbrev Ui:=((gB [(Sq u0 u1)]=true→(0:Int)≤u1∧u1<(u0.clearing.state.badLink.length:Int)))
end
theorem qX (u3:Int) (u0:Machine) (u4:Bool):eH Tryz.prog 141 [(.one (.yl 0)),(.one (.ptr 1 0))] [(0,some (.loop dW 0 [(3,(vP 2 0))])),(1,some (.cells 93 [(.ptr 3 0)])),(2,some (.cells 3 [(cI u3)])),(VX u0 u4),(4,some (aV 87 2 Event.cell u0.clearing.events)),(5,some (aV 4 1 af u0.clearing.state.closed)),(6,some (aV 4 1 af u0.clearing.state.locked)),(7,some (aV 4 1 af u0.clearing.state.badLink)),(8,some (aV 4 1 af u0.clearing.state.on_)),(9,some (aV 4 1 af u0.clearing.state.badSource)),(10,some (aV 4 1 af u0.clearing.state.earthed)),(11,some (aV 4 1 af u0.clearing.state.badBus)),(12,some (OH u0))] (fun r=>(.iq [])) (fun r=>[(0,some (.loop dW 0 [(3,(vP 2 0))])),(1,some (.cells 93 [(.ptr 3 0)])),(2,some (.cells 3 [(cI r)])),(VX u0 u4),(4,some (aV 87 2 Event.cell u0.clearing.events)),(5,some (aV 4 1 af u0.clearing.state.closed)),(6,some (aV 4 1 af u0.clearing.state.locked)),(7,some (aV 4 1 af u0.clearing.state.badLink)),(8,some (aV 4 1 af u0.clearing.state.on_)),(9,some (aV 4 1 af u0.clearing.state.badSource)),(10,some (aV 4 1 af u0.clearing.state.earthed)),(11,some (aV 4 1 af u0.clearing.state.badBus)),(12,some (OH u0))]) (gq u3 u0 u4):=
  fC tT mX Tryz.func141 (
  .r<| .lp (σ:=(Int × Int)) (β:=Int) (u3,0) [] [] ⟨[0,1,11,12],[0,1,3,4,5,6,7,8,9,10,11,12],fun(u2,u1)=>[(13,(vI u1))],fun(u2,u1)=>[(2,some (.cells 3 [(cI u2)]))]⟩ ⟨[],[0,1,3,4,5,6,7,8,9,10,11,12],fun o301=>[],fun o301=>[(2,some (.cells 3 [(cI o301)]))]⟩
  (fun(u2,u1)=> .r<| .it (.a1 ((0:Int)≤u1∧u1<(u0.p.links.length:Int))<| .rg {fr:=[(3,20)],fz:=[20]} []<| .a2 (VO u0 u1) (Ui u0 u1)<| .rg {} [0, .tg 0 [(RL u0 u1)] u1 u0.clearing.state.closed.length,1, .tg 1 [(Sq u0 u1)] u1 u0.clearing.state.badLink.length]<| .it (.r<| .e (.next (u2,(k5 u1))))
  (.cl 8 (o5 (at' u0.p.links u1.toNat) (at' u0.amps u1.toNat)) fun r_=> .a1 ((0:Int)≤u1∧u1<(u0.amps.length:Int))<| .rg {} [0,1]<| .fk r_.2 (.cy 12 (XI [(1,2)] (pR u1 (IntKind.wrap .i64 (((bH dS u1 u0.since).getD 0)+r_.1)) u2)) fun u5=> .rg {an:=[(9, .look (bH dS u1 u0.since).isSome [(cI ((bH dS u1 u0.since).getD 0))])],ov:=[(1,true,1)]} [.pf ⟨o9 [some .i64] 1 1 u0.since.length (yJ (aL .i64) u0.since) (Ae (aL .i64) u0.since) [(.int .i64 u1)] [(.d (.int .i64 0))] (bH dS u1 u0.since).isSome [(cI ((bH dS u1 u0.since).getD 0))],pE (fun _=>rfl) (fun _ _=>rfl) u0.since u1 0 rfl rfl rfl⟩, .k 0]<| .f<| .r<| .e (.next (u5,(k5 u1))))
  (.rg {ov:=[(1,false,0)],sk:=[2,3,4,5,6,7,8,9,10,11,12,13]} []<| .f<| .r<| .e (.next (u2,(k5 u1))))))
  (.e (.done (.brk u2))))
  (fun o301=> .e o301))
noncomputable def dU:iL:=⟨[33,34],J5 ([1,1,1,1,1,1,0,1,0]++[0]) (q8 Tryz.f85),J5 ([1,1,1,1,1,1,0,1,0]++[1]) (q8 Tryz.f85),119,[]⟩
theorem pQ (u0:Int) (u1:Int) (u2:Int) (o_:(List Int)):RB Tryz.prog 0 [(sI u0),(sI u1)] [(0,some (.loop dU 0 [(3,(vP 1 0)),(6,(vP 2 0))])),(1,some (.cells 3 [(cI u2)])),(2,some (.cells 35 [(.own 3 false o_.length)])),(3,some (Jg o_))] (fun _=>vB true) (fun r=>[(0,some (.loop dU 0 [(3,(vP 1 0)),(6,(vP 2 0))])),(1,some (.cells 3 [(cI u2)])),(2,some (.cells 35 [(.own 4 false r.length)])),(3,none),(4,some (aV 3 1 (aL .i64) r))]) (fe u0 u1 u2 o_):=
  Xd tT mX dU ⟨[3,6],[0,1,2,3],fun _=>[(7,(vI u0)),(8,(vI u1))],fun _=>[]⟩ (.r<| .r<| .e ())
  (.r<| .it (.a2 (Wu u0 o_) (Wy u0 o_)<| .rg {an:=[(2, .arr [u0].length (au (aL .i64) [u0])),(3, .arr (o_++[u0]).length (Rz u0 o_))],fr:=[(2,6),(3,7)]} [.pf ⟨[u0].length=1,rfl⟩, .pf ⟨aB 1 1 (lM 1 [(.int .i64 u0)]) (au (aL .i64) [u0]),(by intro i hi j hj;match i,j,hi,hj with|0,0,_,_=>rfl)⟩, .e (o_.length),0,1, .pf ⟨(o_++[u0]).length=o_.length+[u0].length,List.length_append⟩, .pf ⟨aB (o_.length+[u0].length) 1 (WI u0 o_) (Rz u0 o_),bD _ _ _ _⟩]<| .en (o_++[u0]) [] [(7,4)])
(.im (.re 2 0 3 8)<| .en o_ [] [(8,4)]))
section
variable (u0:Machine) (u4:Bool)
abbrev U9:Nat × Option Ob:=(4,some (.cells 96 [(.own 6 false u0.clearing.events.length),(cB u0.clearing.cleared),(cI u0.clearing.millis),(cI u0.clearing.energy),(.own 7 false u0.clearing.state.closed.length),(.own 8 false u0.clearing.state.locked.length),(.own 9 false u0.clearing.state.badLink.length),(.own 10 false u0.clearing.state.on_.length),(.own 11 false u0.clearing.state.badSource.length),(.own 12 false u0.clearing.state.earthed.length),(.own 13 false u0.clearing.state.badBus.length),(cI u0.p.buses),(.d (Pk u0)),(.d (Py u0)),(.d (PL u0)),(cI u0.bus),(.d (Oe u0 u4)),(cI u0.total),(.mp 14),(cI u0.now)]))
end
theorem p8 (u3:Int) (o_:(List Int)) (u0:Machine) (u4:Bool):eH Tryz.prog 141 [(.one (.yl 0)),(.one (.ptr 1 0))] [(0,some (.loop dU 0 [(3,(vP 2 0)),(6,(vP 3 0))])),(1,some (.cells 93 [(.ptr 4 0)])),(2,some (.cells 3 [(cI u3)])),(3,some (.cells 35 [(.own 5 false o_.length)])),(U9 u0 u4),(5,some (Jg o_)),(6,some (aV 87 2 Event.cell u0.clearing.events)),(7,some (aV 4 1 af u0.clearing.state.closed)),(8,some (aV 4 1 af u0.clearing.state.locked)),(9,some (aV 4 1 af u0.clearing.state.badLink)),(10,some (aV 4 1 af u0.clearing.state.on_)),(11,some (aV 4 1 af u0.clearing.state.badSource)),(12,some (aV 4 1 af u0.clearing.state.earthed)),(13,some (aV 4 1 af u0.clearing.state.badBus)),(14,some (OH u0))] (fun r=>(.iq [])) (fun r=>[(0,some (.loop dU 0 [(3,(vP 2 0)),(6,(vP 3 0))])),(1,some (.cells 93 [(.ptr 4 0)])),(2,some (.cells 3 [(cI u3)])),(3,some (.cells 35 [(.own 15 false r.length)])),(U9 u0 u4),(5,none),(6,some (aV 87 2 Event.cell u0.clearing.events)),(7,some (aV 4 1 af u0.clearing.state.closed)),(8,some (aV 4 1 af u0.clearing.state.locked)),(9,some (aV 4 1 af u0.clearing.state.badLink)),(10,some (aV 4 1 af u0.clearing.state.on_)),(11,some (aV 4 1 af u0.clearing.state.badSource)),(12,some (aV 4 1 af u0.clearing.state.earthed)),(13,some (aV 4 1 af u0.clearing.state.badBus)),(14,some (OH u0)),(15,some (aV 3 1 (aL .i64) r))]) (eX u3 o_ u0 u4):=
  fC tT mX Tryz.func141 (
  .r<| .im (.re 3 0 5 27)<| .lp (σ:=((List Int) × Int)) (β:=(List Int)) (o_,0) [] [(27,24)] ⟨[0,1,11,12],[0,1,2,4,6,7,8,9,10,11,12,13,14],fun(u2,u1)=>[(13,(vI u1))],fun(u2,u1)=>[(3,some (.cells 35 [(.own 24 false u2.length)])),(5,none),(24,some (Jg u2))]⟩ ⟨[],[0,1,2,4,6,7,8,9,10,11,12,13,14],fun o601=>[],fun o601=>[(3,some (.cells 35 [(.own 24 false o601.length)])),(5,none),(24,some (aV 3 1 (aL .i64) o601))]⟩
  (fun(u2,u1)=> .r<| .it (.a1 ((0:Int)≤u1∧u1<(u0.p.links.length:Int))<| .rg {fr:=[(3,26)],fz:=[26]} []<| .a2 (VO u0 u1) (Ui u0 u1)<| .rg {} [0, .tg 0 [(RL u0 u1)] u1 u0.clearing.state.closed.length,1, .tg 1 [(Sq u0 u1)] u1 u0.clearing.state.badLink.length]<| .it (.r<| .e (.next (P8 u2 u1)))
  (.cl 8 (o5 (at' u0.p.links u1.toNat) (at' u0.amps u1.toNat)) fun r_=> .a1 ((0:Int)≤u1∧u1<(u0.amps.length:Int))<| .rg {} [0,1]<| .fk r_.2 (.cy 12 (XI [(1,2),(1,3),(1,24),(4,27)] (pQ u1 (IntKind.wrap .i64 (((bH dS u1 u0.since).getD 0)+r_.1)) u3 u2)) fun u5=> .rg {an:=[(9, .look (bH dS u1 u0.since).isSome [(cI ((bH dS u1 u0.since).getD 0))])],ov:=[(1,true,1)]} [.pf ⟨o9 [some .i64] 1 1 u0.since.length (yJ (aL .i64) u0.since) (Ae (aL .i64) u0.since) [(.int .i64 u1)] [(.d (.int .i64 0))] (bH dS u1 u0.since).isSome [(cI ((bH dS u1 u0.since).getD 0))],pE (fun _=>rfl) (fun _ _=>rfl) u0.since u1 0 rfl rfl rfl⟩, .k 0]<| .f<| .r<| .en (.next (P8 u5 u1)) [] [(27,24)])
  (.rg {ov:=[(1,false,0)],sk:=[2,3,4,5,6,7,8,9,10,11,12,13]} []<| .f<| .r<| .e (.next (P8 u2 u1)))))
  (.e (.done (.brk u2))))
  (fun o601=> .en o601 [] [(24,15)]))
section
variable (u0:Machine) (u1:Int) (o0:(List Event)) (o4:(List Bool)) (u4:Bool) (u3:(List Int)) (u2:Int) (u6:(List Bool))
abbrev Uq:=(IntKind.wrap .i64 (u0.clearing.energy+(IntKind.wrap .i64 ((IntKind.wrap .i64 (Int.tdiv (IntKind.wrap .i64 ((IntKind.wrap .i64 (u0.total*u0.total))+999)) 1000))*(IntKind.wrap .i64 ((if u1<u0.now then u0.now else u1) - u0.now))))))
abbrev Uz:List (Nat × Option Ob):=[(0,some (.cells 96 [(.own 45 false o0.length),(cB u0.clearing.cleared),(cI (if u1<u0.now then u0.now else u1)),(cI (Uq u0 u1)),(.own 39 false o4.length),(.own 3 false u0.clearing.state.locked.length),(.own 4 false u0.clearing.state.badLink.length),(.own 5 false u0.clearing.state.on_.length),(.own 6 false u0.clearing.state.badSource.length),(.own 7 false u0.clearing.state.earthed.length),(.own 8 false u0.clearing.state.badBus.length),(cI u0.p.buses),(.d (Pk u0)),(.d (Py u0)),(.d (PL u0)),(cI u0.bus),(.d (Oe u0 u4)),(cI u0.total),(.mp 9),(cI (if u1<u0.now then u0.now else u1))])),(1,none),(39,some (aV 4 1 af o4)),(45,some (aV 87 2 Event.cell o0))]
abbrev Hw:=(⟨(if u1<u0.now then u0.now else u1),(at' u3 u2.toNat)⟩:Event)
abbrev S9:=(au Event.cell [(Hw u0 u1 u3 u2)])
abbrev Pg:=(o0++[(Hw u0 u1 u3 u2)])
abbrev P5:=(⟨u6,u0.clearing.state.locked,u0.clearing.state.badLink,u0.clearing.state.on_,u0.clearing.state.badSource,u0.clearing.state.earthed,u0.clearing.state.badBus⟩:State)
end
theorem sV (u0:Machine) (u4:Bool):eH Tryz.prog 85 [(.one (.ptr 0 0))] (Qg u0 u4) (fun r=>(vB r.1)) (fun r=>[(0,some (.cells 96 [(.own 10 false r.2.1.clearing.events.length),(cB r.2.1.clearing.cleared),(cI r.2.1.clearing.millis),(cI r.2.1.clearing.energy),(.own 11 false r.2.1.clearing.state.closed.length),(.own 3 false u0.clearing.state.locked.length),(.own 4 false u0.clearing.state.badLink.length),(.own 5 false u0.clearing.state.on_.length),(.own 6 false u0.clearing.state.badSource.length),(.own 7 false u0.clearing.state.earthed.length),(.own 8 false u0.clearing.state.badBus.length),(cI r.2.1.p.buses),(.d (aR none 5 Source.cell r.2.1.p.sources)),(.d (aR none 6 Link.cell r.2.1.p.links)),(.d (aR none 4 aJ.cell r.2.1.p.racks)),(cI r.2.1.bus),(.d (aR (some r.2.2) 1 (aL .i64) r.2.1.amps)),(cI r.2.1.total),(.mp 9),(cI r.2.1.now)])),(1,none),(2,none),(Qe u0),(Qq u0),(Qt u0),(P7 u0),(QR u0),(Qc u0),(Tq u0),(10,some (aV 87 2 Event.cell r.2.1.clearing.events)),(11,some (aV 4 1 af r.2.1.clearing.state.closed))]) (dR u0 u4):=
  fC tT mX Tryz.func85 (
  .r<| .rg {fr:=[(0,29)]} []<| .cl 1 (nJ [(10,30)] (mr u0 u4)) fun r_=> .r<| .cl 0 (nJ [(0,31),(1,30),(2,29),(3,0),(4,1),(5,2),(6,3),(7,4),(8,5),(9,6),(10,7),(11,8),(12,9)] (qX (-1) u0 u4)) fun u1=> .rf 31 [3] [] none 0 []<| .r<| .it (.r<| .im (.re 0 0 1 32)<| .im (.re 0 4 2 33)<| .en (false,u0,u4) [] [(32,10),(33,11)])
  (.r<| .rg {fr:=[(0,34)]} []<| .im (.xk 34 0 35 3 1 (au (aL .i64) ([]:List Int)))<| .cl 1 (nJ [(10,36)] (mr u0 u4)) fun u8=> .r<| .cl 0 (nJ [(0,37),(1,36),(2,29),(3,34),(4,0),(5,35),(6,1),(7,2),(8,3),(9,4),(10,5),(11,6),(12,7),(13,8),(14,9),(15,38)] (p8 (if u1<u0.now then u0.now else u1) ([]:List Int) u0 u4)) fun u3=> .rf 37 [3,6] [] none 0 []<| .a1 (1000≠(0:Int))<| .r<| .rg {fz:=[29]} []<| .cl 7 ⟨fun{u7} hr_4=>((Fn.N9 (args:=[(sD (aR none 1 af u0.clearing.state.closed))]) (frz:=[2]) (p:=[u0.clearing.state.closed.length=u0.clearing.state.closed.length]) (Fn.Mt [(0,39)] (aO u0.clearing.state.closed hr_4) (by kernel_rfl) (by kernel_rfl) (by kernel_rfl) (by kernel_rfl)) (by kernel_rfl) ⟨rfl,trivial⟩ (by kernel_rfl) ⟨(fun _ _=>rfl),trivial⟩ (by kernel_rfl)):Fn Tryz.prog 84 [(.one (.own 2 false u0.clearing.state.closed.length))] [(Oj u0)] (vO 39 false u7.length) [(Oj u0),(39,some (aV 4 1 af u7))])⟩ fun u7=> .r<| .r<| .im (.re 0 0 1 50)<| .lp (σ:=((List Event) × (List Bool) × Int)) (β:=((List Event) × (List Bool))) (u0.clearing.events,u7,0) [] [(50,45)] ⟨[0,3,90,91],[2,3,4,5,6,7,8,9,38],fun(o0,o4,u2)=>[(92,(vI u2))],fun(o0,o4,u2)=>(Uz u0 u1 o0 o4 u4)⟩ ⟨[],[2,3,4,5,6,7,8,9],fun(u5,u6)=>[],fun(u5,u6)=>(Uz u0 u1 u5 u6 u4)⟩
  (fun(o0,o4,u2)=> .r<| .it (.a1 (GJ u3 u2)<| .rg {} [0, .t 0 u2 u3.length]<| .a1 ((0:Int)≤(at' u3 u2.toNat)∧(at' u3 u2.toNat)<(o4.length:Int))<| .rg {an:=[(8, .arr 0 (au af (o4.set ((at' u3 u2.toNat).toNat) false)))]} [0, .t 0 (at' u3 u2.toNat) o4.length, .pf ⟨aB o4.length 1 (iH (au af o4) ((at' u3 u2.toNat).toNat) 0 [(.bool false)]) (au af (o4.set ((at' u3 u2.toNat).toNat) false)),bJ _ _ _ _ _ _ _ _ rfl (fun j hj=>(match j,hj with|0,_=>rfl))⟩]<| .im (.ll 39 o4 (o4.set ((at' u3 u2.toNat).toNat) false))<| .a2 ((o0.length+[(Hw u0 u1 u3 u2)].length)*16≤140737488355328) (o0.length+[(Hw u0 u1 u3 u2)].length≤4611686018427387904)<| .rg {an:=[(9, .arr [(Hw u0 u1 u3 u2)].length (S9 u0 u1 u3 u2)),(10, .arr (Pg u0 u1 o0 u3 u2).length (au Event.cell (Pg u0 u1 o0 u3 u2)))],fr:=[(9,48),(10,49)]} [.pf ⟨[(Hw u0 u1 u3 u2)].length=1,rfl⟩, .pf ⟨aB 1 2 (lM 2 [(.int .i64 (if u1<u0.now then u0.now else u1)),(.int .i64 (at' u3 u2.toNat))]) (S9 u0 u1 u3 u2),(by intro i hi j hj;match i,j,hi,hj with|0,0,_,_=>rfl|0,1,_,_=>rfl)⟩, .e (o0.length),0,1, .pf ⟨(Pg u0 u1 o0 u3 u2).length=o0.length+[(Hw u0 u1 u3 u2)].length,List.length_append⟩, .pf ⟨aB (o0.length+[(Hw u0 u1 u3 u2)].length) 2 (oM (au Event.cell o0) o0.length (S9 u0 u1 u3 u2)) (au Event.cell (Pg u0 u1 o0 u3 u2)),bD _ _ _ _⟩]<| .r<| .en (.next ((Pg u0 u1 o0 u3 u2),(o4.set ((at' u3 u2.toNat).toNat) false),(k5 u2))) [] [(49,45)])
  (.e (.done (.brk (o0,o4)))))
  (fun(u5,u6)=> .r<| .en (true,(⟨(⟨u5,u0.clearing.cleared,(if u1<u0.now then u0.now else u1),(Uq u0 u1),(P5 u0 u6)⟩:aA),u0.p,u0.bus,u0.amps,u0.total,u0.since,(if u1<u0.now then u0.now else u1)⟩:Machine),u4) [] [(45,10),(39,11)])))
theorem uQ (u0:Machine) (v2:Bool):eH Tryz.prog 37 [(.one (.ptr 0 0))] (Qg u0 v2) (fun r=>(.v (.agg [(.own 10 false r.1.events.length),(cB r.1.cleared),(cI r.1.millis),(cI r.1.energy),(.own 11 false r.1.state.closed.length),(.own 12 false r.1.state.locked.length),(.own 13 false r.1.state.badLink.length),(.own 14 false r.1.state.on_.length),(.own 15 false r.1.state.badSource.length),(.own 16 false r.1.state.earthed.length),(.own 17 false r.1.state.badBus.length)]))) (fun r=>[(0,none),(1,none),(2,none),(3,none),(4,none),(5,none),(6,none),(7,none),(8,none),(9,some (NI 3 3 false false 1 1 (aL .i64) (aL .i64) r.2)),(10,some (aV 87 2 Event.cell r.1.events)),(11,some (aV 4 1 af r.1.state.closed)),(12,some (aV 4 1 af r.1.state.locked)),(13,some (aV 4 1 af r.1.state.badLink)),(14,some (aV 4 1 af r.1.state.on_)),(15,some (aV 4 1 af r.1.state.badSource)),(16,some (aV 4 1 af r.1.state.earthed)),(17,some (aV 4 1 af r.1.state.badBus)),(18,none)]) (jL u0 v2):=
  fC tT mX Tryz.func37 (
  .rg {fr:=[(0,23)]} []<| .sp (σ:=((List Event) × Bool × Int × Int × (List Bool) × Int × (List Source) × (List Link) × (List aJ) × Int × Bool × (List Int) × Int × (List (Int × Int)) × Int)) (β:=Unit) (u0.clearing.events,u0.clearing.cleared,u0.clearing.millis,u0.clearing.energy,u0.clearing.state.closed,u0.p.buses,u0.p.sources,u0.p.links,u0.p.racks,u0.bus,v2,u0.amps,u0.total,u0.since,u0.now) ⟨[0,2],[3,4,5,6,7,8,23],fun(o0,o1,o2,o3,o4,u2,u3,u4,u5,u6,u7,u8,u9,v0,v1)=>[(3,(.v (.one (.fn 85 1 1 (Kz [(.ptr 0 0)])))))],fun(o0,o1,o2,o3,o4,u2,u3,u4,u5,u6,u7,u8,u9,v0,v1)=>[(0,some (.cells 96 [(.own 26 false o0.length),(cB o1),(cI o2),(cI o3),(.own 27 false o4.length),(.own 3 false u0.clearing.state.locked.length),(.own 4 false u0.clearing.state.badLink.length),(.own 5 false u0.clearing.state.on_.length),(.own 6 false u0.clearing.state.badSource.length),(.own 7 false u0.clearing.state.earthed.length),(.own 8 false u0.clearing.state.badBus.length),(cI u2),(.d (k10 u3)),(.d (k11 u4)),(.d (k12 u5)),(cI u6),(.d (aR (some u7) 1 (aL .i64) u8)),(cI u9),(.mp 9),(cI v1)])),(1,none),(2,none),(9,some (Pt v0)),(26,some (aV 87 2 Event.cell o0)),(27,some (aV 4 1 af o4))]⟩ ⟨[],[],fun _=>[],fun _=>[]⟩ (.r<| .im (.re 0 0 1 48)<| .im (.re 0 4 2 49)<| .en () [] [(48,26),(49,27)])
  (fun(o0,o1,o2,o3,o4,u2,u3,u4,u5,u6,u7,u8,u9,v0,v1)=> .cl 1 (nJ [(1,26),(2,27)] (uj (⟨(⟨o0,o1,o2,o3,(P5 u0 o4)⟩:aA),(⟨u2,u3,u4,u5⟩:ai),u6,u8,u9,v0,v1⟩:Machine) u7)) fun r_=> .r<| .r<| .it (.r<| .r<| .im (.re 23 5 3 34)<| .im (.re 23 6 4 35)<| .im (.re 23 7 5 36)<| .im (.re 23 8 6 37)<| .im (.re 23 9 7 38)<| .im (.re 23 10 8 39)<| .en (.done (.ret ((⟨o0,true,r_.1.clearing.millis,r_.1.clearing.energy,(P5 u0 o4)⟩:aA),r_.1.since))) [] [(26,10),(27,11),(34,12),(35,13),(36,14),(37,15),(38,16),(39,17),(23,18)])
  (.cl 1 (nJ [(1,26),(2,27),(10,40),(11,41)] (sV (⟨(⟨o0,r_.1.clearing.cleared,r_.1.clearing.millis,r_.1.clearing.energy,(P5 u0 o4)⟩:aA),r_.1.p,r_.1.bus,r_.1.amps,r_.1.total,r_.1.since,r_.1.now⟩:Machine) r_.2)) fun u1=> .r<| .it (.en (.next (u1.2.1.clearing.events,u1.2.1.clearing.cleared,u1.2.1.clearing.millis,u1.2.1.clearing.energy,u1.2.1.clearing.state.closed,u1.2.1.p.buses,u1.2.1.p.sources,u1.2.1.p.links,u1.2.1.p.racks,u1.2.1.bus,u1.2.2,u1.2.1.amps,u1.2.1.total,r_.1.since,u1.2.1.now)) [] [(40,26),(41,27)])
  (.r<| .im (.re 23 5 3 42)<| .im (.re 23 6 4 43)<| .im (.re 23 7 5 44)<| .im (.re 23 8 6 45)<| .im (.re 23 9 7 46)<| .im (.re 23 10 8 47)<| .en (.done (.ret ((⟨u1.2.1.clearing.events,u1.2.1.clearing.cleared,u1.2.1.clearing.millis,u1.2.1.clearing.energy,(⟨u1.2.1.clearing.state.closed,u0.clearing.state.locked,u0.clearing.state.badLink,u0.clearing.state.on_,u0.clearing.state.badSource,u0.clearing.state.earthed,u0.clearing.state.badBus⟩:State)⟩:aA),r_.1.since))) [] [(40,10),(41,11),(42,12),(43,13),(44,14),(45,15),(46,16),(47,17),(23,18)])))
  (fun _=> .no))
section
variable (u0:State) (p:ai) (u2:Int)
abbrev Uc:Nat × Option Ob:=(50,some (NI 3 3 false false 1 1 (aL .i64) (aL .i64) ([]:(List (Int × Int)))))
abbrev U8:List (Nat × Option Ob):=[(51,some (.cells 96 [(.own 52 false (([]:List Event).length)),(cB false),(cI 0),(cI 0),(.own 42 false u0.closed.length),(.own 43 false u0.locked.length),(.own 44 false u0.badLink.length),(.own 45 false u0.on_.length),(.own 46 false u0.badSource.length),(.own 47 false u0.earthed.length),(.own 48 false u0.badBus.length),(cI p.buses),(.d (aR none 5 Source.cell p.sources)),(.d (aR none 6 Link.cell p.links)),(.d (aR none 4 aJ.cell p.racks)),(cI u2),(.d nS),(cI 0),(.mp 50),(cI 0)])),(52,some (aV 87 2 Event.cell ([]:List Event))),(42,some (aV 4 1 af u0.closed)),(43,some (aV 4 1 af u0.locked)),(44,some (aV 4 1 af u0.badLink)),(45,some (aV 4 1 af u0.on_)),(46,some (aV 4 1 af u0.badSource)),(47,some (aV 4 1 af u0.earthed)),(48,some (aV 4 1 af u0.badBus)),Uc]
end
theorem fA (p:ai) (s_:State) (u2:Int):eH Tryz.prog 11 (NE p s_ u2) [] (fun r=>(.iq [(.agg [(.own 0 false r.1.events.length),(cB r.1.cleared),(cI r.1.millis),(cI r.1.energy),(.own 1 false r.1.state.closed.length),(.own 2 false r.1.state.locked.length),(.own 3 false r.1.state.badLink.length),(.own 4 false r.1.state.on_.length),(.own 5 false r.1.state.badSource.length),(.own 6 false r.1.state.earthed.length),(.own 7 false r.1.state.badBus.length)]),(sI r.2)])) (fun r=>[(0,some (aV 87 2 Event.cell r.1.events)),(1,some (aV 4 1 af r.1.state.closed)),(2,some (aV 4 1 af r.1.state.locked)),(3,some (aV 4 1 af r.1.state.badLink)),(4,some (aV 4 1 af r.1.state.on_)),(5,some (aV 4 1 af r.1.state.badSource)),(6,some (aV 4 1 af r.1.state.earthed)),(7,some (aV 4 1 af r.1.state.badBus)),(8,none)]) (bI p s_ u2):=
  fC tT mX Tryz.func11 (
  .rg {fr:=[(0,23),(1,24),(2,25)],fz:=[24]} []<| .cl 2 (fE p s_) fun r_=> .r<| .r<| .it (.r<| .im (.xk 25 0 26 87 2 (au Event.cell ([]:List Event)))<| .im (.xk 25 4 27 4 1 (au af ([]:List Bool)))<| .im (.xk 25 5 28 4 1 (au af ([]:List Bool)))<| .im (.xk 25 6 29 4 1 (au af ([]:List Bool)))<| .im (.xk 25 7 30 4 1 (au af ([]:List Bool)))<| .im (.xk 25 8 31 4 1 (au af ([]:List Bool)))<| .im (.xk 25 9 32 4 1 (au af ([]:List Bool)))<| .im (.xk 25 10 33 4 1 (au af ([]:List Bool)))<| .en ((⟨([]:List Event),false,0,0,(⟨([]:List Bool),([]:List Bool),([]:List Bool),([]:List Bool),([]:List Bool),([]:List Bool),([]:List Bool)⟩:State)⟩:aA),r_) [] [(26,0),(27,1),(28,2),(29,3),(30,4),(31,5),(32,6),(33,7),(25,8)])
  (.r<| .it (.r<| .im (.xk 25 0 34 87 2 (au Event.cell ([]:List Event)))<| .im (.xk 25 4 35 4 1 (au af ([]:List Bool)))<| .im (.xk 25 5 36 4 1 (au af ([]:List Bool)))<| .im (.xk 25 6 37 4 1 (au af ([]:List Bool)))<| .im (.xk 25 7 38 4 1 (au af ([]:List Bool)))<| .im (.xk 25 8 39 4 1 (au af ([]:List Bool)))<| .im (.xk 25 9 40 4 1 (au af ([]:List Bool)))<| .im (.xk 25 10 41 4 1 (au af ([]:List Bool)))<| .en ((⟨([]:List Event),false,0,0,(⟨([]:List Bool),([]:List Bool),([]:List Bool),([]:List Bool),([]:List Bool),([]:List Bool),([]:List Bool)⟩:State)⟩:aA),1) [] [(34,0),(35,1),(36,2),(37,3),(38,4),(39,5),(40,6),(41,7),(25,8)])
  (.cl 1 (nJ [(0,42),(1,43),(2,44),(3,45),(4,46),(5,47),(6,48),(7,49)] (wQ s_)) fun u0=> .rg {an:=[(5, .map 0 (yJ (aL .i64) ([]:(List (Int × Int)))) (Ae (aL .i64) ([]:(List (Int × Int)))) [])],fr:=[(5,50),(7,51)]} []<| .im (.xk 51 0 52 87 2 (au Event.cell ([]:List Event)))<| .cl 1 ⟨fun{u1} hr_2=>((Fn.WL (args:=[(.one (.ptr 51 0))]) (args':=[(.one (.ptr 51 0))]) (hin:=[(51,some (.cells 96 [(.own 52 false (([]:List Event).length)),(cB false),(cI 0),(cI 0),(.own 42 false u0.closed.length),(.own 43 false u0.locked.length),(.own 44 false u0.badLink.length),(.own 45 false u0.on_.length),(.own 46 false u0.badSource.length),(.own 47 false u0.earthed.length),(.own 48 false u0.badBus.length),(cI p.buses),(.d (aR none 5 Source.cell p.sources)),(.d (aR none 6 Link.cell p.links)),(.d (aR none 4 aJ.cell p.racks)),(cI u2),(.d (aR (some false) 1 (aL .i64) ([]:List Int))),(cI 0),(.mp 50),(cI 0)])),(52,some (aV 87 2 Event.cell ([]:List Event))),(42,some (aV 4 1 af u0.closed)),(43,some (aV 4 1 af u0.locked)),(44,some (aV 4 1 af u0.badLink)),(45,some (aV 4 1 af u0.on_)),(46,some (aV 4 1 af u0.badSource)),(47,some (aV 4 1 af u0.earthed)),(48,some (aV 4 1 af u0.badBus)),Uc]) (hin':=(U8 u0 p u2)) (Fn.Mt [(0,51),(1,52),(2,42),(3,43),(4,44),(5,45),(6,46),(7,47),(8,48),(9,50),(10,53),(11,54),(12,55),(13,56),(14,57),(15,58),(16,59),(17,60),(18,61)] (uQ (⟨(⟨([]:List Event),false,0,0,u0⟩:aA),p,u2,([]:List Int),0,([]:(List (Int × Int))),0⟩:Machine) false hr_2) (by kernel_rfl) (by kernel_rfl) (by kernel_rfl) (by kernel_rfl)) ⟨yh.refl _,trivial⟩ ⟨rfl,uq ⟨gN.refl _,gN.refl _,gN.refl _,gN.refl _,gN.refl _,gN.refl _,gN.refl _,gN.refl _,gN.refl _,gN.refl _,gN.refl _,gN.refl _,gN.refl _,gN.refl _,gN.refl _,gN.refl _,gN.d iY.Ue,gN.refl _,gN.refl _,gN.refl _,trivial⟩,⟨rfl, .refl _,⟨rfl, .refl _,⟨rfl, .refl _,⟨rfl, .refl _,⟨rfl, .refl _,⟨rfl, .refl _,⟨rfl, .refl _,⟨rfl, .refl _,⟨rfl, .refl _,trivial⟩⟩⟩⟩⟩⟩⟩⟩⟩⟩):Fn Tryz.prog 37 [(.one (.ptr 51 0))] (U8 u0 p u2) (.v (.agg [(.own 53 false u1.1.events.length),(cB u1.1.cleared),(cI u1.1.millis),(cI u1.1.energy),(.own 54 false u1.1.state.closed.length),(.own 55 false u1.1.state.locked.length),(.own 56 false u1.1.state.badLink.length),(.own 57 false u1.1.state.on_.length),(.own 58 false u1.1.state.badSource.length),(.own 59 false u1.1.state.earthed.length),(.own 60 false u1.1.state.badBus.length)])) [(51,none),(52,none),(42,none),(43,none),(44,none),(45,none),(46,none),(47,none),(48,none),(50,some (NI 3 3 false false 1 1 (aL .i64) (aL .i64) u1.2)),(53,some (aV 87 2 Event.cell u1.1.events)),(54,some (aV 4 1 af u1.1.state.closed)),(55,some (aV 4 1 af u1.1.state.locked)),(56,some (aV 4 1 af u1.1.state.badLink)),(57,some (aV 4 1 af u1.1.state.on_)),(58,some (aV 4 1 af u1.1.state.badSource)),(59,some (aV 4 1 af u1.1.state.earthed)),(60,some (aV 4 1 af u1.1.state.badBus)),(61,none)])⟩ fun u1=> .r<| .en (u1.1,0) [] [(53,0),(54,1),(55,2),(56,3),(57,4),(58,5),(59,6),(60,7),(25,8)])))
theorem BG (p:ai) (i:Int) (u0:Int):eH Tryz.prog 44 [(.agg (k0 p)),(sI i),(sI u0)] [] (fun r=>(vB r)) (fun _=>[]) (vo p i u0):=
  fC tT mX Tryz.func44 (
  .rg {fr:=[(0,1)],fz:=[1]} []<| .a2 (k8 p i) ((gB [((decide ((NN i p)=u0)),false)]=true→(0:Int)≤i∧i<(p.links.length:Int)))<| .rg {} [0,1]<| .e (bif (decide ((NN i p)=u0))then true else(decide ((NH i p)=u0))))
theorem uR (x:Event) (x1:Int) (u0:(List Source)) (u1:(List Link)) (u2:(List aJ)) (x2:Int):eH Tryz.prog 43 [(.agg [(cI x.millis),(cI x.link)]),(sD (k9 u0 u1 u2 x1)),(sD (MN [(.int .i64 x2)] 0))] [] (fun r=>(vB r)) (fun _=>[]) (mq x x1 u0 u1 u2 x2):=
  fC tT mX Tryz.func43 (
  .rg {fr:=[(0,1)],fz:=[1]} []<| .cl 4 (BG (⟨x1,u0,u1,u2⟩:ai) x.link x2) fun r_=> .r<| .e (!r_))
section
variable (s_:(List Event)) (f_:Int) (u0:(List Source)) (u1:(List Link)) (u2:(List aJ)) (u3:Int)
abbrev Vp:List SV:=[(sD (aR none 2 Event.cell s_)),(sD (.fn 43 2 (zk [(k9 u0 u1 u2 f_),(MN [(.int .i64 u3)] 0)])))]
end
theorem sM (s_:(List Event)) (f_:Int) (u0:(List Source)) (u1:(List Link)) (u2:(List aJ)) (u3:Int):eH Tryz.prog 90 (Vp s_ f_ u0 u1 u2 u3) [] (fun r=>(vI r)) (fun _=>[]) (kU s_ f_ u0 u1 u2 u3):=
  fC tT mX Tryz.func90 (
  .r<| .r<| .lp (σ:=Int) (β:=Unit) (0) [] [] ⟨[0,1,7],[],fun t8=>[(8,(vI t8))],fun t8=>[]⟩ ⟨[],[],fun _=>[],fun _=>[]⟩
  (fun t8=> .r<| .it (.r<| .cl 5 (uR (at' s_ t8.toNat) f_ u0 u1 u2 u3) fun r_=> .a1 ((0:Int)≤t8∧t8<(s_.length:Int))<| .rg {} [0,1]<| .it (.r<| .e (.done (.ret t8)))
  (.r<| .e (.next (k5 t8))))
  (.e (.done (.brk ()))))
  (fun _=> .r<| .e (-1)))
theorem qA (s_:(List Event)) (f_:Int) (u0:(List Source)) (u1:(List Link)) (u2:(List aJ)) (u3:Int):eH Tryz.prog 42 (Vp s_ f_ u0 u1 u2 u3) [] (fun r=>(vB r)) (fun _=>[]) (jE s_ f_ u0 u1 u2 u3):=
  fC tT mX Tryz.func42 (
  .r<| .cl 2 (sM s_ f_ u0 u1 u2 u3) fun r_=> .r<| .e (decide (0≤r_)))
theorem lF (p:ai) (s_:State) (u0:Int):eH Tryz.prog 14 (NE p s_ u0) [] (fun r=>(.iq [(sB r.1),(sI r.2)])) (fun _=>[]) (fq p s_ u0):=
  fC tT mX Tryz.func14 (
  .rg {fr:=[(0,13),(1,14),(2,15)],fz:=[13,14,15]} []<| .cl 3 (nJ [(0,16),(1,17),(2,18),(3,19),(4,20),(5,21),(6,22),(7,23),(8,24)] (fA p s_ u0)) fun r_=> .rg {fr:=[(7,25)],fz:=[16,17,18,19,20,21,22,23]} []<| .fz [25]<| .r<| .it (.r<| .e (false,r_.2))
  (.cg 6 [(r_.1.cleared,true)] (qA r_.1.events p.buses p.sources p.links p.racks u0) fun u1=> .r<| .e ((bif r_.1.cleared then(!u1)else false),0)))
end
end Sg
