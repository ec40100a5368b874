import Derived.Test.YtbjhjmcpfmhgdaaGreatSsGm
import Derived.Test.YtbjhjmcpfmhgdaaGreatProg
import Derived.Test.YtbjhjmcpfmhgdaaGreatSsLf
set_option linter.all false
namespace Sg
open Go Go.Proofs
set_option maxRecDepth 20000
noncomputable section
noncomputable def TT:List (Nat × TI):=[(3,⟨Tryz.t3.desc,Tryz.t3.size,Tryz.t3.bytes,zl Tryz.t3,false⟩),
  (4,⟨Tryz.t4.desc,Tryz.t4.size,Tryz.t4.bytes,zl Tryz.t4,false⟩),
  (22,⟨Tryz.t22.desc,Tryz.t22.size,Tryz.t22.bytes,zl Tryz.t22,false⟩),
  (23,⟨Tryz.t23.desc,Tryz.t23.size,Tryz.t23.bytes,zl Tryz.t23,false⟩),
  (24,⟨Tryz.t24.desc,Tryz.t24.size,Tryz.t24.bytes,zl Tryz.t24,false⟩),
  (26,⟨Tryz.t25.desc,Tryz.t26.size,Tryz.t26.bytes,zl Tryz.t26,false⟩),
  (27,⟨Tryz.t27.desc,Tryz.t27.size,Tryz.t27.bytes,zl Tryz.t27,false⟩),
  (29,⟨Tryz.t28.desc,Tryz.t29.size,Tryz.t29.bytes,zl Tryz.t29,false⟩),
  (32,⟨Tryz.t3.desc,Tryz.t32.size,Tryz.t32.bytes,zl Tryz.t32,false⟩),
  (33,⟨Tryz.t33.desc,Tryz.t33.size,Tryz.t33.bytes,zl Tryz.t33,false⟩),
  (35,⟨Tryz.t34.desc,Tryz.t35.size,Tryz.t35.bytes,zl Tryz.t35,false⟩),
  (36,⟨Tryz.t3.desc,Tryz.t36.size,Tryz.t36.bytes,zl Tryz.t36,false⟩),
  (38,⟨Tryz.t37.desc,Tryz.t38.size,Tryz.t38.bytes,zl Tryz.t38,true⟩),
  (39,⟨Tryz.t39.desc,Tryz.t39.size,Tryz.t39.bytes,zl Tryz.t39,false⟩),
  (40,⟨Tryz.t40.desc,Tryz.t40.size,Tryz.t40.bytes,zl Tryz.t40,false⟩),
  (42,⟨Tryz.t41.desc,Tryz.t42.size,Tryz.t42.bytes,zl Tryz.t42,false⟩),
  (43,⟨Tryz.t3.desc,Tryz.t43.size,Tryz.t43.bytes,zl Tryz.t43,false⟩),
  (45,⟨Tryz.t44.desc,Tryz.t45.size,Tryz.t45.bytes,zl Tryz.t45,true⟩),
  (47,⟨Tryz.t41.desc,Tryz.t47.size,Tryz.t47.bytes,zl Tryz.t47,false⟩),
  (49,⟨Tryz.t3.desc,Tryz.t49.size,Tryz.t49.bytes,zl Tryz.t49,false⟩),
  (57,⟨Tryz.t57.desc,Tryz.t57.size,Tryz.t57.bytes,zl Tryz.t57,false⟩),
  (130,⟨Tryz.t130.desc,Tryz.t130.size,Tryz.t130.bytes,zl Tryz.t130,false⟩),
  (133,⟨Tryz.t133.desc,Tryz.t133.size,Tryz.t133.bytes,zl Tryz.t133,true⟩),
  (145,⟨Tryz.t145.desc,Tryz.t145.size,Tryz.t145.bytes,zl Tryz.t145,true⟩),
  (147,⟨Tryz.t146.desc,Tryz.t147.size,Tryz.t147.bytes,zl Tryz.t147,true⟩),
  (155,⟨Tryz.t155.desc,Tryz.t155.size,Tryz.t155.bytes,zl Tryz.t155,false⟩),
  (166,⟨Tryz.t166.desc,Tryz.t166.size,Tryz.t166.bytes,zl Tryz.t166,false⟩),
  (167,⟨Tryz.t167.desc,Tryz.t167.size,Tryz.t167.bytes,zl Tryz.t167,false⟩),
  (168,⟨Tryz.t168.desc,Tryz.t168.size,Tryz.t168.bytes,zl Tryz.t168,false⟩),
  (170,⟨Tryz.t169.desc,Tryz.t170.size,Tryz.t170.bytes,zl Tryz.t170,false⟩),
  (178,⟨Tryz.t177.desc,Tryz.t178.size,Tryz.t178.bytes,zl Tryz.t178,true⟩),
  (229,⟨Tryz.t229.desc,Tryz.t229.size,Tryz.t229.bytes,zl Tryz.t229,false⟩),
  (231,⟨Tryz.t231.desc,Tryz.t231.size,Tryz.t231.bytes,zl Tryz.t231,false⟩),
  (232,⟨Tryz.t232.desc,Tryz.t232.size,Tryz.t232.bytes,zl Tryz.t232,false⟩),
  (242,⟨Tryz.t242.desc,Tryz.t242.size,Tryz.t242.bytes,zl Tryz.t242,false⟩),
  (244,⟨Tryz.t243.desc,Tryz.t244.size,Tryz.t244.bytes,zl Tryz.t244,false⟩),
  (245,⟨Tryz.t245.desc,Tryz.t245.size,Tryz.t245.bytes,zl Tryz.t245,false⟩),
  (247,⟨Tryz.t247.desc,Tryz.t247.size,Tryz.t247.bytes,zl Tryz.t247,false⟩),
  (248,⟨Tryz.t248.desc,Tryz.t248.size,Tryz.t248.bytes,zl Tryz.t248,false⟩),
  (251,⟨Tryz.t250.desc,Tryz.t251.size,Tryz.t251.bytes,zl Tryz.t251,false⟩),
  (254,⟨Tryz.t254.desc,Tryz.t254.size,Tryz.t254.bytes,zl Tryz.t254,false⟩),
  (282,⟨Tryz.t281.desc,Tryz.t282.size,Tryz.t282.bytes,zl Tryz.t282,true⟩),
  (284,⟨Tryz.t284.desc,Tryz.t284.size,Tryz.t284.bytes,zl Tryz.t284,false⟩),
  (287,⟨Tryz.t286.desc,Tryz.t287.size,Tryz.t287.bytes,zl Tryz.t287,false⟩),
  (290,⟨Tryz.t290.desc,Tryz.t290.size,Tryz.t290.bytes,zl Tryz.t290,false⟩),
  (293,⟨Tryz.t293.desc,Tryz.t293.size,Tryz.t293.bytes,zl Tryz.t293,false⟩),
  (296,⟨Tryz.t296.desc,Tryz.t296.size,Tryz.t296.bytes,zl Tryz.t296,false⟩),
  (303,⟨Tryz.t303.desc,Tryz.t303.size,Tryz.t303.bytes,zl Tryz.t303,false⟩),
  (305,⟨Tryz.t304.desc,Tryz.t305.size,Tryz.t305.bytes,zl Tryz.t305,false⟩),
  (306,⟨Tryz.t306.desc,Tryz.t306.size,Tryz.t306.bytes,zl Tryz.t306,false⟩),
  (337,⟨Tryz.t336.desc,Tryz.t337.size,Tryz.t337.bytes,zl Tryz.t337,false⟩)]
theorem tT:qh Tryz.prog TT:=⟨gW (by kernel_rfl) (by kernel_rfl) (by kernel_rfl),⟨jk,dN (by kernel_rfl)⟩,gW (by kernel_rfl) (by kernel_rfl) (by kernel_rfl),⟨jk,dN (by kernel_rfl)⟩,gW (by kernel_rfl) (by kernel_rfl) (by kernel_rfl),⟨jk,dN (by kernel_rfl)⟩,gW (by kernel_rfl) (by kernel_rfl) (by kernel_rfl),⟨jk,dN (by kernel_rfl)⟩,gW (by kernel_rfl) (by kernel_rfl) (by kernel_rfl),⟨jk,dN (by kernel_rfl)⟩,gW (by kernel_rfl) (by kernel_rfl) (by kernel_rfl),⟨jk,dN (by kernel_rfl)⟩,gW (by kernel_rfl) (by kernel_rfl) (by kernel_rfl),⟨jk,dN (by kernel_rfl)⟩,gW (by kernel_rfl) (by kernel_rfl) (by kernel_rfl),⟨jk,dN (by kernel_rfl)⟩,gW (by kernel_rfl) (by kernel_rfl) (by kernel_rfl),⟨jk,dN (by kernel_rfl)⟩,gW (by kernel_rfl) (by kernel_rfl) (by kernel_rfl),⟨jk,dN (by kernel_rfl)⟩,gW (by kernel_rfl) (by kernel_rfl) (by kernel_rfl),⟨jk,dN (by kernel_rfl)⟩,gW (by kernel_rfl) (by kernel_rfl) (by kernel_rfl),⟨jk,dN (by kernel_rfl)⟩,gW (by kernel_rfl) (by kernel_rfl) (by kernel_rfl),⟨fun _=> ⟨by kernel_rfl,by kernel_rfl⟩,dN (by kernel_rfl)⟩,gW (by kernel_rfl) (by kernel_rfl) (by kernel_rfl),⟨jk,dN (by kernel_rfl)⟩,gW (by kernel_rfl) (by kernel_rfl) (by kernel_rfl),⟨jk,dN (by kernel_rfl)⟩,gW (by kernel_rfl) (by kernel_rfl) (by kernel_rfl),⟨jk,dN (by kernel_rfl)⟩,gW (by kernel_rfl) (by kernel_rfl) (by kernel_rfl),⟨jk,dN (by kernel_rfl)⟩,gW (by kernel_rfl) (by kernel_rfl) (by kernel_rfl),⟨fun _=> ⟨by kernel_rfl,by kernel_rfl⟩,dN (by kernel_rfl)⟩,gW (by kernel_rfl) (by kernel_rfl) (by kernel_rfl),⟨jk,dN (by kernel_rfl)⟩,gW (by kernel_rfl) (by kernel_rfl) (by kernel_rfl),⟨jk,dN (by kernel_rfl)⟩,gW (by kernel_rfl) (by kernel_rfl) (by kernel_rfl),⟨jk,dN (by kernel_rfl)⟩,gW (by kernel_rfl) (by kernel_rfl) (by kernel_rfl),⟨jk,dN (by kernel_rfl)⟩,gW (by kernel_rfl) (by kernel_rfl) (by kernel_rfl),⟨fun _=> ⟨by kernel_rfl,by kernel_rfl⟩,dN (by kernel_rfl)⟩,gW (by kernel_rfl) (by kernel_rfl) (by kernel_rfl),⟨fun _=> ⟨by kernel_rfl,by kernel_rfl⟩,dN (by kernel_rfl)⟩,gW (by kernel_rfl) (by kernel_rfl) (by kernel_rfl),⟨fun _=> ⟨by kernel_rfl,by kernel_rfl⟩,dN (by kernel_rfl)⟩,gW (by kernel_rfl) (by kernel_rfl) (by kernel_rfl),⟨jk,dN (by kernel_rfl)⟩,gW (by kernel_rfl) (by kernel_rfl) (by kernel_rfl),⟨jk,dN (by kernel_rfl)⟩,gW (by kernel_rfl) (by kernel_rfl) (by kernel_rfl),⟨jk,dN (by kernel_rfl)⟩,gW (by kernel_rfl) (by kernel_rfl) (by kernel_rfl),⟨jk,dN (by kernel_rfl)⟩,gW (by kernel_rfl) (by kernel_rfl) (by kernel_rfl),⟨jk,dN (by kernel_rfl)⟩,gW (by kernel_rfl) (by kernel_rfl) (by kernel_rfl),⟨fun _=> ⟨by kernel_rfl,by kernel_rfl⟩,dN (by kernel_rfl)⟩,gW (by kernel_rfl) (by kernel_rfl) (by kernel_rfl),⟨jk,dN (by kernel_rfl)⟩,gW (by kernel_rfl) (by kernel_rfl) (by kernel_rfl),⟨jk,dN (by kernel_rfl)⟩,gW (by kernel_rfl) (by kernel_rfl) (by kernel_rfl),⟨jk,dN (by kernel_rfl)⟩,gW (by kernel_rfl) (by kernel_rfl) (by kernel_rfl),⟨jk,dN (by kernel_rfl)⟩,gW (by kernel_rfl) (by kernel_rfl) (by kernel_rfl),⟨jk,dN (by kernel_rfl)⟩,gW (by kernel_rfl) (by kernel_rfl) (by kernel_rfl),⟨jk,dN (by kernel_rfl)⟩,gW (by kernel_rfl) (by kernel_rfl) (by kernel_rfl),⟨jk,dN (by kernel_rfl)⟩,gW (by kernel_rfl) (by kernel_rfl) (by kernel_rfl),⟨jk,dN (by kernel_rfl)⟩,gW (by kernel_rfl) (by kernel_rfl) (by kernel_rfl),⟨jk,dN (by kernel_rfl)⟩,gW (by kernel_rfl) (by kernel_rfl) (by kernel_rfl),⟨jk,dN (by kernel_rfl)⟩,gW (by kernel_rfl) (by kernel_rfl) (by kernel_rfl),⟨fun _=> ⟨by kernel_rfl,by kernel_rfl⟩,dN (by kernel_rfl)⟩,gW (by kernel_rfl) (by kernel_rfl) (by kernel_rfl),⟨jk,dN (by kernel_rfl)⟩,gW (by kernel_rfl) (by kernel_rfl) (by kernel_rfl),⟨jk,dN (by kernel_rfl)⟩,gW (by kernel_rfl) (by kernel_rfl) (by kernel_rfl),⟨jk,dN (by kernel_rfl)⟩,gW (by kernel_rfl) (by kernel_rfl) (by kernel_rfl),⟨jk,dN (by kernel_rfl)⟩,gW (by kernel_rfl) (by kernel_rfl) (by kernel_rfl),⟨jk,dN (by kernel_rfl)⟩,gW (by kernel_rfl) (by kernel_rfl) (by kernel_rfl),⟨jk,dN (by kernel_rfl)⟩,gW (by kernel_rfl) (by kernel_rfl) (by kernel_rfl),⟨jk,dN (by kernel_rfl)⟩,gW (by kernel_rfl) (by kernel_rfl) (by kernel_rfl),⟨jk,dN (by kernel_rfl)⟩,gW (by kernel_rfl) (by kernel_rfl) (by kernel_rfl),⟨jk,dN (by kernel_rfl)⟩,trivial⟩
theorem mX:Tryz.prog.follows .mixedOrders=true:=by kernel_rfl
def Jv:Go.Shelf.Ren:=⟨fun|6=>207|14=>261|15=>176|20=>288|21=>289|22=>290|23=>291|24=>292|25=>293|26=>294|27=>295|28=>241|29=>242|46=>299|47=>277|48=>278|49=>300|50=>301|57=>302|n=>n,fun|0=>0|3=>3|4=>4|5=>5|9=>9|22=>155|24=>145|25=>301|39=>272|45=>321|46=>322|50=>326|53=>329|55=>331|66=>357|70=>361|76=>374|77=>375|n=>n,fun n=>n⟩
theorem Ut:Go.Proofs.SlLaysF0.n6 Tryz.prog Jv:=⟨by kernel_rfl,⟨Tryz.f207.name,by kernel_rfl,Tryz.func207.trans (congrArg some (by kernel_rfl))⟩,⟨Tryz.f261.name,by kernel_rfl,Tryz.func261.trans (congrArg some (by kernel_rfl))⟩,Tryz.func176.trans (congrArg some (by kernel_rfl)),⟨Tryz.f288.name,by kernel_rfl,Tryz.func288.trans (congrArg some (by kernel_rfl))⟩,⟨Tryz.f289.name,by kernel_rfl,Tryz.func289.trans (congrArg some (by kernel_rfl))⟩,⟨Tryz.f290.name,by kernel_rfl,Tryz.func290.trans (congrArg some (by kernel_rfl))⟩,⟨Tryz.f291.name,by kernel_rfl,Tryz.func291.trans (congrArg some (by kernel_rfl))⟩,⟨Tryz.f292.name,by kernel_rfl,Tryz.func292.trans (congrArg some (by kernel_rfl))⟩,⟨Tryz.f293.name,by kernel_rfl,Tryz.func293.trans (congrArg some (by kernel_rfl))⟩,⟨Tryz.f294.name,by kernel_rfl,Tryz.func294.trans (congrArg some (by kernel_rfl))⟩,⟨Tryz.f295.name,by kernel_rfl,Tryz.func295.trans (congrArg some (by kernel_rfl))⟩,Tryz.func241.trans (congrArg some (by kernel_rfl)),Tryz.func242.trans (congrArg some (by kernel_rfl)),⟨Tryz.f299.name,by kernel_rfl,Tryz.func299.trans (congrArg some (by kernel_rfl))⟩,Tryz.func277.trans (congrArg some (by kernel_rfl)),Tryz.func278.trans (congrArg some (by kernel_rfl)),⟨Tryz.f300.name,by kernel_rfl,Tryz.func300.trans (congrArg some (by kernel_rfl))⟩,⟨Tryz.f301.name,by kernel_rfl,Tryz.func301.trans (congrArg some (by kernel_rfl))⟩,⟨Tryz.f302.name,by kernel_rfl,Tryz.func302.trans (congrArg some (by kernel_rfl))⟩,Tryz.underlying0,Tryz.isAgg0,Tryz.sizeOf0,Tryz.zeroValue0,Tryz.underlying3,Tryz.isAgg3,Tryz.sizeOf3,Tryz.zeroValue3,Tryz.underlying4,Tryz.isAgg4,Tryz.sizeOf4,Tryz.zeroValue4,Tryz.underlying5,Tryz.isAgg5,Tryz.sizeOf5,Tryz.zeroValue5,Tryz.underlying9,Tryz.isAgg9,Tryz.sizeOf9,Tryz.zeroValue9,Tryz.underlying155,Tryz.isAgg155,Tryz.sizeOf155,Tryz.zeroValue155,Tryz.underlying301,Tryz.isAgg301,Tryz.sizeOf301,Tryz.zeroValue301,Tryz.underlying272,Tryz.isAgg272,Tryz.sizeOf272,Tryz.zeroValue272,Tryz.underlying321,Tryz.isAgg321,Tryz.sizeOf321,Tryz.zeroValue321,Tryz.underlying322,Tryz.isAgg322,Tryz.sizeOf322,Tryz.zeroValue322,Tryz.underlying326,Tryz.isAgg326,Tryz.sizeOf326,Tryz.zeroValue326,Tryz.underlying329,Tryz.isAgg329,Tryz.sizeOf329,Tryz.zeroValue329,Tryz.underlying331,Tryz.isAgg331,Tryz.sizeOf331,Tryz.zeroValue331,Tryz.underlying357,Tryz.isAgg357,Tryz.sizeOf357,Tryz.zeroValue357,Tryz.underlying361,Tryz.isAgg361,Tryz.sizeOf361,Tryz.zeroValue361,Tryz.underlying374,Tryz.isAgg374,Tryz.sizeOf374,Tryz.zeroValue374,Tryz.underlying375,Tryz.isAgg375,Tryz.sizeOf375,Tryz.zeroValue375⟩
theorem Va (w:World):(isAgg (Jv.t 24)).run Tryz.prog w= .ok true w:=Tryz.isAgg145 w
theorem SY (w:World):(Go.sizeOf (Jv.t 24)).run Tryz.prog w= .ok 2 w:=Tryz.sizeOf145 w
section
variable (a:List Int) (i:Int)
abbrev k0:DV:=(aS none 1 (bK .i64) a)
abbrev k1:=((0:Int)<=i/\i<(a.length:Int))
abbrev k2:=(IntKind.wrap .i64 (i+1))
end
theorem uW (a:List Int) (b:List Int):dO Tryz.prog 11 [sD (k0 a),sD (k0 b)] [] (fun r=>(vB r)) (fun _=>[]) (gJ a b):=
  eG tT mX Tryz.func11 (
  .r<| .r<| .it (.r<| .e false)
  (.r<| .lp (σ:=Int) (β:=Unit) (0) [] [] ⟨[0,1],[],fun i=>[(5,vI i)],fun i=>[]⟩ ⟨[],[],fun _=>[],fun _=>[]⟩
  (fun i=> .r<| .it (.a2 (k1 a i) (k1 b i)<| .rg {} [0,1]<| .it (.r<| .e (.done (.ret false)))
  (.r<| .e (.next (k2 i))))
  (.e (.done (.brk ()))))
  (fun _=> .r<| .e true)))
theorem qY (l:List Int):dO Tryz.prog 58 [sD (k0 l)] [] (fun r=>(vO 0 false r.length)) (fun r=>[(0,some (aN 3 1 (bK .i64) r))]) (mM l):=
  eG tT mX Tryz.func58 (
  .r<| .r<| .a2 (l.length*8<=140737488355328) (l.length<=4611686018427387904)<| .rg {an:=[(2, .arr l.length (ay (bK .i64) l))],fr:=[(2,1)]} [0,1, .e (l.length), .pf ⟨aG l.length 1 (ay (bK .i64) l) (ay (bK .i64) l),kE _ _ _⟩]<| .en l [] [(1,0)])
section
variable (l:List af)
abbrev k3:DV:=(aS none 2 af.cell l)
end
theorem qi (l:List af):dO Tryz.prog 59 [sD (k3 l)] [] (fun r=>(vO 0 false r.length)) (fun r=>[(0,some (aN 45 2 af.cell r))]) (kP l):=
  eG tT mX Tryz.func59 (
  .r<| .r<| .a2 (l.length*16<=140737488355328) (l.length<=4611686018427387904)<| .rg {an:=[(2, .arr l.length (ay af.cell l))],fr:=[(2,1)]} [0,1, .e (l.length), .pf ⟨aG l.length 2 (ay af.cell l) (ay af.cell l),kE _ _ _⟩]<| .en l [] [(1,0)])
section
variable (t:Task)
abbrev k5:DV:=(aS none 1 (bK .i64) t.fed)
abbrev k6:DV:=(aS none 1 (bK .i64) t.bj)
abbrev k7:DV:=(aS none 2 af.cell t.ba)
abbrev k8:DV:=(aS none 2 af.cell t.bk)
abbrev k4:List CV:=[.d (k5 t),.d (k6 t),.d (k7 t),.d (k8 t)]
end
theorem gI (t:Task):dO Tryz.prog 12 [.agg (k4 t)] [] (fun r=>(.v (.agg [.d (aS none 1 (bK .i64) r.fed),.d (aS none 1 (bK .i64) r.bj),.d (aS none 2 af.cell r.ba),.d (aS none 2 af.cell r.bk)]))) (fun _=>[]) (fq t):=
  eG tT mX Tryz.func12 (
  .rg {fr:=[(0,6),(1,7)],fz:=[6]} []<| .cl 2 (dL [(0,8)] (qY t.fed)) fun r_=> .cl 5 (dL [(0,9)] (qY t.bj)) fun u0=> .cl 8 (dL [(0,10)] (qi t.ba)) fun u1=> .cl 11 (dL [(0,11)] (qi t.bk)) fun u2=> .rg {fz:=[8,9,10,11]} []<| .fz [7]<| .e (⟨r_,u0,u1,u2⟩:Task))
theorem aV (n:Int) (u0:Int) (u1:Int):dO Tryz.prog 198 [sI n,sI u0,sI u1] [] (fun r=>(vB r)) (fun _=>[]) (bg n u0 u1):=
  eG tT mX Tryz.func198 (
  .r<| .r<| .e (bif (decide (u0<=n))then(decide (n<=u1))else false))
section
variable (p:au)
abbrev k10:List CV:=[cI p.aw,.d (aS none 5 Source.cell p.aa),.d (aS none 6 Link.cell p.ac),.d (aS none 4 aY.cell p.a_)]
abbrev k9:List SV:=[.agg (k10 p)]
end
theorem CX (p:au):dO Tryz.prog 200 (k9 p) [] (fun r=>(vD (.fn 253 1 (bI [EP [.int .i64 r.1,aS none 5 Source.cell r.2.1,aS none 6 Link.cell r.2.2.1,aS none 4 aY.cell r.2.2.2] 0])))) (fun _=>[]) (tV p):=
  eG tT mX Tryz.func200 (
  .rg {fr:=[(0,1)],fz:=[1]} []<| .r<| .e (p.aw,p.aa,p.ac,p.a_))
theorem EC (p:au):dO Tryz.prog 202 (k9 p) [] (fun r=>(vD (.fn 256 1 (bI [EP [.int .i64 r.1,aS none 5 Source.cell r.2.1,aS none 6 Link.cell r.2.2.1,aS none 4 aY.cell r.2.2.2] 0])))) (fun _=>[]) (xJ p):=
  eG tT mX Tryz.func202 (
  .rg {fr:=[(0,1)],fz:=[1]} []<| .r<| .e (p.aw,p.aa,p.ac,p.a_))
theorem Ez (p:au):dO Tryz.prog 204 (k9 p) [] (fun r=>(vD (.fn 259 1 (bI [EP [.int .i64 r.1,aS none 5 Source.cell r.2.1,aS none 6 Link.cell r.2.2.1,aS none 4 aY.cell r.2.2.2] 0])))) (fun _=>[]) (xH p):=
  eG tT mX Tryz.func204 (
  .rg {fr:=[(0,1)],fz:=[1]} []<| .r<| .e (p.aw,p.aa,p.ac,p.a_))
section
variable (x:Source) (x1:Int) (u2:List Source) (u3:List Link) (u4:List aY) (r_:Bool) (u0:Bool) (u1:Bool) (u5:Bool) (u6:Bool)
abbrev k11:List CV:=[cI x.bus,cI x.kind,cI x.power,cI x.bs,cI x.ohm]
abbrev k12:DV:=(EP [.int .i64 x1,aS none 5 Source.cell u2,aS none 6 Link.cell u3,aS none 4 aY.cell u4] 0)
abbrev k13:=(IntKind.wrap .i64 (x1 - 1))
abbrev k14:=((bif r_ then u0 else false),true)
abbrev k15:=((bif (bif r_ then u0 else false)then u1 else false),true)
abbrev k16:=(bif (bif (bif r_ then u0 else false)then u1 else false)then u5 else false)
abbrev k17:=(bif (k16 r_ u0 u1 u5)then u6 else false)
end
theorem zW (x:Source) (x1:Int) (u2:List Source) (u3:List Link) (u4:List aY):dO Tryz.prog 253 [.agg (k11 x),sD (k12 x1 u2 u3 u4)] [] (fun r=>(vB r)) (fun _=>[]) (mW x x1 u2 u3 u4):=
  eG tT mX Tryz.func253 (
  .rg {fr:=[(0,1)],fz:=[1]} []<| .cl 5 (aV x.bus 0 (k13 x1)) fun r_=> .cg 9 [(r_,true)] (aV x.kind 1 3) fun u0=> .cg 14 [k14 r_ u0] (aV x.power 1 100000) fun u1=> .cg 19 [k15 r_ u0 u1] (aV x.bs 0 8) fun u5=> .cg 24 [(k16 r_ u0 u1 u5,true)] (aV x.ohm 10 100000) fun u6=> .r<| .e (k17 r_ u0 u1 u5 u6))
section
variable (x1:Int) (u0:List Source) (u1:List Link) (u2:List aY)
abbrev k19:=(bI [k12 x1 u0 u1 u2])
abbrev k18:DV:=(EP [.fn 253 1 (k19 x1 u0 u1 u2)] 0)
end
theorem BO (x:Source) (x1:Int) (u0:List Source) (u1:List Link) (u2:List aY):dO Tryz.prog 252 [.agg (k11 x),sD (k18 x1 u0 u1 u2)] [] (fun r=>(vB r)) (fun _=>[]) (uH x x1 u0 u1 u2):=
  eG tT mX Tryz.func252 (
  .rg {fr:=[(0,1)],fz:=[1]} []<| .cl 2 (zW x x1 u0 u1 u2) fun r_=> .r<| .e (!r_))
section
variable (s_:List Source) (f_:Int) (u0:List Source) (u1:List Link) (u2:List aY)
abbrev k20:List SV:=[sD (aS none 5 Source.cell s_),sD (.fn 252 1 (bI [k18 f_ u0 u1 u2]))]
end
theorem yA (s_:List Source) (f_:Int) (u0:List Source) (u1:List Link) (u2:List aY):dO Tryz.prog 285 (k20 s_ f_ u0 u1 u2) [] (fun r=>(vI r)) (fun _=>[]) (oO s_ f_ u0 u1 u2):=
  eG tT mX Tryz.func285 (
  .r<| .r<| .lp (σ:=Int) (β:=Unit) (0) [] [] ⟨[0,1,7],[],fun t8=>[(8,vI t8)],fun t8=>[]⟩ ⟨[],[],fun _=>[],fun _=>[]⟩
  (fun t8=> .r<| .it (.r<| .cl 5 (BO (at' s_ t8.toNat) f_ u0 u1 u2) fun r_=> .a1 ((0:Int)<=t8/\t8<(s_.length:Int))<| .rg {} [0,1]<| .it (.r<| .e (.done (.ret t8)))
  (.r<| .e (.next (k2 t8))))
  (.e (.done (.brk ()))))
  (fun _=> .r<| .e (-1)))
theorem vK (s_:List Source) (f_:Int) (u0:List Source) (u1:List Link) (u2:List aY):dO Tryz.prog 251 (k20 s_ f_ u0 u1 u2) [] (fun r=>(vB r)) (fun _=>[]) (iR s_ f_ u0 u1 u2):=
  eG tT mX Tryz.func251 (
  .r<| .cl 2 (yA s_ f_ u0 u1 u2) fun r_=> .r<| .e (decide (0<=r_)))
theorem Ew (l:List Source) (u0:Int) (u1:Int) (u2:List Source) (u3:List Link) (u4:List aY):dO Tryz.prog 199 [sD (aS none 5 Source.cell l),sI u0,sD (.fn 253 1 (k19 u1 u2 u3 u4))] [] (fun r=>(vB r)) (fun _=>[]) (rY l u0 u1 u2 u3 u4):=
  eG tT mX Tryz.func199 (
  .rg {fr:=[(0,1)],fz:=[1]} []<| .cg 7 [(decide ((l.length:Int)<=u0),true)] (vK l u1 u2 u3 u4) fun r_=> .r<| .e (bif (decide ((l.length:Int)<=u0))then(!r_)else false))
section
variable (x:Link) (u0:Int)
abbrev k21:List CV:=[cI x.a,cI x.b,cI x.kind,cI x.most,cI x.ohm,.d (aS none 2 gT.cell x.trip)]
abbrev k22:=(decide (((at' x.trip u0.toNat).amps)<=((at' x.trip ((k13 u0).toNat)).amps)),false)
end
theorem Ci (x:Link) (x1:Int) (u3:List Source) (u4:List Link) (u5:List aY):dO Tryz.prog 256 [.agg (k21 x),sD (k12 x1 u3 u4 u5)] [] (fun r=>(vB r)) (fun _=>[]) (qb x x1 u3 u4 u5):=
  eG tT mX Tryz.func256 (
  .rg {fr:=[(0,5)]} []<| .cl 5 (aV x.a 0 (k13 x1)) fun r_=> .cg 13 [(!r_,false)] (aV x.b 0 (k13 x1)) fun u1=> .cg 26 [((bif (bif (!r_)then true else(!u1))then true else(decide (x.a=x.b))),false)] (aV x.kind 1 3) fun u6=> .cg 32 [((bif (bif (bif (!r_)then true else(!u1))then true else(decide (x.a=x.b)))then true else(!u6)),false)] (aV x.most 1 100000) fun u8=> .cg 38 [((bif (bif (bif (bif (!r_)then true else(!u1))then true else(decide (x.a=x.b)))then true else(!u6))then true else(!u8)),false)] (aV x.ohm 10 100000) fun u9=> .r<| .it (.r<| .e false)
  (.rg {fz:=[5]} []<| .lp (σ:=Int) (β:=Unit) (0) [] [] ⟨[2,48,49],[],fun u0=>[(50,vI u0)],fun u0=>[]⟩ ⟨[2],[],fun _=>[],fun _=>[]⟩
  (fun u0=> .r<| .it (.a1 ((0:Int)<=u0/\u0<(x.trip.length:Int))<| .rg {fr:=[(3,9)],fz:=[9]} []<| .cl 2 (aV ((at' x.trip u0.toNat).amps) 1 1000000) fun u2=> .cg 7 [(!u2,false)] (aV ((at' x.trip u0.toNat).bm) 1 100000) fun u7=> .a2 ((gB [(decide (0<u0),true),((bif (!u2)then true else(!u7)),false)]=true->(0:Int)<=(k13 u0)/\(k13 u0)<(x.trip.length:Int))) ((gB [k22 x u0,(decide (0<u0),true),((bif (!u2)then true else(!u7)),false)]=true->(0:Int)<=(k13 u0)/\(k13 u0)<(x.trip.length:Int)))<| .rg {} [3,2,0,1]<| .it (.r<| .e (.done (.ret false)))
  (.r<| .e (.next (k2 u0))))
  (.e (.done (.brk ()))))
  (fun _=> .r<| .e (bif (decide ((x.trip.length:Int)<=6))then(bif (decide ((x.trip.length:Int)=0))then true else(decide (x.kind=3)))else false))))
section
variable (x1:Int) (u0:List Source) (u1:List Link) (u2:List aY)
abbrev k23:DV:=(EP [.fn 256 1 (k19 x1 u0 u1 u2)] 0)
end
theorem zG (x:Link) (x1:Int) (u0:List Source) (u1:List Link) (u2:List aY):dO Tryz.prog 255 [.agg (k21 x),sD (k23 x1 u0 u1 u2)] [] (fun r=>(vB r)) (fun _=>[]) (pV x x1 u0 u1 u2):=
  eG tT mX Tryz.func255 (
  .rg {fr:=[(0,1)],fz:=[1]} []<| .cl 2 (Ci x x1 u0 u1 u2) fun r_=> .r<| .e (!r_))
section
variable (s_:List Link) (f_:Int) (u0:List Source) (u1:List Link) (u2:List aY)
abbrev k24:List SV:=[sD (aS none 6 Link.cell s_),sD (.fn 255 1 (bI [k23 f_ u0 u1 u2]))]
end
theorem vU (s_:List Link) (f_:Int) (u0:List Source) (u1:List Link) (u2:List aY):dO Tryz.prog 286 (k24 s_ f_ u0 u1 u2) [] (fun r=>(vI r)) (fun _=>[]) (lF s_ f_ u0 u1 u2):=
  eG tT mX Tryz.func286 (
  .r<| .r<| .lp (σ:=Int) (β:=Unit) (0) [] [] ⟨[0,1,7],[],fun t8=>[(8,vI t8)],fun t8=>[]⟩ ⟨[],[],fun _=>[],fun _=>[]⟩
  (fun t8=> .r<| .it (.r<| .cl 5 (zG (at' s_ t8.toNat) f_ u0 u1 u2) fun r_=> .a1 ((0:Int)<=t8/\t8<(s_.length:Int))<| .rg {} [0,1]<| .it (.r<| .e (.done (.ret t8)))
  (.r<| .e (.next (k2 t8))))
  (.e (.done (.brk ()))))
  (fun _=> .r<| .e (-1)))
theorem sF (s_:List Link) (f_:Int) (u0:List Source) (u1:List Link) (u2:List aY):dO Tryz.prog 254 (k24 s_ f_ u0 u1 u2) [] (fun r=>(vB r)) (fun _=>[]) (gy s_ f_ u0 u1 u2):=
  eG tT mX Tryz.func254 (
  .r<| .cl 2 (vU s_ f_ u0 u1 u2) fun r_=> .r<| .e (decide (0<=r_)))
theorem BH (l:List Link) (u0:Int) (u1:Int) (u2:List Source) (u3:List Link) (u4:List aY):dO Tryz.prog 201 [sD (aS none 6 Link.cell l),sI u0,sD (.fn 256 1 (k19 u1 u2 u3 u4))] [] (fun r=>(vB r)) (fun _=>[]) (o8 l u0 u1 u2 u3 u4):=
  eG tT mX Tryz.func201 (
  .rg {fr:=[(0,1)],fz:=[1]} []<| .cg 7 [(decide ((l.length:Int)<=u0),true)] (sF l u1 u2 u3 u4) fun r_=> .r<| .e (bif (decide ((l.length:Int)<=u0))then(!r_)else false))
section
variable (x:aY)
abbrev k25:List CV:=[cI x.bh.e0,cI x.bh.e1,cI x.power,cI x.paths]
end
theorem DN (x:aY):dO Tryz.prog 260 [.agg (k25 x)] [] (fun r=>(vI r)) (fun _=>[]) (qK x):=
  eG tT mX Tryz.func260 (
  .rg {fr:=[(0,1)],fz:=[1]} []<| .rg {} [.pf ⟨(0:Int)<=1/\(1:Int)<(2:Nat),(by decide)⟩]<| .it (.r<| .e 1)
  (.r<| .e 2))
section
variable (r_:Bool) (u0:Bool) (x:aY) (u1:Bool)
abbrev k27:=(bif (bif (bif r_ then u0 else false)then(!decide (x.bh.e0=x.bh.e1))else false)then u1 else false)
abbrev k26:=(k27 r_ u0 x u1,true)
end
theorem BP (x:aY) (x1:Int) (u2:List Source) (u3:List Link) (u4:List aY):dO Tryz.prog 259 [.agg (k25 x),sD (k12 x1 u2 u3 u4)] [] (fun r=>(vB r)) (fun _=>[]) (pX x x1 u2 u3 u4):=
  eG tT mX Tryz.func259 (
  .rg {fr:=[(0,1)],fz:=[1]} []<| .rg {} [.pf ⟨(0:Int)<=0/\(0:Int)<(2:Nat),(by decide)⟩, .pf ⟨(0:Int)<=1/\(1:Int)<(2:Nat),(by decide)⟩]<| .cl 4 (aV x.bh.e0 0 (k13 x1)) fun r_=> .cg 10 [(r_,true)] (aV x.bh.e1 (-1) (k13 x1)) fun u0=> .cg 20 [((bif (bif r_ then u0 else false)then(!decide (x.bh.e0=x.bh.e1))else false),true)] (aV x.power 1 100000) fun u1=> .cg 26 [k26 r_ u0 x u1] (DN x) fun u5=> .cg 27 [k26 r_ u0 x u1] (aV x.paths 0 u5) fun u6=> .r<| .e (bif (k27 r_ u0 x u1)then u6 else false))
section
variable (x1:Int) (u0:List Source) (u1:List Link) (u2:List aY)
abbrev k28:DV:=(EP [.fn 259 1 (k19 x1 u0 u1 u2)] 0)
end
theorem zD (x:aY) (x1:Int) (u0:List Source) (u1:List Link) (u2:List aY):dO Tryz.prog 258 [.agg (k25 x),sD (k28 x1 u0 u1 u2)] [] (fun r=>(vB r)) (fun _=>[]) (pG x x1 u0 u1 u2):=
  eG tT mX Tryz.func258 (
  .rg {fr:=[(0,1)],fz:=[1]} []<| .cl 2 (BP x x1 u0 u1 u2) fun r_=> .r<| .e (!r_))
section
variable (s_:List aY) (f_:Int) (u0:List Source) (u1:List Link) (u2:List aY)
abbrev k29:List SV:=[sD (aS none 4 aY.cell s_),sD (.fn 258 1 (bI [k28 f_ u0 u1 u2]))]
end
theorem vX (s_:List aY) (f_:Int) (u0:List Source) (u1:List Link) (u2:List aY):dO Tryz.prog 287 (k29 s_ f_ u0 u1 u2) [] (fun r=>(vI r)) (fun _=>[]) (lC s_ f_ u0 u1 u2):=
  eG tT mX Tryz.func287 (
  .r<| .r<| .lp (σ:=Int) (β:=Unit) (0) [] [] ⟨[0,1,7],[],fun t8=>[(8,vI t8)],fun t8=>[]⟩ ⟨[],[],fun _=>[],fun _=>[]⟩
  (fun t8=> .r<| .it (.r<| .cl 5 (zD (⟨(at' s_ t8.toNat).bh,(at' s_ t8.toNat).power,(at' s_ t8.toNat).paths⟩:aY) f_ u0 u1 u2) fun r_=> .a1 ((0:Int)<=t8/\t8<(s_.length:Int))<| .rg {} [0,1]<| .it (.r<| .e (.done (.ret t8)))
  (.r<| .e (.next (k2 t8))))
  (.e (.done (.brk ()))))
  (fun _=> .r<| .e (-1)))
theorem rV (s_:List aY) (f_:Int) (u0:List Source) (u1:List Link) (u2:List aY):dO Tryz.prog 257 (k29 s_ f_ u0 u1 u2) [] (fun r=>(vB r)) (fun _=>[]) (gD s_ f_ u0 u1 u2):=
  eG tT mX Tryz.func257 (
  .r<| .cl 2 (vX s_ f_ u0 u1 u2) fun r_=> .r<| .e (decide (0<=r_)))
theorem Cj (l:List aY) (u0:Int) (u1:Int) (u2:List Source) (u3:List Link) (u4:List aY):dO Tryz.prog 203 [sD (aS none 4 aY.cell l),sI u0,sD (.fn 259 1 (k19 u1 u2 u3 u4))] [] (fun r=>(vB r)) (fun _=>[]) (pE l u0 u1 u2 u3 u4):=
  eG tT mX Tryz.func203 (
  .rg {fr:=[(0,1)],fz:=[1]} []<| .cg 7 [(decide ((l.length:Int)<=u0),true)] (rV l u1 u2 u3 u4) fun r_=> .r<| .e (bif (decide ((l.length:Int)<=u0))then(!r_)else false))
theorem Dx (p:au):dO Tryz.prog 127 (k9 p) [] (fun r=>(vI r)) (fun _=>[]) (qJ p):=
  eG tT mX Tryz.func127 (
  .rg {fr:=[(0,1)],fz:=[1]} []<| .cl 2 (aV p.aw 1 24) fun r_=> .r<| .it (.r<| .e 10)
  (.cl 3 (CX p) fun u0=> .cl 4 (Ew p.aa 8 u0.1 u0.2.1 u0.2.2.1 u0.2.2.2) fun u3=> .r<| .it (.r<| .e 11)
  (.cl 3 (EC p) fun u1=> .cl 4 (BH p.ac 40 u1.1 u1.2.1 u1.2.2.1 u1.2.2.2) fun u4=> .r<| .it (.r<| .e 12)
  (.cl 3 (Ez p) fun u2=> .cl 4 (Cj p.a_ 24 u2.1 u2.2.1 u2.2.2.1 u2.2.2.2) fun u5=> .r<| .it (.r<| .e 13)
  (.r<| .e 0)))))
section
variable (s_:State) (p:au) (u0:Int)
abbrev Zd:DV:=(aS none 1 ah s_.ar)
abbrev Y1:DV:=(aS none 1 ah s_.ap)
abbrev YK:DV:=(aS none 1 ah s_.ae)
abbrev Y5:DV:=(aS none 1 ah s_.ag)
abbrev Zh:DV:=(aS none 1 ah s_.aq)
abbrev wB:List CV:=[.d (aS none 1 ah s_.am),.d (Zd s_),.d (Y1 s_),.d (aS none 1 ah s_.on_),.d (YK s_),.d (Y5 s_),.d (Zh s_)]
abbrev RQ:List SV:=[.agg (k10 p),.agg (wB s_)]
abbrev Zy:=(⟨s_.am,(p.ac.length:Int)⟩:dH)
abbrev ZF:=(⟨s_.ar,(p.ac.length:Int)⟩:dH)
abbrev k39:=(⟨s_.ap,(p.ac.length:Int)⟩:dH)
abbrev k40:=(⟨s_.on_,(p.aa.length:Int)⟩:dH)
abbrev ZI:=(⟨s_.ae,(p.aa.length:Int)⟩:dH)
abbrev k42:=(ay dH.cell [Zy s_ p,ZF s_ p,k39 s_ p,k40 s_ p,ZI s_ p,(⟨s_.ag,p.aw⟩:dH),(⟨s_.aq,p.aw⟩:dH)])
abbrev VX:=((0:Int)<=u0/\u0<(p.ac.length:Int))
abbrev k44:=((gB [(decide (((at' p.ac u0.toNat).kind)=1),true)]=true->(0:Int)<=u0/\u0<(s_.am.length:Int)))
abbrev k45:=((gB [(!(at' s_.am u0.toNat),false),(decide (((at' p.ac u0.toNat).kind)=1),true)]=true->(0:Int)<=u0/\u0<(s_.ar.length:Int)))
end
theorem dA (p:au) (s_:State):dO Tryz.prog 60 (RQ s_ p) [] (fun r=>(vI r)) (fun _=>[]) (dZ p s_):=
  eG tT mX Tryz.func60 (
  .rg {fr:=[(0,11),(1,12)]} []<| .cl 1 (Dx p) fun r_=> .r<| .r<| .it (.r<| .e r_)
  (.r<| .rg {an:=[(30, .arr [Zy s_ p,ZF s_ p,k39 s_ p,k40 s_ p,ZI s_ p,(⟨s_.ag,p.aw⟩:dH),(⟨s_.aq,p.aw⟩:dH)].length (k42 s_ p))],fr:=[(30,13)],fz:=[12]} [.pf ⟨[Zy s_ p,ZF s_ p,k39 s_ p,k40 s_ p,ZI s_ p,(⟨s_.ag,p.aw⟩:dH),(⟨s_.aq,p.aw⟩:dH)].length=7,rfl⟩, .pf ⟨aG 7 2 (oZ 2 [aS none 1 ah s_.am,.int .i64 (p.ac.length:Int),Zd s_,.int .i64 (p.ac.length:Int),Y1 s_,.int .i64 (p.ac.length:Int),aS none 1 ah s_.on_,.int .i64 (p.aa.length:Int),YK s_,.int .i64 (p.aa.length:Int),Y5 s_,.int .i64 p.aw,Zh s_,.int .i64 p.aw]) (k42 s_ p),(by intro i hi j hj;match i,j,hi,hj with|0,0,_,_=>rfl|0,1,_,_=>rfl|1,0,_,_=>rfl|1,1,_,_=>rfl|2,0,_,_=>rfl|2,1,_,_=>rfl|3,0,_,_=>rfl|3,1,_,_=>rfl|4,0,_,_=>rfl|4,1,_,_=>rfl|5,0,_,_=>rfl|5,1,_,_=>rfl|6,0,_,_=>rfl|6,1,_,_=>rfl)⟩]<| .lp (σ:=Int) (β:=Unit) (0) [] [] ⟨[2,3,53,54],[11,13],fun u1=>[(55,vI u1)],fun u1=>[]⟩ ⟨[2,3],[11],fun _=>[],fun _=>[]⟩
  (fun u1=> .r<| .it (.a1 ((0:Int)<=u1/\u1<([Zy s_ p,ZF s_ p,k39 s_ p,k40 s_ p,ZI s_ p,(⟨s_.ag,p.aw⟩:dH),(⟨s_.aq,p.aw⟩:dH)].length:Int))<| .rg {fr:=[(2,17)],fz:=[17]} [0, .t 0 u1 ([Zy s_ p,ZF s_ p,k39 s_ p,k40 s_ p,ZI s_ p,(⟨s_.ag,p.aw⟩:dH),(⟨s_.aq,p.aw⟩:dH)].length)]<| .r<| .it (.r<| .e (.done (.ret 9)))
  (.r<| .e (.next (k2 u1))))
  (.e (.done (.brk ()))))
  (fun _=> .r<| .lp (σ:=Int) (β:=Unit) (0) [] [] ⟨[3,67,68],[],fun u0=>[(69,vI u0)],fun u0=>[]⟩ ⟨[],[],fun _=>[],fun _=>[]⟩
  (fun u0=> .r<| .it (.a1 (VX p u0)<| .rg {fr:=[(3,21)],fz:=[21]} []<| .a2 (k44 s_ p u0) (k45 s_ p u0)<| .rg {} [0,1]<| .it (.r<| .e (.done (.ret 9)))
  (.r<| .e (.next (k2 u0))))
  (.e (.done (.brk ()))))
  (fun _=> .r<| .e 0))))
theorem yI (i:Int) (x1:Int):dO Tryz.prog 130 [sI i,sD (EP [.int .i64 x1] 0)] [] (fun r=>(vB r)) (fun _=>[]) (oI i x1):=
  eG tT mX Tryz.func130 (
  .r<| .r<| .e (bif (decide (i<0))then true else(decide (x1<=i))))
theorem wu (s_:List Int) (f_:Int):dO Tryz.prog 205 [sD (k0 s_),sD (.fn 130 1 (bI [EP [.int .i64 f_] 0]))] [] (fun r=>(vI r)) (fun _=>[]) (lg s_ f_):=
  eG tT mX Tryz.func205 (
  .r<| .r<| .lp (σ:=Int) (β:=Unit) (0) [] [] ⟨[0,1,7],[],fun t8=>[(8,vI t8)],fun t8=>[]⟩ ⟨[],[],fun _=>[],fun _=>[]⟩
  (fun t8=> .r<| .it (.r<| .cl 5 (yI (at' s_ t8.toNat) f_) fun r_=> .a1 (k1 s_ t8)<| .rg {} [0,1]<| .it (.r<| .e (.done (.ret t8)))
  (.r<| .e (.next (k2 t8))))
  (.e (.done (.brk ()))))
  (fun _=> .r<| .e (-1)))
theorem uM (s_:List Int) (f_:Int):dO Tryz.prog 129 [sD (k0 s_),sD (.fn 130 1 (bI [EP [.int .i64 f_] 0]))] [] (fun r=>(vB r)) (fun _=>[]) (gQ s_ f_):=
  eG tT mX Tryz.func129 (
  .r<| .cl 2 (wu s_ f_) fun r_=> .r<| .e (decide (0<=r_)))
section
variable (l:List Int) (n:Int)
abbrev k46:List SV:=[sD (k0 l),sI n]
end
theorem rQ (l:List Int) (n:Int):dO Tryz.prog 128 (k46 l n) [] (fun r=>(vB r)) (fun _=>[]) (jY l n):=
  eG tT mX Tryz.func128 (
  .rg {fr:=[(0,1)],fz:=[1]} []<| .cg 6 [(decide ((l.length:Int)<=24),true)] (uM l n) fun r_=> .r<| .e (bif (decide ((l.length:Int)<=24))then(!r_)else false))
section
variable (x:af) (p:au)
abbrev Qt:List CV:=[cI x.deed,cI x.index]
abbrev k47:List SV:=[.agg (k10 p),.agg (Qt x)]
abbrev k49:=((gB [((bif (decide (0<=x.index))then(decide (x.index<(p.ac.length:Int)))else false),true)]=true->(0:Int)<=x.index/\x.index<(p.ac.length:Int)))
abbrev k50:=(bif (bif (decide (0<=x.index))then(decide (x.index<(p.ac.length:Int)))else false)then(!decide (((at' p.ac x.index.toNat).kind)=1))else false)
abbrev WN:=(decide (x.index<p.aw))
abbrev XC:=(bif (decide (0<=x.index))then(WN x p)else false)
abbrev Lx:=(decide (x.index<(p.aa.length:Int)))
abbrev Ni:=(bif (decide (0<=x.index))then(Lx x p)else false)
abbrev Nn:=((gB [((bif (decide (0<=x.index))then(decide (x.index<0))else false),true)]=true->(0:Int)<=x.index/\x.index<(p.ac.length:Int)))
abbrev Nl:=(bif (bif (decide (0<=x.index))then(decide (x.index<0))else false)then(!decide (((at' p.ac x.index.toNat).kind)=1))else false)
end
theorem uY (p:au) (x:af):dO Tryz.prog 134 (k47 x p) [] (fun r=>(vB r)) (fun _=>[]) (mK p x):=
  eG tT mX Tryz.func134 (
  .rg {fr:=[(0,2),(1,3)],fz:=[2,3]} []<| .r<| .r<| .r<| .it (.it (.r<| .a1 (k49 x p)<| .r<| .e (k50 x p))
  (.r<| .it (.it (.r<| .e (XC x p))
  (.r<| .it (.it (.r<| .e (Ni x p))
  (.a1 (Nn x p)<| .r<| .e (Nl x p)))
  (.r<| .it (.r<| .e (Ni x p))
  (.a1 (Nn x p)<| .r<| .e (Nl x p)))))
  (.r<| .it (.r<| .e (XC x p))
  (.r<| .it (.it (.r<| .e (Ni x p))
  (.a1 (Nn x p)<| .r<| .e (Nl x p)))
  (.r<| .it (.r<| .e (Ni x p))
  (.a1 (Nn x p)<| .r<| .e (Nl x p)))))))
  (.r<| .it (.it (.r<| .a1 (k49 x p)<| .r<| .e (k50 x p))
  (.r<| .it (.it (.r<| .e (XC x p))
  (.r<| .it (.it (.r<| .e (Ni x p))
  (.a1 (Nn x p)<| .r<| .e (Nl x p)))
  (.r<| .it (.r<| .e (Ni x p))
  (.a1 (Nn x p)<| .r<| .e (Nl x p)))))
  (.r<| .it (.r<| .e (XC x p))
  (.r<| .it (.it (.r<| .e (Ni x p))
  (.a1 (Nn x p)<| .r<| .e (Nl x p)))
  (.r<| .it (.r<| .e (Ni x p))
  (.a1 (Nn x p)<| .r<| .e (Nl x p)))))))
  (.r<| .it (.it (.r<| .a1 (k49 x p)<| .r<| .e (k50 x p))
  (.r<| .it (.it (.r<| .e (XC x p))
  (.r<| .it (.it (.r<| .e (Ni x p))
  (.a1 (Nn x p)<| .r<| .e (Nl x p)))
  (.r<| .it (.r<| .e (Ni x p))
  (.a1 (Nn x p)<| .r<| .e (Nl x p)))))
  (.r<| .it (.r<| .e (XC x p))
  (.r<| .it (.it (.r<| .e (Ni x p))
  (.a1 (Nn x p)<| .r<| .e (Nl x p)))
  (.r<| .it (.r<| .e (Ni x p))
  (.a1 (Nn x p)<| .r<| .e (Nl x p)))))))
  (.r<| .it (.r<| .a1 (k49 x p)<| .r<| .e (k50 x p))
  (.r<| .it (.it (.r<| .e (XC x p))
  (.r<| .it (.it (.r<| .e (Ni x p))
  (.a1 (Nn x p)<| .r<| .e (Nl x p)))
  (.r<| .it (.r<| .e (Ni x p))
  (.a1 (Nn x p)<| .r<| .e (Nl x p)))))
  (.r<| .it (.r<| .e (XC x p))
  (.r<| .it (.it (.r<| .e (Ni x p))
  (.a1 (Nn x p)<| .r<| .e (Nl x p)))
  (.r<| .it (.r<| .e (Ni x p))
  (.a1 (Nn x p)<| .r<| .e (Nl x p))))))))))
theorem yJ (x:af) (x1:Int) (u0:List Source) (u1:List Link) (u2:List aY):dO Tryz.prog 133 [.agg (Qt x),sD (k12 x1 u0 u1 u2)] [] (fun r=>(vB r)) (fun _=>[]) (oK x x1 u0 u1 u2):=
  eG tT mX Tryz.func133 (
  .rg {fr:=[(0,1)],fz:=[1]} []<| .cl 2 (uY (⟨x1,u0,u1,u2⟩:au) x) fun r_=> .r<| .e (!r_))
section
variable (s_:List af) (f_:Int) (u0:List Source) (u1:List Link) (u2:List aY) (t8:Int)
abbrev k57:List SV:=[sD (k3 s_),sD (.fn 133 1 (k19 f_ u0 u1 u2))]
abbrev Xv:=((0:Int)<=t8/\t8<(s_.length:Int))
end
theorem wh (s_:List af) (f_:Int) (u0:List Source) (u1:List Link) (u2:List aY):dO Tryz.prog 206 (k57 s_ f_ u0 u1 u2) [] (fun r=>(vI r)) (fun _=>[]) (lG s_ f_ u0 u1 u2):=
  eG tT mX Tryz.func206 (
  .r<| .r<| .lp (σ:=Int) (β:=Unit) (0) [] [] ⟨[0,1,7],[],fun t8=>[(8,vI t8)],fun t8=>[]⟩ ⟨[],[],fun _=>[],fun _=>[]⟩
  (fun t8=> .r<| .it (.r<| .cl 5 (yJ (at' s_ t8.toNat) f_ u0 u1 u2) fun r_=> .a1 (Xv s_ t8)<| .rg {} [0,1]<| .it (.r<| .e (.done (.ret t8)))
  (.r<| .e (.next (k2 t8))))
  (.e (.done (.brk ()))))
  (fun _=> .r<| .e (-1)))
theorem uK (s_:List af) (f_:Int) (u0:List Source) (u1:List Link) (u2:List aY):dO Tryz.prog 132 (k57 s_ f_ u0 u1 u2) [] (fun r=>(vB r)) (fun _=>[]) (gM s_ f_ u0 u1 u2):=
  eG tT mX Tryz.func132 (
  .r<| .cl 2 (wh s_ f_ u0 u1 u2) fun r_=> .r<| .e (decide (0<=r_)))
theorem rP (l:List af) (x1:Int) (u0:List Source) (u1:List Link) (u2:List aY):dO Tryz.prog 131 [sD (k3 l),sD (k12 x1 u0 u1 u2)] [] (fun r=>(vB r)) (fun _=>[]) (jT l x1 u0 u1 u2):=
  eG tT mX Tryz.func131 (
  .r<| .cg 6 [(decide ((l.length:Int)<=24),true)] (uK l x1 u0 u1 u2) fun r_=> .r<| .e (bif (decide ((l.length:Int)<=24))then(!r_)else false))
section
variable (p:au) (t:Task)
abbrev k59:List SV:=[.agg (k10 p),.agg (k4 t)]
end
theorem Ca (p:au) (t:Task):dO Tryz.prog 61 (k59 p t) [] (fun r=>(vB r)) (fun _=>[]) (p8 p t):=
  eG tT mX Tryz.func61 (
  .rg {fr:=[(0,2),(1,3)],fz:=[2,3]} []<| .r<| .r<| .cl 6 (rQ t.fed (p.a_.length:Int)) fun r_=> .cg 13 [(r_,true)] (rQ t.bj p.aw) fun u0=> .cg 19 [k14 r_ u0] (rP t.ba p.aw p.aa p.ac p.a_) fun u1=> .cg 25 [k15 r_ u0 u1] (rP t.bk p.aw p.aa p.ac p.a_) fun u2=> .r<| .e (k16 r_ u0 u1 u2))
theorem yK (p:au) (s_:State):dO Tryz.prog 248 (RQ s_ p) [] (fun r=>(vD (.fn 284 2 (bI [EP [.int .i64 r.1,aS none 5 Source.cell r.2.1,aS none 6 Link.cell r.2.2.1,aS none 4 aY.cell r.2.2.2.1] 0,EP [aS none 1 ah r.2.2.2.2.1,aS none 1 ah r.2.2.2.2.2.1,aS none 1 ah r.2.2.2.2.2.2.1,aS none 1 ah r.2.2.2.2.2.2.2.1,aS none 1 ah r.2.2.2.2.2.2.2.2.1,aS none 1 ah r.2.2.2.2.2.2.2.2.2.1,aS none 1 ah r.2.2.2.2.2.2.2.2.2.2] 0])))) (fun _=>[]) (kg p s_):=
  eG tT mX Tryz.func248 (
  .rg {fr:=[(0,2),(1,3)],fz:=[2,3]} []<| .r<| .e (p.aw,p.aa,p.ac,p.a_,s_.am,s_.ar,s_.ap,s_.on_,s_.ae,s_.ag,s_.aq))
noncomputable def uP:iN:=⟨[22],NM ([1,1,0,1,0]++[0]) (rH Tryz.f197),NM ([1,1,0,1,0]++[1]) (rH Tryz.f197),125,[]⟩
section
variable (g:bn)
abbrev k60:List (Nat × Option Ob):=[(0,some (Ee 3 3 false false 1 1 (bK .i64) (bK .i64) g.bp))]
end
theorem gN (g:bn) (x:Int):dO Tryz.prog 250 [.agg [.mp 0],sI x] (k60 g) (fun r=>(vI r)) (fun r=>(k60 g)) (dJ g x):=
  eG tT mX Tryz.func250 (
  .rg {fr:=[(0,2)]} []<| .lp (σ:=Int) (β:=Unit) (x) [] [] ⟨[2],[0,2],fun x1=>[(1,vI x1)],fun x1=>[]⟩ ⟨[],[],fun _=>[],fun _=>[]⟩
  (fun x1=> .rg {an:=[(3, .look (bD bB x1 g.bp).isSome [cI ((bD bB x1 g.bp).getD 0)])]} [.pf ⟨fE [some .i64] 1 1 g.bp.length (yO (bK .i64) g.bp) (zK (bK .i64) g.bp) [.int .i64 x1] [.d (.int .i64 0)] (bD bB x1 g.bp).isSome [cI ((bD bB x1 g.bp).getD 0)],oV (fun _=>rfl) (fun _ _=>rfl) g.bp x1 0 rfl rfl rfl⟩]<| .r<| .it (.r<| .e (.done (.ret x1)))
  (.r<| .e (.next ((bD bB x1 g.bp).getD 0))))
  (fun _=> .no))
theorem xM (g:bn) (a:Int) (b:Int):dO Tryz.prog 249 [.agg [.mp 0],sI a,sI b] (k60 g) (fun r=>(.fK [])) (fun r=>[(0,some (Ee 3 3 false false 1 1 (bK .i64) (bK .i64) r))]) (jO g a b):=
  eG tT mX Tryz.func249 (
  .rg {fr:=[(0,2)]} []<| .cr 2 (gN g a) fun r_=> .cr 5 (gN g b) fun u0=> .r<| .r<| .it (.rg {an:=[(4, .map (fH bB r_ u0 g.bp).length (yO (bK .i64) (fH bB r_ u0 g.bp)) (zK (bK .i64) (fH bB r_ u0 g.bp)) [])]} [.pf ⟨wF [some .i64] 1 1 g.bp.length (yO (bK .i64) g.bp) (zK (bK .i64) g.bp) [.int .i64 r_] [cI u0] [] (fH bB r_ u0 g.bp).length (yO (bK .i64) (fH bB r_ u0 g.bp)) (zK (bK .i64) (fH bB r_ u0 g.bp)),Fs (fun _=>rfl) (fun _ _=>rfl) g.bp r_ u0 rfl rfl⟩]<| .e (fH bB r_ u0 g.bp))
  (.e g.bp))
section
variable (o_:bn)
abbrev k62:Nat × Option Ob:=(0,some (.loop uP 0 [(5,vP 1 0)]))
abbrev k61:List (Nat × Option Ob):=[k62,(1,some (.cells 337 [.mp 2])),(2,some (Ee 3 3 false false 1 1 (bK .i64) (bK .i64) o_.bp))]
end
theorem wI (u0:Int) (u1:Int) (u2:Int) (u3:Int) (u4:Int) (u5:List gT) (o_:bn):UE Tryz.prog 0 [.agg [cI u0,cI u1,cI u2,cI u3,cI u4,.d (aS none 2 gT.cell u5)]] (k61 o_) (fun _=>vB true) (fun r=>[k62,(1,some (.cells 337 [.mp 2])),(2,some (Ee 3 3 false false 1 1 (bK .i64) (bK .i64) r.bp))]) (mO u0 u1 u2 u3 u4 u5 o_):=
  Z0 tT mX uP ⟨[5],[0,1,2],fun _=>[(6,vD (EP [.int .i64 u0,.int .i64 u1,.int .i64 u2,.int .i64 u3,.int .i64 u4,aS none 2 gT.cell u5] 0))],fun _=>[]⟩ (.rg {fr:=[(0,4)],fz:=[4]} []<| .e ())
  (.cl 5 (dL [(0,2)] (xM o_ u0 u1)) fun r_=> .r<| .e (⟨r_⟩:bn))
section
variable (x2:List Bool) (u6:List Bool) (u2:List Bool) (u7:List Bool) (u8:List Bool) (u9:List Bool) (u1:List Bool) (t9:Int) (u0:List Link)
abbrev k64:List DV:=[aS none 1 ah x2,aS none 1 ah u6,aS none 1 ah u2,aS none 1 ah u7,aS none 1 ah u8,aS none 1 ah u9,aS none 1 ah u1]
abbrev Zc:DV:=(EP (k64 x2 u6 u2 u7 u8 u9 u1) 0)
abbrev k65:=(bif (bif (at' x2 t9.toNat)then(!(at' u2 t9.toNat))else false)then(!(at' u1 (((at' u0 t9.toNat).a).toNat)))else false)
abbrev k66:=((0:Int)<=t9/\t9<(x2.length:Int))
abbrev k67:=((gB [((bif (at' x2 t9.toNat)then(!(at' u2 t9.toNat))else false),true)]=true->(0:Int)<=(at' u0 t9.toNat).a/\(at' u0 t9.toNat).a<(u1.length:Int)))
abbrev k68:=((gB [(k65 x2 u2 u1 t9 u0,true)]=true->(0:Int)<=(at' u0 t9.toNat).b/\(at' u0 t9.toNat).b<(u1.length:Int)))
end
theorem wN (x1:Int) (u4:List Source) (u0:List Link) (u5:List aY) (x2:List Bool) (u6:List Bool) (u2:List Bool) (u7:List Bool) (u8:List Bool) (u9:List Bool) (u1:List Bool) (o_:bn):dO Tryz.prog 284 [.one (.yl 0),sD (k12 x1 u4 u0 u5),sD (Zc x2 u6 u2 u7 u8 u9 u1)] (k61 o_) (fun r=>(.fK [])) (fun r=>[k62,(1,some (.cells 337 [.mp 2])),(2,some (Ee 3 3 false false 1 1 (bK .i64) (bK .i64) r.bp))]) (mo x1 u4 u0 u5 x2 u6 u2 u7 u8 u9 u1 o_):=
  eG tT mX Tryz.func284 (
  .r<| .lp (σ:=((List (Int × Int)) × Int)) (β:=(List (Int × Int))) (o_.bp,0) [] [] ⟨[0,2,7,8],[0,1],fun(u3,t9)=>[(9,vI t9)],fun(u3,t9)=>[(2,some (Ee 3 3 false false 1 1 (bK .i64) (bK .i64) u3))]⟩ ⟨[],[0,1],fun o501=>[],fun o501=>[(2,some (Ee 3 3 false false 1 1 (bK .i64) (bK .i64) o501))]⟩
  (fun(u3,t9)=> .r<| .it (.a1 ((0:Int)<=t9/\t9<(u0.length:Int))<| .rg {fr:=[(3,10)],fz:=[10]} []<| .fk (bif (k65 x2 u2 u1 t9 u0)then(!(at' u1 (((at' u0 t9.toNat).b).toNat)))else false) (.cy 34 (wI ((at' u0 t9.toNat).a) ((at' u0 t9.toNat).b) ((at' u0 t9.toNat).kind) ((at' u0 t9.toNat).most) ((at' u0 t9.toNat).ohm) ((at' u0 t9.toNat).trip) (⟨u3⟩:bn)) fun r_=> .a4 (k66 x2 t9) ((gB [(at' x2 t9.toNat,true)]=true->(0:Int)<=t9/\t9<(u2.length:Int))) (k67 x2 u2 u1 t9 u0) (k68 x2 u2 u1 t9 u0)<| .rg {ov:=[(31,true,5)]} [0,1,2,3, .k 4]<| .f<| .r<| .e (.next (r_.bp,k2 t9)))
  (.a4 (k66 x2 t9) ((gB [(at' x2 t9.toNat,true)]=true->(0:Int)<=t9/\t9<(u2.length:Int))) (k67 x2 u2 u1 t9 u0) (k68 x2 u2 u1 t9 u0)<| .rg {ov:=[(31,false,4)],sk:=[32,33,34,35]} [0,1,2,3]<| .f<| .r<| .e (.next (u3,k2 t9))))
  (.e (.done (.brk u3))))
  (fun o501=> .e (⟨o501⟩:bn)))
section
variable (u1:List aI) (u2:List (Int × Int)) (u0:Int) (u3:Int) (u7:Int) (p:au) (s_:State) (u5:List aI) (u6:Int) (u4:List (Int × Int))
abbrev k69:List (Nat × Option Ob):=[(60,some (.rows 287 2 u1.length (xG aI.ev u1) none)),(61,some (Ee 3 3 false false 1 1 (bK .i64) (bK .i64) u2))]
abbrev Ht:=((bD bB u0 u2).getD 0)
abbrev Zo:List CV:=[cI (Ht u2 u0)]
abbrev Pt:=(fH bB u0 (u1.length:Int) u2)
abbrev UD:=(u1++[(⟨([]:List Int),([]:List Int)⟩:aI)])
abbrev k74:=(xG aI.ev (UD u1))
abbrev VI:=((bD bB u0 (Pt u1 u2 u0)).getD 0)
abbrev k79:=((VI u1 u2 u0).toNat)
abbrev k78:=(at' (UD u1) (k79 u1 u2 u0))
abbrev XE:=((k78 u1 u2 u0).aw)
abbrev k76:=((XE u1 u2 u0).length+[u3].length)
abbrev Zq:=((XE u1 u2 u0)++[u3])
abbrev k81:=(ay (bK .i64) (Zq u1 u2 u0 u3))
abbrev k83:=((UD u1).set (k79 u1 u2 u0) (⟨Zq u1 u2 u0 u3,(k78 u1 u2 u0).aa⟩:aI))
abbrev k82:=(xG aI.ev (k83 u1 u2 u0 u3))
abbrev WW:=((at' u1 ((Ht u2 u0).toNat)).aw)
abbrev Zn:=((WW u1 u2 u0)++[u3])
abbrev k86:=(ay (bK .i64) (Zn u1 u2 u0 u3))
abbrev k88:=(u1.set ((Ht u2 u0).toNat) (⟨Zn u1 u2 u0 u3,(at' u1 ((Ht u2 u0).toNat)).aa⟩:aI))
abbrev k87:=(xG aI.ev (k88 u1 u2 u0 u3))
abbrev k89:=((0:Int)<=u7/\u7<(p.aa.length:Int))
abbrev k90:=((gB [(at' s_.on_ u7.toNat,true)]=true->(0:Int)<=u7/\u7<(s_.ae.length:Int)))
abbrev k91:=((gB [((bif (at' s_.on_ u7.toNat)then(!(at' s_.ae u7.toNat))else false),true)]=true->(0:Int)<=(at' p.aa u7.toNat).bus/\(at' p.aa u7.toNat).bus<(s_.aq.length:Int)))
abbrev Vt:=((at' u5 ((Ht u4 u6).toNat)).aa)
abbrev Zj:=((Vt u5 u6 u4)++[u7])
abbrev k94:=(ay (bK .i64) (Zj u7 u5 u6 u4))
abbrev k96:=(u5.set ((Ht u4 u6).toNat) (⟨(at' u5 ((Ht u4 u6).toNat)).aw,Zj u7 u5 u6 u4⟩:aI))
abbrev k95:=(xG aI.ev (k96 u7 u5 u6 u4))
end
theorem iQ (p:au) (s_:State):dO Tryz.prog 197 (RQ s_ p) [] (fun r=>(vD (aS none 2 aI.cell r))) (fun _=>[]) (fJ p s_):=
  eG tT mX Tryz.func197 (
  .rg {fr:=[(0,55),(1,56)],fz:=[56]} []<| .rg {an:=[(0, .map 0 (yO (bK .i64) ([]:(List (Int × Int)))) (zK (bK .i64) ([]:(List (Int × Int)))) [])],fr:=[(0,57),(2,58)]} []<| .cl 2 (yK p s_) fun r_=> .r<| .cl 0 (dL [(0,59),(1,58),(2,57)] (wN r_.1 r_.2.1 r_.2.2.1 r_.2.2.2.1 r_.2.2.2.2.1 r_.2.2.2.2.2.1 r_.2.2.2.2.2.2.1 r_.2.2.2.2.2.2.2.1 r_.2.2.2.2.2.2.2.2.1 r_.2.2.2.2.2.2.2.2.2.1 r_.2.2.2.2.2.2.2.2.2.2 (⟨([]:(List (Int × Int)))⟩:bn))) fun v0=> .rf 59 [5] [] none 0 []<| .r<| .im (.adR 7 60 287 2 (xG aI.ev ([]:List aI)))<| .rg {an:=[(0, .map 0 (yO (bK .i64) ([]:(List (Int × Int)))) (zK (bK .i64) ([]:(List (Int × Int)))) [])],fr:=[(0,61)]} []<| .r<| .lp (σ:=((List aI) × (List (Int × Int)) × Int)) (β:=((List aI) × (List (Int × Int)))) (([]:List aI),([]:(List (Int × Int))),0) [] [] ⟨[2,3,5,8,31],[55,57,58],fun(u1,u2,u3)=>[(7,vO 60 false u1.length),(32,vI u3)],fun(u1,u2,u3)=>(k69 u1 u2)⟩ ⟨[2,3,5,8],[55,57,58],fun(u9,u4)=>[(7,vO 60 false u9.length)],fun(u9,u4)=>(k69 u9 u4)⟩
  (fun(u1,u2,u3)=> .r<| .it (.r<| .a1 ((0:Int)<=u3/\u3<(s_.aq.length:Int))<| .r<| .it (.r<| .e (.next (u1,u2,k2 u3)))
  (.cr 2 (dL [(0,57)] (gN v0 u3)) fun u0=> .r<| .rg {an:=[(2, .look (bD bB u0 u2).isSome (Zo u2 u0))]} [.pf ⟨fE [some .i64] 1 1 u2.length (yO (bK .i64) u2) (zK (bK .i64) u2) [.int .i64 u0] [.d (.int .i64 0)] (bD bB u0 u2).isSome (Zo u2 u0),oV (fun _=>rfl) (fun _ _=>rfl) u2 u0 0 rfl rfl rfl⟩]<| .r<| .it (.rg {an:=[(4, .map (Pt u1 u2 u0).length (yO (bK .i64) (Pt u1 u2 u0)) (zK (bK .i64) (Pt u1 u2 u0)) [])]} [.pf ⟨wF [some .i64] 1 1 u2.length (yO (bK .i64) u2) (zK (bK .i64) u2) [.int .i64 u0] [cI (u1.length:Int)] [] (Pt u1 u2 u0).length (yO (bK .i64) (Pt u1 u2 u0)) (zK (bK .i64) (Pt u1 u2 u0)),Fs (fun _=>rfl) (fun _ _=>rfl) u2 u0 (u1.length:Int) rfl rfl⟩]<| .a2 ((u1.length+[(⟨([]:List Int),([]:List Int)⟩:aI)].length)*48<=140737488355328) (u1.length+[(⟨([]:List Int),([]:List Int)⟩:aI)].length<=4611686018427387904)<| .rg {an:=[(2, .arr [(⟨([]:List Int),([]:List Int)⟩:aI)].length (oZ 2 [nS,nS])),(3, .rows (UD u1).length (k74 u1))],fr:=[(2,86),(3,87)]} [.pf ⟨[(⟨([]:List Int),([]:List Int)⟩:aI)].length=1,rfl⟩, .pf ⟨aG 1 2 (oZ 2 [nS,nS]) (oZ 2 [nS,nS]),kE _ _ _⟩, .e (u1.length),0,1, .pf ⟨(UD u1).length=u1.length+[(⟨([]:List Int),([]:List Int)⟩:aI)].length,cd⟩, .pf ⟨EM u1.length [(⟨([]:List Int),([]:List Int)⟩:aI)].length 2 (xG aI.ev u1) (oZ 2 [nS,nS]) (k74 u1),Wt _ _ _ _ _ (by intro i hi j hj;match i,j,hi,hj with|0,0,_,_=>exact⟨rfl,_,_,_,rfl⟩|0,1,_,_=>exact⟨rfl,_,_,_,rfl⟩)⟩]<| .rg {an:=[(2, .look (bD bB u0 (Pt u1 u2 u0)).isSome [cI (VI u1 u2 u0)])]} [.pf ⟨fE [some .i64] 1 1 (Pt u1 u2 u0).length (yO (bK .i64) (Pt u1 u2 u0)) (zK (bK .i64) (Pt u1 u2 u0)) [.int .i64 u0] [.d (.int .i64 0)] (bD bB u0 (Pt u1 u2 u0)).isSome [cI (VI u1 u2 u0)],oV (fun _=>rfl) (fun _ _=>rfl) (Pt u1 u2 u0) u0 0 rfl rfl rfl⟩]<| .a3 ((0:Int)<=(VI u1 u2 u0)/\(VI u1 u2 u0)<((UD u1).length:Int)) ((k76 u1 u2 u0 u3)*8<=140737488355328) ((XE u1 u2 u0).length+[u3].length<=4611686018427387904)<| .rg {an:=[(6, .take 88),(8, .arr [u3].length (ay (bK .i64) [u3])),(9, .arr (Zq u1 u2 u0 u3).length (k81 u1 u2 u0 u3)),(12, .rows 0 (k82 u1 u2 u0 u3))],fr:=[(8,89),(9,90)]} [0, .t 0 (VI u1 u2 u0) ((UD u1).length), .pf ⟨[u3].length=1,rfl⟩, .pf ⟨aG 1 1 (oZ 1 [.int .i64 u3]) (ay (bK .i64) [u3]),(by intro i hi j hj;match i,j,hi,hj with|0,0,_,_=>rfl)⟩, .e ((XE u1 u2 u0).length),1,2, .pf ⟨(Zq u1 u2 u0 u3).length=(XE u1 u2 u0).length+[u3].length,cd⟩, .pf ⟨aG (k76 u1 u2 u0 u3) 1 (oP (ay (bK .i64) (XE u1 u2 u0)) (XE u1 u2 u0).length (ay (bK .i64) [u3])) (k81 u1 u2 u0 u3),iF _ _ _ _⟩,0, .t 0 (VI u1 u2 u0) ((UD u1).length), .e ((Zq u1 u2 u0 u3).length), .pf ⟨Sr (UD u1).length 2 (Xr (k74 u1) (k79 u1 u2 u0) 0 (.row 3 1 (Zq u1 u2 u0 u3).length (k81 u1 u2 u0 u3))) (k82 u1 u2 u0 u3),Gq _ _ _ _ _ _ _ _ rfl (fun j hj=>(match j,hj with|0,_=>rfl|1,_=>rfl))⟩, .pf ⟨∀i0 j0 c0,((some ((VI u1 u2 u0).toNat,0,CV.own 88 false (XE u1 u2 u0).length)):Option (Nat × Nat × CV))=some (i0,j0,c0)->i0=(VI u1 u2 u0).toNat/\j0=0,(fun i0 j0 c0 e=>by cases e;exact⟨rfl,rfl⟩)⟩]<| .im (.ll 87 (UD u1) (k83 u1 u2 u0 u3))<| .r<| .en (.next (k83 u1 u2 u0 u3,Pt u1 u2 u0,k2 u3)) [] [(87,60)])
  (.rg {an:=[(2, .look (bD bB u0 u2).isSome (Zo u2 u0))]} [.pf ⟨fE [some .i64] 1 1 u2.length (yO (bK .i64) u2) (zK (bK .i64) u2) [.int .i64 u0] [.d (.int .i64 0)] (bD bB u0 u2).isSome (Zo u2 u0),oV (fun _=>rfl) (fun _ _=>rfl) u2 u0 0 rfl rfl rfl⟩]<| .a3 ((0:Int)<=(Ht u2 u0)/\(Ht u2 u0)<(u1.length:Int)) (((WW u1 u2 u0).length+[u3].length)*8<=140737488355328) ((WW u1 u2 u0).length+[u3].length<=4611686018427387904)<| .rg {an:=[(6, .take 91),(8, .arr [u3].length (ay (bK .i64) [u3])),(9, .arr (Zn u1 u2 u0 u3).length (k86 u1 u2 u0 u3)),(12, .rows 0 (k87 u1 u2 u0 u3))],fr:=[(8,92),(9,93)]} [0, .t 0 (Ht u2 u0) u1.length, .pf ⟨[u3].length=1,rfl⟩, .pf ⟨aG 1 1 (oZ 1 [.int .i64 u3]) (ay (bK .i64) [u3]),(by intro i hi j hj;match i,j,hi,hj with|0,0,_,_=>rfl)⟩, .e ((WW u1 u2 u0).length),1,2, .pf ⟨(Zn u1 u2 u0 u3).length=(WW u1 u2 u0).length+[u3].length,cd⟩, .pf ⟨aG ((WW u1 u2 u0).length+[u3].length) 1 (oP (ay (bK .i64) (WW u1 u2 u0)) (WW u1 u2 u0).length (ay (bK .i64) [u3])) (k86 u1 u2 u0 u3),iF _ _ _ _⟩,0, .t 0 (Ht u2 u0) u1.length, .e ((Zn u1 u2 u0 u3).length), .pf ⟨Sr u1.length 2 (Xr (xG aI.ev u1) ((Ht u2 u0).toNat) 0 (.row 3 1 (Zn u1 u2 u0 u3).length (k86 u1 u2 u0 u3))) (k87 u1 u2 u0 u3),Gq _ _ _ _ _ _ _ _ rfl (fun j hj=>(match j,hj with|0,_=>rfl|1,_=>rfl))⟩, .pf ⟨∀i0 j0 c0,((some ((Ht u2 u0).toNat,0,CV.own 91 false (WW u1 u2 u0).length)):Option (Nat × Nat × CV))=some (i0,j0,c0)->i0=(Ht u2 u0).toNat/\j0=0,(fun i0 j0 c0 e=>by cases e;exact⟨rfl,rfl⟩)⟩]<| .im (.ll 60 u1 (k88 u1 u2 u0 u3))<| .r<| .e (.next (k88 u1 u2 u0 u3,u2,k2 u3)))))
  (.e (.done (.brk (u1,u2)))))
  (fun(u9,u4)=> .r<| .lp (σ:=((List aI) × Int)) (β:=(List aI)) (u9,0) [] [] ⟨[3,5,8,76,77],[57,58,61],fun(u5,u7)=>[(7,vO 60 false u5.length),(78,vI u7)],fun(u5,u7)=>[(60,some (.rows 287 2 u5.length (xG aI.ev u5) none))]⟩ ⟨[],[],fun u8=>[(7,vO 60 false u8.length)],fun u8=>[(60,some (.rows 287 2 u8.length (xG aI.ev u8) none))]⟩
  (fun(u5,u7)=> .r<| .it (.a1 (k89 u7 p)<| .rg {fr:=[(3,106)],fz:=[106]} []<| .a3 ((0:Int)<=u7/\u7<(s_.on_.length:Int)) (k90 u7 s_) (k91 u7 p s_)<| .rg {} [0,1,2]<| .it (.cr 4 (dL [(0,57)] (gN v0 ((at' p.aa u7.toNat).bus))) fun u6=> .rg {an:=[(5, .look (bD bB u6 u4).isSome (Zo u4 u6))]} [0, .pf ⟨fE [some .i64] 1 1 u4.length (yO (bK .i64) u4) (zK (bK .i64) u4) [.int .i64 u6] [.d (.int .i64 0)] (bD bB u6 u4).isSome (Zo u4 u6),oV (fun _=>rfl) (fun _ _=>rfl) u4 u6 0 rfl rfl rfl⟩]<| .a3 ((0:Int)<=(Ht u4 u6)/\(Ht u4 u6)<(u5.length:Int)) (((Vt u5 u6 u4).length+[u7].length)*8<=140737488355328) ((Vt u5 u6 u4).length+[u7].length<=4611686018427387904)<| .rg {an:=[(6, .take 107),(8, .arr [u7].length (ay (bK .i64) [u7])),(9, .arr (Zj u7 u5 u6 u4).length (k94 u7 u5 u6 u4)),(12, .rows 0 (k95 u7 u5 u6 u4))],fr:=[(8,108),(9,109)]} [0, .t 0 (Ht u4 u6) u5.length, .pf ⟨[u7].length=1,rfl⟩, .pf ⟨aG 1 1 (oZ 1 [.int .i64 u7]) (ay (bK .i64) [u7]),(by intro i hi j hj;match i,j,hi,hj with|0,0,_,_=>rfl)⟩, .e ((Vt u5 u6 u4).length),1,2, .pf ⟨(Zj u7 u5 u6 u4).length=(Vt u5 u6 u4).length+[u7].length,cd⟩, .pf ⟨aG ((Vt u5 u6 u4).length+[u7].length) 1 (oP (ay (bK .i64) (Vt u5 u6 u4)) (Vt u5 u6 u4).length (ay (bK .i64) [u7])) (k94 u7 u5 u6 u4),iF _ _ _ _⟩,0, .t 0 (Ht u4 u6) u5.length, .e ((Zj u7 u5 u6 u4).length), .pf ⟨Sr u5.length 2 (Xr (xG aI.ev u5) ((Ht u4 u6).toNat) 1 (.row 3 1 (Zj u7 u5 u6 u4).length (k94 u7 u5 u6 u4))) (k95 u7 u5 u6 u4),Gq _ _ _ _ _ _ _ _ rfl (fun j hj=>(match j,hj with|0,_=>rfl|1,_=>rfl))⟩, .pf ⟨∀i0 j0 c0,((some ((Ht u4 u6).toNat,1,CV.own 107 false (Vt u5 u6 u4).length)):Option (Nat × Nat × CV))=some (i0,j0,c0)->i0=(Ht u4 u6).toNat/\j0=1,(fun i0 j0 c0 e=>by cases e;exact⟨rfl,rfl⟩)⟩]<| .im (.ll 60 u5 (k96 u7 u5 u6 u4))<| .r<| .e (.next (k96 u7 u5 u6 u4,k2 u7)))
  (.r<| .e (.next (u5,k2 u7))))
  (.e (.done (.brk u5))))
  (fun u8=> .r<| .fz [60]<| .im (.us 4 (vD (.sl none 2 u8.length (fun i j=>evD (xG aI.ev u8 i j)))) (vD (aS none 2 aI.cell u8)) (Ah.v (fA.one (aQ.d (aU.sl (.inr rfl) (fun i _ j hj=>match j,hj with|0,_=> .refl _|1,_=> .refl _))))))<| .e u8)))
section
variable (p:au) (u1:List aI) (u0:Int) (u3:Int) (u2:List Bool) (u6:List Bool)
abbrev k97:=((1:Int)*p.aw<=281474976710656)
abbrev k98:=((p.aw:Int)<=9223372036854775807)
abbrev K3:=(List.replicate p.aw.toNat (false:Bool))
abbrev JZ:=(ay ah (K3 p))
abbrev Rs:=(at' ((at' u1 u0.toNat).aw) u3.toNat)
abbrev ZY:=((0:Int)<=(Rs u1 u0 u3)/\(Rs u1 u0 u3)<(u2.length:Int))
abbrev Vu:=(u2.set ((Rs u1 u0 u3).toNat) (decide (0<(((at' u1 u0.toNat).aa).length:Int))))
abbrev UO:=(ay ah (Vu u1 u0 u3 u2))
abbrev abq:=(nN (ay ah u2) ((Rs u1 u0 u3).toNat) 0 [.bool (decide (0<(((at' u1 u0.toNat).aa).length:Int)))])
abbrev aap:=(Vu u1 u0 u3 u2,k2 u3)
abbrev QZ:=(u6,k2 u0)
end
theorem EF (p:au) (s_:State):dO Tryz.prog 126 (RQ s_ p) [] (fun r=>(.fK [sD (aS none 1 ah r.1),sI r.2])) (fun _=>[]) (gG p s_):=
  eG tT mX Tryz.func126 (
  .rg {fr:=[(0,7),(1,8)],fz:=[7,8]} []<| .cl 2 (dA p s_) fun r_=> .r<| .r<| .it (.r<| .e (([]:List Bool),r_))
  (.a3 ((0:Int)<=p.aw) (k97 p) (k98 p)<| .rg {an:=[(2, .arr (K3 p).length (JZ p))],fr:=[(2,9)]} [0, .e ((p.aw:Int)),1,2, .pf ⟨(K3 p).length=p.aw.toNat,d7⟩, .pf ⟨aG p.aw.toNat 1 (fun _ j=>[.bool false].getD j .nilp) (JZ p),mV _ _ _ _ _ (fun j hj=>(match j,hj with|0,_=>rfl))⟩]<| .cl 2 (iQ p s_) fun u1=> .r<| .lp (σ:=((List Bool) × Int)) (β:=(List Bool)) (K3 p,0) [] [] ⟨[23,24],[],fun(u4,u0)=>[(7,vO 9 true u4.length),(25,vI u0)],fun(u4,u0)=>[(9,some (aN 4 1 ah u4))]⟩ ⟨[],[],fun u5=>[(7,vO 9 true u5.length)],fun u5=>[(9,some (aN 4 1 ah u5))]⟩
  (fun(u4,u0)=> .r<| .it (.a1 ((0:Int)<=u0/\u0<(u1.length:Int))<| .rg {fr:=[(2,13)]} []<| .rg {fz:=[13]} []<| .lp (σ:=((List Bool) × Int)) (β:=(List Bool)) (u4,0) [] [] ⟨[9,23,24,25,30,31],[],fun(u2,u3)=>[(7,vO 9 true u2.length),(32,vI u3)],fun(u2,u3)=>[(9,some (aN 4 1 ah u2))]⟩ ⟨[23,24,25],[],fun u6=>[(7,vO 9 true u6.length)],fun u6=>[(9,some (aN 4 1 ah u6))]⟩
  (fun(u2,u3)=> .r<| .it (.a1 ((0:Int)<=u3/\u3<(((at' u1 u0.toNat).aw).length:Int))<| .r<| .a1 (ZY u1 u0 u3 u2)<| .rg {an:=[(7, .arr 0 (UO u1 u0 u3 u2))]} [0, .t 0 (Rs u1 u0 u3) u2.length, .pf ⟨aG u2.length 1 (abq u1 u0 u3 u2) (UO u1 u0 u3 u2),aJ _ _ _ _ _ _ _ _ rfl (fun j hj=>(match j,hj with|0,_=>rfl))⟩]<| .im (.ll 9 u2 (Vu u1 u0 u3 u2))<| .r<| .e (.next (aap u1 u0 u3 u2)))
  (.e (.done (.brk u2))))
  (fun u6=> .r<| .e (.next (QZ u0 u6))))
  (.e (.done (.brk u4))))
  (fun u5=> .rg {fz:=[9]} []<| .e (u5,0))))
theorem je (x y:aB):Go.Proofs.ltOf bV x y=true↔x.e0<y.e0\/ ¬ y.e0<x.e0/\x.e1<y.e1:=by
 unfold Go.Proofs.ltOf bV;rw [dt]
 by_cases h0:x.e0<y.e0<;>by_cases g0:y.e0<x.e0<;>by_cases h1:x.e1<y.e1<;>by_cases g1:y.e1<x.e1<;>simp [h0,g0,h1,g1]
theorem yM:Go.Sort.SWO (Go.Proofs.ltOf bV) where
 irrefl x:=by rw [<-Bool.not_eq_true,je];omega
 trans x y z h1 h2:=by rw [je]at*;omega
 ntrans x y z h1 h2:=by rw [<-Bool.not_eq_true,je]at*;omega
theorem yx (x y:aB) (h1:(Go.Proofs.ltOf bV) x y=false) (h2:(Go.Proofs.ltOf bV) y x=false):x=y:=by
 rw [<-Bool.not_eq_true,je]at h1 h2
 obtain⟨a,b⟩:=x
 obtain⟨c,d⟩:=y
 have e1:a=c:=by simp only at h1 h2;omega
 have e2:b=d:=by simp only at h1 h2;omega
 rw [e1,e2]
theorem yX (s:List aB) {r:List aB} (h:jA s=some r):Fn Tryz.prog 207 [.one (.own 0 false s.length),sD (.fn 208 0 (bI []))] [(0,some (.arr 145 2 s.length (ay aB.cell s)))] (.fK []) [(0,some (.arr 145 2 r.length (ay aB.cell r)))]:=
 Yd Ut 2 Va SY (fun x:aB=>[.int .i64 x.e0, .int .i64 x.e1]) (fun _=>rfl) (fun x v hv=>by simp at hv;rcases hv with rfl|rfl<;>rfl) bV yM yx
  (Oe (fun x:aB=>[.int .i64 x.e0, .int .i64 x.e1]) (fun x=>x.e0) (fun x=>x.e1) (fun _=>rfl)) (enters_of Tryz.func208 (by kernel_rfl) rfl)
  (fun F w x j hj v=>match j,hj with|0,_=>Iff.rfl|1,_=>Iff.rfl) 207 rfl ⟨_,Tryz.func207,rfl,rfl⟩ s (by cases s with|nil=>(cases h;simp)|cons x xs=>exact h)
section
variable (u6:List aB) (u2:List aI) (u0:Int) (u1:Int) (u3:Int) (u4:List aB)
abbrev RJ:List (Nat × Option Ob):=[(138,some (aN 145 2 aB.cell u6))]
abbrev X0:=(((at' u2 u0.toNat).aa).drop ((k2 u1).toNat))
abbrev MZ:=(at' ((at' u2 u0.toNat).aa) u1.toNat)
abbrev VF:=(at' (X0 u2 u0 u1) u3.toNat)
abbrev Od:=(⟨MZ u2 u0 u1,VF u2 u0 u1 u3⟩:aB)
abbrev aac:=(u4.length+[Od u2 u0 u1 u3].length)
abbrev Yy:=(ay aB.cell [Od u2 u0 u1 u3])
abbrev Vp:=(u4++[Od u2 u0 u1 u3])
abbrev aag:=(ay aB.cell (Vp u2 u0 u1 u3 u4))
abbrev Rk:=(u4,k2 u3)
end
theorem Br (p:au) (s_:State):dO Tryz.prog 135 (RQ s_ p) [] (fun r=>(.fK [sD (aS none 2 aB.cell r.1),sI r.2])) (fun _=>[]) (oq p s_):=
  eG tT mX Tryz.func135 (
  .rg {fr:=[(0,134),(1,135)],fz:=[134,135]} []<| .cl 2 (dA p s_) fun r_=> .r<| .r<| .it (.r<| .e (([]:List aB),r_))
  (.r<| .cl 2 (iQ p s_) fun u2=> .r<| .im (.ad 7 268 145 2 (ay aB.cell ([]:List aB)))<| .lp (σ:=((List aB) × Int)) (β:=(List aB)) (([]:List aB),0) [] [(268,138)] ⟨[2,22,23],[],fun(u6,u0)=>[(7,vO 138 false u6.length),(24,vI u0)],fun(u6,u0)=>(RJ u6)⟩ ⟨[],[],fun u5=>[(7,vO 138 false u5.length)],fun u5=>(RJ u5)⟩
  (fun(u6,u0)=> .r<| .it (.a1 ((0:Int)<=u0/\u0<(u2.length:Int))<| .rg {fr:=[(2,235)],fz:=[235]} []<| .r<| .lp (σ:=((List aB) × Int)) (β:=(List aB)) (u6,0) [] [] ⟨[2,9,22,23,24,29,30],[],fun(u7,u1)=>[(7,vO 138 false u7.length),(31,vI u1)],fun(u7,u1)=>(RJ u7)⟩ ⟨[2,22,23,24],[],fun u8=>[(7,vO 138 false u8.length)],fun u8=>(RJ u8)⟩
  (fun(u7,u1)=> .r<| .it (.a1 ((0:Int)<=u1/\u1<(((at' u2 u0.toNat).aa).length:Int))<| .r<| .a1 ((0:Int)<=(k2 u1)/\(k2 u1)<=(((at' u2 u0.toNat).aa).length:Int))<| .r<| .im (.us 40 (vD (.sl none 1 (((at' u2 u0.toNat).aa).length - ((k2 u1).toNat)) (fun iq jq=>ay (bK .i64) ((at' u2 u0.toNat).aa) (iq+((k2 u1).toNat)) jq))) (vD (aS none 1 (bK .i64) (X0 u2 u0 u1))) (Ah.v (fA.one (aQ.d (aU.XI (by first|rw [cd,ef]|simp only [cJ,ef,mF]) (.inr rfl) (X6 _ _ _ _))))))<| .lp (σ:=((List aB) × Int)) (β:=(List aB)) (u7,0) [] [] ⟨[2,9,11,22,23,24,29,30,31,40,41],[],fun(u4,u3)=>[(7,vO 138 false u4.length),(42,vI u3)],fun(u4,u3)=>(RJ u4)⟩ ⟨[2,9,22,23,24,29,30,31],[],fun u9=>[(7,vO 138 false u9.length)],fun u9=>(RJ u9)⟩
  (fun(u4,u3)=> .r<| .it (.a1 ((0:Int)<=u3/\u3<((X0 u2 u0 u1).length:Int))<| .r<| .a3 ((0:Int)<=(MZ u2 u0 u1)/\(MZ u2 u0 u1)<(p.aa.length:Int)) ((gB [(decide (((at' p.aa ((MZ u2 u0 u1).toNat)).bs)=0),false)]=true->(0:Int)<=(MZ u2 u0 u1)/\(MZ u2 u0 u1)<(p.aa.length:Int))) ((gB [(decide (((at' p.aa ((MZ u2 u0 u1).toNat)).bs)=0),false)]=true->(0:Int)<=(VF u2 u0 u1 u3)/\(VF u2 u0 u1 u3)<(p.aa.length:Int)))<| .rg {} [0,1,2]<| .it (.a2 ((aac u2 u0 u1 u3 u4)*16<=140737488355328) (u4.length+[Od u2 u0 u1 u3].length<=4611686018427387904)<| .rg {an:=[(4, .arr [Od u2 u0 u1 u3].length (Yy u2 u0 u1 u3)),(5, .arr (Vp u2 u0 u1 u3 u4).length (aag u2 u0 u1 u3 u4))],fr:=[(4,266),(5,267)]} [.pf ⟨[Od u2 u0 u1 u3].length=1,rfl⟩, .pf ⟨aG 1 2 (oZ 2 [.int .i64 (MZ u2 u0 u1),.int .i64 (VF u2 u0 u1 u3)]) (Yy u2 u0 u1 u3),(by intro i hi j hj;match i,j,hi,hj with|0,0,_,_=>rfl|0,1,_,_=>rfl)⟩, .e (u4.length),0,1, .pf ⟨(Vp u2 u0 u1 u3 u4).length=u4.length+[Od u2 u0 u1 u3].length,cd⟩, .pf ⟨aG (aac u2 u0 u1 u3 u4) 2 (oP (ay aB.cell u4) u4.length (Yy u2 u0 u1 u3)) (aag u2 u0 u1 u3 u4),iF _ _ _ _⟩]<| .r<| .en (.next (Vp u2 u0 u1 u3 u4,k2 u3)) [] [(267,138)])
  (.r<| .e (.next (Rk u3 u4))))
  (.e (.done (.brk u4))))
  (fun u9=> .r<| .e (.next (Rk u1 u9))))
  (.e (.done (.brk u7))))
  (fun u8=> .r<| .e (.next (Rk u0 u8))))
  (.e (.done (.brk u6))))
  (fun u5=> .cl 1 (dL [(0,138)] ⟨fun h=>yX u5 h⟩) fun v0=> .r<| .a1 (u5.length=v0.length)<| .so 7 138 false u5.length v0.length 0<| .so 77 138 false u5.length v0.length 0<| .fz [138]<| .r<| .e (v0,0))))
theorem A7 (p:au) (s_:State):dO Tryz.prog 126 (RQ s_ p) [] (fun r=>(.fK [.one (.own 0 false r.1.length),sI r.2])) (fun r=>[(0,some (aN 4 1 ah r.1))]) (gG p s_):=
  eG tT mX Tryz.func126 (
  .rg {fr:=[(0,7),(1,8)],fz:=[7,8]} []<| .cl 2 (dA p s_) fun r_=> .r<| .r<| .it (.r<| .im (.ad 4 9 4 1 (ay ah ([]:List Bool)))<| .en (([]:List Bool),r_) [] [(9,0)])
  (.a3 ((0:Int)<=p.aw) (k97 p) (k98 p)<| .rg {an:=[(2, .arr (K3 p).length (JZ p))],fr:=[(2,10)]} [0, .e ((p.aw:Int)),1,2, .pf ⟨(K3 p).length=p.aw.toNat,d7⟩, .pf ⟨aG p.aw.toNat 1 (fun _ j=>[.bool false].getD j .nilp) (JZ p),mV _ _ _ _ _ (fun j hj=>(match j,hj with|0,_=>rfl))⟩]<| .cl 2 (iQ p s_) fun u1=> .r<| .lp (σ:=((List Bool) × Int)) (β:=(List Bool)) (K3 p,0) [] [] ⟨[23,24],[],fun(u4,u0)=>[(7,vO 10 true u4.length),(25,vI u0)],fun(u4,u0)=>[(10,some (aN 4 1 ah u4))]⟩ ⟨[],[],fun u5=>[(7,vO 10 true u5.length)],fun u5=>[(10,some (aN 4 1 ah u5))]⟩
  (fun(u4,u0)=> .r<| .it (.a1 ((0:Int)<=u0/\u0<(u1.length:Int))<| .rg {fr:=[(2,14)]} []<| .rg {fz:=[14]} []<| .lp (σ:=((List Bool) × Int)) (β:=(List Bool)) (u4,0) [] [] ⟨[9,23,24,25,30,31],[],fun(u2,u3)=>[(7,vO 10 true u2.length),(32,vI u3)],fun(u2,u3)=>[(10,some (aN 4 1 ah u2))]⟩ ⟨[23,24,25],[],fun u6=>[(7,vO 10 true u6.length)],fun u6=>[(10,some (aN 4 1 ah u6))]⟩
  (fun(u2,u3)=> .r<| .it (.a1 ((0:Int)<=u3/\u3<(((at' u1 u0.toNat).aw).length:Int))<| .r<| .a1 (ZY u1 u0 u3 u2)<| .rg {an:=[(7, .arr 0 (UO u1 u0 u3 u2))]} [0, .t 0 (Rs u1 u0 u3) u2.length, .pf ⟨aG u2.length 1 (abq u1 u0 u3 u2) (UO u1 u0 u3 u2),aJ _ _ _ _ _ _ _ _ rfl (fun j hj=>(match j,hj with|0,_=>rfl))⟩]<| .im (.ll 10 u2 (Vu u1 u0 u3 u2))<| .r<| .e (.next (aap u1 u0 u3 u2)))
  (.e (.done (.brk u2))))
  (fun u6=> .r<| .e (.next (QZ u0 u6))))
  (.e (.done (.brk u4))))
  (fun u5=> .r<| .en (u5,0) [] [(10,0)])))
section
variable (p:au) (u0:Int) (r_:(List Bool) × Int) (u1:List bA)
abbrev Af:=((at' p.a_ u0.toNat).bh)
abbrev Vs:List CV:=[cI ((Af p u0).e0),cI ((Af p u0).e1)]
abbrev abL:=(bif (decide (0<=((Af p u0).e0)))then(at' r_.1 (((Af p u0).e0).toNat))else false)
abbrev ZA:=(bif (decide (0<=((Af p u0).e1)))then(at' r_.1 (((Af p u0).e1).toNat))else false)
abbrev NA:=(⟨abL p u0 r_,ZA p u0 r_⟩:bA)
abbrev aaS:=(u1.length+[NA p u0 r_].length)
abbrev X4:=(ay bA.cell [NA p u0 r_])
abbrev Xj:=(u1++[NA p u0 r_])
abbrev aaX:=(ay bA.cell (Xj p u0 r_ u1))
end
theorem BR (p:au) (s_:State):dO Tryz.prog 56 (RQ s_ p) [] (fun r=>(.fK [.one (.own 0 false r.1.length),sI r.2])) (fun r=>[(0,some (aN 133 2 bA.cell r.1))]) (vC p s_):=
  eG tT mX Tryz.func56 (
  .rg {fr:=[(0,19),(1,20)],fz:=[20]} []<| .cl 2 (dL [(0,21)] (A7 p s_)) fun r_=> .rg {fz:=[21]} []<| .r<| .it (.r<| .im (.ad 4 22 133 2 (ay bA.cell ([]:List bA)))<| .en (([]:List bA),r_.2) [] [(22,0)])
  (.r<| .r<| .im (.ad 8 39 133 2 (ay bA.cell ([]:List bA)))<| .lp (σ:=((List bA) × Int)) (β:=(List bA)) (([]:List bA),0) [] [(39,26)] ⟨[6,24,25],[],fun(u1,u0)=>[(8,vO 26 false u1.length),(26,vI u0)],fun(u1,u0)=>[(26,some (aN 133 2 bA.cell u1))]⟩ ⟨[],[],fun u2=>[(8,vO 26 false u2.length)],fun u2=>[(26,some (aN 133 2 bA.cell u2))]⟩
  (fun(u1,u0)=> .r<| .it (.a1 ((0:Int)<=u0/\u0<(p.a_.length:Int))<| .rg {fr:=[(2,35)],fz:=[35]} []<| .rg {fr:=[(0,36)]} []<| .r<| .ul 11<| .r<| .t<| .rg {an:=[(1, .vals [.int .i64 ((Af p u0).e0)])]} [.pf ⟨(0:Int)<=0/\(0:Int)<(2:Nat),(by decide)⟩, .pf ⟨0*1+1<=(Vs p u0).length,cm rfl⟩, .pf ⟨((Vs p u0).drop (0*1)).take 1=[.int .i64 ((Af p u0).e0)].map .d,rfl⟩]<| .a1 ((gB [(decide (0<=((Af p u0).e0)),true)]=true->(0:Int)<=(Af p u0).e0/\(Af p u0).e0<(r_.1.length:Int)))<| .rg {} [0, .pf ⟨(0:Int)<=0/\(0:Int)<(2:Nat),(by decide)⟩]<| .r<| .im (.dp [6,8,11,24,25,26,31,32])<| .r<| .t<| .rg {an:=[(1, .vals [.int .i64 ((Af p u0).e1)])]} [.pf ⟨(0:Int)<=1/\(1:Int)<(2:Nat),(by decide)⟩, .pf ⟨1*1+1<=(Vs p u0).length,cm rfl⟩, .pf ⟨((Vs p u0).drop (1*1)).take 1=[.int .i64 ((Af p u0).e1)].map .d,rfl⟩]<| .a1 ((gB [(decide (0<=((Af p u0).e1)),true)]=true->(0:Int)<=(Af p u0).e1/\(Af p u0).e1<(r_.1.length:Int)))<| .rg {} [0, .pf ⟨(0:Int)<=1/\(1:Int)<(2:Nat),(by decide)⟩]<| .r<| .im (.dp [6,8,11,24,25,26,31,32])<| .r<| .f<| .a2 ((aaS p u0 r_ u1)*2<=140737488355328) (u1.length+[NA p u0 r_].length<=4611686018427387904)<| .rg {an:=[(2, .arr [NA p u0 r_].length (X4 p u0 r_)),(3, .arr (Xj p u0 r_ u1).length (aaX p u0 r_ u1))],fr:=[(2,37),(3,38)]} [.pf ⟨[NA p u0 r_].length=1,rfl⟩, .pf ⟨aG 1 2 (oZ 2 [.bool (abL p u0 r_),.bool (ZA p u0 r_)]) (X4 p u0 r_),(by intro i hi j hj;match i,j,hi,hj with|0,0,_,_=>rfl|0,1,_,_=>rfl)⟩, .e (u1.length),0,1, .pf ⟨(Xj p u0 r_ u1).length=u1.length+[NA p u0 r_].length,cd⟩, .pf ⟨aG (aaS p u0 r_ u1) 2 (oP (ay bA.cell u1) u1.length (X4 p u0 r_)) (aaX p u0 r_ u1),iF _ _ _ _⟩]<| .r<| .en (.next (Xj p u0 r_ u1,k2 u0)) [] [(38,26)])
  (.e (.done (.brk u1))))
  (fun u2=> .r<| .en (u2,0) [] [(26,0)])))
theorem Bq (r_:Int) (x1:List bA):dO Tryz.prog 136 [sI r_,sD (EP [aS none 2 bA.cell x1] 0)] [] (fun r=>(vB r)) (fun _=>[]) (ru r_ x1):=
  eG tT mX Tryz.func136 (
  .r<| .a2 ((0:Int)<=r_/\r_<(x1.length:Int)) ((gB [(!((at' x1 r_.toNat).e0),true)]=true->(0:Int)<=r_/\r_<(x1.length:Int)))<| .rg {} [0, .pf ⟨(0:Int)<=0/\(0:Int)<(2:Nat),(by decide)⟩,1, .pf ⟨(0:Int)<=1/\(1:Int)<(2:Nat),(by decide)⟩]<| .e (bif (!((at' x1 r_.toNat).e0))then(!((at' x1 r_.toNat).e1))else false))
section
variable (s_:List Int) (f_:List bA)
abbrev abm:List SV:=[sD (k0 s_),sD (.fn 136 1 (bI [EP [aS none 2 bA.cell f_] 0]))]
end
theorem rU (s_:List Int) (f_:List bA):dO Tryz.prog 205 (abm s_ f_) [] (fun r=>(vI r)) (fun _=>[]) (jI s_ f_):=
  eG tT mX Tryz.func205 (
  .r<| .r<| .lp (σ:=Int) (β:=Unit) (0) [] [] ⟨[0,1,7],[],fun t8=>[(8,vI t8)],fun t8=>[]⟩ ⟨[],[],fun _=>[],fun _=>[]⟩
  (fun t8=> .r<| .it (.r<| .cl 5 (Bq (at' s_ t8.toNat) f_) fun r_=> .a1 (k1 s_ t8)<| .rg {} [0,1]<| .it (.r<| .e (.done (.ret t8)))
  (.r<| .e (.next (k2 t8))))
  (.e (.done (.brk ()))))
  (fun _=> .r<| .e (-1)))
theorem qQ (s_:List Int) (f_:List bA):dO Tryz.prog 129 (abm s_ f_) [] (fun r=>(vB r)) (fun _=>[]) (fD s_ f_):=
  eG tT mX Tryz.func129 (
  .r<| .cl 2 (rU s_ f_) fun r_=> .r<| .e (decide (0<=r_)))
theorem BB (s_:List Int) (v_:Int):dO Tryz.prog 262 (k46 s_ v_) [] (fun r=>(vI r)) (fun _=>[]) (uL s_ v_):=
  eG tT mX Tryz.func262 (
  .r<| .r<| .lp (σ:=Int) (β:=Unit) (0) [] [] ⟨[0,1,7],[],fun t8=>[(8,vI t8)],fun t8=>[]⟩ ⟨[],[],fun _=>[],fun _=>[]⟩
  (fun t8=> .r<| .it (.r<| .a1 (k1 s_ t8)<| .r<| .it (.r<| .e (.done (.ret t8)))
  (.r<| .e (.next (k2 t8))))
  (.e (.done (.brk ()))))
  (fun _=> .r<| .e (-1)))
theorem qR (s_:List Int) (v_:Int):dO Tryz.prog 209 (k46 s_ v_) [] (fun r=>(vB r)) (fun _=>[]) (jl s_ v_):=
  eG tT mX Tryz.func209 (
  .r<| .cl 2 (BB s_ v_) fun r_=> .r<| .e (decide (0<=r_)))
section
variable (p:au) (s_:State) (t:Task) (b:Int) (u1:Int) (u0:Int)
abbrev aaN:List SV:=[.agg (k10 p),.agg (wB s_),.agg (k4 t),sI b]
abbrev aao:=((gB [(decide (((at' p.aa u1.toNat).bus)=b),true)]=true->(0:Int)<=u1/\u1<(s_.on_.length:Int)))
abbrev Cb:=((at' p.ac u0.toNat).a)
abbrev FY:=((at' p.ac u0.toNat).b)
abbrev Yt:=((bif (decide (((at' p.ac u0.toNat).kind)=1))then true else(at' s_.am u0.toNat)),false)
end
theorem EH (p:au) (s_:State) (t:Task) (b:Int):dO Tryz.prog 138 (aaN p s_ t b) [] (fun r=>(vB r)) (fun _=>[]) (rZ p s_ t b):=
  eG tT mX Tryz.func138 (
  .rg {fr:=[(0,11),(1,12),(2,13)],fz:=[12,13]} []<| .a1 ((0:Int)<=b/\b<(s_.ag.length:Int))<| .r<| .it (.r<| .e false)
  (.r<| .lp (σ:=Int) (β:=Unit) (0) [] [] ⟨[3,4,5,6,20,21],[11],fun u1=>[(22,vI u1)],fun u1=>[]⟩ ⟨[3,4,5,6],[11],fun _=>[],fun _=>[]⟩
  (fun u1=> .r<| .it (.a1 (k89 u1 p)<| .rg {fr:=[(3,17)],fz:=[17]} []<| .a1 (aao p s_ b u1)<| .r<| .it (.r<| .e (.done (.ret false)))
  (.r<| .e (.next (k2 u1))))
  (.e (.done (.brk ()))))
  (fun _=> .r<| .lp (σ:=Int) (β:=Unit) (0) [] [] ⟨[3,5,6,40,41],[],fun u0=>[(42,vI u0)],fun u0=>[]⟩ ⟨[],[],fun _=>[],fun _=>[]⟩
  (fun u0=> .r<| .it (.a1 (VX p u0)<| .rg {fr:=[(3,21)],fz:=[21]} []<| .cg 20 [((bif (!decide ((Cb p u0)=b))then(!decide ((FY p u0)=b))else false),false)] (qR t.bj (IntKind.wrap .i64 ((IntKind.wrap .i64 ((Cb p u0)+(FY p u0))) - b))) fun r_=> .r<| .it (.r<| .e (.next (k2 u0)))
  (.a2 ((gB [(decide (((at' p.ac u0.toNat).kind)=1),false)]=true->(0:Int)<=u0/\u0<(s_.am.length:Int))) ((gB [Yt p s_ u0]=true->(0:Int)<=u0/\u0<(s_.ar.length:Int)))<| .rg {} [0,1]<| .it (.r<| .e (.done (.ret false)))
  (.r<| .e (.next (k2 u0)))))
  (.e (.done (.brk ()))))
  (fun _=> .r<| .e true))))
section
variable (x3:List Int) (u9:List Int) (v0:List af) (v1:List af) (x2:List Bool) (u3:List Bool) (u4:List Bool) (u5:List Bool) (u6:List Bool) (u7:List Bool) (u8:List Bool)
abbrev aay:DV:=(EP [k0 x3,k0 u9,k3 v0,k3 v1] 0)
abbrev qg:=(⟨x2,u3,u4,u5,u6,u7,u8⟩:State)
end
theorem Bv (b:Int) (x1:Int) (u0:List Source) (u1:List Link) (u2:List aY) (x2:List Bool) (u3:List Bool) (u4:List Bool) (u5:List Bool) (u6:List Bool) (u7:List Bool) (u8:List Bool) (x3:List Int) (u9:List Int) (v0:List af) (v1:List af):dO Tryz.prog 137 [sI b,sD (k12 x1 u0 u1 u2),sD (Zc x2 u3 u4 u5 u6 u7 u8),sD (aay x3 u9 v0 v1)] [] (fun r=>(vB r)) (fun _=>[]) (rG b x1 u0 u1 u2 x2 u3 u4 u5 u6 u7 u8 x3 u9 v0 v1):=
  eG tT mX Tryz.func137 (
  .r<| .cl 4 (EH (⟨x1,u0,u1,u2⟩:au) (qg x2 u3 u4 u5 u6 u7 u8) (⟨x3,u9,v0,v1⟩:Task) b) fun r_=> .r<| .e (!r_))
section
variable (s_:List Int) (f_:Int) (u0:List Source) (u1:List Link) (u2:List aY) (u3:List Bool) (u4:List Bool) (u5:List Bool) (u6:List Bool) (u7:List Bool) (u8:List Bool) (u9:List Bool) (v0:List Int) (v1:List Int) (v2:List af) (v3:List af)
abbrev abk:List SV:=[sD (k0 s_),sD (.fn 137 3 (bI [k12 f_ u0 u1 u2,Zc u3 u4 u5 u6 u7 u8 u9,aay v0 v1 v2 v3]))]
end
theorem sj (s_:List Int) (f_:Int) (u0:List Source) (u1:List Link) (u2:List aY) (u3:List Bool) (u4:List Bool) (u5:List Bool) (u6:List Bool) (u7:List Bool) (u8:List Bool) (u9:List Bool) (v0:List Int) (v1:List Int) (v2:List af) (v3:List af):dO Tryz.prog 205 (abk s_ f_ u0 u1 u2 u3 u4 u5 u6 u7 u8 u9 v0 v1 v2 v3) [] (fun r=>(vI r)) (fun _=>[]) (jE s_ f_ u0 u1 u2 u3 u4 u5 u6 u7 u8 u9 v0 v1 v2 v3):=
  eG tT mX Tryz.func205 (
  .r<| .r<| .lp (σ:=Int) (β:=Unit) (0) [] [] ⟨[0,1,7],[],fun t8=>[(8,vI t8)],fun t8=>[]⟩ ⟨[],[],fun _=>[],fun _=>[]⟩
  (fun t8=> .r<| .it (.r<| .cl 5 (Bv (at' s_ t8.toNat) f_ u0 u1 u2 u3 u4 u5 u6 u7 u8 u9 v0 v1 v2 v3) fun r_=> .a1 (k1 s_ t8)<| .rg {} [0,1]<| .it (.r<| .e (.done (.ret t8)))
  (.r<| .e (.next (k2 t8))))
  (.e (.done (.brk ()))))
  (fun _=> .r<| .e (-1)))
theorem qV (s_:List Int) (f_:Int) (u0:List Source) (u1:List Link) (u2:List aY) (u3:List Bool) (u4:List Bool) (u5:List Bool) (u6:List Bool) (u7:List Bool) (u8:List Bool) (u9:List Bool) (v0:List Int) (v1:List Int) (v2:List af) (v3:List af):dO Tryz.prog 129 (abk s_ f_ u0 u1 u2 u3 u4 u5 u6 u7 u8 u9 v0 v1 v2 v3) [] (fun r=>(vB r)) (fun _=>[]) (fB s_ f_ u0 u1 u2 u3 u4 u5 u6 u7 u8 u9 v0 v1 v2 v3):=
  eG tT mX Tryz.func129 (
  .r<| .cl 2 (sj s_ f_ u0 u1 u2 u3 u4 u5 u6 u7 u8 u9 v0 v1 v2 v3) fun r_=> .r<| .e (decide (0<=r_)))
section
variable (p:au) (s_:State) (t:Task)
abbrev Yw:List SV:=[.agg (k10 p),.agg (wB s_),.agg (k4 t)]
end
theorem wU (p:au) (s_:State) (t:Task):dO Tryz.prog 62 (Yw p s_ t) [] (fun r=>(vI r)) (fun _=>[]) (nR p s_ t):=
  eG tT mX Tryz.func62 (
  .rg {fr:=[(0,5),(1,6),(2,7)],fz:=[5,6,7]} []<| .cl 2 (EF p s_) fun r_=> .r<| .r<| .lp (σ:=Int) (β:=Unit) (0) [] [] ⟨[3,4,5,21,22],[],fun u0=>[(23,vI u0)],fun u0=>[]⟩ ⟨[3,4,5],[],fun _=>[],fun _=>[]⟩
  (fun u0=> .r<| .it (.a1 ((0:Int)<=u0/\u0<(r_.1.length:Int))<| .r<| .a1 ((gB [(at' r_.1 u0.toNat,true)]=true->(0:Int)<=u0/\u0<(s_.ag.length:Int)))<| .r<| .it (.r<| .e (.done (.ret 40)))
  (.r<| .e (.next (k2 u0))))
  (.e (.done (.brk ()))))
  (fun _=> .cl 2 (Br p s_) fun u2=> .r<| .r<| .it (.r<| .e 41)
  (.cl 2 (dL [(0,8)] (BR p s_)) fun u1=> .rg {fr:=[(6,9)],fz:=[8]} []<| .fz [9]<| .cl 3 (qQ t.fed u1.1) fun u3=> .r<| .it (.r<| .e 42)
  (.cl 3 (qV t.bj p.aw p.aa p.ac p.a_ s_.am s_.ar s_.ap s_.on_ s_.ae s_.ag s_.aq t.fed t.bj t.ba t.bk) fun u4=> .r<| .it (.r<| .e 45)
  (.r<| .e 0)))))
theorem dG (p:au) (s_:State) (t:Task):dO Tryz.prog 13 (Yw p s_ t) [] (fun r=>(vI r)) (fun _=>[]) (bG p s_ t):=
  eG tT mX Tryz.func13 (
  .rg {fr:=[(0,3),(1,4),(2,5)],fz:=[3,4,5]} []<| .cl 2 (dA p s_) fun r_=> .r<| .r<| .it (.r<| .e r_)
  (.cl 2 (Ca p t) fun u1=> .r<| .it (.r<| .e 1)
  (.cl 3 (wU p s_ t) fun u0=> .r<| .e u0)))
theorem Ev (p:au) (x:Link):dO Tryz.prog 210 [.agg (k10 p),.agg (k21 x)] [] (fun r=>(vB r)) (fun _=>[]) (su p x):=
  eG tT mX Tryz.func210 (
  .rg {fr:=[(0,6),(1,7)],fz:=[6]} []<| .r<| .it (.r<| .e false)
  (.r<| .it (.r<| .e false)
  (.r<| .lp (σ:=Int) (β:=Unit) (0) [] [] ⟨[3],[7],fun i=>[(5,vI i)],fun i=>[]⟩ ⟨[],[],fun _=>[],fun _=>[]⟩
  (fun i=> .r<| .it (.a1 ((0:Int)<=i/\i<(x.trip.length:Int))<| .rg {fr:=[(5,11)],fz:=[11]} []<| .r<| .it (.r<| .e (.done (.ret false)))
  (.a2 ((gB [(decide (0<i),true)]=true->(0:Int)<=(k13 i)/\(k13 i)<(x.trip.length:Int))) ((gB [k22 x i,(decide (0<i),true)]=true->(0:Int)<=(k13 i)/\(k13 i)<(x.trip.length:Int)))<| .rg {} [0,1]<| .it (.r<| .e (.done (.ret false)))
  (.r<| .e (.next (k2 i)))))
  (.e (.done (.brk ()))))
  (fun _=> .r<| .e true))))
theorem Dw (p:au):dO Tryz.prog 139 (k9 p) [] (fun r=>(vI r)) (fun _=>[]) (qI p):=
  eG tT mX Tryz.func139 (
  .rg {fr:=[(0,9)]} []<| .r<| .it (.r<| .e 10)
  (.r<| .it (.r<| .e 11)
  (.r<| .lp (σ:=Int) (β:=Unit) (0) [] [] ⟨[1],[9],fun i=>[(3,vI i)],fun i=>[]⟩ ⟨[1],[9],fun _=>[],fun _=>[]⟩
  (fun i=> .r<| .it (.a1 (k89 i p)<| .rg {fr:=[(5,13)],fz:=[13]} []<| .r<| .it (.r<| .e (.done (.ret 11)))
  (.r<| .e (.next (k2 i))))
  (.e (.done (.brk ()))))
  (fun _=> .r<| .it (.r<| .e 12)
  (.r<| .lp (σ:=Int) (β:=Unit) (0) [] [] ⟨[1],[9],fun i1=>[(5,vI i1)],fun i1=>[]⟩ ⟨[1],[9],fun _=>[],fun _=>[]⟩
  (fun i1=> .r<| .it (.cl 6 (Ev p (at' p.ac i1.toNat)) fun r_=> .a1 (VX p i1)<| .rg {} [0,1]<| .it (.r<| .e (.done (.ret 12)))
  (.r<| .e (.next (k2 i1))))
  (.e (.done (.brk ()))))
  (fun _=> .r<| .it (.r<| .e 13)
  (.r<| .lp (σ:=Int) (β:=Unit) (0) [] [] ⟨[1],[9],fun i2=>[(6,vI i2)],fun i2=>[]⟩ ⟨[],[],fun _=>[],fun _=>[]⟩
  (fun i2=> .r<| .it (.a1 ((0:Int)<=i2/\i2<(p.a_.length:Int))<| .rg {fr:=[(5,17)],fz:=[17]} []<| .rg {} [.pf ⟨(0:Int)<=0/\(0:Int)<(2:Nat),(by decide)⟩, .pf ⟨(0:Int)<=1/\(1:Int)<(2:Nat),(by decide)⟩]<| .r<| .r<| .it (.r<| .r<| .it (.r<| .e (.done (.ret 13)))
  (.r<| .e (.next (k2 i2))))
  (.r<| .it (.r<| .e (.done (.ret 13)))
  (.r<| .e (.next (k2 i2)))))
  (.e (.done (.brk ()))))
  (fun _=> .r<| .e 0))))))))
theorem Dr (p:au) (s_:State):dO Tryz.prog 140 (RQ s_ p) [] (fun r=>(vB r)) (fun _=>[]) (qM p s_):=
  eG tT mX Tryz.func140 (
  .rg {fr:=[(0,2),(1,3)],fz:=[2,3]} []<| .r<| .r<| .it (.r<| .e false)
  (.r<| .lp (σ:=Int) (β:=Unit) (0) [] [] ⟨[2,3,5],[],fun i=>[(8,vI i)],fun i=>[]⟩ ⟨[],[],fun _=>[],fun _=>[]⟩
  (fun i=> .r<| .it (.a3 (VX p i) (k44 s_ p i) (k45 s_ p i)<| .rg {} [0,1,2]<| .it (.r<| .e (.done (.ret false)))
  (.r<| .e (.next (k2 i))))
  (.e (.done (.brk ()))))
  (fun _=> .r<| .e true)))
theorem iT (p:au) (s_:State):dO Tryz.prog 63 (RQ s_ p) [] (fun r=>(vI r)) (fun _=>[]) (eX p s_):=
  eG tT mX Tryz.func63 (
  .rg {fr:=[(0,2),(1,3)],fz:=[2,3]} []<| .cl 1 (Dw p) fun r_=> .r<| .cg 5 [(decide (r_=0),true)] (Dr p s_) fun u0=> .r<| .it (.r<| .r<| .e 9)
  (.r<| .e r_))
theorem uO (l:List Int) (n:Int):dO Tryz.prog 141 (k46 l n) [] (fun r=>(vB r)) (fun _=>[]) (kU l n):=
  eG tT mX Tryz.func141 (
  .r<| .r<| .lp (σ:=Int) (β:=Unit) (0) [] [] ⟨[0,1],[],fun i=>[(5,vI i)],fun i=>[]⟩ ⟨[0],[],fun _=>[],fun _=>[]⟩
  (fun i=> .r<| .it (.a2 (k1 l i) ((gB [(decide ((at' l i.toNat)<0),false)]=true->(0:Int)<=i/\i<(l.length:Int)))<| .rg {} [0,1]<| .it (.r<| .e (.done (.ret false)))
  (.r<| .e (.next (k2 i))))
  (.e (.done (.brk ()))))
  (fun _=> .r<| .e (decide ((l.length:Int)<=24))))
section
variable (x:af) (p:au)
abbrev VG:=((gB [(decide (x.index<(p.ac.length:Int)),true)]=true->(0:Int)<=x.index/\x.index<(p.ac.length:Int)))
abbrev UJ:=(bif (decide (x.index<(p.ac.length:Int)))then(!decide (((at' p.ac x.index.toNat).kind)=1))else false)
end
theorem vv (p:au) (x:af):dO Tryz.prog 69 (k47 x p) [] (fun r=>(vB r)) (fun _=>[]) (mG p x):=
  eG tT mX Tryz.func69 (
  .rg {fr:=[(0,2),(1,3)],fz:=[2,3]} []<| .r<| .r<| .it (.r<| .e false)
  (.r<| .r<| .it (.it (.a1 (VG x p)<| .r<| .e (UJ x p))
  (.r<| .it (.it (.r<| .e (WN x p))
  (.r<| .it (.it (.r<| .e (Lx x p))
  (.r<| .e false))
  (.r<| .it (.r<| .e (Lx x p))
  (.r<| .e false))))
  (.r<| .it (.r<| .e (WN x p))
  (.r<| .it (.it (.r<| .e (Lx x p))
  (.r<| .e false))
  (.r<| .it (.r<| .e (Lx x p))
  (.r<| .e false))))))
  (.r<| .it (.it (.a1 (VG x p)<| .r<| .e (UJ x p))
  (.r<| .it (.it (.r<| .e (WN x p))
  (.r<| .it (.it (.r<| .e (Lx x p))
  (.r<| .e false))
  (.r<| .it (.r<| .e (Lx x p))
  (.r<| .e false))))
  (.r<| .it (.r<| .e (WN x p))
  (.r<| .it (.it (.r<| .e (Lx x p))
  (.r<| .e false))
  (.r<| .it (.r<| .e (Lx x p))
  (.r<| .e false))))))
  (.r<| .it (.it (.a1 (VG x p)<| .r<| .e (UJ x p))
  (.r<| .it (.it (.r<| .e (WN x p))
  (.r<| .it (.it (.r<| .e (Lx x p))
  (.r<| .e false))
  (.r<| .it (.r<| .e (Lx x p))
  (.r<| .e false))))
  (.r<| .it (.r<| .e (WN x p))
  (.r<| .it (.it (.r<| .e (Lx x p))
  (.r<| .e false))
  (.r<| .it (.r<| .e (Lx x p))
  (.r<| .e false))))))
  (.r<| .it (.a1 (VG x p)<| .r<| .e (UJ x p))
  (.r<| .it (.it (.r<| .e (WN x p))
  (.r<| .it (.it (.r<| .e (Lx x p))
  (.r<| .e false))
  (.r<| .it (.r<| .e (Lx x p))
  (.r<| .e false))))
  (.r<| .it (.r<| .e (WN x p))
  (.r<| .it (.it (.r<| .e (Lx x p))
  (.r<| .e false))
  (.r<| .it (.r<| .e (Lx x p))
  (.r<| .e false))))))))))
theorem wH (p:au) (l:List af):dO Tryz.prog 142 [.agg (k10 p),sD (k3 l)] [] (fun r=>(vB r)) (fun _=>[]) (og p l):=
  eG tT mX Tryz.func142 (
  .rg {fr:=[(0,1)],fz:=[1]} []<| .r<| .lp (σ:=Int) (β:=Unit) (0) [] [] ⟨[1,2],[],fun i=>[(5,vI i)],fun i=>[]⟩ ⟨[1],[],fun _=>[],fun _=>[]⟩
  (fun i=> .r<| .it (.cl 5 (vv p (at' l i.toNat)) fun r_=> .a1 (Xv l i)<| .rg {} [0,1]<| .it (.r<| .e (.done (.ret false)))
  (.r<| .e (.next (k2 i))))
  (.e (.done (.brk ()))))
  (fun _=> .r<| .e (decide ((l.length:Int)<=24))))
theorem Ct (p:au) (t:Task):dO Tryz.prog 64 (k59 p t) [] (fun r=>(vB r)) (fun _=>[]) (pu p t):=
  eG tT mX Tryz.func64 (
  .rg {fr:=[(0,2),(1,3)],fz:=[2,3]} []<| .cl 5 (uO t.fed (p.a_.length:Int)) fun r_=> .cg 11 [(r_,true)] (uO t.bj p.aw) fun u0=> .cg 17 [k14 r_ u0] (wH p t.ba) fun u1=> .cg 23 [k15 r_ u0 u1] (wH p t.bk) fun u2=> .r<| .e (k16 r_ u0 u1 u2))
section
variable (p:au) (s_:State) (kz:Int)
abbrev Tk:List SV:=[.agg (k10 p),.agg (wB s_),sI kz]
end
theorem qE (p:au) (s_:State) (kz:Int):dO Tryz.prog 143 (Tk p s_ kz) [] (fun r=>(vB r)) (fun _=>[]) (kX p s_ kz):=
  eG tT mX Tryz.func143 (
  .rg {fr:=[(0,2),(1,3)],fz:=[2,3]} []<| .a4 ((0:Int)<=kz/\kz<(s_.on_.length:Int)) (k90 kz s_) ((gB [((bif (at' s_.on_ kz.toNat)then(!(at' s_.ae kz.toNat))else false),true)]=true->(0:Int)<=kz/\kz<(p.aa.length:Int))) (k91 kz p s_)<| .rg {} [0,1,2,3]<| .e (bif (bif (at' s_.on_ kz.toNat)then(!(at' s_.ae kz.toNat))else false)then(!(at' s_.aq (((at' p.aa kz.toNat).bus).toNat)))else false))
section
variable (p:au) (i:Int) (s_:State)
abbrev LG:=((Cb p i).toNat)
abbrev aax:=(bif (bif (at' s_.am i.toNat)then(!(at' s_.ap i.toNat))else false)then(!(at' s_.aq (LG p i)))else false)
abbrev abx:=(aax p i s_,true)
abbrev Oo:=((FY p i).toNat)
end
theorem Ac (p:au) (s_:State) (i:Int):dO Tryz.prog 211 (Tk p s_ i) [] (fun r=>(vB r)) (fun _=>[]) (mQ p s_ i):=
  eG tT mX Tryz.func211 (
  .rg {fr:=[(0,2),(1,3)],fz:=[2,3]} []<| .a6 ((0:Int)<=i/\i<(s_.am.length:Int)) ((gB [(at' s_.am i.toNat,true)]=true->(0:Int)<=i/\i<(s_.ap.length:Int))) ((gB [((bif (at' s_.am i.toNat)then(!(at' s_.ap i.toNat))else false),true)]=true->(0:Int)<=i/\i<(p.ac.length:Int))) ((gB [((bif (at' s_.am i.toNat)then(!(at' s_.ap i.toNat))else false),true)]=true->(0:Int)<=(at' p.ac i.toNat).a/\(at' p.ac i.toNat).a<(s_.aq.length:Int))) ((gB [abx p i s_]=true->(0:Int)<=i/\i<(p.ac.length:Int))) ((gB [abx p i s_]=true->(0:Int)<=(at' p.ac i.toNat).b/\(at' p.ac i.toNat).b<(s_.aq.length:Int)))<| .rg {} [0,1,2,3,4,5]<| .e (bif (aax p i s_)then(!(at' s_.aq (Oo p i)))else false))
section
variable (p:au) (b:Int) (u0:List Bool) (i:Int)
abbrev Vj:=((K3 p).set b.toNat true)
abbrev NW:=(u0.set (LG p i) true)
abbrev Yh:=(ay ah (NW p u0 i))
abbrev XM:=((NW p u0 i).set (Oo p i) true)
abbrev abR:=(ay ah (XM p u0 i))
end
theorem qw (p:au) (s_:State) (b:Int):dO Tryz.prog 144 (Tk p s_ b) [] (fun r=>(vD (aS none 1 ah r))) (fun _=>[]) (dQ p s_ b):=
  eG tT mX Tryz.func144 (
  .rg {fr:=[(0,19),(1,20)],fz:=[20]} []<| .a3 ((0:Int)<=p.aw) (k97 p) (k98 p)<| .rg {an:=[(2, .arr (K3 p).length (JZ p))],fr:=[(2,21)]} [0, .e ((p.aw:Int)),1,2, .pf ⟨(K3 p).length=p.aw.toNat,d7⟩, .pf ⟨aG p.aw.toNat 1 (fun _ j=>[.bool false].getD j .nilp) (JZ p),mV _ _ _ _ _ (fun j hj=>(match j,hj with|0,_=>rfl))⟩]<| .a1 ((0:Int)<=b/\b<((K3 p).length:Int))<| .rg {an:=[(3, .arr 0 (ay ah (Vj p b)))]} [0, .t 0 b ((K3 p).length), .pf ⟨aG (K3 p).length 1 (nN (JZ p) b.toNat 0 [.bool true]) (ay ah (Vj p b)),aJ _ _ _ _ _ _ _ _ rfl (fun j hj=>(match j,hj with|0,_=>rfl))⟩]<| .im (.ll 21 (K3 p) (Vj p b))<| .r<| .lp (σ:=((List Bool) × Int)) (β:=(List Bool)) (Vj p b,0) [] [] ⟨[3,4],[19],fun(u1,n)=>[(7,vO 21 true u1.length),(8,vI n)],fun(u1,n)=>[(21,some (aN 4 1 ah u1))]⟩ ⟨[],[],fun u2=>[(7,vO 21 true u2.length)],fun u2=>[(21,some (aN 4 1 ah u2))]⟩
  (fun(u1,n)=> .r<| .it (.r<| .lp (σ:=((List Bool) × Int)) (β:=(List Bool)) (u1,0) [] [] ⟨[3,4,8],[19],fun(u0,i)=>[(7,vO 21 true u0.length),(9,vI i)],fun(u0,i)=>[(21,some (aN 4 1 ah u0))]⟩ ⟨[3,4,8],[19],fun u3=>[(7,vO 21 true u3.length)],fun u3=>[(21,some (aN 4 1 ah u3))]⟩
  (fun(u0,i)=> .r<| .it (.a1 (VX p i)<| .rg {fr:=[(5,37)]} []<| .cl 3 (Ac p s_ i) fun r_=> .a2 ((gB [(r_,true)]=true->(0:Int)<=(at' p.ac i.toNat).a/\(at' p.ac i.toNat).a<(u0.length:Int))) ((gB [(at' u0 (LG p i),false),(r_,true)]=true->(0:Int)<=(at' p.ac i.toNat).b/\(at' p.ac i.toNat).b<(u0.length:Int)))<| .rg {} [2,0, .tg 0 [(r_,true)] (Cb p i) u0.length,1, .tg 1 [(at' u0 (LG p i),false),(r_,true)] (FY p i) u0.length]<| .it (.a1 ((0:Int)<=(at' p.ac i.toNat).a/\(at' p.ac i.toNat).a<(u0.length:Int))<| .rg {an:=[(4, .arr 0 (Yh p u0 i))]} [0, .t 0 (Cb p i) u0.length, .pf ⟨aG u0.length 1 (nN (ay ah u0) (LG p i) 0 [.bool true]) (Yh p u0 i),aJ _ _ _ _ _ _ _ _ rfl (fun j hj=>(match j,hj with|0,_=>rfl))⟩]<| .im (.ll 21 u0 (NW p u0 i))<| .a1 ((0:Int)<=(at' p.ac i.toNat).b/\(at' p.ac i.toNat).b<((NW p u0 i).length:Int))<| .rg {an:=[(4, .arr 0 (abR p u0 i))]} [0, .t 0 (FY p i) ((NW p u0 i).length), .pf ⟨aG (NW p u0 i).length 1 (nN (Yh p u0 i) (Oo p i) 0 [.bool true]) (abR p u0 i),aJ _ _ _ _ _ _ _ _ rfl (fun j hj=>(match j,hj with|0,_=>rfl))⟩]<| .im (.ll 21 (NW p u0 i) (XM p u0 i))<| .r<| .e (.next (XM p u0 i,k2 i)))
  (.r<| .e (.next (QZ i u0))))
  (.e (.done (.brk u0))))
  (fun u3=> .r<| .e (.next (QZ n u3))))
  (.e (.done (.brk u1))))
  (fun u2=> .rg {fz:=[21]} []<| .e u2))
section
variable (u0:List Bool) (b:Int) (u2:List Bool)
abbrev Vi:=(u0.set b.toNat (bif (at' u0 b.toNat)then true else(at' u2 b.toNat)))
end
theorem xZ (p:au) (s_:State):dO Tryz.prog 65 (RQ s_ p) [] (fun r=>(.fK [sD (aS none 1 ah r.1),sI r.2])) (fun _=>[]) (jw p s_):=
  eG tT mX Tryz.func65 (
  .rg {fr:=[(0,3),(1,4)],fz:=[3,4]} []<| .cl 2 (iT p s_) fun r_=> .r<| .r<| .it (.r<| .e (([]:List Bool),r_))
  (.a3 ((0:Int)<=p.aw) (k97 p) (k98 p)<| .rg {an:=[(2, .arr (K3 p).length (JZ p))],fr:=[(2,5)]} [0, .e ((p.aw:Int)),1,2, .pf ⟨(K3 p).length=p.aw.toNat,d7⟩, .pf ⟨aG p.aw.toNat 1 (fun _ j=>[.bool false].getD j .nilp) (JZ p),mV _ _ _ _ _ (fun j hj=>(match j,hj with|0,_=>rfl))⟩]<| .r<| .lp (σ:=((List Bool) × Int)) (β:=(List Bool)) (K3 p,0) [] [] ⟨[2,3],[],fun(u1,kz)=>[(7,vO 5 true u1.length),(8,vI kz)],fun(u1,kz)=>[(5,some (aN 4 1 ah u1))]⟩ ⟨[],[],fun u3=>[(7,vO 5 true u3.length)],fun u3=>[(5,some (aN 4 1 ah u3))]⟩
  (fun(u1,kz)=> .r<| .it (.cl 3 (qE p s_ kz) fun u5=> .r<| .it (.r<| .e (.next (QZ kz u1)))
  (.cl 8 (qw p s_ ((at' p.aa kz.toNat).bus)) fun u2=> .a1 (k89 kz p)<| .rg {} [0,1]<| .r<| .lp (σ:=((List Bool) × Int)) (β:=(List Bool)) (u1,0) [] [] ⟨[2,3,8,9],[],fun(u0,b)=>[(7,vO 5 true u0.length),(10,vI b)],fun(u0,b)=>[(5,some (aN 4 1 ah u0))]⟩ ⟨[2,3,8],[],fun u4=>[(7,vO 5 true u4.length)],fun u4=>[(5,some (aN 4 1 ah u4))]⟩
  (fun(u0,b)=> .r<| .it (.a2 (k66 u0 b) ((gB [(at' u0 b.toNat,false)]=true->(0:Int)<=b/\b<(u2.length:Int)))<| .rg {an:=[(13, .arr 0 (ay ah (Vi u0 b u2)))]} [0, .t 0 b u0.length,1,0, .t 0 b u0.length, .pf ⟨aG u0.length 1 (nN (ay ah u0) b.toNat 0 [.bool (bif (at' u0 b.toNat)then true else(at' u2 b.toNat))]) (ay ah (Vi u0 b u2)),aJ _ _ _ _ _ _ _ _ rfl (fun j hj=>(match j,hj with|0,_=>rfl))⟩]<| .im (.ll 5 u0 (Vi u0 b u2))<| .r<| .e (.next (Vi u0 b u2,k2 b)))
  (.e (.done (.brk u0))))
  (fun u4=> .r<| .e (.next (QZ kz u4)))))
  (.e (.done (.brk u1))))
  (fun u3=> .rg {fz:=[5]} []<| .e (u3,0))))
theorem Di (a:Source) (b:Source):dO Tryz.prog 145 [.agg (k11 a),.agg (k11 b)] [] (fun r=>(vB r)) (fun _=>[]) (qN a b):=
  eG tT mX Tryz.func145 (
  .rg {fr:=[(0,2),(1,3)],fz:=[2,3]} []<| .r<| .e (bif (!decide (a.bs=b.bs))then true else(decide (a.bs=0))))
end
end Sg
