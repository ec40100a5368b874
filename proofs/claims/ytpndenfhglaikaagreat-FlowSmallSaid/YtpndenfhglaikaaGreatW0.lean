import Derived.Test.YtpndenfhglaikaaGreatGm
import Derived.Test.YtpndenfhglaikaaGreatProg
set_option linter.all false
namespace Sg
open Go Go.Proofs
set_option maxRecDepth 20000
noncomputable section
noncomputable def TT:List (Nat × TI):=[(3,⟨Tryz.t3.desc,Tryz.t3.size,Tryz.t3.bytes,zl Tryz.t3,false⟩),
  (4,⟨Tryz.t4.desc,Tryz.t4.size,Tryz.t4.bytes,zl Tryz.t4,false⟩),
  (22,⟨Tryz.t22.desc,Tryz.t22.size,Tryz.t22.bytes,zl Tryz.t22,false⟩),
  (23,⟨Tryz.t23.desc,Tryz.t23.size,Tryz.t23.bytes,zl Tryz.t23,false⟩),
  (24,⟨Tryz.t24.desc,Tryz.t24.size,Tryz.t24.bytes,zl Tryz.t24,false⟩),
  (26,⟨Tryz.t25.desc,Tryz.t26.size,Tryz.t26.bytes,zl Tryz.t26,false⟩),
  (27,⟨Tryz.t27.desc,Tryz.t27.size,Tryz.t27.bytes,zl Tryz.t27,false⟩),
  (29,⟨Tryz.t28.desc,Tryz.t29.size,Tryz.t29.bytes,zl Tryz.t29,false⟩),
  (35,⟨Tryz.t35.desc,Tryz.t35.size,Tryz.t35.bytes,zl Tryz.t35,false⟩),
  (58,⟨Tryz.t3.desc,Tryz.t58.size,Tryz.t58.bytes,zl Tryz.t58,false⟩),
  (60,⟨Tryz.t59.desc,Tryz.t60.size,Tryz.t60.bytes,zl Tryz.t60,true⟩),
  (61,⟨Tryz.t3.desc,Tryz.t61.size,Tryz.t61.bytes,zl Tryz.t61,false⟩),
  (63,⟨Tryz.t62.desc,Tryz.t63.size,Tryz.t63.bytes,zl Tryz.t63,true⟩),
  (64,⟨Tryz.t64.desc,Tryz.t64.size,Tryz.t64.bytes,zl Tryz.t64,false⟩),
  (66,⟨Tryz.t65.desc,Tryz.t66.size,Tryz.t66.bytes,zl Tryz.t66,false⟩),
  (69,⟨Tryz.t69.desc,Tryz.t69.size,Tryz.t69.bytes,zl Tryz.t69,true⟩),
  (71,⟨Tryz.t70.desc,Tryz.t71.size,Tryz.t71.bytes,zl Tryz.t71,true⟩),
  (72,⟨Tryz.t72.desc,Tryz.t72.size,Tryz.t72.bytes,zl Tryz.t72,false⟩),
  (73,⟨Tryz.t73.desc,Tryz.t73.size,Tryz.t73.bytes,zl Tryz.t73,false⟩),
  (78,⟨Tryz.t78.desc,Tryz.t78.size,Tryz.t78.bytes,zl Tryz.t78,false⟩),
  (80,⟨Tryz.t79.desc,Tryz.t80.size,Tryz.t80.bytes,zl Tryz.t80,false⟩),
  (84,⟨Tryz.t79.desc,Tryz.t84.size,Tryz.t84.bytes,zl Tryz.t84,false⟩),
  (94,⟨Tryz.t94.desc,Tryz.t94.size,Tryz.t94.bytes,zl Tryz.t94,false⟩),
  (98,⟨Tryz.t98.desc,Tryz.t98.size,Tryz.t98.bytes,zl Tryz.t98,false⟩),
  (103,⟨Tryz.t102.desc,Tryz.t103.size,Tryz.t103.bytes,zl Tryz.t103,false⟩),
  (110,⟨Tryz.t3.desc,Tryz.t110.size,Tryz.t110.bytes,zl Tryz.t110,false⟩),
  (112,⟨Tryz.t111.desc,Tryz.t112.size,Tryz.t112.bytes,zl Tryz.t112,true⟩),
  (132,⟨Tryz.t132.desc,Tryz.t132.size,Tryz.t132.bytes,zl Tryz.t132,false⟩),
  (141,⟨Tryz.t141.desc,Tryz.t141.size,Tryz.t141.bytes,zl Tryz.t141,false⟩),
  (142,⟨Tryz.t102.desc,Tryz.t142.size,Tryz.t142.bytes,zl Tryz.t142,false⟩),
  (147,⟨Tryz.t147.desc,Tryz.t147.size,Tryz.t147.bytes,zl Tryz.t147,false⟩),
  (148,⟨Tryz.t148.desc,Tryz.t148.size,Tryz.t148.bytes,zl Tryz.t148,false⟩),
  (149,⟨Tryz.t149.desc,Tryz.t149.size,Tryz.t149.bytes,zl Tryz.t149,false⟩),
  (151,⟨Tryz.t150.desc,Tryz.t151.size,Tryz.t151.bytes,zl Tryz.t151,false⟩),
  (152,⟨Tryz.t152.desc,Tryz.t152.size,Tryz.t152.bytes,zl Tryz.t152,false⟩),
  (157,⟨Tryz.t156.desc,Tryz.t157.size,Tryz.t157.bytes,zl Tryz.t157,true⟩),
  (167,⟨Tryz.t167.desc,Tryz.t167.size,Tryz.t167.bytes,zl Tryz.t167,false⟩),
  (168,⟨Tryz.t168.desc,Tryz.t168.size,Tryz.t168.bytes,zl Tryz.t168,false⟩),
  (182,⟨Tryz.t181.desc,Tryz.t182.size,Tryz.t182.bytes,zl Tryz.t182,false⟩),
  (183,⟨Tryz.t183.desc,Tryz.t183.size,Tryz.t183.bytes,zl Tryz.t183,false⟩),
  (190,⟨Tryz.t189.desc,Tryz.t190.size,Tryz.t190.bytes,zl Tryz.t190,false⟩),
  (198,⟨Tryz.t198.desc,Tryz.t198.size,Tryz.t198.bytes,zl Tryz.t198,false⟩),
  (201,⟨Tryz.t201.desc,Tryz.t201.size,Tryz.t201.bytes,zl Tryz.t201,false⟩),
  (204,⟨Tryz.t204.desc,Tryz.t204.size,Tryz.t204.bytes,zl Tryz.t204,false⟩),
  (219,⟨Tryz.t219.desc,Tryz.t219.size,Tryz.t219.bytes,zl Tryz.t219,true⟩),
  (224,⟨Tryz.t224.desc,Tryz.t224.size,Tryz.t224.bytes,zl Tryz.t224,false⟩),
  (226,⟨Tryz.t226.desc,Tryz.t226.size,Tryz.t226.bytes,zl Tryz.t226,false⟩),
  (228,⟨Tryz.t227.desc,Tryz.t228.size,Tryz.t228.bytes,zl Tryz.t228,false⟩)]
theorem tT:su Tryz.prog TT:=⟨jm (by kernel_rfl) (by kernel_rfl) (by kernel_rfl),⟨kR,dU (by kernel_rfl)⟩,jm (by kernel_rfl) (by kernel_rfl) (by kernel_rfl),⟨kR,dU (by kernel_rfl)⟩,jm (by kernel_rfl) (by kernel_rfl) (by kernel_rfl),⟨kR,dU (by kernel_rfl)⟩,jm (by kernel_rfl) (by kernel_rfl) (by kernel_rfl),⟨kR,dU (by kernel_rfl)⟩,jm (by kernel_rfl) (by kernel_rfl) (by kernel_rfl),⟨kR,dU (by kernel_rfl)⟩,jm (by kernel_rfl) (by kernel_rfl) (by kernel_rfl),⟨kR,dU (by kernel_rfl)⟩,jm (by kernel_rfl) (by kernel_rfl) (by kernel_rfl),⟨kR,dU (by kernel_rfl)⟩,jm (by kernel_rfl) (by kernel_rfl) (by kernel_rfl),⟨kR,dU (by kernel_rfl)⟩,jm (by kernel_rfl) (by kernel_rfl) (by kernel_rfl),⟨kR,dU (by kernel_rfl)⟩,jm (by kernel_rfl) (by kernel_rfl) (by kernel_rfl),⟨kR,dU (by kernel_rfl)⟩,jm (by kernel_rfl) (by kernel_rfl) (by kernel_rfl),⟨fun _=> ⟨by kernel_rfl,by kernel_rfl⟩,dU (by kernel_rfl)⟩,jm (by kernel_rfl) (by kernel_rfl) (by kernel_rfl),⟨kR,dU (by kernel_rfl)⟩,jm (by kernel_rfl) (by kernel_rfl) (by kernel_rfl),⟨fun _=> ⟨by kernel_rfl,by kernel_rfl⟩,dU (by kernel_rfl)⟩,jm (by kernel_rfl) (by kernel_rfl) (by kernel_rfl),⟨kR,dU (by kernel_rfl)⟩,jm (by kernel_rfl) (by kernel_rfl) (by kernel_rfl),⟨kR,dU (by kernel_rfl)⟩,jm (by kernel_rfl) (by kernel_rfl) (by kernel_rfl),⟨fun _=> ⟨by kernel_rfl,by kernel_rfl⟩,dU (by kernel_rfl)⟩,jm (by kernel_rfl) (by kernel_rfl) (by kernel_rfl),⟨fun _=> ⟨by kernel_rfl,by kernel_rfl⟩,dU (by kernel_rfl)⟩,jm (by kernel_rfl) (by kernel_rfl) (by kernel_rfl),⟨kR,dU (by kernel_rfl)⟩,jm (by kernel_rfl) (by kernel_rfl) (by kernel_rfl),⟨kR,dU (by kernel_rfl)⟩,jm (by kernel_rfl) (by kernel_rfl) (by kernel_rfl),⟨kR,dU (by kernel_rfl)⟩,jm (by kernel_rfl) (by kernel_rfl) (by kernel_rfl),⟨kR,dU (by kernel_rfl)⟩,jm (by kernel_rfl) (by kernel_rfl) (by kernel_rfl),⟨kR,dU (by kernel_rfl)⟩,jm (by kernel_rfl) (by kernel_rfl) (by kernel_rfl),⟨kR,dU (by kernel_rfl)⟩,jm (by kernel_rfl) (by kernel_rfl) (by kernel_rfl),⟨kR,dU (by kernel_rfl)⟩,jm (by kernel_rfl) (by kernel_rfl) (by kernel_rfl),⟨kR,dU (by kernel_rfl)⟩,jm (by kernel_rfl) (by kernel_rfl) (by kernel_rfl),⟨kR,dU (by kernel_rfl)⟩,jm (by kernel_rfl) (by kernel_rfl) (by kernel_rfl),⟨fun _=> ⟨by kernel_rfl,by kernel_rfl⟩,dU (by kernel_rfl)⟩,jm (by kernel_rfl) (by kernel_rfl) (by kernel_rfl),⟨kR,dU (by kernel_rfl)⟩,jm (by kernel_rfl) (by kernel_rfl) (by kernel_rfl),⟨kR,dU (by kernel_rfl)⟩,jm (by kernel_rfl) (by kernel_rfl) (by kernel_rfl),⟨kR,dU (by kernel_rfl)⟩,jm (by kernel_rfl) (by kernel_rfl) (by kernel_rfl),⟨kR,dU (by kernel_rfl)⟩,jm (by kernel_rfl) (by kernel_rfl) (by kernel_rfl),⟨kR,dU (by kernel_rfl)⟩,jm (by kernel_rfl) (by kernel_rfl) (by kernel_rfl),⟨kR,dU (by kernel_rfl)⟩,jm (by kernel_rfl) (by kernel_rfl) (by kernel_rfl),⟨kR,dU (by kernel_rfl)⟩,jm (by kernel_rfl) (by kernel_rfl) (by kernel_rfl),⟨kR,dU (by kernel_rfl)⟩,jm (by kernel_rfl) (by kernel_rfl) (by kernel_rfl),⟨fun _=> ⟨by kernel_rfl,by kernel_rfl⟩,dU (by kernel_rfl)⟩,jm (by kernel_rfl) (by kernel_rfl) (by kernel_rfl),⟨kR,dU (by kernel_rfl)⟩,jm (by kernel_rfl) (by kernel_rfl) (by kernel_rfl),⟨kR,dU (by kernel_rfl)⟩,jm (by kernel_rfl) (by kernel_rfl) (by kernel_rfl),⟨kR,dU (by kernel_rfl)⟩,jm (by kernel_rfl) (by kernel_rfl) (by kernel_rfl),⟨kR,dU (by kernel_rfl)⟩,jm (by kernel_rfl) (by kernel_rfl) (by kernel_rfl),⟨kR,dU (by kernel_rfl)⟩,jm (by kernel_rfl) (by kernel_rfl) (by kernel_rfl),⟨kR,dU (by kernel_rfl)⟩,jm (by kernel_rfl) (by kernel_rfl) (by kernel_rfl),⟨kR,dU (by kernel_rfl)⟩,jm (by kernel_rfl) (by kernel_rfl) (by kernel_rfl),⟨kR,dU (by kernel_rfl)⟩,jm (by kernel_rfl) (by kernel_rfl) (by kernel_rfl),⟨fun _=> ⟨by kernel_rfl,by kernel_rfl⟩,dU (by kernel_rfl)⟩,jm (by kernel_rfl) (by kernel_rfl) (by kernel_rfl),⟨kR,dU (by kernel_rfl)⟩,jm (by kernel_rfl) (by kernel_rfl) (by kernel_rfl),⟨kR,dU (by kernel_rfl)⟩,jm (by kernel_rfl) (by kernel_rfl) (by kernel_rfl),⟨kR,dU (by kernel_rfl)⟩,trivial⟩
theorem mX:Tryz.prog.follows .mixedOrders=true:=by kernel_rfl
theorem Aj (l:(List gD)):fD Tryz.prog 107 [(sD (bM none 2 gD.cell l))] [] (fun r=>(vO 0 false r.length)) (fun r=>[(0,some (bZ 63 2 gD.cell r))]) (uL l):=
  gI tT mX Tryz.func107 (
  .r<| .r<| .a2 (l.length*16≤140737488355328) (l.length≤4611686018427387904)<| .rg {an:=[(2, .arr l.length (au gD.cell l))],fr:=[(2,1)]} [0,1, .e (l.length), .pf ⟨aC l.length 2 (au gD.cell l) (au gD.cell l),fI _ _ _⟩]<| .en l [] [(1,0)])
section
variable (x:Link)
abbrev k0:List CV:=[(cI x.a),(cI x.b),(cI x.kind),(cI x.most),(cI x.bJ),(.d (bM none 2 gD.cell x.trip))]
end
theorem EX (x:Link):fD Tryz.prog 82 [(.agg (k0 x))] [] (fun r=>(.v (.agg [(cI r.a),(cI r.b),(cI r.kind),(cI r.most),(cI r.bJ),(.d (bM none 2 gD.cell r.trip))]))) (fun _=>[]) (qK x):=
  gI tT mX Tryz.func82 (
  .rg {fr:=[(0,3),(1,4)]} []<| .cl 12 (BB [(0,5)] (Aj x.trip)) fun r_=> .rg {fz:=[5]} []<| .fz [4]<| .e (⟨x.a,x.b,x.kind,x.most,x.bJ,r_⟩:Link))
section
variable (l:(List Source))
abbrev k1:DV:=(bM none 5 Source.cell l)
end
theorem yu (l:(List Source)):fD Tryz.prog 31 [(sD (k1 l))] [] (fun r=>(vO 0 false r.length)) (fun r=>[(0,some (bZ 60 5 Source.cell r))]) (qP l):=
  gI tT mX Tryz.func31 (
  .r<| .r<| .a2 (l.length*40≤140737488355328) (l.length≤4611686018427387904)<| .rg {an:=[(2, .arr l.length (au Source.cell l))],fr:=[(2,1)]} [0,1, .e (l.length), .pf ⟨aC l.length 5 (au Source.cell l) (au Source.cell l),fI _ _ _⟩]<| .en l [] [(1,0)])
section
variable (l:(List Link)) (i:Int)
abbrev k2:DV:=(bM none 6 Link.cell l)
abbrev k3:=((0:Int)≤i∧i<(l.length:Int))
abbrev k4:=(IntKind.wrap .i64 (i+1))
end
theorem Aa (l:(List Link)):fD Tryz.prog 32 [(sD (k2 l))] [] (fun r=>(vO 0 false r.length)) (fun r=>[(0,some (bZ 66 6 Link.cell r))]) (uN l):=
  gI tT mX Tryz.func32 (
  .r<| .r<| .r<| .im (.ad 3 16 66 6 (au Link.cell ([]:List Link)))<| .lp (σ:=((List Link) × Int)) (β:=(List Link)) (([]:List Link),0) [] [(16,9)] ⟨[0],[],fun(u0,i)=>[(3,(vO 9 false u0.length)),(4,(vI i))],fun(u0,i)=>[(9,some (bZ 66 6 Link.cell u0))]⟩ ⟨[],[],fun u1=>[(3,(vO 9 false u1.length))],fun u1=>[(9,some (bZ 66 6 Link.cell u1))]⟩
  (fun(u0,i)=> .r<| .it (.cl 5 (EX (at' l i.toNat)) fun r_=> .a3 (k3 l i) ((u0.length+[r_].length)*64≤140737488355328) (u0.length+[r_].length≤4611686018427387904)<| .rg {an:=[(6, .arr [r_].length (au Link.cell [r_])),(7, .arr (u0++[r_]).length (au Link.cell (u0++[r_])))],fr:=[(6,14),(7,15)]} [0,3, .pf ⟨[r_].length=1,rfl⟩, .pf ⟨aC 1 6 (ou 6 [(.int .i64 r_.a),(.int .i64 r_.b),(.int .i64 r_.kind),(.int .i64 r_.most),(.int .i64 r_.bJ),(bM none 2 gD.cell r_.trip)]) (au Link.cell [r_]),(by intro i hi j hj;match i,j,hi,hj with|0,0,_,_=>rfl|0,1,_,_=>rfl|0,2,_,_=>rfl|0,3,_,_=>rfl|0,4,_,_=>rfl|0,5,_,_=>rfl)⟩, .e (u0.length),1,2, .pf ⟨(u0++[r_]).length=u0.length+[r_].length,List.length_append⟩, .pf ⟨aC (u0.length+[r_].length) 6 (sV (au Link.cell u0) u0.length (au Link.cell [r_])) (au Link.cell (u0++[r_])),dw _ _ _ _⟩]<| .r<| .en (.next ((u0++[r_]),(k4 i))) [] [(15,9)])
  (.e (.done (.brk u0))))
  (fun u1=> .r<| .en u1 [] [(9,0)]))
section
variable (l:(List aD))
abbrev k5:DV:=(bM none 4 aD.cell l)
end
theorem Aq (l:(List aD)):fD Tryz.prog 33 [(sD (k5 l))] [] (fun r=>(vO 0 false r.length)) (fun r=>[(0,some (bZ 71 4 aD.cell r))]) (uO l):=
  gI tT mX Tryz.func33 (
  .r<| .r<| .a2 (l.length*32≤140737488355328) (l.length≤4611686018427387904)<| .rg {an:=[(2, .arr l.length (au aD.cell l))],fr:=[(2,1)]} [0,1, .e (l.length), .pf ⟨aC l.length 4 (au aD.cell l) (au aD.cell l),fI _ _ _⟩]<| .en l [] [(1,0)])
theorem dD (l:(List Bool)):fD Tryz.prog 34 [(sD (bM none 1 aj l))] [] (fun r=>(vO 0 false r.length)) (fun r=>[(0,some (bZ 4 1 aj r))]) (dM l):=
  gI tT mX Tryz.func34 (
  .r<| .r<| .a2 (l.length*1≤140737488355328) (l.length≤4611686018427387904)<| .rg {an:=[(2, .arr l.length (au aj l))],fr:=[(2,1)]} [0,1, .e (l.length), .pf ⟨aC l.length 1 (au aj l) (au aj l),fI _ _ _⟩]<| .en l [] [(1,0)])
section
variable (i:Int) (a:(List Source))
abbrev k6:=((0:Int)≤i∧i<(a.length:Int))
end
theorem Av (a:(List Source)) (b:(List Source)):fD Tryz.prog 49 [(sD (k1 a)),(sD (k1 b))] [] (fun r=>(vB r)) (fun _=>[]) (mK a b):=
  gI tT mX Tryz.func49 (
  .r<| .r<| .it (.r<| .e false)
  (.r<| .lp (σ:=Int) (β:=Unit) (0) [] [] ⟨[0,1],[],fun i=>[(5,(vI i))],fun i=>[]⟩ ⟨[],[],fun _=>[],fun _=>[]⟩
  (fun i=> .r<| .it (.a2 (k6 i a) (k6 i b)<| .rg {} [0,1]<| .it (.r<| .e (.done (.ret false)))
  (.r<| .e (.next (k4 i))))
  (.e (.done (.brk ()))))
  (fun _=> .r<| .e true)))
theorem Dj (a:(List gD)) (b:(List gD)):fD Tryz.prog 120 [(sD (bM none 2 gD.cell a)),(sD (bM none 2 gD.cell b))] [] (fun r=>(vB r)) (fun _=>[]) (qd a b):=
  gI tT mX Tryz.func120 (
  .r<| .r<| .it (.r<| .e false)
  (.r<| .lp (σ:=Int) (β:=Unit) (0) [] [] ⟨[0,1],[],fun i=>[(5,(vI i))],fun i=>[]⟩ ⟨[],[],fun _=>[],fun _=>[]⟩
  (fun i=> .r<| .it (.a2 ((0:Int)≤i∧i<(a.length:Int)) ((0:Int)≤i∧i<(b.length:Int))<| .rg {} [0,1]<| .it (.r<| .e (.done (.ret false)))
  (.r<| .e (.next (k4 i))))
  (.e (.done (.brk ()))))
  (fun _=> .r<| .e true)))
section
variable (a:Link) (b:Link)
abbrev k7:=(bif (bif (bif (bif (decide (a.a=b.a))then(decide (a.b=b.b))else false)then(decide (a.kind=b.kind))else false)then(decide (a.most=b.most))else false)then(decide (a.bJ=b.bJ))else false)
end
theorem Ea (a:Link) (b:Link):fD Tryz.prog 94 [(.agg (k0 a)),(.agg (k0 b))] [] (fun r=>(vB r)) (fun _=>[]) (qO a b):=
  gI tT mX Tryz.func94 (
  .rg {fr:=[(0,2),(1,3)],fz:=[2,3]} []<| .cg 38 [((k7 a b),true)] (Dj a.trip b.trip) fun r_=> .r<| .e (bif (k7 a b)then r_ else false))
theorem DT (a:(List Link)) (b:(List Link)):fD Tryz.prog 50 [(sD (k2 a)),(sD (k2 b))] [] (fun r=>(vB r)) (fun _=>[]) (p8 a b):=
  gI tT mX Tryz.func50 (
  .r<| .r<| .it (.r<| .e false)
  (.r<| .lp (σ:=Int) (β:=Unit) (0) [] [] ⟨[0,1],[],fun i=>[(5,(vI i))],fun i=>[]⟩ ⟨[],[],fun _=>[],fun _=>[]⟩
  (fun i=> .r<| .it (.cl 8 (Ea (at' a i.toNat) (at' b i.toNat)) fun r_=> .a2 (k3 a i) (k3 b i)<| .rg {} [0,1,2]<| .it (.r<| .e (.done (.ret false)))
  (.r<| .e (.next (k4 i))))
  (.e (.done (.brk ()))))
  (fun _=> .r<| .e true)))
section
variable (i:Int) (a:(List aD))
abbrev k8:=((0:Int)≤i∧i<(a.length:Int))
end
theorem Dr (a:(List aD)) (b:(List aD)):fD Tryz.prog 51 [(sD (k5 a)),(sD (k5 b))] [] (fun r=>(vB r)) (fun _=>[]) (pX a b):=
  gI tT mX Tryz.func51 (
  .r<| .r<| .it (.r<| .e false)
  (.r<| .lp (σ:=Int) (β:=Unit) (0) [] [] ⟨[0,1],[],fun i=>[(5,(vI i))],fun i=>[]⟩ ⟨[],[],fun _=>[],fun _=>[]⟩
  (fun i=> .r<| .it (.a2 (k8 i a) (k8 i b)<| .rg {} [0,1]<| .it (.r<| .e (.done (.ret false)))
  (.r<| .e (.next (k4 i))))
  (.e (.done (.brk ()))))
  (fun _=> .r<| .e true)))
section
variable (a:ah)
abbrev k9:List CV:=[(cI a.buses),(.d (bM none 5 Source.cell a.sources)),(.d (bM none 6 Link.cell a.links)),(.d (bM none 4 aD.cell a.racks))]
end
theorem DK (a:ah) (b:ah):fD Tryz.prog 19 [(.agg (k9 a)),(.agg (k9 b))] [] (fun r=>(vB r)) (fun _=>[]) (qc a b):=
  gI tT mX Tryz.func19 (
  .rg {fr:=[(0,2),(1,3)],fz:=[2,3]} []<| .cg 10 [((decide (a.buses=b.buses)),true)] (Av a.sources b.sources) fun r_=> .cg 17 [((bif (decide (a.buses=b.buses))then r_ else false),true)] (DT a.links b.links) fun u0=> .cg 24 [((bif (bif (decide (a.buses=b.buses))then r_ else false)then u0 else false),true)] (Dr a.racks b.racks) fun u1=> .r<| .e (bif (bif (bif (decide (a.buses=b.buses))then r_ else false)then u0 else false)then u1 else false))
section
variable (i:Int) (a:(List Bool))
abbrev k10:=((0:Int)≤i∧i<(a.length:Int))
end
theorem bW (a:(List Bool)) (b:(List Bool)):fD Tryz.prog 52 [(sD (bM none 1 aj a)),(sD (bM none 1 aj b))] [] (fun r=>(vB r)) (fun _=>[]) (bT a b):=
  gI tT mX Tryz.func52 (
  .r<| .r<| .it (.r<| .e false)
  (.r<| .lp (σ:=Int) (β:=Unit) (0) [] [] ⟨[0,1],[],fun i=>[(5,(vI i))],fun i=>[]⟩ ⟨[],[],fun _=>[],fun _=>[]⟩
  (fun i=> .r<| .it (.a2 (k10 i a) (k10 i b)<| .rg {} [0,1]<| .it (.r<| .e (.done (.ret false)))
  (.r<| .e (.next (k4 i))))
  (.e (.done (.brk ()))))
  (fun _=> .r<| .e true)))
section
variable (a:State) (r_:Bool) (u0:Bool) (u1:Bool) (u2:Bool) (u3:Bool) (u4:Bool)
abbrev k11:List CV:=[(.d (bM none 1 aj a.closed)),(.d (bM none 1 aj a.locked)),(.d (bM none 1 aj a.badLink)),(.d (bM none 1 aj a.on_)),(.d (bM none 1 aj a.badSource)),(.d (bM none 1 aj a.earthed)),(.d (bM none 1 aj a.badBus))]
abbrev k12:=(bif (bif (bif (bif r_ then u0 else false)then u1 else false)then u2 else false)then u3 else false)
abbrev k13:=(bif (k12 r_ u0 u1 u2 u3)then u4 else false)
end
theorem Dw (a:State) (b:State):fD Tryz.prog 20 [(.agg (k11 a)),(.agg (k11 b))] [] (fun r=>(vB r)) (fun _=>[]) (pY a b):=
  gI tT mX Tryz.func20 (
  .rg {fr:=[(0,2),(1,3)],fz:=[2,3]} []<| .cl 4 (bW a.closed b.closed) fun r_=> .cg 10 [(r_,true)] (bW a.locked b.locked) fun u0=> .cg 17 [((bif r_ then u0 else false),true)] (bW a.badLink b.badLink) fun u1=> .cg 24 [((bif (bif r_ then u0 else false)then u1 else false),true)] (bW a.on_ b.on_) fun u2=> .cg 31 [((bif (bif (bif r_ then u0 else false)then u1 else false)then u2 else false),true)] (bW a.badSource b.badSource) fun u3=> .cg 38 [((k12 r_ u0 u1 u2 u3),true)] (bW a.earthed b.earthed) fun u4=> .cg 45 [((k13 r_ u0 u1 u2 u3 u4),true)] (bW a.badBus b.badBus) fun u5=> .r<| .e (bif (k13 r_ u0 u1 u2 u3 u4)then u5 else false))
theorem aZ (n:Int) (u0:Int) (u1:Int):fD Tryz.prog 108 [(sI n),(sI u0),(sI u1)] [] (fun r=>(vB r)) (fun _=>[]) (bD n u0 u1):=
  gI tT mX Tryz.func108 (
  .r<| .r<| .e (bif (decide (u0≤n))then(decide (n≤u1))else false))
section
variable (p:ah)
abbrev k14:List SV:=[(.agg (k9 p))]
end
theorem EZ (p:ah):fD Tryz.prog 110 (k14 p) [] (fun r=>(vD (.fn 133 1 (yY [(CR [(.int .i64 r.1),(bM none 5 Source.cell r.2.1),(bM none 6 Link.cell r.2.2.1),(bM none 4 aD.cell r.2.2.2)] 0)])))) (fun _=>[]) (wO p):=
  gI tT mX Tryz.func110 (
  .rg {fr:=[(0,1)],fz:=[1]} []<| .r<| .e (p.buses,p.sources,p.links,p.racks))
theorem Hf (p:ah):fD Tryz.prog 112 (k14 p) [] (fun r=>(vD (.fn 136 1 (yY [(CR [(.int .i64 r.1),(bM none 5 Source.cell r.2.1),(bM none 6 Link.cell r.2.2.1),(bM none 4 aD.cell r.2.2.2)] 0)])))) (fun _=>[]) (zx p):=
  gI tT mX Tryz.func112 (
  .rg {fr:=[(0,1)],fz:=[1]} []<| .r<| .e (p.buses,p.sources,p.links,p.racks))
theorem GD (p:ah):fD Tryz.prog 114 (k14 p) [] (fun r=>(vD (.fn 139 1 (yY [(CR [(.int .i64 r.1),(bM none 5 Source.cell r.2.1),(bM none 6 Link.cell r.2.2.1),(bM none 4 aD.cell r.2.2.2)] 0)])))) (fun _=>[]) (zG p):=
  gI tT mX Tryz.func114 (
  .rg {fr:=[(0,1)],fz:=[1]} []<| .r<| .e (p.buses,p.sources,p.links,p.racks))
section
variable (x1:Int) (u2:(List Source)) (u3:(List Link)) (u4:(List aD))
abbrev k15:DV:=(CR [(.int .i64 x1),(k1 u2),(k2 u3),(k5 u4)] 0)
abbrev k16:=(IntKind.wrap .i64 (x1 - 1))
end
theorem Cf (x:Source) (x1:Int) (u2:(List Source)) (u3:(List Link)) (u4:(List aD)):fD Tryz.prog 133 [(.agg [(cI x.bus),(cI x.kind),(cI x.power),(cI x.sync),(cI x.bJ)]),(sD (k15 x1 u2 u3 u4))] [] (fun r=>(vB r)) (fun _=>[]) (oL x x1 u2 u3 u4):=
  gI tT mX Tryz.func133 (
  .rg {fr:=[(0,1)],fz:=[1]} []<| .cl 5 (aZ x.bus 0 (k16 x1)) fun r_=> .cg 9 [(r_,true)] (aZ x.kind 1 3) fun u0=> .cg 14 [((bif r_ then u0 else false),true)] (aZ x.power 1 100000) fun u1=> .cg 19 [((bif (bif r_ then u0 else false)then u1 else false),true)] (aZ x.sync 0 8) fun u5=> .cg 24 [((bif (bif (bif r_ then u0 else false)then u1 else false)then u5 else false),true)] (aZ x.bJ 10 100000) fun u6=> .r<| .e (k12 r_ u0 u1 u5 u6))
section
variable (x1:Int) (u0:(List Source)) (u1:(List Link)) (u2:(List aD))
abbrev k18:=(yY [(k15 x1 u0 u1 u2)])
abbrev k17:DV:=(CR [(.fn 133 1 (k18 x1 u0 u1 u2))] 0)
end
theorem EH (x:Source) (x1:Int) (u0:(List Source)) (u1:(List Link)) (u2:(List aD)):fD Tryz.prog 132 [(.agg [(cI x.bus),(cI x.kind),(cI x.power),(cI x.sync),(cI x.bJ)]),(sD (k17 x1 u0 u1 u2))] [] (fun r=>(vB r)) (fun _=>[]) (vT x x1 u0 u1 u2):=
  gI tT mX Tryz.func132 (
  .rg {fr:=[(0,1)],fz:=[1]} []<| .cl 2 (Cf x x1 u0 u1 u2) fun r_=> .r<| .e (!r_))
section
variable (s_:(List Source)) (f_:Int) (u0:(List Source)) (u1:(List Link)) (u2:(List aD))
abbrev k19:List SV:=[(sD (k1 s_)),(sD (.fn 132 1 (yY [(k17 f_ u0 u1 u2)])))]
end
theorem Ac (s_:(List Source)) (f_:Int) (u0:(List Source)) (u1:(List Link)) (u2:(List aD)):fD Tryz.prog 149 (k19 s_ f_ u0 u1 u2) [] (fun r=>(vI r)) (fun _=>[]) (qh s_ f_ u0 u1 u2):=
  gI tT mX Tryz.func149 (
  .r<| .r<| .lp (σ:=Int) (β:=Unit) (0) [] [] ⟨[0,1,7],[],fun t8=>[(8,(vI t8))],fun t8=>[]⟩ ⟨[],[],fun _=>[],fun _=>[]⟩
  (fun t8=> .r<| .it (.r<| .cl 5 (EH (at' s_ t8.toNat) f_ u0 u1 u2) fun r_=> .a1 (k6 t8 s_)<| .rg {} [0,1]<| .it (.r<| .e (.done (.ret t8)))
  (.r<| .e (.next (k4 t8))))
  (.e (.done (.brk ()))))
  (fun _=> .r<| .e (-1)))
theorem xK (s_:(List Source)) (f_:Int) (u0:(List Source)) (u1:(List Link)) (u2:(List aD)):fD Tryz.prog 131 (k19 s_ f_ u0 u1 u2) [] (fun r=>(vB r)) (fun _=>[]) (jI s_ f_ u0 u1 u2):=
  gI tT mX Tryz.func131 (
  .r<| .cl 2 (Ac s_ f_ u0 u1 u2) fun r_=> .r<| .e (decide (0≤r_)))
theorem Ho (l:(List Source)) (u0:Int) (u1:Int) (u2:(List Source)) (u3:(List Link)) (u4:(List aD)):fD Tryz.prog 109 [(sD (k1 l)),(sI u0),(sD (.fn 133 1 (k18 u1 u2 u3 u4)))] [] (fun r=>(vB r)) (fun _=>[]) (vg l u0 u1 u2 u3 u4):=
  gI tT mX Tryz.func109 (
  .rg {fr:=[(0,1)],fz:=[1]} []<| .cg 7 [((decide ((l.length:Int)≤u0)),true)] (xK l u1 u2 u3 u4) fun r_=> .r<| .e (bif (decide ((l.length:Int)≤u0))then(!r_)else false))
section
variable (x:Link) (u0:Int)
abbrev k20:=((decide (((at' x.trip u0.toNat).amps)≤((at' x.trip ((k16 u0).toNat)).amps))),false)
end
theorem Ee (x:Link) (x1:Int) (u3:(List Source)) (u4:(List Link)) (u5:(List aD)):fD Tryz.prog 136 [(.agg (k0 x)),(sD (k15 x1 u3 u4 u5))] [] (fun r=>(vB r)) (fun _=>[]) (qW x x1 u3 u4 u5):=
  gI tT mX Tryz.func136 (
  .rg {fr:=[(0,5)]} []<| .cl 5 (aZ x.a 0 (k16 x1)) fun r_=> .cg 13 [((!r_),false)] (aZ x.b 0 (k16 x1)) fun u1=> .cg 26 [((bif (bif (!r_)then true else(!u1))then true else(decide (x.a=x.b))),false)] (aZ x.kind 1 3) fun u6=> .cg 32 [((bif (bif (bif (!r_)then true else(!u1))then true else(decide (x.a=x.b)))then true else(!u6)),false)] (aZ x.most 1 100000) fun u8=> .cg 38 [((bif (bif (bif (bif (!r_)then true else(!u1))then true else(decide (x.a=x.b)))then true else(!u6))then true else(!u8)),false)] (aZ x.bJ 10 100000) fun u9=> .r<| .it (.r<| .e false)
  (.rg {fz:=[5]} []<| .lp (σ:=Int) (β:=Unit) (0) [] [] ⟨[2,48,49],[],fun u0=>[(50,(vI u0))],fun u0=>[]⟩ ⟨[2],[],fun _=>[],fun _=>[]⟩
  (fun u0=> .r<| .it (.a1 ((0:Int)≤u0∧u0<(x.trip.length:Int))<| .rg {fr:=[(3,9)],fz:=[9]} []<| .cl 2 (aZ ((at' x.trip u0.toNat).amps) 1 1000000) fun u2=> .cg 7 [((!u2),false)] (aZ ((at' x.trip u0.toNat).millis) 1 100000) fun u7=> .a2 ((gB [((decide (0<u0)),true),((bif (!u2)then true else(!u7)),false)]=true→(0:Int)≤(k16 u0)∧(k16 u0)<(x.trip.length:Int))) ((gB [(k20 x u0),((decide (0<u0)),true),((bif (!u2)then true else(!u7)),false)]=true→(0:Int)≤(k16 u0)∧(k16 u0)<(x.trip.length:Int)))<| .rg {} [3,2,0,1]<| .it (.r<| .e (.done (.ret false)))
  (.r<| .e (.next (k4 u0))))
  (.e (.done (.brk ()))))
  (fun _=> .r<| .e (bif (decide ((x.trip.length:Int)≤6))then(bif (decide ((x.trip.length:Int)=0))then true else(decide (x.kind=3)))else false))))
section
variable (x1:Int) (u0:(List Source)) (u1:(List Link)) (u2:(List aD))
abbrev k21:DV:=(CR [(.fn 136 1 (k18 x1 u0 u1 u2))] 0)
end
theorem AL (x:Link) (x1:Int) (u0:(List Source)) (u1:(List Link)) (u2:(List aD)):fD Tryz.prog 135 [(.agg (k0 x)),(sD (k21 x1 u0 u1 u2))] [] (fun r=>(vB r)) (fun _=>[]) (rG x x1 u0 u1 u2):=
  gI tT mX Tryz.func135 (
  .rg {fr:=[(0,1)],fz:=[1]} []<| .cl 2 (Ee x x1 u0 u1 u2) fun r_=> .r<| .e (!r_))
section
variable (s_:(List Link)) (f_:Int) (u0:(List Source)) (u1:(List Link)) (u2:(List aD))
abbrev k22:List SV:=[(sD (k2 s_)),(sD (.fn 135 1 (yY [(k21 f_ u0 u1 u2)])))]
end
theorem xX (s_:(List Link)) (f_:Int) (u0:(List Source)) (u1:(List Link)) (u2:(List aD)):fD Tryz.prog 150 (k22 s_ f_ u0 u1 u2) [] (fun r=>(vI r)) (fun _=>[]) (mE s_ f_ u0 u1 u2):=
  gI tT mX Tryz.func150 (
  .r<| .r<| .lp (σ:=Int) (β:=Unit) (0) [] [] ⟨[0,1,7],[],fun t8=>[(8,(vI t8))],fun t8=>[]⟩ ⟨[],[],fun _=>[],fun _=>[]⟩
  (fun t8=> .r<| .it (.r<| .cl 5 (AL (at' s_ t8.toNat) f_ u0 u1 u2) fun r_=> .a1 (k3 s_ t8)<| .rg {} [0,1]<| .it (.r<| .e (.done (.ret t8)))
  (.r<| .e (.next (k4 t8))))
  (.e (.done (.brk ()))))
  (fun _=> .r<| .e (-1)))
theorem uT (s_:(List Link)) (f_:Int) (u0:(List Source)) (u1:(List Link)) (u2:(List aD)):fD Tryz.prog 134 (k22 s_ f_ u0 u1 u2) [] (fun r=>(vB r)) (fun _=>[]) (ic s_ f_ u0 u1 u2):=
  gI tT mX Tryz.func134 (
  .r<| .cl 2 (xX s_ f_ u0 u1 u2) fun r_=> .r<| .e (decide (0≤r_)))
theorem ES (l:(List Link)) (u0:Int) (u1:Int) (u2:(List Source)) (u3:(List Link)) (u4:(List aD)):fD Tryz.prog 111 [(sD (k2 l)),(sI u0),(sD (.fn 136 1 (k18 u1 u2 u3 u4)))] [] (fun r=>(vB r)) (fun _=>[]) (rE l u0 u1 u2 u3 u4):=
  gI tT mX Tryz.func111 (
  .rg {fr:=[(0,1)],fz:=[1]} []<| .cg 7 [((decide ((l.length:Int)≤u0)),true)] (uT l u1 u2 u3 u4) fun r_=> .r<| .e (bif (decide ((l.length:Int)≤u0))then(!r_)else false))
section
variable (x:aD)
abbrev k23:List CV:=[(cI x.feeds.e0),(cI x.feeds.e1),(cI x.power),(cI x.paths)]
end
theorem Gb (x:aD):fD Tryz.prog 140 [(.agg (k23 x))] [] (fun r=>(vI r)) (fun _=>[]) (tO x):=
  gI tT mX Tryz.func140 (
  .rg {fr:=[(0,1)],fz:=[1]} []<| .rg {} [.pf ⟨(0:Int)≤1∧(1:Int)<(2:Nat),(by decide)⟩]<| .it (.r<| .e 1)
  (.r<| .e 2))
section
variable (r_:Bool) (u0:Bool) (x:aD) (u1:Bool)
abbrev k25:=(bif (bif (bif r_ then u0 else false)then(!decide (x.feeds.e0=x.feeds.e1))else false)then u1 else false)
abbrev k24:=((k25 r_ u0 x u1),true)
end
theorem EI (x:aD) (x1:Int) (u2:(List Source)) (u3:(List Link)) (u4:(List aD)):fD Tryz.prog 139 [(.agg (k23 x)),(sD (k15 x1 u2 u3 u4))] [] (fun r=>(vB r)) (fun _=>[]) (rM x x1 u2 u3 u4):=
  gI tT mX Tryz.func139 (
  .rg {fr:=[(0,1)],fz:=[1]} []<| .rg {} [.pf ⟨(0:Int)≤0∧(0:Int)<(2:Nat),(by decide)⟩, .pf ⟨(0:Int)≤1∧(1:Int)<(2:Nat),(by decide)⟩]<| .cl 4 (aZ x.feeds.e0 0 (k16 x1)) fun r_=> .cg 10 [(r_,true)] (aZ x.feeds.e1 (-1) (k16 x1)) fun u0=> .cg 20 [((bif (bif r_ then u0 else false)then(!decide (x.feeds.e0=x.feeds.e1))else false),true)] (aZ x.power 1 100000) fun u1=> .cg 26 [(k24 r_ u0 x u1)] (Gb x) fun u5=> .cg 27 [(k24 r_ u0 x u1)] (aZ x.paths 0 u5) fun u6=> .r<| .e (bif (k25 r_ u0 x u1)then u6 else false))
section
variable (x1:Int) (u0:(List Source)) (u1:(List Link)) (u2:(List aD))
abbrev k26:DV:=(CR [(.fn 139 1 (k18 x1 u0 u1 u2))] 0)
end
theorem AZ (x:aD) (x1:Int) (u0:(List Source)) (u1:(List Link)) (u2:(List aD)):fD Tryz.prog 138 [(.agg (k23 x)),(sD (k26 x1 u0 u1 u2))] [] (fun r=>(vB r)) (fun _=>[]) (rO x x1 u0 u1 u2):=
  gI tT mX Tryz.func138 (
  .rg {fr:=[(0,1)],fz:=[1]} []<| .cl 2 (EI x x1 u0 u1 u2) fun r_=> .r<| .e (!r_))
section
variable (s_:(List aD)) (f_:Int) (u0:(List Source)) (u1:(List Link)) (u2:(List aD)) (t8:Int)
abbrev k27:List SV:=[(sD (k5 s_)),(sD (.fn 138 1 (yY [(k26 f_ u0 u1 u2)])))]
abbrev k28:=((at' s_ t8.toNat).feeds)
end
theorem xZ (s_:(List aD)) (f_:Int) (u0:(List Source)) (u1:(List Link)) (u2:(List aD)):fD Tryz.prog 151 (k27 s_ f_ u0 u1 u2) [] (fun r=>(vI r)) (fun _=>[]) (mh s_ f_ u0 u1 u2):=
  gI tT mX Tryz.func151 (
  .r<| .r<| .lp (σ:=Int) (β:=Unit) (0) [] [] ⟨[0,1,7],[],fun t8=>[(8,(vI t8))],fun t8=>[]⟩ ⟨[],[],fun _=>[],fun _=>[]⟩
  (fun t8=> .r<| .it (.r<| .cl 5 (AZ (⟨(k28 s_ t8),(at' s_ t8.toNat).power,(at' s_ t8.toNat).paths⟩:aD) f_ u0 u1 u2) fun r_=> .a1 (k8 t8 s_)<| .rg {} [0,1]<| .it (.r<| .e (.done (.ret t8)))
  (.r<| .e (.next (k4 t8))))
  (.e (.done (.brk ()))))
  (fun _=> .r<| .e (-1)))
theorem uV (s_:(List aD)) (f_:Int) (u0:(List Source)) (u1:(List Link)) (u2:(List aD)):fD Tryz.prog 137 (k27 s_ f_ u0 u1 u2) [] (fun r=>(vB r)) (fun _=>[]) (gY s_ f_ u0 u1 u2):=
  gI tT mX Tryz.func137 (
  .r<| .cl 2 (xZ s_ f_ u0 u1 u2) fun r_=> .r<| .e (decide (0≤r_)))
theorem EN (l:(List aD)) (u0:Int) (u1:Int) (u2:(List Source)) (u3:(List Link)) (u4:(List aD)):fD Tryz.prog 113 [(sD (k5 l)),(sI u0),(sD (.fn 139 1 (k18 u1 u2 u3 u4)))] [] (fun r=>(vB r)) (fun _=>[]) (q8 l u0 u1 u2 u3 u4):=
  gI tT mX Tryz.func113 (
  .rg {fr:=[(0,1)],fz:=[1]} []<| .cg 7 [((decide ((l.length:Int)≤u0)),true)] (uV l u1 u2 u3 u4) fun r_=> .r<| .e (bif (decide ((l.length:Int)≤u0))then(!r_)else false))
theorem yK (p:ah):fD Tryz.prog 83 (k14 p) [] (fun r=>(vI r)) (fun _=>[]) (pM p):=
  gI tT mX Tryz.func83 (
  .rg {fr:=[(0,1)],fz:=[1]} []<| .cl 2 (aZ p.buses 1 24) fun r_=> .r<| .it (.r<| .e 10)
  (.cl 3 (EZ p) fun u0=> .cl 4 (Ho p.sources 8 u0.1 u0.2.1 u0.2.2.1 u0.2.2.2) fun u3=> .r<| .it (.r<| .e 11)
  (.cl 3 (Hf p) fun u1=> .cl 4 (ES p.links 40 u1.1 u1.2.1 u1.2.2.1 u1.2.2.2) fun u4=> .r<| .it (.r<| .e 12)
  (.cl 3 (GD p) fun u2=> .cl 4 (EN p.racks 24 u2.1 u2.2.1 u2.2.2.1 u2.2.2.2) fun u5=> .r<| .it (.r<| .e 13)
  (.r<| .e 0)))))
section
variable (p:ah) (s_:State) (u0:Int)
abbrev WQ:List SV:=[(.agg (k9 p)),(.agg (k11 s_))]
abbrev k30:=(⟨s_.closed,(p.links.length:Int)⟩:dh)
abbrev k31:=(⟨s_.locked,(p.links.length:Int)⟩:dh)
abbrev k32:=(⟨s_.badLink,(p.links.length:Int)⟩:dh)
abbrev k33:=(⟨s_.on_,(p.sources.length:Int)⟩:dh)
abbrev k34:=(⟨s_.badSource,(p.sources.length:Int)⟩:dh)
abbrev k35:=(au dh.cell [(k30 p s_),(k31 p s_),(k32 p s_),(k33 p s_),(k34 p s_),(⟨s_.earthed,p.buses⟩:dh),(⟨s_.badBus,p.buses⟩:dh)])
abbrev Qv:=((0:Int)≤u0∧u0<(p.links.length:Int))
abbrev k37:=((gB [((decide (((at' p.links u0.toNat).kind)=1)),true)]=true→(0:Int)≤u0∧u0<(s_.closed.length:Int)))
abbrev k38:=((gB [((!(at' s_.closed u0.toNat)),false),((decide (((at' p.links u0.toNat).kind)=1)),true)]=true→(0:Int)≤u0∧u0<(s_.locked.length:Int)))
end
theorem eT (p:ah) (s_:State):fD Tryz.prog 35 (WQ p s_) [] (fun r=>(vI r)) (fun _=>[]) (fA p s_):=
  gI tT mX Tryz.func35 (
  .rg {fr:=[(0,11),(1,12)]} []<| .cl 1 (yK p) fun r_=> .r<| .r<| .it (.r<| .e r_)
  (.r<| .rg {an:=[(30, .arr [(k30 p s_),(k31 p s_),(k32 p s_),(k33 p s_),(k34 p s_),(⟨s_.earthed,p.buses⟩:dh),(⟨s_.badBus,p.buses⟩:dh)].length (k35 p s_))],fr:=[(30,13)],fz:=[12]} [.pf ⟨[(k30 p s_),(k31 p s_),(k32 p s_),(k33 p s_),(k34 p s_),(⟨s_.earthed,p.buses⟩:dh),(⟨s_.badBus,p.buses⟩:dh)].length=7,rfl⟩, .pf ⟨aC 7 2 (ou 2 [(bM none 1 aj s_.closed),(.int .i64 (p.links.length:Int)),(bM none 1 aj s_.locked),(.int .i64 (p.links.length:Int)),(bM none 1 aj s_.badLink),(.int .i64 (p.links.length:Int)),(bM none 1 aj s_.on_),(.int .i64 (p.sources.length:Int)),(bM none 1 aj s_.badSource),(.int .i64 (p.sources.length:Int)),(bM none 1 aj s_.earthed),(.int .i64 p.buses),(bM none 1 aj s_.badBus),(.int .i64 p.buses)]) (k35 p s_),(by intro i hi j hj;match i,j,hi,hj with|0,0,_,_=>rfl|0,1,_,_=>rfl|1,0,_,_=>rfl|1,1,_,_=>rfl|2,0,_,_=>rfl|2,1,_,_=>rfl|3,0,_,_=>rfl|3,1,_,_=>rfl|4,0,_,_=>rfl|4,1,_,_=>rfl|5,0,_,_=>rfl|5,1,_,_=>rfl|6,0,_,_=>rfl|6,1,_,_=>rfl)⟩]<| .lp (σ:=Int) (β:=Unit) (0) [] [] ⟨[2,3,53,54],[11,13],fun u1=>[(55,(vI u1))],fun u1=>[]⟩ ⟨[2,3],[11],fun _=>[],fun _=>[]⟩
  (fun u1=> .r<| .it (.a1 ((0:Int)≤u1∧u1<([(k30 p s_),(k31 p s_),(k32 p s_),(k33 p s_),(k34 p s_),(⟨s_.earthed,p.buses⟩:dh),(⟨s_.badBus,p.buses⟩:dh)].length:Int))<| .rg {fr:=[(2,17)],fz:=[17]} [0, .t 0 u1 ([(k30 p s_),(k31 p s_),(k32 p s_),(k33 p s_),(k34 p s_),(⟨s_.earthed,p.buses⟩:dh),(⟨s_.badBus,p.buses⟩:dh)].length)]<| .r<| .it (.r<| .e (.done (.ret 9)))
  (.r<| .e (.next (k4 u1))))
  (.e (.done (.brk ()))))
  (fun _=> .r<| .lp (σ:=Int) (β:=Unit) (0) [] [] ⟨[3,67,68],[],fun u0=>[(69,(vI u0))],fun u0=>[]⟩ ⟨[],[],fun _=>[],fun _=>[]⟩
  (fun u0=> .r<| .it (.a1 (Qv p u0)<| .rg {fr:=[(3,21)],fz:=[21]} []<| .a2 (k37 p s_ u0) (k38 p s_ u0)<| .rg {} [0,1]<| .it (.r<| .e (.done (.ret 9)))
  (.r<| .e (.next (k4 u0))))
  (.e (.done (.brk ()))))
  (fun _=> .r<| .e 0))))
section
variable (p:ah) (s_:State) (k:Int)
abbrev k39:List SV:=[(.agg (k9 p)),(.agg (k11 s_)),(sI k)]
abbrev k40:=((gB [((bif (at' s_.on_ k.toNat)then(!(at' s_.badSource k.toNat))else false),true)]=true→(0:Int)≤k∧k<(p.sources.length:Int)))
abbrev k41:=((gB [((bif (at' s_.on_ k.toNat)then(!(at' s_.badSource k.toNat))else false),true)]=true→(0:Int)≤(at' p.sources k.toNat).bus∧(at' p.sources k.toNat).bus<(s_.badBus.length:Int)))
abbrev UH:=((at' p.sources k.toNat).bus)
abbrev k42:=(bif (bif (at' s_.on_ k.toNat)then(!(at' s_.badSource k.toNat))else false)then(!(at' s_.badBus ((UH p k).toNat)))else false)
end
theorem iK (p:ah) (s_:State) (k:Int):fD Tryz.prog 71 (k39 p s_ k) [] (fun r=>(vB r)) (fun _=>[]) (gZ p s_ k):=
  gI tT mX Tryz.func71 (
  .rg {fr:=[(0,2),(1,3)],fz:=[2,3]} []<| .a4 ((0:Int)≤k∧k<(s_.on_.length:Int)) ((gB [((at' s_.on_ k.toNat),true)]=true→(0:Int)≤k∧k<(s_.badSource.length:Int))) (k40 p s_ k) (k41 p s_ k)<| .rg {} [0,1,2,3]<| .e (k42 p s_ k))
section
variable (s_:State) (i:Int) (p:ah)
abbrev k44:=((gB [((at' s_.closed i.toNat),true)]=true→(0:Int)≤i∧i<(s_.badLink.length:Int)))
abbrev k45:=((gB [((bif (at' s_.closed i.toNat)then(!(at' s_.badLink i.toNat))else false),true)]=true→(0:Int)≤(at' p.links i.toNat).a∧(at' p.links i.toNat).a<(s_.badBus.length:Int)))
abbrev VE:=((at' p.links i.toNat).a)
abbrev k49:=((VE i p).toNat)
abbrev k48:=(bif (bif (at' s_.closed i.toNat)then(!(at' s_.badLink i.toNat))else false)then(!(at' s_.badBus (k49 i p)))else false)
abbrev k47:=((k48 s_ i p),true)
abbrev k46:=((gB [(k47 s_ i p)]=true→(0:Int)≤(at' p.links i.toNat).b∧(at' p.links i.toNat).b<(s_.badBus.length:Int)))
abbrev Xm:=((at' p.links i.toNat).b)
abbrev k52:=((Xm i p).toNat)
abbrev k51:=(bif (k48 s_ i p)then(!(at' s_.badBus (k52 i p)))else false)
end
theorem fq (p:ah) (s_:State) (i:Int):fD Tryz.prog 73 (k39 p s_ i) [] (fun r=>(vB r)) (fun _=>[]) (dI p s_ i):=
  gI tT mX Tryz.func73 (
  .rg {fr:=[(0,3),(1,4)],fz:=[4]} []<| .a1 (Qv p i)<| .rg {fr:=[(5,5)],fz:=[5]} []<| .a4 ((0:Int)≤i∧i<(s_.closed.length:Int)) (k44 s_ i) (k45 s_ i p) (k46 s_ i p)<| .rg {} [0,1,2,3]<| .e (k51 s_ i p))
theorem jR (s_:State) (b:Int):fD Tryz.prog 74 [(.agg (k11 s_)),(sI b)] [] (fun r=>(vB r)) (fun _=>[]) (iE s_ b):=
  gI tT mX Tryz.func74 (
  .rg {fr:=[(0,1)],fz:=[1]} []<| .a1 ((gB [((decide (0≤b)),true)]=true→(0:Int)≤b∧b<(s_.badBus.length:Int)))<| .r<| .e (bif (decide (0≤b))then(!(at' s_.badBus b.toNat))else false))
section
variable (u0:Network) (a:Int) (b:Int)
abbrev Zb:Ob:=(bZ 157 2 bg.cell u0.arcs)
abbrev k55:=((at' u0.from_ a.toNat)++[(u0.arcs.length:Int)])
abbrev k56:=(au (aG .i64) (k55 u0 a))
abbrev Y3:=(u0.from_.set a.toNat (k55 u0 a))
abbrev k57:=(xQ sM (Y3 u0 a))
abbrev Zq:=(at' (Y3 u0 a) b.toNat)
abbrev Zp:=(IntKind.wrap .i64 ((u0.arcs.length:Int)+1))
abbrev k59:=((Zq u0 a b).length+[(Zp u0)].length)
abbrev k62:=(au (aG .i64) [(Zp u0)])
abbrev k63:=((Zq u0 a b)++[(Zp u0)])
abbrev k64:=(au (aG .i64) (k63 u0 a b))
abbrev k66:=((Y3 u0 a).set b.toNat (k63 u0 a b))
abbrev k65:=(xQ sM (k66 u0 a b))
end
theorem bG (a:Int) (b:Int) (u1:Int) (u2:Int) (u0:Network):fD Tryz.prog 72 [(.one (.ptr 0 0)),(sI a),(sI b),(sI u1),(sI u2)] [(0,some (.cells 151 [(.own 1 false u0.arcs.length),(.own 2 true u0.from_.length)])),(1,some (Zb u0)),(2,some (.rows 35 1 u0.from_.length (xQ sM u0.from_) none))] (fun r=>(vI r.1)) (fun r=>[(0,some (.cells 151 [(.own 3 false r.2.arcs.length),(.own 2 true r.2.from_.length)])),(1,none),(2,some (.rows 35 1 r.2.from_.length (xQ sM r.2.from_) none)),(3,some (bZ 157 2 bg.cell r.2.arcs))]) (dW a b u1 u2 u0):=
  gI tT mX Tryz.func72 (
  .r<| .r<| .a2 ((u0.arcs.length+[(⟨b,u1⟩:bg),(⟨a,u2⟩:bg)].length)*16≤140737488355328) (u0.arcs.length+[(⟨b,u1⟩:bg),(⟨a,u2⟩:bg)].length≤4611686018427387904)<| .rg {an:=[(11, .arr [(⟨b,u1⟩:bg),(⟨a,u2⟩:bg)].length (au bg.cell [(⟨b,u1⟩:bg),(⟨a,u2⟩:bg)])),(12, .arr (u0.arcs++[(⟨b,u1⟩:bg),(⟨a,u2⟩:bg)]).length (au bg.cell (u0.arcs++[(⟨b,u1⟩:bg),(⟨a,u2⟩:bg)])))],fr:=[(11,11),(12,12)]} [.pf ⟨[(⟨b,u1⟩:bg),(⟨a,u2⟩:bg)].length=2,rfl⟩, .pf ⟨aC 2 2 (ou 2 [(.int .i64 b),(.int .i64 u1),(.int .i64 a),(.int .i64 u2)]) (au bg.cell [(⟨b,u1⟩:bg),(⟨a,u2⟩:bg)]),(by intro i hi j hj;match i,j,hi,hj with|0,0,_,_=>rfl|0,1,_,_=>rfl|1,0,_,_=>rfl|1,1,_,_=>rfl)⟩, .e (u0.arcs.length),0,1, .pf ⟨(u0.arcs++[(⟨b,u1⟩:bg),(⟨a,u2⟩:bg)]).length=u0.arcs.length+[(⟨b,u1⟩:bg),(⟨a,u2⟩:bg)].length,List.length_append⟩, .pf ⟨aC (u0.arcs.length+[(⟨b,u1⟩:bg),(⟨a,u2⟩:bg)].length) 2 (sV (au bg.cell u0.arcs) u0.arcs.length (au bg.cell [(⟨b,u1⟩:bg),(⟨a,u2⟩:bg)])) (au bg.cell (u0.arcs++[(⟨b,u1⟩:bg),(⟨a,u2⟩:bg)])),dw _ _ _ _⟩]<| .a3 ((0:Int)≤a∧a<(u0.from_.length:Int)) (((at' u0.from_ a.toNat).length+[(u0.arcs.length:Int)].length)*8≤140737488355328) ((at' u0.from_ a.toNat).length+[(u0.arcs.length:Int)].length≤4611686018427387904)<| .rg {an:=[(11, .take 13),(13, .arr [(u0.arcs.length:Int)].length (au (aG .i64) [(u0.arcs.length:Int)])),(14, .arr (k55 u0 a).length (k56 u0 a)),(16, .rows 0 (k57 u0 a))],fr:=[(13,14),(14,15)]} [0, .t 0 a u0.from_.length, .pf ⟨[(u0.arcs.length:Int)].length=1,rfl⟩, .pf ⟨aC 1 1 (ou 1 [(.int .i64 (u0.arcs.length:Int))]) (au (aG .i64) [(u0.arcs.length:Int)]),(by intro i hi j hj;match i,j,hi,hj with|0,0,_,_=>rfl)⟩, .e ((at' u0.from_ a.toNat).length),1,2, .pf ⟨(k55 u0 a).length=(at' u0.from_ a.toNat).length+[(u0.arcs.length:Int)].length,List.length_append⟩, .pf ⟨aC ((at' u0.from_ a.toNat).length+[(u0.arcs.length:Int)].length) 1 (sV (au (aG .i64) (at' u0.from_ a.toNat)) (at' u0.from_ a.toNat).length (au (aG .i64) [(u0.arcs.length:Int)])) (k56 u0 a),dw _ _ _ _⟩,0, .t 0 a u0.from_.length, .e ((k55 u0 a).length), .pf ⟨XJ u0.from_.length 1 (Z9 (xQ sM u0.from_) a.toNat 0 (.row 3 1 (k55 u0 a).length (k56 u0 a))) (k57 u0 a),NE _ _ _ _ _ _ _ _ rfl (fun j hj=>(match j,hj with|0,_=>rfl))⟩, .pf ⟨∀i0 j0 c0,((some (a.toNat,0,CV.own 13 false (at' u0.from_ a.toNat).length)):Option (Nat × Nat × CV))=some (i0,j0,c0)→i0=a.toNat∧j0=0,(fun i0 j0 c0 e=>by cases e;exact⟨rfl,rfl⟩)⟩]<| .im (.ll 2 u0.from_ (Y3 u0 a))<| .a3 ((0:Int)≤b∧b<((Y3 u0 a).length:Int)) ((k59 u0 a b)*8≤140737488355328) ((Zq u0 a b).length+[(Zp u0)].length≤4611686018427387904)<| .rg {an:=[(11, .take 16),(14, .arr [(Zp u0)].length (k62 u0)),(15, .arr (k63 u0 a b).length (k64 u0 a b)),(17, .rows 0 (k65 u0 a b))],fr:=[(14,17),(15,18)]} [0, .t 0 b ((Y3 u0 a).length), .pf ⟨[(Zp u0)].length=1,rfl⟩, .pf ⟨aC 1 1 (ou 1 [(.int .i64 (Zp u0))]) (k62 u0),(by intro i hi j hj;match i,j,hi,hj with|0,0,_,_=>rfl)⟩, .e ((Zq u0 a b).length),1,2, .pf ⟨(k63 u0 a b).length=(Zq u0 a b).length+[(Zp u0)].length,List.length_append⟩, .pf ⟨aC (k59 u0 a b) 1 (sV (au (aG .i64) (Zq u0 a b)) (Zq u0 a b).length (k62 u0)) (k64 u0 a b),dw _ _ _ _⟩,0, .t 0 b ((Y3 u0 a).length), .e ((k63 u0 a b).length), .pf ⟨XJ (Y3 u0 a).length 1 (Z9 (k57 u0 a) b.toNat 0 (.row 3 1 (k63 u0 a b).length (k64 u0 a b))) (k65 u0 a b),NE _ _ _ _ _ _ _ _ rfl (fun j hj=>(match j,hj with|0,_=>rfl))⟩, .pf ⟨∀i0 j0 c0,((some (b.toNat,0,CV.own 16 false (Zq u0 a b).length)):Option (Nat × Nat × CV))=some (i0,j0,c0)→i0=b.toNat∧j0=0,(fun i0 j0 c0 e=>by cases e;exact⟨rfl,rfl⟩)⟩]<| .im (.ll 2 (Y3 u0 a) (k66 u0 a b))<| .r<| .en ((u0.arcs.length:Int),(⟨(u0.arcs++[(⟨b,u1⟩:bg),(⟨a,u2⟩:bg)]),(k66 u0 a b)⟩:Network)) [] [(12,3)])
section
variable (u0:Network)
abbrev Xo:DV:=(bM none 1 (UO 1 (aG .i64)) u0.from_)
abbrev k68:Nat × Option Ob:=(0,some (.cells 151 [(.own 1 false u0.arcs.length),(.d (Xo u0))]))
abbrev k67:List (Nat × Option Ob):=[(k68 u0),(1,some (Zb u0))]
end
theorem gF (u0:Network):fD Tryz.prog 76 [(.one (.ptr 0 0))] (k67 u0) (fun _=>(.v (.one (.fn 103 0 1 (Mv [(.ptr 2 0)]))))) (fun _=>[(k68 u0),(1,some (Zb u0)),(2,some (.cells 147 [(.ptr 0 0)]))]) (fM u0):=
  gI tT mX Tryz.func76 (
  .rg {fr:=[(0,3)]} []<| .r<| .en () [] [(3,2)])
noncomputable def dA:iG:=⟨[19,20],NM ([1,0,1,0,0,0,1,0,1,0]++[0]) (sW Tryz.f75),NM ([1,0,1,0,0,0,1,0,1,0]++[1]) (sW Tryz.f75),114,[.exit 1]⟩
section
variable (o_:(List Int)) (u0:Int) (u5:Int) (u1:Int) (u3:(List bg)) (u6:Network) (u2:Int) (u4:Int)
abbrev Fw:Ob:=(bZ 3 1 (aG .i64) o_)
abbrev Nz:=((0:Int)≤u0∧u0<(o_.length:Int))
abbrev ZL:=((0:Int)≤u5∧u5<((o_.set u0.toNat u1).length:Int))
abbrev RO:=(at' (o_.set u0.toNat u1) u5.toNat)
abbrev Vs:=(IntKind.wrap .i64 (((BitVec.ofInt (IntKind.bits .i64) (RO o_ u0 u5 u1) ^^^ BitVec.ofInt (IntKind.bits .i64) 1).toNat:Int)))
abbrev k75:=((Vs o_ u0 u5 u1).toNat)
abbrev k76:List (Nat × Option Ob):=[(4,some (.cells 151 [(.own 6 false u3.length),(.d (Xo u6))])),(6,some (bZ 157 2 bg.cell u3))]
abbrev Zl:=(u3.set ((RO o_ u0 u2 u1).toNat) (⟨(at' u3 ((RO o_ u0 u2 u1).toNat)).to_,(IntKind.wrap .i64 (((at' u3 ((RO o_ u0 u2 u1).toNat)).left) - u4))⟩:bg))
abbrev k77:=(au bg.cell (Zl o_ u0 u1 u3 u2 u4))
abbrev k81:=(at' (Zl o_ u0 u1 u3 u2 u4) (k75 o_ u0 u2 u1))
abbrev k82:=(IntKind.wrap .i64 (((k81 o_ u0 u1 u3 u2 u4).left)+u4))
abbrev k80:=((Zl o_ u0 u1 u3 u2 u4).set (k75 o_ u0 u2 u1) (⟨(k81 o_ u0 u1 u3 u2 u4).to_,(k82 o_ u0 u1 u3 u2 u4)⟩:bg))
abbrev k79:=(au bg.cell (k80 o_ u0 u1 u3 u2 u4))
abbrev k83:=((Zl o_ u0 u1 u3 u2 u4).length)
end
theorem vo (u0:Int) (u1:Int) (u7:Int) (o_:(List Int)) (u6:Network):X8 Tryz.prog 0 [(sI u0),(sI u1)] [(0,some (.loop dA 0 [(2,(vP 1 0)),(3,(vP 2 0)),(4,(vP 3 0))])),(1,some (.cells 147 [(.ptr 4 0)])),(2,some (.cells 3 [(cI u7)])),(3,some (.cells 35 [(.own 5 true o_.length)])),(4,some (.cells 151 [(.own 6 false u6.arcs.length),(.d (Xo u6))])),(5,some (Fw o_)),(6,some (Zb u6))] (fun r=>vB (Nat.beq r.1 0)) (fun r=>[(0,some (.loop dA r.1 [(2,(vP 1 0)),(3,(vP 2 0)),(4,(vP 3 0))])),(1,some (.cells 147 [(.ptr 4 0)])),(2,some (.cells 3 [(cI u7)])),(3,some (.cells 35 [(.own 5 true r.2.1.length)])),(4,some (.cells 151 [(.own 6 false r.2.2.arcs.length),(.d (bM none 1 (UO 1 (aG .i64)) r.2.2.from_))])),(5,some (bZ 3 1 (aG .i64) r.2.1)),(6,some (bZ 157 2 bg.cell r.2.2.arcs))]) (dL u0 u1 u7 o_ u6):=
  scY tT mX dA ⟨[2,3,4],[0,1,2,3,4,5,6],fun _=>[(5,(vI u0)),(6,(vI u1))],fun _=>[]⟩ (.r<| .r<| .e ())
  (.a1 (Nz o_ u0)<| .rg {an:=[(4, .arr 0 (au (aG .i64) (o_.set u0.toNat u1)))]} [0, .t 0 u0 o_.length, .pf ⟨aC o_.length 1 (fe (au (aG .i64) o_) u0.toNat 0 [(.int .i64 u1)]) (au (aG .i64) (o_.set u0.toNat u1)),aK _ _ _ _ _ _ _ _ rfl (fun j hj=>(match j,hj with|0,_=>rfl))⟩]<| .im (.ll 5 o_ (o_.set u0.toNat u1))<| .r<| .it (.e (0,(o_.set u0.toNat u1),u6))
(.r<| .r<| .lp (σ:=(Int × Int)) (β:=Int) ((-1),u7) [] [] ⟨[2,3,4],[0,1,2,3,4,5,6],fun(u8,u5)=>[(7,(vI u8)),(8,(vI u5))],fun(u8,u5)=>[]⟩ ⟨[2,3,4],[0,1,2,3,4,5,6],fun u4=>[(7,(vI u4))],fun u4=>[]⟩
(fun(u8,u5)=> .a1 (ZL o_ u0 u5 u1)<| .rg {} [0, .t 0 u5 ((o_.set u0.toNat u1).length)]<| .it (.jN (β:=Int) 2 ⟨[2,3,4,8],[0,1,2,3,4,5,6],fun v0=>[(7,(vI v0))],fun v0=>[]⟩ (.a2 (ZL o_ u0 u5 u1) ((0:Int)≤(RO o_ u0 u5 u1)∧(RO o_ u0 u5 u1)<(u6.arcs.length:Int))<| .rg {} [0, .t 0 u5 ((o_.set u0.toNat u1).length),1, .t 1 (RO o_ u0 u5 u1) u6.arcs.length]<| .r<| .it (.r<| .e ((at' u6.arcs ((RO o_ u0 u5 u1).toNat)).left))
(.e u8))
(fun v0=> .a2 (ZL o_ u0 u5 u1) ((0:Int)≤(Vs o_ u0 u5 u1)∧(Vs o_ u0 u5 u1)<(u6.arcs.length:Int))<| .rg {} [0, .t 0 u5 ((o_.set u0.toNat u1).length),1, .t 1 (Vs o_ u0 u5 u1) u6.arcs.length]<| .e (.next (v0,(at' u6.arcs (k75 o_ u0 u5 u1)).to_))))
(.e (.done (.brk u8))))
(fun u4=> .r<| .lp (σ:=((List bg) × Int)) (β:=(List bg)) (u6.arcs,u7) [] [] ⟨[2,4,7],[0,1,2,3,5],fun(u3,u2)=>[(10,(vI u2))],fun(u3,u2)=>(k76 u3 u6)⟩ ⟨[],[0,1,2,3,5],fun u9=>[],fun u9=>(k76 u9 u6)⟩
(fun(u3,u2)=> .a1 (ZL o_ u0 u2 u1)<| .rg {} [0, .t 0 u2 ((o_.set u0.toNat u1).length)]<| .it (.a2 (ZL o_ u0 u2 u1) ((0:Int)≤(RO o_ u0 u2 u1)∧(RO o_ u0 u2 u1)<(u3.length:Int))<| .rg {an:=[(15, .arr 0 (k77 o_ u0 u1 u3 u2 u4))]} [0, .t 0 u2 ((o_.set u0.toNat u1).length),1, .t 1 (RO o_ u0 u2 u1) u3.length,1, .t 1 (RO o_ u0 u2 u1) u3.length, .pf ⟨aC u3.length 2 (fe (au bg.cell u3) ((RO o_ u0 u2 u1).toNat) 1 [(.int .i64 (IntKind.wrap .i64 (((at' u3 ((RO o_ u0 u2 u1).toNat)).left) - u4)))]) (k77 o_ u0 u1 u3 u2 u4),aK _ _ _ _ _ _ _ _ rfl (fun j hj=>(match j,hj with|0,_=>rfl|1,_=>rfl))⟩]<| .im (.ll 6 u3 (Zl o_ u0 u1 u3 u2 u4))<| .a2 (ZL o_ u0 u2 u1) ((0:Int)≤(Vs o_ u0 u2 u1)∧(Vs o_ u0 u2 u1)<((Zl o_ u0 u1 u3 u2 u4).length:Int))<| .rg {an:=[(16, .arr 0 (k79 o_ u0 u1 u3 u2 u4))]} [0, .t 0 u2 ((o_.set u0.toNat u1).length),1, .t 1 (Vs o_ u0 u2 u1) (k83 o_ u0 u1 u3 u2 u4),1, .t 1 (Vs o_ u0 u2 u1) (k83 o_ u0 u1 u3 u2 u4), .pf ⟨aC (Zl o_ u0 u1 u3 u2 u4).length 2 (fe (k77 o_ u0 u1 u3 u2 u4) (k75 o_ u0 u2 u1) 1 [(.int .i64 (k82 o_ u0 u1 u3 u2 u4))]) (k79 o_ u0 u1 u3 u2 u4),aK _ _ _ _ _ _ _ _ rfl (fun j hj=>(match j,hj with|0,_=>rfl|1,_=>rfl))⟩]<| .im (.ll 6 (Zl o_ u0 u1 u3 u2 u4) (k80 o_ u0 u1 u3 u2 u4))<| .a2 (ZL o_ u0 u2 u1) ((0:Int)≤(Vs o_ u0 u2 u1)∧(Vs o_ u0 u2 u1)<((k80 o_ u0 u1 u3 u2 u4).length:Int))<| .rg {} [0, .t 0 u2 ((o_.set u0.toNat u1).length),1, .t 1 (Vs o_ u0 u2 u1) ((k80 o_ u0 u1 u3 u2 u4).length)]<| .e (.next ((k80 o_ u0 u1 u3 u2 u4),(at' (k80 o_ u0 u1 u3 u2 u4) (k75 o_ u0 u2 u1)).to_)))
(.e (.done (.brk u3))))
(fun u9=> .e (2,(o_.set u0.toNat u1),(⟨u9,u6.from_⟩:Network))))))
section
variable (o_:bB)
abbrev k84:List (Nat × Option Ob):=[(0,some (.cells 190 [(.own 1 false o_.l.length)])),(1,some (bZ 69 2 af.cell o_.l))]
end
theorem uQ (x:af) (o_:bB):fD Tryz.prog 104 [(.one (.ptr 0 0)),(.agg [(cI x.e0),(cI x.e1)])] (k84 o_) (fun r=>(.iP [])) (fun r=>[(0,some (.cells 190 [(.own 2 false r.l.length)])),(1,none),(2,some (bZ 69 2 af.cell r.l))]) (kU x o_):=
  gI tT mX Tryz.func104 (
  .rg {fr:=[(0,5)],fz:=[5]} []<| .a2 ((o_.l.length+[x].length)*16≤140737488355328) (o_.l.length+[x].length≤4611686018427387904)<| .rg {an:=[(6, .arr [x].length (au af.cell [x])),(7, .arr (o_.l++[x]).length (au af.cell (o_.l++[x])))],fr:=[(6,6),(7,7)]} [.pf ⟨[x].length=1,rfl⟩, .pf ⟨aC 1 2 (ou 2 [(.int .i64 x.e0),(.int .i64 x.e1)]) (au af.cell [x]),(by intro i hi j hj;match i,j,hi,hj with|0,0,_,_=>rfl|0,1,_,_=>rfl)⟩, .e (o_.l.length),0,1, .pf ⟨(o_.l++[x]).length=o_.l.length+[x].length,List.length_append⟩, .pf ⟨aC (o_.l.length+[x].length) 2 (sV (au af.cell o_.l) o_.l.length (au af.cell [x])) (au af.cell (o_.l++[x])),dw _ _ _ _⟩]<| .en (⟨(o_.l++[x])⟩:bB) [] [(7,2)])
theorem uE (o_:bB):fD Tryz.prog 105 [(.one (.ptr 0 0))] (k84 o_) (fun r=>(.iP [(.agg [(cI r.1.e0),(cI r.1.e1)]),(sB r.2.1)])) (fun r=>[(0,some (.cells 190 [(.own 2 false r.2.2.l.length)])),(1,none),(2,some (bZ 69 2 af.cell r.2.2.l))]) (jS o_):=
  gI tT mX Tryz.func105 (
  .rg {fr:=[(0,4)]} []<| .r<| .it (.rg {fz:=[4]} []<| .im (.re 0 0 1 5)<| .en ((⟨0,0⟩:af),false,o_) [] [(5,2)])
  (.a2 ((0:Int)≤0∧0<(o_.l.length:Int)) ((0:Int)≤(1:Int)∧(1:Int)≤(o_.l.length:Int))<| .rg {an:=[(11, .cells)],fr:=[(11,6)]} [0, .t 0 0 o_.l.length, .e (o_.l.length),1]<| .un 1 6 69 2 af.cell o_.l (1:Int) 1<| .im (.ln 6 (o_.l.length - 1) ((o_.l.drop 1).length) (by simp only [List.length_set,List.length_append,List.length_cons,List.length_nil,List.length_replicate,List.length_drop]))<| .rg {fz:=[4]} []<| .en ((at' o_.l 0),true,(⟨(o_.l.drop 1)⟩:bB)) [] [(6,2)]))
section
variable (u1:Network) (u7:(List (List Int))) (q0:(List af)) (r_:(Nat × (List Int) × Network)) (u4:Int) (u6:(List Int)) (u5:(List bg)) (u3:(List Bool)) (u9:(List af)) (u0:Int) (u2:Int)
abbrev k86:List (Nat × TV):=[(2,(vP 2 0)),(3,(vP 3 0)),(4,(vP 4 0))]
abbrev k85:Nat × Option Ob:=(0,some (.loop dA 0 k86))
abbrev k87:Nat × Option Ob:=(2,some (.cells 147 [(.ptr 5 0)]))
abbrev Zm:=(List.replicate ((u1.from_.length:Int).toNat) (false:Bool))
abbrev k89:=(au aj (Zm u1))
abbrev k90:=((Zm u1).set 0 true)
abbrev k91:DV:=(bM none 1 (UO 1 (aG .i64)) u7)
abbrev WW:Ob:=(bZ 69 2 af.cell q0)
abbrev k94:Nat × Option Ob:=(5,some (.cells 151 [(.own 7 false r_.2.2.arcs.length),(.d (bM none 1 (UO 1 (aG .i64)) r_.2.2.from_))]))
abbrev k93:List (Nat × Option Ob):=[k85,k87,(3,some (.cells 3 [(cI u4)])),(4,some (.cells 35 [(.own 6 true r_.2.1.length)])),(k94 r_),(6,some (bZ 3 1 (aG .i64) r_.2.1)),(7,some (bZ 157 2 bg.cell r_.2.2.arcs))]
abbrev k95:List (Nat × Option Ob):=[k85,k87,(3,some (.cells 3 [(cI u4)])),(4,some (.cells 35 [(.own 6 true u6.length)])),(5,some (.cells 151 [(.own 7 false u5.length),(.d (k91 u7))])),(6,some (Fw u6)),(7,some (bZ 157 2 bg.cell u5))]
abbrev k96:List (Nat × Option Ob):=[(0,some (.loop dA r_.1 k86)),k87,(3,some (.cells 3 [(cI u4)])),(4,some (.cells 35 [(.own 6 true r_.2.1.length)])),(k94 r_),(6,some (bZ 3 1 (aG .i64) r_.2.1)),(7,some (bZ 157 2 bg.cell r_.2.2.arcs))]
abbrev k97:List (Nat × Option Ob):=[(12,some (bZ 4 1 aj u3)),(13,some (.cells 190 [(.own 14 false u9.length)])),(14,some (WW u9))]
abbrev k98:=(at' (at' r_.2.2.from_ u0.toNat) u2.toNat)
abbrev Zh:=(at' r_.2.2.arcs ((k98 r_ u0 u2).toNat))
abbrev Yj:=((Zh r_ u0 u2).to_)
abbrev aa6:=(u3.set ((Yj r_ u0 u2).toNat) true)
abbrev acL:=(au aj (aa6 r_ u3 u0 u2))
end
theorem ve (u4:Int) (o_:(List Int)) (u1:Network):fD Tryz.prog 103 [(.one (.yl 0)),(.one (.ptr 1 0))] [k85,(1,some (.cells 147 [(.ptr 5 0)])),k87,(3,some (.cells 3 [(cI u4)])),(4,some (.cells 35 [(.own 6 true o_.length)])),(5,some (.cells 151 [(.own 7 false u1.arcs.length),(.d (Xo u1))])),(6,some (Fw o_)),(7,some (Zb u1))] (fun r=>(.iP [])) (fun r=>[(0,some (.loop dA r.1 k86)),(1,some (.cells 147 [(.ptr 5 0)])),k87,(3,some (.cells 3 [(cI u4)])),(4,some (.cells 35 [(.own 6 true r.2.1.length)])),(5,some (.cells 151 [(.own 7 false r.2.2.arcs.length),(.d (bM none 1 (UO 1 (aG .i64)) r.2.2.from_))])),(6,some (bZ 3 1 (aG .i64) r.2.1)),(7,some (bZ 157 2 bg.cell r.2.2.arcs))]) (ig u4 o_ u1):=
  gI tT mX Tryz.func103 (
  .a3 ((0:Int)≤(u1.from_.length:Int)) ((1:Int)*(u1.from_.length:Int)≤281474976710656) (((u1.from_.length:Int):Int)≤9223372036854775807)<| .rg {an:=[(5, .arr (Zm u1).length (k89 u1))],fr:=[(5,12)]} [0, .e (((u1.from_.length:Int):Int)),1,2, .pf ⟨(Zm u1).length=((u1.from_.length:Int).toNat),List.length_replicate⟩, .pf ⟨aC ((u1.from_.length:Int).toNat) 1 (fun _ j=>[(.bool false)].getD j .nilp) (k89 u1),aW _ _ _ _ _ (fun j hj=>(match j,hj with|0,_=>rfl))⟩]<| .a1 ((0:Int)≤0∧0<((Zm u1).length:Int))<| .rg {an:=[(2, .arr 0 (au aj (k90 u1)))]} [0, .t 0 0 ((Zm u1).length), .pf ⟨aC (Zm u1).length 1 (fe (k89 u1) 0 0 [(.bool true)]) (au aj (k90 u1)),aK _ _ _ _ _ _ _ _ rfl (fun j hj=>(match j,hj with|0,_=>rfl))⟩]<| .im (.ll 12 (Zm u1) (k90 u1))<| .rg {fr:=[(0,13)]} []<| .im (.P5 13 0 14 69 2 (au af.cell ([]:List af)))<| .rg {fr:=[(1,15)]} []<| .lp (σ:=((List bg) × (List (List Int)) × (List Int) × (List Bool) × (List af) × Int × Int)) (β:=Unit) (u1.arcs,u1.from_,o_,(k90 u1),([]:List af),0,(-1)) [] [] ⟨[0,1,4,5],[0,1,2,3],fun(u5,u7,u6,v0,q0,u0,u8)=>[(3,(vO 12 true v0.length))],fun(u5,u7,u6,v0,q0,u0,u8)=>[(4,some (.cells 35 [(.own 6 true u6.length)])),(5,some (.cells 151 [(.own 7 false u5.length),(.d (k91 u7))])),(6,some (Fw u6)),(7,some (bZ 157 2 bg.cell u5)),(12,some (bZ 4 1 aj v0)),(13,some (.cells 190 [(.own 14 false q0.length)])),(14,some (WW q0)),(15,some (.cells 69 [(cI u0),(cI u8)]))]⟩ ⟨[],[],fun _=>[],fun _=>[]⟩
  (fun(u5,u7,u6,v0,q0,u0,u8)=> .cy 5 (rkY [(1,2),(1,3),(1,4),(1,5),(1,6),(1,7)] (vo u0 u8 u4 u6 (⟨u5,u7⟩:Network))) fun r_=> .fk (Nat.beq r_.1 0) (.rg {an:=[(5, .call [0,2,3,4,5,6,7] (vB true) (k93 r_ u4))]} [.pf ⟨(0:Int)≤0∧(0:Int)<(2:Nat),(by decide)⟩, .pf ⟨(0:Int)≤1∧(1:Int)<(2:Nat),(by decide)⟩, .m [1,0] [Yl Tryz.prog 0 [(sI u0),(sI u8)] (k95 u7 u4 u6 u5) (vB (Nat.beq r_.1 0)) (k96 r_ u4),(Nat.beq r_.1 0)=true] (Yl Tryz.prog 0 [(sI u0),(sI u8)] (k95 u7 u4 u6 u5) (vB true) (k93 r_ u4)) (fun⟨hy,hb,_⟩=>Yl.leR hy (zu.of (congrArg vB hb)) ⟨rfl,Ny.of (congrArg (fun n=>some (Ob.loop dA n k86)) (Nat.eq_of_beq_eq_true hb)),⟨rfl, .refl _,⟨rfl, .refl _,⟨rfl, .refl _,⟨rfl, .refl _,⟨rfl, .refl _,⟨rfl, .refl _,trivial⟩⟩⟩⟩⟩⟩⟩)]<| .f<| .a1 ((0:Int)≤u0∧u0<(r_.2.2.from_.length:Int))<| .rg {} [.pf ⟨(0:Int)≤0∧(0:Int)<(2:Nat),(by decide)⟩,0]<| .lp (σ:=((List Bool) × (List af) × Int)) (β:=((List Bool) × (List af))) (v0,q0,0) [] [] ⟨[0,1,4,5,34,35],[0,1,2,3,4,5,6,7,15],fun(u3,u9,u2)=>[(3,(vO 12 true u3.length)),(36,(vI u2))],fun(u3,u9,u2)=>(k97 u3 u9)⟩ ⟨[0,1,4,5],[0,1,2,3,4,5,6,7,15],fun(v1,v2)=>[(3,(vO 12 true v1.length))],fun(v1,v2)=>(k97 v1 v2)⟩
  (fun(u3,u9,u2)=> .r<| .it (.a1 ((0:Int)≤u2∧u2<((at' r_.2.2.from_ u0.toNat).length:Int))<| .r<| .a1 ((0:Int)≤(k98 r_ u0 u2)∧(k98 r_ u0 u2)<(r_.2.2.arcs.length:Int))<| .rg {fr:=[(7,22)]} [0, .t 0 (k98 r_ u0 u2) r_.2.2.arcs.length]<| .a1 ((gB [((decide (0<((Zh r_ u0 u2).left))),true)]=true→(0:Int)≤(Zh r_ u0 u2).to_∧(Zh r_ u0 u2).to_<(u3.length:Int)))<| .rg {} [0, .tg 0 [((decide (0<((Zh r_ u0 u2).left))),true)] (Yj r_ u0 u2) u3.length]<| .it (.a1 ((0:Int)≤(Zh r_ u0 u2).to_∧(Zh r_ u0 u2).to_<(u3.length:Int))<| .rg {an:=[(4, .arr 0 (acL r_ u3 u0 u2))],fz:=[22]} [0, .t 0 (Yj r_ u0 u2) u3.length, .pf ⟨aC u3.length 1 (fe (au aj u3) ((Yj r_ u0 u2).toNat) 0 [(.bool true)]) (acL r_ u3 u0 u2),aK _ _ _ _ _ _ _ _ rfl (fun j hj=>(match j,hj with|0,_=>rfl))⟩]<| .im (.ll 12 u3 (aa6 r_ u3 u0 u2))<| .cl 4 (BB [(0,13),(1,14),(2,23)] (uQ (⟨(Zh r_ u0 u2).to_,(k98 r_ u0 u2)⟩:af) (⟨u9⟩:bB))) fun v4=> .r<| .r<| .en (.next ((aa6 r_ u3 u0 u2),v4.l,(k4 u2))) [] [(23,14)])
  (.r<| .e (.next (u3,u9,(k4 u2)))))
  (.e (.done (.brk (u3,u9)))))
  (fun(v1,v2)=> .cl 0 (BB [(0,13),(1,14),(2,24)] (uE (⟨v2⟩:bB))) fun v3=> .rg {fr:=[(4,25)]} []<| .r<| .it (.e (.done (.ret (0,r_.2.1,r_.2.2))))
  (.r<| .r<| .rg {fr:=[(0,26)]} []<| .en (.next (r_.2.2.arcs,r_.2.2.from_,r_.2.1,v1,v3.2.2.l,v3.1.e0,v3.1.e1)) [] [(24,14),(26,15)])))
  (.rg {an:=[(5, .call [0,2,3,4,5,6,7] (vB false) (k96 r_ u4))]} [.pf ⟨(0:Int)≤0∧(0:Int)<(2:Nat),(by decide)⟩, .pf ⟨(0:Int)≤1∧(1:Int)<(2:Nat),(by decide)⟩, .m [1,0] [Yl Tryz.prog 0 [(sI u0),(sI u8)] (k95 u7 u4 u6 u5) (vB (Nat.beq r_.1 0)) (k96 r_ u4),(Nat.beq r_.1 0)=false] (Yl Tryz.prog 0 [(sI u0),(sI u8)] (k95 u7 u4 u6 u5) (vB false) (k96 r_ u4)) (fun⟨hy,hb,_⟩=>Yl.leR hy (zu.of (congrArg vB hb)) ⟨rfl, .refl _,⟨rfl, .refl _,⟨rfl, .refl _,⟨rfl, .refl _,⟨rfl, .refl _,⟨rfl, .refl _,⟨rfl, .refl _,trivial⟩⟩⟩⟩⟩⟩⟩)]<| .t<| .e (.done (.ret (r_.1,r_.2.1,r_.2.2)))))
  (fun _=> .no))
section
variable (o1:(List (List Int)))
abbrev UL:=(List.replicate ((o1.length:Int).toNat) (0:Int))
end
theorem lu (u2:Int) (u0:Network):fD Tryz.prog 75 [(.one (.ptr 0 0)),(sI u2)] (k67 u0) (fun r=>(.iP [])) (fun r=>[(0,some (.cells 151 [(.own 1 false r.arcs.length),(.d (bM none 1 (UO 1 (aG .i64)) r.from_))])),(1,some (bZ 157 2 bg.cell r.arcs))]) (kK u2 u0):=
  gI tT mX Tryz.func75 (
  .rg {fr:=[(0,20),(1,21)]} []<| .ss<| .lp (σ:=((List bg) × (List (List Int)))) (β:=Unit) (u0.arcs,u0.from_) [] [] ⟨[2,3],[20,21],fun(o0,o1)=>[],fun(o0,o1)=>[(0,some (.cells 151 [(.own 1 false o0.length),(.d (k91 o1))])),(1,some (bZ 157 2 bg.cell o0))]⟩ ⟨[],[],fun _=>[],fun _=>[]⟩
  (fun(o0,o1)=> .a3 ((0:Int)≤(o1.length:Int)) ((8:Int)*(o1.length:Int)≤281474976710656) (((o1.length:Int):Int)≤9223372036854775807)<| .rg {an:=[(5, .arr (UL o1).length (au (aG .i64) (UL o1)))],fr:=[(5,34),(6,35)]} [0, .e (((o1.length:Int):Int)),1,2, .pf ⟨(UL o1).length=((o1.length:Int).toNat),List.length_replicate⟩, .pf ⟨aC ((o1.length:Int).toNat) 1 (fun _ j=>[(.int .i64 0)].getD j .nilp) (au (aG .i64) (UL o1)),aW _ _ _ _ _ (fun j hj=>(match j,hj with|0,_=>rfl))⟩]<| .cl 1 (BB [(2,36)] (gF (⟨o0,o1⟩:Network))) fun r_=> .r<| .cl 0 (BB [(0,37),(1,36),(2,20),(3,21),(4,35),(5,0),(6,34),(7,1)] (ve u2 (UL o1) (⟨o0,o1⟩:Network))) fun u1=> .fk (Nat.beq u1.1 0) (.rf 37 [2,3,4] [.exit 1] none 1 [0]<| .e (.done (.ret u1.2.2)))
  (.a1 (u1.1=2)<| .rf 37 [2,3,4] [.exit 1] (some 0) 2 [.oe 0 u1.1 2]<| .e (.next (u1.2.2.arcs,u1.2.2.from_))))
  (fun _=> .no))
noncomputable def dF:iG:=⟨[236,237],NM ([1,1,1,1,1,1,1,1,1,1,1,1,1,1,0,1,0]++[0]) (sW Tryz.f27),NM ([1,1,1,1,1,1,1,1,1,1,1,1,1,1,0,1,0]++[1]) (sW Tryz.f27),252,[]⟩
section
variable (u1:ah) (o_:(List Bool))
abbrev abv:Nat × Option Ob:=(0,some (.loop dF 0 [(2,(vP 1 0)),(28,(vP 2 0))]))
abbrev abm:Ob:=(.cells 26 (k9 u1))
abbrev aaZ:Nat × Option Ob:=(1,some (abm u1))
abbrev acr:List (Nat × Option Ob):=[abv,(aaZ u1),(2,some (.cells 27 [(.own 3 true o_.length)])),(3,some (bZ 4 1 aj o_))]
end
theorem A7 (u0:Int) (u2:Int) (u1:ah) (o_:(List Bool)):X8 Tryz.prog 0 [(sI u0),(sI u2)] (acr u1 o_) (fun _=>vB true) (fun r=>[abv,(aaZ u1),(2,some (.cells 27 [(.own 3 true r.length)])),(3,some (bZ 4 1 aj r))]) (mH u0 u2 u1 o_):=
  scY tT mX dF ⟨[2,28],[0,1,2,3],fun _=>[(29,(vI u0))],fun _=>[]⟩ (.r<| .e ())
  (.r<| .it (.a1 ((0:Int)≤(k16 u0)∧(k16 u0)<(o_.length:Int))<| .rg {an:=[(4, .arr 0 (au aj (o_.set ((k16 u0).toNat) true)))]} [0, .t 0 (k16 u0) o_.length, .pf ⟨aC o_.length 1 (fe (au aj o_) ((k16 u0).toNat) 0 [(.bool true)]) (au aj (o_.set ((k16 u0).toNat) true)),aK _ _ _ _ _ _ _ _ rfl (fun j hj=>(match j,hj with|0,_=>rfl))⟩]<| .im (.ll 3 o_ (o_.set ((k16 u0).toNat) true))<| .e (o_.set ((k16 u0).toNat) true))
(.e o_))
section
variable (u0:(List (List Int))) (u3:(List Bool)) (u5:(List af)) (x1:(List bg)) (u1:Int) (u2:Int)
abbrev Oj:=(List.replicate ((u0.length:Int).toNat) (false:Bool))
abbrev abd:=(au aj (Oj u0))
abbrev YP:=((Oj u0).set 0 true)
abbrev aeN:List (Nat × Option Ob):=[(52,some (bZ 4 1 aj u3)),(53,some (.cells 190 [(.own 54 false u5.length)])),(54,some (WW u5))]
abbrev JK:=(at' x1 ((at' (at' u0 u1.toNat) u2.toNat).toNat))
abbrev Yp:=(u3.set (((JK u0 x1 u1 u2).to_).toNat) true)
end
theorem gK (x1:(List bg)) (u0:(List (List Int))) (u4:ah) (o_:(List Bool)):fD Tryz.prog 103 [(.one (.yl 0)),(sD (CR [(CR [(bM none 2 bg.cell x1),(k91 u0)] 0)] 0))] (acr u4 o_) (fun r=>(.iP [])) (fun r=>[abv,(aaZ u4),(2,some (.cells 27 [(.own 3 true r.length)])),(3,some (bZ 4 1 aj r))]) (dQ x1 u0 u4 o_):=
  gI tT mX Tryz.func103 (
  .a3 ((0:Int)≤(u0.length:Int)) ((1:Int)*(u0.length:Int)≤281474976710656) (((u0.length:Int):Int)≤9223372036854775807)<| .rg {an:=[(5, .arr (Oj u0).length (abd u0))],fr:=[(5,52)]} [0, .e (((u0.length:Int):Int)),1,2, .pf ⟨(Oj u0).length=((u0.length:Int).toNat),List.length_replicate⟩, .pf ⟨aC ((u0.length:Int).toNat) 1 (fun _ j=>[(.bool false)].getD j .nilp) (abd u0),aW _ _ _ _ _ (fun j hj=>(match j,hj with|0,_=>rfl))⟩]<| .a1 ((0:Int)≤0∧0<((Oj u0).length:Int))<| .rg {an:=[(2, .arr 0 (au aj (YP u0)))]} [0, .t 0 0 ((Oj u0).length), .pf ⟨aC (Oj u0).length 1 (fe (abd u0) 0 0 [(.bool true)]) (au aj (YP u0)),aK _ _ _ _ _ _ _ _ rfl (fun j hj=>(match j,hj with|0,_=>rfl))⟩]<| .im (.ll 52 (Oj u0) (YP u0))<| .rg {fr:=[(0,53)]} []<| .im (.P5 53 0 54 69 2 (au af.cell ([]:List af)))<| .rg {fr:=[(1,55)]} []<| .lp (σ:=((List Bool) × (List Bool) × (List af) × Int × Int)) (β:=Unit) (o_,(YP u0),([]:List af),0,(-1)) [] [] ⟨[0,1,4,5],[0,1],fun(u6,u7,q0,u1,v0)=>[(3,(vO 52 true u7.length))],fun(u6,u7,q0,u1,v0)=>[(2,some (.cells 27 [(.own 3 true u6.length)])),(3,some (bZ 4 1 aj u6)),(52,some (bZ 4 1 aj u7)),(53,some (.cells 190 [(.own 54 false q0.length)])),(54,some (WW q0)),(55,some (.cells 69 [(cI u1),(cI v0)]))]⟩ ⟨[],[],fun _=>[],fun _=>[]⟩
  (fun(u6,u7,q0,u1,v0)=> .cy 5 (A7 u1 v0 u4 u6) fun r_=> .rg {} [.pf ⟨(0:Int)≤0∧(0:Int)<(2:Nat),(by decide)⟩, .pf ⟨(0:Int)≤1∧(1:Int)<(2:Nat),(by decide)⟩,0]<| .f<| .a1 ((0:Int)≤u1∧u1<(u0.length:Int))<| .rg {} [.pf ⟨(0:Int)≤0∧(0:Int)<(2:Nat),(by decide)⟩,0]<| .lp (σ:=((List Bool) × (List af) × Int)) (β:=((List Bool) × (List af))) (u7,q0,0) [] [] ⟨[0,1,4,5,34,35],[0,1,2,3,55],fun(u3,u5,u2)=>[(3,(vO 52 true u3.length)),(36,(vI u2))],fun(u3,u5,u2)=>(aeN u3 u5)⟩ ⟨[0,1,4,5],[0,1,2,3,55],fun(u8,u9)=>[(3,(vO 52 true u8.length))],fun(u8,u9)=>(aeN u8 u9)⟩
  (fun(u3,u5,u2)=> .r<| .it (.a1 ((0:Int)≤u2∧u2<((at' u0 u1.toNat).length:Int))<| .r<| .a1 ((0:Int)≤(at' (at' u0 u1.toNat) u2.toNat)∧(at' (at' u0 u1.toNat) u2.toNat)<(x1.length:Int))<| .rg {fr:=[(7,95)]} []<| .a1 ((gB [((decide (0<((JK u0 x1 u1 u2).left))),true)]=true→(0:Int)≤(JK u0 x1 u1 u2).to_∧(JK u0 x1 u1 u2).to_<(u3.length:Int)))<| .rg {} [0, .tg 0 [((decide (0<((JK u0 x1 u1 u2).left))),true)] ((JK u0 x1 u1 u2).to_) u3.length]<| .it (.a1 ((0:Int)≤(JK u0 x1 u1 u2).to_∧(JK u0 x1 u1 u2).to_<(u3.length:Int))<| .rg {an:=[(4, .arr 0 (au aj (Yp u0 u3 x1 u1 u2)))],fz:=[95]} [0, .t 0 ((JK u0 x1 u1 u2).to_) u3.length, .pf ⟨aC u3.length 1 (fe (au aj u3) (((JK u0 x1 u1 u2).to_).toNat) 0 [(.bool true)]) (au aj (Yp u0 u3 x1 u1 u2)),aK _ _ _ _ _ _ _ _ rfl (fun j hj=>(match j,hj with|0,_=>rfl))⟩]<| .im (.ll 52 u3 (Yp u0 u3 x1 u1 u2))<| .cl 4 (BB [(0,53),(1,54),(2,96)] (uQ (⟨(JK u0 x1 u1 u2).to_,(at' (at' u0 u1.toNat) u2.toNat)⟩:af) (⟨u5⟩:bB))) fun v2=> .r<| .r<| .en (.next ((Yp u0 u3 x1 u1 u2),v2.l,(k4 u2))) [] [(96,54)])
  (.r<| .e (.next (u3,u5,(k4 u2)))))
  (.e (.done (.brk (u3,u5)))))
  (fun(u8,u9)=> .cl 0 (BB [(0,53),(1,54),(2,97)] (uE (⟨u9⟩:bB))) fun v1=> .rg {fr:=[(4,98)]} []<| .r<| .it (.e (.done (.ret r_)))
  (.r<| .r<| .rg {fr:=[(0,99)]} []<| .en (.next (r_,u8,v1.2.2.l,v1.1.e0,v1.1.e1)) [] [(97,54),(99,55)])))
  (fun _=> .no))
def jo  :(aA × (List Bool) × Int)→Exit→St→Prop:=
  fun r=>Kw TT [.cell 4 80, .tmp 5, .tmp 6] (.iP [(.agg [(.d (bM none 1 (aG .i64) r.1.sources)),(.d (bM none 1 (aG .i64) r.1.links)),(.d (bM none 2 af.cell r.1.racks))]),(sD (bM none 1 aj r.2.1)),(sI r.2.2)]) []
section
variable (s_:State) (p:ah) (u1:Int) (n1:(List (List Int))) (n0:(List bg)) (u0:(List (Int × Int)))
abbrev gH:Nat × TV:=(3,(vD (CR [(bM none 1 aj s_.closed),(bM none 1 aj s_.locked),(bM none 1 aj s_.badLink),(bM none 1 aj s_.on_),(bM none 1 aj s_.badSource),(bM none 1 aj s_.earthed),(bM none 1 aj s_.badBus)] 0)))
abbrev iV:Nat × TV:=(8,(vI (IntKind.wrap .i64 ((IntKind.wrap .i64 ((1:Int)+p.buses))+(p.racks.length:Int)))))
abbrev uG:Nat × TV:=(11,(.v (.one (.mp 73))))
abbrev qX:Nat × TV:=(12,(.v (.one (.mp 74))))
abbrev pI:Nat × TV:=(13,(.v (.one (.mp 75))))
abbrev Ah:Nat × TV:=(66,(vD (bM none 5 Source.cell p.sources)))
abbrev Ag:Nat × TV:=(67,(vI (p.sources.length:Int)))
abbrev aeT:List (Nat × TV):=[(2,(vP 63 0)),(gH s_),(4,(vP 65 0)),(iV p),(9,(vP 67 0)),(10,(vP 72 0)),uG,qX,pI,(Ah p),(Ag p),(68,(vI u1))]
abbrev y9:Nat × Option Ob:=(63,some (abm p))
abbrev bY:Nat × Option Ob:=(65,some (.cells 80 [(.d nS),(.d nS),(.d nS)]))
abbrev SS:Nat × Option Ob:=(66,some (.rows 35 1 n1.length (xQ sM n1) none))
abbrev Vq:Nat × Option Ob:=(67,some (.cells 151 [(.own 68 false n0.length),(.own 66 true n1.length)]))
abbrev Mt:Nat × Option Ob:=(68,some (bZ 157 2 bg.cell n0))
abbrev GN:=((p.sources.length:Int).toNat)
abbrev Ng:=(List.replicate (GN p) (0:Int))
abbrev aap:Ob:=(bZ 3 1 (aG .i64) (Ng p))
abbrev UY:Nat × Option Ob:=(69,some (aap p))
abbrev yP:=((p.links.length:Int).toNat)
abbrev CY:=(List.replicate (yP p) (0:Int))
abbrev aay:Ob:=(bZ 3 1 (aG .i64) (CY p))
abbrev MV:Nat × Option Ob:=(70,some (aay p))
abbrev QK:=((p.racks.length:Int).toNat)
abbrev Mc:=(List.replicate (QK p) ((⟨0,0⟩:af):af))
abbrev ZX:Ob:=(bZ 69 2 af.cell (Mc p))
abbrev Ka:Nat × Option Ob:=(71,some (ZX p))
abbrev abD:=((Ng p).length)
abbrev TA:=((CY p).length)
abbrev Nj:=((Mc p).length)
abbrev V3:Nat × Option Ob:=(72,some (.cells 80 [(.own 69 true (abD p)),(.own 70 true (TA p)),(.own 71 true (Nj p))]))
abbrev TK:Ob:=(Ry 3 3 false false 1 1 (aG .i64) (aG .i64) u0)
abbrev DF:Nat × Option Ob:=(73,some (TK u0))
abbrev Tq:Ob:=(Ry 3 3 false false 1 1 (aG .i64) (aG .i64) ([]:(List (Int × Int))))
abbrev UK:Nat × Option Ob:=(74,some Tq)
abbrev abR:Ob:=(Ry 69 3 true false 2 1 af.cell (aG .i64) ([]:(List (af × Int))))
abbrev Nr:Nat × Option Ob:=(75,some abR)
abbrev TH:List (Nat × Option Ob):=[(y9 p),bY,(SS n1),(Vq n1 n0),(Mt n0),(UY p),(MV p),(Ka p),(V3 p),(DF u0),UK,Nr]
end
def zR (p:ah) (s_:State):((List bg) × (List (List Int)) × (List (Int × Int)) × Int)→St:=
  fun zz=>match zz with|(n0,n1,u0,u1)=> ⟨(aeT s_ p u1),(TH p n1 n0 u0)⟩
section
variable (s_:State) (p:ah) (p1:(List Source)) (x0:(List Int)) (u0:(List (List Int))) (u1:(List bg)) (u2:(List (Int × Int)))
abbrev WT:List (Nat × TV):=[(2,(vP 63 0)),(gH s_),(4,(vP 65 0)),(iV p),(9,(vP 67 0)),(10,(vP 72 0)),uG,qX,pI]
abbrev afQ:List CV:=[(cI p.buses),(.d (k1 p1)),(.d (bM none 6 Link.cell p.links)),(.d (bM none 4 aD.cell p.racks))]
abbrev ack:Ob:=(.cells 26 (afQ p p1))
abbrev N8:Nat × Option Ob:=(63,some (ack p p1))
abbrev nZ:Nat × Option Ob:=(69,some (Fw x0))
abbrev Yt:Nat × Option Ob:=(72,some (.cells 80 [(.own 69 true x0.length),(.own 70 true (TA p)),(.own 71 true (Nj p))]))
abbrev adl:List (Nat × Option Ob):=[(N8 p p1),bY,(SS u0),(Vq u0 u1),(Mt u1),(nZ x0),(MV p),(Ka p),(Yt p x0),(DF u2),UK,Nr]
end
def zT (p:ah) (s_:State):((List Source) × (List bg) × (List (List Int)) × (List Int) × (List (Int × Int)))→St:=
  fun zz=>match zz with|(p1,u1,u0,x0,u2)=> ⟨(WT s_ p),(adl p p1 x0 u0 u1 u2)⟩
def G9 (p:ah) (s_:State):(aM ((List bg) × (List (List Int)) × (List (Int × Int)) × Int) (Ex ((List Source) × (List bg) × (List (List Int)) × (List Int) × (List (Int × Int))) (aA × (List Bool) × Int)))→Exit→St→Prop:=
  LQ 0 [] (zR p s_) (zT p s_) jo
section
variable (p:ah) (s_:State) (u4:Int) (u3:(List (Int × Int))) (p1:(List Source)) (u0:(List (List Int))) (u1:(List bg)) (x0:(List Int)) (u2:(List (Int × Int)))
abbrev Ap:Nat × TV:=(88,(vD (bM none 6 Link.cell p.links)))
abbrev Af:Nat × TV:=(89,(vI (p.links.length:Int)))
abbrev ae9:List (Nat × TV):=[(2,(vP 63 0)),(gH s_),(4,(vP 65 0)),(iV p),(9,(vP 67 0)),(10,(vP 72 0)),uG,qX,pI,(Ap p),(Af p),(90,(vI u4))]
abbrev Dm:Nat × Option Ob:=(74,some (TK u3))
abbrev Uy:List (Nat × Option Ob):=[(N8 p p1),bY,(SS u0),(Vq u0 u1),(Mt u1),(nZ x0),(MV p),(Ka p),(Yt p x0),(DF u2),(Dm u3),Nr]
end
def zY (p:ah) (s_:State) (p1:(List Source)) (x0:(List Int)) (u2:(List (Int × Int))):((List bg) × (List (List Int)) × (List (Int × Int)) × Int)→St:=
  fun zz=>match zz with|(u1,u0,u3,u4)=> ⟨(ae9 p s_ u4),(Uy p u3 p1 u0 u1 x0 u2)⟩
section
variable (p:ah) (p1:(List Source)) (p2:(List Link)) (x1:(List Int)) (u0:(List (List Int))) (u1:(List bg)) (x0:(List Int)) (u2:(List (Int × Int))) (u3:(List (Int × Int)))
abbrev aev:Ob:=(.cells 26 [(cI p.buses),(.d (k1 p1)),(.d (k2 p2)),(.d (bM none 4 aD.cell p.racks))])
abbrev afh:Nat × Option Ob:=(63,some (aev p p1 p2))
abbrev qH:Nat × Option Ob:=(70,some (Fw x1))
abbrev aci:List (Nat × Option Ob):=[(afh p p1 p2),bY,(SS u0),(Vq u0 u1),(Mt u1),(nZ x0),(qH x1),(Ka p),(72,some (.cells 80 [(.own 69 true x0.length),(.own 70 true x1.length),(.own 71 true (Nj p))])),(DF u2),(Dm u3),Nr]
end
def zI (p:ah) (s_:State) (p1:(List Source)) (x0:(List Int)) (u2:(List (Int × Int))):((List Link) × (List bg) × (List (List Int)) × (List Int) × (List (Int × Int)))→St:=
  fun zz=>match zz with|(p2,u1,u0,x1,u3)=> ⟨(WT s_ p),(aci p p1 p2 x1 u0 u1 x0 u2 u3)⟩
def Gx (p:ah) (s_:State) (p1:(List Source)) (x0:(List Int)) (u0:(List (Int × Int))):(aM ((List bg) × (List (List Int)) × (List (Int × Int)) × Int) (Ex ((List Link) × (List bg) × (List (List Int)) × (List Int) × (List (Int × Int))) (aA × (List Bool) × Int)))→Exit→St→Prop:=
  LQ 2 [] (zY p s_ p1 x0 u0) (zI p s_ p1 x0 u0) jo
section
variable (u6:(List aD)) (s_:State) (u4:Int) (u7:Int) (u8:Int) (p:ah) (p1:(List Source)) (p2:(List Link)) (p3:(List aD)) (x2:(List af)) (x0:(List Int)) (x1:(List Int)) (u5:(List (af × Int))) (u0:(List (List Int))) (u1:(List bg)) (u2:(List (Int × Int))) (u3:(List (Int × Int)))
abbrev qI:Nat × TV:=(115,(vD (k5 u6)))
abbrev afb:List (Nat × TV):=[(2,(vP 63 0)),(gH s_),(4,(vP 65 0)),(8,(vI u4)),(9,(vP 67 0)),(10,(vP 72 0)),uG,qX,pI,(qI u6),(116,(vI u7)),(117,(vI u8))]
abbrev acs:Ob:=(.cells 26 [(cI p.buses),(.d (k1 p1)),(.d (k2 p2)),(.d (k5 p3))])
abbrev eO:Nat × Option Ob:=(63,some (acs p p1 p2 p3))
abbrev sU:Nat × Option Ob:=(71,some (WW x2))
abbrev sZ:Nat × Option Ob:=(72,some (.cells 80 [(.own 69 true x0.length),(.own 70 true x1.length),(.own 71 true x2.length)]))
abbrev aaY:Ob:=(Ry 69 3 true false 2 1 af.cell (aG .i64) u5)
abbrev Eh:Nat × Option Ob:=(75,some (aaY u5))
abbrev Vd:List (Nat × Option Ob):=[(eO p p1 p2 p3),bY,(SS u0),(Vq u0 u1),(Mt u1),(nZ x0),(qH x1),(sU x2),(sZ x2 x0 x1),(DF u2),(Dm u3),(Eh u5)]
end
def zM (p:ah) (s_:State) (p1:(List Source)) (x0:(List Int)) (u2:(List (Int × Int))) (p2:(List Link)) (x1:(List Int)) (u3:(List (Int × Int))):((List aD) × Int × (List bg) × (List (List Int)) × (List af) × (List (af × Int)) × (List aD) × Int × Int)→St:=
  fun zz=>match zz with|(p3,u4,u1,u0,x2,u5,u6,u7,u8)=> ⟨(afb u6 s_ u4 u7 u8),(Vd p p1 p2 p3 x2 x0 x1 u5 u0 u1 u2 u3)⟩
section
variable (u6:Int) (p:ah) (p1:(List Source)) (p2:(List Link)) (u5:(List aD)) (u0:(List (List Int))) (u1:(List bg)) (x0:(List Int)) (x1:(List Int)) (u2:(List af)) (u3:(List (Int × Int))) (u4:(List (Int × Int))) (u7:(List (af × Int)))
abbrev abe:List (Nat × TV):=[(2,(vP 63 0)),(4,(vP 65 0)),(8,(vI u6)),(9,(vP 67 0)),(10,(vP 72 0)),uG,qX,pI]
abbrev afM:St:=⟨(abe u6),(Vd p p1 p2 u5 u2 x0 x1 u7 u0 u1 u3 u4)⟩
end
def zN (p:ah) (p1:(List Source)) (x0:(List Int)) (u3:(List (Int × Int))) (p2:(List Link)) (x1:(List Int)) (u4:(List (Int × Int))):((List aD) × Int × (List bg) × (List (List Int)) × (List af) × (List (af × Int)))→St:=
  fun zz=>match zz with|(u5,u6,u1,u0,u2,u7)=>(afM u6 p p1 p2 u5 u0 u1 x0 x1 u2 u3 u4 u7)
def uP (p:ah) (s_:State) (p1:(List Source)) (x0:(List Int)) (u0:(List (Int × Int))) (p2:(List Link)) (x1:(List Int)) (u1:(List (Int × Int))):(aM ((List aD) × Int × (List bg) × (List (List Int)) × (List af) × (List (af × Int)) × (List aD) × Int × Int) (Ex ((List aD) × Int × (List bg) × (List (List Int)) × (List af) × (List (af × Int))) (aA × (List Bool) × Int)))→Exit→St→Prop:=
  LQ 4 [] (zM p s_ p1 x0 u0 p2 x1 u1) (zN p p1 x0 u0 p2 x1 u1) jo
section
variable (u1:(List aD)) (u0:Int) (s_:State) (u6:Int) (u7:Int) (u9:Int) (p:ah) (p1:(List Source)) (p2:(List Link)) (p3:(List aD)) (u2:(List (List Int))) (u3:(List bg)) (x0:(List Int)) (x1:(List Int)) (x2:(List af)) (u4:(List (Int × Int))) (u5:(List (Int × Int))) (u8:(List (af × Int)))
abbrev LX:=((at' u1 u0.toNat).power)
abbrev U5:List DV:=[(.int .i64 ((k28 u1 u0).e0)),(.int .i64 ((k28 u1 u0).e1)),(.int .i64 (LX u1 u0)),(.int .i64 ((at' u1 u0.toNat).paths))]
abbrev xJ:Nat × TV:=(19,(vD (CR (U5 u1 u0) 0)))
abbrev QH:List CV:=[(cI ((k28 u1 u0).e0)),(cI ((k28 u1 u0).e1))]
abbrev Ae:Nat × TV:=(133,(.v (.agg (QH u1 u0))))
abbrev aei:List (Nat × TV):=[(2,(vP 63 0)),(gH s_),(4,(vP 65 0)),(8,(vI u6)),(9,(vP 67 0)),(10,(vP 72 0)),uG,qX,pI,(18,(vI u0)),(xJ u1 u0),(qI u1),(116,(vI u7)),(117,(vI u0)),(Ae u1 u0),(134,(vI u9))]
abbrev QJ:List (Nat × Option Ob):=[(eO p p1 p2 p3),bY,(SS u2),(67,some (.cells 151 [(.own 111 false u3.length),(.own 66 true u2.length)])),(nZ x0),(qH x1),(sU x2),(sZ x2 x0 x1),(DF u4),(Dm u5),(Eh u8),(111,some (bZ 157 2 bg.cell u3))]
end
def zV (p:ah) (s_:State) (p1:(List Source)) (x0:(List Int)) (u4:(List (Int × Int))) (p2:(List Link)) (x1:(List Int)) (u5:(List (Int × Int))) (p3:(List aD)) (u6:Int) (x2:(List af)) (u1:(List aD)) (u7:Int) (u0:Int):((List bg) × (List (List Int)) × (List (af × Int)) × Int)→St:=
  fun zz=>match zz with|(u3,u2,u8,u9)=> ⟨(aei u1 u0 s_ u6 u7 u9),(QJ p p1 p2 p3 u2 u3 x0 x1 x2 u4 u5 u8)⟩
section
variable (s_:State) (u4:Int) (u5:(List aD)) (u6:Int) (u7:Int) (p:ah) (p1:(List Source)) (p2:(List Link)) (p3:(List aD)) (u0:(List (List Int))) (u1:(List bg)) (x0:(List Int)) (x1:(List Int)) (x2:(List af)) (u2:(List (Int × Int))) (u3:(List (Int × Int))) (u8:(List (af × Int)))
abbrev afg:St:=⟨(afb u5 s_ u4 u6 u7),(QJ p p1 p2 p3 u0 u1 x0 x1 x2 u2 u3 u8)⟩
end
def zQ (p:ah) (s_:State) (p1:(List Source)) (x0:(List Int)) (u2:(List (Int × Int))) (p2:(List Link)) (x1:(List Int)) (u3:(List (Int × Int))) (p3:(List aD)) (u4:Int) (x2:(List af)) (u5:(List aD)) (u6:Int) (u7:Int):((List bg) × (List (List Int)) × (List (af × Int)))→St:=
  fun zz=>match zz with|(u1,u0,u8)=>(afg s_ u4 u5 u6 u7 p p1 p2 p3 u0 u1 x0 x1 x2 u2 u3 u8)
def GU (p:ah) (s_:State) (p1:(List Source)) (x0:(List Int)) (u0:(List (Int × Int))) (p2:(List Link)) (x1:(List Int)) (u1:(List (Int × Int))) (p3:(List aD)) (u2:Int) (x2:(List af)) (u3:(List aD)) (u4:Int) (u5:Int):(aM ((List bg) × (List (List Int)) × (List (af × Int)) × Int) (Ex ((List bg) × (List (List Int)) × (List (af × Int))) (aM ((List aD) × Int × (List bg) × (List (List Int)) × (List af) × (List (af × Int)) × (List aD) × Int × Int) (Ex ((List aD) × Int × (List bg) × (List (List Int)) × (List af) × (List (af × Int))) (aA × (List Bool) × Int)))))→Exit→St→Prop:=
  LQ 6 [5] (zV p s_ p1 x0 u0 p2 x1 u1 p3 u2 x2 u3 u4 u5) (zQ p s_ p1 x0 u0 p2 x1 u1 p3 u2 x2 u3 u4 u5) (uP p s_ p1 x0 u0 p2 x1 u1)
section
variable (u0:Network) (p:ah) (p1:(List Source)) (p2:(List Link)) (u4:(List aD)) (u2:(List Int)) (x1:(List Int)) (u1:(List af)) (u3:(List (Int × Int))) (u5:(List (af × Int)))
abbrev aae:List (Nat × TV):=[(2,(vP 63 0)),(4,(vP 65 0)),(9,(vP 67 0)),(10,(vP 72 0)),qX,pI,(162,(vP 116 0))]
abbrev yM:Nat × Option Ob:=(67,some (.cells 151 [(.own 68 false u0.arcs.length),(.d (Xo u0))]))
abbrev yE:Nat × Option Ob:=(68,some (Zb u0))
abbrev adw:List (Nat × Option Ob):=[(eO p p1 p2 u4),bY,(yM u0),(yE u0),(nZ u2),(qH x1),(sU u1),(sZ u1 u2 x1),(Dm u3),(Eh u5),(116,none)]
abbrev adm:St:=⟨aae,(adw u0 p p1 p2 u4 u2 x1 u1 u3 u5)⟩
end
def Gy (p:ah) (p1:(List Source)) (p2:(List Link)) (x1:(List Int)) (u3:(List (Int × Int))) (u4:(List aD)) (u1:(List af)) (u5:(List (af × Int))) (u0:Network):(List Int)→St:=
  fun u2=>(adm u0 p p1 p2 u4 u2 x1 u1 u3 u5)
section
variable (p:ah) (p1:(List Source)) (p2:(List Link)) (u4:(List aD)) (u0:Network) (u2:(List Int)) (u3:(List Int)) (u1:(List af)) (u5:(List (af × Int)))
abbrev aat:List (Nat × TV):=[(2,(vP 63 0)),(4,(vP 65 0)),(9,(vP 67 0)),(10,(vP 72 0)),pI,(182,(vP 117 0))]
abbrev aeb:List (Nat × Option Ob):=[(eO p p1 p2 u4),bY,(yM u0),(yE u0),(nZ u2),(qH u3),(sU u1),(sZ u1 u2 u3),(Eh u5),(117,none)]
abbrev aeP:St:=⟨aat,(aeb p p1 p2 u4 u0 u2 u3 u1 u5)⟩
end
def Hg (p:ah) (p1:(List Source)) (p2:(List Link)) (u4:(List aD)) (u1:(List af)) (u5:(List (af × Int))) (u0:Network) (u2:(List Int)):(List Int)→St:=
  fun u3=>(aeP p p1 p2 u4 u0 u2 u3 u1 u5)
section
variable (p:ah) (p1:(List Source)) (p2:(List Link)) (u4:(List aD)) (u0:Network) (u1:(List Int)) (u2:(List Int)) (u3:(List af))
abbrev VX:List (Nat × TV):=[(2,(vP 63 0)),(4,(vP 65 0)),(9,(vP 67 0)),(10,(vP 72 0)),(208,(vP 118 0))]
abbrev aef:St:=⟨VX,[(eO p p1 p2 u4),bY,(yM u0),(yE u0),(nZ u1),(qH u2),(sU u3),(sZ u3 u1 u2),(118,none)]⟩
end
def G8 (p:ah) (p1:(List Source)) (p2:(List Link)) (u4:(List aD)) (u0:Network) (u1:(List Int)) (u2:(List Int)):(List af)→St:=
  fun u3=>(aef p p1 p2 u4 u0 u1 u2 u3)
end
end Sg
