import Derived.Test.YtboodeobmgjjpaaGreatW3
set_option linter.all false
namespace Sg
open Go Go.Proofs
set_option maxRecDepth 20000
noncomputable section
section
variable (u1:(List aI)) (u2:(List (Int × Int)))
end
section
variable (u6:(List ay))
end
section
variable (u2:(List Bool)) (u3:(List Bool)) (u4:(List Bool)) (u5:(List Bool)) (u6:(List Bool)) (u7:(List Bool)) (u8:(List Bool)) (i:Int) (l:(List af)) (p:au) (r_:Task) (u0:(Int × State × Int)) (u9:((List Bool) × Int)) (t:Task) (u1:Int)
end
section
variable (u0:((List af) × (List State) × Int)) (i:Int)
end
theorem AL (x:af):dG Tryz.prog 48 [(.agg (PX x))] [] (fun r=>(.v (.agg [(cI r.deed),(cI r.index)]))) (fun _=>[]) (nQ x):=
  dP tT mX Tryz.func48 (
  .rg {fr:=[(0,2),(1,3)]} []<| .r<| .it (.r<| .rg {fz:=[3]} []<| .e (⟨(IntKind.wrap .i64 ((IntKind.wrap .i64 (((BitVec.ofInt (IntKind.bits .i64) (IntKind.wrap .i64 (x.deed - 1)) ^^^ BitVec.ofInt (IntKind.bits .i64) 1).toNat:Int)))+1)),x.index⟩:af))
  (.rg {fz:=[3]} []<| .e x))
section
variable (u0:(List af))
end
theorem AY (x:af):dG Tryz.prog 49 [(.agg (PX x))] [] (fun r=>(.v (.agg [(cI r.deed),(cI r.index)]))) (fun _=>[]) (iI x):=
  dP tT mX Tryz.func49 (
  .rg {fr:=[(0,3),(1,4)]} []<| .r<| .it (.rg {fz:=[4]} []<| .e x)
  (.rg {an:=[(0, .arr [0,2,1,4,3,6,5,8,7].length (aA (bJ .i64) [0,2,1,4,3,6,5,8,7]))],fr:=[(0,5)]} [.pf ⟨[0,2,1,4,3,6,5,8,7].length=9,rfl⟩, .pf ⟨aM 9 1 (uM 1 [(.int .i64 0),(.int .i64 2),(.int .i64 1),(.int .i64 4),(.int .i64 3),(.int .i64 6),(.int .i64 5),(.int .i64 8),(.int .i64 7)]) (aA (bJ .i64) [0,2,1,4,3,6,5,8,7]),(by intro i hi j hj;match i,j,hi,hj with|0,0,_,_=>rfl|1,0,_,_=>rfl|2,0,_,_=>rfl|3,0,_,_=>rfl|4,0,_,_=>rfl|5,0,_,_=>rfl|6,0,_,_=>rfl|7,0,_,_=>rfl|8,0,_,_=>rfl)⟩]<| .a1 ((0:Int)≤x.deed∧x.deed<([0,2,1,4,3,6,5,8,7].length:Int))<| .rg {fz:=[4]} [0, .t 0 x.deed ([0,2,1,4,3,6,5,8,7].length)]<| .e (⟨(at' [0,2,1,4,3,6,5,8,7] x.deed.toNat),x.index⟩:af)))
section
variable (a:Link) (b:Link)
end
section
variable (u1:(List Bool)) (u2:(List Bool)) (u3:(List Bool)) (u4:(List Bool)) (u5:(List Bool)) (u6:(List Bool)) (u7:(List Bool)) (u0:(State × Int))
end
section
variable (u1:(Int × State × Int)) (u0:(Int × State × Int)) (u2:Bool) (c1:(List Bool)) (i:Int)
end
section
variable (u0:(Int × State × Int)) (u1:(List af)) (l:(List af)) (i:Int) (u2:(Int × State × Int)) (u3:(Int × State × Int)) (v4:Bool)
end
theorem Cx (p:au) (s_:State) (x:af):dG Tryz.prog 45 (Gx p s_ x) [] (fun r=>(.iF [(sB r.1),(sI r.2)])) (fun _=>[]) (qj p s_ x):=
  dP tT mX Tryz.func45 (
  .rg {fr:=[(0,3),(1,4),(2,5)],fz:=[3,4,5]} []<| .cl 2 (iA p s_) fun r_=> .r<| .cg 5 [((decide (r_=0)),true)] (uG p x) fun u1=> .r<| .it (.r<| .r<| .t<| .r<| .e (false,1))
  (.r<| .it (.r<| .e (false,r_))
  (.cl 2 (Cq s_ x) fun u0=> .r<| .e (u0,0))))
theorem yV (p:au) (t:Task):dG Tryz.prog 46 (k0 p t) [] (fun r=>(vI r)) (fun _=>[]) (kZ p t):=
  dP tT mX Tryz.func46 (
  .rg {fr:=[(0,2),(1,3)],fz:=[2,3]} []<| .cl 1 (wB p) fun r_=> .r<| .r<| .it (.r<| .e r_)
  (.cl 2 (uE p t) fun u0=> .r<| .it (.r<| .e 1)
  (.r<| .e 0)))
theorem xY (p:au) (t:Task):dG Tryz.prog 47 (k0 p t) [] (fun r=>(vI r)) (fun _=>[]) (lg p t):=
  dP tT mX Tryz.func47 (
  .rg {fr:=[(0,2),(1,3)],fz:=[2,3]} []<| .cl 1 (vS p) fun r_=> .r<| .cg 5 [((decide (r_=0)),true)] (tQ p t) fun u0=> .r<| .it (.r<| .r<| .e 1)
  (.r<| .e r_))
theorem zM (a:Task) (b:Task):dG Tryz.prog 50 [(.agg (k2 a)),(.agg (k2 b))] [] (fun r=>(vB r)) (fun _=>[]) (mJ a b):=
  dP tT mX Tryz.func50 (
  .rg {fr:=[(0,2),(1,3)],fz:=[2,3]} []<| .cl 4 (uH a.fed b.fed) fun r_=> .cg 10 [(r_,true)] (uH a.crew b.crew) fun u0=> .cg 17 [(k11 r_ u0)] (nZ a.allowed b.allowed) fun u1=> .cg 24 [(k12 r_ u0 u1)] (nZ a.goal b.goal) fun u2=> .r<| .e (k13 r_ u0 u1 u2))
section
variable (u0:(Bool × Int)) (u1:(Bool × Int)) (u2:Int) (u3:Int) (u6:Int) (u7:Int) (u4:af) (u5:af) (u9:Bool)
abbrev X7:=(bif (bif (bif (u0.1==u1.1)then(decide (u0.2=u1.2))else false)then(decide (u2=u3))else false)then(decide (u6=u7))else false)
abbrev Ye:=((X7 u0 u1 u2 u3 u6 u7),true)
abbrev Yi:=(bif (X7 u0 u1 u2 u3 u6 u7)then((decide (u4.deed=u5.deed)) && ((decide (u4.index=u5.index)) && true))else false)
abbrev XB:=(bif (Yi u0 u1 u2 u3 u6 u7 u4 u5)then u9 else false)
end
theorem wL (p:au) (s_:State) (t:Task) (x:af):dG Tryz.prog 10 (Y8 p s_ t x) [] (fun r=>(vB r)) (fun _=>[]) (jy p s_ t x):=
  dP tT mX Tryz.func10 (
  .rg {fr:=[(0,10),(1,11),(2,12),(3,13)],fz:=[10,11,12,13]} []<| .cl 2 (Fp p t) fun r_=> .r<| .it (.cl 0 wu fun v0=> .r<| .e v0)
  (.cl 1 (dY [(0,14),(1,15),(2,16),(3,17),(4,18)] (Bl t)) fun u8=> .rg {fr:=[(2,19)],fz:=[14,15,16,17]} []<| .fz [19]<| .cl 3 (Cv p s_ x) fun u0=> .r<| .cl 3 (Cx p s_ x) fun u1=> .r<| .cg 11 [((bif (u0.1==u1.1)then(decide (u0.2=u1.2))else false),true)] (yV p u8) fun u2=> .cg 14 [((bif (u0.1==u1.1)then(decide (u0.2=u1.2))else false),true)] (xY p t) fun u3=> .cg 21 [((bif (bif (u0.1==u1.1)then(decide (u0.2=u1.2))else false)then(decide (u2=u3))else false),true)] (fG p s_ u8) fun u6=> .cg 25 [((bif (bif (u0.1==u1.1)then(decide (u0.2=u1.2))else false)then(decide (u2=u3))else false),true)] (Cu p s_ t) fun u7=> .cg 30 [(Ye u0 u1 u2 u3 u6 u7)] (AL x) fun u4=> .cg 32 [(Ye u0 u1 u2 u3 u6 u7)] (AY x) fun u5=> .cg 38 [((Yi u0 u1 u2 u3 u6 u7 u4 u5),true)] (zM u8 t) fun u9=> .cg 41 [((XB u0 u1 u2 u3 u6 u7 u4 u5 u9),true)] wu fun v1=> .r<| .e (bif (XB u0 u1 u2 u3 u6 u7 u4 u5 u9)then v1 else false)))
end
end Sg
