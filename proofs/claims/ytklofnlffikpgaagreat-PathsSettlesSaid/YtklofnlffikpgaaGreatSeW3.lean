import Derived.Test.YtklofnlffikpgaaGreatSeW2
set_option linter.all false
namespace Sg
open Go Go.Proofs
set_option maxRecDepth 20000
noncomputable section
theorem qR (p:ai) (s_:State):dY Tryz.prog 112 (LJ p s_) (C8 s_) (fun r=>(.dX [(sD (aR none 1 af r.1)),(sI r.2)])) (fun r=>(C8 s_)) (eD p s_):=
  eU tT mX Tryz.func112 (
  .rg {fr:=[(0,10),(1,11)],fz:=[10]} []<| .cr 2 ⟨fun{r_} hr_=>((Fn.uJ (frz:=[0,1,2,3,4,5,6]) (p:=[s_.closed.length=s_.closed.length,s_.locked.length=s_.locked.length,s_.badLink.length=s_.badLink.length,s_.on_.length=s_.on_.length,s_.badSource.length=s_.badSource.length,s_.earthed.length=s_.earthed.length,s_.badBus.length=s_.badBus.length]) (dH p s_ hr_) (by kernel_rfl) ⟨rfl,rfl,rfl,rfl,rfl,rfl,rfl,trivial⟩ rfl):Fn Tryz.prog 110 (LJ p s_) (C8 s_) (vI r_) (C8 s_))⟩ fun r_=> .r<| .r<| .it (.r<| .e (([]:List Bool),r_))
  (.a3 ((0:Int)≤p.buses) (V8 p) (Wh p)<| .rg {an:=[(2, .arr (BU p).length (MQ p))],fr:=[(2,12)]} [0, .e ((p.buses:Int)),1,2, .pf ⟨(BU p).length=p.buses.toNat,List.length_replicate⟩, .pf ⟨aD p.buses.toNat 1 (fun _ j=>[(.bool false)].getD j .nilp) (MQ p),iB _ _ _ _ _ (fun j hj=>(match j,hj with|0,_=>rfl))⟩]<| .r<| .lp (σ:=((List Bool) × Int)) (β:=(List Bool)) ((BU p),0) [] [] ⟨[2,3],[0,1,2,3,4,5,6,11],fun(u1,kz)=>[(7,(vO 12 true u1.length)),(8,(vI kz))],fun(u1,kz)=>[(12,some (aZ 4 1 af u1))]⟩ ⟨[],[0,1,2,3,4,5,6],fun u3=>[(7,(vO 12 true u3.length))],fun u3=>[(12,some (aZ 4 1 af u3))]⟩
  (fun(u1,kz)=> .r<| .it (.cr 3 ⟨fun{u5} hr_1=>((Fn.uJ (frz:=[0,1,2,3,4,5,6]) (p:=[s_.closed.length=s_.closed.length,s_.locked.length=s_.locked.length,s_.badLink.length=s_.badLink.length,s_.on_.length=s_.on_.length,s_.badSource.length=s_.badSource.length,s_.earthed.length=s_.earthed.length,s_.badBus.length=s_.badBus.length]) (gD p s_ kz hr_1) (by kernel_rfl) ⟨rfl,rfl,rfl,rfl,rfl,rfl,rfl,trivial⟩ rfl):Fn Tryz.prog 119 (PY p s_ kz) (C8 s_) (vB u5) (C8 s_))⟩ fun u5=> .r<| .it (.r<| .e (.next (Rc kz u1)))
  (.cr 8 (pX p s_ (Uo kz p)) fun u2=> .a1 (X6 kz p)<| .rg {} [0,1]<| .r<| .lp (σ:=((List Bool) × Int)) (β:=(List Bool)) (u1,0) [] [] ⟨[2,3,8,9],[0,1,2,3,4,5,6,11],fun(u0,b)=>[(7,(vO 12 true u0.length)),(10,(vI b))],fun(u0,b)=>[(12,some (aZ 4 1 af u0))]⟩ ⟨[2,3,8],[0,1,2,3,4,5,6,11],fun u4=>[(7,(vO 12 true u4.length))],fun u4=>[(12,some (aZ 4 1 af u4))]⟩
  (fun(u0,b)=> .r<| .it (.a2 (Rh u0 b) ((gB [((at' u0 b.toNat),false)]=true→(0:Int)≤b∧b<(u2.length:Int)))<| .rg {an:=[(13, .arr 0 (RV u0 b u2))]} [0, .t 0 b u0.length,1,0, .t 0 b u0.length, .pf ⟨aD u0.length 1 (iG (aj af u0) b.toNat 0 [(.bool (bif (at' u0 b.toNat)then true else(at' u2 b.toNat)))]) (RV u0 b u2),bn _ _ _ _ _ _ _ _ rfl (fun j hj=>(match j,hj with|0,_=>rfl))⟩]<| .im (.ll 12 u0 (Rj u0 b u2))<| .r<| .e (.next (WU u0 b u2)))
  (.e (.done (.brk u0))))
  (fun u4=> .r<| .e (.next (Rc kz u4)))))
  (.e (.done (.brk u1))))
  (fun u3=> .rg {fz:=[12]} []<| .e (u3,0))))
section
variable (u3:(List ah))
abbrev TN:List (Nat × Option Ob):=[(44,some (aZ 44 2 ah.cell u3))]
end
theorem ol (p:ai) (s_:State):dY Tryz.prog 113 (LJ p s_) (C8 s_) (fun r=>(.dX [(sD (aR none 2 ah.cell r.1)),(sI r.2)])) (fun r=>(C8 s_)) (dM p s_):=
  eU tT mX Tryz.func113 (
  .rg {fr:=[(0,41),(1,42)],fz:=[41]} []<| .cr 2 ⟨fun{r_} hr_=>((Fn.uJ (frz:=[0,1,2,3,4,5,6]) (p:=[s_.closed.length=s_.closed.length,s_.locked.length=s_.locked.length,s_.badLink.length=s_.badLink.length,s_.on_.length=s_.on_.length,s_.badSource.length=s_.badSource.length,s_.earthed.length=s_.earthed.length,s_.badBus.length=s_.badBus.length]) (dH p s_ hr_) (by kernel_rfl) ⟨rfl,rfl,rfl,rfl,rfl,rfl,rfl,trivial⟩ rfl):Fn Tryz.prog 110 (LJ p s_) (C8 s_) (vI r_) (C8 s_))⟩ fun r_=> .r<| .r<| .it (.r<| .e (([]:List ah),r_))
  (.r<| .r<| .im (.ad 7 75 44 2 (aj ah.cell ([]:List ah)))<| .lp (σ:=((List ah) × Int)) (β:=(List ah)) (([]:List ah),0) [] [(75,44)] ⟨[2,3],[0,1,2,3,4,5,6,42],fun(u3,i)=>[(7,(vO 44 false u3.length)),(8,(vI i))],fun(u3,i)=>(TN u3)⟩ ⟨[],[0,1,2,3,4,5,6],fun u4=>[(7,(vO 44 false u4.length))],fun u4=>(TN u4)⟩
  (fun(u3,i)=> .r<| .it (.r<| .lp (σ:=((List ah) × Int)) (β:=(List ah)) (H6 i u3) [] [] ⟨[2,3,8],[0,1,2,3,4,5,6,42],fun(u0,kz)=>[(7,(vO 44 false u0.length)),(9,(vI kz))],fun(u0,kz)=>(TN u0)⟩ ⟨[2,3,8],[0,1,2,3,4,5,6,42],fun u5=>[(7,(vO 44 false u5.length))],fun u5=>(TN u5)⟩
  (fun(u0,kz)=> .r<| .it (.cr 3 ⟨fun{u1} hr_1=>((Fn.uJ (frz:=[0,1,2,3,4,5,6]) (p:=[s_.closed.length=s_.closed.length,s_.locked.length=s_.locked.length,s_.badLink.length=s_.badLink.length,s_.on_.length=s_.on_.length,s_.badSource.length=s_.badSource.length,s_.earthed.length=s_.earthed.length,s_.badBus.length=s_.badBus.length]) (gD p s_ i hr_1) (by kernel_rfl) ⟨rfl,rfl,rfl,rfl,rfl,rfl,rfl,trivial⟩ rfl):Fn Tryz.prog 119 (PY p s_ i) (C8 s_) (vB u1) (C8 s_))⟩ fun u1=> .Zz 8 [(u1,true)] ⟨fun{u2} hr_2=>((Fn.uJ (frz:=[0,1,2,3,4,5,6]) (p:=[s_.closed.length=s_.closed.length,s_.locked.length=s_.locked.length,s_.badLink.length=s_.badLink.length,s_.on_.length=s_.on_.length,s_.badSource.length=s_.badSource.length,s_.earthed.length=s_.earthed.length,s_.badBus.length=s_.badBus.length]) (gD p s_ kz hr_2) (by kernel_rfl) ⟨rfl,rfl,rfl,rfl,rfl,rfl,rfl,trivial⟩ rfl):Fn Tryz.prog 119 (PY p s_ kz) (C8 s_) (vB u2) (C8 s_))⟩ fun u2=> .Zz 19 [(k5 u1 u2)] (pX p s_ (Uo i p)) fun u6=> .cg 40 [(Sn u1 u2 u6 p kz)] (uQ (at' p.sources i.toNat) (at' p.sources kz.toNat)) fun u7=> .a5 (Sr u1 u2 p i) (Sr u1 u2 p kz) (YG u1 u2 u6 p kz) (Yt u1 u2 u6 p kz i) (YD u1 u2 u6 p kz)<| .rg {} [8,7,0,6,1,2,3,4,5]<| .it (.a2 ((u0.length+[(⟨i,kz⟩:ah)].length)*16≤140737488355328) (u0.length+[(⟨i,kz⟩:ah)].length≤4611686018427387904)<| .rg {an:=[(4, .arr [(⟨i,kz⟩:ah)].length (Ou kz i)),(5, .arr (u0++[(⟨i,kz⟩:ah)]).length (SK kz i u0))],fr:=[(4,73),(5,74)]} [.pf ⟨[(⟨i,kz⟩:ah)].length=1,rfl⟩, .pf ⟨aD 1 2 (lH 2 [(.int .i64 i),(.int .i64 kz)]) (Ou kz i),(by intro i hi j hj;match i,j,hi,hj with|0,0,_,_=>rfl|0,1,_,_=>rfl)⟩, .e (u0.length),0,1, .pf ⟨(u0++[(⟨i,kz⟩:ah)]).length=u0.length+[(⟨i,kz⟩:ah)].length,List.length_append⟩, .pf ⟨aD (u0.length+[(⟨i,kz⟩:ah)].length) 2 (qf (aj ah.cell u0) u0.length (Ou kz i)) (SK kz i u0),bW _ _ _ _⟩]<| .r<| .en (.next ((u0++[(⟨i,kz⟩:ah)]),(k10 kz))) [] [(74,44)])
  (.r<| .e (.next (H6 kz u0))))
  (.e (.done (.brk u0))))
  (fun u5=> .r<| .e (.next (H6 i u5))))
  (.e (.done (.brk u3))))
  (fun u4=> .rg {fz:=[44]} []<| .e (u4,0))))
section
variable (u0:State) (x:Transfer) (s_:State) (r_:((List Bool) × Int))
abbrev Fq:=(u0.closed.set x.close.toNat true)
abbrev Ym:=(bif (bif (!(at' s_.badBus x.watch.toNat))then(!(at' r_.1 x.watch.toNat))else false)then(!(at' s_.closed x.close.toNat))else false)
abbrev Yy:=(bif (Ym x s_ r_)then(!(at' s_.badLink x.close.toNat))else false)
abbrev Rx:=((Fq u0 x).set x.open_.toNat false)
abbrev Vj:=(bif (Yy x s_ r_)then(!(at' s_.locked x.close.toNat))else false)
abbrev XJ:=((Vj x s_ r_),true)
abbrev Yn:=(bif (Vj x s_ r_)then(!(at' s_.badLink x.open_.toNat))else false)
abbrev Vw:=(⟨(Rx u0 x),u0.locked,u0.badLink,u0.on_,u0.badSource,u0.earthed,u0.badBus⟩:State)
abbrev Yx:=(bif (Yn x s_ r_)then(!(at' s_.locked x.open_.toNat))else false)
abbrev UI:=(⟨(Fq u0 x),u0.locked,u0.badLink,u0.on_,u0.badSource,u0.earthed,u0.badBus⟩:State)
end
theorem CY (p:ai) (s_:State) (x:Transfer):dY Tryz.prog 57 [(.agg (k1 p)),(.agg (k21 s_)),(.agg [(cI x.watch),(cI x.open_),(cI x.close)])] [] (fun r=>(.dX [(.agg [(.d (aR none 1 af r.1.closed)),(.d (aR none 1 af r.1.locked)),(.d (aR none 1 af r.1.badLink)),(.d (aR none 1 af r.1.on_)),(.d (aR none 1 af r.1.badSource)),(.d (aR none 1 af r.1.earthed)),(.d (aR none 1 af r.1.badBus))]),(sB r.2)])) (fun _=>[]) (sM p s_ x):=
  eU tT mX Tryz.func57 (
  .rg {fr:=[(0,13),(1,14),(2,15),(3,16)],fz:=[13,14]} []<| .cl 2 (wo p s_) fun r_=> .r<| .cl 1 (jG [(0,17),(1,18),(2,19),(3,20),(4,21),(5,22),(6,23),(7,24)] (oq s_)) fun u0=> .rg {fr:=[(2,25)]} []<| .a1 ((0:Int)≤x.close∧x.close<(u0.closed.length:Int))<| .rg {an:=[(5, .arr 0 (aj af (Fq u0 x)))]} [0, .t 0 x.close u0.closed.length, .pf ⟨aD u0.closed.length 1 (iG (aj af u0.closed) x.close.toNat 0 [(.bool true)]) (aj af (Fq u0 x)),bn _ _ _ _ _ _ _ _ rfl (fun j hj=>(match j,hj with|0,_=>rfl))⟩]<| .im (.ll 17 u0.closed (Fq u0 x))<| .a5 ((0:Int)≤x.watch∧x.watch<(s_.badBus.length:Int)) ((gB [((!(at' s_.badBus x.watch.toNat)),true)]=true→(0:Int)≤x.watch∧x.watch<(r_.1.length:Int))) ((gB [((bif (!(at' s_.badBus x.watch.toNat))then(!(at' r_.1 x.watch.toNat))else false),true)]=true→(0:Int)≤x.close∧x.close<(s_.closed.length:Int))) ((gB [((Ym x s_ r_),true)]=true→(0:Int)≤x.close∧x.close<(s_.badLink.length:Int))) ((gB [((Yy x s_ r_),true)]=true→(0:Int)≤x.close∧x.close<(s_.locked.length:Int)))<| .rg {} [0,1,2,3,4]<| .r<| .it (.a1 ((0:Int)≤x.open_∧x.open_<((Fq u0 x).length:Int))<| .rg {an:=[(5, .arr 0 (aj af (Rx u0 x)))],fz:=[15]} [0, .t 0 x.open_ ((Fq u0 x).length), .pf ⟨aD (Fq u0 x).length 1 (iG (aj af (Fq u0 x)) x.open_.toNat 0 [(.bool false)]) (aj af (Rx u0 x)),bn _ _ _ _ _ _ _ _ rfl (fun j hj=>(match j,hj with|0,_=>rfl))⟩]<| .im (.ll 17 (Fq u0 x) (Rx u0 x))<| .a2 ((gB [(XJ x s_ r_)]=true→(0:Int)≤x.open_∧x.open_<(s_.badLink.length:Int))) ((gB [((Yn x s_ r_),true)]=true→(0:Int)≤x.open_∧x.open_<(s_.locked.length:Int)))<| .rg {} [0,1]<| .cr 2 (jG [(0,17),(1,18),(2,19),(3,20),(4,21),(5,22),(6,23)] (qR p (Vw u0 x))) fun u1=> .r<| .a1 ((gB [((Yx x s_ r_),true)]=true→(0:Int)≤x.watch∧x.watch<(u1.1.length:Int)))<| .r<| .r<| .lp (σ:=(Bool × Int)) (β:=Bool) ((bif (Yx x s_ r_)then(at' u1.1 x.watch.toNat)else false),0) [] [] ⟨[3,4,6,8,10,12],[16,17,18,19,20,21,22,23,25],fun(u6,b)=>[(11,(vB u6)),(14,(vI b))],fun(u6,b)=>[]⟩ ⟨[3,4,6,10],[16,17,18,19,20,21,22,23,25],fun v0=>[(11,(vB v0))],fun v0=>[]⟩
  (fun(u6,b)=> .r<| .it (.a5 (Tj r_ b) (TB r_ b u1) (RF r_ b u1) (Sy s_ r_ b u1) (Ty s_ r_ b u1)<| .rg {} [0,1,2,3,4]<| .it (.r<| .r<| .e (.next (false,(k10 b))))
  (.r<| .e (.next (u6,(k10 b)))))
  (.e (.done (.brk u6))))
  (fun v0=> .cl 2 (rQ p s_) fun v6=> .r<| .cr 2 (jG [(0,17),(1,18),(2,19),(3,20),(4,21),(5,22),(6,23)] (ol p (Vw u0 x))) fun v7=> .r<| .r<| .lp (σ:=(Bool × Int)) (β:=Bool) (v0,0) [] [] ⟨[6,10,15,17],[16,17,18,19,20,21,22,23,25],fun(u7,i)=>[(11,(vB u7)),(19,(vI i))],fun(u7,i)=>[]⟩ ⟨[6,10],[16,17,18,19,20,21,22,23,25],fun v1=>[(11,(vB v1))],fun v1=>[]⟩
  (fun(u7,i)=> .r<| .it (.r<| .r<| .lp (σ:=(Bool × Int)) (β:=Bool) (false,0) [] [] ⟨[6,10,11,15,17,19],[16,17,18,19,20,21,22,23,25],fun(u4,kz)=>[(20,(vB u4)),(21,(vI kz))],fun(u4,kz)=>[]⟩ ⟨[6,10,11,15,17,19],[16,17,18,19,20,21,22,23,25],fun v2=>[(20,(vB v2))],fun v2=>[]⟩
  (fun(u4,kz)=> .r<| .it (.a2 (SG u4 kz v6) (SG u4 i v7)<| .rg {} [0,1]<| .r<| .e (.next (Yw u4 kz v6 v7 i)))
  (.e (.done (.brk u4))))
  (fun v2=> .r<| .r<| .e (.next ((bif u7 then v2 else false),(k10 i)))))
  (.e (.done (.brk u7))))
  (fun v1=> .rg {fz:=[17,18,19,20,21,22,23]} []<| .fz [16]<| .e ((Vw u0 x),v1))))
  (.cr 2 (jG [(0,17),(1,18),(2,19),(3,20),(4,21),(5,22),(6,23)] (qR p (UI u0 x))) fun u2=> .rg {fz:=[15]} []<| .a1 ((gB [(XJ x s_ r_)]=true→(0:Int)≤x.watch∧x.watch<(u2.1.length:Int)))<| .r<| .r<| .lp (σ:=(Bool × Int)) (β:=Bool) ((bif (Vj x s_ r_)then(at' u2.1 x.watch.toNat)else false),0) [] [] ⟨[3,4,6,8,10,12],[16,17,18,19,20,21,22,23,25],fun(u8,b1)=>[(11,(vB u8)),(14,(vI b1))],fun(u8,b1)=>[]⟩ ⟨[3,4,6,10],[16,17,18,19,20,21,22,23,25],fun v3=>[(11,(vB v3))],fun v3=>[]⟩
  (fun(u8,b1)=> .r<| .it (.a5 (Tj r_ b1) (TB r_ b1 u2) (RF r_ b1 u2) (Sy s_ r_ b1 u2) (Ty s_ r_ b1 u2)<| .rg {} [0,1,2,3,4]<| .it (.r<| .r<| .e (.next (false,(k10 b1))))
  (.r<| .e (.next (u8,(k10 b1)))))
  (.e (.done (.brk u8))))
  (fun v3=> .cl 2 (rQ p s_) fun v8=> .r<| .cr 2 (jG [(0,17),(1,18),(2,19),(3,20),(4,21),(5,22),(6,23)] (ol p (UI u0 x))) fun v9=> .r<| .r<| .lp (σ:=(Bool × Int)) (β:=Bool) (v3,0) [] [] ⟨[6,10,15,17],[16,17,18,19,20,21,22,23,25],fun(u9,i1)=>[(11,(vB u9)),(19,(vI i1))],fun(u9,i1)=>[]⟩ ⟨[6,10],[16,17,18,19,20,21,22,23,25],fun v4=>[(11,(vB v4))],fun v4=>[]⟩
  (fun(u9,i1)=> .r<| .it (.r<| .r<| .lp (σ:=(Bool × Int)) (β:=Bool) (false,0) [] [] ⟨[6,10,11,15,17,19],[16,17,18,19,20,21,22,23,25],fun(u5,u3)=>[(20,(vB u5)),(21,(vI u3))],fun(u5,u3)=>[]⟩ ⟨[6,10,11,15,17,19],[16,17,18,19,20,21,22,23,25],fun v5=>[(20,(vB v5))],fun v5=>[]⟩
  (fun(u5,u3)=> .r<| .it (.a2 (SG u5 u3 v8) (SG u5 i1 v9)<| .rg {} [0,1]<| .r<| .e (.next (Yw u5 u3 v8 v9 i1)))
  (.e (.done (.brk u5))))
  (fun v5=> .r<| .r<| .e (.next ((bif u9 then v5 else false),(k10 i1)))))
  (.e (.done (.brk u9))))
  (fun v4=> .rg {fz:=[17,18,19,20,21,22,23]} []<| .fz [16]<| .e ((UI u0 x),v4)))))
section
variable (r_:Bool) (u0:Bool) (u1:Bool) (u2:Bool) (u3:Bool) (u4:Bool)
abbrev WQ:=(bif (k6 r_ u0 u1 u2 u3)then u4 else false)
end
theorem mK (a:State) (b:State):dY Tryz.prog 19 [(.agg (k21 a)),(.agg (k21 b))] [] (fun r=>(vB r)) (fun _=>[]) (ic a b):=
  eU tT mX Tryz.func19 (
  .rg {fr:=[(0,2),(1,3)],fz:=[2,3]} []<| .cl 4 (bJ a.closed b.closed) fun r_=> .cg 10 [(r_,true)] (bJ a.locked b.locked) fun u0=> .cg 17 [(k5 r_ u0)] (bJ a.badLink b.badLink) fun u1=> .cg 24 [((bif (bif r_ then u0 else false)then u1 else false),true)] (bJ a.on_ b.on_) fun u2=> .cg 31 [((bif (bif (bif r_ then u0 else false)then u1 else false)then u2 else false),true)] (bJ a.badSource b.badSource) fun u3=> .cg 38 [((k6 r_ u0 u1 u2 u3),true)] (bJ a.earthed b.earthed) fun u4=> .cg 45 [((WQ r_ u0 u1 u2 u3 u4),true)] (bJ a.badBus b.badBus) fun u5=> .r<| .e (bif (WQ r_ u0 u1 u2 u3 u4)then u5 else false))
theorem mE (l:(List Bool)) (i:Int) (is:Bool):dY Tryz.prog 115 [(sD (aR none 1 af l)),(sI i),(sB is)] [] (fun r=>(vO 0 false r.length)) (fun r=>[(0,some (aZ 4 1 af r))]) (kT l i is):=
  eU tT mX Tryz.func115 (
  .r<| .a2 ((([]:List Bool).length+l.length)*1≤140737488355328) (([]:List Bool).length+l.length≤4611686018427387904)<| .rg {an:=[(0, .arr ([]:List Bool).length (aj af ([]:List Bool))),(2, .arr (([]:List Bool)++l).length (Xk l))],fr:=[(0,2),(2,3)]} [.pf ⟨([]:List Bool).length=0,rfl⟩, .pf ⟨aD 0 1 (lH 1 []) (aj af ([]:List Bool)),(fun i hi=>absurd hi (Nat.not_lt_zero i))⟩, .e (([]:List Bool).length),0,1, .pf ⟨(([]:List Bool)++l).length=([]:List Bool).length+l.length,List.length_append⟩, .pf ⟨aD (([]:List Bool).length+l.length) 1 (qf (aj af ([]:List Bool)) ([]:List Bool).length (aj af l)) (Xk l),bW _ _ _ _⟩]<| .a1 ((0:Int)≤i∧i<((([]:List Bool)++l).length:Int))<| .rg {an:=[(4, .arr 0 (aj af ((([]:List Bool)++l).set i.toNat is)))]} [0, .t 0 i ((([]:List Bool)++l).length), .pf ⟨aD (([]:List Bool)++l).length 1 (iG (Xk l) i.toNat 0 [(.bool is)]) (aj af ((([]:List Bool)++l).set i.toNat is)),bn _ _ _ _ _ _ _ _ rfl (fun j hj=>(match j,hj with|0,_=>rfl))⟩]<| .im (.ll 3 (([]:List Bool)++l) ((([]:List Bool)++l).set i.toNat is))<| .r<| .en ((([]:List Bool)++l).set i.toNat is) [] [(3,0)])
theorem x9 (p:ai) (s_:State) (x:Part) (is:Bool):dY Tryz.prog 59 (Ww x p s_ is) [] (fun r=>(.dX [(.agg [(.d (aR none 1 af r.1.closed)),(.d (aR none 1 af r.1.locked)),(.d (aR none 1 af r.1.badLink)),(.d (aR none 1 af r.1.on_)),(.d (aR none 1 af r.1.badSource)),(.d (aR none 1 af r.1.earthed)),(.d (aR none 1 af r.1.badBus))]),(sI r.2)])) (fun _=>[]) (jo p s_ x is):=
  eU tT mX Tryz.func59 (
  .rg {fr:=[(0,7),(1,8),(2,9),(3,10)],fz:=[7,9]} []<| .cl 2 (dH p s_) fun r_=> .r<| .r<| .it (.r<| .en (Ta r_) [10] [])
  (.r<| .it (.r<| .en ((⟨([]:List Bool),([]:List Bool),([]:List Bool),([]:List Bool),([]:List Bool),([]:List Bool),([]:List Bool)⟩:State),14) [10] [])
  (.r<| .it (.cl 5 (jG [(0,11)] (mE s_.badBus x.index is)) fun u0=> .r<| .r<| .fz [11]<| .en ((⟨s_.closed,s_.locked,s_.badLink,s_.on_,s_.badSource,s_.earthed,u0⟩:State),0) [10] [])
  (.r<| .it (.cl 5 (jG [(0,12)] (mE s_.badSource x.index is)) fun u1=> .r<| .r<| .fz [12]<| .en ((⟨s_.closed,s_.locked,s_.badLink,s_.on_,u1,s_.earthed,s_.badBus⟩:State),0) [10] [])
  (.r<| .it (.cl 5 (jG [(0,13)] (mE s_.badLink x.index is)) fun u2=> .r<| .r<| .fz [13]<| .en ((⟨s_.closed,s_.locked,u2,s_.on_,s_.badSource,s_.earthed,s_.badBus⟩:State),0) [10] [])
  (.r<| .en ((⟨([]:List Bool),([]:List Bool),([]:List Bool),([]:List Bool),([]:List Bool),([]:List Bool),([]:List Bool)⟩:State),14) [10] []))))))
section
variable (u4:(List Bool)) (u5:(List Bool)) (u6:(List Bool)) (u7:(List Bool)) (u8:(List Bool)) (u9:(List Bool)) (v0:(List Bool)) (u0:(List Int))
abbrev Yg:Nat × Option Ob:=(56,some (U9 u4 u5 u6 u7 u8 u9 v0))
abbrev Yq:List (Nat × Option Ob):=[(Yg u4 u5 u6 u7 u8 u9 v0),(65,some (DF u0))]
end
theorem o8 (p:ai) (s_:State) (l:(List Transfer)):dY Tryz.prog 18 (YJ p s_ l) [] (fun r=>(.dX [(.agg [(.d (aR none 1 af r.1.closed)),(.d (aR none 1 af r.1.locked)),(.d (aR none 1 af r.1.badLink)),(.d (aR none 1 af r.1.on_)),(.d (aR none 1 af r.1.badSource)),(.d (aR none 1 af r.1.earthed)),(.d (aR none 1 af r.1.badBus))]),(.one (.own 0 false r.2.1.length)),(sI r.2.2)])) (fun r=>[(0,some (aZ 3 1 (aF .i64) r.2.1))]) (gN p s_ l):=
  eU tT mX Tryz.func18 (
  .rg {fr:=[(0,52),(1,53),(2,54)],fz:=[52,53]} []<| .cl 3 (lX p s_ l) fun r_=> .r<| .r<| .it (.r<| .im (.ad 7 55 3 1 (aj (aF .i64) ([]:List Int)))<| .en (Wn r_) [54] [(55,0)])
  (.cl 1 (zo s_) fun u1=> .rg {fr:=[(2,56)]} []<| .r<| .r<| .im (.ad 11 105 3 1 (aj (aF .i64) ([]:List Int)))<| .lp (σ:=((List Bool) × (List Bool) × (List Bool) × (List Bool) × (List Bool) × (List Bool) × (List Bool) × (List Int) × Int)) (β:=((List Bool) × (List Bool) × (List Bool) × (List Bool) × (List Bool) × (List Bool) × (List Bool) × (List Int))) (u1.closed,u1.locked,u1.badLink,u1.on_,u1.badSource,u1.earthed,u1.badBus,([]:List Int),0) [] [(105,65)] ⟨[2,3,6,10],[54],fun(u4,u5,u6,u7,u8,u9,v0,u0,n)=>[(11,(vO 65 false u0.length)),(12,(vI n))],fun(u4,u5,u6,u7,u8,u9,v0,u0,n)=>(Yq u4 u5 u6 u7 u8 u9 v0 u0)⟩ ⟨[6,10],[54],fun(v3,v4,v5,v6,v7,v8,v9,v1)=>[(11,(vO 65 false v1.length))],fun(v3,v4,v5,v6,v7,v8,v9,v1)=>(Yq v3 v4 v5 v6 v7 v8 v9 v1)⟩
  (fun(u4,u5,u6,u7,u8,u9,v0,u0,n)=> .r<| .it (.r<| .lp (σ:=Int) (β:=((List Bool) × (List Bool) × (List Bool) × (List Bool) × (List Bool) × (List Bool) × (List Bool) × (List Int))) (0) [] [] ⟨[2,3,6,10,11,12],[54,56,65],fun i=>[(13,(vI i))],fun i=>[]⟩ ⟨[2,3,6,10,12],[54],fun(w0,w1,w2,w3,w4,w5,w6,v2)=>[(11,(vO 101 false v2.length))],fun(w0,w1,w2,w3,w4,w5,w6,v2)=>[(Yg w0 w1 w2 w3 w4 w5 w6),(101,some (DF v2))]⟩
  (fun i=> .r<| .it (.r<| .r<| .lp (σ:=(Bool × Int)) (β:=Bool) (false,0) [] [] ⟨[2,3,6,10,11,12,13],[54,56,65],fun(u2,kz)=>[(14,(vB u2)),(15,(vI kz))],fun(u2,kz)=>[]⟩ ⟨[2,3,6,10,11,12,13],[54,56,65],fun w7=>[(14,(vB w7))],fun w7=>[]⟩
  (fun(u2,kz)=> .r<| .it (.a1 ((gB [(u2,false)]=true→(0:Int)≤kz∧kz<(u0.length:Int)))<| .rg {} [0, .tg 0 [(u2,false)] kz u0.length]<| .r<| .e (.next ((bif u2 then true else(decide ((at' u0 kz.toNat)=i))),(k10 kz))))
  (.e (.done (.brk u2))))
  (fun w7=> .cl 6 (CY p (Np u4 u5 u6 u7 u8 u9 v0) (at' l i.toNat)) fun u3=> .a1 (XK l i)<| .rg {fr:=[(10,102)]} [0,1]<| .r<| .it (.r<| .a2 (SX u0 i) (TQ u0 i)<| .rg {an:=[(2, .arr [i].length (aj (aF .i64) [i])),(3, .arr (u0++[i]).length (JV u0 i))],fr:=[(2,103),(3,104)]} [.pf ⟨[i].length=1,rfl⟩, .pf ⟨aD 1 1 (lH 1 [(.int .i64 i)]) (aj (aF .i64) [i]),(by intro i hi j hj;match i,j,hi,hj with|0,0,_,_=>rfl)⟩, .e (u0.length),0,1, .pf ⟨(u0++[i]).length=u0.length+[i].length,List.length_append⟩, .pf ⟨aD (u0.length+[i].length) 1 (SS u0 i) (JV u0 i),bW _ _ _ _⟩]<| .en (.done (.brk (u3.1.closed,u3.1.locked,u3.1.badLink,u3.1.on_,u3.1.badSource,u3.1.earthed,u3.1.badBus,(u0++[i])))) [] [(104,101)])
  (.r<| .e (.next (k10 i)))))
  (.en (.done (.brk (u4,u5,u6,u7,u8,u9,v0,u0))) [] [(65,101)]))
  (fun(w0,w1,w2,w3,w4,w5,w6,v2)=> .r<| .en (.next (w0,w1,w2,w3,w4,w5,w6,v2,(k10 n))) [] [(101,65)]))
  (.e (.done (.brk (u4,u5,u6,u7,u8,u9,v0,u0)))))
  (fun(v3,v4,v5,v6,v7,v8,v9,v1)=> .r<| .en ((Np v3 v4 v5 v6 v7 v8 v9),v1,0) [54] [(65,0)])))
theorem CF (p:ai) (s_:State) (l:(List Transfer)) (u3:(List Part)):dY Tryz.prog 23 (QM p s_ l u3) [] (fun r=>(.dX [(sD (aR none 1 (aF .i64) r.1)),(sI r.2)])) (fun _=>[]) (qi p s_ l u3):=
  eU tT mX Tryz.func23 (
  .rg {fr:=[(0,23),(1,24)],fz:=[24]} []<| .cl 4 (jG [(0,25),(1,26),(2,27),(3,28),(4,29),(5,30),(6,31),(7,32)] (lN p s_ l u3)) fun r_=> .rg {fr:=[(8,33)],fz:=[25,26,27,28,29,30,31]} []<| .fz [33]<| .r<| .it (.r<| .e (([]:List Int),r_.2))
  (.r<| .rg {fz:=[23]} []<| .im (.ad 12 46 3 1 (aj (aF .i64) ([]:List Int)))<| .lp (σ:=((List Int) × Int)) (β:=(List Int)) (([]:List Int),0) [] [(46,36)] ⟨[4,10,27,28],[],fun(u1,u0)=>[(12,(vO 36 false u1.length)),(29,(vI u0))],fun(u1,u0)=>[(36,some (DF u1))]⟩ ⟨[],[],fun u2=>[(12,(vO 36 false u2.length))],fun u2=>[(36,some (DF u2))]⟩
  (fun(u1,u0)=> .r<| .it (.a1 (Oy p u0)<| .rg {fr:=[(3,43)],fz:=[43]} []<| .cg 7 [((decide (0<((at' p.racks u0.toNat).paths))),true)] (rO p r_.1 u0) fun u4=> .r<| .it (.a2 (SX u1 u0) (TQ u1 u0)<| .rg {an:=[(2, .arr [u0].length (aj (aF .i64) [u0])),(3, .arr (u1++[u0]).length (JV u1 u0))],fr:=[(2,44),(3,45)]} [.pf ⟨[u0].length=1,rfl⟩, .pf ⟨aD 1 1 (lH 1 [(.int .i64 u0)]) (aj (aF .i64) [u0]),(by intro i hi j hj;match i,j,hi,hj with|0,0,_,_=>rfl)⟩, .e (u1.length),0,1, .pf ⟨(u1++[u0]).length=u1.length+[u0].length,List.length_append⟩, .pf ⟨aD (u1.length+[u0].length) 1 (SS u1 u0) (JV u1 u0),bW _ _ _ _⟩]<| .r<| .en (.next ((u1++[u0]),(k10 u0))) [] [(45,36)])
  (.r<| .e (.next (u1,(k10 u0)))))
  (.e (.done (.brk u1))))
  (fun u2=> .rg {fz:=[36]} []<| .e (u2,0))))
section
variable (p:ai) (u0:Int) (r_:((List Bool) × Int)) (u1:(List aL))
abbrev Yi:=(bif (decide (0≤((lT p u0).e1)))then(at' r_.1 ((if(lT p u0).e1<0 then 0 else(lT p u0).e1).toNat))else false)
abbrev LF:=(⟨(at' r_.1 (((lT p u0).e0).toNat)),(Yi p u0 r_)⟩:aL)
abbrev XR:=(u1.length+[(LF p u0 r_)].length)
abbrev Vt:=(aj aL.cell [(LF p u0 r_)])
abbrev RP:=(u1++[(LF p u0 r_)])
abbrev Yc:=(aj aL.cell (RP p u0 r_ u1))
end
theorem DK (p:ai) (s_:State):dY Tryz.prog 116 (k20 s_ p) [] (fun r=>(.dX [(sD (aR none 2 aL.cell r.1)),(sI r.2)])) (fun _=>[]) (sZ p s_):=
  eU tT mX Tryz.func116 (
  .rg {fr:=[(0,14),(1,15)],fz:=[15]} []<| .cl 2 (wo p s_) fun r_=> .r<| .r<| .it (.r<| .e (([]:List aL),r_.2))
  (.r<| .r<| .im (.ad 8 28 95 2 (aj aL.cell ([]:List aL)))<| .lp (σ:=((List aL) × Int)) (β:=(List aL)) (([]:List aL),0) [] [(28,18)] ⟨[2,6],[14],fun(u1,u0)=>[(8,(vO 18 false u1.length)),(9,(vI u0))],fun(u1,u0)=>[(18,some (aZ 95 2 aL.cell u1))]⟩ ⟨[],[],fun u2=>[(8,(vO 18 false u2.length))],fun u2=>[(18,some (aZ 95 2 aL.cell u2))]⟩
  (fun(u1,u0)=> .r<| .it (.a1 (Oy p u0)<| .rg {fr:=[(6,25)],fz:=[25]} []<| .a4 ((0:Int)≤(lT p u0).e0∧(lT p u0).e0<(r_.1.length:Int)) ((gB [((decide (0≤((lT p u0).e1))),true)]=true→(0:Int)≤(if(lT p u0).e1<0 then 0 else(lT p u0).e1)∧(if(lT p u0).e1<0 then 0 else(lT p u0).e1)<(r_.1.length:Int))) ((XR p u0 r_ u1)*2≤140737488355328) (u1.length+[(LF p u0 r_)].length≤4611686018427387904)<| .rg {an:=[(18, .arr [(LF p u0 r_)].length (Vt p u0 r_)),(19, .arr (RP p u0 r_ u1).length (Yc p u0 r_ u1))],fr:=[(18,26),(19,27)]} [.pf ⟨(0:Int)≤0∧(0:Int)<(2:Nat),(by decide)⟩,0, .pf ⟨(0:Int)≤1∧(1:Int)<(2:Nat),(by decide)⟩, .pf ⟨(0:Int)≤1∧(1:Int)<(2:Nat),(by decide)⟩,1, .pf ⟨[(LF p u0 r_)].length=1,rfl⟩, .pf ⟨aD 1 2 (lH 2 [(.bool (at' r_.1 (((lT p u0).e0).toNat))),(.bool (Yi p u0 r_))]) (Vt p u0 r_),(by intro i hi j hj;match i,j,hi,hj with|0,0,_,_=>rfl|0,1,_,_=>rfl)⟩, .e (u1.length),2,3, .pf ⟨(RP p u0 r_ u1).length=u1.length+[(LF p u0 r_)].length,List.length_append⟩, .pf ⟨aD (XR p u0 r_ u1) 2 (qf (aj aL.cell u1) u1.length (Vt p u0 r_)) (Yc p u0 r_ u1),bW _ _ _ _⟩]<| .r<| .en (.next ((RP p u0 r_ u1),(k10 u0))) [] [(27,18)])
  (.e (.done (.brk u1))))
  (fun u2=> .rg {fz:=[18]} []<| .e (u2,0))))
theorem Ea (p:ai) (s_:State) (u0:Int):dY Tryz.prog 61 (FD p s_ u0) [] (fun r=>(vB r)) (fun _=>[]) (sV p s_ u0):=
  eU tT mX Tryz.func61 (
  .rg {fr:=[(0,2),(1,3)],fz:=[2,3]} []<| .cl 2 (DK p s_) fun r_=> .r<| .a2 ((0:Int)≤u0∧u0<(r_.1.length:Int)) ((gB [((at' r_.1 u0.toNat).e0,false)]=true→(0:Int)≤u0∧u0<(r_.1.length:Int)))<| .rg {} [0, .pf ⟨(0:Int)≤0∧(0:Int)<(2:Nat),(by decide)⟩,1, .pf ⟨(0:Int)≤1∧(1:Int)<(2:Nat),(by decide)⟩]<| .e (bif (at' r_.1 u0.toNat).e0 then true else(at' r_.1 u0.toNat).e1))
section
variable (u1:(List Bool)) (u2:(List Bool)) (u3:(List Bool)) (u4:(List Bool)) (u5:(List Bool)) (u6:(List Bool)) (u7:(List Bool))
abbrev Wx:List (Nat × Option Ob):=[(12,some (U9 u1 u2 u3 u4 u5 u6 u7))]
end
theorem pR (p:ai) (s_:State) (l:(List Transfer)) (u8:(List Part)):dY Tryz.prog 22 (QM p s_ l u8) [] (fun r=>(.dX [(.agg [(.d (aR none 1 af r.1.closed)),(.d (aR none 1 af r.1.locked)),(.d (aR none 1 af r.1.badLink)),(.d (aR none 1 af r.1.on_)),(.d (aR none 1 af r.1.badSource)),(.d (aR none 1 af r.1.earthed)),(.d (aR none 1 af r.1.badBus))]),(sI r.2)])) (fun _=>[]) (l9 p s_ l u8):=
  eU tT mX Tryz.func22 (
  .rg {fr:=[(0,9),(1,10),(2,11)],fz:=[9]} []<| .cl 3 (lX p s_ l) fun r_=> .r<| .r<| .it (.r<| .en (Ta r_) [11] [])
  (.rg {fr:=[(1,12)]} []<| .r<| .lp (σ:=((List Bool) × (List Bool) × (List Bool) × (List Bool) × (List Bool) × (List Bool) × (List Bool) × Int)) (β:=((List Bool) × (List Bool) × (List Bool) × (List Bool) × (List Bool) × (List Bool) × (List Bool))) (s_.closed,s_.locked,s_.badLink,s_.on_,s_.badSource,s_.earthed,s_.badBus,0) [] [] ⟨[2,3,4,8,11],[11],fun(u1,u2,u3,u4,u5,u6,u7,i)=>[(12,(vI i))],fun(u1,u2,u3,u4,u5,u6,u7,i)=>(Wx u1 u2 u3 u4 u5 u6 u7)⟩ ⟨[2,4,8,11],[11],fun(u9,v0,v1,v2,v3,v4,v5)=>[],fun(u9,v0,v1,v2,v3,v4,v5)=>(Wx u9 v0 v1 v2 v3 v4 v5)⟩
  (fun(u1,u2,u3,u4,u5,u6,u7,i)=> .r<| .it (.cl 6 (x9 p (Np u1 u2 u3 u4 u5 u6 u7) (at' u8 i.toNat) true) fun u0=> .a1 (El u8 i)<| .rg {fr:=[(10,16)]} [0,1]<| .r<| .it (.r<| .en (.done (.ret (WC u0))) [11] [])
  (.r<| .r<| .e (.next (WZ u0 i))))
  (.e (.done (.brk (u1,u2,u3,u4,u5,u6,u7)))))
  (fun(u9,v0,v1,v2,v3,v4,v5)=> .cl 3 (jG [(0,17)] (o8 p (Np u9 v0 v1 v2 v3 v4 v5) l)) fun v6=> .r<| .r<| .en (v6.1,0) [11] [])))
theorem Cv (p:ai) (s_:State) (l:(List Transfer)) (u3:(List Part)):dY Tryz.prog 24 (QM p s_ l u3) [] (fun r=>(.dX [(sD (aR none 1 (aF .i64) r.1)),(sI r.2)])) (fun _=>[]) (qc p s_ l u3):=
  eU tT mX Tryz.func24 (
  .rg {fr:=[(0,11),(1,12)],fz:=[11,12]} []<| .cl 4 (pR p s_ l u3) fun r_=> .rg {fr:=[(8,13)],fz:=[13]} []<| .r<| .it (.r<| .e (([]:List Int),r_.2))
  (.r<| .r<| .im (.ad 12 22 3 1 (aj (aF .i64) ([]:List Int)))<| .lp (σ:=((List Int) × Int)) (β:=(List Int)) (([]:List Int),0) [] [(22,15)] ⟨[4,10],[],fun(u1,u0)=>[(12,(vO 15 false u1.length)),(13,(vI u0))],fun(u1,u0)=>[(15,some (DF u1))]⟩ ⟨[],[],fun u2=>[(12,(vO 15 false u2.length))],fun u2=>[(15,some (DF u2))]⟩
  (fun(u1,u0)=> .r<| .it (.cg 11 [((decide (1≤((at' p.racks u0.toNat).paths))),true)] (Ea p r_.1 u0) fun u4=> .a1 (Oy p u0)<| .rg {} [0,1]<| .it (.a2 (SX u1 u0) (TQ u1 u0)<| .rg {an:=[(2, .arr [u0].length (aj (aF .i64) [u0])),(3, .arr (u1++[u0]).length (JV u1 u0))],fr:=[(2,20),(3,21)]} [.pf ⟨[u0].length=1,rfl⟩, .pf ⟨aD 1 1 (lH 1 [(.int .i64 u0)]) (aj (aF .i64) [u0]),(by intro i hi j hj;match i,j,hi,hj with|0,0,_,_=>rfl)⟩, .e (u1.length),0,1, .pf ⟨(u1++[u0]).length=u1.length+[u0].length,List.length_append⟩, .pf ⟨aD (u1.length+[u0].length) 1 (SS u1 u0) (JV u1 u0),bW _ _ _ _⟩]<| .r<| .en (.next ((u1++[u0]),(k10 u0))) [] [(21,15)])
  (.r<| .e (.next (u1,(k10 u0)))))
  (.e (.done (.brk u1))))
  (fun u2=> .rg {fz:=[15]} []<| .e (u2,0))))
section
variable (u0:(State × (List Int) × Int)) (a0:(List Bool)) (i:Int) (a5:(List Bool)) (u3:(List Bool))
abbrev XG:List (Nat × Option Ob):=[(42,some (TR u0)),(43,some (Te u0)),(44,some (Sk u0)),(45,some (aZ 4 1 af u0.1.on_)),(46,some (Tt u0)),(47,some (RD u0)),(48,some (Tf u0))]
abbrev WI:List (Nat × Option Ob):=[(42,some (aZ 4 1 af a0)),(51,some (.cells 29 [(.own 42 false a0.length),(.own 43 false u0.1.locked.length),(.own 44 false u0.1.badLink.length),(.own 45 false u0.1.on_.length),(.own 46 false u0.1.badSource.length),(.own 47 false u0.1.earthed.length),(.own 48 false u0.1.badBus.length)]))]
abbrev SY:=(aj af (a0.set i.toNat (!(at' a0 i.toNat))))
abbrev XC:List (Nat × Option Ob):=[(47,some (aZ 4 1 af a5)),(51,some (.cells 29 [(.own 42 false u3.length),(.own 43 false u0.1.locked.length),(.own 44 false u0.1.badLink.length),(.own 45 false u0.1.on_.length),(.own 46 false u0.1.badSource.length),(.own 47 false a5.length),(.own 48 false u0.1.badBus.length)]))]
end
theorem uy (p:ai) (s_:State) (l:(List Transfer)) (u2:(List Part)):dY Tryz.prog 4 (QM p s_ l u2) [] (fun r=>(vB r)) (fun _=>[]) (iL p s_ l u2):=
  eU tT mX Tryz.func4 (
  .rg {fr:=[(0,31),(1,32)],fz:=[31,32]} []<| .r<| .it (.cl 0 uO fun r_=> .r<| .e r_)
  (.cl 1 (jG [(0,33),(1,34),(2,35),(3,36),(4,37),(5,38),(6,39),(7,40)] (oq s_)) fun u6=> .rg {fr:=[(2,41)],fz:=[33,34,35,36,37,38,39]} []<| .fz [41]<| .cl 3 (rT l) fun v3=> .cl 4 (jG [(0,42),(1,43),(2,44),(3,45),(4,46),(5,47),(6,48),(7,49),(8,50)] (fq p u6 v3)) fun u0=> .rg {fr:=[(9,51)],fz:=[49]} []<| .cl 3 (jG [(0,52)] (o8 p s_ l)) fun u1=> .rg {fr:=[(8,53)],fz:=[52]} []<| .Zz 6 [((!decide (u0.2.2=u1.2.2)),false)] ⟨fun{u8} hr_5=>((Fn.uJ (frz:=[42,43,44,45,46,47,48]) (p:=[u0.1.closed.length=u0.1.closed.length,u0.1.locked.length=u0.1.locked.length,u0.1.badLink.length=u0.1.badLink.length,u0.1.on_.length=u0.1.on_.length,u0.1.badSource.length=u0.1.badSource.length,u0.1.earthed.length=u0.1.earthed.length,u0.1.badBus.length=u0.1.badBus.length]) (mK u0.1 u1.1 hr_5) (by kernel_rfl) ⟨rfl,rfl,rfl,rfl,rfl,rfl,rfl,trivial⟩ rfl):Fn Tryz.prog 19 [(.agg [(.own 42 false u0.1.closed.length),(.own 43 false u0.1.locked.length),(.own 44 false u0.1.badLink.length),(.own 45 false u0.1.on_.length),(.own 46 false u0.1.badSource.length),(.own 47 false u0.1.earthed.length),(.own 48 false u0.1.badBus.length)]),(.agg (Y8 u1))] (XG u0) (vB u8) (XG u0))⟩ fun u8=> .cg 12 [((bif (!decide (u0.2.2=u1.2.2))then true else(!u8)),false)] (iF u0.2.1 u1.2.1) fun v7=> .r<| .it (.r<| .e false)
  (.r<| .lp (σ:=((List Bool) × Int)) (β:=(List Bool)) (u0.1.closed,0) [] [] ⟨[2,3,4,5,9,10,13],[43,44,45,46,47,48,53],fun(a0,i)=>[(16,(vI i))],fun(a0,i)=>(WI u0 a0)⟩ ⟨[2,3,4,5,9,10,13],[43,44,45,46,47,48,53],fun u3=>[],fun u3=>(WI u0 u3)⟩
  (fun(a0,i)=> .r<| .it (.a1 (Rh a0 i)<| .rg {an:=[(10, .arr 0 (SY a0 i))]} [0, .t 0 i a0.length,0, .t 0 i a0.length, .pf ⟨aD a0.length 1 (iG (aj af a0) i.toNat 0 [(.bool (!(at' a0 i.toNat)))]) (SY a0 i),bn _ _ _ _ _ _ _ _ rfl (fun j hj=>(match j,hj with|0,_=>rfl))⟩]<| .im (.ll 42 a0 (a0.set i.toNat (!(at' a0 i.toNat))))<| .r<| .e (.next ((a0.set i.toNat (!(at' a0 i.toNat))),(k10 i))))
  (.e (.done (.brk a0))))
  (fun u3=> .r<| .lp (σ:=((List Bool) × Int)) (β:=(List Bool)) (u0.1.earthed,0) [] [] ⟨[2,3,4,5,9,10,13],[42,43,44,45,46,48,53],fun(a5,i1)=>[(17,(vI i1))],fun(a5,i1)=>(XC u0 a5 u3)⟩ ⟨[2,3,4,5,9,10,13],[42,43,44,45,46,48,53],fun u7=>[],fun u7=>(XC u0 u7 u3)⟩
  (fun(a5,i1)=> .r<| .it (.a1 (Rh a5 i1)<| .rg {an:=[(10, .arr 0 (SY a5 i1))]} [0, .t 0 i1 a5.length,0, .t 0 i1 a5.length, .pf ⟨aD a5.length 1 (iG (aj af a5) i1.toNat 0 [(.bool (!(at' a5 i1.toNat)))]) (SY a5 i1),bn _ _ _ _ _ _ _ _ rfl (fun j hj=>(match j,hj with|0,_=>rfl))⟩]<| .im (.ll 47 a5 (a5.set i1.toNat (!(at' a5 i1.toNat))))<| .r<| .e (.next ((a5.set i1.toNat (!(at' a5 i1.toNat))),(k10 i1))))
  (.e (.done (.brk a5))))
  (fun u7=> .cl 3 (rT l) fun v4=> .cl 5 (jG [(0,54),(1,55),(2,56),(3,57),(4,58),(5,59),(6,60),(7,61)] (lN p u6 v4 u2)) fun v0=> .rg {fz:=[54,55,56,57,58,59,60]} []<| .fz [51]<| .cl 4 (pR p s_ l u2) fun v1=> .rg {fz:=[53]} []<| .cg 6 [((!decide (v0.2=v1.2)),false)] (mK v0.1 v1.1) fun v8=> .r<| .it (.r<| .e false)
  (.cl 3 (rT l) fun v5=> .cl 5 (CF p u6 v5 u2) fun u4=> .r<| .cl 4 (Cv p s_ l u2) fun u5=> .r<| .cg 6 [((decide (u4.2=u5.2)),true)] (iF u4.1 u5.1) fun u9=> .cg 11 [((bif (decide (u4.2=u5.2))then u9 else false),true)] (mK s_ u6) fun v2=> .cg 14 [((bif (bif (decide (u4.2=u5.2))then u9 else false)then v2 else false),true)] uO fun v6=> .r<| .e (bif (bif (bif (decide (u4.2=u5.2))then u9 else false)then v2 else false)then v6 else false)))))))
section
variable (u3:(List xL)) (u0:Int) (u2:(List Part)) (u1:Int) (u4:(List xL))
end
section
variable (u0:(List Part))
end
section
variable (r_:((List Part) × Int)) (i:Int) (s_:State)
end
section
variable (p:ai) (s_:State) (l:(List Transfer)) (u1:(List Part)) (u2:(List Bool)) (u3:(List Bool)) (u4:(List Bool)) (u5:(List Bool)) (u6:(List Bool)) (u7:(List Bool)) (u8:(List Bool))
end
section
variable (u2:(List xL))
end
section
variable (u3:(List (List Part))) (l:(List Part)) (u0:Int) (u1:Int) (u2:(List (List Part))) (u5:(List (List Part)))
end
section
variable (p:ai) (s_:State) (l:(List Transfer)) (v0:Bool) (u1:(List Part)) (u0:Int) (u2:(List (List Part)))
end
section
variable (u0:(List Part)) (u3:(List Bool)) (i:Int) (u4:((List Int) × Int)) (u6:(List (List Part))) (i1:Int) (kz:Int) (u1:(List (List Part)))
end
section
variable (i:Int) (u6:((List xL) × Int))
end
section
variable (u0:((List xL) × Int)) (i:Int) (p:ai) (u8:(Int × Int)) (u6:((List Part) × Int)) (u4:Bool) (kz:Int)
end
end
end Sg
