import Derived.Test.YtklofnlffikpgaaGreatFaW2
set_option linter.all false
namespace Sg
open Go Go.Proofs
set_option maxRecDepth 20000
noncomputable section
theorem tq (p:ai) (s_:State):dJ Tryz.prog 112 (MX p s_) (EL s_) (fun r=>(.dN [(sD (aR none 1 af r.1)),(sI r.2)])) (fun r=>(EL s_)) (eH p s_):=
  dZ tT mX Tryz.func112 (
  .rg {fr:=[(0,10),(1,11)],fz:=[10]} []<| .cr 2 ⟨fun{r_} hr_=>((Fn.wU (frz:=[0,1,2,3,4,5,6]) (p:=[s_.closed.length=s_.closed.length,s_.locked.length=s_.locked.length,s_.badLink.length=s_.badLink.length,s_.on_.length=s_.on_.length,s_.badSource.length=s_.badSource.length,s_.earthed.length=s_.earthed.length,s_.badBus.length=s_.badBus.length]) (dP p s_ hr_) (by kernel_rfl) ⟨rfl,rfl,rfl,rfl,rfl,rfl,rfl,trivial⟩ rfl):Fn Tryz.prog 110 (MX p s_) (EL s_) (vI r_) (EL s_))⟩ fun r_=> .r<| .r<| .it (.r<| .e (([]:List Bool),r_))
  (.a3 ((0:Int)≤p.buses) (Yt p) (Yn p)<| .rg {an:=[(2, .arr (Dq p).length (N8 p))],fr:=[(2,12)]} [0, .e ((p.buses:Int)),1,2, .pf ⟨(Dq p).length=p.buses.toNat,List.length_replicate⟩, .pf ⟨aB p.buses.toNat 1 (fun _ j=>[(.bool false)].getD j .nilp) (N8 p),gL _ _ _ _ _ (fun j hj=>(match j,hj with|0,_=>rfl))⟩]<| .r<| .lp (σ:=((List Bool) × Int)) (β:=(List Bool)) ((Dq p),0) [] [] ⟨[2,3],[0,1,2,3,4,5,6,11],fun(u1,kz)=>[(7,(vO 12 true u1.length)),(8,(vI kz))],fun(u1,kz)=>[(12,some (aX 4 1 af u1))]⟩ ⟨[],[0,1,2,3,4,5,6],fun u3=>[(7,(vO 12 true u3.length))],fun u3=>[(12,some (aX 4 1 af u3))]⟩
  (fun(u1,kz)=> .r<| .it (.cr 3 ⟨fun{u5} hr_1=>((Fn.wU (frz:=[0,1,2,3,4,5,6]) (p:=[s_.closed.length=s_.closed.length,s_.locked.length=s_.locked.length,s_.badLink.length=s_.badLink.length,s_.on_.length=s_.on_.length,s_.badSource.length=s_.badSource.length,s_.earthed.length=s_.earthed.length,s_.badBus.length=s_.badBus.length]) (gK p s_ kz hr_1) (by kernel_rfl) ⟨rfl,rfl,rfl,rfl,rfl,rfl,rfl,trivial⟩ rfl):Fn Tryz.prog 119 (Tk p s_ kz) (EL s_) (vB u5) (EL s_))⟩ fun u5=> .r<| .it (.r<| .e (.next (TW kz u1)))
  (.cr 8 (rC p s_ (Wo kz p)) fun u2=> .a1 (k77 kz p)<| .rg {} [0,1]<| .r<| .lp (σ:=((List Bool) × Int)) (β:=(List Bool)) (u1,0) [] [] ⟨[2,3,8,9],[0,1,2,3,4,5,6,11],fun(u0,b)=>[(7,(vO 12 true u0.length)),(10,(vI b))],fun(u0,b)=>[(12,some (aX 4 1 af u0))]⟩ ⟨[2,3,8],[0,1,2,3,4,5,6,11],fun u4=>[(7,(vO 12 true u4.length))],fun u4=>[(12,some (aX 4 1 af u4))]⟩
  (fun(u0,b)=> .r<| .it (.a2 (TY u0 b) ((gB [((at' u0 b.toNat),false)]=true→(0:Int)≤b∧b<(u2.length:Int)))<| .rg {an:=[(13, .arr 0 (U4 u0 b u2))]} [0, .t 0 b u0.length,1,0, .t 0 b u0.length, .pf ⟨aB u0.length 1 (jk (aj af u0) b.toNat 0 [(.bool (bif (at' u0 b.toNat)then true else(at' u2 b.toNat)))]) (U4 u0 b u2),bG _ _ _ _ _ _ _ _ rfl (fun j hj=>(match j,hj with|0,_=>rfl))⟩]<| .im (.ll 12 u0 (Un u0 b u2))<| .r<| .e (.next (YP u0 b u2)))
  (.e (.done (.brk u0))))
  (fun u4=> .r<| .e (.next (TW kz u4)))))
  (.e (.done (.brk u1))))
  (fun u3=> .rg {fz:=[12]} []<| .e (u3,0))))
section
variable (u3:(List ah))
abbrev VF:List (Nat × Option Ob):=[(44,some (aX 44 2 ah.cell u3))]
end
theorem pV (p:ai) (s_:State):dJ Tryz.prog 113 (MX p s_) (EL s_) (fun r=>(.dN [(sD (aR none 2 ah.cell r.1)),(sI r.2)])) (fun r=>(EL s_)) (dR p s_):=
  dZ tT mX Tryz.func113 (
  .rg {fr:=[(0,41),(1,42)],fz:=[41]} []<| .cr 2 ⟨fun{r_} hr_=>((Fn.wU (frz:=[0,1,2,3,4,5,6]) (p:=[s_.closed.length=s_.closed.length,s_.locked.length=s_.locked.length,s_.badLink.length=s_.badLink.length,s_.on_.length=s_.on_.length,s_.badSource.length=s_.badSource.length,s_.earthed.length=s_.earthed.length,s_.badBus.length=s_.badBus.length]) (dP p s_ hr_) (by kernel_rfl) ⟨rfl,rfl,rfl,rfl,rfl,rfl,rfl,trivial⟩ rfl):Fn Tryz.prog 110 (MX p s_) (EL s_) (vI r_) (EL s_))⟩ fun r_=> .r<| .r<| .it (.r<| .e (([]:List ah),r_))
  (.r<| .r<| .im (.ad 7 75 44 2 (aj ah.cell ([]:List ah)))<| .lp (σ:=((List ah) × Int)) (β:=(List ah)) (([]:List ah),0) [] [(75,44)] ⟨[2,3],[0,1,2,3,4,5,6,42],fun(u3,i)=>[(7,(vO 44 false u3.length)),(8,(vI i))],fun(u3,i)=>(VF u3)⟩ ⟨[],[0,1,2,3,4,5,6],fun u4=>[(7,(vO 44 false u4.length))],fun u4=>(VF u4)⟩
  (fun(u3,i)=> .r<| .it (.r<| .lp (σ:=((List ah) × Int)) (β:=(List ah)) (JI i u3) [] [] ⟨[2,3,8],[0,1,2,3,4,5,6,42],fun(u0,kz)=>[(7,(vO 44 false u0.length)),(9,(vI kz))],fun(u0,kz)=>(VF u0)⟩ ⟨[2,3,8],[0,1,2,3,4,5,6,42],fun u5=>[(7,(vO 44 false u5.length))],fun u5=>(VF u5)⟩
  (fun(u0,kz)=> .r<| .it (.cr 3 ⟨fun{u1} hr_1=>((Fn.wU (frz:=[0,1,2,3,4,5,6]) (p:=[s_.closed.length=s_.closed.length,s_.locked.length=s_.locked.length,s_.badLink.length=s_.badLink.length,s_.on_.length=s_.on_.length,s_.badSource.length=s_.badSource.length,s_.earthed.length=s_.earthed.length,s_.badBus.length=s_.badBus.length]) (gK p s_ i hr_1) (by kernel_rfl) ⟨rfl,rfl,rfl,rfl,rfl,rfl,rfl,trivial⟩ rfl):Fn Tryz.prog 119 (Tk p s_ i) (EL s_) (vB u1) (EL s_))⟩ fun u1=> .cgr 8 [(u1,true)] ⟨fun{u2} hr_2=>((Fn.wU (frz:=[0,1,2,3,4,5,6]) (p:=[s_.closed.length=s_.closed.length,s_.locked.length=s_.locked.length,s_.badLink.length=s_.badLink.length,s_.on_.length=s_.on_.length,s_.badSource.length=s_.badSource.length,s_.earthed.length=s_.earthed.length,s_.badBus.length=s_.badBus.length]) (gK p s_ kz hr_2) (by kernel_rfl) ⟨rfl,rfl,rfl,rfl,rfl,rfl,rfl,trivial⟩ rfl):Fn Tryz.prog 119 (Tk p s_ kz) (EL s_) (vB u2) (EL s_))⟩ fun u2=> .cgr 19 [(k5 u1 u2)] (rC p s_ (Wo i p)) fun u6=> .cg 40 [(VY u1 u2 u6 p kz)] (wN (at' p.sources i.toNat) (at' p.sources kz.toNat)) fun u7=> .a5 (Uy u1 u2 p i) (Uy u1 u2 p kz) (aah u1 u2 u6 p kz) (ZI u1 u2 u6 p kz i) (Zv u1 u2 u6 p kz)<| .rg {} [8,7,0,6,1,2,3,4,5]<| .it (.a2 ((u0.length+[(⟨i,kz⟩:ah)].length)*16≤140737488355328) (u0.length+[(⟨i,kz⟩:ah)].length≤4611686018427387904)<| .rg {an:=[(4, .arr [(⟨i,kz⟩:ah)].length (Qi kz i)),(5, .arr (u0++[(⟨i,kz⟩:ah)]).length (Vb kz i u0))],fr:=[(4,73),(5,74)]} [.pf ⟨[(⟨i,kz⟩:ah)].length=1,rfl⟩, .pf ⟨aB 1 2 (jm 2 [(.int .i64 i),(.int .i64 kz)]) (Qi kz i),(by intro i hi j hj;match i,j,hi,hj with|0,0,_,_=>rfl|0,1,_,_=>rfl)⟩, .e (u0.length),0,1, .pf ⟨(u0++[(⟨i,kz⟩:ah)]).length=u0.length+[(⟨i,kz⟩:ah)].length,List.length_append⟩, .pf ⟨aB (u0.length+[(⟨i,kz⟩:ah)].length) 2 (ku (aj ah.cell u0) u0.length (Qi kz i)) (Vb kz i u0),bD _ _ _ _⟩]<| .r<| .en (.next ((u0++[(⟨i,kz⟩:ah)]),(k10 kz))) [] [(74,44)])
  (.r<| .e (.next (JI kz u0))))
  (.e (.done (.brk u0))))
  (fun u5=> .r<| .e (.next (JI i u5))))
  (.e (.done (.brk u3))))
  (fun u4=> .rg {fz:=[44]} []<| .e (u4,0))))
section
variable (u0:State) (x:Transfer) (s_:State) (r_:((List Bool) × Int))
abbrev G5:=(u0.closed.set x.close.toNat true)
abbrev aay:=(bif (bif (!(at' s_.badBus x.watch.toNat))then(!(at' r_.1 x.watch.toNat))else false)then(!(at' s_.closed x.close.toNat))else false)
abbrev YE:=(bif (aay x s_ r_)then(!(at' s_.badLink x.close.toNat))else false)
abbrev Vm:=((G5 u0 x).set x.open_.toNat false)
abbrev XC:=(bif (YE x s_ r_)then(!(at' s_.locked x.close.toNat))else false)
abbrev Zc:=((XC x s_ r_),true)
abbrev ZY:=(bif (XC x s_ r_)then(!(at' s_.badLink x.open_.toNat))else false)
abbrev XO:=(⟨(Vm u0 x),u0.locked,u0.badLink,u0.on_,u0.badSource,u0.earthed,u0.badBus⟩:State)
abbrev YK:=(bif (ZY x s_ r_)then(!(at' s_.locked x.open_.toNat))else false)
abbrev X4:=(⟨(G5 u0 x),u0.locked,u0.badLink,u0.on_,u0.badSource,u0.earthed,u0.badBus⟩:State)
end
theorem EG (p:ai) (s_:State) (x:Transfer):dJ Tryz.prog 57 [(.agg (k1 p)),(.agg (k21 s_)),(.agg [(cI x.watch),(cI x.open_),(cI x.close)])] [] (fun r=>(.dN [(.agg [(.d (aR none 1 af r.1.closed)),(.d (aR none 1 af r.1.locked)),(.d (aR none 1 af r.1.badLink)),(.d (aR none 1 af r.1.on_)),(.d (aR none 1 af r.1.badSource)),(.d (aR none 1 af r.1.earthed)),(.d (aR none 1 af r.1.badBus))]),(sB r.2)])) (fun _=>[]) (uN p s_ x):=
  dZ tT mX Tryz.func57 (
  .rg {fr:=[(0,13),(1,14),(2,15),(3,16)],fz:=[13,14]} []<| .cl 2 (xL p s_) fun r_=> .r<| .cl 1 (jT [(0,17),(1,18),(2,19),(3,20),(4,21),(5,22),(6,23),(7,24)] (xP s_)) fun u0=> .rg {fr:=[(2,25)]} []<| .a1 ((0:Int)≤x.close∧x.close<(u0.closed.length:Int))<| .rg {an:=[(5, .arr 0 (aj af (G5 u0 x)))]} [0, .t 0 x.close u0.closed.length, .pf ⟨aB u0.closed.length 1 (jk (aj af u0.closed) x.close.toNat 0 [(.bool true)]) (aj af (G5 u0 x)),bG _ _ _ _ _ _ _ _ rfl (fun j hj=>(match j,hj with|0,_=>rfl))⟩]<| .im (.ll 17 u0.closed (G5 u0 x))<| .a5 ((0:Int)≤x.watch∧x.watch<(s_.badBus.length:Int)) ((gB [((!(at' s_.badBus x.watch.toNat)),true)]=true→(0:Int)≤x.watch∧x.watch<(r_.1.length:Int))) ((gB [((bif (!(at' s_.badBus x.watch.toNat))then(!(at' r_.1 x.watch.toNat))else false),true)]=true→(0:Int)≤x.close∧x.close<(s_.closed.length:Int))) ((gB [((aay x s_ r_),true)]=true→(0:Int)≤x.close∧x.close<(s_.badLink.length:Int))) ((gB [((YE x s_ r_),true)]=true→(0:Int)≤x.close∧x.close<(s_.locked.length:Int)))<| .rg {} [0,1,2,3,4]<| .r<| .it (.a1 ((0:Int)≤x.open_∧x.open_<((G5 u0 x).length:Int))<| .rg {an:=[(5, .arr 0 (aj af (Vm u0 x)))],fz:=[15]} [0, .t 0 x.open_ ((G5 u0 x).length), .pf ⟨aB (G5 u0 x).length 1 (jk (aj af (G5 u0 x)) x.open_.toNat 0 [(.bool false)]) (aj af (Vm u0 x)),bG _ _ _ _ _ _ _ _ rfl (fun j hj=>(match j,hj with|0,_=>rfl))⟩]<| .im (.ll 17 (G5 u0 x) (Vm u0 x))<| .a2 ((gB [(Zc x s_ r_)]=true→(0:Int)≤x.open_∧x.open_<(s_.badLink.length:Int))) ((gB [((ZY x s_ r_),true)]=true→(0:Int)≤x.open_∧x.open_<(s_.locked.length:Int)))<| .rg {} [0,1]<| .cr 2 (jT [(0,17),(1,18),(2,19),(3,20),(4,21),(5,22),(6,23)] (tq p (XO u0 x))) fun u1=> .r<| .a1 ((gB [((YK x s_ r_),true)]=true→(0:Int)≤x.watch∧x.watch<(u1.1.length:Int)))<| .r<| .r<| .lp (σ:=(Bool × Int)) (β:=Bool) ((bif (YK x s_ r_)then(at' u1.1 x.watch.toNat)else false),0) [] [] ⟨[3,4,6,8,10,12],[16,17,18,19,20,21,22,23,25],fun(u6,b)=>[(11,(vB u6)),(14,(vI b))],fun(u6,b)=>[]⟩ ⟨[3,4,6,10],[16,17,18,19,20,21,22,23,25],fun v0=>[(11,(vB v0))],fun v0=>[]⟩
  (fun(u6,b)=> .r<| .it (.a5 (Vf r_ b) (Ux r_ b u1) (V4 r_ b u1) (Ua s_ r_ b u1) (UI s_ r_ b u1)<| .rg {} [0,1,2,3,4]<| .it (.r<| .r<| .e (.next (false,(k10 b))))
  (.r<| .e (.next (u6,(k10 b)))))
  (.e (.done (.brk u6))))
  (fun v0=> .cl 2 (tH p s_) fun v6=> .r<| .cr 2 (jT [(0,17),(1,18),(2,19),(3,20),(4,21),(5,22),(6,23)] (pV p (XO u0 x))) fun v7=> .r<| .r<| .lp (σ:=(Bool × Int)) (β:=Bool) (v0,0) [] [] ⟨[6,10,15,17],[16,17,18,19,20,21,22,23,25],fun(u7,i)=>[(11,(vB u7)),(19,(vI i))],fun(u7,i)=>[]⟩ ⟨[6,10],[16,17,18,19,20,21,22,23,25],fun v1=>[(11,(vB v1))],fun v1=>[]⟩
  (fun(u7,i)=> .r<| .it (.r<| .r<| .lp (σ:=(Bool × Int)) (β:=Bool) (false,0) [] [] ⟨[6,10,11,15,17,19],[16,17,18,19,20,21,22,23,25],fun(u4,kz)=>[(20,(vB u4)),(21,(vI kz))],fun(u4,kz)=>[]⟩ ⟨[6,10,11,15,17,19],[16,17,18,19,20,21,22,23,25],fun v2=>[(20,(vB v2))],fun v2=>[]⟩
  (fun(u4,kz)=> .r<| .it (.a2 (Uz u4 kz v6) (Uz u4 i v7)<| .rg {} [0,1]<| .r<| .e (.next (aam u4 kz v6 v7 i)))
  (.e (.done (.brk u4))))
  (fun v2=> .r<| .r<| .e (.next ((bif u7 then v2 else false),(k10 i)))))
  (.e (.done (.brk u7))))
  (fun v1=> .rg {fz:=[17,18,19,20,21,22,23]} []<| .fz [16]<| .e ((XO u0 x),v1))))
  (.cr 2 (jT [(0,17),(1,18),(2,19),(3,20),(4,21),(5,22),(6,23)] (tq p (X4 u0 x))) fun u2=> .rg {fz:=[15]} []<| .a1 ((gB [(Zc x s_ r_)]=true→(0:Int)≤x.watch∧x.watch<(u2.1.length:Int)))<| .r<| .r<| .lp (σ:=(Bool × Int)) (β:=Bool) ((bif (XC x s_ r_)then(at' u2.1 x.watch.toNat)else false),0) [] [] ⟨[3,4,6,8,10,12],[16,17,18,19,20,21,22,23,25],fun(u8,b1)=>[(11,(vB u8)),(14,(vI b1))],fun(u8,b1)=>[]⟩ ⟨[3,4,6,10],[16,17,18,19,20,21,22,23,25],fun v3=>[(11,(vB v3))],fun v3=>[]⟩
  (fun(u8,b1)=> .r<| .it (.a5 (Vf r_ b1) (Ux r_ b1 u2) (V4 r_ b1 u2) (Ua s_ r_ b1 u2) (UI s_ r_ b1 u2)<| .rg {} [0,1,2,3,4]<| .it (.r<| .r<| .e (.next (false,(k10 b1))))
  (.r<| .e (.next (u8,(k10 b1)))))
  (.e (.done (.brk u8))))
  (fun v3=> .cl 2 (tH p s_) fun v8=> .r<| .cr 2 (jT [(0,17),(1,18),(2,19),(3,20),(4,21),(5,22),(6,23)] (pV p (X4 u0 x))) fun v9=> .r<| .r<| .lp (σ:=(Bool × Int)) (β:=Bool) (v3,0) [] [] ⟨[6,10,15,17],[16,17,18,19,20,21,22,23,25],fun(u9,i1)=>[(11,(vB u9)),(19,(vI i1))],fun(u9,i1)=>[]⟩ ⟨[6,10],[16,17,18,19,20,21,22,23,25],fun v4=>[(11,(vB v4))],fun v4=>[]⟩
  (fun(u9,i1)=> .r<| .it (.r<| .r<| .lp (σ:=(Bool × Int)) (β:=Bool) (false,0) [] [] ⟨[6,10,11,15,17,19],[16,17,18,19,20,21,22,23,25],fun(u5,u3)=>[(20,(vB u5)),(21,(vI u3))],fun(u5,u3)=>[]⟩ ⟨[6,10,11,15,17,19],[16,17,18,19,20,21,22,23,25],fun v5=>[(20,(vB v5))],fun v5=>[]⟩
  (fun(u5,u3)=> .r<| .it (.a2 (Uz u5 u3 v8) (Uz u5 i1 v9)<| .rg {} [0,1]<| .r<| .e (.next (aam u5 u3 v8 v9 i1)))
  (.e (.done (.brk u5))))
  (fun v5=> .r<| .r<| .e (.next ((bif u9 then v5 else false),(k10 i1)))))
  (.e (.done (.brk u9))))
  (fun v4=> .rg {fz:=[17,18,19,20,21,22,23]} []<| .fz [16]<| .e ((X4 u0 x),v4)))))
section
variable (r_:Bool) (u0:Bool) (u1:Bool) (u2:Bool) (u3:Bool) (u4:Bool)
end
theorem om (l:(List Bool)) (i:Int) (is:Bool):dJ Tryz.prog 115 [(sD (aR none 1 af l)),(sI i),(sB is)] [] (fun r=>(vO 0 false r.length)) (fun r=>[(0,some (aX 4 1 af r))]) (mP l i is):=
  dZ tT mX Tryz.func115 (
  .r<| .a2 ((([]:List Bool).length+l.length)*1≤140737488355328) (([]:List Bool).length+l.length≤4611686018427387904)<| .rg {an:=[(0, .arr ([]:List Bool).length (aj af ([]:List Bool))),(2, .arr (([]:List Bool)++l).length (Zn l))],fr:=[(0,2),(2,3)]} [.pf ⟨([]:List Bool).length=0,rfl⟩, .pf ⟨aB 0 1 (jm 1 []) (aj af ([]:List Bool)),(fun i hi=>absurd hi (Nat.not_lt_zero i))⟩, .e (([]:List Bool).length),0,1, .pf ⟨(([]:List Bool)++l).length=([]:List Bool).length+l.length,List.length_append⟩, .pf ⟨aB (([]:List Bool).length+l.length) 1 (ku (aj af ([]:List Bool)) ([]:List Bool).length (aj af l)) (Zn l),bD _ _ _ _⟩]<| .a1 ((0:Int)≤i∧i<((([]:List Bool)++l).length:Int))<| .rg {an:=[(4, .arr 0 (aj af ((([]:List Bool)++l).set i.toNat is)))]} [0, .t 0 i ((([]:List Bool)++l).length), .pf ⟨aB (([]:List Bool)++l).length 1 (jk (Zn l) i.toNat 0 [(.bool is)]) (aj af ((([]:List Bool)++l).set i.toNat is)),bG _ _ _ _ _ _ _ _ rfl (fun j hj=>(match j,hj with|0,_=>rfl))⟩]<| .im (.ll 3 (([]:List Bool)++l) ((([]:List Bool)++l).set i.toNat is))<| .r<| .en ((([]:List Bool)++l).set i.toNat is) [] [(3,0)])
theorem qP (p:ai) (s_:State) (x:Part) (is:Bool):dJ Tryz.prog 59 (aau x p s_ is) [] (fun r=>(.dN [(.agg [(.d (aR none 1 af r.1.closed)),(.d (aR none 1 af r.1.locked)),(.d (aR none 1 af r.1.badLink)),(.d (aR none 1 af r.1.on_)),(.d (aR none 1 af r.1.badSource)),(.d (aR none 1 af r.1.earthed)),(.d (aR none 1 af r.1.badBus))]),(sI r.2)])) (fun _=>[]) (lQ p s_ x is):=
  dZ tT mX Tryz.func59 (
  .rg {fr:=[(0,7),(1,8),(2,9),(3,10)],fz:=[7,9]} []<| .cl 2 (dP p s_) fun r_=> .r<| .r<| .it (.r<| .en (TF r_) [10] [])
  (.r<| .it (.r<| .en ((⟨([]:List Bool),([]:List Bool),([]:List Bool),([]:List Bool),([]:List Bool),([]:List Bool),([]:List Bool)⟩:State),14) [10] [])
  (.r<| .it (.cl 5 (jT [(0,11)] (om s_.badBus x.index is)) fun u0=> .r<| .r<| .fz [11]<| .en ((⟨s_.closed,s_.locked,s_.badLink,s_.on_,s_.badSource,s_.earthed,u0⟩:State),0) [10] [])
  (.r<| .it (.cl 5 (jT [(0,12)] (om s_.badSource x.index is)) fun u1=> .r<| .r<| .fz [12]<| .en ((⟨s_.closed,s_.locked,s_.badLink,s_.on_,u1,s_.earthed,s_.badBus⟩:State),0) [10] [])
  (.r<| .it (.cl 5 (jT [(0,13)] (om s_.badLink x.index is)) fun u2=> .r<| .r<| .fz [13]<| .en ((⟨s_.closed,s_.locked,u2,s_.on_,s_.badSource,s_.earthed,s_.badBus⟩:State),0) [10] [])
  (.r<| .en ((⟨([]:List Bool),([]:List Bool),([]:List Bool),([]:List Bool),([]:List Bool),([]:List Bool),([]:List Bool)⟩:State),14) [10] []))))))
section
variable (u4:(List Bool)) (u5:(List Bool)) (u6:(List Bool)) (u7:(List Bool)) (u8:(List Bool)) (u9:(List Bool)) (v0:(List Bool)) (u0:(List Int))
abbrev Zf:Nat × Option Ob:=(56,some (Uk u4 u5 u6 u7 u8 u9 v0))
abbrev aaw:List (Nat × Option Ob):=[(Zf u4 u5 u6 u7 u8 u9 v0),(65,some (CJ u0))]
end
theorem qO (p:ai) (s_:State) (l:(List Transfer)):dJ Tryz.prog 18 (Yr p s_ l) [] (fun r=>(.dN [(.agg [(.d (aR none 1 af r.1.closed)),(.d (aR none 1 af r.1.locked)),(.d (aR none 1 af r.1.badLink)),(.d (aR none 1 af r.1.on_)),(.d (aR none 1 af r.1.badSource)),(.d (aR none 1 af r.1.earthed)),(.d (aR none 1 af r.1.badBus))]),(.one (.own 0 false r.2.1.length)),(sI r.2.2)])) (fun r=>[(0,some (aX 3 1 (aG .i64) r.2.1))]) (mg p s_ l):=
  dZ tT mX Tryz.func18 (
  .rg {fr:=[(0,52),(1,53),(2,54)],fz:=[52,53]} []<| .cl 3 (dQ p s_ l) fun r_=> .r<| .r<| .it (.r<| .im (.ad 7 55 3 1 (aj (aG .i64) ([]:List Int)))<| .en (YT r_) [54] [(55,0)])
  (.cl 1 (AA s_) fun u1=> .rg {fr:=[(2,56)]} []<| .r<| .r<| .im (.ad 11 105 3 1 (aj (aG .i64) ([]:List Int)))<| .lp (σ:=((List Bool) × (List Bool) × (List Bool) × (List Bool) × (List Bool) × (List Bool) × (List Bool) × (List Int) × Int)) (β:=((List Bool) × (List Bool) × (List Bool) × (List Bool) × (List Bool) × (List Bool) × (List Bool) × (List Int))) (u1.closed,u1.locked,u1.badLink,u1.on_,u1.badSource,u1.earthed,u1.badBus,([]:List Int),0) [] [(105,65)] ⟨[2,3,6,10],[54],fun(u4,u5,u6,u7,u8,u9,v0,u0,n)=>[(11,(vO 65 false u0.length)),(12,(vI n))],fun(u4,u5,u6,u7,u8,u9,v0,u0,n)=>(aaw u4 u5 u6 u7 u8 u9 v0 u0)⟩ ⟨[6,10],[54],fun(v3,v4,v5,v6,v7,v8,v9,v1)=>[(11,(vO 65 false v1.length))],fun(v3,v4,v5,v6,v7,v8,v9,v1)=>(aaw v3 v4 v5 v6 v7 v8 v9 v1)⟩
  (fun(u4,u5,u6,u7,u8,u9,v0,u0,n)=> .r<| .it (.r<| .lp (σ:=Int) (β:=((List Bool) × (List Bool) × (List Bool) × (List Bool) × (List Bool) × (List Bool) × (List Bool) × (List Int))) (0) [] [] ⟨[2,3,6,10,11,12],[54,56,65],fun i=>[(13,(vI i))],fun i=>[]⟩ ⟨[2,3,6,10,12],[54],fun(w0,w1,w2,w3,w4,w5,w6,v2)=>[(11,(vO 101 false v2.length))],fun(w0,w1,w2,w3,w4,w5,w6,v2)=>[(Zf w0 w1 w2 w3 w4 w5 w6),(101,some (CJ v2))]⟩
  (fun i=> .r<| .it (.r<| .r<| .lp (σ:=(Bool × Int)) (β:=Bool) (false,0) [] [] ⟨[2,3,6,10,11,12,13],[54,56,65],fun(u2,kz)=>[(14,(vB u2)),(15,(vI kz))],fun(u2,kz)=>[]⟩ ⟨[2,3,6,10,11,12,13],[54,56,65],fun w7=>[(14,(vB w7))],fun w7=>[]⟩
  (fun(u2,kz)=> .r<| .it (.a1 ((gB [(u2,false)]=true→(0:Int)≤kz∧kz<(u0.length:Int)))<| .rg {} [0, .tg 0 [(u2,false)] kz u0.length]<| .r<| .e (.next ((bif u2 then true else(decide ((at' u0 kz.toNat)=i))),(k10 kz))))
  (.e (.done (.brk u2))))
  (fun w7=> .cl 6 (EG p (KR u4 u5 u6 u7 u8 u9 v0) (at' l i.toNat)) fun u3=> .a1 (k35 l i)<| .rg {fr:=[(10,102)]} [0,1]<| .r<| .it (.r<| .a2 (QM u0 i) (Sj u0 i)<| .rg {an:=[(2, .arr [i].length (aj (aG .i64) [i])),(3, .arr (u0++[i]).length (G7 u0 i))],fr:=[(2,103),(3,104)]} [.pf ⟨[i].length=1,rfl⟩, .pf ⟨aB 1 1 (jm 1 [(.int .i64 i)]) (aj (aG .i64) [i]),(by intro i hi j hj;match i,j,hi,hj with|0,0,_,_=>rfl)⟩, .e (u0.length),0,1, .pf ⟨(u0++[i]).length=u0.length+[i].length,List.length_append⟩, .pf ⟨aB (u0.length+[i].length) 1 (Ta u0 i) (G7 u0 i),bD _ _ _ _⟩]<| .en (.done (.brk (u3.1.closed,u3.1.locked,u3.1.badLink,u3.1.on_,u3.1.badSource,u3.1.earthed,u3.1.badBus,(u0++[i])))) [] [(104,101)])
  (.r<| .e (.next (k10 i)))))
  (.en (.done (.brk (u4,u5,u6,u7,u8,u9,v0,u0))) [] [(65,101)]))
  (fun(w0,w1,w2,w3,w4,w5,w6,v2)=> .r<| .en (.next (w0,w1,w2,w3,w4,w5,w6,v2,(k10 n))) [] [(101,65)]))
  (.e (.done (.brk (u4,u5,u6,u7,u8,u9,v0,u0)))))
  (fun(v3,v4,v5,v6,v7,v8,v9,v1)=> .r<| .en ((KR v3 v4 v5 v6 v7 v8 v9),v1,0) [54] [(65,0)])))
theorem DW (p:ai) (s_:State) (l:(List Transfer)) (u3:(List Part)):dJ Tryz.prog 23 (Tw p s_ l u3) [] (fun r=>(.dN [(sD (aR none 1 (aG .i64) r.1)),(sI r.2)])) (fun _=>[]) (mo p s_ l u3):=
  dZ tT mX Tryz.func23 (
  .rg {fr:=[(0,23),(1,24)],fz:=[24]} []<| .cl 4 (jT [(0,25),(1,26),(2,27),(3,28),(4,29),(5,30),(6,31),(7,32)] (jr p s_ l u3)) fun r_=> .rg {fr:=[(8,33)],fz:=[25,26,27,28,29,30,31]} []<| .fz [33]<| .r<| .it (.r<| .e (([]:List Int),r_.2))
  (.r<| .rg {fz:=[23]} []<| .im (.ad 12 46 3 1 (aj (aG .i64) ([]:List Int)))<| .lp (σ:=((List Int) × Int)) (β:=(List Int)) (([]:List Int),0) [] [(46,36)] ⟨[4,10,27,28],[],fun(u1,u0)=>[(12,(vO 36 false u1.length)),(29,(vI u0))],fun(u1,u0)=>[(36,some (CJ u1))]⟩ ⟨[],[],fun u2=>[(12,(vO 36 false u2.length))],fun u2=>[(36,some (CJ u2))]⟩
  (fun(u1,u0)=> .r<| .it (.a1 (JP p u0)<| .rg {fr:=[(3,43)],fz:=[43]} []<| .cg 7 [((decide (0<((at' p.racks u0.toNat).paths))),true)] (jD p r_.1 u0) fun u4=> .r<| .it (.a2 (QM u1 u0) (Sj u1 u0)<| .rg {an:=[(2, .arr [u0].length (aj (aG .i64) [u0])),(3, .arr (u1++[u0]).length (G7 u1 u0))],fr:=[(2,44),(3,45)]} [.pf ⟨[u0].length=1,rfl⟩, .pf ⟨aB 1 1 (jm 1 [(.int .i64 u0)]) (aj (aG .i64) [u0]),(by intro i hi j hj;match i,j,hi,hj with|0,0,_,_=>rfl)⟩, .e (u1.length),0,1, .pf ⟨(u1++[u0]).length=u1.length+[u0].length,List.length_append⟩, .pf ⟨aB (u1.length+[u0].length) 1 (Ta u1 u0) (G7 u1 u0),bD _ _ _ _⟩]<| .r<| .en (.next ((u1++[u0]),(k10 u0))) [] [(45,36)])
  (.r<| .e (.next (u1,(k10 u0)))))
  (.e (.done (.brk u1))))
  (fun u2=> .rg {fz:=[36]} []<| .e (u2,0))))
section
variable (p:ai) (u0:Int) (r_:((List Bool) × Int)) (u1:(List aN))
abbrev YS:=(bif (decide (0≤((nQ p u0).e1)))then(at' r_.1 ((if(nQ p u0).e1<0 then 0 else(nQ p u0).e1).toNat))else false)
abbrev Nc:=(⟨(at' r_.1 (((nQ p u0).e0).toNat)),(YS p u0 r_)⟩:aN)
abbrev aaB:=(u1.length+[(Nc p u0 r_)].length)
abbrev Xg:=(aj aN.cell [(Nc p u0 r_)])
abbrev Us:=(u1++[(Nc p u0 r_)])
abbrev ZG:=(aj aN.cell (Us p u0 r_ u1))
end
theorem FM (p:ai) (s_:State):dJ Tryz.prog 116 (k20 s_ p) [] (fun r=>(.dN [(sD (aR none 2 aN.cell r.1)),(sI r.2)])) (fun _=>[]) (uS p s_):=
  dZ tT mX Tryz.func116 (
  .rg {fr:=[(0,14),(1,15)],fz:=[15]} []<| .cl 2 (xL p s_) fun r_=> .r<| .r<| .it (.r<| .e (([]:List aN),r_.2))
  (.r<| .r<| .im (.ad 8 28 95 2 (aj aN.cell ([]:List aN)))<| .lp (σ:=((List aN) × Int)) (β:=(List aN)) (([]:List aN),0) [] [(28,18)] ⟨[2,6],[14],fun(u1,u0)=>[(8,(vO 18 false u1.length)),(9,(vI u0))],fun(u1,u0)=>[(18,some (aX 95 2 aN.cell u1))]⟩ ⟨[],[],fun u2=>[(8,(vO 18 false u2.length))],fun u2=>[(18,some (aX 95 2 aN.cell u2))]⟩
  (fun(u1,u0)=> .r<| .it (.a1 (JP p u0)<| .rg {fr:=[(6,25)],fz:=[25]} []<| .a4 ((0:Int)≤(nQ p u0).e0∧(nQ p u0).e0<(r_.1.length:Int)) ((gB [((decide (0≤((nQ p u0).e1))),true)]=true→(0:Int)≤(if(nQ p u0).e1<0 then 0 else(nQ p u0).e1)∧(if(nQ p u0).e1<0 then 0 else(nQ p u0).e1)<(r_.1.length:Int))) ((aaB p u0 r_ u1)*2≤140737488355328) (u1.length+[(Nc p u0 r_)].length≤4611686018427387904)<| .rg {an:=[(18, .arr [(Nc p u0 r_)].length (Xg p u0 r_)),(19, .arr (Us p u0 r_ u1).length (ZG p u0 r_ u1))],fr:=[(18,26),(19,27)]} [.pf ⟨(0:Int)≤0∧(0:Int)<(2:Nat),(by decide)⟩,0, .pf ⟨(0:Int)≤1∧(1:Int)<(2:Nat),(by decide)⟩, .pf ⟨(0:Int)≤1∧(1:Int)<(2:Nat),(by decide)⟩,1, .pf ⟨[(Nc p u0 r_)].length=1,rfl⟩, .pf ⟨aB 1 2 (jm 2 [(.bool (at' r_.1 (((nQ p u0).e0).toNat))),(.bool (YS p u0 r_))]) (Xg p u0 r_),(by intro i hi j hj;match i,j,hi,hj with|0,0,_,_=>rfl|0,1,_,_=>rfl)⟩, .e (u1.length),2,3, .pf ⟨(Us p u0 r_ u1).length=u1.length+[(Nc p u0 r_)].length,List.length_append⟩, .pf ⟨aB (aaB p u0 r_ u1) 2 (ku (aj aN.cell u1) u1.length (Xg p u0 r_)) (ZG p u0 r_ u1),bD _ _ _ _⟩]<| .r<| .en (.next ((Us p u0 r_ u1),(k10 u0))) [] [(27,18)])
  (.e (.done (.brk u1))))
  (fun u2=> .rg {fz:=[18]} []<| .e (u2,0))))
theorem um (p:ai) (s_:State) (u0:Int):dJ Tryz.prog 61 (G6 p s_ u0) [] (fun r=>(vB r)) (fun _=>[]) (oq p s_ u0):=
  dZ tT mX Tryz.func61 (
  .rg {fr:=[(0,2),(1,3)],fz:=[2,3]} []<| .cl 2 (FM p s_) fun r_=> .r<| .a2 ((0:Int)≤u0∧u0<(r_.1.length:Int)) ((gB [((at' r_.1 u0.toNat).e0,false)]=true→(0:Int)≤u0∧u0<(r_.1.length:Int)))<| .rg {} [0, .pf ⟨(0:Int)≤0∧(0:Int)<(2:Nat),(by decide)⟩,1, .pf ⟨(0:Int)≤1∧(1:Int)<(2:Nat),(by decide)⟩]<| .e (bif (at' r_.1 u0.toNat).e0 then true else(at' r_.1 u0.toNat).e1))
section
variable (u1:(List Bool)) (u2:(List Bool)) (u3:(List Bool)) (u4:(List Bool)) (u5:(List Bool)) (u6:(List Bool)) (u7:(List Bool))
abbrev Zz:List (Nat × Option Ob):=[(12,some (Uk u1 u2 u3 u4 u5 u6 u7))]
end
theorem zQ (p:ai) (s_:State) (l:(List Transfer)) (u8:(List Part)):dJ Tryz.prog 22 (Tw p s_ l u8) [] (fun r=>(.dN [(.agg [(.d (aR none 1 af r.1.closed)),(.d (aR none 1 af r.1.locked)),(.d (aR none 1 af r.1.badLink)),(.d (aR none 1 af r.1.on_)),(.d (aR none 1 af r.1.badSource)),(.d (aR none 1 af r.1.earthed)),(.d (aR none 1 af r.1.badBus))]),(sI r.2)])) (fun _=>[]) (kP p s_ l u8):=
  dZ tT mX Tryz.func22 (
  .rg {fr:=[(0,9),(1,10),(2,11)],fz:=[9]} []<| .cl 3 (dQ p s_ l) fun r_=> .r<| .r<| .it (.r<| .en (TF r_) [11] [])
  (.rg {fr:=[(1,12)]} []<| .r<| .lp (σ:=((List Bool) × (List Bool) × (List Bool) × (List Bool) × (List Bool) × (List Bool) × (List Bool) × Int)) (β:=((List Bool) × (List Bool) × (List Bool) × (List Bool) × (List Bool) × (List Bool) × (List Bool))) (s_.closed,s_.locked,s_.badLink,s_.on_,s_.badSource,s_.earthed,s_.badBus,0) [] [] ⟨[2,3,4,8,11],[11],fun(u1,u2,u3,u4,u5,u6,u7,i)=>[(12,(vI i))],fun(u1,u2,u3,u4,u5,u6,u7,i)=>(Zz u1 u2 u3 u4 u5 u6 u7)⟩ ⟨[2,4,8,11],[11],fun(u9,v0,v1,v2,v3,v4,v5)=>[],fun(u9,v0,v1,v2,v3,v4,v5)=>(Zz u9 v0 v1 v2 v3 v4 v5)⟩
  (fun(u1,u2,u3,u4,u5,u6,u7,i)=> .r<| .it (.cl 6 (qP p (KR u1 u2 u3 u4 u5 u6 u7) (at' u8 i.toNat) true) fun u0=> .a1 (wE u8 i)<| .rg {fr:=[(10,16)]} [0,1]<| .r<| .it (.r<| .en (.done (.ret (Xn u0))) [11] [])
  (.r<| .r<| .e (.next (XK u0 i))))
  (.e (.done (.brk (u1,u2,u3,u4,u5,u6,u7)))))
  (fun(u9,v0,v1,v2,v3,v4,v5)=> .cl 3 (jT [(0,17)] (qO p (KR u9 v0 v1 v2 v3 v4 v5) l)) fun v6=> .r<| .r<| .en (v6.1,0) [11] [])))
theorem xJ (p:ai) (s_:State) (l:(List Transfer)) (u3:(List Part)):dJ Tryz.prog 24 (Tw p s_ l u3) [] (fun r=>(.dN [(sD (aR none 1 (aG .i64) r.1)),(sI r.2)])) (fun _=>[]) (pK p s_ l u3):=
  dZ tT mX Tryz.func24 (
  .rg {fr:=[(0,11),(1,12)],fz:=[11,12]} []<| .cl 4 (zQ p s_ l u3) fun r_=> .rg {fr:=[(8,13)],fz:=[13]} []<| .r<| .it (.r<| .e (([]:List Int),r_.2))
  (.r<| .r<| .im (.ad 12 22 3 1 (aj (aG .i64) ([]:List Int)))<| .lp (σ:=((List Int) × Int)) (β:=(List Int)) (([]:List Int),0) [] [(22,15)] ⟨[4,10],[],fun(u1,u0)=>[(12,(vO 15 false u1.length)),(13,(vI u0))],fun(u1,u0)=>[(15,some (CJ u1))]⟩ ⟨[],[],fun u2=>[(12,(vO 15 false u2.length))],fun u2=>[(15,some (CJ u2))]⟩
  (fun(u1,u0)=> .r<| .it (.cg 11 [((decide (1≤((at' p.racks u0.toNat).paths))),true)] (um p r_.1 u0) fun u4=> .a1 (JP p u0)<| .rg {} [0,1]<| .it (.a2 (QM u1 u0) (Sj u1 u0)<| .rg {an:=[(2, .arr [u0].length (aj (aG .i64) [u0])),(3, .arr (u1++[u0]).length (G7 u1 u0))],fr:=[(2,20),(3,21)]} [.pf ⟨[u0].length=1,rfl⟩, .pf ⟨aB 1 1 (jm 1 [(.int .i64 u0)]) (aj (aG .i64) [u0]),(by intro i hi j hj;match i,j,hi,hj with|0,0,_,_=>rfl)⟩, .e (u1.length),0,1, .pf ⟨(u1++[u0]).length=u1.length+[u0].length,List.length_append⟩, .pf ⟨aB (u1.length+[u0].length) 1 (Ta u1 u0) (G7 u1 u0),bD _ _ _ _⟩]<| .r<| .en (.next ((u1++[u0]),(k10 u0))) [] [(21,15)])
  (.r<| .e (.next (u1,(k10 u0)))))
  (.e (.done (.brk u1))))
  (fun u2=> .rg {fz:=[15]} []<| .e (u2,0))))
section
variable (u0:(State × (List Int) × Int)) (a0:(List Bool)) (i:Int) (a5:(List Bool)) (u3:(List Bool))
end
theorem Fx (p:ai):dJ Tryz.prog 25 (k0 p) [] (fun r=>(vB r)) (fun _=>[]) (uQ p):=
  dZ tT mX Tryz.func25 (
  .rg {fr:=[(0,1)],fz:=[1]} []<| .r<| .it (.r<| .e true)
  (.cl 1 (qd p) fun r_=> .r<| .e (bif (decide (r_=0))then(bif (decide (7<p.buses))then true else(decide (12<(p.links.length:Int))))else false)))
section
variable (u3:(List aI)) (u0:Int) (u2:(List Part)) (u1:Int) (u4:(List aI))
abbrev Vu:List (Nat × Option Ob):=[(230,some (aX 87 3 aI.cell u3))]
abbrev BH:=(⟨u0,(⟨0,0⟩:Part)⟩:aI)
abbrev PO:=(aj aI.cell [(BH u0)])
abbrev ML:=(u3++[(BH u0)])
abbrev Vl:=(aj aI.cell (ML u3 u0))
abbrev CX:=(aj Part.cell [(at' u2 u1.toNat)])
abbrev Qa:=(jm 2 [(.int .i64 ((at' u2 u1.toNat).kind)),(.int .i64 ((at' u2 u1.toNat).index))])
abbrev BV:=(⟨u0,(at' u2 u1.toNat)⟩:aI)
abbrev QH:=(aj aI.cell [(BV u0 u2 u1)])
abbrev Nj:=(u4++[(BV u0 u2 u1)])
abbrev UU:=(aj aI.cell (Nj u0 u2 u1 u4))
end
theorem Bd (p:ai) (s_:State) (l:(List Transfer)):dJ Tryz.prog 38 (Yr p s_ l) [] (fun r=>(.dN [(sD (aR none 3 aI.cell r.1)),(sI r.2)])) (fun _=>[]) (iK p s_ l):=
  dZ tT mX Tryz.func38 (
  .rg {fr:=[(0,226),(1,227)],fz:=[227]} []<| .cl 3 (fB p s_ l) fun r_=> .r<| .r<| .it (.r<| .e (([]:List aI),r_))
  (.r<| .rg {fz:=[226]} []<| .im (.ad 9 452 87 3 (aj aI.cell ([]:List aI)))<| .lp (σ:=((List aI) × Int)) (β:=(List aI)) (([]:List aI),0) [] [(452,230)] ⟨[2,3,4,24,25],[],fun(u3,u0)=>[(9,(vO 230 false u3.length)),(26,(vI u0))],fun(u3,u0)=>(Vu u3)⟩ ⟨[],[],fun u6=>[(9,(vO 230 false u6.length))],fun u6=>(Vu u6)⟩
  (fun(u3,u0)=> .r<| .it (.a1 (JP p u0)<| .rg {fr:=[(3,396)],fz:=[396]} []<| .cg 7 [((decide (0<((at' p.racks u0.toNat).paths))),true)] (jD p s_ u0) fun u8=> .r<| .it (.a2 ((u3.length+[(BH u0)].length)*24≤140737488355328) (u3.length+[(BH u0)].length≤4611686018427387904)<| .rg {an:=[(3, .arr [(BH u0)].length (PO u0)),(4, .arr (ML u3 u0).length (Vl u3 u0))],fr:=[(3,397),(4,398)]} [.pf ⟨[(BH u0)].length=1,rfl⟩, .pf ⟨aB 1 3 (jm 3 [(.int .i64 u0),(.int .i64 0),(.int .i64 0)]) (PO u0),(by intro i hi j hj;match i,j,hi,hj with|0,0,_,_=>rfl|0,1,_,_=>rfl|0,2,_,_=>rfl)⟩, .e (u3.length),0,1, .pf ⟨(ML u3 u0).length=u3.length+[(BH u0)].length,List.length_append⟩, .pf ⟨aB (u3.length+[(BH u0)].length) 3 (ku (aj aI.cell u3) u3.length (PO u0)) (Vl u3 u0),bD _ _ _ _⟩]<| .r<| .en (.next ((ML u3 u0),(k10 u0))) [] [(398,230)])
  (.r<| .it (.r<| .e (.next (u3,(k10 u0))))
  (.cl 2 (jT [(0,399)] (nE p s_)) fun u2=> .r<| .lp (σ:=((List aI) × Int)) (β:=(List aI)) (u3,0) [] [] ⟨[2,3,4,10,24,25,26,51,52],[399],fun(u4,u1)=>[(9,(vO 230 false u4.length)),(53,(vI u1))],fun(u4,u1)=>(Vu u4)⟩ ⟨[2,3,4,24,25,26],[],fun u7=>[(9,(vO 230 false u7.length))],fun u7=>(Vu u7)⟩
  (fun(u4,u1)=> .r<| .it (.a1 (wE u2 u1)<| .rg {fr:=[(2,439)],fz:=[439]} [0, .t 0 u1 u2.length]<| .cl 5 ⟨fun{u5} hr_3=>((Fn.qQ (frz:=[440]) (p:=[[(at' u2 u1.toNat)].length=[(at' u2 u1.toNat)].length]) (Fn.TS (args:=[(.agg (k1 p)),(.agg (k21 s_)),(sD (JZ l)),(sD (aR none 2 Part.cell [(at' u2 u1.toNat)]))]) (args':=[(.agg (k1 p)),(.agg (k21 s_)),(sD (JZ l)),(sD (aR (some true) 2 Part.cell [(at' u2 u1.toNat)]))]) (hin:=[]) (Fn.xS [(0,441),(1,442),(2,443),(3,444),(4,445),(5,446),(6,447),(7,448)] (jr p s_ l [(at' u2 u1.toNat)] hr_3) (by kernel_rfl) (by kernel_rfl) (by kernel_rfl) (by kernel_rfl)) ⟨nA.refl _,nA.refl _,nA.refl _,nA.one (dY.d dw.eF),trivial⟩ trivial) (by kernel_rfl) ⟨rfl,trivial⟩ (by kernel_rfl) ⟨(fun _ _=>rfl),⟨(fun _ _=>rfl),⟨(fun _ _=>rfl),⟨(fun _ _=>rfl),⟨(fun _ _=>rfl),⟨(fun _ _=>rfl),⟨(fun _ _=>rfl),trivial⟩⟩⟩⟩⟩⟩⟩ (by kernel_rfl)):Fn Tryz.prog 21 [(.agg (k1 p)),(.agg (k21 s_)),(sD (JZ l)),(.one (.own 440 true ([(at' u2 u1.toNat)].length)))] [(440,some (aX 84 2 Part.cell [(at' u2 u1.toNat)]))] (.dN [(.agg [(.own 441 false u5.1.closed.length),(.own 442 false u5.1.locked.length),(.own 443 false u5.1.badLink.length),(.own 444 false u5.1.on_.length),(.own 445 false u5.1.badSource.length),(.own 446 false u5.1.earthed.length),(.own 447 false u5.1.badBus.length)]),(sI u5.2)]) [(440,some (aX 84 2 Part.cell [(at' u2 u1.toNat)])),(441,some (aX 4 1 af u5.1.closed)),(442,some (aX 4 1 af u5.1.locked)),(443,some (aX 4 1 af u5.1.badLink)),(444,some (aX 4 1 af u5.1.on_)),(445,some (aX 4 1 af u5.1.badSource)),(446,some (aX 4 1 af u5.1.earthed)),(447,some (aX 4 1 af u5.1.badBus)),(448,none)])⟩ fun u5=> .rg {an:=[(4, .arr [(at' u2 u1.toNat)].length (CX u2 u1))],fr:=[(4,440),(9,449)],fz:=[441,442,443,444,445,446,447]} [.pf ⟨[(at' u2 u1.toNat)].length=1,rfl⟩, .pf ⟨aB 1 2 (Qa u2 u1) (CX u2 u1),(by intro i hi j hj;match i,j,hi,hj with|0,0,_,_=>rfl|0,1,_,_=>rfl)⟩,0]<| .fz [449]<| .cl 3 (jD p u5.1 u0) fun u9=> .r<| .it (.a2 ((u4.length+[(BV u0 u2 u1)].length)*24≤140737488355328) (u4.length+[(BV u0 u2 u1)].length≤4611686018427387904)<| .rg {an:=[(4, .arr [(BV u0 u2 u1)].length (QH u0 u2 u1)),(5, .arr (Nj u0 u2 u1 u4).length (UU u0 u2 u1 u4))],fr:=[(4,450),(5,451)]} [.pf ⟨[(BV u0 u2 u1)].length=1,rfl⟩, .pf ⟨aB 1 3 (jm 3 [(.int .i64 u0),(.int .i64 ((at' u2 u1.toNat).kind)),(.int .i64 ((at' u2 u1.toNat).index))]) (QH u0 u2 u1),(by intro i hi j hj;match i,j,hi,hj with|0,0,_,_=>rfl|0,1,_,_=>rfl|0,2,_,_=>rfl)⟩, .e (u4.length),0,1, .pf ⟨(Nj u0 u2 u1 u4).length=u4.length+[(BV u0 u2 u1)].length,List.length_append⟩, .pf ⟨aB (u4.length+[(BV u0 u2 u1)].length) 3 (ku (aj aI.cell u4) u4.length (QH u0 u2 u1)) (UU u0 u2 u1 u4),bD _ _ _ _⟩]<| .r<| .en (.next ((Nj u0 u2 u1 u4),(k10 u1))) [] [(451,230)])
  (.r<| .e (.next (u4,(k10 u1)))))
  (.e (.done (.brk u4))))
  (fun u7=> .r<| .e (.next (u7,(k10 u0)))))))
  (.e (.done (.brk u3))))
  (fun u6=> .rg {fz:=[230]} []<| .e (u6,0))))
section
variable (u0:(List Part))
abbrev OU:List (Nat × Option Ob):=[(28,some (aX 84 2 Part.cell u0))]
end
theorem zZ (p:ai):dJ Tryz.prog 134 (k0 p) [] (fun r=>(.dN [(.one (.own 0 false r.1.length)),(sI r.2)])) (fun r=>[(0,some (aX 84 2 Part.cell r.1))]) (nM p):=
  dZ tT mX Tryz.func134 (
  .rg {fr:=[(0,25)],fz:=[25]} []<| .cl 1 (qd p) fun r_=> .r<| .r<| .it (.r<| .im (.ad 2 26 84 2 (aj Part.cell ([]:List Part)))<| .en (([]:List Part),r_) [] [(26,0)])
  (.r<| .r<| .im (.ad 5 35 84 2 (aj Part.cell ([]:List Part)))<| .lp (σ:=((List Part) × Int)) (β:=(List Part)) (([]:List Part),0) [] [(35,28)] ⟨[1],[],fun(u0,i)=>[(5,(vO 28 false u0.length)),(6,(vI i))],fun(u0,i)=>(OU u0)⟩ ⟨[1],[],fun u3=>[(5,(vO 28 false u3.length))],fun u3=>(OU u3)⟩
  (fun(u0,i)=> .r<| .it (.a2 ((u0.length+[(⟨1,i⟩:Part)].length)*16≤140737488355328) (u0.length+[(⟨1,i⟩:Part)].length≤4611686018427387904)<| .rg {an:=[(3, .arr [(⟨1,i⟩:Part)].length (aj Part.cell [(⟨1,i⟩:Part)])),(4, .arr (u0++[(⟨1,i⟩:Part)]).length (aj Part.cell (u0++[(⟨1,i⟩:Part)])))],fr:=[(3,33),(4,34)]} [.pf ⟨[(⟨1,i⟩:Part)].length=1,rfl⟩, .pf ⟨aB 1 2 (jm 2 [(.int .i64 1),(.int .i64 i)]) (aj Part.cell [(⟨1,i⟩:Part)]),(by intro i hi j hj;match i,j,hi,hj with|0,0,_,_=>rfl|0,1,_,_=>rfl)⟩, .e (u0.length),0,1, .pf ⟨(u0++[(⟨1,i⟩:Part)]).length=u0.length+[(⟨1,i⟩:Part)].length,List.length_append⟩, .pf ⟨aB (u0.length+[(⟨1,i⟩:Part)].length) 2 (ku (aj Part.cell u0) u0.length (aj Part.cell [(⟨1,i⟩:Part)])) (aj Part.cell (u0++[(⟨1,i⟩:Part)])),bD _ _ _ _⟩]<| .r<| .en (.next ((u0++[(⟨1,i⟩:Part)]),(k10 i))) [] [(34,28)])
  (.e (.done (.brk u0))))
  (fun u3=> .r<| .lp (σ:=((List Part) × Int)) (β:=(List Part)) (u3,0) [] [] ⟨[1],[],fun(u1,i1)=>[(5,(vO 28 false u1.length)),(7,(vI i1))],fun(u1,i1)=>(OU u1)⟩ ⟨[1],[],fun u4=>[(5,(vO 28 false u4.length))],fun u4=>(OU u4)⟩
  (fun(u1,i1)=> .r<| .it (.a2 ((u1.length+[(⟨2,i1⟩:Part)].length)*16≤140737488355328) (u1.length+[(⟨2,i1⟩:Part)].length≤4611686018427387904)<| .rg {an:=[(3, .arr [(⟨2,i1⟩:Part)].length (aj Part.cell [(⟨2,i1⟩:Part)])),(4, .arr (u1++[(⟨2,i1⟩:Part)]).length (aj Part.cell (u1++[(⟨2,i1⟩:Part)])))],fr:=[(3,42),(4,43)]} [.pf ⟨[(⟨2,i1⟩:Part)].length=1,rfl⟩, .pf ⟨aB 1 2 (jm 2 [(.int .i64 2),(.int .i64 i1)]) (aj Part.cell [(⟨2,i1⟩:Part)]),(by intro i hi j hj;match i,j,hi,hj with|0,0,_,_=>rfl|0,1,_,_=>rfl)⟩, .e (u1.length),0,1, .pf ⟨(u1++[(⟨2,i1⟩:Part)]).length=u1.length+[(⟨2,i1⟩:Part)].length,List.length_append⟩, .pf ⟨aB (u1.length+[(⟨2,i1⟩:Part)].length) 2 (ku (aj Part.cell u1) u1.length (aj Part.cell [(⟨2,i1⟩:Part)])) (aj Part.cell (u1++[(⟨2,i1⟩:Part)])),bD _ _ _ _⟩]<| .r<| .en (.next ((u1++[(⟨2,i1⟩:Part)]),(k10 i1))) [] [(43,28)])
  (.e (.done (.brk u1))))
  (fun u4=> .r<| .lp (σ:=((List Part) × Int)) (β:=(List Part)) (u4,0) [] [] ⟨[1],[],fun(u2,i2)=>[(5,(vO 28 false u2.length)),(8,(vI i2))],fun(u2,i2)=>(OU u2)⟩ ⟨[],[],fun u5=>[(5,(vO 28 false u5.length))],fun u5=>(OU u5)⟩
  (fun(u2,i2)=> .r<| .it (.a2 ((u2.length+[(⟨3,i2⟩:Part)].length)*16≤140737488355328) (u2.length+[(⟨3,i2⟩:Part)].length≤4611686018427387904)<| .rg {an:=[(3, .arr [(⟨3,i2⟩:Part)].length (aj Part.cell [(⟨3,i2⟩:Part)])),(4, .arr (u2++[(⟨3,i2⟩:Part)]).length (aj Part.cell (u2++[(⟨3,i2⟩:Part)])))],fr:=[(3,50),(4,51)]} [.pf ⟨[(⟨3,i2⟩:Part)].length=1,rfl⟩, .pf ⟨aB 1 2 (jm 2 [(.int .i64 3),(.int .i64 i2)]) (aj Part.cell [(⟨3,i2⟩:Part)]),(by intro i hi j hj;match i,j,hi,hj with|0,0,_,_=>rfl|0,1,_,_=>rfl)⟩, .e (u2.length),0,1, .pf ⟨(u2++[(⟨3,i2⟩:Part)]).length=u2.length+[(⟨3,i2⟩:Part)].length,List.length_append⟩, .pf ⟨aB (u2.length+[(⟨3,i2⟩:Part)].length) 2 (ku (aj Part.cell u2) u2.length (aj Part.cell [(⟨3,i2⟩:Part)])) (aj Part.cell (u2++[(⟨3,i2⟩:Part)])),bD _ _ _ _⟩]<| .r<| .en (.next ((u2++[(⟨3,i2⟩:Part)]),(k10 i2))) [] [(51,28)])
  (.e (.done (.brk u2))))
  (fun u5=> .r<| .en (u5,0) [] [(28,0)])))))
section
variable (r_:((List Part) × Int)) (i:Int) (s_:State)
abbrev YO:=(bif (decide (((at' r_.1 i.toNat).kind)=1))then(!(at' s_.badBus (((at' r_.1 i.toNat).index).toNat)))else false)
end
theorem wz (p:ai) (s_:State):dJ Tryz.prog 77 (k20 s_ p) [] (fun r=>(vD (aR none 2 Part.cell r))) (fun _=>[]) (nP p s_):=
  dZ tT mX Tryz.func77 (
  .rg {fr:=[(0,15),(1,16)],fz:=[15,16]} []<| .r<| .cl 1 (jT [(0,17)] (zZ p)) fun r_=> .r<| .r<| .im (.ad 5 30 84 2 (aj Part.cell ([]:List Part)))<| .lp (σ:=((List Part) × Int)) (β:=(List Part)) (([]:List Part),0) [] [(30,20)] ⟨[3,6],[17],fun(u0,i)=>[(5,(vO 20 false u0.length)),(8,(vI i))],fun(u0,i)=>[(20,some (aX 84 2 Part.cell u0))]⟩ ⟨[],[],fun u1=>[(5,(vO 20 false u1.length))],fun u1=>[(20,some (aX 84 2 Part.cell u1))]⟩
  (fun(u0,i)=> .r<| .it (.a1 ((0:Int)≤i∧i<(r_.1.length:Int))<| .rg {fr:=[(4,27)],fz:=[27]} [0, .t 0 i r_.1.length]<| .a3 ((gB [((decide (((at' r_.1 i.toNat).kind)=1)),true)]=true→(0:Int)≤(at' r_.1 i.toNat).index∧(at' r_.1 i.toNat).index<(s_.badBus.length:Int))) ((gB [((decide (((at' r_.1 i.toNat).kind)=2)),true),((YO r_ i s_),false)]=true→(0:Int)≤(at' r_.1 i.toNat).index∧(at' r_.1 i.toNat).index<(s_.badSource.length:Int))) ((gB [((decide (((at' r_.1 i.toNat).kind)=3)),true),((bif (YO r_ i s_)then true else(bif (decide (((at' r_.1 i.toNat).kind)=2))then(!(at' s_.badSource (((at' r_.1 i.toNat).index).toNat)))else false)),false)]=true→(0:Int)≤(at' r_.1 i.toNat).index∧(at' r_.1 i.toNat).index<(s_.badLink.length:Int)))<| .rg {} [0,1,2]<| .it (.a2 ((u0.length+[(at' r_.1 i.toNat)].length)*16≤140737488355328) (u0.length+[(at' r_.1 i.toNat)].length≤4611686018427387904)<| .rg {an:=[(2, .arr [(at' r_.1 i.toNat)].length (aj Part.cell [(at' r_.1 i.toNat)])),(3, .arr (u0++[(at' r_.1 i.toNat)]).length (aj Part.cell (u0++[(at' r_.1 i.toNat)])))],fr:=[(2,28),(3,29)]} [.pf ⟨[(at' r_.1 i.toNat)].length=1,rfl⟩, .pf ⟨aB 1 2 (jm 2 [(.int .i64 ((at' r_.1 i.toNat).kind)),(.int .i64 ((at' r_.1 i.toNat).index))]) (aj Part.cell [(at' r_.1 i.toNat)]),(by intro i hi j hj;match i,j,hi,hj with|0,0,_,_=>rfl|0,1,_,_=>rfl)⟩, .e (u0.length),0,1, .pf ⟨(u0++[(at' r_.1 i.toNat)]).length=u0.length+[(at' r_.1 i.toNat)].length,List.length_append⟩, .pf ⟨aB (u0.length+[(at' r_.1 i.toNat)].length) 2 (ku (aj Part.cell u0) u0.length (aj Part.cell [(at' r_.1 i.toNat)])) (aj Part.cell (u0++[(at' r_.1 i.toNat)])),bD _ _ _ _⟩]<| .r<| .en (.next ((u0++[(at' r_.1 i.toNat)]),(k10 i))) [] [(29,20)])
  (.r<| .e (.next (u0,(k10 i)))))
  (.e (.done (.brk u0))))
  (fun u1=> .rg {fz:=[20]} []<| .e u1))
section
variable (p:ai) (s_:State) (l:(List Transfer)) (u1:(List Part)) (u2:(List Bool)) (u3:(List Bool)) (u4:(List Bool)) (u5:(List Bool)) (u6:(List Bool)) (u7:(List Bool)) (u8:(List Bool))
abbrev Xa:List SV:=[(.agg (k1 p)),(.agg (k21 s_)),(sD (JZ l)),(.one (.own 0 true u1.length))]
abbrev aak:List (Nat × Option Ob):=[(13,some (Uk u2 u3 u4 u5 u6 u7 u8))]
end
theorem zU (p:ai) (s_:State) (l:(List Transfer)) (u1:(List Part)):dJ Tryz.prog 22 (Xa p s_ l u1) (yx u1) (fun r=>(.dN [(.agg [(.d (aR none 1 af r.1.closed)),(.d (aR none 1 af r.1.locked)),(.d (aR none 1 af r.1.badLink)),(.d (aR none 1 af r.1.on_)),(.d (aR none 1 af r.1.badSource)),(.d (aR none 1 af r.1.earthed)),(.d (aR none 1 af r.1.badBus))]),(sI r.2)])) (fun r=>(yx u1)) (kP p s_ l u1):=
  dZ tT mX Tryz.func22 (
  .rg {fr:=[(0,10),(1,11),(2,12)],fz:=[10]} []<| .cl 3 (dQ p s_ l) fun r_=> .r<| .r<| .it (.r<| .en (TF r_) [12] [])
  (.rg {fr:=[(1,13)]} []<| .r<| .lp (σ:=((List Bool) × (List Bool) × (List Bool) × (List Bool) × (List Bool) × (List Bool) × (List Bool) × Int)) (β:=((List Bool) × (List Bool) × (List Bool) × (List Bool) × (List Bool) × (List Bool) × (List Bool))) (s_.closed,s_.locked,s_.badLink,s_.on_,s_.badSource,s_.earthed,s_.badBus,0) [] [] ⟨[2,3,4,8,11],[0,12],fun(u2,u3,u4,u5,u6,u7,u8,i)=>[(12,(vI i))],fun(u2,u3,u4,u5,u6,u7,u8,i)=>(aak u2 u3 u4 u5 u6 u7 u8)⟩ ⟨[2,4,8,11],[0,12],fun(u9,v0,v1,v2,v3,v4,v5)=>[],fun(u9,v0,v1,v2,v3,v4,v5)=>(aak u9 v0 v1 v2 v3 v4 v5)⟩
  (fun(u2,u3,u4,u5,u6,u7,u8,i)=> .r<| .it (.cl 6 (qP p (KR u2 u3 u4 u5 u6 u7 u8) (at' u1 i.toNat) true) fun u0=> .a1 (wE u1 i)<| .rg {fr:=[(10,17)]} [0, .t 0 i u1.length,1]<| .r<| .it (.r<| .en (.done (.ret (Xn u0))) [12] [])
  (.r<| .r<| .e (.next (XK u0 i))))
  (.e (.done (.brk (u2,u3,u4,u5,u6,u7,u8)))))
  (fun(u9,v0,v1,v2,v3,v4,v5)=> .cl 3 (jT [(0,18)] (qO p (KR u9 v0 v1 v2 v3 v4 v5) l)) fun v6=> .r<| .r<| .en (v6.1,0) [12] [])))
section
variable (u2:(List aI))
abbrev U8:List (Nat × Option Ob):=[(77,some (aX 86 3 aI.cell u2))]
end
theorem Bh (p:ai) (s_:State) (l:(List Transfer)):dJ Tryz.prog 39 (Yr p s_ l) [] (fun r=>(.dN [(sD (aR none 3 aI.cell r.1)),(sI r.2)])) (fun _=>[]) (iJ p s_ l):=
  dZ tT mX Tryz.func39 (
  .rg {fr:=[(0,74),(1,75)],fz:=[74,75]} []<| .cl 3 (dQ p s_ l) fun r_=> .r<| .r<| .it (.r<| .e (([]:List aI),r_))
  (.r<| .cl 2 (wz p s_) fun u1=> .r<| .r<| .im (.ad 9 148 86 3 (aj aI.cell ([]:List aI)))<| .lp (σ:=((List aI) × Int)) (β:=(List aI)) (([]:List aI),0) [] [(148,77)] ⟨[2,3,4,10],[],fun(u2,u0)=>[(9,(vO 77 false u2.length)),(11,(vI u0))],fun(u2,u0)=>(U8 u2)⟩ ⟨[],[],fun u4=>[(9,(vO 77 false u4.length))],fun u4=>(U8 u4)⟩
  (fun(u2,u0)=> .r<| .it (.a1 (JP p u0)<| .r<| .cg 6 [((decide (1≤((at' p.racks u0.toNat).paths))),true)] (um p s_ u0) fun u7=> .r<| .it (.a2 ((u2.length+[(BH u0)].length)*24≤140737488355328) (u2.length+[(BH u0)].length≤4611686018427387904)<| .rg {an:=[(3, .arr [(BH u0)].length (PO u0)),(4, .arr (ML u2 u0).length (Vl u2 u0))],fr:=[(3,130),(4,131)]} [.pf ⟨[(BH u0)].length=1,rfl⟩, .pf ⟨aB 1 3 (jm 3 [(.int .i64 u0),(.int .i64 0),(.int .i64 0)]) (PO u0),(by intro i hi j hj;match i,j,hi,hj with|0,0,_,_=>rfl|0,1,_,_=>rfl|0,2,_,_=>rfl)⟩, .e (u2.length),0,1, .pf ⟨(ML u2 u0).length=u2.length+[(BH u0)].length,List.length_append⟩, .pf ⟨aB (u2.length+[(BH u0)].length) 3 (ku (aj aI.cell u2) u2.length (PO u0)) (Vl u2 u0),bD _ _ _ _⟩]<| .r<| .en (.next ((ML u2 u0),(k10 u0))) [] [(131,77)])
  (.r<| .lp (σ:=((List aI) × Int)) (β:=(List aI)) (u2,0) [] [] ⟨[2,3,4,10,11,12],[],fun(u3,i)=>[(9,(vO 77 false u3.length)),(13,(vI i))],fun(u3,i)=>(U8 u3)⟩ ⟨[2,3,4,10,11],[],fun u5=>[(9,(vO 77 false u5.length))],fun u5=>(U8 u5)⟩
  (fun(u3,i)=> .r<| .it (.cr 8 (jT [(0,144)] (zU p s_ l [(at' u1 i.toNat)])) fun u6=> .a1 (wE u1 i)<| .rg {an:=[(7, .arr [(at' u1 i.toNat)].length (CX u1 i))],fr:=[(7,144),(12,145)],fz:=[145]} [0, .pf ⟨[(at' u1 i.toNat)].length=1,rfl⟩, .pf ⟨aB 1 2 (Qa u1 i) (CX u1 i),(by intro i hi j hj;match i,j,hi,hj with|0,0,_,_=>rfl|0,1,_,_=>rfl)⟩,1]<| .cl 3 (um p u6.1 u0) fun u8=> .r<| .it (.a3 (wE u1 i) ((u3.length+[(BV u0 u1 i)].length)*24≤140737488355328) (u3.length+[(BV u0 u1 i)].length≤4611686018427387904)<| .rg {an:=[(7, .arr [(BV u0 u1 i)].length (QH u0 u1 i)),(8, .arr (Nj u0 u1 i u3).length (UU u0 u1 i u3))],fr:=[(7,146),(8,147)]} [0, .pf ⟨[(BV u0 u1 i)].length=1,rfl⟩, .pf ⟨aB 1 3 (jm 3 [(.int .i64 u0),(.int .i64 ((at' u1 i.toNat).kind)),(.int .i64 ((at' u1 i.toNat).index))]) (QH u0 u1 i),(by intro i hi j hj;match i,j,hi,hj with|0,0,_,_=>rfl|0,1,_,_=>rfl|0,2,_,_=>rfl)⟩, .e (u3.length),1,2, .pf ⟨(Nj u0 u1 i u3).length=u3.length+[(BV u0 u1 i)].length,List.length_append⟩, .pf ⟨aB (u3.length+[(BV u0 u1 i)].length) 3 (ku (aj aI.cell u3) u3.length (QH u0 u1 i)) (UU u0 u1 i u3),bD _ _ _ _⟩]<| .r<| .en (.next ((Nj u0 u1 i u3),(k10 i))) [] [(147,77)])
  (.r<| .e (.next (u3,(k10 i)))))
  (.e (.done (.brk u3))))
  (fun u5=> .r<| .e (.next (u5,(k10 u0))))))
  (.e (.done (.brk u2))))
  (fun u4=> .rg {fz:=[77]} []<| .e (u4,0))))
section
variable (u3:(List (List Part))) (l:(List Part)) (u0:Int) (u1:Int) (u2:(List (List Part))) (u5:(List (List Part)))
abbrev Uh:List (Nat × Option Ob):=[(72,some (aX 48 1 (pU 2 Part.cell) u3))]
abbrev AQ:=(at' (l.drop (VQ u0)) u1.toNat)
abbrev VA:=(jm 1 [(aR (some true) 2 Part.cell [(at' l u0.toNat),(AQ l u0 u1)])])
abbrev Qq:=(u2++[[(at' l u0.toNat),(AQ l u0 u1)]])
abbrev Vw:=(ku (aj (pU 2 Part.cell) u2) u2.length (VA l u0 u1))
abbrev Qv:=(u5,(k10 u0))
end
theorem Db (l:(List Part)):dJ Tryz.prog 88 [(sD (Jk l))] [] (fun r=>(vD (aR none 1 (pU 2 Part.cell) r))) (fun _=>[]) (qw l):=
  dZ tT mX Tryz.func88 (
  .r<| .r<| .r<| .im (.ad 3 136 48 1 (aj (pU 2 Part.cell) ([]:List (List Part))))<| .lp (σ:=((List (List Part)) × Int)) (β:=(List (List Part))) (([]:List (List Part)),0) [] [(136,72)] ⟨[0,8,9],[],fun(u3,u0)=>[(3,(vO 72 false u3.length)),(10,(vI u0))],fun(u3,u0)=>(Uh u3)⟩ ⟨[],[],fun u4=>[(3,(vO 72 false u4.length))],fun u4=>(Uh u4)⟩
  (fun(u3,u0)=> .r<| .it (.a1 (wE l u0)<| .rg {fr:=[(3,119)],fz:=[119]} []<| .a1 ((0:Int)≤(k10 u0)∧(k10 u0)≤(l.length:Int))<| .r<| .im (.us 18 (vD (.sl none 2 (l.length - (VQ u0)) (fun iq jq=>aj Part.cell l (iq+(VQ u0)) jq))) (vD (aR none 2 Part.cell (l.drop (VQ u0)))) (Dw.v (nA.one (dY.d (dw.slN (by first|rw [List.length_append,List.length_drop]|simp only [List.length_set,List.length_drop,Br]) (.inr rfl) (QT _ _ _ _))))))<| .lp (σ:=((List (List Part)) × Int)) (β:=(List (List Part))) (u3,0) [] [] ⟨[0,5,8,9,10,18,19],[],fun(u2,u1)=>[(3,(vO 72 false u2.length)),(20,(vI u1))],fun(u2,u1)=>(Uh u2)⟩ ⟨[0,8,9,10],[],fun u5=>[(3,(vO 72 false u5.length))],fun u5=>(Uh u5)⟩
  (fun(u2,u1)=> .r<| .it (.a1 ((0:Int)≤u1∧u1<((l.drop (VQ u0)).length:Int))<| .rg {fr:=[(2,132)],fz:=[132]} []<| .a2 ((u2.length+[[(at' l u0.toNat),(AQ l u0 u1)]].length)*24≤140737488355328) (u2.length+[[(at' l u0.toNat),(AQ l u0 u1)]].length≤4611686018427387904)<| .rg {an:=[(3, .frz [(at' l u0.toNat),(AQ l u0 u1)].length (aj Part.cell [(at' l u0.toNat),(AQ l u0 u1)])),(4, .arr [[(at' l u0.toNat),(AQ l u0 u1)]].length (VA l u0 u1)),(5, .arr (Qq l u0 u1 u2).length (Vw l u0 u1 u2))],fr:=[(4,134),(5,135)]} [.pf ⟨[(at' l u0.toNat),(AQ l u0 u1)].length=2,rfl⟩, .pf ⟨aB 2 2 (jm 2 [(.int .i64 ((at' l u0.toNat).kind)),(.int .i64 ((at' l u0.toNat).index)),(.int .i64 ((AQ l u0 u1).kind)),(.int .i64 ((AQ l u0 u1).index))]) (aj Part.cell [(at' l u0.toNat),(AQ l u0 u1)]),(by intro i hi j hj;match i,j,hi,hj with|0,0,_,_=>rfl|0,1,_,_=>rfl|1,0,_,_=>rfl|1,1,_,_=>rfl)⟩, .pf ⟨[[(at' l u0.toNat),(AQ l u0 u1)]].length=1,rfl⟩, .pf ⟨aB 1 1 (VA l u0 u1) (VA l u0 u1),jh _ _ _⟩, .e (u2.length),0,1, .pf ⟨(Qq l u0 u1 u2).length=u2.length+[[(at' l u0.toNat),(AQ l u0 u1)]].length,List.length_append⟩, .pf ⟨aB (u2.length+[[(at' l u0.toNat),(AQ l u0 u1)]].length) 1 (Vw l u0 u1 u2) (Vw l u0 u1 u2),jh _ _ _⟩]<| .im (.uh 135 (some (.arr 48 1 (Qq l u0 u1 u2).length (Vw l u0 u1 u2))) (some (.arr 48 1 (Qq l u0 u1 u2).length (aj (pU 2 Part.cell) (Qq l u0 u1 u2)))) (zD (Wj (pU 2 Part.cell) u2 [[(at' l u0.toNat),(AQ l u0 u1)]] _ (by intro i hi j hj;match i,j,hi,hj with|0,0,_,_=>exact dw.eF))))<| .r<| .en (.next ((Qq l u0 u1 u2),(k10 u1))) [] [(135,72)])
  (.e (.done (.brk u2))))
  (fun u5=> .r<| .e (.next (Qv u0 u5))))
  (.e (.done (.brk u3))))
  (fun u4=> .rg {fz:=[72]} []<| .e u4))
theorem AZ (p:ai) (s_:State) (l:(List Transfer)) (u2:(List Part)):dJ Tryz.prog 23 (Xa p s_ l u2) (yx u2) (fun r=>(.dN [(sD (aR none 1 (aG .i64) r.1)),(sI r.2)])) (fun r=>(yx u2)) (mo p s_ l u2):=
  dZ tT mX Tryz.func23 (
  .rg {fr:=[(0,24),(1,25)],fz:=[25]} []<| .cl 4 ⟨fun{r_} hr_=>((Fn.qQ (frz:=[0]) (p:=[u2.length=u2.length]) (Fn.TS (args:=(Tw p s_ l u2)) (args':=[(.agg (k1 p)),(.agg (k21 s_)),(sD (JZ l)),(sD (aR (some true) 2 Part.cell u2))]) (hin:=[]) (rK [(0,26),(1,27),(2,28),(3,29),(4,30),(5,31),(6,32),(7,33)] (jr p s_ l u2 hr_)) ⟨nA.refl _,nA.refl _,nA.refl _,nA.one (dY.d dw.eF),trivial⟩ trivial) (by kernel_rfl) ⟨rfl,trivial⟩ (by kernel_rfl) ⟨(fun _ _=>rfl),⟨(fun _ _=>rfl),⟨(fun _ _=>rfl),⟨(fun _ _=>rfl),⟨(fun _ _=>rfl),⟨(fun _ _=>rfl),⟨(fun _ _=>rfl),trivial⟩⟩⟩⟩⟩⟩⟩ (by kernel_rfl)):Fn Tryz.prog 21 (Xa p s_ l u2) (yx u2) (.dN [(.agg [(.own 26 false r_.1.closed.length),(.own 27 false r_.1.locked.length),(.own 28 false r_.1.badLink.length),(.own 29 false r_.1.on_.length),(.own 30 false r_.1.badSource.length),(.own 31 false r_.1.earthed.length),(.own 32 false r_.1.badBus.length)]),(sI r_.2)]) [(0,some (aX 84 2 Part.cell u2)),(26,some (aX 4 1 af r_.1.closed)),(27,some (aX 4 1 af r_.1.locked)),(28,some (aX 4 1 af r_.1.badLink)),(29,some (aX 4 1 af r_.1.on_)),(30,some (aX 4 1 af r_.1.badSource)),(31,some (aX 4 1 af r_.1.earthed)),(32,some (aX 4 1 af r_.1.badBus)),(33,none)])⟩ fun r_=> .rg {fr:=[(8,34)],fz:=[26,27,28,29,30,31,32]} []<| .fz [34]<| .r<| .it (.r<| .e (([]:List Int),r_.2))
  (.r<| .rg {fz:=[24]} []<| .im (.ad 12 47 3 1 (aj (aG .i64) ([]:List Int)))<| .lp (σ:=((List Int) × Int)) (β:=(List Int)) (([]:List Int),0) [] [(47,37)] ⟨[4,10,27,28],[0],fun(u1,u0)=>[(12,(vO 37 false u1.length)),(29,(vI u0))],fun(u1,u0)=>[(37,some (CJ u1))]⟩ ⟨[],[0],fun u3=>[(12,(vO 37 false u3.length))],fun u3=>[(37,some (CJ u3))]⟩
  (fun(u1,u0)=> .r<| .it (.a1 (JP p u0)<| .rg {fr:=[(3,44)],fz:=[44]} []<| .cg 7 [((decide (0<((at' p.racks u0.toNat).paths))),true)] (jD p r_.1 u0) fun u4=> .r<| .it (.a2 (QM u1 u0) (Sj u1 u0)<| .rg {an:=[(2, .arr [u0].length (aj (aG .i64) [u0])),(3, .arr (u1++[u0]).length (G7 u1 u0))],fr:=[(2,45),(3,46)]} [.pf ⟨[u0].length=1,rfl⟩, .pf ⟨aB 1 1 (jm 1 [(.int .i64 u0)]) (aj (aG .i64) [u0]),(by intro i hi j hj;match i,j,hi,hj with|0,0,_,_=>rfl)⟩, .e (u1.length),0,1, .pf ⟨(u1++[u0]).length=u1.length+[u0].length,List.length_append⟩, .pf ⟨aB (u1.length+[u0].length) 1 (Ta u1 u0) (G7 u1 u0),bD _ _ _ _⟩]<| .r<| .en (.next ((u1++[u0]),(k10 u0))) [] [(46,37)])
  (.r<| .e (.next (u1,(k10 u0)))))
  (.e (.done (.brk u1))))
  (fun u3=> .rg {fz:=[37]} []<| .e (u3,0))))
theorem BP (x:(List Part)) (x1:Int) (u0:(List Source)) (u1:(List Link)) (u2:(List aT)) (x2:(List Bool)) (u3:(List Bool)) (u4:(List Bool)) (u5:(List Bool)) (u6:(List Bool)) (u7:(List Bool)) (u8:(List Bool)) (x3:(List Transfer)):dJ Tryz.prog 87 [(.one (.own 0 true x.length)),(sD (k3 x1 u0 u1 u2)),(sD (Yb x2 u3 u4 u5 u6 u7 u8)),(sD (Gy [(JZ x3)] 0))] (yx x) (fun r=>(vB r)) (fun r=>(yx x)) (jI x x1 u0 u1 u2 x2 u3 u4 u5 u6 u7 u8 x3):=
  dZ tT mX Tryz.func87 (
  .r<| .cr 4 (AZ (⟨x1,u0,u1,u2⟩:ai) (KR x2 u3 u4 u5 u6 u7 u8) x3 x) fun r_=> .r<| .r<| .e (decide (0<(r_.1.length:Int))))
theorem zf (x:(List Part)) (x1:Int) (u0:(List Source)) (u1:(List Link)) (u2:(List aT)) (x2:(List Bool)) (u3:(List Bool)) (u4:(List Bool)) (u5:(List Bool)) (u6:(List Bool)) (u7:(List Bool)) (u8:(List Bool)) (x3:(List Transfer)):dJ Tryz.prog 87 [(sD (Jk x)),(sD (k3 x1 u0 u1 u2)),(sD (Yb x2 u3 u4 u5 u6 u7 u8)),(sD (Gy [(JZ x3)] 0))] [] (fun r=>(vB r)) (fun _=>[]) (jI x x1 u0 u1 u2 x2 u3 u4 u5 u6 u7 u8 x3):=
  dZ tT mX Tryz.func87 (
  .r<| .cl 4 (DW (⟨x1,u0,u1,u2⟩:ai) (KR x2 u3 u4 u5 u6 u7 u8) x3 x) fun r_=> .r<| .r<| .e (decide (0<(r_.1.length:Int))))
section
variable (p:ai) (s_:State) (l:(List Transfer)) (v0:Bool) (u1:(List Part)) (u0:Int) (u2:(List (List Part)))
abbrev X8:List SV:=[(.agg (k1 p)),(.agg (k21 s_)),(sD (JZ l)),(sB v0)]
abbrev MZ:=(jm 1 [(aR (some true) 2 Part.cell [(at' u1 u0.toNat)])])
abbrev D6:=(u2++[[(at' u1 u0.toNat)]])
abbrev K8:=(ku (aj (pU 2 Part.cell) u2) u2.length (MZ u1 u0))
end
theorem DR (p:ai) (s_:State) (l:(List Transfer)) (v0:Bool):dJ Tryz.prog 40 (X8 p s_ l v0) [] (fun r=>(.dN [(sD (aR none 1 (pU 2 Part.cell) r.1)),(sI r.2)])) (fun _=>[]) (mH p s_ l v0):=
  dZ tT mX Tryz.func40 (
  .rg {fr:=[(0,40),(1,41),(2,42)],fz:=[40,41,42]} []<| .cl 3 (fB p s_ l) fun r_=> .r<| .r<| .it (.r<| .e (([]:List (List Part)),r_))
  (.r<| .r<| .r<| .cl 2 (jT [(0,43)] (nE p s_)) fun u1=> .r<| .im (.ad 12 72 48 1 (aj (pU 2 Part.cell) ([]:List (List Part))))<| .im (.ad 13 73 84 2 (aj Part.cell ([]:List Part)))<| .lp (σ:=((List (List Part)) × (List Part) × Int)) (β:=((List (List Part)) × (List Part))) (([]:List (List Part)),([]:List Part),0) [] [(72,48),(73,50)] ⟨[3,11,28,29],[43],fun(u2,u4,u0)=>[(12,(vO 48 false u2.length)),(13,(vO 50 false u4.length)),(30,(vI u0))],fun(u2,u4,u0)=>[(48,some (aX 48 1 (pU 2 Part.cell) u2)),(50,some (aX 84 2 Part.cell u4))]⟩ ⟨[3,11],[],fun(u7,u8)=>[(12,(vO 48 false u7.length)),(13,(vO 50 false u8.length))],fun(u7,u8)=>[(48,some (aX 48 1 (pU 2 Part.cell) u7)),(50,some (aX 84 2 Part.cell u8))]⟩
  (fun(u2,u4,u0)=> .r<| .it (.a1 (wE u1 u0)<| .rg {fr:=[(2,65)],fz:=[65]} [0, .t 0 u0 u1.length]<| .cr 3 (jT [(0,66)] (BP [(at' u1 u0.toNat)] p.buses p.sources p.links p.racks s_.closed s_.locked s_.badLink s_.on_ s_.badSource s_.earthed s_.badBus l)) fun v1=> .rg {an:=[(2, .arr [(at' u1 u0.toNat)].length (CX u1 u0))],fr:=[(2,66)]} [.pf ⟨[(at' u1 u0.toNat)].length=1,rfl⟩, .pf ⟨aB 1 2 (Qa u1 u0) (CX u1 u0),(by intro i hi j hj;match i,j,hi,hj with|0,0,_,_=>rfl|0,1,_,_=>rfl)⟩,0]<| .it (.a2 ((u2.length+[[(at' u1 u0.toNat)]].length)*24≤140737488355328) (u2.length+[[(at' u1 u0.toNat)]].length≤4611686018427387904)<| .rg {an:=[(2, .frz [(at' u1 u0.toNat)].length (CX u1 u0)),(3, .arr [[(at' u1 u0.toNat)]].length (MZ u1 u0)),(4, .arr (D6 u1 u0 u2).length (K8 u1 u0 u2))],fr:=[(3,68),(4,69)]} [.pf ⟨[(at' u1 u0.toNat)].length=1,rfl⟩, .pf ⟨aB 1 2 (Qa u1 u0) (CX u1 u0),(by intro i hi j hj;match i,j,hi,hj with|0,0,_,_=>rfl|0,1,_,_=>rfl)⟩, .pf ⟨[[(at' u1 u0.toNat)]].length=1,rfl⟩, .pf ⟨aB 1 1 (MZ u1 u0) (MZ u1 u0),jh _ _ _⟩, .e (u2.length),0,1, .pf ⟨(D6 u1 u0 u2).length=u2.length+[[(at' u1 u0.toNat)]].length,List.length_append⟩, .pf ⟨aB (u2.length+[[(at' u1 u0.toNat)]].length) 1 (K8 u1 u0 u2) (K8 u1 u0 u2),jh _ _ _⟩]<| .im (.uh 69 (some (.arr 48 1 (D6 u1 u0 u2).length (K8 u1 u0 u2))) (some (.arr 48 1 (D6 u1 u0 u2).length (aj (pU 2 Part.cell) (D6 u1 u0 u2)))) (zD (Wj (pU 2 Part.cell) u2 [[(at' u1 u0.toNat)]] _ (by intro i hi j hj;match i,j,hi,hj with|0,0,_,_=>exact dw.eF))))<| .r<| .en (.next ((D6 u1 u0 u2),u4,(k10 u0))) [] [(69,48)])
  (.a2 ((u4.length+[(at' u1 u0.toNat)].length)*16≤140737488355328) (u4.length+[(at' u1 u0.toNat)].length≤4611686018427387904)<| .rg {an:=[(2, .arr [(at' u1 u0.toNat)].length (CX u1 u0)),(3, .arr (u4++[(at' u1 u0.toNat)]).length (aj Part.cell (u4++[(at' u1 u0.toNat)])))],fr:=[(2,70),(3,71)]} [.pf ⟨[(at' u1 u0.toNat)].length=1,rfl⟩, .pf ⟨aB 1 2 (Qa u1 u0) (CX u1 u0),(by intro i hi j hj;match i,j,hi,hj with|0,0,_,_=>rfl|0,1,_,_=>rfl)⟩, .e (u4.length),0,1, .pf ⟨(u4++[(at' u1 u0.toNat)]).length=u4.length+[(at' u1 u0.toNat)].length,List.length_append⟩, .pf ⟨aB (u4.length+[(at' u1 u0.toNat)].length) 2 (ku (aj Part.cell u4) u4.length (CX u1 u0)) (aj Part.cell (u4++[(at' u1 u0.toNat)])),bD _ _ _ _⟩]<| .r<| .en (.next (u2,(u4++[(at' u1 u0.toNat)]),(k10 u0))) [] [(71,50)]))
  (.e (.done (.brk (u2,u4)))))
  (fun(u7,u8)=> .rg {fz:=[50]} []<| .it (.cl 1 (Db u8) fun u6=> .r<| .lp (σ:=((List (List Part)) × Int)) (β:=(List (List Part))) (u7,0) [] [] ⟨[11,50,51],[],fun(u5,u3)=>[(12,(vO 48 false u5.length)),(52,(vI u3))],fun(u5,u3)=>[(48,some (aX 48 1 (pU 2 Part.cell) u5))]⟩ ⟨[],[],fun u9=>[(12,(vO 48 false u9.length))],fun u9=>[(48,some (aX 48 1 (pU 2 Part.cell) u9))]⟩
  (fun(u5,u3)=> .r<| .it (.a1 ((0:Int)≤u3∧u3<(u6.length:Int))<| .r<| .cl 2 (zf (at' u6 u3.toNat) p.buses p.sources p.links p.racks s_.closed s_.locked s_.badLink s_.on_ s_.badSource s_.earthed s_.badBus l) fun v2=> .r<| .it (.a2 ((u5.length+[(at' u6 u3.toNat)].length)*24≤140737488355328) (u5.length+[(at' u6 u3.toNat)].length≤4611686018427387904)<| .rg {an:=[(2, .arr [(at' u6 u3.toNat)].length (aj (pU 2 Part.cell) [(at' u6 u3.toNat)])),(3, .arr (u5++[(at' u6 u3.toNat)]).length (aj (pU 2 Part.cell) (u5++[(at' u6 u3.toNat)])))],fr:=[(2,80),(3,81)]} [.pf ⟨[(at' u6 u3.toNat)].length=1,rfl⟩, .pf ⟨aB 1 1 (jm 1 [(aR none 2 Part.cell (at' u6 u3.toNat))]) (aj (pU 2 Part.cell) [(at' u6 u3.toNat)]),(by intro i hi j hj;match i,j,hi,hj with|0,0,_,_=>rfl)⟩, .e (u5.length),0,1, .pf ⟨(u5++[(at' u6 u3.toNat)]).length=u5.length+[(at' u6 u3.toNat)].length,List.length_append⟩, .pf ⟨aB (u5.length+[(at' u6 u3.toNat)].length) 1 (ku (aj (pU 2 Part.cell) u5) u5.length (aj (pU 2 Part.cell) [(at' u6 u3.toNat)])) (aj (pU 2 Part.cell) (u5++[(at' u6 u3.toNat)])),bD _ _ _ _⟩]<| .r<| .en (.next ((u5++[(at' u6 u3.toNat)]),(k10 u3))) [] [(81,48)])
  (.r<| .e (.next (Qv u3 u5))))
  (.e (.done (.brk u5))))
  (fun u9=> .rg {fz:=[48]} []<| .e (u9,0)))
  (.rg {fz:=[48]} []<| .e (u7,0)))))
section
variable (u0:(List Part)) (u3:(List Bool)) (i:Int) (u4:((List Int) × Int)) (u6:(List (List Part))) (i1:Int) (kz:Int) (u1:(List (List Part)))
abbrev Rs:=(List.replicate ((u0.length:Int).toNat) (false:Bool))
abbrev M4:=(u3.set i.toNat (decide (0<(u4.1.length:Int))))
abbrev UA:List (Nat × Option Ob):=[(68,some (aX 48 1 (pU 2 Part.cell) u6))]
abbrev Wh:=(jm 1 [(aR (some true) 2 Part.cell [(at' u0 i1.toNat),(at' u0 kz.toNat)])])
abbrev Ph:=(u1++[[(at' u0 i1.toNat),(at' u0 kz.toNat)]])
abbrev Ut:=(ku (aj (pU 2 Part.cell) u1) u1.length (Wh u0 i1 kz))
end
theorem DY (p:ai) (s_:State) (l:(List Transfer)) (v0:Bool):dJ Tryz.prog 41 (X8 p s_ l v0) [] (fun r=>(.dN [(sD (aR none 1 (pU 2 Part.cell) r.1)),(sI r.2)])) (fun _=>[]) (mQ p s_ l v0):=
  dZ tT mX Tryz.func41 (
  .rg {fr:=[(0,63),(1,64)],fz:=[63,64]} []<| .cl 3 (dQ p s_ l) fun r_=> .r<| .r<| .it (.r<| .e (([]:List (List Part)),r_))
  (.r<| .cl 2 (wz p s_) fun u0=> .r<| .a3 ((0:Int)≤(u0.length:Int)) ((1:Int)*(u0.length:Int)≤281474976710656) (((u0.length:Int):Int)≤9223372036854775807)<| .rg {an:=[(2, .arr (Rs u0).length (aj af (Rs u0)))],fr:=[(2,65)]} [0, .e (((u0.length:Int):Int)),1,2, .pf ⟨(Rs u0).length=((u0.length:Int).toNat),List.length_replicate⟩, .pf ⟨aB ((u0.length:Int).toNat) 1 (fun _ j=>[(.bool false)].getD j .nilp) (aj af (Rs u0)),gL _ _ _ _ _ (fun j hj=>(match j,hj with|0,_=>rfl))⟩]<| .r<| .im (.ad 11 78 48 1 (aj (pU 2 Part.cell) ([]:List (List Part))))<| .lp (σ:=((List (List Part)) × (List Bool) × Int)) (β:=((List (List Part)) × (List Bool))) (([]:List (List Part)),(Rs u0),0) [] [(78,68)] ⟨[2,3,4,5,12],[],fun(u2,u3,i)=>[(11,(vO 68 false u2.length)),(13,(vO 65 true u3.length)),(14,(vI i))],fun(u2,u3,i)=>[(65,some (aX 4 1 af u3)),(68,some (aX 48 1 (pU 2 Part.cell) u2))]⟩ ⟨[2,3,4,5,12],[],fun(u7,u5)=>[(11,(vO 68 false u7.length)),(13,(vO 65 true u5.length))],fun(u7,u5)=>[(65,some (aX 4 1 af u5)),(68,some (aX 48 1 (pU 2 Part.cell) u7))]⟩
  (fun(u2,u3,i)=> .r<| .it (.cl 8 ⟨fun{u4} hr_2=>((Fn.TS (args:=[(.agg (k1 p)),(.agg (k21 s_)),(sD (JZ l)),(sD (aR none 2 Part.cell (Gx u0 i.toNat (UR i))))]) (args':=[(.agg (k1 p)),(.agg (k21 s_)),(sD (JZ l)),(sD (.sl none 2 (UR i) (fun iq jq=>aj Part.cell u0 (iq+i.toNat) jq)))]) (hin:=[]) (hin':=[]) (xJ p s_ l (Gx u0 i.toNat (UR i)) hr_2) ⟨nA.refl _,nA.refl _,nA.refl _,nA.one (dY.d (dw.slN (by first|rw [List.length_append,List.length_drop]|simp only [List.length_set,List.length_drop,Br]) (.inr rfl) (Y3 _ _ _ _ _))),trivial⟩ trivial):Fn Tryz.prog 24 [(.agg (k1 p)),(.agg (k21 s_)),(sD (JZ l)),(sD (.sl none 2 (UR i) (fun iq jq=>aj Part.cell u0 (iq+i.toNat) jq)))] [] (.dN [(sD (aR none 1 (aG .i64) u4.1)),(sI u4.2)]) [])⟩ fun u4=> .a1 ((0:Int)≤i∧i≤(k10 i)∧(k10 i)≤(u0.length:Int))<| .rg {} [0,1]<| .a1 (TY u3 i)<| .rg {an:=[(6, .arr 0 (aj af (M4 u3 i u4)))]} [0, .t 0 i u3.length, .pf ⟨aB u3.length 1 (jk (aj af u3) i.toNat 0 [(.bool (decide (0<(u4.1.length:Int))))]) (aj af (M4 u3 i u4)),bG _ _ _ _ _ _ _ _ rfl (fun j hj=>(match j,hj with|0,_=>rfl))⟩]<| .im (.ll 65 u3 (M4 u3 i u4))<| .a2 ((0:Int)≤i∧i<((M4 u3 i u4).length:Int)) (i.toNat<(M4 u3 i u4).length)<| .rg {} [0,1]<| .it (.a3 (wE u0 i) ((u2.length+[[(at' u0 i.toNat)]].length)*24≤140737488355328) (u2.length+[[(at' u0 i.toNat)]].length≤4611686018427387904)<| .rg {an:=[(5, .frz [(at' u0 i.toNat)].length (CX u0 i)),(6, .arr [[(at' u0 i.toNat)]].length (MZ u0 i)),(7, .arr (D6 u0 i u2).length (K8 u0 i u2))],fr:=[(6,76),(7,77)]} [0, .pf ⟨[(at' u0 i.toNat)].length=1,rfl⟩, .pf ⟨aB 1 2 (Qa u0 i) (CX u0 i),(by intro i hi j hj;match i,j,hi,hj with|0,0,_,_=>rfl|0,1,_,_=>rfl)⟩, .pf ⟨[[(at' u0 i.toNat)]].length=1,rfl⟩, .pf ⟨aB 1 1 (MZ u0 i) (MZ u0 i),jh _ _ _⟩, .e (u2.length),1,2, .pf ⟨(D6 u0 i u2).length=u2.length+[[(at' u0 i.toNat)]].length,List.length_append⟩, .pf ⟨aB (u2.length+[[(at' u0 i.toNat)]].length) 1 (K8 u0 i u2) (K8 u0 i u2),jh _ _ _⟩]<| .im (.uh 77 (some (.arr 48 1 (D6 u0 i u2).length (K8 u0 i u2))) (some (.arr 48 1 (D6 u0 i u2).length (aj (pU 2 Part.cell) (D6 u0 i u2)))) (zD (Wj (pU 2 Part.cell) u2 [[(at' u0 i.toNat)]] _ (by intro i hi j hj;match i,j,hi,hj with|0,0,_,_=>exact dw.eF))))<| .r<| .en (.next ((D6 u0 i u2),(M4 u3 i u4),(k10 i))) [] [(77,68)])
  (.r<| .e (.next (u2,(M4 u3 i u4),(k10 i)))))
  (.e (.done (.brk (u2,u3)))))
  (fun(u7,u5)=> .rg {fz:=[65]} []<| .lp (σ:=((List (List Part)) × Int)) (β:=(List (List Part))) (u7,0) [] [] ⟨[2,3,4,5,12,13],[],fun(u6,i1)=>[(11,(vO 68 false u6.length)),(17,(vI i1))],fun(u6,i1)=>(UA u6)⟩ ⟨[],[],fun u8=>[(11,(vO 68 false u8.length))],fun u8=>(UA u8)⟩
  (fun(u6,i1)=> .r<| .it (.r<| .lp (σ:=((List (List Part)) × Int)) (β:=(List (List Part))) (Qv i1 u6) [] [] ⟨[2,3,4,5,12,13,17],[],fun(u1,kz)=>[(11,(vO 68 false u1.length)),(18,(vI kz))],fun(u1,kz)=>(UA u1)⟩ ⟨[2,3,4,5,12,13,17],[],fun u9=>[(11,(vO 68 false u9.length))],fun u9=>(UA u9)⟩
  (fun(u1,kz)=> .r<| .it (.a2 (TY u5 i1) ((gB [((at' u5 i1.toNat),false)]=true→(0:Int)≤kz∧kz<(u5.length:Int)))<| .rg {} [0,1]<| .it (.r<| .e (.next (Qv kz u1)))
  (.a2 (wE u0 i1) (wE u0 kz)<| .rg {an:=[(8, .arr [(at' u0 i1.toNat),(at' u0 kz.toNat)].length (aj Part.cell [(at' u0 i1.toNat),(at' u0 kz.toNat)]))],fr:=[(8,124)],fz:=[124]} [0,1, .pf ⟨[(at' u0 i1.toNat),(at' u0 kz.toNat)].length=2,rfl⟩, .pf ⟨aB 2 2 (jm 2 [(.int .i64 ((at' u0 i1.toNat).kind)),(.int .i64 ((at' u0 i1.toNat).index)),(.int .i64 ((at' u0 kz.toNat).kind)),(.int .i64 ((at' u0 kz.toNat).index))]) (aj Part.cell [(at' u0 i1.toNat),(at' u0 kz.toNat)]),(by intro i hi j hj;match i,j,hi,hj with|0,0,_,_=>rfl|0,1,_,_=>rfl|1,0,_,_=>rfl|1,1,_,_=>rfl)⟩]<| .cl 4 (leO [(.agg (k1 p)),(.agg (k21 s_)),(sD (JZ l)),(sD (aR (some true) 2 Part.cell [(at' u0 i1.toNat),(at' u0 kz.toNat)]))] (xJ p s_ l [(at' u0 i1.toNat),(at' u0 kz.toNat)])) fun v1=> .r<| .r<| .it (.a2 ((u1.length+[[(at' u0 i1.toNat),(at' u0 kz.toNat)]].length)*24≤140737488355328) (u1.length+[[(at' u0 i1.toNat),(at' u0 kz.toNat)]].length≤4611686018427387904)<| .rg {an:=[(2, .arr [[(at' u0 i1.toNat),(at' u0 kz.toNat)]].length (Wh u0 i1 kz)),(3, .arr (Ph u0 i1 kz u1).length (Ut u0 i1 kz u1))],fr:=[(2,125),(3,126)]} [.pf ⟨[[(at' u0 i1.toNat),(at' u0 kz.toNat)]].length=1,rfl⟩, .pf ⟨aB 1 1 (Wh u0 i1 kz) (Wh u0 i1 kz),jh _ _ _⟩, .e (u1.length),0,1, .pf ⟨(Ph u0 i1 kz u1).length=u1.length+[[(at' u0 i1.toNat),(at' u0 kz.toNat)]].length,List.length_append⟩, .pf ⟨aB (u1.length+[[(at' u0 i1.toNat),(at' u0 kz.toNat)]].length) 1 (Ut u0 i1 kz u1) (Ut u0 i1 kz u1),jh _ _ _⟩]<| .im (.uh 126 (some (.arr 48 1 (Ph u0 i1 kz u1).length (Ut u0 i1 kz u1))) (some (.arr 48 1 (Ph u0 i1 kz u1).length (aj (pU 2 Part.cell) (Ph u0 i1 kz u1)))) (zD (Wj (pU 2 Part.cell) u1 [[(at' u0 i1.toNat),(at' u0 kz.toNat)]] _ (by intro i hi j hj;match i,j,hi,hj with|0,0,_,_=>exact dw.eF))))<| .r<| .en (.next ((Ph u0 i1 kz u1),(k10 kz))) [] [(126,68)])
  (.r<| .e (.next (Qv kz u1)))))
  (.e (.done (.brk u1))))
  (fun u9=> .r<| .e (.next (Qv i1 u9))))
  (.e (.done (.brk u6))))
  (fun u8=> .rg {fz:=[68]} []<| .e (u8,0)))))
theorem Dh (a:(List Part)) (b:(List Part)):dJ Tryz.prog 89 [(sD (Jk a)),(sD (Jk b))] [] (fun r=>(vB r)) (fun _=>[]) (vK a b):=
  dZ tT mX Tryz.func89 (
  .r<| .cl 2 (tZ a b) fun r_=> .r<| .e r_)
theorem BZ (a:(List (List Part))) (b:(List (List Part))):dJ Tryz.prog 42 [(sD (aR none 1 (pU 2 Part.cell) a)),(sD (aR none 1 (pU 2 Part.cell) b))] [] (fun r=>(vB r)) (fun _=>[]) (o6 a b):=
  dZ tT mX Tryz.func42 (
  .r<| .r<| .it (.r<| .e false)
  (.r<| .lp (σ:=Int) (β:=Unit) (0) [] [] ⟨[0,1],[],fun i=>[(5,(vI i))],fun i=>[]⟩ ⟨[],[],fun _=>[],fun _=>[]⟩
  (fun i=> .r<| .it (.cl 8 (Dh (at' a i.toNat) (at' b i.toNat)) fun r_=> .a2 ((0:Int)≤i∧i<(a.length:Int)) ((0:Int)≤i∧i<(b.length:Int))<| .rg {} [0,1,2]<| .it (.r<| .e (.done (.ret false)))
  (.r<| .e (.next (k10 i))))
  (.e (.done (.brk ()))))
  (fun _=> .r<| .e true)))
section
variable (i:Int) (u6:((List aI) × Int))
abbrev YQ:=((0:Int)≤i∧i<(u6.1.length:Int))
end
theorem yh (p:ai) (s_:State) (l:(List Transfer)) (u0:Bool):dJ Tryz.prog 6 (X8 p s_ l u0) [] (fun r=>(vB r)) (fun _=>[]) (jY p s_ l u0):=
  dZ tT mX Tryz.func6 (
  .rg {fr:=[(0,2),(1,3)],fz:=[2,3]} []<| .cl 1 (Fx p) fun r_=> .r<| .it (.cl 0 vW fun u4=> .r<| .e u4)
  (.cl 3 (zb l) fun u5=> .cl 4 (Bd p s_ u5) fun u6=> .r<| .cl 3 (Bh p s_ l) fun u7=> .r<| .r<| .it (.r<| .e false)
  (.r<| .lp (σ:=Int) (β:=Unit) (0) [] [] ⟨[2,3,4,5,9,11],[],fun i=>[(13,(vI i))],fun i=>[]⟩ ⟨[2,3,4,5],[],fun _=>[],fun _=>[]⟩
  (fun i=> .r<| .it (.a2 (YQ i u6) (YQ i u7)<| .rg {} [0,1]<| .it (.r<| .e (.done (.ret false)))
  (.r<| .e (.next (k10 i))))
  (.e (.done (.brk ()))))
  (fun _=> .cl 3 (zb l) fun u8=> .cl 5 (DR p s_ u8 u0) fun u1=> .r<| .cl 4 (DY p s_ l u0) fun u2=> .r<| .cg 6 [((decide (u1.2=u2.2)),true)] (BZ u1.1 u2.1) fun u3=> .cg 9 [((bif (decide (u1.2=u2.2))then u3 else false),true)] vW fun u9=> .r<| .e (bif (bif (decide (u1.2=u2.2))then u3 else false)then u9 else false)))))
section
variable (u0:((List aI) × Int)) (i:Int) (p:ai) (u8:(Int × Int)) (u6:((List Part) × Int)) (u4:Bool) (kz:Int)
end
end
end Sg
