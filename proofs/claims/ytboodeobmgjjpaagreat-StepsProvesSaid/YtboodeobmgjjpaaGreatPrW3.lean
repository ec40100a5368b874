import Derived.Test.YtboodeobmgjjpaaGreatPrW2
set_option linter.all false
namespace Sg
open Go Go.Proofs
set_option maxRecDepth 20000
noncomputable section
theorem qH (l:(List Int)):dH Tryz.prog 58 [(sD (QD l))] [] (fun r=>(vO 0 false r.length)) (fun r=>[(0,some (bD 3 1 (bO .i64) r))]) (lY l):=
  dO tT mX Tryz.func58 (
  .r<| .r<| .a2 (l.length*8≤140737488355328) (l.length≤4611686018427387904)<| .rg {an:=[(2, .arr l.length (aA (bO .i64) l))],fr:=[(2,1)]} [0,1, .e (l.length), .pf ⟨aK l.length 1 (aA (bO .i64) l) (aA (bO .i64) l),si _ _ _⟩]<| .en l [] [(1,0)])
theorem pI (l:(List af)):dH Tryz.prog 40 (aau l) [] (fun r=>(vO 0 false r.length)) (fun r=>[(0,some (bD 61 2 af.cell r))]) (fC l):=
  dO tT mX Tryz.func40 (
  .r<| .r<| .a2 (l.length*16≤140737488355328) (l.length≤4611686018427387904)<| .rg {an:=[(2, .arr l.length (aA af.cell l))],fr:=[(2,1)]} [0,1, .e (l.length), .pf ⟨aK l.length 2 (aA af.cell l) (aA af.cell l),si _ _ _⟩]<| .en l [] [(1,0)])
section
variable (t:Task)
abbrev aay:List SV:=[(.agg (k2 t))]
end
theorem Ec (p:au) (x:Link):dH Tryz.prog 130 [(.agg (k1 p)),(.agg (k19 x))] [] (fun r=>(vB r)) (fun _=>[]) (rO p x):=
  dO tT mX Tryz.func130 (
  .rg {fr:=[(0,6),(1,7)],fz:=[6]} []<| .r<| .it (.r<| .e false)
  (.r<| .it (.r<| .e false)
  (.r<| .lp (σ:=Int) (β:=Unit) (0) [] [] ⟨[3],[7],fun i=>[(5,(vI i))],fun i=>[]⟩ ⟨[],[],fun _=>[],fun _=>[]⟩
  (fun i=> .r<| .it (.a1 ((0:Int)≤i∧i<(x.trip.length:Int))<| .rg {fr:=[(5,11)],fz:=[11]} []<| .r<| .it (.r<| .e (.done (.ret false)))
  (.a2 ((gB [((decide (0<i)),true)]=true→(0:Int)≤(k10 i)∧(k10 i)<(x.trip.length:Int))) ((gB [(k20 x i),((decide (0<i)),true)]=true→(0:Int)≤(k10 i)∧(k10 i)<(x.trip.length:Int)))<| .rg {} [0,1]<| .it (.r<| .e (.done (.ret false)))
  (.r<| .e (.next (k18 i)))))
  (.e (.done (.brk ()))))
  (fun _=> .r<| .e true))))
theorem Da (p:au):dH Tryz.prog 90 (k6 p) [] (fun r=>(vI r)) (fun _=>[]) (qi p):=
  dO tT mX Tryz.func90 (
  .rg {fr:=[(0,9)]} []<| .r<| .it (.r<| .e 10)
  (.r<| .it (.r<| .e 11)
  (.r<| .lp (σ:=Int) (β:=Unit) (0) [] [] ⟨[1],[9],fun i=>[(3,(vI i))],fun i=>[]⟩ ⟨[1],[9],fun _=>[],fun _=>[]⟩
  (fun i=> .r<| .it (.a1 (Ra i p)<| .rg {fr:=[(5,13)],fz:=[13]} []<| .r<| .it (.r<| .e (.done (.ret 11)))
  (.r<| .e (.next (k18 i))))
  (.e (.done (.brk ()))))
  (fun _=> .r<| .it (.r<| .e 12)
  (.r<| .lp (σ:=Int) (β:=Unit) (0) [] [] ⟨[1],[9],fun i1=>[(5,(vI i1))],fun i1=>[]⟩ ⟨[1],[9],fun _=>[],fun _=>[]⟩
  (fun i1=> .r<| .it (.cl 6 (Ec p (at' p.links i1.toNat)) fun r_=> .a1 (Ud p i1)<| .rg {} [0,1]<| .it (.r<| .e (.done (.ret 12)))
  (.r<| .e (.next (k18 i1))))
  (.e (.done (.brk ()))))
  (fun _=> .r<| .it (.r<| .e 13)
  (.r<| .lp (σ:=Int) (β:=Unit) (0) [] [] ⟨[1],[9],fun i2=>[(6,(vI i2))],fun i2=>[]⟩ ⟨[],[],fun _=>[],fun _=>[]⟩
  (fun i2=> .r<| .it (.a1 ((0:Int)≤i2∧i2<(p.racks.length:Int))<| .rg {fr:=[(5,17)],fz:=[17]} []<| .rg {} [.pf ⟨(0:Int)≤0∧(0:Int)<(2:Nat),(by decide)⟩, .pf ⟨(0:Int)≤1∧(1:Int)<(2:Nat),(by decide)⟩]<| .r<| .r<| .it (.r<| .r<| .it (.r<| .e (.done (.ret 13)))
  (.r<| .e (.next (k18 i2))))
  (.r<| .it (.r<| .e (.done (.ret 13)))
  (.r<| .e (.next (k18 i2)))))
  (.e (.done (.brk ()))))
  (fun _=> .r<| .e 0))))))))
theorem Dl (p:au) (s_:State):dH Tryz.prog 104 (Pz s_ p) [] (fun r=>(vB r)) (fun _=>[]) (qx p s_):=
  dO tT mX Tryz.func104 (
  .rg {fr:=[(0,2),(1,3)],fz:=[2,3]} []<| .r<| .r<| .it (.r<| .e false)
  (.r<| .lp (σ:=Int) (β:=Unit) (0) [] [] ⟨[2,3,5],[],fun i=>[(8,(vI i))],fun i=>[]⟩ ⟨[],[],fun _=>[],fun _=>[]⟩
  (fun i=> .r<| .it (.a3 (Ud p i) (k44 s_ p i) (k45 s_ p i)<| .rg {} [0,1,2]<| .it (.r<| .e (.done (.ret false)))
  (.r<| .e (.next (k18 i))))
  (.e (.done (.brk ()))))
  (fun _=> .r<| .e true)))
theorem iE (p:au) (s_:State):dH Tryz.prog 65 (Pz s_ p) [] (fun r=>(vI r)) (fun _=>[]) (eG p s_):=
  dO tT mX Tryz.func65 (
  .rg {fr:=[(0,2),(1,3)],fz:=[2,3]} []<| .cl 1 (Da p) fun r_=> .r<| .cg 5 [((decide (r_=0)),true)] (Dl p s_) fun u0=> .r<| .it (.r<| .r<| .e 9)
  (.r<| .e r_))
theorem sU (l:(List Int)) (n:Int):dH Tryz.prog 105 (X7 l n) [] (fun r=>(vB r)) (fun _=>[]) (kI l n):=
  dO tT mX Tryz.func105 (
  .r<| .r<| .lp (σ:=Int) (β:=Unit) (0) [] [] ⟨[0,1],[],fun i=>[(5,(vI i))],fun i=>[]⟩ ⟨[0],[],fun _=>[],fun _=>[]⟩
  (fun i=> .r<| .it (.a2 (UH l i) ((gB [((decide ((at' l i.toNat)<0)),false)]=true→(0:Int)≤i∧i<(l.length:Int)))<| .rg {} [0,1]<| .it (.r<| .e (.done (.ret false)))
  (.r<| .e (.next (k18 i))))
  (.e (.done (.brk ()))))
  (fun _=> .r<| .e (decide ((l.length:Int)≤24))))
section
variable (x:af) (p:au)
abbrev Sv:=((gB [((decide (x.index<(p.links.length:Int))),true)]=true→(0:Int)≤x.index∧x.index<(p.links.length:Int)))
abbrev Sq:=(bif (decide (x.index<(p.links.length:Int)))then(!decide (((at' p.links x.index.toNat).kind)=1))else false)
end
theorem uK (p:au) (x:af):dH Tryz.prog 71 (k49 x p) [] (fun r=>(vB r)) (fun _=>[]) (lJ p x):=
  dO tT mX Tryz.func71 (
  .rg {fr:=[(0,2),(1,3)],fz:=[2,3]} []<| .r<| .r<| .it (.r<| .e false)
  (.r<| .r<| .it (.it (.a1 (Sv x p)<| .r<| .e (Sq x p))
  (.r<| .it (.it (.r<| .e (R6 x p))
  (.r<| .it (.it (.r<| .e (Ls x p))
  (.r<| .e false))
  (.r<| .it (.r<| .e (Ls x p))
  (.r<| .e false))))
  (.r<| .it (.r<| .e (R6 x p))
  (.r<| .it (.it (.r<| .e (Ls x p))
  (.r<| .e false))
  (.r<| .it (.r<| .e (Ls x p))
  (.r<| .e false))))))
  (.r<| .it (.it (.a1 (Sv x p)<| .r<| .e (Sq x p))
  (.r<| .it (.it (.r<| .e (R6 x p))
  (.r<| .it (.it (.r<| .e (Ls x p))
  (.r<| .e false))
  (.r<| .it (.r<| .e (Ls x p))
  (.r<| .e false))))
  (.r<| .it (.r<| .e (R6 x p))
  (.r<| .it (.it (.r<| .e (Ls x p))
  (.r<| .e false))
  (.r<| .it (.r<| .e (Ls x p))
  (.r<| .e false))))))
  (.r<| .it (.it (.a1 (Sv x p)<| .r<| .e (Sq x p))
  (.r<| .it (.it (.r<| .e (R6 x p))
  (.r<| .it (.it (.r<| .e (Ls x p))
  (.r<| .e false))
  (.r<| .it (.r<| .e (Ls x p))
  (.r<| .e false))))
  (.r<| .it (.r<| .e (R6 x p))
  (.r<| .it (.it (.r<| .e (Ls x p))
  (.r<| .e false))
  (.r<| .it (.r<| .e (Ls x p))
  (.r<| .e false))))))
  (.r<| .it (.a1 (Sv x p)<| .r<| .e (Sq x p))
  (.r<| .it (.it (.r<| .e (R6 x p))
  (.r<| .it (.it (.r<| .e (Ls x p))
  (.r<| .e false))
  (.r<| .it (.r<| .e (Ls x p))
  (.r<| .e false))))
  (.r<| .it (.r<| .e (R6 x p))
  (.r<| .it (.it (.r<| .e (Ls x p))
  (.r<| .e false))
  (.r<| .it (.r<| .e (Ls x p))
  (.r<| .e false))))))))))
theorem vJ (p:au) (l:(List af)):dH Tryz.prog 106 [(.agg (k1 p)),(sD (NP l))] [] (fun r=>(vB r)) (fun _=>[]) (nH p l):=
  dO tT mX Tryz.func106 (
  .rg {fr:=[(0,1)],fz:=[1]} []<| .r<| .lp (σ:=Int) (β:=Unit) (0) [] [] ⟨[1,2],[],fun i=>[(5,(vI i))],fun i=>[]⟩ ⟨[1],[],fun _=>[],fun _=>[]⟩
  (fun i=> .r<| .it (.cl 5 (uK p (at' l i.toNat)) fun r_=> .a1 (Ue l i)<| .rg {} [0,1]<| .it (.r<| .e (.done (.ret false)))
  (.r<| .e (.next (k18 i))))
  (.e (.done (.brk ()))))
  (fun _=> .r<| .e (decide ((l.length:Int)≤24))))
theorem Bo (p:au) (t:Task):dH Tryz.prog 66 (k0 p t) [] (fun r=>(vB r)) (fun _=>[]) (pF p t):=
  dO tT mX Tryz.func66 (
  .rg {fr:=[(0,2),(1,3)],fz:=[2,3]} []<| .cl 5 (sU t.fed (p.racks.length:Int)) fun r_=> .cg 11 [(r_,true)] (sU t.crew p.buses) fun u0=> .cg 17 [(k11 r_ u0)] (vJ p t.allowed) fun u1=> .cg 23 [(k12 r_ u0 u1)] (vJ p t.goal) fun u2=> .r<| .e (k13 r_ u0 u1 u2))
theorem qh (p:au) (s_:State) (kz:Int):dH Tryz.prog 107 (Qo p s_ kz) [] (fun r=>(vB r)) (fun _=>[]) (kM p s_ kz):=
  dO tT mX Tryz.func107 (
  .rg {fr:=[(0,2),(1,3)],fz:=[2,3]} []<| .a4 (YS s_ kz) (Ya s_ kz) ((gB [(Zn s_ kz)]=true→(0:Int)≤kz∧kz<(p.sources.length:Int))) (Xp s_ kz p)<| .rg {} [0,1,2,3]<| .e (bif (bif (at' s_.on_ kz.toNat)then(!(at' s_.badSource kz.toNat))else false)then(!(at' s_.badBus ((Ou kz p).toNat)))else false))
section
variable (s_:State) (i:Int) (p:au)
abbrev ZR:=((gB [((at' s_.closed i.toNat),true)]=true→(0:Int)≤i∧i<(s_.badLink.length:Int)))
abbrev XE:=(bif (at' s_.closed i.toNat)then(!(at' s_.badLink i.toNat))else false)
abbrev YF:=((XE s_ i),true)
abbrev KI:=((Bc p i).toNat)
abbrev Zf:=(bif (XE s_ i)then(!(at' s_.badBus (KI i p)))else false)
abbrev X5:=((Zf s_ i p),true)
abbrev MN:=((Ew p i).toNat)
end
theorem zT (p:au) (s_:State) (i:Int):dH Tryz.prog 134 (Qo p s_ i) [] (fun r=>(vB r)) (fun _=>[]) (mq p s_ i):=
  dO tT mX Tryz.func134 (
  .rg {fr:=[(0,2),(1,3)],fz:=[2,3]} []<| .a6 (V5 s_ i) (ZR s_ i) ((gB [(YF s_ i)]=true→(0:Int)≤i∧i<(p.links.length:Int))) ((gB [(YF s_ i)]=true→(0:Int)≤(at' p.links i.toNat).a∧(at' p.links i.toNat).a<(s_.badBus.length:Int))) ((gB [(X5 s_ i p)]=true→(0:Int)≤i∧i<(p.links.length:Int))) ((gB [(X5 s_ i p)]=true→(0:Int)≤(at' p.links i.toNat).b∧(at' p.links i.toNat).b<(s_.badBus.length:Int)))<| .rg {} [0,1,2,3,4,5]<| .e (bif (Zf s_ i p)then(!(at' s_.badBus (MN i p)))else false))
section
variable (p:au) (b:Int) (u0:(List Bool)) (i:Int)
abbrev TY:=((yA p).set b.toNat true)
abbrev Mr:=(u0.set (KI i p) true)
abbrev U7:=(aA ah (Mr p u0 i))
abbrev Wd:=((Mr p u0 i).set (MN i p) true)
abbrev YD:=(aA ah (Wd p u0 i))
end
theorem pW (p:au) (s_:State) (b:Int):dH Tryz.prog 108 (Qo p s_ b) [] (fun r=>(vD (aZ none 1 ah r))) (fun _=>[]) (dD p s_ b):=
  dO tT mX Tryz.func108 (
  .rg {fr:=[(0,19),(1,20)],fz:=[20]} []<| .a3 ((0:Int)≤p.buses) (TJ p) (TA p)<| .rg {an:=[(2, .arr (yA p).length (IL p))],fr:=[(2,21)]} [0, .e ((p.buses:Int)),1,2, .pf ⟨(yA p).length=p.buses.toNat,List.length_replicate⟩, .pf ⟨aK p.buses.toNat 1 (fun _ j=>[(.bool false)].getD j .nilp) (IL p),l8 _ _ _ _ _ (fun j hj=>(match j,hj with|0,_=>rfl))⟩]<| .a1 ((0:Int)≤b∧b<((yA p).length:Int))<| .rg {an:=[(3, .arr 0 (aA ah (TY p b)))]} [0, .t 0 b ((yA p).length), .pf ⟨aK (yA p).length 1 (mU (IL p) b.toNat 0 [(.bool true)]) (aA ah (TY p b)),aJ _ _ _ _ _ _ _ _ rfl (fun j hj=>(match j,hj with|0,_=>rfl))⟩]<| .im (.ll 21 (yA p) (TY p b))<| .r<| .lp (σ:=((List Bool) × Int)) (β:=(List Bool)) ((TY p b),0) [] [] ⟨[3,4],[19],fun(u1,n)=>[(7,(vO 21 true u1.length)),(8,(vI n))],fun(u1,n)=>[(21,some (bD 4 1 ah u1))]⟩ ⟨[],[],fun u2=>[(7,(vO 21 true u2.length))],fun u2=>[(21,some (bD 4 1 ah u2))]⟩
  (fun(u1,n)=> .r<| .it (.r<| .lp (σ:=((List Bool) × Int)) (β:=(List Bool)) (u1,0) [] [] ⟨[3,4,8],[19],fun(u0,i)=>[(7,(vO 21 true u0.length)),(9,(vI i))],fun(u0,i)=>[(21,some (bD 4 1 ah u0))]⟩ ⟨[3,4,8],[19],fun u3=>[(7,(vO 21 true u3.length))],fun u3=>[(21,some (bD 4 1 ah u3))]⟩
  (fun(u0,i)=> .r<| .it (.a1 (Ud p i)<| .rg {fr:=[(5,37)]} []<| .cl 3 (zT p s_ i) fun r_=> .a2 ((gB [(r_,true)]=true→(0:Int)≤(at' p.links i.toNat).a∧(at' p.links i.toNat).a<(u0.length:Int))) ((gB [((at' u0 (KI i p)),false),(r_,true)]=true→(0:Int)≤(at' p.links i.toNat).b∧(at' p.links i.toNat).b<(u0.length:Int)))<| .rg {} [2,0, .tg 0 [(r_,true)] (Bc p i) u0.length,1, .tg 1 [((at' u0 (KI i p)),false),(r_,true)] (Ew p i) u0.length]<| .it (.a1 ((0:Int)≤(at' p.links i.toNat).a∧(at' p.links i.toNat).a<(u0.length:Int))<| .rg {an:=[(4, .arr 0 (U7 p u0 i))]} [0, .t 0 (Bc p i) u0.length, .pf ⟨aK u0.length 1 (mU (aA ah u0) (KI i p) 0 [(.bool true)]) (U7 p u0 i),aJ _ _ _ _ _ _ _ _ rfl (fun j hj=>(match j,hj with|0,_=>rfl))⟩]<| .im (.ll 21 u0 (Mr p u0 i))<| .a1 ((0:Int)≤(at' p.links i.toNat).b∧(at' p.links i.toNat).b<((Mr p u0 i).length:Int))<| .rg {an:=[(4, .arr 0 (YD p u0 i))]} [0, .t 0 (Ew p i) ((Mr p u0 i).length), .pf ⟨aK (Mr p u0 i).length 1 (mU (U7 p u0 i) (MN i p) 0 [(.bool true)]) (YD p u0 i),aJ _ _ _ _ _ _ _ _ rfl (fun j hj=>(match j,hj with|0,_=>rfl))⟩]<| .im (.ll 21 (Mr p u0 i) (Wd p u0 i))<| .r<| .e (.next ((Wd p u0 i),(k18 i))))
  (.r<| .e (.next (OA i u0))))
  (.e (.done (.brk u0))))
  (fun u3=> .r<| .e (.next (OA n u3))))
  (.e (.done (.brk u1))))
  (fun u2=> .rg {fz:=[21]} []<| .e u2))
section
variable (u0:(List Bool)) (b:Int) (u2:(List Bool))
abbrev RV:=(u0.set b.toNat (bif (at' u0 b.toNat)then true else(at' u2 b.toNat)))
end
theorem xH (p:au) (s_:State):dH Tryz.prog 67 (Pz s_ p) [] (fun r=>(.iL [(sD (aZ none 1 ah r.1)),(sI r.2)])) (fun _=>[]) (iV p s_):=
  dO tT mX Tryz.func67 (
  .rg {fr:=[(0,3),(1,4)],fz:=[3,4]} []<| .cl 2 (iE p s_) fun r_=> .r<| .r<| .it (.r<| .e (([]:List Bool),r_))
  (.a3 ((0:Int)≤p.buses) (TJ p) (TA p)<| .rg {an:=[(2, .arr (yA p).length (IL p))],fr:=[(2,5)]} [0, .e ((p.buses:Int)),1,2, .pf ⟨(yA p).length=p.buses.toNat,List.length_replicate⟩, .pf ⟨aK p.buses.toNat 1 (fun _ j=>[(.bool false)].getD j .nilp) (IL p),l8 _ _ _ _ _ (fun j hj=>(match j,hj with|0,_=>rfl))⟩]<| .r<| .lp (σ:=((List Bool) × Int)) (β:=(List Bool)) ((yA p),0) [] [] ⟨[2,3],[],fun(u1,kz)=>[(7,(vO 5 true u1.length)),(8,(vI kz))],fun(u1,kz)=>[(5,some (bD 4 1 ah u1))]⟩ ⟨[],[],fun u3=>[(7,(vO 5 true u3.length))],fun u3=>[(5,some (bD 4 1 ah u3))]⟩
  (fun(u1,kz)=> .r<| .it (.cl 3 (qh p s_ kz) fun u5=> .r<| .it (.r<| .e (.next (OA kz u1)))
  (.cl 8 (pW p s_ (Ou kz p)) fun u2=> .a1 (Ra kz p)<| .rg {} [0,1]<| .r<| .lp (σ:=((List Bool) × Int)) (β:=(List Bool)) (u1,0) [] [] ⟨[2,3,8,9],[],fun(u0,b)=>[(7,(vO 5 true u0.length)),(10,(vI b))],fun(u0,b)=>[(5,some (bD 4 1 ah u0))]⟩ ⟨[2,3,8],[],fun u4=>[(7,(vO 5 true u4.length))],fun u4=>[(5,some (bD 4 1 ah u4))]⟩
  (fun(u0,b)=> .r<| .it (.a2 (Yp u0 b) ((gB [((at' u0 b.toNat),false)]=true→(0:Int)≤b∧b<(u2.length:Int)))<| .rg {an:=[(13, .arr 0 (aA ah (RV u0 b u2)))]} [0, .t 0 b u0.length,1,0, .t 0 b u0.length, .pf ⟨aK u0.length 1 (mU (aA ah u0) b.toNat 0 [(.bool (bif (at' u0 b.toNat)then true else(at' u2 b.toNat)))]) (aA ah (RV u0 b u2)),aJ _ _ _ _ _ _ _ _ rfl (fun j hj=>(match j,hj with|0,_=>rfl))⟩]<| .im (.ll 5 u0 (RV u0 b u2))<| .r<| .e (.next ((RV u0 b u2),(k18 b))))
  (.e (.done (.brk u0))))
  (fun u4=> .r<| .e (.next (OA kz u4)))))
  (.e (.done (.brk u1))))
  (fun u3=> .rg {fz:=[5]} []<| .e (u3,0))))
theorem Dc (a:Source) (b:Source):dH Tryz.prog 109 [(.agg (k7 a)),(.agg (k7 b))] [] (fun r=>(vB r)) (fun _=>[]) (qj a b):=
  dO tT mX Tryz.func109 (
  .rg {fr:=[(0,2),(1,3)],fz:=[2,3]} []<| .r<| .e (bif (!decide (a.sync=b.sync))then true else(decide (a.sync=0))))
section
variable (u3:(List ay)) (u1:Bool) (u2:Bool) (u6:(List Bool)) (p:au) (kz:Int)
abbrev Tc:List (Nat × Option Ob):=[(37,some (bD 117 2 ay.cell u3))]
abbrev VI:=((bif (bif u1 then u2 else false)then(at' u6 ((Ou kz p).toNat))else false),true)
end
theorem AU (p:au) (s_:State):dH Tryz.prog 68 (Pz s_ p) [] (fun r=>(.iL [(sD (aZ none 2 ay.cell r.1)),(sI r.2)])) (fun _=>[]) (nN p s_):=
  dO tT mX Tryz.func68 (
  .rg {fr:=[(0,34),(1,35)],fz:=[34,35]} []<| .cl 2 (iE p s_) fun r_=> .r<| .r<| .it (.r<| .e (([]:List ay),r_))
  (.r<| .r<| .im (.ad 7 68 117 2 (aA ay.cell ([]:List ay)))<| .lp (σ:=((List ay) × Int)) (β:=(List ay)) (([]:List ay),0) [] [(68,37)] ⟨[2,3],[],fun(u3,i)=>[(7,(vO 37 false u3.length)),(8,(vI i))],fun(u3,i)=>(Tc u3)⟩ ⟨[],[],fun u4=>[(7,(vO 37 false u4.length))],fun u4=>(Tc u4)⟩
  (fun(u3,i)=> .r<| .it (.r<| .lp (σ:=((List ay) × Int)) (β:=(List ay)) (Oq i u3) [] [] ⟨[2,3,8],[],fun(u0,kz)=>[(7,(vO 37 false u0.length)),(9,(vI kz))],fun(u0,kz)=>(Tc u0)⟩ ⟨[2,3,8],[],fun u5=>[(7,(vO 37 false u5.length))],fun u5=>(Tc u5)⟩
  (fun(u0,kz)=> .r<| .it (.cl 3 (qh p s_ i) fun u1=> .cg 8 [(u1,true)] (qh p s_ kz) fun u2=> .cg 19 [(k11 u1 u2)] (pW p s_ (Ou i p)) fun u6=> .cg 40 [(VI u1 u2 u6 p kz)] (Dc (at' p.sources i.toNat) (at' p.sources kz.toNat)) fun u7=> .a5 ((gB [(k11 u1 u2)]=true→(0:Int)≤i∧i<(p.sources.length:Int))) ((gB [(k11 u1 u2)]=true→(0:Int)≤kz∧kz<(p.sources.length:Int))) ((gB [(k11 u1 u2)]=true→(0:Int)≤(at' p.sources kz.toNat).bus∧(at' p.sources kz.toNat).bus<(u6.length:Int))) ((gB [(VI u1 u2 u6 p kz)]=true→(0:Int)≤i∧i<(p.sources.length:Int))) ((gB [(VI u1 u2 u6 p kz)]=true→(0:Int)≤kz∧kz<(p.sources.length:Int)))<| .rg {} [8,7,0,6,1,2,3,4,5]<| .it (.a2 ((u0.length+[(⟨i,kz⟩:ay)].length)*16≤140737488355328) (u0.length+[(⟨i,kz⟩:ay)].length≤4611686018427387904)<| .rg {an:=[(4, .arr [(⟨i,kz⟩:ay)].length (aA ay.cell [(⟨i,kz⟩:ay)])),(5, .arr (u0++[(⟨i,kz⟩:ay)]).length (aA ay.cell (u0++[(⟨i,kz⟩:ay)])))],fr:=[(4,66),(5,67)]} [.pf ⟨[(⟨i,kz⟩:ay)].length=1,rfl⟩, .pf ⟨aK 1 2 (uS 2 [(.int .i64 i),(.int .i64 kz)]) (aA ay.cell [(⟨i,kz⟩:ay)]),(by intro i hi j hj;match i,j,hi,hj with|0,0,_,_=>rfl|0,1,_,_=>rfl)⟩, .e (u0.length),0,1, .pf ⟨(u0++[(⟨i,kz⟩:ay)]).length=u0.length+[(⟨i,kz⟩:ay)].length,List.length_append⟩, .pf ⟨aK (u0.length+[(⟨i,kz⟩:ay)].length) 2 (yO (aA ay.cell u0) u0.length (aA ay.cell [(⟨i,kz⟩:ay)])) (aA ay.cell (u0++[(⟨i,kz⟩:ay)])),iO _ _ _ _⟩]<| .r<| .en (.next ((u0++[(⟨i,kz⟩:ay)]),(k18 kz))) [] [(67,37)])
  (.r<| .e (.next (Oq kz u0))))
  (.e (.done (.brk u0))))
  (fun u5=> .r<| .e (.next (Oq i u5))))
  (.e (.done (.brk u3))))
  (fun u4=> .rg {fz:=[37]} []<| .e (u4,0))))
theorem uW (l:(List Int)) (n:Int):dH Tryz.prog 110 (X7 l n) [] (fun r=>(vB r)) (fun _=>[]) (pX l n):=
  dO tT mX Tryz.func110 (
  .r<| .r<| .lp (σ:=Int) (β:=Unit) (0) [] [] ⟨[0,1],[],fun i=>[(5,(vI i))],fun i=>[]⟩ ⟨[],[],fun _=>[],fun _=>[]⟩
  (fun i=> .r<| .it (.a1 (UH l i)<| .r<| .it (.r<| .e (.done (.ret true)))
  (.r<| .e (.next (k18 i))))
  (.e (.done (.brk ()))))
  (fun _=> .r<| .e false))
section
variable (p:au) (s_:State) (u0:(List Int)) (b:Int) (i:Int) (r_:Bool)
abbrev aa3:List SV:=[(.agg (k1 p)),(.agg (zI s_)),(sD (QD u0)),(sI b)]
abbrev XV:=((gB [((decide (((at' p.links i.toNat).kind)=1)),false),((bif (decide (0≤(Bc p i)))then(!r_)else false),true)]=true→(0:Int)≤i∧i<(s_.closed.length:Int)))
abbrev YG:=((gB [(Wn p s_ i),((bif (decide (0≤(Bc p i)))then(!r_)else false),true)]=true→(0:Int)≤i∧i<(s_.locked.length:Int)))
end
theorem Cn (p:au) (s_:State) (u0:(List Int)) (b:Int):dH Tryz.prog 69 (aa3 p s_ u0 b) [] (fun r=>(vB r)) (fun _=>[]) (pE p s_ u0 b):=
  dO tT mX Tryz.func69 (
  .rg {fr:=[(0,10),(1,11)],fz:=[11]} []<| .a1 (Zd s_ b)<| .r<| .it (.r<| .e true)
  (.r<| .lp (σ:=Int) (β:=Unit) (0) [] [] ⟨[2,3,4,5],[10],fun kz=>[(9,(vI kz))],fun kz=>[]⟩ ⟨[2,3,4,5],[10],fun _=>[],fun _=>[]⟩
  (fun kz=> .r<| .it (.a2 (Ra kz p) (Y7 p s_ b kz)<| .rg {} [0,1]<| .it (.r<| .e (.done (.ret true)))
  (.r<| .e (.next (k18 kz))))
  (.e (.done (.brk ()))))
  (fun _=> .r<| .lp (σ:=Int) (β:=Unit) (0) [] [] ⟨[2,3,4,5],[10],fun i=>[(10,(vI i))],fun i=>[]⟩ ⟨[],[],fun _=>[],fun _=>[]⟩
  (fun i=> .r<| .it (.jn (β:=Unit) 2 ⟨[2,3,4,5,10],[10],fun _=>[],fun _=>[]⟩ (.a1 (Ud p i)<| .rg {fr:=[(5,19)],fz:=[19]} []<| .r<| .r<| .it (.r<| .r<| .it (.r<| .cg 5 [((decide (0≤(Bc p i))),true)] (uW u0 (Bc p i)) fun r_=> .a2 (XV p s_ i r_) (YG p s_ i r_)<| .rg {} [2,0,1]<| .it (.r<| .e (.ret (.done (.ret true))))
  (.e (.brk ())))
  (.cg 5 [((decide (0≤(Ew p i))),true)] (uW u0 (Ew p i)) fun u1=> .a2 ((gB [((decide (((at' p.links i.toNat).kind)=1)),false),((bif (decide (0≤(Ew p i)))then(!u1)else false),true)]=true→(0:Int)≤i∧i<(s_.closed.length:Int))) ((gB [(Wn p s_ i),((bif (decide (0≤(Ew p i)))then(!u1)else false),true)]=true→(0:Int)≤i∧i<(s_.locked.length:Int)))<| .rg {} [2,0,1]<| .it (.r<| .e (.ret (.done (.ret true))))
  (.e (.brk ()))))
  (.r<| .it (.r<| .cg 5 [((decide (0≤(Bc p i))),true)] (uW u0 (Bc p i)) fun u2=> .a2 (XV p s_ i u2) (YG p s_ i u2)<| .rg {} [2,0,1]<| .it (.r<| .e (.ret (.done (.ret true))))
  (.e (.brk ())))
  (.rg {sk:=[3,4,5,6,9,10,11,12,13,14,15,16,17,19,20,21,22,23,24,25]} []<| .f<| .e (.brk ()))))
  (fun _=> .r<| .e (.next (k18 i))))
  (.e (.done (.brk ()))))
  (fun _=> .r<| .e false))))
section
variable (p:au) (t:Task) (i:Int)
abbrev JN:=((at' p.racks ((at' t.fed i.toNat).toNat)).feeds)
end
theorem pM (p:au) (s_:State) (t:Task):dH Tryz.prog 24 (VK p s_ t) [] (fun r=>(vI r)) (fun _=>[]) (dw p s_ t):=
  dO tT mX Tryz.func24 (
  .rg {fr:=[(0,7),(1,8),(2,9)],fz:=[8]} []<| .cl 2 (iE p s_) fun r_=> .r<| .r<| .it (.r<| .e r_)
  (.cl 2 (Bo p t) fun u1=> .r<| .it (.r<| .e 1)
  (.cl 2 (xH p s_) fun u0=> .r<| .r<| .lp (σ:=Int) (β:=Unit) (0) [] [] ⟨[3,4,5,8],[7,9],fun b=>[(10,(vI b))],fun b=>[]⟩ ⟨[3,4,5,8],[7,9],fun _=>[],fun _=>[]⟩
  (fun b=> .r<| .it (.a2 ((0:Int)≤b∧b<(u0.1.length:Int)) ((gB [((at' u0.1 b.toNat),true)]=true→(0:Int)≤b∧b<(s_.earthed.length:Int)))<| .rg {} [0,1]<| .it (.r<| .e (.done (.ret 40)))
  (.r<| .e (.next (k18 b))))
  (.e (.done (.brk ()))))
  (fun _=> .cl 2 (AU p s_) fun u2=> .r<| .r<| .it (.r<| .e 41)
  (.r<| .lp (σ:=Int) (β:=Unit) (0) [] [] ⟨[3,4,5,8],[7,9],fun i=>[(13,(vI i))],fun i=>[]⟩ ⟨[3,4,5],[7,9],fun _=>[],fun _=>[]⟩
  (fun i=> .r<| .it (.a2 ((0:Int)≤i∧i<(t.fed.length:Int)) ((0:Int)≤(at' t.fed i.toNat)∧(at' t.fed i.toNat)<(p.racks.length:Int))<| .rg {fr:=[(10,13)],fz:=[13]} [0,1]<| .a2 ((0:Int)≤(JN p t i).e0∧(JN p t i).e0<(u0.1.length:Int)) ((gB [((decide (0≤((JN p t i).e1))),true),((!(at' u0.1 (((JN p t i).e0).toNat))),true)]=true→(0:Int)≤(if(JN p t i).e1<0 then 0 else(JN p t i).e1)∧(if(JN p t i).e1<0 then 0 else(JN p t i).e1)<(u0.1.length:Int)))<| .rg {} [.pf ⟨(0:Int)≤0∧(0:Int)<(2:Nat),(by decide)⟩,0, .pf ⟨(0:Int)≤1∧(1:Int)<(2:Nat),(by decide)⟩, .pf ⟨(0:Int)≤1∧(1:Int)<(2:Nat),(by decide)⟩,1]<| .it (.r<| .e (.done (.ret 42)))
  (.r<| .e (.next (k18 i))))
  (.e (.done (.brk ()))))
  (fun _=> .rg {fz:=[7,9]} []<| .lp (σ:=Int) (β:=Unit) (0) [] [] ⟨[3,4,5],[],fun i1=>[(15,(vI i1))],fun i1=>[]⟩ ⟨[],[],fun _=>[],fun _=>[]⟩
  (fun i1=> .r<| .it (.cl 9 (Cn p s_ t.crew (at' t.crew i1.toNat)) fun u3=> .a1 ((0:Int)≤i1∧i1<(t.crew.length:Int))<| .rg {} [0,1]<| .it (.r<| .e (.done (.ret 45)))
  (.r<| .e (.next (k18 i1))))
  (.e (.done (.brk ()))))
  (fun _=> .r<| .e 0)))))))
section
variable (x:af) (s_:State)
abbrev SI:=((0:Int)≤x.index∧x.index<(s_.closed.length:Int))
abbrev Ph:=((0:Int)≤x.index∧x.index<(s_.earthed.length:Int))
abbrev Gv:=((0:Int)≤x.index∧x.index<(s_.locked.length:Int))
abbrev xM:=((0:Int)≤x.index∧x.index<(s_.on_.length:Int))
end
theorem vU (s_:State) (x:af):dH Tryz.prog 72 (Tz s_ x) [] (fun r=>(vB r)) (fun _=>[]) (mY s_ x):=
  dO tT mX Tryz.func72 (
  .rg {fr:=[(0,2),(1,3)],fz:=[2,3]} []<| .r<| .r<| .r<| .it (.a1 (SI x s_)<| .r<| .e (!(at' s_.closed x.index.toNat)))
  (.r<| .it (.a1 (SI x s_)<| .r<| .e (at' s_.closed x.index.toNat))
  (.r<| .it (.a1 (Ph x s_)<| .r<| .e (at' s_.earthed x.index.toNat))
  (.r<| .it (.a1 (Ph x s_)<| .r<| .e (!(at' s_.earthed x.index.toNat)))
  (.r<| .it (.a1 (Gv x s_)<| .r<| .e (at' s_.locked x.index.toNat))
  (.r<| .it (.a1 (Gv x s_)<| .r<| .e (!(at' s_.locked x.index.toNat)))
  (.r<| .it (.a1 (xM x s_)<| .r<| .e (at' s_.on_ x.index.toNat))
  (.a1 (xM x s_)<| .r<| .e (!(at' s_.on_ x.index.toNat))))))))))
theorem aN (l:(List Bool)):dH Tryz.prog 84 [(sD (aZ none 1 ah l))] [] (fun r=>(vO 0 false r.length)) (fun r=>[(0,some (bD 4 1 ah r))]) (bV l):=
  dO tT mX Tryz.func84 (
  .r<| .r<| .a2 (l.length*1≤140737488355328) (l.length≤4611686018427387904)<| .rg {an:=[(2, .arr l.length (aA ah l))],fr:=[(2,1)]} [0,1, .e (l.length), .pf ⟨aK l.length 1 (aA ah l) (aA ah l),si _ _ _⟩]<| .en l [] [(1,0)])
theorem A9 (x:State):dH Tryz.prog 39 (RB x) [] (fun r=>(.v (.agg [(.d (aZ none 1 ah r.closed)),(.d (aZ none 1 ah r.locked)),(.d (aZ none 1 ah r.badLink)),(.d (aZ none 1 ah r.on_)),(.d (aZ none 1 ah r.badSource)),(.d (aZ none 1 ah r.earthed)),(.d (aZ none 1 ah r.badBus))]))) (fun _=>[]) (eF x):=
  dO tT mX Tryz.func39 (
  .rg {fr:=[(0,9),(1,10)],fz:=[9]} []<| .cl 2 (dF [(0,11)] (aN x.closed)) fun r_=> .cl 5 (dF [(0,12)] (aN x.locked)) fun u0=> .cl 8 (dF [(0,13)] (aN x.badLink)) fun u1=> .cl 11 (dF [(0,14)] (aN x.on_)) fun u2=> .cl 14 (dF [(0,15)] (aN x.badSource)) fun u3=> .cl 17 (dF [(0,16)] (aN x.earthed)) fun u4=> .cl 20 (dF [(0,17)] (aN x.badBus)) fun u5=> .rg {fz:=[11,12,13,14,15,16,17]} []<| .fz [10]<| .e (pG r_ u0 u1 u2 u3 u4 u5))
theorem pK (x:State):dH Tryz.prog 39 (RB x) [] (fun r=>(.v (.agg [(.own 0 false r.closed.length),(.own 1 false r.locked.length),(.own 2 false r.badLink.length),(.own 3 false r.on_.length),(.own 4 false r.badSource.length),(.own 5 false r.earthed.length),(.own 6 false r.badBus.length)]))) (fun r=>[(0,some (bD 4 1 ah r.closed)),(1,some (bD 4 1 ah r.locked)),(2,some (bD 4 1 ah r.badLink)),(3,some (bD 4 1 ah r.on_)),(4,some (bD 4 1 ah r.badSource)),(5,some (bD 4 1 ah r.earthed)),(6,some (bD 4 1 ah r.badBus)),(7,none)]) (eF x):=
  dO tT mX Tryz.func39 (
  .rg {fr:=[(0,9),(1,10)],fz:=[9]} []<| .cl 2 (dF [(0,11)] (aN x.closed)) fun r_=> .cl 5 (dF [(0,12)] (aN x.locked)) fun u0=> .cl 8 (dF [(0,13)] (aN x.badLink)) fun u1=> .cl 11 (dF [(0,14)] (aN x.on_)) fun u2=> .cl 14 (dF [(0,15)] (aN x.badSource)) fun u3=> .cl 17 (dF [(0,16)] (aN x.earthed)) fun u4=> .cl 20 (dF [(0,17)] (aN x.badBus)) fun u5=> .r<| .en (pG r_ u0 u1 u2 u3 u4 u5) [] [(11,0),(12,1),(13,2),(14,3),(15,4),(16,5),(17,6),(10,7)])
section
variable (r_:State) (i:Int)
abbrev Xw:=(⟨(r_.closed.set i.toNat false),r_.locked,r_.badLink,r_.on_,r_.badSource,r_.earthed,r_.badBus⟩:State)
end
theorem Fu (p:au) (s_:State) (i:Int):dH Tryz.prog 73 (Qo p s_ i) [] (fun r=>(vB r)) (fun _=>[]) (uI p s_ i):=
  dO tT mX Tryz.func73 (
  .rg {fr:=[(0,11),(1,12)],fz:=[11,12]} []<| .cl 1 (dF [(0,13),(1,14),(2,15),(3,16),(4,17),(5,18),(6,19),(7,20)] (pK s_)) fun r_=> .rg {fr:=[(2,21)]} []<| .a1 (V5 r_ i)<| .rg {an:=[(4, .arr 0 (aA ah (r_.closed.set i.toNat false)))],fz:=[13,14,15,16,17,18,19]} [0, .t 0 i r_.closed.length, .pf ⟨aK r_.closed.length 1 (mU (aA ah r_.closed) i.toNat 0 [(.bool false)]) (aA ah (r_.closed.set i.toNat false)),aJ _ _ _ _ _ _ _ _ rfl (fun j hj=>(match j,hj with|0,_=>rfl))⟩]<| .im (.uh 21 (some (.cells 29 [(.d (.sl none 1 r_.closed.length (aA ah (r_.closed.set i.toNat false)))),(.d (Uz r_)),(.d (Ux r_)),(.d (UD r_)),(.d (UA r_)),(.d (UU r_)),(.d (UZ r_))])) (some (.cells 29 [(.d (aZ none 1 ah (r_.closed.set i.toNat false))),(.d (Uz r_)),(.d (Ux r_)),(.d (UD r_)),(.d (UA r_)),(.d (UU r_)),(.d (UZ r_))])) (pQ ⟨ku.d (kF.Zz (by simp only [List.length_set,List.length_drop,Bh]) (.inr rfl) (fun _ _ _ _=> .refl _)),ku.refl _,ku.refl _,ku.refl _,ku.refl _,ku.refl _,ku.refl _,trivial⟩))<| .fz [21]<| .a1 (Ud p i)<| .rg {} [0,0]<| .a2 ((0:Int)≤(at' p.links i.toNat).a∧(at' p.links i.toNat).a<(r_.badBus.length:Int)) ((gB [((at' r_.badBus (KI i p)),false)]=true→(0:Int)≤(at' p.links i.toNat).b∧(at' p.links i.toNat).b<(r_.badBus.length:Int)))<| .rg {} [0,1]<| .it (.r<| .e false)
  (.cl 2 (xH p (Xw r_ i)) fun u0=> .r<| .cl 3 (pW p (Xw r_ i) (Bc p i)) fun u1=> .a3 ((0:Int)≤(at' p.links i.toNat).b∧(at' p.links i.toNat).b<(u1.length:Int)) ((gB [((!(at' u1 (MN i p))),true)]=true→(0:Int)≤(at' p.links i.toNat).a∧(at' p.links i.toNat).a<(u0.1.length:Int))) ((gB [((at' u0.1 (KI i p)),false),((!(at' u1 (MN i p))),true)]=true→(0:Int)≤(at' p.links i.toNat).b∧(at' p.links i.toNat).b<(u0.1.length:Int)))<| .rg {} [3,0,1,2]<| .e (bif (!(at' u1 (MN i p)))then(bif (at' u0.1 (KI i p))then true else(at' u0.1 (MN i p)))else false)))
section
variable (r_:State) (x:af)
abbrev RJ:=(r_.closed.set x.index.toNat (decide (x.deed=2)))
abbrev Uu:=(aA ah (RJ r_ x))
abbrev XU:=(⟨(RJ r_ x),r_.locked,r_.badLink,r_.on_,r_.badSource,r_.earthed,r_.badBus⟩:State)
abbrev Od:=(r_.earthed.set x.index.toNat (decide (x.deed=3)))
abbrev Kz:=(aA ah (Od r_ x))
abbrev Ul:=(mU (aA ah r_.earthed) x.index.toNat 0 [(.bool (decide (x.deed=3)))])
abbrev Sl:=(⟨r_.closed,r_.locked,r_.badLink,r_.on_,r_.badSource,(Od r_ x),r_.badBus⟩:State)
abbrev GL:=(r_.locked.set x.index.toNat (decide (x.deed=5)))
abbrev zG:=(aA ah (GL r_ x))
abbrev Lg:=(mU (aA ah r_.locked) x.index.toNat 0 [(.bool (decide (x.deed=5)))])
abbrev Kk:=(⟨r_.closed,(GL r_ x),r_.badLink,r_.on_,r_.badSource,r_.earthed,r_.badBus⟩:State)
abbrev xX:=(r_.on_.set x.index.toNat (decide (x.deed=7)))
abbrev nA:=(aA ah (xX r_ x))
abbrev zR:=(mU (aA ah r_.on_) x.index.toNat 0 [(.bool (decide (x.deed=7)))])
abbrev zD:=(⟨r_.closed,r_.locked,r_.badLink,(xX r_ x),r_.badSource,r_.earthed,r_.badBus⟩:State)
end
theorem zC (s_:State) (x:af):dH Tryz.prog 74 (Tz s_ x) [] (fun r=>(.v (.agg [(.own 0 false r.closed.length),(.own 1 false r.locked.length),(.own 2 false r.badLink.length),(.own 3 false r.on_.length),(.own 4 false r.badSource.length),(.own 5 false r.earthed.length),(.own 6 false r.badBus.length)]))) (fun r=>[(0,some (bD 4 1 ah r.closed)),(1,some (bD 4 1 ah r.locked)),(2,some (bD 4 1 ah r.badLink)),(3,some (bD 4 1 ah r.on_)),(4,some (bD 4 1 ah r.badSource)),(5,some (bD 4 1 ah r.earthed)),(6,some (bD 4 1 ah r.badBus)),(7,none)]) (qo s_ x):=
  dO tT mX Tryz.func74 (
  .rg {fr:=[(0,12),(1,13),(2,14)],fz:=[12]} []<| .cl 1 (dF [(0,15),(1,16),(2,17),(3,18),(4,19),(5,20),(6,21),(7,22)] (pK s_)) fun r_=> .rg {fr:=[(2,23)]} []<| .rg {fz:=[13]} []<| .r<| .r<| .it (.it (.a1 (SI x r_)<| .rg {an:=[(7, .arr 0 (Uu r_ x))]} [0, .t 0 x.index r_.closed.length, .pf ⟨aK r_.closed.length 1 (mU (aA ah r_.closed) x.index.toNat 0 [(.bool (decide (x.deed=2)))]) (Uu r_ x),aJ _ _ _ _ _ _ _ _ rfl (fun j hj=>(match j,hj with|0,_=>rfl))⟩]<| .im (.ll 15 r_.closed (RJ r_ x))<| .r<| .en (XU r_ x) [] [(15,0),(16,1),(17,2),(18,3),(19,4),(20,5),(21,6),(14,7)])
  (.r<| .it (.it (.a1 (Ph x r_)<| .rg {an:=[(7, .arr 0 (Kz r_ x))]} [0, .t 0 x.index r_.earthed.length, .pf ⟨aK r_.earthed.length 1 (Ul r_ x) (Kz r_ x),aJ _ _ _ _ _ _ _ _ rfl (fun j hj=>(match j,hj with|0,_=>rfl))⟩]<| .im (.ll 20 r_.earthed (Od r_ x))<| .r<| .en (Sl r_ x) [] [(15,0),(16,1),(17,2),(18,3),(19,4),(20,5),(21,6),(14,7)])
  (.r<| .it (.it (.a1 (Gv x r_)<| .rg {an:=[(7, .arr 0 (zG r_ x))]} [0, .t 0 x.index r_.locked.length, .pf ⟨aK r_.locked.length 1 (Lg r_ x) (zG r_ x),aJ _ _ _ _ _ _ _ _ rfl (fun j hj=>(match j,hj with|0,_=>rfl))⟩]<| .im (.ll 16 r_.locked (GL r_ x))<| .r<| .en (Kk r_ x) [] [(15,0),(16,1),(17,2),(18,3),(19,4),(20,5),(21,6),(14,7)])
  (.r<| .it (.it (.a1 (xM x r_)<| .rg {an:=[(7, .arr 0 (nA r_ x))]} [0, .t 0 x.index r_.on_.length, .pf ⟨aK r_.on_.length 1 (zR r_ x) (nA r_ x),aJ _ _ _ _ _ _ _ _ rfl (fun j hj=>(match j,hj with|0,_=>rfl))⟩]<| .im (.ll 18 r_.on_ (xX r_ x))<| .r<| .en (zD r_ x) [] [(15,0),(16,1),(17,2),(18,3),(19,4),(20,5),(21,6),(14,7)])
  (.r<| .en r_ [] [(15,0),(16,1),(17,2),(18,3),(19,4),(20,5),(21,6),(14,7)]))
  (.r<| .it (.a1 (xM x r_)<| .rg {an:=[(7, .arr 0 (nA r_ x))]} [0, .t 0 x.index r_.on_.length, .pf ⟨aK r_.on_.length 1 (zR r_ x) (nA r_ x),aJ _ _ _ _ _ _ _ _ rfl (fun j hj=>(match j,hj with|0,_=>rfl))⟩]<| .im (.ll 18 r_.on_ (xX r_ x))<| .r<| .en (zD r_ x) [] [(15,0),(16,1),(17,2),(18,3),(19,4),(20,5),(21,6),(14,7)])
  (.r<| .en r_ [] [(15,0),(16,1),(17,2),(18,3),(19,4),(20,5),(21,6),(14,7)]))))
  (.r<| .it (.a1 (Gv x r_)<| .rg {an:=[(7, .arr 0 (zG r_ x))]} [0, .t 0 x.index r_.locked.length, .pf ⟨aK r_.locked.length 1 (Lg r_ x) (zG r_ x),aJ _ _ _ _ _ _ _ _ rfl (fun j hj=>(match j,hj with|0,_=>rfl))⟩]<| .im (.ll 16 r_.locked (GL r_ x))<| .r<| .en (Kk r_ x) [] [(15,0),(16,1),(17,2),(18,3),(19,4),(20,5),(21,6),(14,7)])
  (.r<| .it (.it (.a1 (xM x r_)<| .rg {an:=[(7, .arr 0 (nA r_ x))]} [0, .t 0 x.index r_.on_.length, .pf ⟨aK r_.on_.length 1 (zR r_ x) (nA r_ x),aJ _ _ _ _ _ _ _ _ rfl (fun j hj=>(match j,hj with|0,_=>rfl))⟩]<| .im (.ll 18 r_.on_ (xX r_ x))<| .r<| .en (zD r_ x) [] [(15,0),(16,1),(17,2),(18,3),(19,4),(20,5),(21,6),(14,7)])
  (.r<| .en r_ [] [(15,0),(16,1),(17,2),(18,3),(19,4),(20,5),(21,6),(14,7)]))
  (.r<| .it (.a1 (xM x r_)<| .rg {an:=[(7, .arr 0 (nA r_ x))]} [0, .t 0 x.index r_.on_.length, .pf ⟨aK r_.on_.length 1 (zR r_ x) (nA r_ x),aJ _ _ _ _ _ _ _ _ rfl (fun j hj=>(match j,hj with|0,_=>rfl))⟩]<| .im (.ll 18 r_.on_ (xX r_ x))<| .r<| .en (zD r_ x) [] [(15,0),(16,1),(17,2),(18,3),(19,4),(20,5),(21,6),(14,7)])
  (.r<| .en r_ [] [(15,0),(16,1),(17,2),(18,3),(19,4),(20,5),(21,6),(14,7)]))))))
  (.r<| .it (.a1 (Ph x r_)<| .rg {an:=[(7, .arr 0 (Kz r_ x))]} [0, .t 0 x.index r_.earthed.length, .pf ⟨aK r_.earthed.length 1 (Ul r_ x) (Kz r_ x),aJ _ _ _ _ _ _ _ _ rfl (fun j hj=>(match j,hj with|0,_=>rfl))⟩]<| .im (.ll 20 r_.earthed (Od r_ x))<| .r<| .en (Sl r_ x) [] [(15,0),(16,1),(17,2),(18,3),(19,4),(20,5),(21,6),(14,7)])
  (.r<| .it (.it (.a1 (Gv x r_)<| .rg {an:=[(7, .arr 0 (zG r_ x))]} [0, .t 0 x.index r_.locked.length, .pf ⟨aK r_.locked.length 1 (Lg r_ x) (zG r_ x),aJ _ _ _ _ _ _ _ _ rfl (fun j hj=>(match j,hj with|0,_=>rfl))⟩]<| .im (.ll 16 r_.locked (GL r_ x))<| .r<| .en (Kk r_ x) [] [(15,0),(16,1),(17,2),(18,3),(19,4),(20,5),(21,6),(14,7)])
  (.r<| .it (.it (.a1 (xM x r_)<| .rg {an:=[(7, .arr 0 (nA r_ x))]} [0, .t 0 x.index r_.on_.length, .pf ⟨aK r_.on_.length 1 (zR r_ x) (nA r_ x),aJ _ _ _ _ _ _ _ _ rfl (fun j hj=>(match j,hj with|0,_=>rfl))⟩]<| .im (.ll 18 r_.on_ (xX r_ x))<| .r<| .en (zD r_ x) [] [(15,0),(16,1),(17,2),(18,3),(19,4),(20,5),(21,6),(14,7)])
  (.r<| .en r_ [] [(15,0),(16,1),(17,2),(18,3),(19,4),(20,5),(21,6),(14,7)]))
  (.r<| .it (.a1 (xM x r_)<| .rg {an:=[(7, .arr 0 (nA r_ x))]} [0, .t 0 x.index r_.on_.length, .pf ⟨aK r_.on_.length 1 (zR r_ x) (nA r_ x),aJ _ _ _ _ _ _ _ _ rfl (fun j hj=>(match j,hj with|0,_=>rfl))⟩]<| .im (.ll 18 r_.on_ (xX r_ x))<| .r<| .en (zD r_ x) [] [(15,0),(16,1),(17,2),(18,3),(19,4),(20,5),(21,6),(14,7)])
  (.r<| .en r_ [] [(15,0),(16,1),(17,2),(18,3),(19,4),(20,5),(21,6),(14,7)]))))
  (.r<| .it (.a1 (Gv x r_)<| .rg {an:=[(7, .arr 0 (zG r_ x))]} [0, .t 0 x.index r_.locked.length, .pf ⟨aK r_.locked.length 1 (Lg r_ x) (zG r_ x),aJ _ _ _ _ _ _ _ _ rfl (fun j hj=>(match j,hj with|0,_=>rfl))⟩]<| .im (.ll 16 r_.locked (GL r_ x))<| .r<| .en (Kk r_ x) [] [(15,0),(16,1),(17,2),(18,3),(19,4),(20,5),(21,6),(14,7)])
  (.r<| .it (.it (.a1 (xM x r_)<| .rg {an:=[(7, .arr 0 (nA r_ x))]} [0, .t 0 x.index r_.on_.length, .pf ⟨aK r_.on_.length 1 (zR r_ x) (nA r_ x),aJ _ _ _ _ _ _ _ _ rfl (fun j hj=>(match j,hj with|0,_=>rfl))⟩]<| .im (.ll 18 r_.on_ (xX r_ x))<| .r<| .en (zD r_ x) [] [(15,0),(16,1),(17,2),(18,3),(19,4),(20,5),(21,6),(14,7)])
  (.r<| .en r_ [] [(15,0),(16,1),(17,2),(18,3),(19,4),(20,5),(21,6),(14,7)]))
  (.r<| .it (.a1 (xM x r_)<| .rg {an:=[(7, .arr 0 (nA r_ x))]} [0, .t 0 x.index r_.on_.length, .pf ⟨aK r_.on_.length 1 (zR r_ x) (nA r_ x),aJ _ _ _ _ _ _ _ _ rfl (fun j hj=>(match j,hj with|0,_=>rfl))⟩]<| .im (.ll 18 r_.on_ (xX r_ x))<| .r<| .en (zD r_ x) [] [(15,0),(16,1),(17,2),(18,3),(19,4),(20,5),(21,6),(14,7)])
  (.r<| .en r_ [] [(15,0),(16,1),(17,2),(18,3),(19,4),(20,5),(21,6),(14,7)]))))))))
  (.r<| .it (.a1 (SI x r_)<| .rg {an:=[(7, .arr 0 (Uu r_ x))]} [0, .t 0 x.index r_.closed.length, .pf ⟨aK r_.closed.length 1 (mU (aA ah r_.closed) x.index.toNat 0 [(.bool (decide (x.deed=2)))]) (Uu r_ x),aJ _ _ _ _ _ _ _ _ rfl (fun j hj=>(match j,hj with|0,_=>rfl))⟩]<| .im (.ll 15 r_.closed (RJ r_ x))<| .r<| .en (XU r_ x) [] [(15,0),(16,1),(17,2),(18,3),(19,4),(20,5),(21,6),(14,7)])
  (.r<| .it (.it (.a1 (Ph x r_)<| .rg {an:=[(7, .arr 0 (Kz r_ x))]} [0, .t 0 x.index r_.earthed.length, .pf ⟨aK r_.earthed.length 1 (Ul r_ x) (Kz r_ x),aJ _ _ _ _ _ _ _ _ rfl (fun j hj=>(match j,hj with|0,_=>rfl))⟩]<| .im (.ll 20 r_.earthed (Od r_ x))<| .r<| .en (Sl r_ x) [] [(15,0),(16,1),(17,2),(18,3),(19,4),(20,5),(21,6),(14,7)])
  (.r<| .it (.it (.a1 (Gv x r_)<| .rg {an:=[(7, .arr 0 (zG r_ x))]} [0, .t 0 x.index r_.locked.length, .pf ⟨aK r_.locked.length 1 (Lg r_ x) (zG r_ x),aJ _ _ _ _ _ _ _ _ rfl (fun j hj=>(match j,hj with|0,_=>rfl))⟩]<| .im (.ll 16 r_.locked (GL r_ x))<| .r<| .en (Kk r_ x) [] [(15,0),(16,1),(17,2),(18,3),(19,4),(20,5),(21,6),(14,7)])
  (.r<| .it (.it (.a1 (xM x r_)<| .rg {an:=[(7, .arr 0 (nA r_ x))]} [0, .t 0 x.index r_.on_.length, .pf ⟨aK r_.on_.length 1 (zR r_ x) (nA r_ x),aJ _ _ _ _ _ _ _ _ rfl (fun j hj=>(match j,hj with|0,_=>rfl))⟩]<| .im (.ll 18 r_.on_ (xX r_ x))<| .r<| .en (zD r_ x) [] [(15,0),(16,1),(17,2),(18,3),(19,4),(20,5),(21,6),(14,7)])
  (.r<| .en r_ [] [(15,0),(16,1),(17,2),(18,3),(19,4),(20,5),(21,6),(14,7)]))
  (.r<| .it (.a1 (xM x r_)<| .rg {an:=[(7, .arr 0 (nA r_ x))]} [0, .t 0 x.index r_.on_.length, .pf ⟨aK r_.on_.length 1 (zR r_ x) (nA r_ x),aJ _ _ _ _ _ _ _ _ rfl (fun j hj=>(match j,hj with|0,_=>rfl))⟩]<| .im (.ll 18 r_.on_ (xX r_ x))<| .r<| .en (zD r_ x) [] [(15,0),(16,1),(17,2),(18,3),(19,4),(20,5),(21,6),(14,7)])
  (.r<| .en r_ [] [(15,0),(16,1),(17,2),(18,3),(19,4),(20,5),(21,6),(14,7)]))))
  (.r<| .it (.a1 (Gv x r_)<| .rg {an:=[(7, .arr 0 (zG r_ x))]} [0, .t 0 x.index r_.locked.length, .pf ⟨aK r_.locked.length 1 (Lg r_ x) (zG r_ x),aJ _ _ _ _ _ _ _ _ rfl (fun j hj=>(match j,hj with|0,_=>rfl))⟩]<| .im (.ll 16 r_.locked (GL r_ x))<| .r<| .en (Kk r_ x) [] [(15,0),(16,1),(17,2),(18,3),(19,4),(20,5),(21,6),(14,7)])
  (.r<| .it (.it (.a1 (xM x r_)<| .rg {an:=[(7, .arr 0 (nA r_ x))]} [0, .t 0 x.index r_.on_.length, .pf ⟨aK r_.on_.length 1 (zR r_ x) (nA r_ x),aJ _ _ _ _ _ _ _ _ rfl (fun j hj=>(match j,hj with|0,_=>rfl))⟩]<| .im (.ll 18 r_.on_ (xX r_ x))<| .r<| .en (zD r_ x) [] [(15,0),(16,1),(17,2),(18,3),(19,4),(20,5),(21,6),(14,7)])
  (.r<| .en r_ [] [(15,0),(16,1),(17,2),(18,3),(19,4),(20,5),(21,6),(14,7)]))
  (.r<| .it (.a1 (xM x r_)<| .rg {an:=[(7, .arr 0 (nA r_ x))]} [0, .t 0 x.index r_.on_.length, .pf ⟨aK r_.on_.length 1 (zR r_ x) (nA r_ x),aJ _ _ _ _ _ _ _ _ rfl (fun j hj=>(match j,hj with|0,_=>rfl))⟩]<| .im (.ll 18 r_.on_ (xX r_ x))<| .r<| .en (zD r_ x) [] [(15,0),(16,1),(17,2),(18,3),(19,4),(20,5),(21,6),(14,7)])
  (.r<| .en r_ [] [(15,0),(16,1),(17,2),(18,3),(19,4),(20,5),(21,6),(14,7)]))))))
  (.r<| .it (.a1 (Ph x r_)<| .rg {an:=[(7, .arr 0 (Kz r_ x))]} [0, .t 0 x.index r_.earthed.length, .pf ⟨aK r_.earthed.length 1 (Ul r_ x) (Kz r_ x),aJ _ _ _ _ _ _ _ _ rfl (fun j hj=>(match j,hj with|0,_=>rfl))⟩]<| .im (.ll 20 r_.earthed (Od r_ x))<| .r<| .en (Sl r_ x) [] [(15,0),(16,1),(17,2),(18,3),(19,4),(20,5),(21,6),(14,7)])
  (.r<| .it (.it (.a1 (Gv x r_)<| .rg {an:=[(7, .arr 0 (zG r_ x))]} [0, .t 0 x.index r_.locked.length, .pf ⟨aK r_.locked.length 1 (Lg r_ x) (zG r_ x),aJ _ _ _ _ _ _ _ _ rfl (fun j hj=>(match j,hj with|0,_=>rfl))⟩]<| .im (.ll 16 r_.locked (GL r_ x))<| .r<| .en (Kk r_ x) [] [(15,0),(16,1),(17,2),(18,3),(19,4),(20,5),(21,6),(14,7)])
  (.r<| .it (.it (.a1 (xM x r_)<| .rg {an:=[(7, .arr 0 (nA r_ x))]} [0, .t 0 x.index r_.on_.length, .pf ⟨aK r_.on_.length 1 (zR r_ x) (nA r_ x),aJ _ _ _ _ _ _ _ _ rfl (fun j hj=>(match j,hj with|0,_=>rfl))⟩]<| .im (.ll 18 r_.on_ (xX r_ x))<| .r<| .en (zD r_ x) [] [(15,0),(16,1),(17,2),(18,3),(19,4),(20,5),(21,6),(14,7)])
  (.r<| .en r_ [] [(15,0),(16,1),(17,2),(18,3),(19,4),(20,5),(21,6),(14,7)]))
  (.r<| .it (.a1 (xM x r_)<| .rg {an:=[(7, .arr 0 (nA r_ x))]} [0, .t 0 x.index r_.on_.length, .pf ⟨aK r_.on_.length 1 (zR r_ x) (nA r_ x),aJ _ _ _ _ _ _ _ _ rfl (fun j hj=>(match j,hj with|0,_=>rfl))⟩]<| .im (.ll 18 r_.on_ (xX r_ x))<| .r<| .en (zD r_ x) [] [(15,0),(16,1),(17,2),(18,3),(19,4),(20,5),(21,6),(14,7)])
  (.r<| .en r_ [] [(15,0),(16,1),(17,2),(18,3),(19,4),(20,5),(21,6),(14,7)]))))
  (.r<| .it (.a1 (Gv x r_)<| .rg {an:=[(7, .arr 0 (zG r_ x))]} [0, .t 0 x.index r_.locked.length, .pf ⟨aK r_.locked.length 1 (Lg r_ x) (zG r_ x),aJ _ _ _ _ _ _ _ _ rfl (fun j hj=>(match j,hj with|0,_=>rfl))⟩]<| .im (.ll 16 r_.locked (GL r_ x))<| .r<| .en (Kk r_ x) [] [(15,0),(16,1),(17,2),(18,3),(19,4),(20,5),(21,6),(14,7)])
  (.r<| .it (.it (.a1 (xM x r_)<| .rg {an:=[(7, .arr 0 (nA r_ x))]} [0, .t 0 x.index r_.on_.length, .pf ⟨aK r_.on_.length 1 (zR r_ x) (nA r_ x),aJ _ _ _ _ _ _ _ _ rfl (fun j hj=>(match j,hj with|0,_=>rfl))⟩]<| .im (.ll 18 r_.on_ (xX r_ x))<| .r<| .en (zD r_ x) [] [(15,0),(16,1),(17,2),(18,3),(19,4),(20,5),(21,6),(14,7)])
  (.r<| .en r_ [] [(15,0),(16,1),(17,2),(18,3),(19,4),(20,5),(21,6),(14,7)]))
  (.r<| .it (.a1 (xM x r_)<| .rg {an:=[(7, .arr 0 (nA r_ x))]} [0, .t 0 x.index r_.on_.length, .pf ⟨aK r_.on_.length 1 (zR r_ x) (nA r_ x),aJ _ _ _ _ _ _ _ _ rfl (fun j hj=>(match j,hj with|0,_=>rfl))⟩]<| .im (.ll 18 r_.on_ (xX r_ x))<| .r<| .en (zD r_ x) [] [(15,0),(16,1),(17,2),(18,3),(19,4),(20,5),(21,6),(14,7)])
  (.r<| .en r_ [] [(15,0),(16,1),(17,2),(18,3),(19,4),(20,5),(21,6),(14,7)])))))))))
theorem F5 (s_:State) (l:(List af)):dH Tryz.prog 59 (Xl s_ l) [] (fun r=>(vB r)) (fun _=>[]) (om s_ l):=
  dO tT mX Tryz.func59 (
  .rg {fr:=[(0,1)],fz:=[1]} []<| .r<| .lp (σ:=Int) (β:=Unit) (0) [] [] ⟨[1,2],[],fun i=>[(5,(vI i))],fun i=>[]⟩ ⟨[],[],fun _=>[],fun _=>[]⟩
  (fun i=> .r<| .it (.cl 5 (vU s_ (at' l i.toNat)) fun r_=> .a1 (Ue l i)<| .rg {} [0,1]<| .it (.r<| .e (.done (.ret false)))
  (.r<| .e (.next (k18 i))))
  (.e (.done (.brk ()))))
  (fun _=> .r<| .e true))
section
variable (a:State) (b:State) (r_:Bool) (u0:Bool) (u1:Bool) (u2:Bool) (u3:Bool) (u4:Bool)
abbrev aaJ:List SV:=[(.agg (zI a)),(.agg (zI b))]
abbrev Xf:=(bif (k14 r_ u0 u1 u2 u3)then u4 else false)
end
theorem sZ (a:State) (b:State):dH Tryz.prog 27 (aaJ a b) [] (fun r=>(vB r)) (fun _=>[]) (gI a b):=
  dO tT mX Tryz.func27 (
  .rg {fr:=[(0,2),(1,3)],fz:=[2,3]} []<| .cl 4 (dG a.closed b.closed) fun r_=> .cg 10 [(r_,true)] (dG a.locked b.locked) fun u0=> .cg 17 [(k11 r_ u0)] (dG a.badLink b.badLink) fun u1=> .cg 24 [(k12 r_ u0 u1)] (dG a.on_ b.on_) fun u2=> .cg 31 [((k13 r_ u0 u1 u2),true)] (dG a.badSource b.badSource) fun u3=> .cg 38 [((k14 r_ u0 u1 u2 u3),true)] (dG a.earthed b.earthed) fun u4=> .cg 45 [((Xf r_ u0 u1 u2 u3 u4),true)] (dG a.badBus b.badBus) fun u5=> .r<| .e (bif (Xf r_ u0 u1 u2 u3 u4)then u5 else false))
theorem wC (l:(List State)) (s_:State):dH Tryz.prog 60 [(sD (aZ none 7 State.cell l)),(.agg (zI s_))] [] (fun r=>(vI r)) (fun _=>[]) (kK l s_):=
  dO tT mX Tryz.func60 (
  .rg {fr:=[(0,1)],fz:=[1]} []<| .r<| .lp (σ:=Int) (β:=Unit) (0) [] [] ⟨[0,3],[],fun i=>[(5,(vI i))],fun i=>[]⟩ ⟨[],[],fun _=>[],fun _=>[]⟩
  (fun i=> .r<| .it (.cl 5 (sZ (at' l i.toNat) s_) fun r_=> .a1 (J7 l i)<| .rg {} [0,1]<| .it (.r<| .e (.done (.ret i)))
  (.r<| .e (.next (k18 i))))
  (.e (.done (.brk ()))))
  (fun _=> .r<| .e (-1)))
section
variable (x:af)
abbrev Vw:=((Tf x),true)
end
theorem Df (p:au) (s_:State) (x:af):dH Tryz.prog 26 (JA p s_ x) [] (fun r=>(.iL [(.agg [(.own 0 false r.1.closed.length),(.own 1 false r.1.locked.length),(.own 2 false r.1.badLink.length),(.own 3 false r.1.on_.length),(.own 4 false r.1.badSource.length),(.own 5 false r.1.earthed.length),(.own 6 false r.1.badBus.length)]),(sI r.2)])) (fun r=>[(0,some (bD 4 1 ah r.1.closed)),(1,some (bD 4 1 ah r.1.locked)),(2,some (bD 4 1 ah r.1.badLink)),(3,some (bD 4 1 ah r.1.on_)),(4,some (bD 4 1 ah r.1.badSource)),(5,some (bD 4 1 ah r.1.earthed)),(6,some (bD 4 1 ah r.1.badBus)),(7,none)]) (jw p s_ x):=
  dO tT mX Tryz.func26 (
  .rg {fr:=[(0,12),(1,13),(2,14),(3,15)],fz:=[12,13,14]} []<| .cl 2 (iE p s_) fun r_=> .r<| .r<| .it (.r<| .im (.iM 15 0 16 4 1 (aA ah ([]:List Bool)))<| .im (.iM 15 1 17 4 1 (aA ah ([]:List Bool)))<| .im (.iM 15 2 18 4 1 (aA ah ([]:List Bool)))<| .im (.iM 15 3 19 4 1 (aA ah ([]:List Bool)))<| .im (.iM 15 4 20 4 1 (aA ah ([]:List Bool)))<| .im (.iM 15 5 21 4 1 (aA ah ([]:List Bool)))<| .im (.iM 15 6 22 4 1 (aA ah ([]:List Bool)))<| .en (SE r_) [] [(16,0),(17,1),(18,2),(19,3),(20,4),(21,5),(22,6),(15,7)])
  (.r<| .jN (β:=Int) 2 ⟨[4,5,6],[15],fun e_=>[(8,(vI e_))],fun e_=>[]⟩ (.cl 2 (uK p x) fun u1=> .r<| .it (.r<| .e 1)
  (.cl 2 (vU s_ x) fun u2=> .r<| .it (.r<| .e 46)
  (.a2 ((gB [(Vw x)]=true→(0:Int)≤x.index∧x.index<(s_.badLink.length:Int))) ((gB [((decide (7≤x.deed)),true),((bif (Tf x)then(at' s_.badLink x.index.toNat)else false),false)]=true→(0:Int)≤x.index∧x.index<(s_.badSource.length:Int)))<| .rg {} [0,1]<| .it (.r<| .e 47)
  (.a1 ((gB [(Vw x)]=true→(0:Int)≤x.index∧x.index<(s_.locked.length:Int)))<| .r<| .it (.r<| .e 43)
  (.cg 16 [((bif (Tf x)then(decide (((at' p.links x.index.toNat).kind)=2))else false),true)] (Fu p s_ x.index) fun u3=> .a1 ((gB [(Vw x)]=true→(0:Int)≤x.index∧x.index<(p.links.length:Int)))<| .rg {} [0,1]<| .it (.r<| .e 44)
  (.e r_))))))
  (fun e_=> .r<| .it (.r<| .im (.iM 15 0 23 4 1 (aA ah ([]:List Bool)))<| .im (.iM 15 1 24 4 1 (aA ah ([]:List Bool)))<| .im (.iM 15 2 25 4 1 (aA ah ([]:List Bool)))<| .im (.iM 15 3 26 4 1 (aA ah ([]:List Bool)))<| .im (.iM 15 4 27 4 1 (aA ah ([]:List Bool)))<| .im (.iM 15 5 28 4 1 (aA ah ([]:List Bool)))<| .im (.iM 15 6 29 4 1 (aA ah ([]:List Bool)))<| .en (SE e_) [] [(23,0),(24,1),(25,2),(26,3),(27,4),(28,5),(29,6),(15,7)])
  (.cl 2 (dF [(0,30),(1,31),(2,32),(3,33),(4,34),(5,35),(6,36),(7,37)] (zC s_ x)) fun u0=> .r<| .en (u0,0) [] [(30,0),(31,1),(32,2),(33,3),(34,4),(35,5),(36,6),(15,7)]))))
section
variable (s_:State) (l:(List State)) (u3:(List (List af))) (u1:(List af)) (t:Task) (kz:Int)
abbrev ZF:=(uS 7 [(aZ none 1 ah s_.closed),(Uz s_),(Ux s_),(UD s_),(UA s_),(UU s_),(UZ s_)])
end
theorem zK (a:(List State)) (b:(List State)):dH Tryz.prog 17 [(sD (aZ none 7 State.cell a)),(sD (aZ none 7 State.cell b))] [] (fun r=>(vB r)) (fun _=>[]) (mG a b):=
  dO tT mX Tryz.func17 (
  .r<| .r<| .it (.r<| .e false)
  (.r<| .lp (σ:=Int) (β:=Unit) (0) [] [] ⟨[0,1],[],fun i=>[(5,(vI i))],fun i=>[]⟩ ⟨[],[],fun _=>[],fun _=>[]⟩
  (fun i=> .r<| .it (.cl 8 (sZ (at' a i.toNat) (at' b i.toNat)) fun r_=> .a2 (J7 a i) (J7 b i)<| .rg {} [0,1,2]<| .it (.r<| .e (.done (.ret false)))
  (.r<| .e (.next (k18 i))))
  (.e (.done (.brk ()))))
  (fun _=> .r<| .e true)))
theorem BB (p:au) (s_:State) (t:Task) (l:(List State)):dH Tryz.prog 19 (VJ p s_ t l) [] (fun r=>(vI r)) (fun _=>[]) (lX p s_ t l):=
  dO tT mX Tryz.func19 (
  .rg {fr:=[(0,147),(1,148),(2,149)],fz:=[147,148,149]} []<| .cl 3 (pM p s_ t) fun r_=> .r<| .r<| .it (.r<| .e r_)
  (.r<| .it (.r<| .e 2)
  (.r<| .lp (σ:=Int) (β:=Unit) (0) [] [] ⟨[3,4,5,6],[],fun i=>[(10,(vI i))],fun i=>[]⟩ ⟨[3,4,5,6],[],fun _=>[],fun _=>[]⟩
  (fun i=> .r<| .it (.cl 6 (pM p (at' l i.toNat) t) fun u1=> .cg 15 [((!decide (u1=0)),false)] (F5 (at' l i.toNat) t.goal) fun u3=> .a2 (J7 l i) ((gB [((!decide (u1=0)),false)]=true→(0:Int)≤i∧i<(l.length:Int)))<| .rg {} [0,3,1,2]<| .it (.r<| .e (.done (.ret 7)))
  (.r<| .e (.next (k18 i))))
  (.e (.done (.brk ()))))
  (fun _=> .cl 2 (wC l s_) fun u4=> .r<| .it (.r<| .e 7)
  (.r<| .lp (σ:=Int) (β:=Unit) (0) [] [] ⟨[3,4,6],[],fun i1=>[(11,(vI i1))],fun i1=>[]⟩ ⟨[],[],fun _=>[],fun _=>[]⟩
  (fun i1=> .r<| .it (.r<| .lp (σ:=Int) (β:=Unit) (0) [] [] ⟨[3,4,6,11],[],fun kz=>[(12,(vI kz))],fun kz=>[]⟩ ⟨[3,4,6,11],[],fun _=>[],fun _=>[]⟩
  (fun kz=> .r<| .it (.cl 10 (dF [(0,285),(1,286),(2,287),(3,288),(4,289),(5,290),(6,291),(7,292)] (Df p (at' l i1.toNat) (Kg t kz))) fun u0=> .a2 (J7 l i1) (TK t kz)<| .rg {fr:=[(14,293)],fz:=[285,286,287,288,289,290,291]} [0,1,2]<| .fz [293]<| .cg 6 [((decide (u0.2=0)),true)] (pM p u0.1 t) fun u2=> .cg 12 [((bif (decide (u0.2=0))then(decide (u2=0))else false),true)] (wC l u0.1) fun u5=> .r<| .it (.r<| .e (.done (.ret (.done (.ret 7)))))
  (.r<| .e (.next (k18 kz))))
  (.e (.done (.brk ()))))
  (fun _=> .r<| .e (.next (k18 i1))))
  (.e (.done (.brk ()))))
  (fun _=> .r<| .e 0))))))
theorem zS (l:(List State)):dH Tryz.prog 20 [(sD (aZ none 7 State.cell l))] [] (fun r=>(vD (aZ none 7 State.cell r))) (fun _=>[]) (mr l):=
  dO tT mX Tryz.func20 (
  .r<| .r<| .r<| .im (.ad 3 16 29 7 (aA State.cell ([]:List State)))<| .lp (σ:=((List State) × Int)) (β:=(List State)) (([]:List State),0) [] [(16,9)] ⟨[0],[],fun(u0,i)=>[(3,(vO 9 false u0.length)),(4,(vI i))],fun(u0,i)=>[(9,some (C9 u0))]⟩ ⟨[],[],fun u1=>[(3,(vO 9 false u1.length))],fun u1=>[(9,some (C9 u1))]⟩
  (fun(u0,i)=> .r<| .it (.cl 5 (A9 (at' l i.toNat)) fun r_=> .a3 (J7 l i) ((u0.length+[r_].length)*168≤140737488355328) (u0.length+[r_].length≤4611686018427387904)<| .rg {an:=[(6, .arr [r_].length (aA State.cell [r_])),(7, .arr (u0++[r_]).length (aA State.cell (u0++[r_])))],fr:=[(6,14),(7,15)]} [0,3, .pf ⟨[r_].length=1,rfl⟩, .pf ⟨aK 1 7 (ZF r_) (aA State.cell [r_]),(by intro i hi j hj;match i,j,hi,hj with|0,0,_,_=>rfl|0,1,_,_=>rfl|0,2,_,_=>rfl|0,3,_,_=>rfl|0,4,_,_=>rfl|0,5,_,_=>rfl|0,6,_,_=>rfl)⟩, .e (u0.length),1,2, .pf ⟨(u0++[r_]).length=u0.length+[r_].length,List.length_append⟩, .pf ⟨aK (u0.length+[r_].length) 7 (yO (aA State.cell u0) u0.length (aA State.cell [r_])) (aA State.cell (u0++[r_])),iO _ _ _ _⟩]<| .r<| .en (.next ((u0++[r_]),(k18 i))) [] [(15,9)])
  (.e (.done (.brk u0))))
  (fun u1=> .rg {fz:=[9]} []<| .e u1))
theorem Cw (t:Task):dH Tryz.prog 14 (aay t) [] (fun r=>(.v (.agg [(.own 0 false r.fed.length),(.own 1 false r.crew.length),(.own 2 false r.allowed.length),(.own 3 false r.goal.length)]))) (fun r=>[(0,some (bD 3 1 (bO .i64) r.fed)),(1,some (bD 3 1 (bO .i64) r.crew)),(2,some (bD 61 2 af.cell r.allowed)),(3,some (bD 61 2 af.cell r.goal)),(4,none)]) (uH t):=
  dO tT mX Tryz.func14 (
  .rg {fr:=[(0,6),(1,7)],fz:=[6]} []<| .cl 2 (dF [(0,8)] (qH t.fed)) fun r_=> .cl 5 (dF [(0,9)] (qH t.crew)) fun u0=> .cl 8 (dF [(0,10)] (pI t.allowed)) fun u1=> .cl 11 (dF [(0,11)] (pI t.goal)) fun u2=> .r<| .en (⟨r_,u0,u1,u2⟩:Task) [] [(8,0),(9,1),(10,2),(11,3),(7,4)])
theorem wT (p:au) (s_:State) (t:Task) (l:(List State)):dH Tryz.prog 4 (VJ p s_ t l) [] (fun r=>(vB r)) (fun _=>[]) (jC p s_ t l):=
  dO tT mX Tryz.func4 (
  .rg {fr:=[(0,9),(1,10),(2,11)],fz:=[9,10,11]} []<| .cl 2 (EC p t) fun r_=> .r<| .it (.cl 0 vH fun u4=> .r<| .e u4)
  (.cl 1 (dF [(0,12),(1,13),(2,14),(3,15),(4,16)] (Cw t)) fun u5=> .cl 3 (zS l) fun u2=> .rg {fr:=[(4,17)],fz:=[12,13,14,15]} []<| .fz [17]<| .cl 4 (uL p s_ u5 u2) fun u0=> .cl 9 (BB p s_ t l) fun u1=> .cg 14 [((decide (u0=u1)),true)] (zK u2 l) fun u3=> .cg 17 [((bif (decide (u0=u1))then u3 else false),true)] vH fun u6=> .r<| .e (bif (bif (decide (u0=u1))then u3 else false)then u6 else false)))
section
variable (n2:Int) (kz:Int)
end
section
variable (s_:State) (p:au)
end
section
variable (u0:State) (t9:Int) (u1:(List Link))
end
end
end Sg
